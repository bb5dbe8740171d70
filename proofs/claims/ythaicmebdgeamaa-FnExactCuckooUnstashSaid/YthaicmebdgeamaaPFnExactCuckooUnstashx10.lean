-- made by wip/tools/myprint.py over the kit's print, for this claim
import Derived.Test.YthaicmebdgeamaaPFnExactCuckooUnstashx0
import Derived.Test.YthaicmebdgeamaaPFnExactCuckooUnstashx1
import Derived.Test.YthaicmebdgeamaaPFnExactCuckooUnstashx4
import Derived.Test.YthaicmebdgeamaaPFnExactCuckooUnstashx7
import Derived.Test.YthaicmebdgeamaaPFnExactCuckooUnstashx8
import Derived.Test.YthaicmebdgeamaaPFnExactCuckooUnstashx9
namespace Go.Proofs.Ythaicmebdgeamaa.PFnExactCuckooUnstash
open Go.RowKit Go.Proofs.YthaicmebdgeamaaW.PrintWords Go.Proofs.YthaicmebdgeamaaW.PrintLast Go.Proofs.YthaicmebdgeamaaW.PrintMore
attribute [local go_sem] max2_int min2_int max_two min_two max_three min_three max_four min_four   -- for this text's walks alone
set_option linter.unusedVariables false
set_option linter.unusedSimpArgs false

/-! ### laws_FnExactCuckooUnstash: function 3 -/
mutual
def laws_FnExactCuckooUnstash.j0 : Nat → Bool → Bool → Bool → Int → List ByteArray → List ByteArray → Int → List ByteArray → List ByteArray → Int → List ByteArray → List ByteArray → Int → List ByteArray → List ByteArray → Option (Bool)
 | 0, _, _, _, _, _, _, _, _, _, _, _, _, _, _, _ => none
 | k + 1, x5, x8, x40, x288000, x288001, x288002, x305000, x305001, x305002, x313000, x313001, x313002, x322000, x322001, x322002 => if x40 = true then (some false) else ((laws_toCuckoo.f k x288000 x288001 x288002).bind fun bt323 => ((laws_eqCuckoo.f k x313000 x313001 x313002 bt323.1 bt323.2.1 bt323.2.2).bind fun t330 => (if t330 = true then ((laws_markCuckoo.f k x313000 x313001 x313002 1).bind fun bt331 => (if bt331.1 < 0 then (laws_FnExactCuckooUnstash.j1 k x5 true x288000 x288001 x288002 x305000 x305001 x305002 x322000 x322001 x322002) else ((laws_eqCuckoo.f k x322000 x322001 x322002 x305000 x305001 x305002).bind fun t334 => (if t334 = true then (laws_FnExactCuckooUnstash.j1 k x5 (x8 != x5) x288000 x288001 x288002 x305000 x305001 x305002 x322000 x322001 x322002) else (laws_FnExactCuckooUnstash.j1 k x5 true x288000 x288001 x288002 x305000 x305001 x305002 x322000 x322001 x322002))))) else (some false))))
def laws_FnExactCuckooUnstash.j1 : Nat → Bool → Bool → Int → List ByteArray → List ByteArray → Int → List ByteArray → List ByteArray → Int → List ByteArray → List ByteArray → Option (Bool)
 | 0, _, _, _, _, _, _, _, _, _, _, _ => none
 | k + 1, x5, x61, x288000, x288001, x288002, x305000, x305001, x305002, x322000, x322001, x322002 => if x61 = true then (some false) else ((laws_markCuckoo.f k x322000 x322001 x322002 1).bind fun bt335 => ((laws_heldCuckoo.f k x322000 bt335.2.1 bt335.2.2 1).bind fun t338 => (if t338 < 0 then (some false) else (if t338 = bt335.1 then ((laws_toCuckoo.f k x288000 x288001 x288002).bind fun bt339 => ((impl_CuckooUnstash.f k bt339.1 bt339.2.1 bt339.2.2).bind fun bt346 => ((laws_eqCuckoo.f k bt346.1 bt346.2.1 bt346.2.2.1 x305000 x305001 x305002).bind fun t355 => (if t355 = true then (laws_FnExactCuckooUnstash.j2 k bt335.1 (bt346.2.2.2 != x5) x322000 bt335.2.1 bt335.2.2) else (laws_FnExactCuckooUnstash.j2 k bt335.1 true x322000 bt335.2.1 bt335.2.2))))) else (some false)))))
def laws_FnExactCuckooUnstash.j2 : Nat → Int → Bool → Int → List ByteArray → List ByteArray → Option (Bool)
 | 0, _, _, _, _, _ => none
 | k + 1, x10, x87, x322000, x322001, x322002 => if x87 = true then (some false) else ((laws_heldCuckoo.f k x322000 x322001 x322002 1).bind fun t356 => (if t356 < 0 then (some false) else (if t356 = x10 then (some true) else (some false))))
end
def laws_FnExactCuckooUnstash.f (k : Nat) (a0_0 : Int) (l0_1 : List ByteArray) (l0_2 : List ByteArray) : Option (Bool) := (laws_szCuckoo.f k a0_0 l0_1 l0_2 1048576).bind fun t288 => (if t288 < 0 then (some true) else ((laws_toCuckoo.f k a0_0 l0_1 l0_2).bind fun bt289 => ((spec_CuckooUnstash.f k bt289.1 bt289.2.1 bt289.2.2).bind fun bt296 => ((laws_toCuckoo.f k a0_0 l0_1 l0_2).bind fun bt305 => ((impl_CuckooUnstash.f k bt305.1 bt305.2.1 bt305.2.2).bind fun bt313 => ((laws_eqCuckoo.f k bt313.1 bt313.2.1 bt313.2.2.1 bt296.1 bt296.2.1 bt296.2.2.1).bind fun t322 => (if t322 = true then (laws_FnExactCuckooUnstash.j0 k bt296.2.2.2 bt313.2.2.2 (bt313.2.2.2 != bt296.2.2.2) a0_0 l0_1 l0_2 bt296.1 bt296.2.1 bt296.2.2.1 bt305.1 bt305.2.1 bt305.2.2 bt313.1 bt313.2.1 bt313.2.2.1) else (laws_FnExactCuckooUnstash.j0 k bt296.2.2.2 bt313.2.2.2 true a0_0 l0_1 l0_2 bt296.1 bt296.2.1 bt296.2.2.1 bt305.1 bt305.2.1 bt305.2.2 bt313.1 bt313.2.1 bt313.2.2.1))))))))
theorem laws_FnExactCuckooUnstash.mono_l : ∀ k, (∀ y0 y1 y2 y3 y4 y5 y6 y7 y8 y9 y10 y11 y12 y13 y14, LeO (laws_FnExactCuckooUnstash.j0 k y0 y1 y2 y3 y4 y5 y6 y7 y8 y9 y10 y11 y12 y13 y14) (laws_FnExactCuckooUnstash.j0 (k + 1) y0 y1 y2 y3 y4 y5 y6 y7 y8 y9 y10 y11 y12 y13 y14)) ∧ (∀ y0 y1 y2 y3 y4 y5 y6 y7 y8 y9 y10, LeO (laws_FnExactCuckooUnstash.j1 k y0 y1 y2 y3 y4 y5 y6 y7 y8 y9 y10) (laws_FnExactCuckooUnstash.j1 (k + 1) y0 y1 y2 y3 y4 y5 y6 y7 y8 y9 y10)) ∧ (∀ y0 y1 y2 y3 y4, LeO (laws_FnExactCuckooUnstash.j2 k y0 y1 y2 y3 y4) (laws_FnExactCuckooUnstash.j2 (k + 1) y0 y1 y2 y3 y4))
 | 0 => ⟨fun _ _ _ _ _ _ _ _ _ _ _ _ _ _ _ r h => by simp [laws_FnExactCuckooUnstash.j0] at h, fun _ _ _ _ _ _ _ _ _ _ _ r h => by simp [laws_FnExactCuckooUnstash.j1] at h, fun _ _ _ _ _ r h => by simp [laws_FnExactCuckooUnstash.j2] at h⟩
 | k + 1 => by
  obtain ⟨ih0, ih1, ih2⟩ := laws_FnExactCuckooUnstash.mono_l k
  refine ⟨?_, ?_, ?_⟩
  ·
   intro y0 y1 y2 y3 y4 y5 y6 y7 y8 y9 y10 y11 y12 y13 y14
   unfold laws_FnExactCuckooUnstash.j0
   repeat' first
   | (with_reducible exact ih0 _ _ _ _ _ _ _ _ _ _ _ _ _ _ _)
   | (with_reducible exact ih1 _ _ _ _ _ _ _ _ _ _ _)
   | (with_reducible exact ih2 _ _ _ _ _)
   | (with_reducible exact impl_CuckooUnstash.mono _ _ _ _)
   | (with_reducible exact laws_eqCuckoo.mono _ _ _ _ _ _ _)
   | (with_reducible exact laws_heldCuckoo.mono _ _ _ _ _)
   | (with_reducible exact laws_markCuckoo.mono _ _ _ _ _)
   | (with_reducible exact laws_szCuckoo.mono _ _ _ _ _)
   | (with_reducible exact laws_toCuckoo.mono _ _ _ _)
   | (with_reducible exact spec_CuckooUnstash.mono _ _ _ _)
   | (with_reducible exact LeO.refl _)
   | (with_reducible exact LeO.none _)
   | (with_reducible refine LeO.ite ?_ ?_)
   | (with_reducible refine LeO.bind ?_ (fun _ => ?_))
   | exact ih0 _ _ _ _ _ _ _ _ _ _ _ _ _ _ _
   | exact ih1 _ _ _ _ _ _ _ _ _ _ _
   | exact ih2 _ _ _ _ _
   | exact impl_CuckooUnstash.mono _ _ _ _
   | exact laws_eqCuckoo.mono _ _ _ _ _ _ _
   | exact laws_heldCuckoo.mono _ _ _ _ _
   | exact laws_markCuckoo.mono _ _ _ _ _
   | exact laws_szCuckoo.mono _ _ _ _ _
   | exact laws_toCuckoo.mono _ _ _ _
   | exact spec_CuckooUnstash.mono _ _ _ _
   | exact LeO.none _
   | refine LeO.ite ?_ ?_
   | refine LeO.bind ?_ (fun _ => ?_)
  ·
   intro y0 y1 y2 y3 y4 y5 y6 y7 y8 y9 y10
   unfold laws_FnExactCuckooUnstash.j1
   repeat' first
   | (with_reducible exact ih0 _ _ _ _ _ _ _ _ _ _ _ _ _ _ _)
   | (with_reducible exact ih1 _ _ _ _ _ _ _ _ _ _ _)
   | (with_reducible exact ih2 _ _ _ _ _)
   | (with_reducible exact impl_CuckooUnstash.mono _ _ _ _)
   | (with_reducible exact laws_eqCuckoo.mono _ _ _ _ _ _ _)
   | (with_reducible exact laws_heldCuckoo.mono _ _ _ _ _)
   | (with_reducible exact laws_markCuckoo.mono _ _ _ _ _)
   | (with_reducible exact laws_szCuckoo.mono _ _ _ _ _)
   | (with_reducible exact laws_toCuckoo.mono _ _ _ _)
   | (with_reducible exact spec_CuckooUnstash.mono _ _ _ _)
   | (with_reducible exact LeO.refl _)
   | (with_reducible exact LeO.none _)
   | (with_reducible refine LeO.ite ?_ ?_)
   | (with_reducible refine LeO.bind ?_ (fun _ => ?_))
   | exact ih0 _ _ _ _ _ _ _ _ _ _ _ _ _ _ _
   | exact ih1 _ _ _ _ _ _ _ _ _ _ _
   | exact ih2 _ _ _ _ _
   | exact impl_CuckooUnstash.mono _ _ _ _
   | exact laws_eqCuckoo.mono _ _ _ _ _ _ _
   | exact laws_heldCuckoo.mono _ _ _ _ _
   | exact laws_markCuckoo.mono _ _ _ _ _
   | exact laws_szCuckoo.mono _ _ _ _ _
   | exact laws_toCuckoo.mono _ _ _ _
   | exact spec_CuckooUnstash.mono _ _ _ _
   | exact LeO.none _
   | refine LeO.ite ?_ ?_
   | refine LeO.bind ?_ (fun _ => ?_)
  ·
   intro y0 y1 y2 y3 y4
   unfold laws_FnExactCuckooUnstash.j2
   repeat' first
   | (with_reducible exact ih0 _ _ _ _ _ _ _ _ _ _ _ _ _ _ _)
   | (with_reducible exact ih1 _ _ _ _ _ _ _ _ _ _ _)
   | (with_reducible exact ih2 _ _ _ _ _)
   | (with_reducible exact impl_CuckooUnstash.mono _ _ _ _)
   | (with_reducible exact laws_eqCuckoo.mono _ _ _ _ _ _ _)
   | (with_reducible exact laws_heldCuckoo.mono _ _ _ _ _)
   | (with_reducible exact laws_markCuckoo.mono _ _ _ _ _)
   | (with_reducible exact laws_szCuckoo.mono _ _ _ _ _)
   | (with_reducible exact laws_toCuckoo.mono _ _ _ _)
   | (with_reducible exact spec_CuckooUnstash.mono _ _ _ _)
   | (with_reducible exact LeO.refl _)
   | (with_reducible exact LeO.none _)
   | (with_reducible refine LeO.ite ?_ ?_)
   | (with_reducible refine LeO.bind ?_ (fun _ => ?_))
   | exact ih0 _ _ _ _ _ _ _ _ _ _ _ _ _ _ _
   | exact ih1 _ _ _ _ _ _ _ _ _ _ _
   | exact ih2 _ _ _ _ _
   | exact impl_CuckooUnstash.mono _ _ _ _
   | exact laws_eqCuckoo.mono _ _ _ _ _ _ _
   | exact laws_heldCuckoo.mono _ _ _ _ _
   | exact laws_markCuckoo.mono _ _ _ _ _
   | exact laws_szCuckoo.mono _ _ _ _ _
   | exact laws_toCuckoo.mono _ _ _ _
   | exact spec_CuckooUnstash.mono _ _ _ _
   | exact LeO.none _
   | refine LeO.ite ?_ ?_
   | refine LeO.bind ?_ (fun _ => ?_)
theorem laws_FnExactCuckooUnstash.mono : ∀ a0 a1 a2 k, LeO (laws_FnExactCuckooUnstash.f k a0 a1 a2) (laws_FnExactCuckooUnstash.f (k + 1) a0 a1 a2) := by
 intro a0 a1 a2 k
 obtain ⟨ih0, ih1, ih2⟩ := laws_FnExactCuckooUnstash.mono_l k
 unfold laws_FnExactCuckooUnstash.f
 repeat' first
   | (with_reducible exact ih0 _ _ _ _ _ _ _ _ _ _ _ _ _ _ _)
   | (with_reducible exact ih1 _ _ _ _ _ _ _ _ _ _ _)
   | (with_reducible exact ih2 _ _ _ _ _)
   | (with_reducible exact impl_CuckooUnstash.mono _ _ _ _)
   | (with_reducible exact laws_eqCuckoo.mono _ _ _ _ _ _ _)
   | (with_reducible exact laws_heldCuckoo.mono _ _ _ _ _)
   | (with_reducible exact laws_markCuckoo.mono _ _ _ _ _)
   | (with_reducible exact laws_szCuckoo.mono _ _ _ _ _)
   | (with_reducible exact laws_toCuckoo.mono _ _ _ _)
   | (with_reducible exact spec_CuckooUnstash.mono _ _ _ _)
   | (with_reducible exact LeO.refl _)
   | (with_reducible exact LeO.none _)
   | (with_reducible refine LeO.ite ?_ ?_)
   | (with_reducible refine LeO.bind ?_ (fun _ => ?_))
   | exact ih0 _ _ _ _ _ _ _ _ _ _ _ _ _ _ _
   | exact ih1 _ _ _ _ _ _ _ _ _ _ _
   | exact ih2 _ _ _ _ _
   | exact impl_CuckooUnstash.mono _ _ _ _
   | exact laws_eqCuckoo.mono _ _ _ _ _ _ _
   | exact laws_heldCuckoo.mono _ _ _ _ _
   | exact laws_markCuckoo.mono _ _ _ _ _
   | exact laws_szCuckoo.mono _ _ _ _ _
   | exact laws_toCuckoo.mono _ _ _ _
   | exact spec_CuckooUnstash.mono _ _ _ _
   | exact LeO.none _
   | refine LeO.ite ?_ ?_
   | refine LeO.bind ?_ (fun _ => ?_)
set_option maxHeartbeats 8000000 in
set_option maxRecDepth 100000 in
theorem laws_FnExactCuckooUnstash.calls (k : Nat) (a0_0 : Int) (A0_1 : Option Addr) (c0_1 : Nat) (l0_1 : List ByteArray) (A0_2 : Option Addr) (c0_2 : Nat) (l0_2 : List ByteArray) (r : Bool) (w : World) (hr0_1 : Kd.C Kd.string w A0_1 l0_1.length l0_1) (hc0_1 : l0_1.length ≤ c0_1) (hr0_2 : Kd.C Kd.string w A0_2 l0_2.length l0_2) (hc0_2 : l0_2.length ≤ c0_2) (h : laws_FnExactCuckooUnstash.f k a0_0 l0_1 l0_2 = some r) :
  Calls Try.prog 3 #[.agg #[.int .i64 a0_0, .slice A0_1 l0_1.length c0_1, .slice A0_2 l0_2.length c0_2]] w fun e w' => e = .returned (.bool r) ∧ Below w.heap.size w w' := by
 have hu24 := Try.underlying24
 have hu26 := Try.underlying26
 have HR0_1 := Aside0.mk hr0_1
 have HC0_1 := Aside0.mk hc0_1
 clear hr0_1 hc0_1
 have HR0_2 := Aside0.mk hr0_2
 have HC0_2 := Aside0.mk hc0_2
 clear hr0_2 hc0_2
 have HB := Aside0.mk (Below.refl w.heap.size w)
 have H : ((laws_szCuckoo.f k a0_0 l0_1 l0_2 1048576).bind fun t288 => (if t288 < 0 then (some true) else ((laws_toCuckoo.f k a0_0 l0_1 l0_2).bind fun bt289 => ((spec_CuckooUnstash.f k bt289.1 bt289.2.1 bt289.2.2).bind fun bt296 => ((laws_toCuckoo.f k a0_0 l0_1 l0_2).bind fun bt305 => ((impl_CuckooUnstash.f k bt305.1 bt305.2.1 bt305.2.2).bind fun bt313 => ((laws_eqCuckoo.f k bt313.1 bt313.2.1 bt313.2.2.1 bt296.1 bt296.2.1 bt296.2.2.1).bind fun t322 => (if t322 = true then (laws_FnExactCuckooUnstash.j0 k bt296.2.2.2 bt313.2.2.2 (bt313.2.2.2 != bt296.2.2.2) a0_0 l0_1 l0_2 bt296.1 bt296.2.1 bt296.2.2.1 bt305.1 bt305.2.1 bt305.2.2 bt313.1 bt313.2.1 bt313.2.2.1) else (laws_FnExactCuckooUnstash.j0 k bt296.2.2.2 bt313.2.2.2 true a0_0 l0_1 l0_2 bt296.1 bt296.2.1 bt296.2.2.1 bt305.1 bt305.2.1 bt305.2.2 bt313.1 bt313.2.1 bt313.2.2.1))))))))) = some r := h
 clear h
 replace H := Option.bind_eq_some_iff.mp H
 obtain ⟨t288, A20, H⟩ := H
 replace H : (if t288 < 0 then (some true) else ((laws_toCuckoo.f k a0_0 l0_1 l0_2).bind fun bt289 => ((spec_CuckooUnstash.f k bt289.1 bt289.2.1 bt289.2.2).bind fun bt296 => ((laws_toCuckoo.f k a0_0 l0_1 l0_2).bind fun bt305 => ((impl_CuckooUnstash.f k bt305.1 bt305.2.1 bt305.2.2).bind fun bt313 => ((laws_eqCuckoo.f k bt313.1 bt313.2.1 bt313.2.2.1 bt296.1 bt296.2.1 bt296.2.2.1).bind fun t322 => (if t322 = true then (laws_FnExactCuckooUnstash.j0 k bt296.2.2.2 bt313.2.2.2 (bt313.2.2.2 != bt296.2.2.2) a0_0 l0_1 l0_2 bt296.1 bt296.2.1 bt296.2.2.1 bt305.1 bt305.2.1 bt305.2.2 bt313.1 bt313.2.1 bt313.2.2.1) else (laws_FnExactCuckooUnstash.j0 k bt296.2.2.2 bt313.2.2.2 true a0_0 l0_1 l0_2 bt296.1 bt296.2.1 bt296.2.2.1 bt305.1 bt305.2.1 bt305.2.2 bt313.1 bt313.2.1 bt313.2.2.1)))))))) = some r := H
 have A2 := Aside0.mk A20
 clear A20
 by_cases c3 : t288 < 0
 ·
  rw [if_pos c3] at H
  have c3b0 : decide (t288 < 0) = true := decide_eq_true c3
  clear c3
  obtain rfl := Option.some.inj H
  go_enter Try.func3, Try.ntmps3
  go_wp2_with (first | ((with_reducible refine gate_dst (N := 1) rfl ?_); refine box_event ?hg (N := 1) ?hd (cs := #[.int .i64 a0_0, .slice A0_1 l0_1.length c0_1, .slice A0_2 l0_2.length c0_2]) (t := 24) ?hr ?_; (case hd => rfl); (case hg => rfl); (case hr => first | (go_simp; done) | (go_simp; rfl)); intro gb287 hg w4 hbox hb; have n0_ := Aside0.mk (below_step (uB HB) hb); have n1_ := Aside0.mk (hbox); have n2_ := Aside0.mk ((by rw [hg]; exact (below_size (uB HB)) : w.heap.size ≤ gb287)); have n3_ := Aside0.mk ((by rw [hg]; exact (below_size (uB HB)) : w.heap.size ≤ gb287)); clear HB; have HB := n0_; have BK287 := n1_; have GW287 := n2_; have GE287 := n3_; clear n0_ n1_ n2_ n3_ hb hbox hg; have hcz5_0 : w4.cell? ⟨gb287, 0, none⟩ = some (.int .i64 a0_0) := (blk_cell BK287.out 0).trans rfl; have hcz5_1 : w4.cell? ⟨gb287, 1, none⟩ = some (.slice A0_1 l0_1.length c0_1) := (blk_cell BK287.out 1).trans rfl; have hcz5_2 : w4.cell? ⟨gb287, 2, none⟩ = some (.slice A0_2 l0_2.length c0_2) := (blk_cell BK287.out 2).trans rfl; have hfz5_0 := blk_frozen BK287.out 0; have hfz5_1 := blk_frozen BK287.out 1; have hfz5_2 := blk_frozen BK287.out 2) | ((with_reducible refine gate_callee (f := 6) rfl ?_); refine goesL_ (some 16) rfl rfl Try.func6 (by kernel_rfl) rfl #[.agg #[.int .i64 a0_0, .slice A0_1 l0_1.length c0_1, .slice A0_2 l0_2.length c0_2], .int .i64 1048576] rfl (by (try simp only [List.map_toArray, List.map_cons, List.map_nil]); first | done | rfl | (simp only [List.length_drop, List.length_take]; rfl)) ?_; (with_reducible refine (laws_szCuckoo.calls k a0_0 _ _ l0_1 _ _ l0_2 1048576 t288 _ ?side1 ?side2 ?side3 ?side4 A2.out).mono ?_); (case side1 => exact uC HR0_1 HB); (case side2 => exact HC0_1.out); (case side3 => exact uC HR0_2 HB); (case side4 => exact HC0_2.out); rintro e w6 ⟨rfl, hb⟩; refine ⟨_, rfl, ?_⟩; have n0_ := Aside0.mk (blk_below (g := gb287) (o := .cells #[.int .i64 a0_0, .slice A0_1 l0_1.length c0_1, .slice A0_2 l0_2.length c0_2] 24 (0, 0)) (uK BK287) hb); have n1_ := Aside0.mk (below_step (by first | exact uB HB | exact uS HB (gC GE287 gN)) hb); clear BK287 HB; have BK287 := n0_; have HB := n1_; clear n0_ n1_; (try clear hb); (try clear hb2); (try clear hk); (try clear hi)))
  go_ret
  exact ⟨by first | rfl | (simp [errW_none, errW_some] <;> rfl) | (simp [*, errW_none, errW_some] <;> rfl), by first | exact uB HB | exact uS HB (gC GE287 gN)⟩
 ·
  rw [if_neg c3] at H
  have c3b0 : decide (t288 < 0) = false := decide_eq_false c3
  clear c3
  replace H := Option.bind_eq_some_iff.mp H
  obtain ⟨⟨t289, t290, t293⟩, A70, H⟩ := H
  replace H : ((spec_CuckooUnstash.f k t289 t290 t293).bind fun bt296 => ((laws_toCuckoo.f k a0_0 l0_1 l0_2).bind fun bt305 => ((impl_CuckooUnstash.f k bt305.1 bt305.2.1 bt305.2.2).bind fun bt313 => ((laws_eqCuckoo.f k bt313.1 bt313.2.1 bt313.2.2.1 bt296.1 bt296.2.1 bt296.2.2.1).bind fun t322 => (if t322 = true then (laws_FnExactCuckooUnstash.j0 k bt296.2.2.2 bt313.2.2.2 (bt313.2.2.2 != bt296.2.2.2) a0_0 l0_1 l0_2 bt296.1 bt296.2.1 bt296.2.2.1 bt305.1 bt305.2.1 bt305.2.2 bt313.1 bt313.2.1 bt313.2.2.1) else (laws_FnExactCuckooUnstash.j0 k bt296.2.2.2 bt313.2.2.2 true a0_0 l0_1 l0_2 bt296.1 bt296.2.1 bt296.2.2.1 bt305.1 bt305.2.1 bt305.2.2 bt313.1 bt313.2.1 bt313.2.2.1)))))) = some r := H
  have A7 := Aside0.mk A70
  clear A70
  replace H := Option.bind_eq_some_iff.mp H
  obtain ⟨⟨t296, t297, t300, t303⟩, A80, H⟩ := H
  replace H : ((laws_toCuckoo.f k a0_0 l0_1 l0_2).bind fun bt305 => ((impl_CuckooUnstash.f k bt305.1 bt305.2.1 bt305.2.2).bind fun bt313 => ((laws_eqCuckoo.f k bt313.1 bt313.2.1 bt313.2.2.1 t296 t297 t300).bind fun t322 => (if t322 = true then (laws_FnExactCuckooUnstash.j0 k t303 bt313.2.2.2 (bt313.2.2.2 != t303) a0_0 l0_1 l0_2 t296 t297 t300 bt305.1 bt305.2.1 bt305.2.2 bt313.1 bt313.2.1 bt313.2.2.1) else (laws_FnExactCuckooUnstash.j0 k t303 bt313.2.2.2 true a0_0 l0_1 l0_2 t296 t297 t300 bt305.1 bt305.2.1 bt305.2.2 bt313.1 bt313.2.1 bt313.2.2.1))))) = some r := H
  have A8 := Aside0.mk A80
  clear A80
  replace H := Option.bind_eq_some_iff.mp H
  obtain ⟨⟨t305, t306, t309⟩, A90, H⟩ := H
  replace H : ((impl_CuckooUnstash.f k t305 t306 t309).bind fun bt313 => ((laws_eqCuckoo.f k bt313.1 bt313.2.1 bt313.2.2.1 t296 t297 t300).bind fun t322 => (if t322 = true then (laws_FnExactCuckooUnstash.j0 k t303 bt313.2.2.2 (bt313.2.2.2 != t303) a0_0 l0_1 l0_2 t296 t297 t300 t305 t306 t309 bt313.1 bt313.2.1 bt313.2.2.1) else (laws_FnExactCuckooUnstash.j0 k t303 bt313.2.2.2 true a0_0 l0_1 l0_2 t296 t297 t300 t305 t306 t309 bt313.1 bt313.2.1 bt313.2.2.1)))) = some r := H
  have A9 := Aside0.mk A90
  clear A90
  replace H := Option.bind_eq_some_iff.mp H
  obtain ⟨⟨t313, t314, t317, t320⟩, A100, H⟩ := H
  replace H : ((laws_eqCuckoo.f k t313 t314 t317 t296 t297 t300).bind fun t322 => (if t322 = true then (laws_FnExactCuckooUnstash.j0 k t303 t320 (t320 != t303) a0_0 l0_1 l0_2 t296 t297 t300 t305 t306 t309 t313 t314 t317) else (laws_FnExactCuckooUnstash.j0 k t303 t320 true a0_0 l0_1 l0_2 t296 t297 t300 t305 t306 t309 t313 t314 t317))) = some r := H
  have A10 := Aside0.mk A100
  clear A100
  have HC11 := Aside0.mk H
  clear H
  go_enter Try.func3, Try.ntmps3
  go_upto_region 8 with (first | ((with_reducible refine gate_dst (N := 1) rfl ?_); refine box_event ?hg (N := 1) ?hd (cs := #[.int .i64 a0_0, .slice A0_1 l0_1.length c0_1, .slice A0_2 l0_2.length c0_2]) (t := 24) ?hr ?_; (case hd => rfl); (case hg => rfl); (case hr => first | (go_simp; done) | (go_simp; rfl)); intro gb287 hg w12 hbox hb; have n0_ := Aside0.mk (below_step (uB HB) hb); have n1_ := Aside0.mk (hbox); have n2_ := Aside0.mk ((by rw [hg]; exact (below_size (uB HB)) : w.heap.size ≤ gb287)); have n3_ := Aside0.mk ((by rw [hg]; exact (below_size (uB HB)) : w.heap.size ≤ gb287)); clear HB; have HB := n0_; have BK287 := n1_; have GW287 := n2_; have GE287 := n3_; clear n0_ n1_ n2_ n3_ hb hbox hg; have hcz13_0 : w12.cell? ⟨gb287, 0, none⟩ = some (.int .i64 a0_0) := (blk_cell BK287.out 0).trans rfl; have hcz13_1 : w12.cell? ⟨gb287, 1, none⟩ = some (.slice A0_1 l0_1.length c0_1) := (blk_cell BK287.out 1).trans rfl; have hcz13_2 : w12.cell? ⟨gb287, 2, none⟩ = some (.slice A0_2 l0_2.length c0_2) := (blk_cell BK287.out 2).trans rfl; have hfz13_0 := blk_frozen BK287.out 0; have hfz13_1 := blk_frozen BK287.out 1; have hfz13_2 := blk_frozen BK287.out 2) | ((with_reducible refine gate_callee (f := 6) rfl ?_); refine goesL_ (some 16) rfl rfl Try.func6 (by kernel_rfl) rfl #[.agg #[.int .i64 a0_0, .slice A0_1 l0_1.length c0_1, .slice A0_2 l0_2.length c0_2], .int .i64 1048576] rfl (by (try simp only [List.map_toArray, List.map_cons, List.map_nil]); first | done | rfl | (simp only [List.length_drop, List.length_take]; rfl)) ?_; (with_reducible refine (laws_szCuckoo.calls k a0_0 _ _ l0_1 _ _ l0_2 1048576 t288 _ ?side1 ?side2 ?side3 ?side4 A2.out).mono ?_); (case side1 => exact uC HR0_1 HB); (case side2 => exact HC0_1.out); (case side3 => exact uC HR0_2 HB); (case side4 => exact HC0_2.out); rintro e w14 ⟨rfl, hb⟩; refine ⟨_, rfl, ?_⟩; have n0_ := Aside0.mk (blk_below (g := gb287) (o := .cells #[.int .i64 a0_0, .slice A0_1 l0_1.length c0_1, .slice A0_2 l0_2.length c0_2] 24 (0, 0)) (uK BK287) hb); have n1_ := Aside0.mk (below_step (by first | exact uB HB | exact uS HB (gC GE287 gN)) hb); clear BK287 HB; have BK287 := n0_; have HB := n1_; clear n0_ n1_; (try clear hb); (try clear hb2); (try clear hk); (try clear hi); have hcz15_0 : w14.cell? ⟨gb287, 0, none⟩ = some (.int .i64 a0_0) := (blk_cell BK287.out 0).trans rfl; have hcz15_1 : w14.cell? ⟨gb287, 1, none⟩ = some (.slice A0_1 l0_1.length c0_1) := (blk_cell BK287.out 1).trans rfl; have hcz15_2 : w14.cell? ⟨gb287, 2, none⟩ = some (.slice A0_2 l0_2.length c0_2) := (blk_cell BK287.out 2).trans rfl; have hfz15_0 := blk_frozen BK287.out 0; have hfz15_1 := blk_frozen BK287.out 1; have hfz15_2 := blk_frozen BK287.out 2) | ((with_reducible refine gate_callee (f := 8) rfl ?_); refine goesL_ (some 21) rfl rfl Try.func8 (by kernel_rfl) rfl #[.agg #[.int .i64 a0_0, .slice A0_1 l0_1.length c0_1, .slice A0_2 l0_2.length c0_2]] rfl (by (try simp only [List.map_toArray, List.map_cons, List.map_nil]); first | done | rfl | (simp only [List.length_drop, List.length_take]; rfl)) ?_; (with_reducible refine (laws_toCuckoo.calls k a0_0 _ _ l0_1 _ _ l0_2 t289 t290 t293 _ ?side1 ?side2 ?side3 ?side4 A7.out).mono ?_); (case side1 => exact uC HR0_1 HB); (case side2 => exact HC0_1.out); (case side3 => exact uC HR0_2 HB); (case side4 => exact HC0_2.out); rintro e w16 ⟨v291, v294, rfl, ho0, ho1, hb⟩; refine ⟨_, rfl, ?_⟩; have n0_ := Aside0.mk (Kd.R_lower ho0 (below_size (by first | exact uB HB | exact uS HB (gC GE287 gN)))); have n1_ := Aside0.mk (Kd.R_lower ho1 (below_size (by first | exact uB HB | exact uS HB (gC GE287 gN)))); have n2_ := Aside0.mk (blk_below (g := gb287) (o := .cells #[.int .i64 a0_0, .slice A0_1 l0_1.length c0_1, .slice A0_2 l0_2.length c0_2] 24 (0, 0)) (uK BK287) hb); have n3_ := Aside0.mk (below_step (by first | exact uB HB | exact uS HB (gC GE287 gN)) hb); clear BK287 HB; have HO292 := n0_; have HO295 := n1_; have BK287 := n2_; have HB := n3_; clear n0_ n1_ n2_ n3_; (try clear hb); (try clear hb2); (try clear hk); (try clear hi); (try clear ho0); (try clear ho1); obtain ⟨Ao17, co17, eo17⟩ := Kd.R_slice HO292.out; subst eo17; obtain ⟨Ao18, co18, eo18⟩ := Kd.R_slice HO295.out; subst eo18) | ((with_reducible refine gate_callee (f := 7) rfl ?_); refine goesL_ (some 22) rfl rfl Try.func7 (by kernel_rfl) rfl #[.agg #[.int .i64 t289, .slice Ao17 t290.length co17, .slice Ao18 t293.length co18]] rfl (by (try simp only [List.map_toArray, List.map_cons, List.map_nil]); first | done | rfl | (simp only [List.length_drop, List.length_take]; rfl)) ?_; (with_reducible refine (spec_CuckooUnstash.calls k t289 _ _ t290 _ _ t293 t296 t297 t300 t303 _ ?side1 ?side2 ?side3 ?side4 A8.out).mono ?_); (case side1 => exact uD HO292); (case side2 => exact (Kd.R_reads' HO292.out).2.1); (case side3 => exact uD HO295); (case side4 => exact (Kd.R_reads' HO295.out).2.1); rintro e w19 ⟨v298, v301, rfl, ho0, ho1, hb⟩; refine ⟨_, rfl, ?_⟩; have n0_ := Aside0.mk (Kd.R_mono (Kd.R_told (Kd.R_told (Kd.R_old (uR HO292) hb) (Kd.R_base ho0)) (Kd.R_base ho1)) (fun _ h_ => h_.1)); have n1_ := Aside0.mk (Kd.R_mono (Kd.R_told (Kd.R_told (Kd.R_old (uR HO295) hb) (Kd.R_base ho0)) (Kd.R_base ho1)) (fun _ h_ => h_.1)); have n2_ := Aside0.mk (Kd.R_lower (Kd.R_new' (Kd.R_new' ho0 (Kd.R_lt (uR HO292))) (Kd.R_lt (uR HO295))) (below_size (by first | exact uB HB | exact uS HB (gC GE287 gN)))); have n3_ := Aside0.mk (Kd.R_lower (Kd.R_new' (Kd.R_new' ho1 (Kd.R_lt (uR HO292))) (Kd.R_lt (uR HO295))) (below_size (by first | exact uB HB | exact uS HB (gC GE287 gN)))); have n4_ := Aside0.mk (blk_below (g := gb287) (o := .cells #[.int .i64 a0_0, .slice A0_1 l0_1.length c0_1, .slice A0_2 l0_2.length c0_2] 24 (0, 0)) (uK BK287) hb); have n5_ := Aside0.mk (below_step (by first | exact uB HB | exact uS HB (gC GE287 gN)) hb); clear HO292 HO295 BK287 HB; have HO292 := n0_; have HO295 := n1_; have HO299 := n2_; have HO302 := n3_; have BK287 := n4_; have HB := n5_; clear n0_ n1_ n2_ n3_ n4_ n5_; (try clear hb); (try clear hb2); (try clear hk); (try clear hi); (try clear ho0); (try clear ho1)) | ((with_reducible refine gate_dst (N := 4) rfl ?_); refine box_event ?hg (N := 4) ?hd (cs := #[.int .i64 0, .slice none 0 0, .slice none 0 0]) (t := 26) ?hr ?_; (case hd => rfl); (case hg => rfl); (case hr => first | (go_simp; done) | (go_simp; rfl)); intro gb304 hg w20 hbox hb; have n0_ := Aside0.mk (Kd.R_below (uR HO292) hb); have n1_ := Aside0.mk (Kd.R_below (uR HO295) hb); have n2_ := Aside0.mk (Kd.R_below (uR HO299) hb); have n3_ := Aside0.mk (Kd.R_below (uR HO302) hb); have n4_ := Aside0.mk (blk_below (g := gb287) (o := .cells #[.int .i64 a0_0, .slice A0_1 l0_1.length c0_1, .slice A0_2 l0_2.length c0_2] 24 (0, 0)) (uK BK287) hb); have n5_ := Aside0.mk (below_step (by first | exact uB HB | exact uS HB (gC GE287 gN)) hb); have n6_ := Aside0.mk (hbox); have n7_ := Aside0.mk ((by rw [hg]; exact (below_size (by first | exact uB HB | exact uS HB (gC GE287 gN))) : w.heap.size ≤ gb304)); have n8_ := Aside0.mk ((by rw [hg]; exact (below_size (by first | exact uB HB | exact uS HB (gC GE287 gN))) : w.heap.size ≤ gb304)); have n9_ := Aside0.mk ((by rw [hg]; exact Nat.ne_of_lt (blk_lt (g := gb287) (o := .cells #[.int .i64 a0_0, .slice A0_1 l0_1.length c0_1, .slice A0_2 l0_2.length c0_2] 24 (0, 0)) (uK BK287)) : gb287 ≠ gb304)); have n10_ := Aside0.mk ((by rw [hg]; exact Nat.ne_of_gt (blk_lt (g := gb287) (o := .cells #[.int .i64 a0_0, .slice A0_1 l0_1.length c0_1, .slice A0_2 l0_2.length c0_2] 24 (0, 0)) (uK BK287)) : gb304 ≠ gb287)); clear HO292 HO295 HO299 HO302 BK287 HB; have HO292 := n0_; have HO295 := n1_; have HO299 := n2_; have HO302 := n3_; have BK287 := n4_; have HB := n5_; have BK304 := n6_; have GW304 := n7_; have GE304 := n8_; have NB287_304 := n9_; have NB304_287 := n10_; clear n0_ n1_ n2_ n3_ n4_ n5_ n6_ n7_ n8_ n9_ n10_ hb hbox hg; have hnb21 := NB304_287.out; have hnc21 := NB287_304.out; have hcz22_0 : w20.cell? ⟨gb304, 0, none⟩ = some (.int .i64 0) := (blk_cell BK304.out 0).trans rfl; have hcz22_1 : w20.cell? ⟨gb304, 1, none⟩ = some (.slice none 0 0) := (blk_cell BK304.out 1).trans rfl; have hcz22_2 : w20.cell? ⟨gb304, 2, none⟩ = some (.slice none 0 0) := (blk_cell BK304.out 2).trans rfl; have hfz22_0 := blk_frozen BK304.out 0; have hfz22_1 := blk_frozen BK304.out 1; have hfz22_2 := blk_frozen BK304.out 2; obtain ⟨Ao23, co23, eo23⟩ := Kd.R_slice HO299.out; subst eo23; obtain ⟨Ao24, co24, eo24⟩ := Kd.R_slice HO302.out; subst eo24; have hcz25_0 : w20.cell? ⟨gb287, 0, none⟩ = some (.int .i64 a0_0) := (blk_cell BK287.out 0).trans rfl; have hcz25_1 : w20.cell? ⟨gb287, 1, none⟩ = some (.slice A0_1 l0_1.length c0_1) := (blk_cell BK287.out 1).trans rfl; have hcz25_2 : w20.cell? ⟨gb287, 2, none⟩ = some (.slice A0_2 l0_2.length c0_2) := (blk_cell BK287.out 2).trans rfl; have hfz25_0 := blk_frozen BK287.out 0; have hfz25_1 := blk_frozen BK287.out 1; have hfz25_2 := blk_frozen BK287.out 2) | ((with_reducible refine gate_callee (f := 8) rfl ?_); refine goesL_ (some 26) rfl rfl Try.func8 (by kernel_rfl) rfl #[.agg #[.int .i64 a0_0, .slice A0_1 l0_1.length c0_1, .slice A0_2 l0_2.length c0_2]] rfl (by (try simp only [List.map_toArray, List.map_cons, List.map_nil]); first | done | rfl | (simp only [List.length_drop, List.length_take]; rfl)) ?_; (with_reducible refine (laws_toCuckoo.calls k a0_0 _ _ l0_1 _ _ l0_2 t305 t306 t309 _ ?side1 ?side2 ?side3 ?side4 A9.out).mono ?_); (case side1 => exact Kd.C_below HR0_1.out (by first | exact uB HB | exact uS HB (gC GE287 (gC GE304 gN)))); (case side2 => exact HC0_1.out); (case side3 => exact Kd.C_below HR0_2.out (by first | exact uB HB | exact uS HB (gC GE287 (gC GE304 gN)))); (case side4 => exact HC0_2.out); rintro e w26 ⟨v307, v310, rfl, ho0, ho1, hb⟩; refine ⟨_, rfl, ?_⟩; have n0_ := Aside0.mk (Kd.R_mono (Kd.R_told (Kd.R_told (Kd.R_old (by (with_reducible repeat (first | apply Kd.R_alloc | apply Kd.R_drewN | apply Kd.R_drew)); exact (Kd.R_mono (Kd.R_far (p := ⟨gb304, 2, none⟩) (Kd.R_far (p := ⟨gb304, 1, none⟩) (Kd.R_far (p := ⟨gb304, 0, none⟩) (Kd.R_types HO292.out BK304.out (by decide)) (fun _ hk => hk.2) (.int .i64 t296)) (fun _ hk => hk.2) (.slice Ao23 t297.length co23)) (fun _ hk => hk.2) (.slice Ao24 t300.length co24)) (fun _ h_ => h_.1))) hb) (Kd.R_base ho0)) (Kd.R_base ho1)) (fun _ h_ => h_.1)); have n1_ := Aside0.mk (Kd.R_mono (Kd.R_told (Kd.R_told (Kd.R_old (by (with_reducible repeat (first | apply Kd.R_alloc | apply Kd.R_drewN | apply Kd.R_drew)); exact (Kd.R_mono (Kd.R_far (p := ⟨gb304, 2, none⟩) (Kd.R_far (p := ⟨gb304, 1, none⟩) (Kd.R_far (p := ⟨gb304, 0, none⟩) (Kd.R_types HO295.out BK304.out (by decide)) (fun _ hk => hk.2) (.int .i64 t296)) (fun _ hk => hk.2) (.slice Ao23 t297.length co23)) (fun _ hk => hk.2) (.slice Ao24 t300.length co24)) (fun _ h_ => h_.1))) hb) (Kd.R_base ho0)) (Kd.R_base ho1)) (fun _ h_ => h_.1)); have n2_ := Aside0.mk (Kd.R_mono (Kd.R_told (Kd.R_told (Kd.R_old (by (with_reducible repeat (first | apply Kd.R_alloc | apply Kd.R_drewN | apply Kd.R_drew)); exact (Kd.R_mono (Kd.R_far (p := ⟨gb304, 2, none⟩) (Kd.R_far (p := ⟨gb304, 1, none⟩) (Kd.R_far (p := ⟨gb304, 0, none⟩) (Kd.R_types HO299.out BK304.out (by decide)) (fun _ hk => hk.2) (.int .i64 t296)) (fun _ hk => hk.2) (.slice Ao23 t297.length co23)) (fun _ hk => hk.2) (.slice Ao24 t300.length co24)) (fun _ h_ => h_.1))) hb) (Kd.R_base ho0)) (Kd.R_base ho1)) (fun _ h_ => h_.1)); have n3_ := Aside0.mk (Kd.R_mono (Kd.R_told (Kd.R_told (Kd.R_old (by (with_reducible repeat (first | apply Kd.R_alloc | apply Kd.R_drewN | apply Kd.R_drew)); exact (Kd.R_mono (Kd.R_far (p := ⟨gb304, 2, none⟩) (Kd.R_far (p := ⟨gb304, 1, none⟩) (Kd.R_far (p := ⟨gb304, 0, none⟩) (Kd.R_types HO302.out BK304.out (by decide)) (fun _ hk => hk.2) (.int .i64 t296)) (fun _ hk => hk.2) (.slice Ao23 t297.length co23)) (fun _ hk => hk.2) (.slice Ao24 t300.length co24)) (fun _ h_ => h_.1))) hb) (Kd.R_base ho0)) (Kd.R_base ho1)) (fun _ h_ => h_.1)); have n4_ := Aside0.mk (Kd.R_lower (Kd.R_new' (Kd.R_new' (Kd.R_new' (Kd.R_new' ho0 (Kd.R_lt (by (with_reducible repeat (first | apply Kd.R_alloc | apply Kd.R_drewN | apply Kd.R_drew)); exact (Kd.R_mono (Kd.R_far (p := ⟨gb304, 2, none⟩) (Kd.R_far (p := ⟨gb304, 1, none⟩) (Kd.R_far (p := ⟨gb304, 0, none⟩) (Kd.R_types HO292.out BK304.out (by decide)) (fun _ hk => hk.2) (.int .i64 t296)) (fun _ hk => hk.2) (.slice Ao23 t297.length co23)) (fun _ hk => hk.2) (.slice Ao24 t300.length co24)) (fun _ h_ => h_.1))))) (Kd.R_lt (by (with_reducible repeat (first | apply Kd.R_alloc | apply Kd.R_drewN | apply Kd.R_drew)); exact (Kd.R_mono (Kd.R_far (p := ⟨gb304, 2, none⟩) (Kd.R_far (p := ⟨gb304, 1, none⟩) (Kd.R_far (p := ⟨gb304, 0, none⟩) (Kd.R_types HO295.out BK304.out (by decide)) (fun _ hk => hk.2) (.int .i64 t296)) (fun _ hk => hk.2) (.slice Ao23 t297.length co23)) (fun _ hk => hk.2) (.slice Ao24 t300.length co24)) (fun _ h_ => h_.1))))) (Kd.R_lt (by (with_reducible repeat (first | apply Kd.R_alloc | apply Kd.R_drewN | apply Kd.R_drew)); exact (Kd.R_mono (Kd.R_far (p := ⟨gb304, 2, none⟩) (Kd.R_far (p := ⟨gb304, 1, none⟩) (Kd.R_far (p := ⟨gb304, 0, none⟩) (Kd.R_types HO299.out BK304.out (by decide)) (fun _ hk => hk.2) (.int .i64 t296)) (fun _ hk => hk.2) (.slice Ao23 t297.length co23)) (fun _ hk => hk.2) (.slice Ao24 t300.length co24)) (fun _ h_ => h_.1))))) (Kd.R_lt (by (with_reducible repeat (first | apply Kd.R_alloc | apply Kd.R_drewN | apply Kd.R_drew)); exact (Kd.R_mono (Kd.R_far (p := ⟨gb304, 2, none⟩) (Kd.R_far (p := ⟨gb304, 1, none⟩) (Kd.R_far (p := ⟨gb304, 0, none⟩) (Kd.R_types HO302.out BK304.out (by decide)) (fun _ hk => hk.2) (.int .i64 t296)) (fun _ hk => hk.2) (.slice Ao23 t297.length co23)) (fun _ hk => hk.2) (.slice Ao24 t300.length co24)) (fun _ h_ => h_.1))))) (below_size (by first | exact uB HB | exact uS HB (gC GE287 (gC GE304 gN))))); have n5_ := Aside0.mk (Kd.R_lower (Kd.R_new' (Kd.R_new' (Kd.R_new' (Kd.R_new' ho1 (Kd.R_lt (by (with_reducible repeat (first | apply Kd.R_alloc | apply Kd.R_drewN | apply Kd.R_drew)); exact (Kd.R_mono (Kd.R_far (p := ⟨gb304, 2, none⟩) (Kd.R_far (p := ⟨gb304, 1, none⟩) (Kd.R_far (p := ⟨gb304, 0, none⟩) (Kd.R_types HO292.out BK304.out (by decide)) (fun _ hk => hk.2) (.int .i64 t296)) (fun _ hk => hk.2) (.slice Ao23 t297.length co23)) (fun _ hk => hk.2) (.slice Ao24 t300.length co24)) (fun _ h_ => h_.1))))) (Kd.R_lt (by (with_reducible repeat (first | apply Kd.R_alloc | apply Kd.R_drewN | apply Kd.R_drew)); exact (Kd.R_mono (Kd.R_far (p := ⟨gb304, 2, none⟩) (Kd.R_far (p := ⟨gb304, 1, none⟩) (Kd.R_far (p := ⟨gb304, 0, none⟩) (Kd.R_types HO295.out BK304.out (by decide)) (fun _ hk => hk.2) (.int .i64 t296)) (fun _ hk => hk.2) (.slice Ao23 t297.length co23)) (fun _ hk => hk.2) (.slice Ao24 t300.length co24)) (fun _ h_ => h_.1))))) (Kd.R_lt (by (with_reducible repeat (first | apply Kd.R_alloc | apply Kd.R_drewN | apply Kd.R_drew)); exact (Kd.R_mono (Kd.R_far (p := ⟨gb304, 2, none⟩) (Kd.R_far (p := ⟨gb304, 1, none⟩) (Kd.R_far (p := ⟨gb304, 0, none⟩) (Kd.R_types HO299.out BK304.out (by decide)) (fun _ hk => hk.2) (.int .i64 t296)) (fun _ hk => hk.2) (.slice Ao23 t297.length co23)) (fun _ hk => hk.2) (.slice Ao24 t300.length co24)) (fun _ h_ => h_.1))))) (Kd.R_lt (by (with_reducible repeat (first | apply Kd.R_alloc | apply Kd.R_drewN | apply Kd.R_drew)); exact (Kd.R_mono (Kd.R_far (p := ⟨gb304, 2, none⟩) (Kd.R_far (p := ⟨gb304, 1, none⟩) (Kd.R_far (p := ⟨gb304, 0, none⟩) (Kd.R_types HO302.out BK304.out (by decide)) (fun _ hk => hk.2) (.int .i64 t296)) (fun _ hk => hk.2) (.slice Ao23 t297.length co23)) (fun _ hk => hk.2) (.slice Ao24 t300.length co24)) (fun _ h_ => h_.1))))) (below_size (by first | exact uB HB | exact uS HB (gC GE287 (gC GE304 gN))))); have n6_ := Aside0.mk (blk_below (g := gb287) (o := .cells #[.int .i64 a0_0, .slice A0_1 l0_1.length c0_1, .slice A0_2 l0_2.length c0_2] 24 (0, 0)) (by refine uW ?_; refine blk_far ?_ NB287_304.out _; refine uW ?_; refine blk_far ?_ NB287_304.out _; refine uW ?_; refine blk_far ?_ NB287_304.out _; refine uW ?_; exact BK287.out) hb); have n7_ := Aside0.mk (blk_below (g := gb304) (o := .cells #[.int .i64 t296, .slice Ao23 t297.length co23, .slice Ao24 t300.length co24] 26 (0, 0)) (by refine uW ?_; refine blk_put (cs := #[.int .i64 t296, .slice Ao23 t297.length co23, .slice none 0 0]) ?_ 2 _ rfl; refine uW ?_; refine blk_put (cs := #[.int .i64 t296, .slice none 0 0, .slice none 0 0]) ?_ 1 _ rfl; refine uW ?_; refine blk_put (cs := #[.int .i64 0, .slice none 0 0, .slice none 0 0]) ?_ 0 _ rfl; refine uW ?_; exact BK304.out) hb); have n8_ := Aside0.mk (below_step (by first | exact uB HB | exact uS HB (gC GE287 (gC GE304 gN))) hb); clear HO292 HO295 HO299 HO302 BK287 BK304 HB; have HO292 := n0_; have HO295 := n1_; have HO299 := n2_; have HO302 := n3_; have HO308 := n4_; have HO311 := n5_; have BK287 := n6_; have BK304 := n7_; have HB := n8_; clear n0_ n1_ n2_ n3_ n4_ n5_ n6_ n7_ n8_; (try clear hb); (try clear hb2); (try clear hk); (try clear hi); (try clear ho0); (try clear ho1)) | ((with_reducible refine gate_dst (N := 6) rfl ?_); refine box_event ?hg (N := 6) ?hd (cs := #[.int .i64 0, .slice none 0 0, .slice none 0 0]) (t := 26) ?hr ?_; (case hd => rfl); (case hg => rfl); (case hr => first | (go_simp; done) | (go_simp; rfl)); intro gb312 hg w27 hbox hb; have n0_ := Aside0.mk (Kd.R_below (uR HO292) hb); have n1_ := Aside0.mk (Kd.R_below (uR HO295) hb); have n2_ := Aside0.mk (Kd.R_below (uR HO299) hb); have n3_ := Aside0.mk (Kd.R_below (uR HO302) hb); have n4_ := Aside0.mk (Kd.R_below (uR HO308) hb); have n5_ := Aside0.mk (Kd.R_below (uR HO311) hb); have n6_ := Aside0.mk (blk_below (g := gb287) (o := .cells #[.int .i64 a0_0, .slice A0_1 l0_1.length c0_1, .slice A0_2 l0_2.length c0_2] 24 (0, 0)) (uK BK287) hb); have n7_ := Aside0.mk (blk_below (g := gb304) (o := .cells #[.int .i64 t296, .slice Ao23 t297.length co23, .slice Ao24 t300.length co24] 26 (0, 0)) (uK BK304) hb); have n8_ := Aside0.mk (below_step (by first | exact uB HB | exact uS HB (gC GE287 (gC GE304 gN))) hb); have n9_ := Aside0.mk (hbox); have n10_ := Aside0.mk ((by rw [hg]; exact (below_size (by first | exact uB HB | exact uS HB (gC GE287 (gC GE304 gN)))) : w.heap.size ≤ gb312)); have n11_ := Aside0.mk ((by rw [hg]; exact (below_size (by first | exact uB HB | exact uS HB (gC GE287 (gC GE304 gN)))) : w.heap.size ≤ gb312)); have n12_ := Aside0.mk ((by rw [hg]; exact Nat.ne_of_lt (blk_lt (g := gb287) (o := .cells #[.int .i64 a0_0, .slice A0_1 l0_1.length c0_1, .slice A0_2 l0_2.length c0_2] 24 (0, 0)) (uK BK287)) : gb287 ≠ gb312)); have n13_ := Aside0.mk ((by rw [hg]; exact Nat.ne_of_gt (blk_lt (g := gb287) (o := .cells #[.int .i64 a0_0, .slice A0_1 l0_1.length c0_1, .slice A0_2 l0_2.length c0_2] 24 (0, 0)) (uK BK287)) : gb312 ≠ gb287)); have n14_ := Aside0.mk ((by rw [hg]; exact Nat.ne_of_lt (blk_lt (g := gb304) (o := .cells #[.int .i64 t296, .slice Ao23 t297.length co23, .slice Ao24 t300.length co24] 26 (0, 0)) (uK BK304)) : gb304 ≠ gb312)); have n15_ := Aside0.mk ((by rw [hg]; exact Nat.ne_of_gt (blk_lt (g := gb304) (o := .cells #[.int .i64 t296, .slice Ao23 t297.length co23, .slice Ao24 t300.length co24] 26 (0, 0)) (uK BK304)) : gb312 ≠ gb304)); clear HO292 HO295 HO299 HO302 HO308 HO311 BK287 BK304 HB; have HO292 := n0_; have HO295 := n1_; have HO299 := n2_; have HO302 := n3_; have HO308 := n4_; have HO311 := n5_; have BK287 := n6_; have BK304 := n7_; have HB := n8_; have BK312 := n9_; have GW312 := n10_; have GE312 := n11_; have NB287_312 := n12_; have NB312_287 := n13_; have NB304_312 := n14_; have NB312_304 := n15_; clear n0_ n1_ n2_ n3_ n4_ n5_ n6_ n7_ n8_ n9_ n10_ n11_ n12_ n13_ n14_ n15_ hb hbox hg; have hnb28 := NB312_287.out; have hnc28 := NB287_312.out; have hnb29 := NB312_304.out; have hnc29 := NB304_312.out; have hcz30_0 : w27.cell? ⟨gb312, 0, none⟩ = some (.int .i64 0) := (blk_cell BK312.out 0).trans rfl; have hcz30_1 : w27.cell? ⟨gb312, 1, none⟩ = some (.slice none 0 0) := (blk_cell BK312.out 1).trans rfl; have hcz30_2 : w27.cell? ⟨gb312, 2, none⟩ = some (.slice none 0 0) := (blk_cell BK312.out 2).trans rfl; have hfz30_0 := blk_frozen BK312.out 0; have hfz30_1 := blk_frozen BK312.out 1; have hfz30_2 := blk_frozen BK312.out 2; obtain ⟨Ao31, co31, eo31⟩ := Kd.R_slice HO308.out; subst eo31; obtain ⟨Ao32, co32, eo32⟩ := Kd.R_slice HO311.out; subst eo32) | ((with_reducible refine gate_callee (f := 9) rfl ?_); refine goesL_ (some 29) rfl rfl Try.func9 (by kernel_rfl) rfl #[.agg #[.int .i64 t305, .slice Ao31 t306.length co31, .slice Ao32 t309.length co32]] rfl (by (try simp only [List.map_toArray, List.map_cons, List.map_nil]); first | done | rfl | (simp only [List.length_drop, List.length_take]; rfl)) ?_; (with_reducible refine (impl_CuckooUnstash.calls k t305 _ _ t306 _ _ t309 t313 t314 t317 t320 _ ?side1 ?side2 ?side3 ?side4 A10.out).mono ?_); (case side1 => refine (Kd.R_reads' (e := 9) (base := w.heap.size) (ok := fun k_ => ((((some k_ ≠ (.slice Ao32 t309.length co32 : Value).ownBlock ∧ some k_ ≠ (.slice Ao17 t290.length co17 : Value).ownBlock) ∧ some k_ ≠ (.slice Ao18 t293.length co18 : Value).ownBlock) ∧ some k_ ≠ (.slice Ao23 t297.length co23 : Value).ownBlock) ∧ some k_ ≠ (.slice Ao24 t300.length co24 : Value).ownBlock)) (n := t306.length) (c := co31) ?_).2.2; exact (by (with_reducible repeat (first | apply Kd.R_alloc | apply Kd.R_drewN | apply Kd.R_drew)); exact (Kd.R_mono (Kd.R_far (p := ⟨gb312, 2, none⟩) (Kd.R_far (p := ⟨gb312, 1, none⟩) (Kd.R_far (p := ⟨gb312, 0, none⟩) (Kd.R_types HO308.out BK312.out (by decide)) (fun _ hk => hk.2) (.int .i64 t305)) (fun _ hk => hk.2) (.slice Ao31 t306.length co31)) (fun _ hk => hk.2) (.slice Ao32 t309.length co32)) (fun _ h_ => h_.1)))); (case side2 => exact (Kd.R_reads' HO308.out).2.1); (case side3 => refine (Kd.R_reads' (e := 9) (base := w.heap.size) (ok := fun k_ => ((((some k_ ≠ (.slice Ao31 t306.length co31 : Value).ownBlock ∧ some k_ ≠ (.slice Ao17 t290.length co17 : Value).ownBlock) ∧ some k_ ≠ (.slice Ao18 t293.length co18 : Value).ownBlock) ∧ some k_ ≠ (.slice Ao23 t297.length co23 : Value).ownBlock) ∧ some k_ ≠ (.slice Ao24 t300.length co24 : Value).ownBlock)) (n := t309.length) (c := co32) ?_).2.2; exact (by (with_reducible repeat (first | apply Kd.R_alloc | apply Kd.R_drewN | apply Kd.R_drew)); exact (Kd.R_mono (Kd.R_far (p := ⟨gb312, 2, none⟩) (Kd.R_far (p := ⟨gb312, 1, none⟩) (Kd.R_far (p := ⟨gb312, 0, none⟩) (Kd.R_types HO311.out BK312.out (by decide)) (fun _ hk => hk.2) (.int .i64 t305)) (fun _ hk => hk.2) (.slice Ao31 t306.length co31)) (fun _ hk => hk.2) (.slice Ao32 t309.length co32)) (fun _ h_ => h_.1)))); (case side4 => exact (Kd.R_reads' HO311.out).2.1); rintro e w33 ⟨v315, v318, rfl, ho0, ho1, hb⟩; refine ⟨_, rfl, ?_⟩; have n0_ := Aside0.mk (Kd.R_mono (Kd.R_told (Kd.R_told (Kd.R_old (by (with_reducible repeat (first | apply Kd.R_alloc | apply Kd.R_drewN | apply Kd.R_drew)); exact (Kd.R_mono (Kd.R_far (p := ⟨gb312, 2, none⟩) (Kd.R_far (p := ⟨gb312, 1, none⟩) (Kd.R_far (p := ⟨gb312, 0, none⟩) (Kd.R_types HO292.out BK312.out (by decide)) (fun _ hk => hk.2) (.int .i64 t305)) (fun _ hk => hk.2) (.slice Ao31 t306.length co31)) (fun _ hk => hk.2) (.slice Ao32 t309.length co32)) (fun _ h_ => h_.1))) hb) (Kd.R_base ho0)) (Kd.R_base ho1)) (fun _ h_ => h_.1)); have n1_ := Aside0.mk (Kd.R_mono (Kd.R_told (Kd.R_told (Kd.R_old (by (with_reducible repeat (first | apply Kd.R_alloc | apply Kd.R_drewN | apply Kd.R_drew)); exact (Kd.R_mono (Kd.R_far (p := ⟨gb312, 2, none⟩) (Kd.R_far (p := ⟨gb312, 1, none⟩) (Kd.R_far (p := ⟨gb312, 0, none⟩) (Kd.R_types HO295.out BK312.out (by decide)) (fun _ hk => hk.2) (.int .i64 t305)) (fun _ hk => hk.2) (.slice Ao31 t306.length co31)) (fun _ hk => hk.2) (.slice Ao32 t309.length co32)) (fun _ h_ => h_.1))) hb) (Kd.R_base ho0)) (Kd.R_base ho1)) (fun _ h_ => h_.1)); have n2_ := Aside0.mk (Kd.R_mono (Kd.R_told (Kd.R_told (Kd.R_old (by (with_reducible repeat (first | apply Kd.R_alloc | apply Kd.R_drewN | apply Kd.R_drew)); exact (Kd.R_mono (Kd.R_far (p := ⟨gb312, 2, none⟩) (Kd.R_far (p := ⟨gb312, 1, none⟩) (Kd.R_far (p := ⟨gb312, 0, none⟩) (Kd.R_types HO299.out BK312.out (by decide)) (fun _ hk => hk.2) (.int .i64 t305)) (fun _ hk => hk.2) (.slice Ao31 t306.length co31)) (fun _ hk => hk.2) (.slice Ao32 t309.length co32)) (fun _ h_ => h_.1))) hb) (Kd.R_base ho0)) (Kd.R_base ho1)) (fun _ h_ => h_.1)); have n3_ := Aside0.mk (Kd.R_mono (Kd.R_told (Kd.R_told (Kd.R_old (by (with_reducible repeat (first | apply Kd.R_alloc | apply Kd.R_drewN | apply Kd.R_drew)); exact (Kd.R_mono (Kd.R_far (p := ⟨gb312, 2, none⟩) (Kd.R_far (p := ⟨gb312, 1, none⟩) (Kd.R_far (p := ⟨gb312, 0, none⟩) (Kd.R_types HO302.out BK312.out (by decide)) (fun _ hk => hk.2) (.int .i64 t305)) (fun _ hk => hk.2) (.slice Ao31 t306.length co31)) (fun _ hk => hk.2) (.slice Ao32 t309.length co32)) (fun _ h_ => h_.1))) hb) (Kd.R_base ho0)) (Kd.R_base ho1)) (fun _ h_ => h_.1)); have n4_ := Aside0.mk (Kd.R_mono (Kd.R_told (Kd.R_told (Kd.R_old (by (with_reducible repeat (first | apply Kd.R_alloc | apply Kd.R_drewN | apply Kd.R_drew)); exact (Kd.R_mono (Kd.R_far (p := ⟨gb312, 2, none⟩) (Kd.R_far (p := ⟨gb312, 1, none⟩) (Kd.R_far (p := ⟨gb312, 0, none⟩) (Kd.R_types HO308.out BK312.out (by decide)) (fun _ hk => hk.2) (.int .i64 t305)) (fun _ hk => hk.2) (.slice Ao31 t306.length co31)) (fun _ hk => hk.2) (.slice Ao32 t309.length co32)) (fun _ h_ => h_.1))) hb) (Kd.R_base ho0)) (Kd.R_base ho1)) (fun _ h_ => h_.1)); have n5_ := Aside0.mk (Kd.R_mono (Kd.R_told (Kd.R_told (Kd.R_old (by (with_reducible repeat (first | apply Kd.R_alloc | apply Kd.R_drewN | apply Kd.R_drew)); exact (Kd.R_mono (Kd.R_far (p := ⟨gb312, 2, none⟩) (Kd.R_far (p := ⟨gb312, 1, none⟩) (Kd.R_far (p := ⟨gb312, 0, none⟩) (Kd.R_types HO311.out BK312.out (by decide)) (fun _ hk => hk.2) (.int .i64 t305)) (fun _ hk => hk.2) (.slice Ao31 t306.length co31)) (fun _ hk => hk.2) (.slice Ao32 t309.length co32)) (fun _ h_ => h_.1))) hb) (Kd.R_base ho0)) (Kd.R_base ho1)) (fun _ h_ => h_.1)); have n6_ := Aside0.mk (Kd.R_lower (Kd.R_new' (Kd.R_new' (Kd.R_new' (Kd.R_new' (Kd.R_new' (Kd.R_new' ho0 (Kd.R_lt (by (with_reducible repeat (first | apply Kd.R_alloc | apply Kd.R_drewN | apply Kd.R_drew)); exact (Kd.R_mono (Kd.R_far (p := ⟨gb312, 2, none⟩) (Kd.R_far (p := ⟨gb312, 1, none⟩) (Kd.R_far (p := ⟨gb312, 0, none⟩) (Kd.R_types HO292.out BK312.out (by decide)) (fun _ hk => hk.2) (.int .i64 t305)) (fun _ hk => hk.2) (.slice Ao31 t306.length co31)) (fun _ hk => hk.2) (.slice Ao32 t309.length co32)) (fun _ h_ => h_.1))))) (Kd.R_lt (by (with_reducible repeat (first | apply Kd.R_alloc | apply Kd.R_drewN | apply Kd.R_drew)); exact (Kd.R_mono (Kd.R_far (p := ⟨gb312, 2, none⟩) (Kd.R_far (p := ⟨gb312, 1, none⟩) (Kd.R_far (p := ⟨gb312, 0, none⟩) (Kd.R_types HO295.out BK312.out (by decide)) (fun _ hk => hk.2) (.int .i64 t305)) (fun _ hk => hk.2) (.slice Ao31 t306.length co31)) (fun _ hk => hk.2) (.slice Ao32 t309.length co32)) (fun _ h_ => h_.1))))) (Kd.R_lt (by (with_reducible repeat (first | apply Kd.R_alloc | apply Kd.R_drewN | apply Kd.R_drew)); exact (Kd.R_mono (Kd.R_far (p := ⟨gb312, 2, none⟩) (Kd.R_far (p := ⟨gb312, 1, none⟩) (Kd.R_far (p := ⟨gb312, 0, none⟩) (Kd.R_types HO299.out BK312.out (by decide)) (fun _ hk => hk.2) (.int .i64 t305)) (fun _ hk => hk.2) (.slice Ao31 t306.length co31)) (fun _ hk => hk.2) (.slice Ao32 t309.length co32)) (fun _ h_ => h_.1))))) (Kd.R_lt (by (with_reducible repeat (first | apply Kd.R_alloc | apply Kd.R_drewN | apply Kd.R_drew)); exact (Kd.R_mono (Kd.R_far (p := ⟨gb312, 2, none⟩) (Kd.R_far (p := ⟨gb312, 1, none⟩) (Kd.R_far (p := ⟨gb312, 0, none⟩) (Kd.R_types HO302.out BK312.out (by decide)) (fun _ hk => hk.2) (.int .i64 t305)) (fun _ hk => hk.2) (.slice Ao31 t306.length co31)) (fun _ hk => hk.2) (.slice Ao32 t309.length co32)) (fun _ h_ => h_.1))))) (Kd.R_lt (by (with_reducible repeat (first | apply Kd.R_alloc | apply Kd.R_drewN | apply Kd.R_drew)); exact (Kd.R_mono (Kd.R_far (p := ⟨gb312, 2, none⟩) (Kd.R_far (p := ⟨gb312, 1, none⟩) (Kd.R_far (p := ⟨gb312, 0, none⟩) (Kd.R_types HO308.out BK312.out (by decide)) (fun _ hk => hk.2) (.int .i64 t305)) (fun _ hk => hk.2) (.slice Ao31 t306.length co31)) (fun _ hk => hk.2) (.slice Ao32 t309.length co32)) (fun _ h_ => h_.1))))) (Kd.R_lt (by (with_reducible repeat (first | apply Kd.R_alloc | apply Kd.R_drewN | apply Kd.R_drew)); exact (Kd.R_mono (Kd.R_far (p := ⟨gb312, 2, none⟩) (Kd.R_far (p := ⟨gb312, 1, none⟩) (Kd.R_far (p := ⟨gb312, 0, none⟩) (Kd.R_types HO311.out BK312.out (by decide)) (fun _ hk => hk.2) (.int .i64 t305)) (fun _ hk => hk.2) (.slice Ao31 t306.length co31)) (fun _ hk => hk.2) (.slice Ao32 t309.length co32)) (fun _ h_ => h_.1))))) (below_size (by first | exact uB HB | exact uS HB (gC GE287 (gC GE304 (gC GE312 gN)))))); have n7_ := Aside0.mk (Kd.R_lower (Kd.R_new' (Kd.R_new' (Kd.R_new' (Kd.R_new' (Kd.R_new' (Kd.R_new' ho1 (Kd.R_lt (by (with_reducible repeat (first | apply Kd.R_alloc | apply Kd.R_drewN | apply Kd.R_drew)); exact (Kd.R_mono (Kd.R_far (p := ⟨gb312, 2, none⟩) (Kd.R_far (p := ⟨gb312, 1, none⟩) (Kd.R_far (p := ⟨gb312, 0, none⟩) (Kd.R_types HO292.out BK312.out (by decide)) (fun _ hk => hk.2) (.int .i64 t305)) (fun _ hk => hk.2) (.slice Ao31 t306.length co31)) (fun _ hk => hk.2) (.slice Ao32 t309.length co32)) (fun _ h_ => h_.1))))) (Kd.R_lt (by (with_reducible repeat (first | apply Kd.R_alloc | apply Kd.R_drewN | apply Kd.R_drew)); exact (Kd.R_mono (Kd.R_far (p := ⟨gb312, 2, none⟩) (Kd.R_far (p := ⟨gb312, 1, none⟩) (Kd.R_far (p := ⟨gb312, 0, none⟩) (Kd.R_types HO295.out BK312.out (by decide)) (fun _ hk => hk.2) (.int .i64 t305)) (fun _ hk => hk.2) (.slice Ao31 t306.length co31)) (fun _ hk => hk.2) (.slice Ao32 t309.length co32)) (fun _ h_ => h_.1))))) (Kd.R_lt (by (with_reducible repeat (first | apply Kd.R_alloc | apply Kd.R_drewN | apply Kd.R_drew)); exact (Kd.R_mono (Kd.R_far (p := ⟨gb312, 2, none⟩) (Kd.R_far (p := ⟨gb312, 1, none⟩) (Kd.R_far (p := ⟨gb312, 0, none⟩) (Kd.R_types HO299.out BK312.out (by decide)) (fun _ hk => hk.2) (.int .i64 t305)) (fun _ hk => hk.2) (.slice Ao31 t306.length co31)) (fun _ hk => hk.2) (.slice Ao32 t309.length co32)) (fun _ h_ => h_.1))))) (Kd.R_lt (by (with_reducible repeat (first | apply Kd.R_alloc | apply Kd.R_drewN | apply Kd.R_drew)); exact (Kd.R_mono (Kd.R_far (p := ⟨gb312, 2, none⟩) (Kd.R_far (p := ⟨gb312, 1, none⟩) (Kd.R_far (p := ⟨gb312, 0, none⟩) (Kd.R_types HO302.out BK312.out (by decide)) (fun _ hk => hk.2) (.int .i64 t305)) (fun _ hk => hk.2) (.slice Ao31 t306.length co31)) (fun _ hk => hk.2) (.slice Ao32 t309.length co32)) (fun _ h_ => h_.1))))) (Kd.R_lt (by (with_reducible repeat (first | apply Kd.R_alloc | apply Kd.R_drewN | apply Kd.R_drew)); exact (Kd.R_mono (Kd.R_far (p := ⟨gb312, 2, none⟩) (Kd.R_far (p := ⟨gb312, 1, none⟩) (Kd.R_far (p := ⟨gb312, 0, none⟩) (Kd.R_types HO308.out BK312.out (by decide)) (fun _ hk => hk.2) (.int .i64 t305)) (fun _ hk => hk.2) (.slice Ao31 t306.length co31)) (fun _ hk => hk.2) (.slice Ao32 t309.length co32)) (fun _ h_ => h_.1))))) (Kd.R_lt (by (with_reducible repeat (first | apply Kd.R_alloc | apply Kd.R_drewN | apply Kd.R_drew)); exact (Kd.R_mono (Kd.R_far (p := ⟨gb312, 2, none⟩) (Kd.R_far (p := ⟨gb312, 1, none⟩) (Kd.R_far (p := ⟨gb312, 0, none⟩) (Kd.R_types HO311.out BK312.out (by decide)) (fun _ hk => hk.2) (.int .i64 t305)) (fun _ hk => hk.2) (.slice Ao31 t306.length co31)) (fun _ hk => hk.2) (.slice Ao32 t309.length co32)) (fun _ h_ => h_.1))))) (below_size (by first | exact uB HB | exact uS HB (gC GE287 (gC GE304 (gC GE312 gN)))))); have n8_ := Aside0.mk (blk_below (g := gb287) (o := .cells #[.int .i64 a0_0, .slice A0_1 l0_1.length c0_1, .slice A0_2 l0_2.length c0_2] 24 (0, 0)) (by refine uW ?_; refine blk_far ?_ NB287_312.out _; refine uW ?_; refine blk_far ?_ NB287_312.out _; refine uW ?_; refine blk_far ?_ NB287_312.out _; refine uW ?_; exact BK287.out) hb); have n9_ := Aside0.mk (blk_below (g := gb304) (o := .cells #[.int .i64 t296, .slice Ao23 t297.length co23, .slice Ao24 t300.length co24] 26 (0, 0)) (by refine uW ?_; refine blk_far ?_ NB304_312.out _; refine uW ?_; refine blk_far ?_ NB304_312.out _; refine uW ?_; refine blk_far ?_ NB304_312.out _; refine uW ?_; exact BK304.out) hb); have n10_ := Aside0.mk (blk_below (g := gb312) (o := .cells #[.int .i64 t305, .slice Ao31 t306.length co31, .slice Ao32 t309.length co32] 26 (0, 0)) (by refine uW ?_; refine blk_put (cs := #[.int .i64 t305, .slice Ao31 t306.length co31, .slice none 0 0]) ?_ 2 _ rfl; refine uW ?_; refine blk_put (cs := #[.int .i64 t305, .slice none 0 0, .slice none 0 0]) ?_ 1 _ rfl; refine uW ?_; refine blk_put (cs := #[.int .i64 0, .slice none 0 0, .slice none 0 0]) ?_ 0 _ rfl; refine uW ?_; exact BK312.out) hb); have n11_ := Aside0.mk (below_step (by first | exact uB HB | exact uS HB (gC GE287 (gC GE304 (gC GE312 gN)))) hb); clear HO292 HO295 HO299 HO302 HO308 HO311 BK287 BK304 BK312 HB; have HO292 := n0_; have HO295 := n1_; have HO299 := n2_; have HO302 := n3_; have HO308 := n4_; have HO311 := n5_; have HO316 := n6_; have HO319 := n7_; have BK287 := n8_; have BK304 := n9_; have BK312 := n10_; have HB := n11_; clear n0_ n1_ n2_ n3_ n4_ n5_ n6_ n7_ n8_ n9_ n10_ n11_; (try clear hb); (try clear hb2); (try clear hk); (try clear hi); (try clear ho0); (try clear ho1)) | ((with_reducible refine gate_dst (N := 7) rfl ?_); refine box_event ?hg (N := 7) ?hd (cs := #[.int .i64 0, .slice none 0 0, .slice none 0 0]) (t := 26) ?hr ?_; (case hd => rfl); (case hg => rfl); (case hr => first | (go_simp; done) | (go_simp; rfl)); intro gb321 hg w34 hbox hb; have n0_ := Aside0.mk (Kd.R_below (uR HO292) hb); have n1_ := Aside0.mk (Kd.R_below (uR HO295) hb); have n2_ := Aside0.mk (Kd.R_below (uR HO299) hb); have n3_ := Aside0.mk (Kd.R_below (uR HO302) hb); have n4_ := Aside0.mk (Kd.R_below (uR HO308) hb); have n5_ := Aside0.mk (Kd.R_below (uR HO311) hb); have n6_ := Aside0.mk (Kd.R_below (uR HO316) hb); have n7_ := Aside0.mk (Kd.R_below (uR HO319) hb); have n8_ := Aside0.mk (blk_below (g := gb287) (o := .cells #[.int .i64 a0_0, .slice A0_1 l0_1.length c0_1, .slice A0_2 l0_2.length c0_2] 24 (0, 0)) (uK BK287) hb); have n9_ := Aside0.mk (blk_below (g := gb304) (o := .cells #[.int .i64 t296, .slice Ao23 t297.length co23, .slice Ao24 t300.length co24] 26 (0, 0)) (uK BK304) hb); have n10_ := Aside0.mk (blk_below (g := gb312) (o := .cells #[.int .i64 t305, .slice Ao31 t306.length co31, .slice Ao32 t309.length co32] 26 (0, 0)) (uK BK312) hb); have n11_ := Aside0.mk (below_step (by first | exact uB HB | exact uS HB (gC GE287 (gC GE304 (gC GE312 gN)))) hb); have n12_ := Aside0.mk (hbox); have n13_ := Aside0.mk ((by rw [hg]; exact (below_size (by first | exact uB HB | exact uS HB (gC GE287 (gC GE304 (gC GE312 gN))))) : w.heap.size ≤ gb321)); have n14_ := Aside0.mk ((by rw [hg]; exact (below_size (by first | exact uB HB | exact uS HB (gC GE287 (gC GE304 (gC GE312 gN))))) : w.heap.size ≤ gb321)); have n15_ := Aside0.mk ((by rw [hg]; exact Nat.ne_of_lt (blk_lt (g := gb287) (o := .cells #[.int .i64 a0_0, .slice A0_1 l0_1.length c0_1, .slice A0_2 l0_2.length c0_2] 24 (0, 0)) (uK BK287)) : gb287 ≠ gb321)); have n16_ := Aside0.mk ((by rw [hg]; exact Nat.ne_of_gt (blk_lt (g := gb287) (o := .cells #[.int .i64 a0_0, .slice A0_1 l0_1.length c0_1, .slice A0_2 l0_2.length c0_2] 24 (0, 0)) (uK BK287)) : gb321 ≠ gb287)); have n17_ := Aside0.mk ((by rw [hg]; exact Nat.ne_of_lt (blk_lt (g := gb304) (o := .cells #[.int .i64 t296, .slice Ao23 t297.length co23, .slice Ao24 t300.length co24] 26 (0, 0)) (uK BK304)) : gb304 ≠ gb321)); have n18_ := Aside0.mk ((by rw [hg]; exact Nat.ne_of_gt (blk_lt (g := gb304) (o := .cells #[.int .i64 t296, .slice Ao23 t297.length co23, .slice Ao24 t300.length co24] 26 (0, 0)) (uK BK304)) : gb321 ≠ gb304)); have n19_ := Aside0.mk ((by rw [hg]; exact Nat.ne_of_lt (blk_lt (g := gb312) (o := .cells #[.int .i64 t305, .slice Ao31 t306.length co31, .slice Ao32 t309.length co32] 26 (0, 0)) (uK BK312)) : gb312 ≠ gb321)); have n20_ := Aside0.mk ((by rw [hg]; exact Nat.ne_of_gt (blk_lt (g := gb312) (o := .cells #[.int .i64 t305, .slice Ao31 t306.length co31, .slice Ao32 t309.length co32] 26 (0, 0)) (uK BK312)) : gb321 ≠ gb312)); clear HO292 HO295 HO299 HO302 HO308 HO311 HO316 HO319 BK287 BK304 BK312 HB; have HO292 := n0_; have HO295 := n1_; have HO299 := n2_; have HO302 := n3_; have HO308 := n4_; have HO311 := n5_; have HO316 := n6_; have HO319 := n7_; have BK287 := n8_; have BK304 := n9_; have BK312 := n10_; have HB := n11_; have BK321 := n12_; have GW321 := n13_; have GE321 := n14_; have NB287_321 := n15_; have NB321_287 := n16_; have NB304_321 := n17_; have NB321_304 := n18_; have NB312_321 := n19_; have NB321_312 := n20_; clear n0_ n1_ n2_ n3_ n4_ n5_ n6_ n7_ n8_ n9_ n10_ n11_ n12_ n13_ n14_ n15_ n16_ n17_ n18_ n19_ n20_ hb hbox hg; have hnb35 := NB321_287.out; have hnc35 := NB287_321.out; have hnb36 := NB321_304.out; have hnc36 := NB304_321.out; have hnb37 := NB321_312.out; have hnc37 := NB312_321.out; have hcz38_0 : w34.cell? ⟨gb321, 0, none⟩ = some (.int .i64 0) := (blk_cell BK321.out 0).trans rfl; have hcz38_1 : w34.cell? ⟨gb321, 1, none⟩ = some (.slice none 0 0) := (blk_cell BK321.out 1).trans rfl; have hcz38_2 : w34.cell? ⟨gb321, 2, none⟩ = some (.slice none 0 0) := (blk_cell BK321.out 2).trans rfl; have hfz38_0 := blk_frozen BK321.out 0; have hfz38_1 := blk_frozen BK321.out 1; have hfz38_2 := blk_frozen BK321.out 2; obtain ⟨Ao39, co39, eo39⟩ := Kd.R_slice HO316.out; subst eo39; obtain ⟨Ao40, co40, eo40⟩ := Kd.R_slice HO319.out; subst eo40))
  (try simp only [Act.put, List.setIfInBounds_toArray, List.set_cons_zero, List.set_cons_succ])
  go_cut [40] (fun v40 wc => ∃ (kq : Nat) (x40_10 : Bool), v40 = .bool x40_10 ∧ Aside0 (laws_FnExactCuckooUnstash.j0 kq t303 t320 x40_10 a0_0 l0_1 l0_2 t296 t297 t300 t305 t306 t309 t313 t314 t317 = some r) ∧ Aside0 (kq ≤ k) ∧ Aside0 (Kd.R Kd.string 9 wc w.heap.size (fun k_ => some k_ ≠ ((.slice Ao24 t300.length co24) : Value).ownBlock ∧ some k_ ≠ ((.slice Ao31 t306.length co31) : Value).ownBlock ∧ some k_ ≠ ((.slice Ao32 t309.length co32) : Value).ownBlock ∧ some k_ ≠ ((.slice Ao39 t314.length co39) : Value).ownBlock ∧ some k_ ≠ ((.slice Ao40 t317.length co40) : Value).ownBlock) (.slice Ao23 t297.length co23) t297) ∧ Aside0 (Kd.R Kd.string 9 wc w.heap.size (fun k_ => some k_ ≠ ((.slice Ao23 t297.length co23) : Value).ownBlock ∧ some k_ ≠ ((.slice Ao31 t306.length co31) : Value).ownBlock ∧ some k_ ≠ ((.slice Ao32 t309.length co32) : Value).ownBlock ∧ some k_ ≠ ((.slice Ao39 t314.length co39) : Value).ownBlock ∧ some k_ ≠ ((.slice Ao40 t317.length co40) : Value).ownBlock) (.slice Ao24 t300.length co24) t300) ∧ Aside0 (Kd.R Kd.string 9 wc w.heap.size (fun k_ => some k_ ≠ ((.slice Ao23 t297.length co23) : Value).ownBlock ∧ some k_ ≠ ((.slice Ao24 t300.length co24) : Value).ownBlock ∧ some k_ ≠ ((.slice Ao32 t309.length co32) : Value).ownBlock ∧ some k_ ≠ ((.slice Ao39 t314.length co39) : Value).ownBlock ∧ some k_ ≠ ((.slice Ao40 t317.length co40) : Value).ownBlock) (.slice Ao31 t306.length co31) t306) ∧ Aside0 (Kd.R Kd.string 9 wc w.heap.size (fun k_ => some k_ ≠ ((.slice Ao23 t297.length co23) : Value).ownBlock ∧ some k_ ≠ ((.slice Ao24 t300.length co24) : Value).ownBlock ∧ some k_ ≠ ((.slice Ao31 t306.length co31) : Value).ownBlock ∧ some k_ ≠ ((.slice Ao39 t314.length co39) : Value).ownBlock ∧ some k_ ≠ ((.slice Ao40 t317.length co40) : Value).ownBlock) (.slice Ao32 t309.length co32) t309) ∧ Aside0 (Kd.R Kd.string 9 wc w.heap.size (fun k_ => some k_ ≠ ((.slice Ao23 t297.length co23) : Value).ownBlock ∧ some k_ ≠ ((.slice Ao24 t300.length co24) : Value).ownBlock ∧ some k_ ≠ ((.slice Ao31 t306.length co31) : Value).ownBlock ∧ some k_ ≠ ((.slice Ao32 t309.length co32) : Value).ownBlock ∧ some k_ ≠ ((.slice Ao40 t317.length co40) : Value).ownBlock) (.slice Ao39 t314.length co39) t314) ∧ Aside0 (Kd.R Kd.string 9 wc w.heap.size (fun k_ => some k_ ≠ ((.slice Ao23 t297.length co23) : Value).ownBlock ∧ some k_ ≠ ((.slice Ao24 t300.length co24) : Value).ownBlock ∧ some k_ ≠ ((.slice Ao31 t306.length co31) : Value).ownBlock ∧ some k_ ≠ ((.slice Ao32 t309.length co32) : Value).ownBlock ∧ some k_ ≠ ((.slice Ao39 t314.length co39) : Value).ownBlock) (.slice Ao40 t317.length co40) t317) ∧ Aside0 (wc.heap[gb287]? = some (.cells #[.int .i64 a0_0, (.slice A0_1 l0_1.length c0_1), (.slice A0_2 l0_2.length c0_2)] 24 (0, 0))) ∧ Aside0 (wc.heap[gb304]? = some (.cells #[.int .i64 t296, (.slice Ao23 t297.length co23), (.slice Ao24 t300.length co24)] 26 (0, 0))) ∧ Aside0 (wc.heap[gb312]? = some (.cells #[.int .i64 t305, (.slice Ao31 t306.length co31), (.slice Ao32 t309.length co32)] 26 (0, 0))) ∧ Aside0 (wc.heap[gb321]? = some (.cells #[.int .i64 t313, (.slice Ao39 t314.length co39), (.slice Ao40 t317.length co40)] 26 (0, 0))) ∧ Aside0 (Below w.heap.size w wc))
  case first =>
   have H := HC11.out
   clear HC11
   replace H := Option.bind_eq_some_iff.mp H
   obtain ⟨t322, A410, H⟩ := H
   replace H : (if t322 = true then (laws_FnExactCuckooUnstash.j0 k t303 t320 (t320 != t303) a0_0 l0_1 l0_2 t296 t297 t300 t305 t306 t309 t313 t314 t317) else (laws_FnExactCuckooUnstash.j0 k t303 t320 true a0_0 l0_1 l0_2 t296 t297 t300 t305 t306 t309 t313 t314 t317)) = some r := H
   have A41 := Aside0.mk A410
   clear A410
   by_cases c42 : t322 = true
   ·
    subst c42
    have H1 : (laws_FnExactCuckooUnstash.j0 k t303 t320 (t320 != t303) a0_0 l0_1 l0_2 t296 t297 t300 t305 t306 t309 t313 t314 t317) = some r := by rw [if_pos rfl] at H; exact H
    clear H
    have H := H1
    clear H1
    have H' := Aside0.mk H
    clear H
    have hnb43 := NB321_287.out
    have hnc43 := NB287_321.out
    have hnb44 := NB321_304.out
    have hnc44 := NB304_321.out
    have hnb45 := NB321_312.out
    have hnc45 := NB312_321.out
    have hcz46_0 : w34.cell? ⟨gb321, 0, none⟩ = some (.int .i64 0) := (blk_cell BK321.out 0).trans rfl
    have hcz46_1 : w34.cell? ⟨gb321, 1, none⟩ = some (.slice none 0 0) := (blk_cell BK321.out 1).trans rfl
    have hcz46_2 : w34.cell? ⟨gb321, 2, none⟩ = some (.slice none 0 0) := (blk_cell BK321.out 2).trans rfl
    have hfz46_0 := blk_frozen BK321.out 0
    have hfz46_1 := blk_frozen BK321.out 1
    have hfz46_2 := blk_frozen BK321.out 2
    have hnb47 := NB304_287.out
    have hnc47 := NB287_304.out
    have hnb48 := NB304_312.out
    have hnc48 := NB312_304.out
    have hcz49_0 : w34.cell? ⟨gb304, 0, none⟩ = some (.int .i64 t296) := (blk_cell BK304.out 0).trans rfl
    have hcz49_1 : w34.cell? ⟨gb304, 1, none⟩ = some (.slice Ao23 t297.length co23) := (blk_cell BK304.out 1).trans rfl
    have hcz49_2 : w34.cell? ⟨gb304, 2, none⟩ = some (.slice Ao24 t300.length co24) := (blk_cell BK304.out 2).trans rfl
    have hfz49_0 := blk_frozen BK304.out 0
    have hfz49_1 := blk_frozen BK304.out 1
    have hfz49_2 := blk_frozen BK304.out 2
    go_wp2_with (first | ((with_reducible refine gate_callee (f := 10) rfl ?_); refine goesL_ (some 34) rfl rfl Try.func10 (by kernel_rfl) rfl #[.agg #[.int .i64 t313, .slice Ao39 t314.length co39, .slice Ao40 t317.length co40], .agg #[.int .i64 t296, .slice Ao23 t297.length co23, .slice Ao24 t300.length co24]] rfl (by (try simp only [List.map_toArray, List.map_cons, List.map_nil]); first | done | rfl | (simp only [List.length_drop, List.length_take]; rfl)) ?_; (with_reducible refine (laws_eqCuckoo.calls k t313 _ _ t314 _ _ t317 t296 _ _ t297 _ _ t300 true _ ?side1 ?side2 ?side3 ?side4 ?side5 ?side6 ?side7 ?side8 A41.out).mono ?_); (case side1 => refine (Kd.R_reads' (e := 9) (base := w.heap.size) (ok := fun k_ => ((((((some k_ ≠ (.slice Ao40 t317.length co40 : Value).ownBlock ∧ some k_ ≠ (.slice Ao17 t290.length co17 : Value).ownBlock) ∧ some k_ ≠ (.slice Ao18 t293.length co18 : Value).ownBlock) ∧ some k_ ≠ (.slice Ao23 t297.length co23 : Value).ownBlock) ∧ some k_ ≠ (.slice Ao24 t300.length co24 : Value).ownBlock) ∧ some k_ ≠ (.slice Ao31 t306.length co31 : Value).ownBlock) ∧ some k_ ≠ (.slice Ao32 t309.length co32 : Value).ownBlock)) (n := t314.length) (c := co39) ?_).2.2; exact (by (with_reducible repeat (first | apply Kd.R_alloc | apply Kd.R_drewN | apply Kd.R_drew)); exact (Kd.R_mono (Kd.R_far (p := ⟨gb321, 2, none⟩) (Kd.R_far (p := ⟨gb321, 1, none⟩) (Kd.R_far (p := ⟨gb321, 0, none⟩) (Kd.R_types HO316.out BK321.out (by decide)) (fun _ hk => hk.2) (.int .i64 t313)) (fun _ hk => hk.2) (.slice Ao39 t314.length co39)) (fun _ hk => hk.2) (.slice Ao40 t317.length co40)) (fun _ h_ => h_.1)))); (case side2 => exact (Kd.R_reads' HO316.out).2.1); (case side3 => refine (Kd.R_reads' (e := 9) (base := w.heap.size) (ok := fun k_ => ((((((some k_ ≠ (.slice Ao39 t314.length co39 : Value).ownBlock ∧ some k_ ≠ (.slice Ao17 t290.length co17 : Value).ownBlock) ∧ some k_ ≠ (.slice Ao18 t293.length co18 : Value).ownBlock) ∧ some k_ ≠ (.slice Ao23 t297.length co23 : Value).ownBlock) ∧ some k_ ≠ (.slice Ao24 t300.length co24 : Value).ownBlock) ∧ some k_ ≠ (.slice Ao31 t306.length co31 : Value).ownBlock) ∧ some k_ ≠ (.slice Ao32 t309.length co32 : Value).ownBlock)) (n := t317.length) (c := co40) ?_).2.2; exact (by (with_reducible repeat (first | apply Kd.R_alloc | apply Kd.R_drewN | apply Kd.R_drew)); exact (Kd.R_mono (Kd.R_far (p := ⟨gb321, 2, none⟩) (Kd.R_far (p := ⟨gb321, 1, none⟩) (Kd.R_far (p := ⟨gb321, 0, none⟩) (Kd.R_types HO319.out BK321.out (by decide)) (fun _ hk => hk.2) (.int .i64 t313)) (fun _ hk => hk.2) (.slice Ao39 t314.length co39)) (fun _ hk => hk.2) (.slice Ao40 t317.length co40)) (fun _ h_ => h_.1)))); (case side4 => exact (Kd.R_reads' HO319.out).2.1); (case side5 => refine (Kd.R_reads' (e := 9) (base := w.heap.size) (ok := fun k_ => ((((((some k_ ≠ (.slice Ao24 t300.length co24 : Value).ownBlock ∧ some k_ ≠ (.slice Ao17 t290.length co17 : Value).ownBlock) ∧ some k_ ≠ (.slice Ao18 t293.length co18 : Value).ownBlock) ∧ some k_ ≠ (.slice Ao31 t306.length co31 : Value).ownBlock) ∧ some k_ ≠ (.slice Ao32 t309.length co32 : Value).ownBlock) ∧ some k_ ≠ (.slice Ao39 t314.length co39 : Value).ownBlock) ∧ some k_ ≠ (.slice Ao40 t317.length co40 : Value).ownBlock)) (n := t297.length) (c := co23) ?_).2.2; exact (by (with_reducible repeat (first | apply Kd.R_alloc | apply Kd.R_drewN | apply Kd.R_drew)); exact (Kd.R_mono (Kd.R_far (p := ⟨gb321, 2, none⟩) (Kd.R_far (p := ⟨gb321, 1, none⟩) (Kd.R_far (p := ⟨gb321, 0, none⟩) (Kd.R_types HO299.out BK321.out (by decide)) (fun _ hk => hk.2) (.int .i64 t313)) (fun _ hk => hk.2) (.slice Ao39 t314.length co39)) (fun _ hk => hk.2) (.slice Ao40 t317.length co40)) (fun _ h_ => h_.1)))); (case side6 => exact (Kd.R_reads' HO299.out).2.1); (case side7 => refine (Kd.R_reads' (e := 9) (base := w.heap.size) (ok := fun k_ => ((((((some k_ ≠ (.slice Ao23 t297.length co23 : Value).ownBlock ∧ some k_ ≠ (.slice Ao17 t290.length co17 : Value).ownBlock) ∧ some k_ ≠ (.slice Ao18 t293.length co18 : Value).ownBlock) ∧ some k_ ≠ (.slice Ao31 t306.length co31 : Value).ownBlock) ∧ some k_ ≠ (.slice Ao32 t309.length co32 : Value).ownBlock) ∧ some k_ ≠ (.slice Ao39 t314.length co39 : Value).ownBlock) ∧ some k_ ≠ (.slice Ao40 t317.length co40 : Value).ownBlock)) (n := t300.length) (c := co24) ?_).2.2; exact (by (with_reducible repeat (first | apply Kd.R_alloc | apply Kd.R_drewN | apply Kd.R_drew)); exact (Kd.R_mono (Kd.R_far (p := ⟨gb321, 2, none⟩) (Kd.R_far (p := ⟨gb321, 1, none⟩) (Kd.R_far (p := ⟨gb321, 0, none⟩) (Kd.R_types HO302.out BK321.out (by decide)) (fun _ hk => hk.2) (.int .i64 t313)) (fun _ hk => hk.2) (.slice Ao39 t314.length co39)) (fun _ hk => hk.2) (.slice Ao40 t317.length co40)) (fun _ h_ => h_.1)))); (case side8 => exact (Kd.R_reads' HO302.out).2.1); rintro e w50 ⟨rfl, hb⟩; refine ⟨_, rfl, ?_⟩; have n0_ := Aside0.mk (Kd.R_below (by (with_reducible repeat (first | apply Kd.R_alloc | apply Kd.R_drewN | apply Kd.R_drew)); exact (Kd.R_mono (Kd.R_far (p := ⟨gb321, 2, none⟩) (Kd.R_far (p := ⟨gb321, 1, none⟩) (Kd.R_far (p := ⟨gb321, 0, none⟩) (Kd.R_types HO292.out BK321.out (by decide)) (fun _ hk => hk.2) (.int .i64 t313)) (fun _ hk => hk.2) (.slice Ao39 t314.length co39)) (fun _ hk => hk.2) (.slice Ao40 t317.length co40)) (fun _ h_ => h_.1))) hb); have n1_ := Aside0.mk (Kd.R_below (by (with_reducible repeat (first | apply Kd.R_alloc | apply Kd.R_drewN | apply Kd.R_drew)); exact (Kd.R_mono (Kd.R_far (p := ⟨gb321, 2, none⟩) (Kd.R_far (p := ⟨gb321, 1, none⟩) (Kd.R_far (p := ⟨gb321, 0, none⟩) (Kd.R_types HO295.out BK321.out (by decide)) (fun _ hk => hk.2) (.int .i64 t313)) (fun _ hk => hk.2) (.slice Ao39 t314.length co39)) (fun _ hk => hk.2) (.slice Ao40 t317.length co40)) (fun _ h_ => h_.1))) hb); have n2_ := Aside0.mk (Kd.R_below (by (with_reducible repeat (first | apply Kd.R_alloc | apply Kd.R_drewN | apply Kd.R_drew)); exact (Kd.R_mono (Kd.R_far (p := ⟨gb321, 2, none⟩) (Kd.R_far (p := ⟨gb321, 1, none⟩) (Kd.R_far (p := ⟨gb321, 0, none⟩) (Kd.R_types HO299.out BK321.out (by decide)) (fun _ hk => hk.2) (.int .i64 t313)) (fun _ hk => hk.2) (.slice Ao39 t314.length co39)) (fun _ hk => hk.2) (.slice Ao40 t317.length co40)) (fun _ h_ => h_.1))) hb); have n3_ := Aside0.mk (Kd.R_below (by (with_reducible repeat (first | apply Kd.R_alloc | apply Kd.R_drewN | apply Kd.R_drew)); exact (Kd.R_mono (Kd.R_far (p := ⟨gb321, 2, none⟩) (Kd.R_far (p := ⟨gb321, 1, none⟩) (Kd.R_far (p := ⟨gb321, 0, none⟩) (Kd.R_types HO302.out BK321.out (by decide)) (fun _ hk => hk.2) (.int .i64 t313)) (fun _ hk => hk.2) (.slice Ao39 t314.length co39)) (fun _ hk => hk.2) (.slice Ao40 t317.length co40)) (fun _ h_ => h_.1))) hb); have n4_ := Aside0.mk (Kd.R_below (by (with_reducible repeat (first | apply Kd.R_alloc | apply Kd.R_drewN | apply Kd.R_drew)); exact (Kd.R_mono (Kd.R_far (p := ⟨gb321, 2, none⟩) (Kd.R_far (p := ⟨gb321, 1, none⟩) (Kd.R_far (p := ⟨gb321, 0, none⟩) (Kd.R_types HO308.out BK321.out (by decide)) (fun _ hk => hk.2) (.int .i64 t313)) (fun _ hk => hk.2) (.slice Ao39 t314.length co39)) (fun _ hk => hk.2) (.slice Ao40 t317.length co40)) (fun _ h_ => h_.1))) hb); have n5_ := Aside0.mk (Kd.R_below (by (with_reducible repeat (first | apply Kd.R_alloc | apply Kd.R_drewN | apply Kd.R_drew)); exact (Kd.R_mono (Kd.R_far (p := ⟨gb321, 2, none⟩) (Kd.R_far (p := ⟨gb321, 1, none⟩) (Kd.R_far (p := ⟨gb321, 0, none⟩) (Kd.R_types HO311.out BK321.out (by decide)) (fun _ hk => hk.2) (.int .i64 t313)) (fun _ hk => hk.2) (.slice Ao39 t314.length co39)) (fun _ hk => hk.2) (.slice Ao40 t317.length co40)) (fun _ h_ => h_.1))) hb); have n6_ := Aside0.mk (Kd.R_below (by (with_reducible repeat (first | apply Kd.R_alloc | apply Kd.R_drewN | apply Kd.R_drew)); exact (Kd.R_mono (Kd.R_far (p := ⟨gb321, 2, none⟩) (Kd.R_far (p := ⟨gb321, 1, none⟩) (Kd.R_far (p := ⟨gb321, 0, none⟩) (Kd.R_types HO316.out BK321.out (by decide)) (fun _ hk => hk.2) (.int .i64 t313)) (fun _ hk => hk.2) (.slice Ao39 t314.length co39)) (fun _ hk => hk.2) (.slice Ao40 t317.length co40)) (fun _ h_ => h_.1))) hb); have n7_ := Aside0.mk (Kd.R_below (by (with_reducible repeat (first | apply Kd.R_alloc | apply Kd.R_drewN | apply Kd.R_drew)); exact (Kd.R_mono (Kd.R_far (p := ⟨gb321, 2, none⟩) (Kd.R_far (p := ⟨gb321, 1, none⟩) (Kd.R_far (p := ⟨gb321, 0, none⟩) (Kd.R_types HO319.out BK321.out (by decide)) (fun _ hk => hk.2) (.int .i64 t313)) (fun _ hk => hk.2) (.slice Ao39 t314.length co39)) (fun _ hk => hk.2) (.slice Ao40 t317.length co40)) (fun _ h_ => h_.1))) hb); have n8_ := Aside0.mk (blk_below (g := gb287) (o := .cells #[.int .i64 a0_0, .slice A0_1 l0_1.length c0_1, .slice A0_2 l0_2.length c0_2] 24 (0, 0)) (by refine uW ?_; refine blk_far ?_ NB287_321.out _; refine uW ?_; refine blk_far ?_ NB287_321.out _; refine uW ?_; refine blk_far ?_ NB287_321.out _; refine uW ?_; exact BK287.out) hb); have n9_ := Aside0.mk (blk_below (g := gb304) (o := .cells #[.int .i64 t296, .slice Ao23 t297.length co23, .slice Ao24 t300.length co24] 26 (0, 0)) (by refine uW ?_; refine blk_far ?_ NB304_321.out _; refine uW ?_; refine blk_far ?_ NB304_321.out _; refine uW ?_; refine blk_far ?_ NB304_321.out _; refine uW ?_; exact BK304.out) hb); have n10_ := Aside0.mk (blk_below (g := gb312) (o := .cells #[.int .i64 t305, .slice Ao31 t306.length co31, .slice Ao32 t309.length co32] 26 (0, 0)) (by refine uW ?_; refine blk_far ?_ NB312_321.out _; refine uW ?_; refine blk_far ?_ NB312_321.out _; refine uW ?_; refine blk_far ?_ NB312_321.out _; refine uW ?_; exact BK312.out) hb); have n11_ := Aside0.mk (blk_below (g := gb321) (o := .cells #[.int .i64 t313, .slice Ao39 t314.length co39, .slice Ao40 t317.length co40] 26 (0, 0)) (by refine uW ?_; refine blk_put (cs := #[.int .i64 t313, .slice Ao39 t314.length co39, .slice none 0 0]) ?_ 2 _ rfl; refine uW ?_; refine blk_put (cs := #[.int .i64 t313, .slice none 0 0, .slice none 0 0]) ?_ 1 _ rfl; refine uW ?_; refine blk_put (cs := #[.int .i64 0, .slice none 0 0, .slice none 0 0]) ?_ 0 _ rfl; refine uW ?_; exact BK321.out) hb); have n12_ := Aside0.mk (below_step (by first | exact uB HB | exact uS HB (gC GE287 (gC GE304 (gC GE312 (gC GE321 gN))))) hb); clear HO292 HO295 HO299 HO302 HO308 HO311 HO316 HO319 BK287 BK304 BK312 BK321 HB; have HO292 := n0_; have HO295 := n1_; have HO299 := n2_; have HO302 := n3_; have HO308 := n4_; have HO311 := n5_; have HO316 := n6_; have HO319 := n7_; have BK287 := n8_; have BK304 := n9_; have BK312 := n10_; have BK321 := n11_; have HB := n12_; clear n0_ n1_ n2_ n3_ n4_ n5_ n6_ n7_ n8_ n9_ n10_ n11_ n12_; (try clear hb); (try clear hb2); (try clear hk); (try clear hi)))
    go_meet
    case rel => exact ⟨_, ((t320 != t303)), (by first | rfl | (simp; done) | (simp [*]; done)), H', ⟨by first | omega | exact Nat.le_refl _⟩, ⟨by (with_reducible repeat (first | apply Kd.R_alloc | apply Kd.R_drewN | apply Kd.R_drew)); exact Kd.R_mono HO299.out (fun _ hk => ⟨hk.1.1.1.1.1.1, ⟨hk.1.1.1.2, ⟨hk.1.1.2, ⟨hk.1.2, hk.2⟩⟩⟩⟩)⟩, ⟨by (with_reducible repeat (first | apply Kd.R_alloc | apply Kd.R_drewN | apply Kd.R_drew)); exact Kd.R_mono HO302.out (fun _ hk => ⟨hk.1.1.1.1.1.1, ⟨hk.1.1.1.2, ⟨hk.1.1.2, ⟨hk.1.2, hk.2⟩⟩⟩⟩)⟩, ⟨by (with_reducible repeat (first | apply Kd.R_alloc | apply Kd.R_drewN | apply Kd.R_drew)); exact Kd.R_mono HO308.out (fun _ hk => ⟨hk.1.1.1.2, ⟨hk.1.1.2, ⟨hk.1.1.1.1.1.1, ⟨hk.1.2, hk.2⟩⟩⟩⟩)⟩, ⟨by (with_reducible repeat (first | apply Kd.R_alloc | apply Kd.R_drewN | apply Kd.R_drew)); exact Kd.R_mono HO311.out (fun _ hk => ⟨hk.1.1.1.2, ⟨hk.1.1.2, ⟨hk.1.1.1.1.1.1, ⟨hk.1.2, hk.2⟩⟩⟩⟩)⟩, ⟨by (with_reducible repeat (first | apply Kd.R_alloc | apply Kd.R_drewN | apply Kd.R_drew)); exact Kd.R_mono HO316.out (fun _ hk => ⟨hk.1.1.1.2, ⟨hk.1.1.2, ⟨hk.1.2, ⟨hk.2, hk.1.1.1.1.1.1⟩⟩⟩⟩)⟩, ⟨by (with_reducible repeat (first | apply Kd.R_alloc | apply Kd.R_drewN | apply Kd.R_drew)); exact Kd.R_mono HO319.out (fun _ hk => ⟨hk.1.1.1.2, ⟨hk.1.1.2, ⟨hk.1.2, ⟨hk.2, hk.1.1.1.1.1.1⟩⟩⟩⟩)⟩, ⟨by refine uW ?_; exact BK287.out⟩, ⟨by refine uW ?_; exact BK304.out⟩, ⟨by refine uW ?_; exact BK312.out⟩, ⟨by refine uW ?_; exact BK321.out⟩, ⟨by first | exact uB HB | exact uS HB (gC GE287 (gC GE304 (gC GE312 (gC GE321 gN))))⟩⟩
   ·
    replace c42 := Bool.eq_false_iff.mpr c42
    subst c42
    have H1 : (laws_FnExactCuckooUnstash.j0 k t303 t320 true a0_0 l0_1 l0_2 t296 t297 t300 t305 t306 t309 t313 t314 t317) = some r := by rw [if_neg (show ¬ (false = true) by decide)] at H; exact H
    clear H
    have H := H1
    clear H1
    have H' := Aside0.mk H
    clear H
    have hnb51 := NB321_287.out
    have hnc51 := NB287_321.out
    have hnb52 := NB321_304.out
    have hnc52 := NB304_321.out
    have hnb53 := NB321_312.out
    have hnc53 := NB312_321.out
    have hcz54_0 : w34.cell? ⟨gb321, 0, none⟩ = some (.int .i64 0) := (blk_cell BK321.out 0).trans rfl
    have hcz54_1 : w34.cell? ⟨gb321, 1, none⟩ = some (.slice none 0 0) := (blk_cell BK321.out 1).trans rfl
    have hcz54_2 : w34.cell? ⟨gb321, 2, none⟩ = some (.slice none 0 0) := (blk_cell BK321.out 2).trans rfl
    have hfz54_0 := blk_frozen BK321.out 0
    have hfz54_1 := blk_frozen BK321.out 1
    have hfz54_2 := blk_frozen BK321.out 2
    have hnb55 := NB304_287.out
    have hnc55 := NB287_304.out
    have hnb56 := NB304_312.out
    have hnc56 := NB312_304.out
    have hcz57_0 : w34.cell? ⟨gb304, 0, none⟩ = some (.int .i64 t296) := (blk_cell BK304.out 0).trans rfl
    have hcz57_1 : w34.cell? ⟨gb304, 1, none⟩ = some (.slice Ao23 t297.length co23) := (blk_cell BK304.out 1).trans rfl
    have hcz57_2 : w34.cell? ⟨gb304, 2, none⟩ = some (.slice Ao24 t300.length co24) := (blk_cell BK304.out 2).trans rfl
    have hfz57_0 := blk_frozen BK304.out 0
    have hfz57_1 := blk_frozen BK304.out 1
    have hfz57_2 := blk_frozen BK304.out 2
    go_wp2_with (first | ((with_reducible refine gate_callee (f := 10) rfl ?_); refine goesL_ (some 34) rfl rfl Try.func10 (by kernel_rfl) rfl #[.agg #[.int .i64 t313, .slice Ao39 t314.length co39, .slice Ao40 t317.length co40], .agg #[.int .i64 t296, .slice Ao23 t297.length co23, .slice Ao24 t300.length co24]] rfl (by (try simp only [List.map_toArray, List.map_cons, List.map_nil]); first | done | rfl | (simp only [List.length_drop, List.length_take]; rfl)) ?_; (with_reducible refine (laws_eqCuckoo.calls k t313 _ _ t314 _ _ t317 t296 _ _ t297 _ _ t300 false _ ?side1 ?side2 ?side3 ?side4 ?side5 ?side6 ?side7 ?side8 A41.out).mono ?_); (case side1 => refine (Kd.R_reads' (e := 9) (base := w.heap.size) (ok := fun k_ => ((((((some k_ ≠ (.slice Ao40 t317.length co40 : Value).ownBlock ∧ some k_ ≠ (.slice Ao17 t290.length co17 : Value).ownBlock) ∧ some k_ ≠ (.slice Ao18 t293.length co18 : Value).ownBlock) ∧ some k_ ≠ (.slice Ao23 t297.length co23 : Value).ownBlock) ∧ some k_ ≠ (.slice Ao24 t300.length co24 : Value).ownBlock) ∧ some k_ ≠ (.slice Ao31 t306.length co31 : Value).ownBlock) ∧ some k_ ≠ (.slice Ao32 t309.length co32 : Value).ownBlock)) (n := t314.length) (c := co39) ?_).2.2; exact (by (with_reducible repeat (first | apply Kd.R_alloc | apply Kd.R_drewN | apply Kd.R_drew)); exact (Kd.R_mono (Kd.R_far (p := ⟨gb321, 2, none⟩) (Kd.R_far (p := ⟨gb321, 1, none⟩) (Kd.R_far (p := ⟨gb321, 0, none⟩) (Kd.R_types HO316.out BK321.out (by decide)) (fun _ hk => hk.2) (.int .i64 t313)) (fun _ hk => hk.2) (.slice Ao39 t314.length co39)) (fun _ hk => hk.2) (.slice Ao40 t317.length co40)) (fun _ h_ => h_.1)))); (case side2 => exact (Kd.R_reads' HO316.out).2.1); (case side3 => refine (Kd.R_reads' (e := 9) (base := w.heap.size) (ok := fun k_ => ((((((some k_ ≠ (.slice Ao39 t314.length co39 : Value).ownBlock ∧ some k_ ≠ (.slice Ao17 t290.length co17 : Value).ownBlock) ∧ some k_ ≠ (.slice Ao18 t293.length co18 : Value).ownBlock) ∧ some k_ ≠ (.slice Ao23 t297.length co23 : Value).ownBlock) ∧ some k_ ≠ (.slice Ao24 t300.length co24 : Value).ownBlock) ∧ some k_ ≠ (.slice Ao31 t306.length co31 : Value).ownBlock) ∧ some k_ ≠ (.slice Ao32 t309.length co32 : Value).ownBlock)) (n := t317.length) (c := co40) ?_).2.2; exact (by (with_reducible repeat (first | apply Kd.R_alloc | apply Kd.R_drewN | apply Kd.R_drew)); exact (Kd.R_mono (Kd.R_far (p := ⟨gb321, 2, none⟩) (Kd.R_far (p := ⟨gb321, 1, none⟩) (Kd.R_far (p := ⟨gb321, 0, none⟩) (Kd.R_types HO319.out BK321.out (by decide)) (fun _ hk => hk.2) (.int .i64 t313)) (fun _ hk => hk.2) (.slice Ao39 t314.length co39)) (fun _ hk => hk.2) (.slice Ao40 t317.length co40)) (fun _ h_ => h_.1)))); (case side4 => exact (Kd.R_reads' HO319.out).2.1); (case side5 => refine (Kd.R_reads' (e := 9) (base := w.heap.size) (ok := fun k_ => ((((((some k_ ≠ (.slice Ao24 t300.length co24 : Value).ownBlock ∧ some k_ ≠ (.slice Ao17 t290.length co17 : Value).ownBlock) ∧ some k_ ≠ (.slice Ao18 t293.length co18 : Value).ownBlock) ∧ some k_ ≠ (.slice Ao31 t306.length co31 : Value).ownBlock) ∧ some k_ ≠ (.slice Ao32 t309.length co32 : Value).ownBlock) ∧ some k_ ≠ (.slice Ao39 t314.length co39 : Value).ownBlock) ∧ some k_ ≠ (.slice Ao40 t317.length co40 : Value).ownBlock)) (n := t297.length) (c := co23) ?_).2.2; exact (by (with_reducible repeat (first | apply Kd.R_alloc | apply Kd.R_drewN | apply Kd.R_drew)); exact (Kd.R_mono (Kd.R_far (p := ⟨gb321, 2, none⟩) (Kd.R_far (p := ⟨gb321, 1, none⟩) (Kd.R_far (p := ⟨gb321, 0, none⟩) (Kd.R_types HO299.out BK321.out (by decide)) (fun _ hk => hk.2) (.int .i64 t313)) (fun _ hk => hk.2) (.slice Ao39 t314.length co39)) (fun _ hk => hk.2) (.slice Ao40 t317.length co40)) (fun _ h_ => h_.1)))); (case side6 => exact (Kd.R_reads' HO299.out).2.1); (case side7 => refine (Kd.R_reads' (e := 9) (base := w.heap.size) (ok := fun k_ => ((((((some k_ ≠ (.slice Ao23 t297.length co23 : Value).ownBlock ∧ some k_ ≠ (.slice Ao17 t290.length co17 : Value).ownBlock) ∧ some k_ ≠ (.slice Ao18 t293.length co18 : Value).ownBlock) ∧ some k_ ≠ (.slice Ao31 t306.length co31 : Value).ownBlock) ∧ some k_ ≠ (.slice Ao32 t309.length co32 : Value).ownBlock) ∧ some k_ ≠ (.slice Ao39 t314.length co39 : Value).ownBlock) ∧ some k_ ≠ (.slice Ao40 t317.length co40 : Value).ownBlock)) (n := t300.length) (c := co24) ?_).2.2; exact (by (with_reducible repeat (first | apply Kd.R_alloc | apply Kd.R_drewN | apply Kd.R_drew)); exact (Kd.R_mono (Kd.R_far (p := ⟨gb321, 2, none⟩) (Kd.R_far (p := ⟨gb321, 1, none⟩) (Kd.R_far (p := ⟨gb321, 0, none⟩) (Kd.R_types HO302.out BK321.out (by decide)) (fun _ hk => hk.2) (.int .i64 t313)) (fun _ hk => hk.2) (.slice Ao39 t314.length co39)) (fun _ hk => hk.2) (.slice Ao40 t317.length co40)) (fun _ h_ => h_.1)))); (case side8 => exact (Kd.R_reads' HO302.out).2.1); rintro e w58 ⟨rfl, hb⟩; refine ⟨_, rfl, ?_⟩; have n0_ := Aside0.mk (Kd.R_below (by (with_reducible repeat (first | apply Kd.R_alloc | apply Kd.R_drewN | apply Kd.R_drew)); exact (Kd.R_mono (Kd.R_far (p := ⟨gb321, 2, none⟩) (Kd.R_far (p := ⟨gb321, 1, none⟩) (Kd.R_far (p := ⟨gb321, 0, none⟩) (Kd.R_types HO292.out BK321.out (by decide)) (fun _ hk => hk.2) (.int .i64 t313)) (fun _ hk => hk.2) (.slice Ao39 t314.length co39)) (fun _ hk => hk.2) (.slice Ao40 t317.length co40)) (fun _ h_ => h_.1))) hb); have n1_ := Aside0.mk (Kd.R_below (by (with_reducible repeat (first | apply Kd.R_alloc | apply Kd.R_drewN | apply Kd.R_drew)); exact (Kd.R_mono (Kd.R_far (p := ⟨gb321, 2, none⟩) (Kd.R_far (p := ⟨gb321, 1, none⟩) (Kd.R_far (p := ⟨gb321, 0, none⟩) (Kd.R_types HO295.out BK321.out (by decide)) (fun _ hk => hk.2) (.int .i64 t313)) (fun _ hk => hk.2) (.slice Ao39 t314.length co39)) (fun _ hk => hk.2) (.slice Ao40 t317.length co40)) (fun _ h_ => h_.1))) hb); have n2_ := Aside0.mk (Kd.R_below (by (with_reducible repeat (first | apply Kd.R_alloc | apply Kd.R_drewN | apply Kd.R_drew)); exact (Kd.R_mono (Kd.R_far (p := ⟨gb321, 2, none⟩) (Kd.R_far (p := ⟨gb321, 1, none⟩) (Kd.R_far (p := ⟨gb321, 0, none⟩) (Kd.R_types HO299.out BK321.out (by decide)) (fun _ hk => hk.2) (.int .i64 t313)) (fun _ hk => hk.2) (.slice Ao39 t314.length co39)) (fun _ hk => hk.2) (.slice Ao40 t317.length co40)) (fun _ h_ => h_.1))) hb); have n3_ := Aside0.mk (Kd.R_below (by (with_reducible repeat (first | apply Kd.R_alloc | apply Kd.R_drewN | apply Kd.R_drew)); exact (Kd.R_mono (Kd.R_far (p := ⟨gb321, 2, none⟩) (Kd.R_far (p := ⟨gb321, 1, none⟩) (Kd.R_far (p := ⟨gb321, 0, none⟩) (Kd.R_types HO302.out BK321.out (by decide)) (fun _ hk => hk.2) (.int .i64 t313)) (fun _ hk => hk.2) (.slice Ao39 t314.length co39)) (fun _ hk => hk.2) (.slice Ao40 t317.length co40)) (fun _ h_ => h_.1))) hb); have n4_ := Aside0.mk (Kd.R_below (by (with_reducible repeat (first | apply Kd.R_alloc | apply Kd.R_drewN | apply Kd.R_drew)); exact (Kd.R_mono (Kd.R_far (p := ⟨gb321, 2, none⟩) (Kd.R_far (p := ⟨gb321, 1, none⟩) (Kd.R_far (p := ⟨gb321, 0, none⟩) (Kd.R_types HO308.out BK321.out (by decide)) (fun _ hk => hk.2) (.int .i64 t313)) (fun _ hk => hk.2) (.slice Ao39 t314.length co39)) (fun _ hk => hk.2) (.slice Ao40 t317.length co40)) (fun _ h_ => h_.1))) hb); have n5_ := Aside0.mk (Kd.R_below (by (with_reducible repeat (first | apply Kd.R_alloc | apply Kd.R_drewN | apply Kd.R_drew)); exact (Kd.R_mono (Kd.R_far (p := ⟨gb321, 2, none⟩) (Kd.R_far (p := ⟨gb321, 1, none⟩) (Kd.R_far (p := ⟨gb321, 0, none⟩) (Kd.R_types HO311.out BK321.out (by decide)) (fun _ hk => hk.2) (.int .i64 t313)) (fun _ hk => hk.2) (.slice Ao39 t314.length co39)) (fun _ hk => hk.2) (.slice Ao40 t317.length co40)) (fun _ h_ => h_.1))) hb); have n6_ := Aside0.mk (Kd.R_below (by (with_reducible repeat (first | apply Kd.R_alloc | apply Kd.R_drewN | apply Kd.R_drew)); exact (Kd.R_mono (Kd.R_far (p := ⟨gb321, 2, none⟩) (Kd.R_far (p := ⟨gb321, 1, none⟩) (Kd.R_far (p := ⟨gb321, 0, none⟩) (Kd.R_types HO316.out BK321.out (by decide)) (fun _ hk => hk.2) (.int .i64 t313)) (fun _ hk => hk.2) (.slice Ao39 t314.length co39)) (fun _ hk => hk.2) (.slice Ao40 t317.length co40)) (fun _ h_ => h_.1))) hb); have n7_ := Aside0.mk (Kd.R_below (by (with_reducible repeat (first | apply Kd.R_alloc | apply Kd.R_drewN | apply Kd.R_drew)); exact (Kd.R_mono (Kd.R_far (p := ⟨gb321, 2, none⟩) (Kd.R_far (p := ⟨gb321, 1, none⟩) (Kd.R_far (p := ⟨gb321, 0, none⟩) (Kd.R_types HO319.out BK321.out (by decide)) (fun _ hk => hk.2) (.int .i64 t313)) (fun _ hk => hk.2) (.slice Ao39 t314.length co39)) (fun _ hk => hk.2) (.slice Ao40 t317.length co40)) (fun _ h_ => h_.1))) hb); have n8_ := Aside0.mk (blk_below (g := gb287) (o := .cells #[.int .i64 a0_0, .slice A0_1 l0_1.length c0_1, .slice A0_2 l0_2.length c0_2] 24 (0, 0)) (by refine uW ?_; refine blk_far ?_ NB287_321.out _; refine uW ?_; refine blk_far ?_ NB287_321.out _; refine uW ?_; refine blk_far ?_ NB287_321.out _; refine uW ?_; exact BK287.out) hb); have n9_ := Aside0.mk (blk_below (g := gb304) (o := .cells #[.int .i64 t296, .slice Ao23 t297.length co23, .slice Ao24 t300.length co24] 26 (0, 0)) (by refine uW ?_; refine blk_far ?_ NB304_321.out _; refine uW ?_; refine blk_far ?_ NB304_321.out _; refine uW ?_; refine blk_far ?_ NB304_321.out _; refine uW ?_; exact BK304.out) hb); have n10_ := Aside0.mk (blk_below (g := gb312) (o := .cells #[.int .i64 t305, .slice Ao31 t306.length co31, .slice Ao32 t309.length co32] 26 (0, 0)) (by refine uW ?_; refine blk_far ?_ NB312_321.out _; refine uW ?_; refine blk_far ?_ NB312_321.out _; refine uW ?_; refine blk_far ?_ NB312_321.out _; refine uW ?_; exact BK312.out) hb); have n11_ := Aside0.mk (blk_below (g := gb321) (o := .cells #[.int .i64 t313, .slice Ao39 t314.length co39, .slice Ao40 t317.length co40] 26 (0, 0)) (by refine uW ?_; refine blk_put (cs := #[.int .i64 t313, .slice Ao39 t314.length co39, .slice none 0 0]) ?_ 2 _ rfl; refine uW ?_; refine blk_put (cs := #[.int .i64 t313, .slice none 0 0, .slice none 0 0]) ?_ 1 _ rfl; refine uW ?_; refine blk_put (cs := #[.int .i64 0, .slice none 0 0, .slice none 0 0]) ?_ 0 _ rfl; refine uW ?_; exact BK321.out) hb); have n12_ := Aside0.mk (below_step (by first | exact uB HB | exact uS HB (gC GE287 (gC GE304 (gC GE312 (gC GE321 gN))))) hb); clear HO292 HO295 HO299 HO302 HO308 HO311 HO316 HO319 BK287 BK304 BK312 BK321 HB; have HO292 := n0_; have HO295 := n1_; have HO299 := n2_; have HO302 := n3_; have HO308 := n4_; have HO311 := n5_; have HO316 := n6_; have HO319 := n7_; have BK287 := n8_; have BK304 := n9_; have BK312 := n10_; have BK321 := n11_; have HB := n12_; clear n0_ n1_ n2_ n3_ n4_ n5_ n6_ n7_ n8_ n9_ n10_ n11_ n12_; (try clear hb); (try clear hb2); (try clear hk); (try clear hi)))
    go_meet
    case rel => exact ⟨_, (true), (by first | rfl | (simp; done) | (simp [*]; done)), H', ⟨by first | omega | exact Nat.le_refl _⟩, ⟨by (with_reducible repeat (first | apply Kd.R_alloc | apply Kd.R_drewN | apply Kd.R_drew)); exact Kd.R_mono HO299.out (fun _ hk => ⟨hk.1.1.1.1.1.1, ⟨hk.1.1.1.2, ⟨hk.1.1.2, ⟨hk.1.2, hk.2⟩⟩⟩⟩)⟩, ⟨by (with_reducible repeat (first | apply Kd.R_alloc | apply Kd.R_drewN | apply Kd.R_drew)); exact Kd.R_mono HO302.out (fun _ hk => ⟨hk.1.1.1.1.1.1, ⟨hk.1.1.1.2, ⟨hk.1.1.2, ⟨hk.1.2, hk.2⟩⟩⟩⟩)⟩, ⟨by (with_reducible repeat (first | apply Kd.R_alloc | apply Kd.R_drewN | apply Kd.R_drew)); exact Kd.R_mono HO308.out (fun _ hk => ⟨hk.1.1.1.2, ⟨hk.1.1.2, ⟨hk.1.1.1.1.1.1, ⟨hk.1.2, hk.2⟩⟩⟩⟩)⟩, ⟨by (with_reducible repeat (first | apply Kd.R_alloc | apply Kd.R_drewN | apply Kd.R_drew)); exact Kd.R_mono HO311.out (fun _ hk => ⟨hk.1.1.1.2, ⟨hk.1.1.2, ⟨hk.1.1.1.1.1.1, ⟨hk.1.2, hk.2⟩⟩⟩⟩)⟩, ⟨by (with_reducible repeat (first | apply Kd.R_alloc | apply Kd.R_drewN | apply Kd.R_drew)); exact Kd.R_mono HO316.out (fun _ hk => ⟨hk.1.1.1.2, ⟨hk.1.1.2, ⟨hk.1.2, ⟨hk.2, hk.1.1.1.1.1.1⟩⟩⟩⟩)⟩, ⟨by (with_reducible repeat (first | apply Kd.R_alloc | apply Kd.R_drewN | apply Kd.R_drew)); exact Kd.R_mono HO319.out (fun _ hk => ⟨hk.1.1.1.2, ⟨hk.1.1.2, ⟨hk.1.2, ⟨hk.2, hk.1.1.1.1.1.1⟩⟩⟩⟩)⟩, ⟨by refine uW ?_; exact BK287.out⟩, ⟨by refine uW ?_; exact BK304.out⟩, ⟨by refine uW ?_; exact BK312.out⟩, ⟨by refine uW ?_; exact BK321.out⟩, ⟨by first | exact uB HB | exact uS HB (gC GE287 (gC GE304 (gC GE312 (gC GE321 gN))))⟩⟩
  case rest =>
   clear HC11
   try clear c1
   try clear c2
   try clear p2
   try clear c3
   try clear c3b0
   try clear c4
   try clear c5
   try clear c6
   try clear c7
   try clear c8
   try clear c9
   try clear c10
   try clear c21
   try clear c28
   try clear c29
   try clear c35
   try clear c36
   try clear c37
   try clear c42
   try clear c43
   try clear c44
   try clear c45
   try clear c47
   try clear c48
   try clear c51
   try clear c52
   try clear c53
   try clear c55
   try clear c56
   try clear hcz13_0
   try clear hcz13_1
   try clear hcz13_2
   try clear hcz15_0
   try clear hcz15_1
   try clear hcz15_2
   try clear hcz22_0
   try clear hcz22_1
   try clear hcz22_2
   try clear hcz25_0
   try clear hcz25_1
   try clear hcz25_2
   try clear hcz30_0
   try clear hcz30_1
   try clear hcz30_2
   try clear hcz38_0
   try clear hcz38_1
   try clear hcz38_2
   try clear hcz46_0
   try clear hcz46_1
   try clear hcz46_2
   try clear hcz49_0
   try clear hcz49_1
   try clear hcz49_2
   try clear hcz54_0
   try clear hcz54_1
   try clear hcz54_2
   try clear hcz57_0
   try clear hcz57_1
   try clear hcz57_2
   try clear hcz5_0
   try clear hcz5_1
   try clear hcz5_2
   try clear hfz13_0
   try clear hfz13_1
   try clear hfz13_2
   try clear hfz15_0
   try clear hfz15_1
   try clear hfz15_2
   try clear hfz22_0
   try clear hfz22_1
   try clear hfz22_2
   try clear hfz25_0
   try clear hfz25_1
   try clear hfz25_2
   try clear hfz30_0
   try clear hfz30_1
   try clear hfz30_2
   try clear hfz38_0
   try clear hfz38_1
   try clear hfz38_2
   try clear hfz46_0
   try clear hfz46_1
   try clear hfz46_2
   try clear hfz49_0
   try clear hfz49_1
   try clear hfz49_2
   try clear hfz54_0
   try clear hfz54_1
   try clear hfz54_2
   try clear hfz57_0
   try clear hfz57_1
   try clear hfz57_2
   try clear hfz5_0
   try clear hfz5_1
   try clear hfz5_2
   obtain ⟨kq, x40_10, rfl, HA, HJ10, HO_305001, HO_305002, HO_313001, HO_313002, HO_322001, HO_322002, BK287, BK304, BK312, BK321, HB⟩ := hcut
   cases kq with
   | zero => exact absurd HA.out (by simp [laws_FnExactCuckooUnstash.j0])
   | succ kj10 =>
    have H := HA.out
    clear HA
    simp only [laws_FnExactCuckooUnstash.j0] at H
    by_cases c59 : x40_10 = true
    ·
     subst c59
     have H1 : (some false) = some r := by rw [if_pos rfl] at H; exact H
     clear H
     have H := H1
     clear H1
     obtain rfl := Option.some.inj H
     go_wp2
     go_ret
     exact ⟨by first | rfl | (simp [errW_none, errW_some] <;> rfl) | (simp [*, errW_none, errW_some] <;> rfl), by first | exact uB HB | exact uS HB (gC GE287 (gC GE304 (gC GE312 (gC GE321 gN))))⟩
    ·
     replace c59 := Bool.eq_false_iff.mpr c59
     subst c59
     have H1 : ((laws_toCuckoo.f kj10 a0_0 l0_1 l0_2).bind fun bt323 => ((laws_eqCuckoo.f kj10 t305 t306 t309 bt323.1 bt323.2.1 bt323.2.2).bind fun t330 => (if t330 = true then ((laws_markCuckoo.f kj10 t305 t306 t309 1).bind fun bt331 => (if bt331.1 < 0 then (laws_FnExactCuckooUnstash.j1 kj10 t303 true a0_0 l0_1 l0_2 t296 t297 t300 t313 t314 t317) else ((laws_eqCuckoo.f kj10 t313 t314 t317 t296 t297 t300).bind fun t334 => (if t334 = true then (laws_FnExactCuckooUnstash.j1 kj10 t303 (t320 != t303) a0_0 l0_1 l0_2 t296 t297 t300 t313 t314 t317) else (laws_FnExactCuckooUnstash.j1 kj10 t303 true a0_0 l0_1 l0_2 t296 t297 t300 t313 t314 t317))))) else (some false)))) = some r := by rw [if_neg (show ¬ (false = true) by decide)] at H; exact H
     clear H
     have H := H1
     clear H1
     replace H := Option.bind_eq_some_iff.mp H
     obtain ⟨⟨t323, t324, t327⟩, A600, H⟩ := H
     replace H : ((laws_eqCuckoo.f kj10 t305 t306 t309 t323 t324 t327).bind fun t330 => (if t330 = true then ((laws_markCuckoo.f kj10 t305 t306 t309 1).bind fun bt331 => (if bt331.1 < 0 then (laws_FnExactCuckooUnstash.j1 kj10 t303 true a0_0 l0_1 l0_2 t296 t297 t300 t313 t314 t317) else ((laws_eqCuckoo.f kj10 t313 t314 t317 t296 t297 t300).bind fun t334 => (if t334 = true then (laws_FnExactCuckooUnstash.j1 kj10 t303 (t320 != t303) a0_0 l0_1 l0_2 t296 t297 t300 t313 t314 t317) else (laws_FnExactCuckooUnstash.j1 kj10 t303 true a0_0 l0_1 l0_2 t296 t297 t300 t313 t314 t317))))) else (some false))) = some r := H
     have A60 := Aside0.mk A600
     clear A600
     replace H := Option.bind_eq_some_iff.mp H
     obtain ⟨t330, A610, H⟩ := H
     replace H : (if t330 = true then ((laws_markCuckoo.f kj10 t305 t306 t309 1).bind fun bt331 => (if bt331.1 < 0 then (laws_FnExactCuckooUnstash.j1 kj10 t303 true a0_0 l0_1 l0_2 t296 t297 t300 t313 t314 t317) else ((laws_eqCuckoo.f kj10 t313 t314 t317 t296 t297 t300).bind fun t334 => (if t334 = true then (laws_FnExactCuckooUnstash.j1 kj10 t303 (t320 != t303) a0_0 l0_1 l0_2 t296 t297 t300 t313 t314 t317) else (laws_FnExactCuckooUnstash.j1 kj10 t303 true a0_0 l0_1 l0_2 t296 t297 t300 t313 t314 t317))))) else (some false)) = some r := H
     have A61 := Aside0.mk A610
     clear A610
     by_cases c62 : t330 = true
     ·
      subst c62
      have H1 : ((laws_markCuckoo.f kj10 t305 t306 t309 1).bind fun bt331 => (if bt331.1 < 0 then (laws_FnExactCuckooUnstash.j1 kj10 t303 true a0_0 l0_1 l0_2 t296 t297 t300 t313 t314 t317) else ((laws_eqCuckoo.f kj10 t313 t314 t317 t296 t297 t300).bind fun t334 => (if t334 = true then (laws_FnExactCuckooUnstash.j1 kj10 t303 (t320 != t303) a0_0 l0_1 l0_2 t296 t297 t300 t313 t314 t317) else (laws_FnExactCuckooUnstash.j1 kj10 t303 true a0_0 l0_1 l0_2 t296 t297 t300 t313 t314 t317))))) = some r := by rw [if_pos rfl] at H; exact H
      clear H
      have H := H1
      clear H1
      replace H := Option.bind_eq_some_iff.mp H
      obtain ⟨⟨t331, t332, t333⟩, A630, H⟩ := H
      replace H : (if t331 < 0 then (laws_FnExactCuckooUnstash.j1 kj10 t303 true a0_0 l0_1 l0_2 t296 t297 t300 t313 t314 t317) else ((laws_eqCuckoo.f kj10 t313 t314 t317 t296 t297 t300).bind fun t334 => (if t334 = true then (laws_FnExactCuckooUnstash.j1 kj10 t303 (t320 != t303) a0_0 l0_1 l0_2 t296 t297 t300 t313 t314 t317) else (laws_FnExactCuckooUnstash.j1 kj10 t303 true a0_0 l0_1 l0_2 t296 t297 t300 t313 t314 t317)))) = some r := H
      have A63 := Aside0.mk A630
      clear A630
      have HC64 := Aside0.mk H
      clear H
      try go_wp2
      have n0_ := Aside0.mk (Kd.R_drew HO_305001.out)
      have n1_ := Aside0.mk (Kd.R_drew HO_305002.out)
      have n2_ := Aside0.mk (Kd.R_drew HO_313001.out)
      have n3_ := Aside0.mk (Kd.R_drew HO_313002.out)
      have n4_ := Aside0.mk (Kd.R_drew HO_322001.out)
      have n5_ := Aside0.mk (Kd.R_drew HO_322002.out)
      have n6_ := Aside0.mk (blk_drew BK287.out)
      have n7_ := Aside0.mk (blk_drew BK304.out)
      have n8_ := Aside0.mk (blk_drew BK312.out)
      have n9_ := Aside0.mk (blk_drew BK321.out)
      have n10_ := Aside0.mk (below_drew1 HB.out)
      clear HO_305001
      clear HO_305002
      clear HO_313001
      clear HO_313002
      clear HO_322001
      clear HO_322002
      clear BK287
      clear BK304
      clear BK312
      clear BK321
      clear HB
      have HO_305001 := n0_
      have HO_305002 := n1_
      have HO_313001 := n2_
      have HO_313002 := n3_
      have HO_322001 := n4_
      have HO_322002 := n5_
      have BK287 := n6_
      have BK304 := n7_
      have BK312 := n8_
      have BK321 := n9_
      have HB := n10_
      clear n0_ n1_ n2_ n3_ n4_ n5_ n6_ n7_ n8_ n9_ n10_
      refine start_ (n := 5) (S := fun w' => w'.cell? ⟨gb312, 0, none⟩ = some (.int .i64 t305) ∧ w'.cell? ⟨gb312, 1, none⟩ = some (.slice Ao31 t306.length co31) ∧ w'.cell? ⟨gb312, 2, none⟩ = some (.slice Ao32 t309.length co32) ∧ w'.cell? ⟨gb287, 0, none⟩ = some (.int .i64 a0_0) ∧ w'.cell? ⟨gb287, 1, none⟩ = some (.slice A0_1 l0_1.length c0_1) ∧ w'.cell? ⟨gb287, 2, none⟩ = some (.slice A0_2 l0_2.length c0_2)) (ds := []) #[false, false, false, false, false] (by kernel_rfl) rfl rfl ⟨(blk_cell BK312.out 0).trans rfl, (blk_cell BK312.out 1).trans rfl, (blk_cell BK312.out 2).trans rfl, (blk_cell BK287.out 0).trans rfl, (blk_cell BK287.out 1).trans rfl, (blk_cell BK287.out 2).trans rfl⟩ (fun hHeld => ?_)
      generalize wc.drew = w65 at HO_305001 HO_305002 HO_313001 HO_313002 HO_322001 HO_322002 BK287 BK304 BK312 BK321 HB hHeld ⊢
      refine take_ (i := 0) (N := some 41) (v := ?_) (a' := ?_) #[true, false, false, false, false] rfl rfl (by kernel_rfl) (fun _ _ _ h => h) (Or.inl ⟨by rfl, ?_⟩) hHeld ?_ ?_
      rotate_left
      ·
       rintro w' ⟨s0, s1, s2, s3, s4, s5⟩
       go_simp
       with_reducible rfl
      rotate_left
      ·
       simp only [Act.put, List.setIfInBounds_toArray, List.set_cons_zero, List.set_cons_succ, i64_w, i32_w]
       rfl
      refine take_ (i := 1) (N := some 42) (v := ?_) (a' := ?_) #[true, true, false, false, false] rfl rfl (by kernel_rfl) (fun _ _ _ h => h) (Or.inl ⟨by rfl, ?_⟩) hHeld ?_ ?_
      rotate_left
      ·
       rintro w' ⟨s0, s1, s2, s3, s4, s5⟩
       go_simp
       with_reducible rfl
      rotate_left
      ·
       simp only [Act.put, List.setIfInBounds_toArray, List.set_cons_zero, List.set_cons_succ, i64_w, i32_w]
       rfl
      refine one_ (i := 2) (N := some 43) #[true, true, true, false, false] rfl rfl (by kernel_rfl) (by decide) (fun K hK => ?_)
      refine goes_ Try.func8 (by kernel_rfl) rfl #[.agg #[.int .i64 a0_0, .slice A0_1 l0_1.length c0_1, .slice A0_2 l0_2.length c0_2]] (by rfl) rfl rfl (by (try simp only [List.map_toArray, List.map_cons, List.map_nil]); first | done | rfl | (simp only [List.length_drop, List.length_take]; rfl)) ?_
      with_reducible refine (laws_toCuckoo.calls kj10 a0_0 _ _ l0_1 _ _ l0_2 t323 t324 t327 _ ?side1 ?side2 ?side3 ?side4 A60.out).mono ?_
      (case side1 => exact uC HR0_1 HB)
      (case side2 => exact HC0_1.out)
      (case side3 => exact uC HR0_2 HB)
      (case side4 => exact HC0_2.out)
      rintro e w66 ⟨v325, v328, rfl, ho0, ho1, hb⟩
      refine ⟨_, rfl, ?_⟩
      have n0_ := Aside0.mk (Kd.R_mono (Kd.R_told (Kd.R_told (Kd.R_old (uR HO_305001) hb) (Kd.R_base ho0)) (Kd.R_base ho1)) (fun _ h_ => h_.1))
      have n1_ := Aside0.mk (Kd.R_mono (Kd.R_told (Kd.R_told (Kd.R_old (uR HO_305002) hb) (Kd.R_base ho0)) (Kd.R_base ho1)) (fun _ h_ => h_.1))
      have n2_ := Aside0.mk (Kd.R_mono (Kd.R_told (Kd.R_told (Kd.R_old (uR HO_313001) hb) (Kd.R_base ho0)) (Kd.R_base ho1)) (fun _ h_ => h_.1))
      have n3_ := Aside0.mk (Kd.R_mono (Kd.R_told (Kd.R_told (Kd.R_old (uR HO_313002) hb) (Kd.R_base ho0)) (Kd.R_base ho1)) (fun _ h_ => h_.1))
      have n4_ := Aside0.mk (Kd.R_mono (Kd.R_told (Kd.R_told (Kd.R_old (uR HO_322001) hb) (Kd.R_base ho0)) (Kd.R_base ho1)) (fun _ h_ => h_.1))
      have n5_ := Aside0.mk (Kd.R_mono (Kd.R_told (Kd.R_told (Kd.R_old (uR HO_322002) hb) (Kd.R_base ho0)) (Kd.R_base ho1)) (fun _ h_ => h_.1))
      have n6_ := Aside0.mk (Kd.R_lower (Kd.R_new' (Kd.R_new' (Kd.R_new' (Kd.R_new' (Kd.R_new' (Kd.R_new' ho0 (Kd.R_lt (uR HO_305001))) (Kd.R_lt (uR HO_305002))) (Kd.R_lt (uR HO_313001))) (Kd.R_lt (uR HO_313002))) (Kd.R_lt (uR HO_322001))) (Kd.R_lt (uR HO_322002))) (below_size (by first | exact uB HB | exact uS HB (gC GE287 (gC GE304 (gC GE312 (gC GE321 gN)))))))
      have n7_ := Aside0.mk (Kd.R_lower (Kd.R_new' (Kd.R_new' (Kd.R_new' (Kd.R_new' (Kd.R_new' (Kd.R_new' ho1 (Kd.R_lt (uR HO_305001))) (Kd.R_lt (uR HO_305002))) (Kd.R_lt (uR HO_313001))) (Kd.R_lt (uR HO_313002))) (Kd.R_lt (uR HO_322001))) (Kd.R_lt (uR HO_322002))) (below_size (by first | exact uB HB | exact uS HB (gC GE287 (gC GE304 (gC GE312 (gC GE321 gN)))))))
      have n8_ := Aside0.mk (blk_below (g := gb287) (o := .cells #[.int .i64 a0_0, .slice A0_1 l0_1.length c0_1, .slice A0_2 l0_2.length c0_2] 24 (0, 0)) (uK BK287) hb)
      have n9_ := Aside0.mk (blk_below (g := gb304) (o := .cells #[.int .i64 t296, .slice Ao23 t297.length co23, .slice Ao24 t300.length co24] 26 (0, 0)) (uK BK304) hb)
      have n10_ := Aside0.mk (blk_below (g := gb312) (o := .cells #[.int .i64 t305, .slice Ao31 t306.length co31, .slice Ao32 t309.length co32] 26 (0, 0)) (uK BK312) hb)
      have n11_ := Aside0.mk (blk_below (g := gb321) (o := .cells #[.int .i64 t313, .slice Ao39 t314.length co39, .slice Ao40 t317.length co40] 26 (0, 0)) (uK BK321) hb)
      have n12_ := Aside0.mk (below_step (by first | exact uB HB | exact uS HB (gC GE287 (gC GE304 (gC GE312 (gC GE321 gN))))) hb)
      clear HO_305001
      clear HO_305002
      clear HO_313001
      clear HO_313002
      clear HO_322001
      clear HO_322002
      clear BK287
      clear BK304
      clear BK312
      clear BK321
      clear HB
      have HO_305001 := n0_
      have HO_305002 := n1_
      have HO_313001 := n2_
      have HO_313002 := n3_
      have HO_322001 := n4_
      have HO_322002 := n5_
      have HO326 := n6_
      have HO329 := n7_
      have BK287 := n8_
      have BK304 := n9_
      have BK312 := n10_
      have BK321 := n11_
      have HB := n12_
      clear n0_ n1_ n2_ n3_ n4_ n5_ n6_ n7_ n8_ n9_ n10_ n11_ n12_
      (try clear hb)
      (try clear hb2)
      (try clear hk)
      (try clear hi)
      (try clear ho0)
      (try clear ho1)
      obtain ⟨Ao67, co67, eo67⟩ := Kd.R_slice HO326.out
      (first | subst eo67 | (injection eo67 with f1_ f2_ f3_; have f4_ := f1_.symm; have f5_ := f3_.symm; clear f1_ f2_ f3_; subst f4_; subst f5_))
      obtain ⟨Ao68, co68, eo68⟩ := Kd.R_slice HO329.out
      (first | subst eo68 | (injection eo68 with f1_ f2_ f3_; have f4_ := f1_.symm; have f5_ := f3_.symm; clear f1_ f2_ f3_; subst f4_; subst f5_))
      refine hK.out _ _ ⟨(blk_cell BK312.out 0).trans rfl, (blk_cell BK312.out 1).trans rfl, (blk_cell BK312.out 2).trans rfl, (blk_cell BK287.out 0).trans rfl, (blk_cell BK287.out 1).trans rfl, (blk_cell BK287.out 2).trans rfl⟩ (fun hHeld => ?_)
      clear hK K
      refine norm_ (a' := ?_) ?_ ?_
      rotate_left
      ·
       show Act.put _ (some 43) _ = _
       simp only [Act.put, List.setIfInBounds_toArray, List.set_cons_zero, List.set_cons_succ, i64_w, i32_w]
       rfl
      refine one_ (i := 3) (N := some 44) #[true, true, true, true, false] rfl rfl (by kernel_rfl) (by decide) (fun K hK => ?_)
      refine goes_ Try.func10 (by kernel_rfl) rfl #[.agg #[.int .i64 t305, .slice Ao31 t306.length co31, .slice Ao32 t309.length co32], .agg #[.int .i64 t323, .slice Ao67 t324.length co67, .slice Ao68 t327.length co68]] (by rfl) rfl rfl (by (try simp only [List.map_toArray, List.map_cons, List.map_nil]); first | done | rfl | (simp only [List.length_drop, List.length_take]; rfl)) ?_
      with_reducible refine (laws_eqCuckoo.calls kj10 t305 _ _ t306 _ _ t309 t323 _ _ t324 _ _ t327 true _ ?side1 ?side2 ?side3 ?side4 ?side5 ?side6 ?side7 ?side8 A61.out).mono ?_
      (case side1 => exact uD HO_313001)
      (case side2 => exact (Kd.R_reads' HO_313001.out).2.1)
      (case side3 => exact uD HO_313002)
      (case side4 => exact (Kd.R_reads' HO_313002.out).2.1)
      (case side5 => exact uD HO326)
      (case side6 => exact (Kd.R_reads' HO326.out).2.1)
      (case side7 => exact uD HO329)
      (case side8 => exact (Kd.R_reads' HO329.out).2.1)
      rintro e w69 ⟨rfl, hb⟩
      refine ⟨_, rfl, ?_⟩
      have n0_ := Aside0.mk (Kd.R_below (uR HO_305001) hb)
      have n1_ := Aside0.mk (Kd.R_below (uR HO_305002) hb)
      have n2_ := Aside0.mk (Kd.R_below (uR HO_313001) hb)
      have n3_ := Aside0.mk (Kd.R_below (uR HO_313002) hb)
      have n4_ := Aside0.mk (Kd.R_below (uR HO_322001) hb)
      have n5_ := Aside0.mk (Kd.R_below (uR HO_322002) hb)
      have n6_ := Aside0.mk (Kd.R_below (uR HO326) hb)
      have n7_ := Aside0.mk (Kd.R_below (uR HO329) hb)
      have n8_ := Aside0.mk (blk_below (g := gb287) (o := .cells #[.int .i64 a0_0, .slice A0_1 l0_1.length c0_1, .slice A0_2 l0_2.length c0_2] 24 (0, 0)) (uK BK287) hb)
      have n9_ := Aside0.mk (blk_below (g := gb304) (o := .cells #[.int .i64 t296, .slice Ao23 t297.length co23, .slice Ao24 t300.length co24] 26 (0, 0)) (uK BK304) hb)
      have n10_ := Aside0.mk (blk_below (g := gb312) (o := .cells #[.int .i64 t305, .slice Ao31 t306.length co31, .slice Ao32 t309.length co32] 26 (0, 0)) (uK BK312) hb)
      have n11_ := Aside0.mk (blk_below (g := gb321) (o := .cells #[.int .i64 t313, .slice Ao39 t314.length co39, .slice Ao40 t317.length co40] 26 (0, 0)) (uK BK321) hb)
      have n12_ := Aside0.mk (below_step (by first | exact uB HB | exact uS HB (gC GE287 (gC GE304 (gC GE312 (gC GE321 gN))))) hb)
      clear HO_305001
      clear HO_305002
      clear HO_313001
      clear HO_313002
      clear HO_322001
      clear HO_322002
      clear HO326
      clear HO329
      clear BK287
      clear BK304
      clear BK312
      clear BK321
      clear HB
      have HO_305001 := n0_
      have HO_305002 := n1_
      have HO_313001 := n2_
      have HO_313002 := n3_
      have HO_322001 := n4_
      have HO_322002 := n5_
      have HO326 := n6_
      have HO329 := n7_
      have BK287 := n8_
      have BK304 := n9_
      have BK312 := n10_
      have BK321 := n11_
      have HB := n12_
      clear n0_ n1_ n2_ n3_ n4_ n5_ n6_ n7_ n8_ n9_ n10_ n11_ n12_
      (try clear hb)
      (try clear hb2)
      (try clear hk)
      (try clear hi)
      refine hK.out _ _ ⟨(blk_cell BK312.out 0).trans rfl, (blk_cell BK312.out 1).trans rfl, (blk_cell BK312.out 2).trans rfl, (blk_cell BK287.out 0).trans rfl, (blk_cell BK287.out 1).trans rfl, (blk_cell BK287.out 2).trans rfl⟩ (fun hHeld => ?_)
      clear hK K
      refine norm_ (a' := ?_) ?_ ?_
      rotate_left
      ·
       show Act.put _ (some 44) _ = _
       simp only [Act.put, List.setIfInBounds_toArray, List.set_cons_zero, List.set_cons_succ, i64_w, i32_w]
       rfl
      refine pure_ (i := 4) (N := some 45) (v := ?_) (a' := ?_) #[true, true, true, true, true] rfl rfl (by kernel_rfl) (fun _ _ _ h => h) (Or.inl ⟨by rfl, ?_⟩) ?_ ?_
      rotate_left
      ·
       intro w'
       go_simp
       with_reducible rfl
      rotate_left
      ·
       simp only [Act.put, List.setIfInBounds_toArray, List.set_cons_zero, List.set_cons_succ, i64_w, i32_w]
       rfl
      refine done_ (by kernel_rfl) ?_
      have hnb70 := NB312_287.out
      have hnc70 := NB287_312.out
      have hnb71 := NB312_304.out
      have hnc71 := NB304_312.out
      have hnb72 := NB312_321.out
      have hnc72 := NB321_312.out
      have hcz73_0 : w69.cell? ⟨gb312, 0, none⟩ = some (.int .i64 t305) := (blk_cell BK312.out 0).trans rfl
      have hcz73_1 : w69.cell? ⟨gb312, 1, none⟩ = some (.slice Ao31 t306.length co31) := (blk_cell BK312.out 1).trans rfl
      have hcz73_2 : w69.cell? ⟨gb312, 2, none⟩ = some (.slice Ao32 t309.length co32) := (blk_cell BK312.out 2).trans rfl
      have hfz73_0 := blk_frozen BK312.out 0
      have hfz73_1 := blk_frozen BK312.out 1
      have hfz73_2 := blk_frozen BK312.out 2
      go_upto_region 14 with (first | ((with_reducible refine gate_callee (f := 11) rfl ?_); refine goesL_ (some 48) rfl rfl Try.func11 (by kernel_rfl) rfl #[.agg #[.int .i64 t305, .slice Ao31 t306.length co31, .slice Ao32 t309.length co32], .int .i64 1] rfl (by (try simp only [List.map_toArray, List.map_cons, List.map_nil]); first | done | rfl | (simp only [List.length_drop, List.length_take]; rfl)) ?_; (with_reducible refine (laws_markCuckoo.calls kj10 t305 (fun k_ => some k_ = (.slice Ao31 t306.length co31 : Value).ownBlock) (.slice Ao31 t306.length co31) t306 (fun k_ => some k_ = (.slice Ao32 t309.length co32 : Value).ownBlock) (.slice Ao32 t309.length co32) t309 1 t331 t332 t333 w _ ?side1 ?side2 ?side3 ?side4 ?side5 A63.out).mono ?_); (case side1 => first | exact uB HB | exact uS HB (gC GE287 (gC GE304 (gC GE312 (gC GE321 gN))))); (case side2 => exact Kd.R_tight rfl HO_313001.out); (case side3 => exact fun k_ e_ => (HO_313001.out.1 k_ e_.symm).1.1.2.2.1); (case side4 => exact Kd.R_tight rfl HO_313002.out); (case side5 => exact fun k_ e_ => (HO_313002.out.1 k_ e_.symm).1.1.2.2.1); rintro e w74 ⟨rfl, hy0, hy1, hb, hkp⟩; refine ⟨_, rfl, ?_⟩; have n0_ := Aside0.mk (Kd.R_mono (ok' := fun k_ => some k_ ≠ (.slice Ao24 t300.length co24 : Value).ownBlock ∧ some k_ ≠ (.slice Ao31 t306.length co31 : Value).ownBlock ∧ some k_ ≠ (.slice Ao32 t309.length co32 : Value).ownBlock ∧ some k_ ≠ (.slice Ao39 t314.length co39 : Value).ownBlock ∧ some k_ ≠ (.slice Ao40 t317.length co40 : Value).ownBlock ∧ some k_ ≠ (.slice Ao67 t324.length co67 : Value).ownBlock ∧ some k_ ≠ (.slice Ao68 t327.length co68 : Value).ownBlock) (Kd.R_keptB (HO_305001.out) hkp (fun k_ hk_ hs_ => Or.elim hs_ (fun e_ => (hk_.1.1.2.1) e_) (fun e_ => (hk_.1.1.2.2.1) e_))) (fun k_ hk_ => ⟨hk_.1.1.1.1, hk_.1.1.1.2.1, hk_.1.1.1.2.2.1, hk_.1.1.1.2.2.2.1, hk_.1.1.1.2.2.2.2, hk_.1.1.2, hk_.1.2⟩)); have n1_ := Aside0.mk (Kd.R_mono (ok' := fun k_ => some k_ ≠ (.slice Ao23 t297.length co23 : Value).ownBlock ∧ some k_ ≠ (.slice Ao31 t306.length co31 : Value).ownBlock ∧ some k_ ≠ (.slice Ao32 t309.length co32 : Value).ownBlock ∧ some k_ ≠ (.slice Ao39 t314.length co39 : Value).ownBlock ∧ some k_ ≠ (.slice Ao40 t317.length co40 : Value).ownBlock ∧ some k_ ≠ (.slice Ao67 t324.length co67 : Value).ownBlock ∧ some k_ ≠ (.slice Ao68 t327.length co68 : Value).ownBlock) (Kd.R_keptB (HO_305002.out) hkp (fun k_ hk_ hs_ => Or.elim hs_ (fun e_ => (hk_.1.1.2.1) e_) (fun e_ => (hk_.1.1.2.2.1) e_))) (fun k_ hk_ => ⟨hk_.1.1.1.1, hk_.1.1.1.2.1, hk_.1.1.1.2.2.1, hk_.1.1.1.2.2.2.1, hk_.1.1.1.2.2.2.2, hk_.1.1.2, hk_.1.2⟩)); have n2_ := Aside0.mk (Kd.R_reok rfl hy0 (fun k_ e_ => HO_313001.out.1 k_ e_)); have n3_ := Aside0.mk (Kd.R_reok rfl hy1 (fun k_ e_ => HO_313002.out.1 k_ e_)); have n4_ := Aside0.mk (Kd.R_mono (ok' := fun k_ => some k_ ≠ (.slice Ao23 t297.length co23 : Value).ownBlock ∧ some k_ ≠ (.slice Ao24 t300.length co24 : Value).ownBlock ∧ some k_ ≠ (.slice Ao31 t306.length co31 : Value).ownBlock ∧ some k_ ≠ (.slice Ao32 t309.length co32 : Value).ownBlock ∧ some k_ ≠ (.slice Ao40 t317.length co40 : Value).ownBlock ∧ some k_ ≠ (.slice Ao67 t324.length co67 : Value).ownBlock ∧ some k_ ≠ (.slice Ao68 t327.length co68 : Value).ownBlock) (Kd.R_keptB (HO_322001.out) hkp (fun k_ hk_ hs_ => Or.elim hs_ (fun e_ => (hk_.1.1.2.2.1) e_) (fun e_ => (hk_.1.1.2.2.2.1) e_))) (fun k_ hk_ => ⟨hk_.1.1.1.1, hk_.1.1.1.2.1, hk_.1.1.1.2.2.1, hk_.1.1.1.2.2.2.1, hk_.1.1.1.2.2.2.2, hk_.1.1.2, hk_.1.2⟩)); have n5_ := Aside0.mk (Kd.R_mono (ok' := fun k_ => some k_ ≠ (.slice Ao23 t297.length co23 : Value).ownBlock ∧ some k_ ≠ (.slice Ao24 t300.length co24 : Value).ownBlock ∧ some k_ ≠ (.slice Ao31 t306.length co31 : Value).ownBlock ∧ some k_ ≠ (.slice Ao32 t309.length co32 : Value).ownBlock ∧ some k_ ≠ (.slice Ao39 t314.length co39 : Value).ownBlock ∧ some k_ ≠ (.slice Ao67 t324.length co67 : Value).ownBlock ∧ some k_ ≠ (.slice Ao68 t327.length co68 : Value).ownBlock) (Kd.R_keptB (HO_322002.out) hkp (fun k_ hk_ hs_ => Or.elim hs_ (fun e_ => (hk_.1.1.2.2.1) e_) (fun e_ => (hk_.1.1.2.2.2.1) e_))) (fun k_ hk_ => ⟨hk_.1.1.1.1, hk_.1.1.1.2.1, hk_.1.1.1.2.2.1, hk_.1.1.1.2.2.2.1, hk_.1.1.1.2.2.2.2, hk_.1.1.2, hk_.1.2⟩)); have n6_ := Aside0.mk (blk_kept (uK BK287) hkp (fun hs_ => Or.elim hs_ (fun e_ => (fun e_ => (Kd.R_ne HO_313001.out BK287.out (by decide)) e_) e_) (fun e_ => (fun e_ => (Kd.R_ne HO_313002.out BK287.out (by decide)) e_) e_))); have n7_ := Aside0.mk (blk_kept (uK BK304) hkp (fun hs_ => Or.elim hs_ (fun e_ => (fun e_ => (Kd.R_ne HO_313001.out BK304.out (by decide)) e_) e_) (fun e_ => (fun e_ => (Kd.R_ne HO_313002.out BK304.out (by decide)) e_) e_))); have n8_ := Aside0.mk (blk_kept (uK BK312) hkp (fun hs_ => Or.elim hs_ (fun e_ => (fun e_ => (Kd.R_ne HO_313001.out BK312.out (by decide)) e_) e_) (fun e_ => (fun e_ => (Kd.R_ne HO_313002.out BK312.out (by decide)) e_) e_))); have n9_ := Aside0.mk (blk_kept (uK BK321) hkp (fun hs_ => Or.elim hs_ (fun e_ => (fun e_ => (Kd.R_ne HO_313001.out BK321.out (by decide)) e_) e_) (fun e_ => (fun e_ => (Kd.R_ne HO_313002.out BK321.out (by decide)) e_) e_))); have n10_ := Aside0.mk (Kd.R_mono (ok' := fun k_ => some k_ ≠ (.slice Ao23 t297.length co23 : Value).ownBlock ∧ some k_ ≠ (.slice Ao24 t300.length co24 : Value).ownBlock ∧ some k_ ≠ (.slice Ao31 t306.length co31 : Value).ownBlock ∧ some k_ ≠ (.slice Ao32 t309.length co32 : Value).ownBlock ∧ some k_ ≠ (.slice Ao39 t314.length co39 : Value).ownBlock ∧ some k_ ≠ (.slice Ao40 t317.length co40 : Value).ownBlock ∧ some k_ ≠ (.slice Ao68 t327.length co68 : Value).ownBlock) (Kd.R_keptB (HO326.out) hkp (fun k_ hk_ hs_ => Or.elim hs_ (fun e_ => (hk_.1.1.1.2) e_) (fun e_ => (hk_.1.1.2) e_))) (fun k_ hk_ => ⟨hk_.1.1.1.1.1.1.2, hk_.1.1.1.1.1.2, hk_.1.1.1.1.2, hk_.1.1.1.2, hk_.1.1.2, hk_.1.2, hk_.1.1.1.1.1.1.1⟩)); have n11_ := Aside0.mk (Kd.R_mono (ok' := fun k_ => some k_ ≠ (.slice Ao23 t297.length co23 : Value).ownBlock ∧ some k_ ≠ (.slice Ao24 t300.length co24 : Value).ownBlock ∧ some k_ ≠ (.slice Ao31 t306.length co31 : Value).ownBlock ∧ some k_ ≠ (.slice Ao32 t309.length co32 : Value).ownBlock ∧ some k_ ≠ (.slice Ao39 t314.length co39 : Value).ownBlock ∧ some k_ ≠ (.slice Ao40 t317.length co40 : Value).ownBlock ∧ some k_ ≠ (.slice Ao67 t324.length co67 : Value).ownBlock) (Kd.R_keptB (HO329.out) hkp (fun k_ hk_ hs_ => Or.elim hs_ (fun e_ => (hk_.1.1.1.2) e_) (fun e_ => (hk_.1.1.2) e_))) (fun k_ hk_ => ⟨hk_.1.1.1.1.1.1.2, hk_.1.1.1.1.1.2, hk_.1.1.1.1.2, hk_.1.1.1.2, hk_.1.1.2, hk_.1.2, hk_.1.1.1.1.1.1.1⟩)); have n12_ := Aside0.mk (hb); clear HO_305001 HO_305002 HO_313001 HO_313002 HO_322001 HO_322002 BK287 BK304 BK312 BK321 HO326 HO329 HB; have HO_305001 := n0_; have HO_305002 := n1_; have HO_313001 := n2_; have HO_313002 := n3_; have HO_322001 := n4_; have HO_322002 := n5_; have BK287 := n6_; have BK304 := n7_; have BK312 := n8_; have BK321 := n9_; have HO326 := n10_; have HO329 := n11_; have HB := n12_; clear n0_ n1_ n2_ n3_ n4_ n5_ n6_ n7_ n8_ n9_ n10_ n11_ n12_; (try clear hb); (try clear hkp); (try clear hy0); (try clear hy1)))
      (try simp only [Act.put, List.setIfInBounds_toArray, List.set_cons_zero, List.set_cons_succ])
      go_cut [61] (fun v61 wc => ∃ (kq : Nat) (x61_63 : Bool), v61 = .bool x61_63 ∧ Aside0 (laws_FnExactCuckooUnstash.j1 kq t303 x61_63 a0_0 l0_1 l0_2 t296 t297 t300 t313 t314 t317 = some r) ∧ Aside0 (kq ≤ kj10) ∧ Aside0 (Kd.R Kd.string 9 wc w.heap.size (fun k_ => some k_ ≠ ((.slice Ao24 t300.length co24) : Value).ownBlock ∧ some k_ ≠ ((.slice Ao31 t306.length co31) : Value).ownBlock ∧ some k_ ≠ ((.slice Ao32 t309.length co32) : Value).ownBlock ∧ some k_ ≠ ((.slice Ao39 t314.length co39) : Value).ownBlock ∧ some k_ ≠ ((.slice Ao40 t317.length co40) : Value).ownBlock) (.slice Ao23 t297.length co23) t297) ∧ Aside0 (Kd.R Kd.string 9 wc w.heap.size (fun k_ => some k_ ≠ ((.slice Ao23 t297.length co23) : Value).ownBlock ∧ some k_ ≠ ((.slice Ao31 t306.length co31) : Value).ownBlock ∧ some k_ ≠ ((.slice Ao32 t309.length co32) : Value).ownBlock ∧ some k_ ≠ ((.slice Ao39 t314.length co39) : Value).ownBlock ∧ some k_ ≠ ((.slice Ao40 t317.length co40) : Value).ownBlock) (.slice Ao24 t300.length co24) t300) ∧ Aside0 (Kd.R Kd.string 9 wc w.heap.size (fun k_ => some k_ ≠ ((.slice Ao23 t297.length co23) : Value).ownBlock ∧ some k_ ≠ ((.slice Ao24 t300.length co24) : Value).ownBlock ∧ some k_ ≠ ((.slice Ao32 t309.length co32) : Value).ownBlock ∧ some k_ ≠ ((.slice Ao39 t314.length co39) : Value).ownBlock ∧ some k_ ≠ ((.slice Ao40 t317.length co40) : Value).ownBlock) (.slice Ao31 t306.length co31) t332) ∧ Aside0 (Kd.R Kd.string 9 wc w.heap.size (fun k_ => some k_ ≠ ((.slice Ao23 t297.length co23) : Value).ownBlock ∧ some k_ ≠ ((.slice Ao24 t300.length co24) : Value).ownBlock ∧ some k_ ≠ ((.slice Ao31 t306.length co31) : Value).ownBlock ∧ some k_ ≠ ((.slice Ao39 t314.length co39) : Value).ownBlock ∧ some k_ ≠ ((.slice Ao40 t317.length co40) : Value).ownBlock) (.slice Ao32 t309.length co32) t333) ∧ Aside0 (Kd.R Kd.string 9 wc w.heap.size (fun k_ => some k_ ≠ ((.slice Ao23 t297.length co23) : Value).ownBlock ∧ some k_ ≠ ((.slice Ao24 t300.length co24) : Value).ownBlock ∧ some k_ ≠ ((.slice Ao31 t306.length co31) : Value).ownBlock ∧ some k_ ≠ ((.slice Ao32 t309.length co32) : Value).ownBlock ∧ some k_ ≠ ((.slice Ao40 t317.length co40) : Value).ownBlock) (.slice Ao39 t314.length co39) t314) ∧ Aside0 (Kd.R Kd.string 9 wc w.heap.size (fun k_ => some k_ ≠ ((.slice Ao23 t297.length co23) : Value).ownBlock ∧ some k_ ≠ ((.slice Ao24 t300.length co24) : Value).ownBlock ∧ some k_ ≠ ((.slice Ao31 t306.length co31) : Value).ownBlock ∧ some k_ ≠ ((.slice Ao32 t309.length co32) : Value).ownBlock ∧ some k_ ≠ ((.slice Ao39 t314.length co39) : Value).ownBlock) (.slice Ao40 t317.length co40) t317) ∧ Aside0 (wc.heap[gb287]? = some (.cells #[.int .i64 a0_0, (.slice A0_1 l0_1.length c0_1), (.slice A0_2 l0_2.length c0_2)] 24 (0, 0))) ∧ Aside0 (wc.heap[gb304]? = some (.cells #[.int .i64 t296, (.slice Ao23 t297.length co23), (.slice Ao24 t300.length co24)] 26 (0, 0))) ∧ Aside0 (wc.heap[gb312]? = some (.cells #[.int .i64 t305, (.slice Ao31 t306.length co31), (.slice Ao32 t309.length co32)] 26 (0, 0))) ∧ Aside0 (wc.heap[gb321]? = some (.cells #[.int .i64 t313, (.slice Ao39 t314.length co39), (.slice Ao40 t317.length co40)] 26 (0, 0))) ∧ Aside0 (Below w.heap.size w wc))
      case first =>
       have H := HC64.out
       clear HC64
       by_cases c75 : t331 < 0
       ·
        rw [if_pos c75] at H
        have c75b0 : decide (t331 < 0) = true := decide_eq_true c75
        clear c75
        (first | rw [c75b0] | (simp only [i64_w, i32_w]; rw [c75b0]) | skip)
        have H' := Aside0.mk H
        clear H
        go_wp2
        go_meet
        case rel => exact ⟨_, (true), (by first | rfl | (simp; done) | (simp [*]; done)), H', ⟨by have := HJ10.out; first | omega | exact Nat.le_refl _⟩, ⟨by (with_reducible repeat (first | apply Kd.R_alloc | apply Kd.R_drewN | apply Kd.R_drew)); exact Kd.R_mono HO_305001.out (fun _ hk => ⟨hk.1, ⟨hk.2.1, ⟨hk.2.2.1, ⟨hk.2.2.2.1, hk.2.2.2.2.1⟩⟩⟩⟩)⟩, ⟨by (with_reducible repeat (first | apply Kd.R_alloc | apply Kd.R_drewN | apply Kd.R_drew)); exact Kd.R_mono HO_305002.out (fun _ hk => ⟨hk.1, ⟨hk.2.1, ⟨hk.2.2.1, ⟨hk.2.2.2.1, hk.2.2.2.2.1⟩⟩⟩⟩)⟩, ⟨by (with_reducible repeat (first | apply Kd.R_alloc | apply Kd.R_drewN | apply Kd.R_drew)); exact Kd.R_mono HO_313001.out (fun _ hk => ⟨hk.1.1.1, ⟨hk.1.1.2.1, ⟨hk.1.1.2.2.1, ⟨hk.1.1.2.2.2.1, hk.1.1.2.2.2.2⟩⟩⟩⟩)⟩, ⟨by (with_reducible repeat (first | apply Kd.R_alloc | apply Kd.R_drewN | apply Kd.R_drew)); exact Kd.R_mono HO_313002.out (fun _ hk => ⟨hk.1.1.1, ⟨hk.1.1.2.1, ⟨hk.1.1.2.2.1, ⟨hk.1.1.2.2.2.1, hk.1.1.2.2.2.2⟩⟩⟩⟩)⟩, ⟨by (with_reducible repeat (first | apply Kd.R_alloc | apply Kd.R_drewN | apply Kd.R_drew)); exact Kd.R_mono HO_322001.out (fun _ hk => ⟨hk.1, ⟨hk.2.1, ⟨hk.2.2.1, ⟨hk.2.2.2.1, hk.2.2.2.2.1⟩⟩⟩⟩)⟩, ⟨by (with_reducible repeat (first | apply Kd.R_alloc | apply Kd.R_drewN | apply Kd.R_drew)); exact Kd.R_mono HO_322002.out (fun _ hk => ⟨hk.1, ⟨hk.2.1, ⟨hk.2.2.1, ⟨hk.2.2.2.1, hk.2.2.2.2.1⟩⟩⟩⟩)⟩, ⟨by refine uW ?_; exact BK287.out⟩, ⟨by refine uW ?_; exact BK304.out⟩, ⟨by refine uW ?_; exact BK312.out⟩, ⟨by refine uW ?_; exact BK321.out⟩, ⟨by first | exact uB HB | exact uS HB (gC GE287 (gC GE304 (gC GE312 (gC GE321 gN))))⟩⟩
       ·
        rw [if_neg c75] at H
        have c75b0 : decide (t331 < 0) = false := decide_eq_false c75
        clear c75
        (first | rw [c75b0] | (simp only [i64_w, i32_w]; rw [c75b0]) | skip)
        replace H := Option.bind_eq_some_iff.mp H
        obtain ⟨t334, A760, H⟩ := H
        replace H : (if t334 = true then (laws_FnExactCuckooUnstash.j1 kj10 t303 (t320 != t303) a0_0 l0_1 l0_2 t296 t297 t300 t313 t314 t317) else (laws_FnExactCuckooUnstash.j1 kj10 t303 true a0_0 l0_1 l0_2 t296 t297 t300 t313 t314 t317)) = some r := H
        have A76 := Aside0.mk A760
        clear A760
        by_cases c77 : t334 = true
        ·
         subst c77
         have H1 : (laws_FnExactCuckooUnstash.j1 kj10 t303 (t320 != t303) a0_0 l0_1 l0_2 t296 t297 t300 t313 t314 t317) = some r := by rw [if_pos rfl] at H; exact H
         clear H
         have H := H1
         clear H1
         have H' := Aside0.mk H
         clear H
         have hnb78 := NB321_287.out
         have hnc78 := NB287_321.out
         have hnb79 := NB321_304.out
         have hnc79 := NB304_321.out
         have hnb80 := NB321_312.out
         have hnc80 := NB312_321.out
         have hcz81_0 : w74.cell? ⟨gb321, 0, none⟩ = some (.int .i64 t313) := (blk_cell BK321.out 0).trans rfl
         have hcz81_1 : w74.cell? ⟨gb321, 1, none⟩ = some (.slice Ao39 t314.length co39) := (blk_cell BK321.out 1).trans rfl
         have hcz81_2 : w74.cell? ⟨gb321, 2, none⟩ = some (.slice Ao40 t317.length co40) := (blk_cell BK321.out 2).trans rfl
         have hfz81_0 := blk_frozen BK321.out 0
         have hfz81_1 := blk_frozen BK321.out 1
         have hfz81_2 := blk_frozen BK321.out 2
         have hnb82 := NB304_287.out
         have hnc82 := NB287_304.out
         have hnb83 := NB304_312.out
         have hnc83 := NB312_304.out
         have hcz84_0 : w74.cell? ⟨gb304, 0, none⟩ = some (.int .i64 t296) := (blk_cell BK304.out 0).trans rfl
         have hcz84_1 : w74.cell? ⟨gb304, 1, none⟩ = some (.slice Ao23 t297.length co23) := (blk_cell BK304.out 1).trans rfl
         have hcz84_2 : w74.cell? ⟨gb304, 2, none⟩ = some (.slice Ao24 t300.length co24) := (blk_cell BK304.out 2).trans rfl
         have hfz84_0 := blk_frozen BK304.out 0
         have hfz84_1 := blk_frozen BK304.out 1
         have hfz84_2 := blk_frozen BK304.out 2
         go_wp2_with (first | (go_at_call 10; (with_reducible refine (laws_eqCuckoo.calls kj10 t313 _ _ t314 _ _ t317 t296 _ _ t297 _ _ t300 true _ ?side1 ?side2 ?side3 ?side4 ?side5 ?side6 ?side7 ?side8 A76.out).mono ?_); (case side1 => exact uD HO_322001); (case side2 => exact (Kd.R_reads' HO_322001.out).2.1); (case side3 => exact uD HO_322002); (case side4 => exact (Kd.R_reads' HO_322002.out).2.1); (case side5 => exact uD HO_305001); (case side6 => exact (Kd.R_reads' HO_305001.out).2.1); (case side7 => exact uD HO_305002); (case side8 => exact (Kd.R_reads' HO_305002.out).2.1); rintro e w85 ⟨rfl, hb⟩; have n0_ := Aside0.mk (Kd.R_below (uR HO_305001) hb); have n1_ := Aside0.mk (Kd.R_below (uR HO_305002) hb); have n2_ := Aside0.mk (Kd.R_below (uR HO_313001) hb); have n3_ := Aside0.mk (Kd.R_below (uR HO_313002) hb); have n4_ := Aside0.mk (Kd.R_below (uR HO_322001) hb); have n5_ := Aside0.mk (Kd.R_below (uR HO_322002) hb); have n6_ := Aside0.mk (Kd.R_below (uR HO326) hb); have n7_ := Aside0.mk (Kd.R_below (uR HO329) hb); have n8_ := Aside0.mk (blk_below (g := gb287) (o := .cells #[.int .i64 a0_0, .slice A0_1 l0_1.length c0_1, .slice A0_2 l0_2.length c0_2] 24 (0, 0)) (uK BK287) hb); have n9_ := Aside0.mk (blk_below (g := gb304) (o := .cells #[.int .i64 t296, .slice Ao23 t297.length co23, .slice Ao24 t300.length co24] 26 (0, 0)) (uK BK304) hb); have n10_ := Aside0.mk (blk_below (g := gb312) (o := .cells #[.int .i64 t305, .slice Ao31 t306.length co31, .slice Ao32 t309.length co32] 26 (0, 0)) (uK BK312) hb); have n11_ := Aside0.mk (blk_below (g := gb321) (o := .cells #[.int .i64 t313, .slice Ao39 t314.length co39, .slice Ao40 t317.length co40] 26 (0, 0)) (uK BK321) hb); have n12_ := Aside0.mk (below_step (by first | exact uB HB | exact uS HB (gC GE287 (gC GE304 (gC GE312 (gC GE321 gN))))) hb); clear HO_305001 HO_305002 HO_313001 HO_313002 HO_322001 HO_322002 HO326 HO329 BK287 BK304 BK312 BK321 HB; have HO_305001 := n0_; have HO_305002 := n1_; have HO_313001 := n2_; have HO_313002 := n3_; have HO_322001 := n4_; have HO_322002 := n5_; have HO326 := n6_; have HO329 := n7_; have BK287 := n8_; have BK304 := n9_; have BK312 := n10_; have BK321 := n11_; have HB := n12_; clear n0_ n1_ n2_ n3_ n4_ n5_ n6_ n7_ n8_ n9_ n10_ n11_ n12_; (try clear hb); (try clear hb2); (try clear hk); (try clear hi)))
         go_meet
         case rel => exact ⟨_, ((t320 != t303)), (by first | rfl | (simp; done) | (simp [*]; done)), H', ⟨by have := HJ10.out; first | omega | exact Nat.le_refl _⟩, ⟨by (with_reducible repeat (first | apply Kd.R_alloc | apply Kd.R_drewN | apply Kd.R_drew)); exact Kd.R_mono HO_305001.out (fun _ hk => ⟨hk.1, ⟨hk.2.1, ⟨hk.2.2.1, ⟨hk.2.2.2.1, hk.2.2.2.2.1⟩⟩⟩⟩)⟩, ⟨by (with_reducible repeat (first | apply Kd.R_alloc | apply Kd.R_drewN | apply Kd.R_drew)); exact Kd.R_mono HO_305002.out (fun _ hk => ⟨hk.1, ⟨hk.2.1, ⟨hk.2.2.1, ⟨hk.2.2.2.1, hk.2.2.2.2.1⟩⟩⟩⟩)⟩, ⟨by (with_reducible repeat (first | apply Kd.R_alloc | apply Kd.R_drewN | apply Kd.R_drew)); exact Kd.R_mono HO_313001.out (fun _ hk => ⟨hk.1.1.1, ⟨hk.1.1.2.1, ⟨hk.1.1.2.2.1, ⟨hk.1.1.2.2.2.1, hk.1.1.2.2.2.2⟩⟩⟩⟩)⟩, ⟨by (with_reducible repeat (first | apply Kd.R_alloc | apply Kd.R_drewN | apply Kd.R_drew)); exact Kd.R_mono HO_313002.out (fun _ hk => ⟨hk.1.1.1, ⟨hk.1.1.2.1, ⟨hk.1.1.2.2.1, ⟨hk.1.1.2.2.2.1, hk.1.1.2.2.2.2⟩⟩⟩⟩)⟩, ⟨by (with_reducible repeat (first | apply Kd.R_alloc | apply Kd.R_drewN | apply Kd.R_drew)); exact Kd.R_mono HO_322001.out (fun _ hk => ⟨hk.1, ⟨hk.2.1, ⟨hk.2.2.1, ⟨hk.2.2.2.1, hk.2.2.2.2.1⟩⟩⟩⟩)⟩, ⟨by (with_reducible repeat (first | apply Kd.R_alloc | apply Kd.R_drewN | apply Kd.R_drew)); exact Kd.R_mono HO_322002.out (fun _ hk => ⟨hk.1, ⟨hk.2.1, ⟨hk.2.2.1, ⟨hk.2.2.2.1, hk.2.2.2.2.1⟩⟩⟩⟩)⟩, ⟨by refine uW ?_; exact BK287.out⟩, ⟨by refine uW ?_; exact BK304.out⟩, ⟨by refine uW ?_; exact BK312.out⟩, ⟨by refine uW ?_; exact BK321.out⟩, ⟨by first | exact uB HB | exact uS HB (gC GE287 (gC GE304 (gC GE312 (gC GE321 gN))))⟩⟩
        ·
         replace c77 := Bool.eq_false_iff.mpr c77
         subst c77
         have H1 : (laws_FnExactCuckooUnstash.j1 kj10 t303 true a0_0 l0_1 l0_2 t296 t297 t300 t313 t314 t317) = some r := by rw [if_neg (show ¬ (false = true) by decide)] at H; exact H
         clear H
         have H := H1
         clear H1
         have H' := Aside0.mk H
         clear H
         have hnb86 := NB321_287.out
         have hnc86 := NB287_321.out
         have hnb87 := NB321_304.out
         have hnc87 := NB304_321.out
         have hnb88 := NB321_312.out
         have hnc88 := NB312_321.out
         have hcz89_0 : w74.cell? ⟨gb321, 0, none⟩ = some (.int .i64 t313) := (blk_cell BK321.out 0).trans rfl
         have hcz89_1 : w74.cell? ⟨gb321, 1, none⟩ = some (.slice Ao39 t314.length co39) := (blk_cell BK321.out 1).trans rfl
         have hcz89_2 : w74.cell? ⟨gb321, 2, none⟩ = some (.slice Ao40 t317.length co40) := (blk_cell BK321.out 2).trans rfl
         have hfz89_0 := blk_frozen BK321.out 0
         have hfz89_1 := blk_frozen BK321.out 1
         have hfz89_2 := blk_frozen BK321.out 2
         have hnb90 := NB304_287.out
         have hnc90 := NB287_304.out
         have hnb91 := NB304_312.out
         have hnc91 := NB312_304.out
         have hcz92_0 : w74.cell? ⟨gb304, 0, none⟩ = some (.int .i64 t296) := (blk_cell BK304.out 0).trans rfl
         have hcz92_1 : w74.cell? ⟨gb304, 1, none⟩ = some (.slice Ao23 t297.length co23) := (blk_cell BK304.out 1).trans rfl
         have hcz92_2 : w74.cell? ⟨gb304, 2, none⟩ = some (.slice Ao24 t300.length co24) := (blk_cell BK304.out 2).trans rfl
         have hfz92_0 := blk_frozen BK304.out 0
         have hfz92_1 := blk_frozen BK304.out 1
         have hfz92_2 := blk_frozen BK304.out 2
         go_wp2_with (first | (go_at_call 10; (with_reducible refine (laws_eqCuckoo.calls kj10 t313 _ _ t314 _ _ t317 t296 _ _ t297 _ _ t300 false _ ?side1 ?side2 ?side3 ?side4 ?side5 ?side6 ?side7 ?side8 A76.out).mono ?_); (case side1 => exact uD HO_322001); (case side2 => exact (Kd.R_reads' HO_322001.out).2.1); (case side3 => exact uD HO_322002); (case side4 => exact (Kd.R_reads' HO_322002.out).2.1); (case side5 => exact uD HO_305001); (case side6 => exact (Kd.R_reads' HO_305001.out).2.1); (case side7 => exact uD HO_305002); (case side8 => exact (Kd.R_reads' HO_305002.out).2.1); rintro e w93 ⟨rfl, hb⟩; have n0_ := Aside0.mk (Kd.R_below (uR HO_305001) hb); have n1_ := Aside0.mk (Kd.R_below (uR HO_305002) hb); have n2_ := Aside0.mk (Kd.R_below (uR HO_313001) hb); have n3_ := Aside0.mk (Kd.R_below (uR HO_313002) hb); have n4_ := Aside0.mk (Kd.R_below (uR HO_322001) hb); have n5_ := Aside0.mk (Kd.R_below (uR HO_322002) hb); have n6_ := Aside0.mk (Kd.R_below (uR HO326) hb); have n7_ := Aside0.mk (Kd.R_below (uR HO329) hb); have n8_ := Aside0.mk (blk_below (g := gb287) (o := .cells #[.int .i64 a0_0, .slice A0_1 l0_1.length c0_1, .slice A0_2 l0_2.length c0_2] 24 (0, 0)) (uK BK287) hb); have n9_ := Aside0.mk (blk_below (g := gb304) (o := .cells #[.int .i64 t296, .slice Ao23 t297.length co23, .slice Ao24 t300.length co24] 26 (0, 0)) (uK BK304) hb); have n10_ := Aside0.mk (blk_below (g := gb312) (o := .cells #[.int .i64 t305, .slice Ao31 t306.length co31, .slice Ao32 t309.length co32] 26 (0, 0)) (uK BK312) hb); have n11_ := Aside0.mk (blk_below (g := gb321) (o := .cells #[.int .i64 t313, .slice Ao39 t314.length co39, .slice Ao40 t317.length co40] 26 (0, 0)) (uK BK321) hb); have n12_ := Aside0.mk (below_step (by first | exact uB HB | exact uS HB (gC GE287 (gC GE304 (gC GE312 (gC GE321 gN))))) hb); clear HO_305001 HO_305002 HO_313001 HO_313002 HO_322001 HO_322002 HO326 HO329 BK287 BK304 BK312 BK321 HB; have HO_305001 := n0_; have HO_305002 := n1_; have HO_313001 := n2_; have HO_313002 := n3_; have HO_322001 := n4_; have HO_322002 := n5_; have HO326 := n6_; have HO329 := n7_; have BK287 := n8_; have BK304 := n9_; have BK312 := n10_; have BK321 := n11_; have HB := n12_; clear n0_ n1_ n2_ n3_ n4_ n5_ n6_ n7_ n8_ n9_ n10_ n11_ n12_; (try clear hb); (try clear hb2); (try clear hk); (try clear hi)))
         go_meet
         case rel => exact ⟨_, (true), (by first | rfl | (simp; done) | (simp [*]; done)), H', ⟨by have := HJ10.out; first | omega | exact Nat.le_refl _⟩, ⟨by (with_reducible repeat (first | apply Kd.R_alloc | apply Kd.R_drewN | apply Kd.R_drew)); exact Kd.R_mono HO_305001.out (fun _ hk => ⟨hk.1, ⟨hk.2.1, ⟨hk.2.2.1, ⟨hk.2.2.2.1, hk.2.2.2.2.1⟩⟩⟩⟩)⟩, ⟨by (with_reducible repeat (first | apply Kd.R_alloc | apply Kd.R_drewN | apply Kd.R_drew)); exact Kd.R_mono HO_305002.out (fun _ hk => ⟨hk.1, ⟨hk.2.1, ⟨hk.2.2.1, ⟨hk.2.2.2.1, hk.2.2.2.2.1⟩⟩⟩⟩)⟩, ⟨by (with_reducible repeat (first | apply Kd.R_alloc | apply Kd.R_drewN | apply Kd.R_drew)); exact Kd.R_mono HO_313001.out (fun _ hk => ⟨hk.1.1.1, ⟨hk.1.1.2.1, ⟨hk.1.1.2.2.1, ⟨hk.1.1.2.2.2.1, hk.1.1.2.2.2.2⟩⟩⟩⟩)⟩, ⟨by (with_reducible repeat (first | apply Kd.R_alloc | apply Kd.R_drewN | apply Kd.R_drew)); exact Kd.R_mono HO_313002.out (fun _ hk => ⟨hk.1.1.1, ⟨hk.1.1.2.1, ⟨hk.1.1.2.2.1, ⟨hk.1.1.2.2.2.1, hk.1.1.2.2.2.2⟩⟩⟩⟩)⟩, ⟨by (with_reducible repeat (first | apply Kd.R_alloc | apply Kd.R_drewN | apply Kd.R_drew)); exact Kd.R_mono HO_322001.out (fun _ hk => ⟨hk.1, ⟨hk.2.1, ⟨hk.2.2.1, ⟨hk.2.2.2.1, hk.2.2.2.2.1⟩⟩⟩⟩)⟩, ⟨by (with_reducible repeat (first | apply Kd.R_alloc | apply Kd.R_drewN | apply Kd.R_drew)); exact Kd.R_mono HO_322002.out (fun _ hk => ⟨hk.1, ⟨hk.2.1, ⟨hk.2.2.1, ⟨hk.2.2.2.1, hk.2.2.2.2.1⟩⟩⟩⟩)⟩, ⟨by refine uW ?_; exact BK287.out⟩, ⟨by refine uW ?_; exact BK304.out⟩, ⟨by refine uW ?_; exact BK312.out⟩, ⟨by refine uW ?_; exact BK321.out⟩, ⟨by first | exact uB HB | exact uS HB (gC GE287 (gC GE304 (gC GE312 (gC GE321 gN))))⟩⟩
      case rest =>
       clear HC64
       try clear c1
       try clear c2
       try clear p2
       try clear c3
       try clear c3b0
       try clear c4
       try clear c5
       try clear c6
       try clear c7
       try clear c8
       try clear c9
       try clear c10
       try clear c11
       try clear c21
       try clear c28
       try clear c29
       try clear c35
       try clear c36
       try clear c37
       try clear c42
       try clear c43
       try clear c44
       try clear c45
       try clear c47
       try clear c48
       try clear c51
       try clear c52
       try clear c53
       try clear c55
       try clear c56
       try clear c59
       try clear c62
       try clear c70
       try clear c71
       try clear c72
       try clear c75
       try clear c75b0
       try clear c77
       try clear c78
       try clear c79
       try clear c80
       try clear c82
       try clear c83
       try clear c86
       try clear c87
       try clear c88
       try clear c90
       try clear c91
       try clear hcz13_0
       try clear hcz13_1
       try clear hcz13_2
       try clear hcz15_0
       try clear hcz15_1
       try clear hcz15_2
       try clear hcz22_0
       try clear hcz22_1
       try clear hcz22_2
       try clear hcz25_0
       try clear hcz25_1
       try clear hcz25_2
       try clear hcz30_0
       try clear hcz30_1
       try clear hcz30_2
       try clear hcz38_0
       try clear hcz38_1
       try clear hcz38_2
       try clear hcz46_0
       try clear hcz46_1
       try clear hcz46_2
       try clear hcz49_0
       try clear hcz49_1
       try clear hcz49_2
       try clear hcz54_0
       try clear hcz54_1
       try clear hcz54_2
       try clear hcz57_0
       try clear hcz57_1
       try clear hcz57_2
       try clear hcz5_0
       try clear hcz5_1
       try clear hcz5_2
       try clear hcz73_0
       try clear hcz73_1
       try clear hcz73_2
       try clear hcz81_0
       try clear hcz81_1
       try clear hcz81_2
       try clear hcz84_0
       try clear hcz84_1
       try clear hcz84_2
       try clear hcz89_0
       try clear hcz89_1
       try clear hcz89_2
       try clear hcz92_0
       try clear hcz92_1
       try clear hcz92_2
       try clear hfz13_0
       try clear hfz13_1
       try clear hfz13_2
       try clear hfz15_0
       try clear hfz15_1
       try clear hfz15_2
       try clear hfz22_0
       try clear hfz22_1
       try clear hfz22_2
       try clear hfz25_0
       try clear hfz25_1
       try clear hfz25_2
       try clear hfz30_0
       try clear hfz30_1
       try clear hfz30_2
       try clear hfz38_0
       try clear hfz38_1
       try clear hfz38_2
       try clear hfz46_0
       try clear hfz46_1
       try clear hfz46_2
       try clear hfz49_0
       try clear hfz49_1
       try clear hfz49_2
       try clear hfz54_0
       try clear hfz54_1
       try clear hfz54_2
       try clear hfz57_0
       try clear hfz57_1
       try clear hfz57_2
       try clear hfz5_0
       try clear hfz5_1
       try clear hfz5_2
       try clear hfz73_0
       try clear hfz73_1
       try clear hfz73_2
       try clear hfz81_0
       try clear hfz81_1
       try clear hfz81_2
       try clear hfz84_0
       try clear hfz84_1
       try clear hfz84_2
       try clear hfz89_0
       try clear hfz89_1
       try clear hfz89_2
       try clear hfz92_0
       try clear hfz92_1
       try clear hfz92_2
       try clear p2
       obtain ⟨kq, x61_63, rfl, HA, HJ63, HO_305001, HO_305002, HO_313001, HO_313002, HO_322001, HO_322002, BK287, BK304, BK312, BK321, HB⟩ := hcut
       have hl313001_63 := (Kd.R_reads' HO_313001.out).1
       rw [hl313001_63] at HO_313001
       (try simp only [hl313001_63])
       (try simp only [hl313001_63] at BK287)
       (try simp only [hl313001_63] at BK304)
       (try simp only [hl313001_63] at BK312)
       (try simp only [hl313001_63] at BK321)
       (try simp only [hl313001_63] at HO_305001)
       (try simp only [hl313001_63] at HO_305002)
       (try simp only [hl313001_63] at HO_313002)
       (try simp only [hl313001_63] at HO_322001)
       (try simp only [hl313001_63] at HO_322002)
       have hl313002_63 := (Kd.R_reads' HO_313002.out).1
       rw [hl313002_63] at HO_313002
       (try simp only [hl313002_63])
       (try simp only [hl313002_63] at BK287)
       (try simp only [hl313002_63] at BK304)
       (try simp only [hl313002_63] at BK312)
       (try simp only [hl313002_63] at BK321)
       (try simp only [hl313002_63] at HO_305001)
       (try simp only [hl313002_63] at HO_305002)
       (try simp only [hl313002_63] at HO_313001)
       (try simp only [hl313002_63] at HO_322001)
       (try simp only [hl313002_63] at HO_322002)
       cases kq with
       | zero => exact absurd HA.out (by simp [laws_FnExactCuckooUnstash.j1])
       | succ kj63 =>
        have H := HA.out
        clear HA
        simp only [laws_FnExactCuckooUnstash.j1] at H
        by_cases c94 : x61_63 = true
        ·
         subst c94
         have H1 : (some false) = some r := by rw [if_pos rfl] at H; exact H
         clear H
         have H := H1
         clear H1
         obtain rfl := Option.some.inj H
         go_wp2
         go_ret
         exact ⟨by first | rfl | (simp [errW_none, errW_some] <;> rfl) | (simp [*, errW_none, errW_some] <;> rfl), by first | exact uB HB | exact uS HB (gC GE287 (gC GE304 (gC GE312 (gC GE321 gN))))⟩
        ·
         replace c94 := Bool.eq_false_iff.mpr c94
         subst c94
         have H1 : ((laws_markCuckoo.f kj63 t313 t314 t317 1).bind fun bt335 => ((laws_heldCuckoo.f kj63 t313 bt335.2.1 bt335.2.2 1).bind fun t338 => (if t338 < 0 then (some false) else (if t338 = bt335.1 then ((laws_toCuckoo.f kj63 a0_0 l0_1 l0_2).bind fun bt339 => ((impl_CuckooUnstash.f kj63 bt339.1 bt339.2.1 bt339.2.2).bind fun bt346 => ((laws_eqCuckoo.f kj63 bt346.1 bt346.2.1 bt346.2.2.1 t296 t297 t300).bind fun t355 => (if t355 = true then (laws_FnExactCuckooUnstash.j2 kj63 bt335.1 (bt346.2.2.2 != t303) t313 bt335.2.1 bt335.2.2) else (laws_FnExactCuckooUnstash.j2 kj63 bt335.1 true t313 bt335.2.1 bt335.2.2))))) else (some false))))) = some r := by rw [if_neg (show ¬ (false = true) by decide)] at H; exact H
         clear H
         have H := H1
         clear H1
         replace H := Option.bind_eq_some_iff.mp H
         obtain ⟨⟨t335, t336, t337⟩, A950, H⟩ := H
         replace H : ((laws_heldCuckoo.f kj63 t313 t336 t337 1).bind fun t338 => (if t338 < 0 then (some false) else (if t338 = t335 then ((laws_toCuckoo.f kj63 a0_0 l0_1 l0_2).bind fun bt339 => ((impl_CuckooUnstash.f kj63 bt339.1 bt339.2.1 bt339.2.2).bind fun bt346 => ((laws_eqCuckoo.f kj63 bt346.1 bt346.2.1 bt346.2.2.1 t296 t297 t300).bind fun t355 => (if t355 = true then (laws_FnExactCuckooUnstash.j2 kj63 t335 (bt346.2.2.2 != t303) t313 t336 t337) else (laws_FnExactCuckooUnstash.j2 kj63 t335 true t313 t336 t337))))) else (some false)))) = some r := H
         have A95 := Aside0.mk A950
         clear A950
         replace H := Option.bind_eq_some_iff.mp H
         obtain ⟨t338, A960, H⟩ := H
         replace H : (if t338 < 0 then (some false) else (if t338 = t335 then ((laws_toCuckoo.f kj63 a0_0 l0_1 l0_2).bind fun bt339 => ((impl_CuckooUnstash.f kj63 bt339.1 bt339.2.1 bt339.2.2).bind fun bt346 => ((laws_eqCuckoo.f kj63 bt346.1 bt346.2.1 bt346.2.2.1 t296 t297 t300).bind fun t355 => (if t355 = true then (laws_FnExactCuckooUnstash.j2 kj63 t335 (bt346.2.2.2 != t303) t313 t336 t337) else (laws_FnExactCuckooUnstash.j2 kj63 t335 true t313 t336 t337))))) else (some false))) = some r := H
         have A96 := Aside0.mk A960
         clear A960
         by_cases c97 : t338 < 0
         ·
          rw [if_pos c97] at H
          have c97b0 : decide (t338 < 0) = true := decide_eq_true c97
          clear c97
          obtain rfl := Option.some.inj H
          have hnb98 := NB321_287.out
          have hnc98 := NB287_321.out
          have hnb99 := NB321_304.out
          have hnc99 := NB304_321.out
          have hnb100 := NB321_312.out
          have hnc100 := NB312_321.out
          have hcz101_0 : wc.cell? ⟨gb321, 0, none⟩ = some (.int .i64 t313) := (blk_cell BK321.out 0).trans rfl
          have hcz101_1 : wc.cell? ⟨gb321, 1, none⟩ = some (.slice Ao39 t314.length co39) := (blk_cell BK321.out 1).trans rfl
          have hcz101_2 : wc.cell? ⟨gb321, 2, none⟩ = some (.slice Ao40 t317.length co40) := (blk_cell BK321.out 2).trans rfl
          have hfz101_0 := blk_frozen BK321.out 0
          have hfz101_1 := blk_frozen BK321.out 1
          have hfz101_2 := blk_frozen BK321.out 2
          go_wp2_with (first | ((with_reducible refine gate_callee (f := 11) rfl ?_); refine goesL_ (some 64) rfl rfl Try.func11 (by kernel_rfl) rfl #[.agg #[.int .i64 t313, .slice Ao39 t314.length co39, .slice Ao40 t317.length co40], .int .i64 1] rfl (by (try simp only [List.map_toArray, List.map_cons, List.map_nil]); first | done | rfl | (simp only [List.length_drop, List.length_take]; rfl)) ?_; (with_reducible refine (laws_markCuckoo.calls kj63 t313 (fun k_ => some k_ = (.slice Ao39 t314.length co39 : Value).ownBlock) (.slice Ao39 t314.length co39) t314 (fun k_ => some k_ = (.slice Ao40 t317.length co40 : Value).ownBlock) (.slice Ao40 t317.length co40) t317 1 t335 t336 t337 w _ ?side1 ?side2 ?side3 ?side4 ?side5 A95.out).mono ?_); (case side1 => first | exact uB HB | exact uS HB (gC GE287 (gC GE304 (gC GE312 (gC GE321 gN))))); (case side2 => exact Kd.R_tight rfl HO_322001.out); (case side3 => exact fun k_ e_ => (HO_322001.out.1 k_ e_.symm).2.2.2.2); (case side4 => exact Kd.R_tight rfl HO_322002.out); (case side5 => exact fun k_ e_ => (HO_322002.out.1 k_ e_.symm).2.2.2.2); rintro e w102 ⟨rfl, hy0, hy1, hb, hkp⟩; refine ⟨_, rfl, ?_⟩; have n0_ := Aside0.mk (Kd.R_mono (ok' := fun k_ => some k_ ≠ (.slice Ao24 t300.length co24 : Value).ownBlock ∧ some k_ ≠ (.slice Ao31 t332.length co31 : Value).ownBlock ∧ some k_ ≠ (.slice Ao32 t333.length co32 : Value).ownBlock ∧ some k_ ≠ (.slice Ao39 t314.length co39 : Value).ownBlock ∧ some k_ ≠ (.slice Ao40 t317.length co40 : Value).ownBlock) (Kd.R_keptB (HO_305001.out) hkp (fun k_ hk_ hs_ => Or.elim hs_ (fun e_ => (hk_.2.2.2.1) e_) (fun e_ => (hk_.2.2.2.2) e_))) (fun k_ hk_ => ⟨hk_.1.1, hk_.1.2.1, hk_.1.2.2.1, hk_.1.2.2.2.1, hk_.1.2.2.2.2⟩)); have n1_ := Aside0.mk (Kd.R_mono (ok' := fun k_ => some k_ ≠ (.slice Ao23 t297.length co23 : Value).ownBlock ∧ some k_ ≠ (.slice Ao31 t332.length co31 : Value).ownBlock ∧ some k_ ≠ (.slice Ao32 t333.length co32 : Value).ownBlock ∧ some k_ ≠ (.slice Ao39 t314.length co39 : Value).ownBlock ∧ some k_ ≠ (.slice Ao40 t317.length co40 : Value).ownBlock) (Kd.R_keptB (HO_305002.out) hkp (fun k_ hk_ hs_ => Or.elim hs_ (fun e_ => (hk_.2.2.2.1) e_) (fun e_ => (hk_.2.2.2.2) e_))) (fun k_ hk_ => ⟨hk_.1.1, hk_.1.2.1, hk_.1.2.2.1, hk_.1.2.2.2.1, hk_.1.2.2.2.2⟩)); have n2_ := Aside0.mk (Kd.R_mono (ok' := fun k_ => some k_ ≠ (.slice Ao23 t297.length co23 : Value).ownBlock ∧ some k_ ≠ (.slice Ao24 t300.length co24 : Value).ownBlock ∧ some k_ ≠ (.slice Ao32 t333.length co32 : Value).ownBlock ∧ some k_ ≠ (.slice Ao39 t314.length co39 : Value).ownBlock ∧ some k_ ≠ (.slice Ao40 t317.length co40 : Value).ownBlock) (Kd.R_keptB (HO_313001.out) hkp (fun k_ hk_ hs_ => Or.elim hs_ (fun e_ => (hk_.2.2.2.1) e_) (fun e_ => (hk_.2.2.2.2) e_))) (fun k_ hk_ => ⟨hk_.1.1, hk_.1.2.1, hk_.1.2.2.1, hk_.1.2.2.2.1, hk_.1.2.2.2.2⟩)); have n3_ := Aside0.mk (Kd.R_mono (ok' := fun k_ => some k_ ≠ (.slice Ao23 t297.length co23 : Value).ownBlock ∧ some k_ ≠ (.slice Ao24 t300.length co24 : Value).ownBlock ∧ some k_ ≠ (.slice Ao31 t332.length co31 : Value).ownBlock ∧ some k_ ≠ (.slice Ao39 t314.length co39 : Value).ownBlock ∧ some k_ ≠ (.slice Ao40 t317.length co40 : Value).ownBlock) (Kd.R_keptB (HO_313002.out) hkp (fun k_ hk_ hs_ => Or.elim hs_ (fun e_ => (hk_.2.2.2.1) e_) (fun e_ => (hk_.2.2.2.2) e_))) (fun k_ hk_ => ⟨hk_.1.1, hk_.1.2.1, hk_.1.2.2.1, hk_.1.2.2.2.1, hk_.1.2.2.2.2⟩)); have n4_ := Aside0.mk (Kd.R_reok rfl hy0 (fun k_ e_ => HO_322001.out.1 k_ e_)); have n5_ := Aside0.mk (Kd.R_reok rfl hy1 (fun k_ e_ => HO_322002.out.1 k_ e_)); have n6_ := Aside0.mk (blk_kept (uK BK287) hkp (fun hs_ => Or.elim hs_ (fun e_ => (fun e_ => (Kd.R_ne HO_322001.out BK287.out (by decide)) e_) e_) (fun e_ => (fun e_ => (Kd.R_ne HO_322002.out BK287.out (by decide)) e_) e_))); have n7_ := Aside0.mk (blk_kept (uK BK304) hkp (fun hs_ => Or.elim hs_ (fun e_ => (fun e_ => (Kd.R_ne HO_322001.out BK304.out (by decide)) e_) e_) (fun e_ => (fun e_ => (Kd.R_ne HO_322002.out BK304.out (by decide)) e_) e_))); have n8_ := Aside0.mk (blk_kept (uK BK312) hkp (fun hs_ => Or.elim hs_ (fun e_ => (fun e_ => (Kd.R_ne HO_322001.out BK312.out (by decide)) e_) e_) (fun e_ => (fun e_ => (Kd.R_ne HO_322002.out BK312.out (by decide)) e_) e_))); have n9_ := Aside0.mk (blk_kept (uK BK321) hkp (fun hs_ => Or.elim hs_ (fun e_ => (fun e_ => (Kd.R_ne HO_322001.out BK321.out (by decide)) e_) e_) (fun e_ => (fun e_ => (Kd.R_ne HO_322002.out BK321.out (by decide)) e_) e_))); have n10_ := Aside0.mk (hb); clear HO_305001 HO_305002 HO_313001 HO_313002 HO_322001 HO_322002 BK287 BK304 BK312 BK321 HB; have HO_305001 := n0_; have HO_305002 := n1_; have HO_313001 := n2_; have HO_313002 := n3_; have HO_322001 := n4_; have HO_322002 := n5_; have BK287 := n6_; have BK304 := n7_; have BK312 := n8_; have BK321 := n9_; have HB := n10_; clear n0_ n1_ n2_ n3_ n4_ n5_ n6_ n7_ n8_ n9_ n10_; (try clear hb); (try clear hkp); (try clear hy0); (try clear hy1); have hcz103_0 : w102.cell? ⟨gb321, 0, none⟩ = some (.int .i64 t313) := (blk_cell BK321.out 0).trans rfl; have hcz103_1 : w102.cell? ⟨gb321, 1, none⟩ = some (.slice Ao39 t314.length co39) := (blk_cell BK321.out 1).trans rfl; have hcz103_2 : w102.cell? ⟨gb321, 2, none⟩ = some (.slice Ao40 t317.length co40) := (blk_cell BK321.out 2).trans rfl; have hfz103_0 := blk_frozen BK321.out 0; have hfz103_1 := blk_frozen BK321.out 1; have hfz103_2 := blk_frozen BK321.out 2) | ((with_reducible refine gate_callee (f := 12) rfl ?_); refine goesL_ (some 67) rfl rfl Try.func12 (by kernel_rfl) rfl #[.agg #[.int .i64 t313, .slice Ao39 t336.length co39, .slice Ao40 t337.length co40], .int .i64 1] rfl (by (try simp only [List.map_toArray, List.map_cons, List.map_nil]); first | done | (rw [show t336.length = t314.length from (Kd.R_reads' HO_322001.out).1.symm, show t337.length = t317.length from (Kd.R_reads' HO_322002.out).1.symm] <;> rfl) | rfl | (simp only [List.length_drop, List.length_take]; rfl)) ?_; (with_reducible refine (laws_heldCuckoo.calls kj63 t313 _ _ t336 _ _ t337 1 t338 _ ?side1 ?side2 ?side3 ?side4 A96.out).mono ?_); (case side1 => exact uD HO_322001); (case side2 => rw [show t336.length = t314.length from (Kd.R_reads' HO_322001.out).1.symm]; exact (Kd.R_reads' HO_322001.out).2.1); (case side3 => exact uD HO_322002); (case side4 => rw [show t337.length = t317.length from (Kd.R_reads' HO_322002.out).1.symm]; exact (Kd.R_reads' HO_322002.out).2.1); rintro e w104 ⟨rfl, hb⟩; refine ⟨_, rfl, ?_⟩; have n0_ := Aside0.mk (Kd.R_below (uR HO_305001) hb); have n1_ := Aside0.mk (Kd.R_below (uR HO_305002) hb); have n2_ := Aside0.mk (Kd.R_below (uR HO_313001) hb); have n3_ := Aside0.mk (Kd.R_below (uR HO_313002) hb); have n4_ := Aside0.mk (Kd.R_below (uR HO_322001) hb); have n5_ := Aside0.mk (Kd.R_below (uR HO_322002) hb); have n6_ := Aside0.mk (blk_below (g := gb287) (o := .cells #[.int .i64 a0_0, .slice A0_1 l0_1.length c0_1, .slice A0_2 l0_2.length c0_2] 24 (0, 0)) (uK BK287) hb); have n7_ := Aside0.mk (blk_below (g := gb304) (o := .cells #[.int .i64 t296, .slice Ao23 t297.length co23, .slice Ao24 t300.length co24] 26 (0, 0)) (uK BK304) hb); have n8_ := Aside0.mk (blk_below (g := gb312) (o := .cells #[.int .i64 t305, .slice Ao31 t332.length co31, .slice Ao32 t333.length co32] 26 (0, 0)) (uK BK312) hb); have n9_ := Aside0.mk (blk_below (g := gb321) (o := .cells #[.int .i64 t313, .slice Ao39 t314.length co39, .slice Ao40 t317.length co40] 26 (0, 0)) (uK BK321) hb); have n10_ := Aside0.mk (below_step (by first | exact uB HB | exact uS HB (gC GE287 (gC GE304 (gC GE312 (gC GE321 gN))))) hb); clear HO_305001 HO_305002 HO_313001 HO_313002 HO_322001 HO_322002 BK287 BK304 BK312 BK321 HB; have HO_305001 := n0_; have HO_305002 := n1_; have HO_313001 := n2_; have HO_313002 := n3_; have HO_322001 := n4_; have HO_322002 := n5_; have BK287 := n6_; have BK304 := n7_; have BK312 := n8_; have BK321 := n9_; have HB := n10_; clear n0_ n1_ n2_ n3_ n4_ n5_ n6_ n7_ n8_ n9_ n10_; (try clear hb); (try clear hb2); (try clear hk); (try clear hi)))
          go_ret
          exact ⟨by first | rfl | (simp [errW_none, errW_some] <;> rfl) | (simp [*, errW_none, errW_some] <;> rfl), by first | exact uB HB | exact uS HB (gC GE287 (gC GE304 (gC GE312 (gC GE321 gN))))⟩
         ·
          rw [if_neg c97] at H
          have c97b0 : decide (t338 < 0) = false := decide_eq_false c97
          clear c97
          by_cases c105 : t338 = t335
          ·
           rw [if_pos c105] at H
           have c105b0 : (t338 == t335) = true := beq_iff_eq.mpr c105
           have c105b1 : (t338 != t335) = false := bne_eq_false_iff_eq.mpr c105
           clear c105
           replace H := Option.bind_eq_some_iff.mp H
           obtain ⟨⟨t339, t340, t343⟩, A1060, H⟩ := H
           replace H : ((impl_CuckooUnstash.f kj63 t339 t340 t343).bind fun bt346 => ((laws_eqCuckoo.f kj63 bt346.1 bt346.2.1 bt346.2.2.1 t296 t297 t300).bind fun t355 => (if t355 = true then (laws_FnExactCuckooUnstash.j2 kj63 t335 (bt346.2.2.2 != t303) t313 t336 t337) else (laws_FnExactCuckooUnstash.j2 kj63 t335 true t313 t336 t337)))) = some r := H
           have A106 := Aside0.mk A1060
           clear A1060
           replace H := Option.bind_eq_some_iff.mp H
           obtain ⟨⟨t346, t347, t350, t353⟩, A1070, H⟩ := H
           replace H : ((laws_eqCuckoo.f kj63 t346 t347 t350 t296 t297 t300).bind fun t355 => (if t355 = true then (laws_FnExactCuckooUnstash.j2 kj63 t335 (t353 != t303) t313 t336 t337) else (laws_FnExactCuckooUnstash.j2 kj63 t335 true t313 t336 t337))) = some r := H
           have A107 := Aside0.mk A1070
           clear A1070
           have HC108 := Aside0.mk H
           clear H
           have hnb109 := NB321_287.out
           have hnc109 := NB287_321.out
           have hnb110 := NB321_304.out
           have hnc110 := NB304_321.out
           have hnb111 := NB321_312.out
           have hnc111 := NB312_321.out
           have hcz112_0 : wc.cell? ⟨gb321, 0, none⟩ = some (.int .i64 t313) := (blk_cell BK321.out 0).trans rfl
           have hcz112_1 : wc.cell? ⟨gb321, 1, none⟩ = some (.slice Ao39 t314.length co39) := (blk_cell BK321.out 1).trans rfl
           have hcz112_2 : wc.cell? ⟨gb321, 2, none⟩ = some (.slice Ao40 t317.length co40) := (blk_cell BK321.out 2).trans rfl
           have hfz112_0 := blk_frozen BK321.out 0
           have hfz112_1 := blk_frozen BK321.out 1
           have hfz112_2 := blk_frozen BK321.out 2
           go_upto_region 25 with (first | ((with_reducible refine gate_callee (f := 11) rfl ?_); refine goesL_ (some 64) rfl rfl Try.func11 (by kernel_rfl) rfl #[.agg #[.int .i64 t313, .slice Ao39 t314.length co39, .slice Ao40 t317.length co40], .int .i64 1] rfl (by (try simp only [List.map_toArray, List.map_cons, List.map_nil]); first | done | rfl | (simp only [List.length_drop, List.length_take]; rfl)) ?_; (with_reducible refine (laws_markCuckoo.calls kj63 t313 (fun k_ => some k_ = (.slice Ao39 t314.length co39 : Value).ownBlock) (.slice Ao39 t314.length co39) t314 (fun k_ => some k_ = (.slice Ao40 t317.length co40 : Value).ownBlock) (.slice Ao40 t317.length co40) t317 1 t335 t336 t337 w _ ?side1 ?side2 ?side3 ?side4 ?side5 A95.out).mono ?_); (case side1 => first | exact uB HB | exact uS HB (gC GE287 (gC GE304 (gC GE312 (gC GE321 gN))))); (case side2 => exact Kd.R_tight rfl HO_322001.out); (case side3 => exact fun k_ e_ => (HO_322001.out.1 k_ e_.symm).2.2.2.2); (case side4 => exact Kd.R_tight rfl HO_322002.out); (case side5 => exact fun k_ e_ => (HO_322002.out.1 k_ e_.symm).2.2.2.2); rintro e w113 ⟨rfl, hy0, hy1, hb, hkp⟩; refine ⟨_, rfl, ?_⟩; have n0_ := Aside0.mk (Kd.R_mono (ok' := fun k_ => some k_ ≠ (.slice Ao24 t300.length co24 : Value).ownBlock ∧ some k_ ≠ (.slice Ao31 t332.length co31 : Value).ownBlock ∧ some k_ ≠ (.slice Ao32 t333.length co32 : Value).ownBlock ∧ some k_ ≠ (.slice Ao39 t314.length co39 : Value).ownBlock ∧ some k_ ≠ (.slice Ao40 t317.length co40 : Value).ownBlock) (Kd.R_keptB (HO_305001.out) hkp (fun k_ hk_ hs_ => Or.elim hs_ (fun e_ => (hk_.2.2.2.1) e_) (fun e_ => (hk_.2.2.2.2) e_))) (fun k_ hk_ => ⟨hk_.1.1, hk_.1.2.1, hk_.1.2.2.1, hk_.1.2.2.2.1, hk_.1.2.2.2.2⟩)); have n1_ := Aside0.mk (Kd.R_mono (ok' := fun k_ => some k_ ≠ (.slice Ao23 t297.length co23 : Value).ownBlock ∧ some k_ ≠ (.slice Ao31 t332.length co31 : Value).ownBlock ∧ some k_ ≠ (.slice Ao32 t333.length co32 : Value).ownBlock ∧ some k_ ≠ (.slice Ao39 t314.length co39 : Value).ownBlock ∧ some k_ ≠ (.slice Ao40 t317.length co40 : Value).ownBlock) (Kd.R_keptB (HO_305002.out) hkp (fun k_ hk_ hs_ => Or.elim hs_ (fun e_ => (hk_.2.2.2.1) e_) (fun e_ => (hk_.2.2.2.2) e_))) (fun k_ hk_ => ⟨hk_.1.1, hk_.1.2.1, hk_.1.2.2.1, hk_.1.2.2.2.1, hk_.1.2.2.2.2⟩)); have n2_ := Aside0.mk (Kd.R_mono (ok' := fun k_ => some k_ ≠ (.slice Ao23 t297.length co23 : Value).ownBlock ∧ some k_ ≠ (.slice Ao24 t300.length co24 : Value).ownBlock ∧ some k_ ≠ (.slice Ao32 t333.length co32 : Value).ownBlock ∧ some k_ ≠ (.slice Ao39 t314.length co39 : Value).ownBlock ∧ some k_ ≠ (.slice Ao40 t317.length co40 : Value).ownBlock) (Kd.R_keptB (HO_313001.out) hkp (fun k_ hk_ hs_ => Or.elim hs_ (fun e_ => (hk_.2.2.2.1) e_) (fun e_ => (hk_.2.2.2.2) e_))) (fun k_ hk_ => ⟨hk_.1.1, hk_.1.2.1, hk_.1.2.2.1, hk_.1.2.2.2.1, hk_.1.2.2.2.2⟩)); have n3_ := Aside0.mk (Kd.R_mono (ok' := fun k_ => some k_ ≠ (.slice Ao23 t297.length co23 : Value).ownBlock ∧ some k_ ≠ (.slice Ao24 t300.length co24 : Value).ownBlock ∧ some k_ ≠ (.slice Ao31 t332.length co31 : Value).ownBlock ∧ some k_ ≠ (.slice Ao39 t314.length co39 : Value).ownBlock ∧ some k_ ≠ (.slice Ao40 t317.length co40 : Value).ownBlock) (Kd.R_keptB (HO_313002.out) hkp (fun k_ hk_ hs_ => Or.elim hs_ (fun e_ => (hk_.2.2.2.1) e_) (fun e_ => (hk_.2.2.2.2) e_))) (fun k_ hk_ => ⟨hk_.1.1, hk_.1.2.1, hk_.1.2.2.1, hk_.1.2.2.2.1, hk_.1.2.2.2.2⟩)); have n4_ := Aside0.mk (Kd.R_reok rfl hy0 (fun k_ e_ => HO_322001.out.1 k_ e_)); have n5_ := Aside0.mk (Kd.R_reok rfl hy1 (fun k_ e_ => HO_322002.out.1 k_ e_)); have n6_ := Aside0.mk (blk_kept (uK BK287) hkp (fun hs_ => Or.elim hs_ (fun e_ => (fun e_ => (Kd.R_ne HO_322001.out BK287.out (by decide)) e_) e_) (fun e_ => (fun e_ => (Kd.R_ne HO_322002.out BK287.out (by decide)) e_) e_))); have n7_ := Aside0.mk (blk_kept (uK BK304) hkp (fun hs_ => Or.elim hs_ (fun e_ => (fun e_ => (Kd.R_ne HO_322001.out BK304.out (by decide)) e_) e_) (fun e_ => (fun e_ => (Kd.R_ne HO_322002.out BK304.out (by decide)) e_) e_))); have n8_ := Aside0.mk (blk_kept (uK BK312) hkp (fun hs_ => Or.elim hs_ (fun e_ => (fun e_ => (Kd.R_ne HO_322001.out BK312.out (by decide)) e_) e_) (fun e_ => (fun e_ => (Kd.R_ne HO_322002.out BK312.out (by decide)) e_) e_))); have n9_ := Aside0.mk (blk_kept (uK BK321) hkp (fun hs_ => Or.elim hs_ (fun e_ => (fun e_ => (Kd.R_ne HO_322001.out BK321.out (by decide)) e_) e_) (fun e_ => (fun e_ => (Kd.R_ne HO_322002.out BK321.out (by decide)) e_) e_))); have n10_ := Aside0.mk (hb); clear HO_305001 HO_305002 HO_313001 HO_313002 HO_322001 HO_322002 BK287 BK304 BK312 BK321 HB; have HO_305001 := n0_; have HO_305002 := n1_; have HO_313001 := n2_; have HO_313002 := n3_; have HO_322001 := n4_; have HO_322002 := n5_; have BK287 := n6_; have BK304 := n7_; have BK312 := n8_; have BK321 := n9_; have HB := n10_; clear n0_ n1_ n2_ n3_ n4_ n5_ n6_ n7_ n8_ n9_ n10_; (try clear hb); (try clear hkp); (try clear hy0); (try clear hy1); have hcz114_0 : w113.cell? ⟨gb321, 0, none⟩ = some (.int .i64 t313) := (blk_cell BK321.out 0).trans rfl; have hcz114_1 : w113.cell? ⟨gb321, 1, none⟩ = some (.slice Ao39 t314.length co39) := (blk_cell BK321.out 1).trans rfl; have hcz114_2 : w113.cell? ⟨gb321, 2, none⟩ = some (.slice Ao40 t317.length co40) := (blk_cell BK321.out 2).trans rfl; have hfz114_0 := blk_frozen BK321.out 0; have hfz114_1 := blk_frozen BK321.out 1; have hfz114_2 := blk_frozen BK321.out 2) | ((with_reducible refine gate_callee (f := 12) rfl ?_); refine goesL_ (some 67) rfl rfl Try.func12 (by kernel_rfl) rfl #[.agg #[.int .i64 t313, .slice Ao39 t336.length co39, .slice Ao40 t337.length co40], .int .i64 1] rfl (by (try simp only [List.map_toArray, List.map_cons, List.map_nil]); first | done | (rw [show t336.length = t314.length from (Kd.R_reads' HO_322001.out).1.symm, show t337.length = t317.length from (Kd.R_reads' HO_322002.out).1.symm] <;> rfl) | rfl | (simp only [List.length_drop, List.length_take]; rfl)) ?_; (with_reducible refine (laws_heldCuckoo.calls kj63 t313 _ _ t336 _ _ t337 1 t338 _ ?side1 ?side2 ?side3 ?side4 A96.out).mono ?_); (case side1 => exact uD HO_322001); (case side2 => rw [show t336.length = t314.length from (Kd.R_reads' HO_322001.out).1.symm]; exact (Kd.R_reads' HO_322001.out).2.1); (case side3 => exact uD HO_322002); (case side4 => rw [show t337.length = t317.length from (Kd.R_reads' HO_322002.out).1.symm]; exact (Kd.R_reads' HO_322002.out).2.1); rintro e w115 ⟨rfl, hb⟩; refine ⟨_, rfl, ?_⟩; have n0_ := Aside0.mk (Kd.R_below (uR HO_305001) hb); have n1_ := Aside0.mk (Kd.R_below (uR HO_305002) hb); have n2_ := Aside0.mk (Kd.R_below (uR HO_313001) hb); have n3_ := Aside0.mk (Kd.R_below (uR HO_313002) hb); have n4_ := Aside0.mk (Kd.R_below (uR HO_322001) hb); have n5_ := Aside0.mk (Kd.R_below (uR HO_322002) hb); have n6_ := Aside0.mk (blk_below (g := gb287) (o := .cells #[.int .i64 a0_0, .slice A0_1 l0_1.length c0_1, .slice A0_2 l0_2.length c0_2] 24 (0, 0)) (uK BK287) hb); have n7_ := Aside0.mk (blk_below (g := gb304) (o := .cells #[.int .i64 t296, .slice Ao23 t297.length co23, .slice Ao24 t300.length co24] 26 (0, 0)) (uK BK304) hb); have n8_ := Aside0.mk (blk_below (g := gb312) (o := .cells #[.int .i64 t305, .slice Ao31 t332.length co31, .slice Ao32 t333.length co32] 26 (0, 0)) (uK BK312) hb); have n9_ := Aside0.mk (blk_below (g := gb321) (o := .cells #[.int .i64 t313, .slice Ao39 t314.length co39, .slice Ao40 t317.length co40] 26 (0, 0)) (uK BK321) hb); have n10_ := Aside0.mk (below_step (by first | exact uB HB | exact uS HB (gC GE287 (gC GE304 (gC GE312 (gC GE321 gN))))) hb); clear HO_305001 HO_305002 HO_313001 HO_313002 HO_322001 HO_322002 BK287 BK304 BK312 BK321 HB; have HO_305001 := n0_; have HO_305002 := n1_; have HO_313001 := n2_; have HO_313002 := n3_; have HO_322001 := n4_; have HO_322002 := n5_; have BK287 := n6_; have BK304 := n7_; have BK312 := n8_; have BK321 := n9_; have HB := n10_; clear n0_ n1_ n2_ n3_ n4_ n5_ n6_ n7_ n8_ n9_ n10_; (try clear hb); (try clear hb2); (try clear hk); (try clear hi); have hnb116 := NB287_304.out; have hnc116 := NB304_287.out; have hnb117 := NB287_312.out; have hnc117 := NB312_287.out; have hcz118_0 : w115.cell? ⟨gb287, 0, none⟩ = some (.int .i64 a0_0) := (blk_cell BK287.out 0).trans rfl; have hcz118_1 : w115.cell? ⟨gb287, 1, none⟩ = some (.slice A0_1 l0_1.length c0_1) := (blk_cell BK287.out 1).trans rfl; have hcz118_2 : w115.cell? ⟨gb287, 2, none⟩ = some (.slice A0_2 l0_2.length c0_2) := (blk_cell BK287.out 2).trans rfl; have hfz118_0 := blk_frozen BK287.out 0; have hfz118_1 := blk_frozen BK287.out 1; have hfz118_2 := blk_frozen BK287.out 2) | ((with_reducible refine gate_callee (f := 8) rfl ?_); refine goesL_ (some 75) rfl rfl Try.func8 (by kernel_rfl) rfl #[.agg #[.int .i64 a0_0, .slice A0_1 l0_1.length c0_1, .slice A0_2 l0_2.length c0_2]] rfl (by (try simp only [List.map_toArray, List.map_cons, List.map_nil]); first | done | rfl | (simp only [List.length_drop, List.length_take]; rfl)) ?_; (with_reducible refine (laws_toCuckoo.calls kj63 a0_0 _ _ l0_1 _ _ l0_2 t339 t340 t343 _ ?side1 ?side2 ?side3 ?side4 A106.out).mono ?_); (case side1 => exact uC HR0_1 HB); (case side2 => exact HC0_1.out); (case side3 => exact uC HR0_2 HB); (case side4 => exact HC0_2.out); rintro e w119 ⟨v341, v344, rfl, ho0, ho1, hb⟩; refine ⟨_, rfl, ?_⟩; have n0_ := Aside0.mk (Kd.R_mono (Kd.R_told (Kd.R_told (Kd.R_old (uR HO_305001) hb) (Kd.R_base ho0)) (Kd.R_base ho1)) (fun _ h_ => h_.1)); have n1_ := Aside0.mk (Kd.R_mono (Kd.R_told (Kd.R_told (Kd.R_old (uR HO_305002) hb) (Kd.R_base ho0)) (Kd.R_base ho1)) (fun _ h_ => h_.1)); have n2_ := Aside0.mk (Kd.R_mono (Kd.R_told (Kd.R_told (Kd.R_old (uR HO_313001) hb) (Kd.R_base ho0)) (Kd.R_base ho1)) (fun _ h_ => h_.1)); have n3_ := Aside0.mk (Kd.R_mono (Kd.R_told (Kd.R_told (Kd.R_old (uR HO_313002) hb) (Kd.R_base ho0)) (Kd.R_base ho1)) (fun _ h_ => h_.1)); have n4_ := Aside0.mk (Kd.R_mono (Kd.R_told (Kd.R_told (Kd.R_old (uR HO_322001) hb) (Kd.R_base ho0)) (Kd.R_base ho1)) (fun _ h_ => h_.1)); have n5_ := Aside0.mk (Kd.R_mono (Kd.R_told (Kd.R_told (Kd.R_old (uR HO_322002) hb) (Kd.R_base ho0)) (Kd.R_base ho1)) (fun _ h_ => h_.1)); have n6_ := Aside0.mk (Kd.R_lower (Kd.R_new' (Kd.R_new' (Kd.R_new' (Kd.R_new' (Kd.R_new' (Kd.R_new' ho0 (Kd.R_lt (uR HO_305001))) (Kd.R_lt (uR HO_305002))) (Kd.R_lt (uR HO_313001))) (Kd.R_lt (uR HO_313002))) (Kd.R_lt (uR HO_322001))) (Kd.R_lt (uR HO_322002))) (below_size (by first | exact uB HB | exact uS HB (gC GE287 (gC GE304 (gC GE312 (gC GE321 gN))))))); have n7_ := Aside0.mk (Kd.R_lower (Kd.R_new' (Kd.R_new' (Kd.R_new' (Kd.R_new' (Kd.R_new' (Kd.R_new' ho1 (Kd.R_lt (uR HO_305001))) (Kd.R_lt (uR HO_305002))) (Kd.R_lt (uR HO_313001))) (Kd.R_lt (uR HO_313002))) (Kd.R_lt (uR HO_322001))) (Kd.R_lt (uR HO_322002))) (below_size (by first | exact uB HB | exact uS HB (gC GE287 (gC GE304 (gC GE312 (gC GE321 gN))))))); have n8_ := Aside0.mk (blk_below (g := gb287) (o := .cells #[.int .i64 a0_0, .slice A0_1 l0_1.length c0_1, .slice A0_2 l0_2.length c0_2] 24 (0, 0)) (uK BK287) hb); have n9_ := Aside0.mk (blk_below (g := gb304) (o := .cells #[.int .i64 t296, .slice Ao23 t297.length co23, .slice Ao24 t300.length co24] 26 (0, 0)) (uK BK304) hb); have n10_ := Aside0.mk (blk_below (g := gb312) (o := .cells #[.int .i64 t305, .slice Ao31 t332.length co31, .slice Ao32 t333.length co32] 26 (0, 0)) (uK BK312) hb); have n11_ := Aside0.mk (blk_below (g := gb321) (o := .cells #[.int .i64 t313, .slice Ao39 t314.length co39, .slice Ao40 t317.length co40] 26 (0, 0)) (uK BK321) hb); have n12_ := Aside0.mk (below_step (by first | exact uB HB | exact uS HB (gC GE287 (gC GE304 (gC GE312 (gC GE321 gN))))) hb); clear HO_305001 HO_305002 HO_313001 HO_313002 HO_322001 HO_322002 BK287 BK304 BK312 BK321 HB; have HO_305001 := n0_; have HO_305002 := n1_; have HO_313001 := n2_; have HO_313002 := n3_; have HO_322001 := n4_; have HO_322002 := n5_; have HO342 := n6_; have HO345 := n7_; have BK287 := n8_; have BK304 := n9_; have BK312 := n10_; have BK321 := n11_; have HB := n12_; clear n0_ n1_ n2_ n3_ n4_ n5_ n6_ n7_ n8_ n9_ n10_ n11_ n12_; (try clear hb); (try clear hb2); (try clear hk); (try clear hi); (try clear ho0); (try clear ho1); obtain ⟨Ao120, co120, eo120⟩ := Kd.R_slice HO342.out; subst eo120; obtain ⟨Ao121, co121, eo121⟩ := Kd.R_slice HO345.out; subst eo121) | ((with_reducible refine gate_callee (f := 9) rfl ?_); refine goesL_ (some 76) rfl rfl Try.func9 (by kernel_rfl) rfl #[.agg #[.int .i64 t339, .slice Ao120 t340.length co120, .slice Ao121 t343.length co121]] rfl (by (try simp only [List.map_toArray, List.map_cons, List.map_nil]); first | done | rfl | (simp only [List.length_drop, List.length_take]; rfl)) ?_; (with_reducible refine (impl_CuckooUnstash.calls kj63 t339 _ _ t340 _ _ t343 t346 t347 t350 t353 _ ?side1 ?side2 ?side3 ?side4 A107.out).mono ?_); (case side1 => exact uD HO342); (case side2 => exact (Kd.R_reads' HO342.out).2.1); (case side3 => exact uD HO345); (case side4 => exact (Kd.R_reads' HO345.out).2.1); rintro e w122 ⟨v348, v351, rfl, ho0, ho1, hb⟩; refine ⟨_, rfl, ?_⟩; have n0_ := Aside0.mk (Kd.R_mono (Kd.R_told (Kd.R_told (Kd.R_old (uR HO_305001) hb) (Kd.R_base ho0)) (Kd.R_base ho1)) (fun _ h_ => h_.1)); have n1_ := Aside0.mk (Kd.R_mono (Kd.R_told (Kd.R_told (Kd.R_old (uR HO_305002) hb) (Kd.R_base ho0)) (Kd.R_base ho1)) (fun _ h_ => h_.1)); have n2_ := Aside0.mk (Kd.R_mono (Kd.R_told (Kd.R_told (Kd.R_old (uR HO_313001) hb) (Kd.R_base ho0)) (Kd.R_base ho1)) (fun _ h_ => h_.1)); have n3_ := Aside0.mk (Kd.R_mono (Kd.R_told (Kd.R_told (Kd.R_old (uR HO_313002) hb) (Kd.R_base ho0)) (Kd.R_base ho1)) (fun _ h_ => h_.1)); have n4_ := Aside0.mk (Kd.R_mono (Kd.R_told (Kd.R_told (Kd.R_old (uR HO_322001) hb) (Kd.R_base ho0)) (Kd.R_base ho1)) (fun _ h_ => h_.1)); have n5_ := Aside0.mk (Kd.R_mono (Kd.R_told (Kd.R_told (Kd.R_old (uR HO_322002) hb) (Kd.R_base ho0)) (Kd.R_base ho1)) (fun _ h_ => h_.1)); have n6_ := Aside0.mk (Kd.R_mono (Kd.R_told (Kd.R_told (Kd.R_old (uR HO342) hb) (Kd.R_base ho0)) (Kd.R_base ho1)) (fun _ h_ => h_.1)); have n7_ := Aside0.mk (Kd.R_mono (Kd.R_told (Kd.R_told (Kd.R_old (uR HO345) hb) (Kd.R_base ho0)) (Kd.R_base ho1)) (fun _ h_ => h_.1)); have n8_ := Aside0.mk (Kd.R_lower (Kd.R_new' (Kd.R_new' (Kd.R_new' (Kd.R_new' (Kd.R_new' (Kd.R_new' (Kd.R_new' (Kd.R_new' ho0 (Kd.R_lt (uR HO_305001))) (Kd.R_lt (uR HO_305002))) (Kd.R_lt (uR HO_313001))) (Kd.R_lt (uR HO_313002))) (Kd.R_lt (uR HO_322001))) (Kd.R_lt (uR HO_322002))) (Kd.R_lt (uR HO342))) (Kd.R_lt (uR HO345))) (below_size (by first | exact uB HB | exact uS HB (gC GE287 (gC GE304 (gC GE312 (gC GE321 gN))))))); have n9_ := Aside0.mk (Kd.R_lower (Kd.R_new' (Kd.R_new' (Kd.R_new' (Kd.R_new' (Kd.R_new' (Kd.R_new' (Kd.R_new' (Kd.R_new' ho1 (Kd.R_lt (uR HO_305001))) (Kd.R_lt (uR HO_305002))) (Kd.R_lt (uR HO_313001))) (Kd.R_lt (uR HO_313002))) (Kd.R_lt (uR HO_322001))) (Kd.R_lt (uR HO_322002))) (Kd.R_lt (uR HO342))) (Kd.R_lt (uR HO345))) (below_size (by first | exact uB HB | exact uS HB (gC GE287 (gC GE304 (gC GE312 (gC GE321 gN))))))); have n10_ := Aside0.mk (blk_below (g := gb287) (o := .cells #[.int .i64 a0_0, .slice A0_1 l0_1.length c0_1, .slice A0_2 l0_2.length c0_2] 24 (0, 0)) (uK BK287) hb); have n11_ := Aside0.mk (blk_below (g := gb304) (o := .cells #[.int .i64 t296, .slice Ao23 t297.length co23, .slice Ao24 t300.length co24] 26 (0, 0)) (uK BK304) hb); have n12_ := Aside0.mk (blk_below (g := gb312) (o := .cells #[.int .i64 t305, .slice Ao31 t332.length co31, .slice Ao32 t333.length co32] 26 (0, 0)) (uK BK312) hb); have n13_ := Aside0.mk (blk_below (g := gb321) (o := .cells #[.int .i64 t313, .slice Ao39 t314.length co39, .slice Ao40 t317.length co40] 26 (0, 0)) (uK BK321) hb); have n14_ := Aside0.mk (below_step (by first | exact uB HB | exact uS HB (gC GE287 (gC GE304 (gC GE312 (gC GE321 gN))))) hb); clear HO_305001 HO_305002 HO_313001 HO_313002 HO_322001 HO_322002 HO342 HO345 BK287 BK304 BK312 BK321 HB; have HO_305001 := n0_; have HO_305002 := n1_; have HO_313001 := n2_; have HO_313002 := n3_; have HO_322001 := n4_; have HO_322002 := n5_; have HO342 := n6_; have HO345 := n7_; have HO349 := n8_; have HO352 := n9_; have BK287 := n10_; have BK304 := n11_; have BK312 := n12_; have BK321 := n13_; have HB := n14_; clear n0_ n1_ n2_ n3_ n4_ n5_ n6_ n7_ n8_ n9_ n10_ n11_ n12_ n13_ n14_; (try clear hb); (try clear hb2); (try clear hk); (try clear hi); (try clear ho0); (try clear ho1)) | ((with_reducible refine gate_dst (N := 12) rfl ?_); refine box_event ?hg (N := 12) ?hd (cs := #[.int .i64 0, .slice none 0 0, .slice none 0 0]) (t := 26) ?hr ?_; (case hd => rfl); (case hg => rfl); (case hr => first | (go_simp; done) | (go_simp; rfl)); intro gb354 hg w123 hbox hb; have n0_ := Aside0.mk (Kd.R_below (uR HO_305001) hb); have n1_ := Aside0.mk (Kd.R_below (uR HO_305002) hb); have n2_ := Aside0.mk (Kd.R_below (uR HO_313001) hb); have n3_ := Aside0.mk (Kd.R_below (uR HO_313002) hb); have n4_ := Aside0.mk (Kd.R_below (uR HO_322001) hb); have n5_ := Aside0.mk (Kd.R_below (uR HO_322002) hb); have n6_ := Aside0.mk (Kd.R_below (uR HO342) hb); have n7_ := Aside0.mk (Kd.R_below (uR HO345) hb); have n8_ := Aside0.mk (Kd.R_below (uR HO349) hb); have n9_ := Aside0.mk (Kd.R_below (uR HO352) hb); have n10_ := Aside0.mk (blk_below (g := gb287) (o := .cells #[.int .i64 a0_0, .slice A0_1 l0_1.length c0_1, .slice A0_2 l0_2.length c0_2] 24 (0, 0)) (uK BK287) hb); have n11_ := Aside0.mk (blk_below (g := gb304) (o := .cells #[.int .i64 t296, .slice Ao23 t297.length co23, .slice Ao24 t300.length co24] 26 (0, 0)) (uK BK304) hb); have n12_ := Aside0.mk (blk_below (g := gb312) (o := .cells #[.int .i64 t305, .slice Ao31 t332.length co31, .slice Ao32 t333.length co32] 26 (0, 0)) (uK BK312) hb); have n13_ := Aside0.mk (blk_below (g := gb321) (o := .cells #[.int .i64 t313, .slice Ao39 t314.length co39, .slice Ao40 t317.length co40] 26 (0, 0)) (uK BK321) hb); have n14_ := Aside0.mk (below_step (by first | exact uB HB | exact uS HB (gC GE287 (gC GE304 (gC GE312 (gC GE321 gN))))) hb); have n15_ := Aside0.mk (hbox); have n16_ := Aside0.mk ((by rw [hg]; exact (below_size (by first | exact uB HB | exact uS HB (gC GE287 (gC GE304 (gC GE312 (gC GE321 gN)))))) : w.heap.size ≤ gb354)); have n17_ := Aside0.mk ((by rw [hg]; exact (below_size (by first | exact uB HB | exact uS HB (gC GE287 (gC GE304 (gC GE312 (gC GE321 gN)))))) : w.heap.size ≤ gb354)); have n18_ := Aside0.mk ((by rw [hg]; exact Nat.ne_of_lt (blk_lt (g := gb287) (o := .cells #[.int .i64 a0_0, .slice A0_1 l0_1.length c0_1, .slice A0_2 l0_2.length c0_2] 24 (0, 0)) (uK BK287)) : gb287 ≠ gb354)); have n19_ := Aside0.mk ((by rw [hg]; exact Nat.ne_of_gt (blk_lt (g := gb287) (o := .cells #[.int .i64 a0_0, .slice A0_1 l0_1.length c0_1, .slice A0_2 l0_2.length c0_2] 24 (0, 0)) (uK BK287)) : gb354 ≠ gb287)); have n20_ := Aside0.mk ((by rw [hg]; exact Nat.ne_of_lt (blk_lt (g := gb304) (o := .cells #[.int .i64 t296, .slice Ao23 t297.length co23, .slice Ao24 t300.length co24] 26 (0, 0)) (uK BK304)) : gb304 ≠ gb354)); have n21_ := Aside0.mk ((by rw [hg]; exact Nat.ne_of_gt (blk_lt (g := gb304) (o := .cells #[.int .i64 t296, .slice Ao23 t297.length co23, .slice Ao24 t300.length co24] 26 (0, 0)) (uK BK304)) : gb354 ≠ gb304)); have n22_ := Aside0.mk ((by rw [hg]; exact Nat.ne_of_lt (blk_lt (g := gb312) (o := .cells #[.int .i64 t305, .slice Ao31 t332.length co31, .slice Ao32 t333.length co32] 26 (0, 0)) (uK BK312)) : gb312 ≠ gb354)); have n23_ := Aside0.mk ((by rw [hg]; exact Nat.ne_of_gt (blk_lt (g := gb312) (o := .cells #[.int .i64 t305, .slice Ao31 t332.length co31, .slice Ao32 t333.length co32] 26 (0, 0)) (uK BK312)) : gb354 ≠ gb312)); have n24_ := Aside0.mk ((by rw [hg]; exact Nat.ne_of_lt (blk_lt (g := gb321) (o := .cells #[.int .i64 t313, .slice Ao39 t314.length co39, .slice Ao40 t317.length co40] 26 (0, 0)) (uK BK321)) : gb321 ≠ gb354)); have n25_ := Aside0.mk ((by rw [hg]; exact Nat.ne_of_gt (blk_lt (g := gb321) (o := .cells #[.int .i64 t313, .slice Ao39 t314.length co39, .slice Ao40 t317.length co40] 26 (0, 0)) (uK BK321)) : gb354 ≠ gb321)); clear HO_305001 HO_305002 HO_313001 HO_313002 HO_322001 HO_322002 HO342 HO345 HO349 HO352 BK287 BK304 BK312 BK321 HB; have HO_305001 := n0_; have HO_305002 := n1_; have HO_313001 := n2_; have HO_313002 := n3_; have HO_322001 := n4_; have HO_322002 := n5_; have HO342 := n6_; have HO345 := n7_; have HO349 := n8_; have HO352 := n9_; have BK287 := n10_; have BK304 := n11_; have BK312 := n12_; have BK321 := n13_; have HB := n14_; have BK354 := n15_; have GW354 := n16_; have GE354 := n17_; have NB287_354 := n18_; have NB354_287 := n19_; have NB304_354 := n20_; have NB354_304 := n21_; have NB312_354 := n22_; have NB354_312 := n23_; have NB321_354 := n24_; have NB354_321 := n25_; clear n0_ n1_ n2_ n3_ n4_ n5_ n6_ n7_ n8_ n9_ n10_ n11_ n12_ n13_ n14_ n15_ n16_ n17_ n18_ n19_ n20_ n21_ n22_ n23_ n24_ n25_ hb hbox hg; have hnb124 := NB354_287.out; have hnc124 := NB287_354.out; have hnb125 := NB354_304.out; have hnc125 := NB304_354.out; have hnb126 := NB354_312.out; have hnc126 := NB312_354.out; have hnb127 := NB354_321.out; have hnc127 := NB321_354.out; have hcz128_0 : w123.cell? ⟨gb354, 0, none⟩ = some (.int .i64 0) := (blk_cell BK354.out 0).trans rfl; have hcz128_1 : w123.cell? ⟨gb354, 1, none⟩ = some (.slice none 0 0) := (blk_cell BK354.out 1).trans rfl; have hcz128_2 : w123.cell? ⟨gb354, 2, none⟩ = some (.slice none 0 0) := (blk_cell BK354.out 2).trans rfl; have hfz128_0 := blk_frozen BK354.out 0; have hfz128_1 := blk_frozen BK354.out 1; have hfz128_2 := blk_frozen BK354.out 2; obtain ⟨Ao129, co129, eo129⟩ := Kd.R_slice HO349.out; subst eo129; obtain ⟨Ao130, co130, eo130⟩ := Kd.R_slice HO352.out; subst eo130))
           (try simp only [Act.put, List.setIfInBounds_toArray, List.set_cons_zero, List.set_cons_succ])
           go_cut [87] (fun v87 wc => ∃ (kq : Nat) (x87_107 : Bool), v87 = .bool x87_107 ∧ Aside0 (laws_FnExactCuckooUnstash.j2 kq t335 x87_107 t313 t336 t337 = some r) ∧ Aside0 (kq ≤ kj63) ∧ Aside0 (Kd.R Kd.string 9 wc w.heap.size (fun k_ => some k_ ≠ ((.slice Ao24 t300.length co24) : Value).ownBlock ∧ some k_ ≠ ((.slice Ao31 t332.length co31) : Value).ownBlock ∧ some k_ ≠ ((.slice Ao32 t333.length co32) : Value).ownBlock ∧ some k_ ≠ ((.slice Ao39 t314.length co39) : Value).ownBlock ∧ some k_ ≠ ((.slice Ao40 t317.length co40) : Value).ownBlock ∧ some k_ ≠ ((.slice Ao129 t347.length co129) : Value).ownBlock ∧ some k_ ≠ ((.slice Ao130 t350.length co130) : Value).ownBlock) (.slice Ao23 t297.length co23) t297) ∧ Aside0 (Kd.R Kd.string 9 wc w.heap.size (fun k_ => some k_ ≠ ((.slice Ao23 t297.length co23) : Value).ownBlock ∧ some k_ ≠ ((.slice Ao31 t332.length co31) : Value).ownBlock ∧ some k_ ≠ ((.slice Ao32 t333.length co32) : Value).ownBlock ∧ some k_ ≠ ((.slice Ao39 t314.length co39) : Value).ownBlock ∧ some k_ ≠ ((.slice Ao40 t317.length co40) : Value).ownBlock ∧ some k_ ≠ ((.slice Ao129 t347.length co129) : Value).ownBlock ∧ some k_ ≠ ((.slice Ao130 t350.length co130) : Value).ownBlock) (.slice Ao24 t300.length co24) t300) ∧ Aside0 (Kd.R Kd.string 9 wc w.heap.size (fun k_ => some k_ ≠ ((.slice Ao23 t297.length co23) : Value).ownBlock ∧ some k_ ≠ ((.slice Ao24 t300.length co24) : Value).ownBlock ∧ some k_ ≠ ((.slice Ao32 t333.length co32) : Value).ownBlock ∧ some k_ ≠ ((.slice Ao39 t314.length co39) : Value).ownBlock ∧ some k_ ≠ ((.slice Ao40 t317.length co40) : Value).ownBlock ∧ some k_ ≠ ((.slice Ao129 t347.length co129) : Value).ownBlock ∧ some k_ ≠ ((.slice Ao130 t350.length co130) : Value).ownBlock) (.slice Ao31 t332.length co31) t332) ∧ Aside0 (Kd.R Kd.string 9 wc w.heap.size (fun k_ => some k_ ≠ ((.slice Ao23 t297.length co23) : Value).ownBlock ∧ some k_ ≠ ((.slice Ao24 t300.length co24) : Value).ownBlock ∧ some k_ ≠ ((.slice Ao31 t332.length co31) : Value).ownBlock ∧ some k_ ≠ ((.slice Ao39 t314.length co39) : Value).ownBlock ∧ some k_ ≠ ((.slice Ao40 t317.length co40) : Value).ownBlock ∧ some k_ ≠ ((.slice Ao129 t347.length co129) : Value).ownBlock ∧ some k_ ≠ ((.slice Ao130 t350.length co130) : Value).ownBlock) (.slice Ao32 t333.length co32) t333) ∧ Aside0 (Kd.R Kd.string 9 wc w.heap.size (fun k_ => some k_ ≠ ((.slice Ao23 t297.length co23) : Value).ownBlock ∧ some k_ ≠ ((.slice Ao24 t300.length co24) : Value).ownBlock ∧ some k_ ≠ ((.slice Ao31 t332.length co31) : Value).ownBlock ∧ some k_ ≠ ((.slice Ao32 t333.length co32) : Value).ownBlock ∧ some k_ ≠ ((.slice Ao40 t317.length co40) : Value).ownBlock ∧ some k_ ≠ ((.slice Ao129 t347.length co129) : Value).ownBlock ∧ some k_ ≠ ((.slice Ao130 t350.length co130) : Value).ownBlock) (.slice Ao39 t314.length co39) t336) ∧ Aside0 (Kd.R Kd.string 9 wc w.heap.size (fun k_ => some k_ ≠ ((.slice Ao23 t297.length co23) : Value).ownBlock ∧ some k_ ≠ ((.slice Ao24 t300.length co24) : Value).ownBlock ∧ some k_ ≠ ((.slice Ao31 t332.length co31) : Value).ownBlock ∧ some k_ ≠ ((.slice Ao32 t333.length co32) : Value).ownBlock ∧ some k_ ≠ ((.slice Ao39 t314.length co39) : Value).ownBlock ∧ some k_ ≠ ((.slice Ao129 t347.length co129) : Value).ownBlock ∧ some k_ ≠ ((.slice Ao130 t350.length co130) : Value).ownBlock) (.slice Ao40 t317.length co40) t337) ∧ Aside0 (Kd.R Kd.string 9 wc w.heap.size (fun k_ => some k_ ≠ ((.slice Ao23 t297.length co23) : Value).ownBlock ∧ some k_ ≠ ((.slice Ao24 t300.length co24) : Value).ownBlock ∧ some k_ ≠ ((.slice Ao31 t332.length co31) : Value).ownBlock ∧ some k_ ≠ ((.slice Ao32 t333.length co32) : Value).ownBlock ∧ some k_ ≠ ((.slice Ao39 t314.length co39) : Value).ownBlock ∧ some k_ ≠ ((.slice Ao40 t317.length co40) : Value).ownBlock ∧ some k_ ≠ ((.slice Ao130 t350.length co130) : Value).ownBlock) (.slice Ao129 t347.length co129) t347) ∧ Aside0 (Kd.R Kd.string 9 wc w.heap.size (fun k_ => some k_ ≠ ((.slice Ao23 t297.length co23) : Value).ownBlock ∧ some k_ ≠ ((.slice Ao24 t300.length co24) : Value).ownBlock ∧ some k_ ≠ ((.slice Ao31 t332.length co31) : Value).ownBlock ∧ some k_ ≠ ((.slice Ao32 t333.length co32) : Value).ownBlock ∧ some k_ ≠ ((.slice Ao39 t314.length co39) : Value).ownBlock ∧ some k_ ≠ ((.slice Ao40 t317.length co40) : Value).ownBlock ∧ some k_ ≠ ((.slice Ao129 t347.length co129) : Value).ownBlock) (.slice Ao130 t350.length co130) t350) ∧ Aside0 (wc.heap[gb287]? = some (.cells #[.int .i64 a0_0, (.slice A0_1 l0_1.length c0_1), (.slice A0_2 l0_2.length c0_2)] 24 (0, 0))) ∧ Aside0 (wc.heap[gb304]? = some (.cells #[.int .i64 t296, (.slice Ao23 t297.length co23), (.slice Ao24 t300.length co24)] 26 (0, 0))) ∧ Aside0 (wc.heap[gb312]? = some (.cells #[.int .i64 t305, (.slice Ao31 t332.length co31), (.slice Ao32 t333.length co32)] 26 (0, 0))) ∧ Aside0 (wc.heap[gb321]? = some (.cells #[.int .i64 t313, (.slice Ao39 t314.length co39), (.slice Ao40 t317.length co40)] 26 (0, 0))) ∧ Aside0 (wc.heap[gb354]? = some (.cells #[.int .i64 t346, (.slice Ao129 t347.length co129), (.slice Ao130 t350.length co130)] 26 (0, 0))) ∧ Aside0 (Below w.heap.size w wc))
           case first =>
            have H := HC108.out
            clear HC108
            replace H := Option.bind_eq_some_iff.mp H
            obtain ⟨t355, A1310, H⟩ := H
            replace H : (if t355 = true then (laws_FnExactCuckooUnstash.j2 kj63 t335 (t353 != t303) t313 t336 t337) else (laws_FnExactCuckooUnstash.j2 kj63 t335 true t313 t336 t337)) = some r := H
            have A131 := Aside0.mk A1310
            clear A1310
            by_cases c132 : t355 = true
            ·
             subst c132
             have H1 : (laws_FnExactCuckooUnstash.j2 kj63 t335 (t353 != t303) t313 t336 t337) = some r := by rw [if_pos rfl] at H; exact H
             clear H
             have H := H1
             clear H1
             have H' := Aside0.mk H
             clear H
             have hnb133 := NB354_287.out
             have hnc133 := NB287_354.out
             have hnb134 := NB354_304.out
             have hnc134 := NB304_354.out
             have hnb135 := NB354_312.out
             have hnc135 := NB312_354.out
             have hnb136 := NB354_321.out
             have hnc136 := NB321_354.out
             have hcz137_0 : w123.cell? ⟨gb354, 0, none⟩ = some (.int .i64 0) := (blk_cell BK354.out 0).trans rfl
             have hcz137_1 : w123.cell? ⟨gb354, 1, none⟩ = some (.slice none 0 0) := (blk_cell BK354.out 1).trans rfl
             have hcz137_2 : w123.cell? ⟨gb354, 2, none⟩ = some (.slice none 0 0) := (blk_cell BK354.out 2).trans rfl
             have hfz137_0 := blk_frozen BK354.out 0
             have hfz137_1 := blk_frozen BK354.out 1
             have hfz137_2 := blk_frozen BK354.out 2
             have hnb138 := NB304_287.out
             have hnc138 := NB287_304.out
             have hnb139 := NB304_312.out
             have hnc139 := NB312_304.out
             have hnb140 := NB304_321.out
             have hnc140 := NB321_304.out
             have hcz141_0 : w123.cell? ⟨gb304, 0, none⟩ = some (.int .i64 t296) := (blk_cell BK304.out 0).trans rfl
             have hcz141_1 : w123.cell? ⟨gb304, 1, none⟩ = some (.slice Ao23 t297.length co23) := (blk_cell BK304.out 1).trans rfl
             have hcz141_2 : w123.cell? ⟨gb304, 2, none⟩ = some (.slice Ao24 t300.length co24) := (blk_cell BK304.out 2).trans rfl
             have hfz141_0 := blk_frozen BK304.out 0
             have hfz141_1 := blk_frozen BK304.out 1
             have hfz141_2 := blk_frozen BK304.out 2
             go_wp2_with (first | ((with_reducible refine gate_callee (f := 10) rfl ?_); refine goesL_ (some 81) rfl rfl Try.func10 (by kernel_rfl) rfl #[.agg #[.int .i64 t346, .slice Ao129 t347.length co129, .slice Ao130 t350.length co130], .agg #[.int .i64 t296, .slice Ao23 t297.length co23, .slice Ao24 t300.length co24]] rfl (by (try simp only [List.map_toArray, List.map_cons, List.map_nil]); first | done | rfl | (simp only [List.length_drop, List.length_take]; rfl)) ?_; (with_reducible refine (laws_eqCuckoo.calls kj63 t346 _ _ t347 _ _ t350 t296 _ _ t297 _ _ t300 true _ ?side1 ?side2 ?side3 ?side4 ?side5 ?side6 ?side7 ?side8 A131.out).mono ?_); (case side1 => refine (Kd.R_reads' (e := 9) (base := w.heap.size) (ok := fun k_ => ((((((((some k_ ≠ (.slice Ao130 t350.length co130 : Value).ownBlock ∧ some k_ ≠ (.slice Ao23 t297.length co23 : Value).ownBlock) ∧ some k_ ≠ (.slice Ao24 t300.length co24 : Value).ownBlock) ∧ some k_ ≠ (.slice Ao31 t332.length co31 : Value).ownBlock) ∧ some k_ ≠ (.slice Ao32 t333.length co32 : Value).ownBlock) ∧ some k_ ≠ (.slice Ao39 t314.length co39 : Value).ownBlock) ∧ some k_ ≠ (.slice Ao40 t317.length co40 : Value).ownBlock) ∧ some k_ ≠ (.slice Ao120 t340.length co120 : Value).ownBlock) ∧ some k_ ≠ (.slice Ao121 t343.length co121 : Value).ownBlock)) (n := t347.length) (c := co129) ?_).2.2; exact (by (with_reducible repeat (first | apply Kd.R_alloc | apply Kd.R_drewN | apply Kd.R_drew)); exact (Kd.R_mono (Kd.R_far (p := ⟨gb354, 2, none⟩) (Kd.R_far (p := ⟨gb354, 1, none⟩) (Kd.R_far (p := ⟨gb354, 0, none⟩) (Kd.R_types HO349.out BK354.out (by decide)) (fun _ hk => hk.2) (.int .i64 t346)) (fun _ hk => hk.2) (.slice Ao129 t347.length co129)) (fun _ hk => hk.2) (.slice Ao130 t350.length co130)) (fun _ h_ => h_.1)))); (case side2 => exact (Kd.R_reads' HO349.out).2.1); (case side3 => refine (Kd.R_reads' (e := 9) (base := w.heap.size) (ok := fun k_ => ((((((((some k_ ≠ (.slice Ao129 t347.length co129 : Value).ownBlock ∧ some k_ ≠ (.slice Ao23 t297.length co23 : Value).ownBlock) ∧ some k_ ≠ (.slice Ao24 t300.length co24 : Value).ownBlock) ∧ some k_ ≠ (.slice Ao31 t332.length co31 : Value).ownBlock) ∧ some k_ ≠ (.slice Ao32 t333.length co32 : Value).ownBlock) ∧ some k_ ≠ (.slice Ao39 t314.length co39 : Value).ownBlock) ∧ some k_ ≠ (.slice Ao40 t317.length co40 : Value).ownBlock) ∧ some k_ ≠ (.slice Ao120 t340.length co120 : Value).ownBlock) ∧ some k_ ≠ (.slice Ao121 t343.length co121 : Value).ownBlock)) (n := t350.length) (c := co130) ?_).2.2; exact (by (with_reducible repeat (first | apply Kd.R_alloc | apply Kd.R_drewN | apply Kd.R_drew)); exact (Kd.R_mono (Kd.R_far (p := ⟨gb354, 2, none⟩) (Kd.R_far (p := ⟨gb354, 1, none⟩) (Kd.R_far (p := ⟨gb354, 0, none⟩) (Kd.R_types HO352.out BK354.out (by decide)) (fun _ hk => hk.2) (.int .i64 t346)) (fun _ hk => hk.2) (.slice Ao129 t347.length co129)) (fun _ hk => hk.2) (.slice Ao130 t350.length co130)) (fun _ h_ => h_.1)))); (case side4 => exact (Kd.R_reads' HO352.out).2.1); (case side5 => refine (Kd.R_reads' (e := 9) (base := w.heap.size) (ok := fun k_ => (((((some k_ ≠ (.slice Ao24 t300.length co24 : Value).ownBlock ∧ (some k_ ≠ (.slice Ao31 t332.length co31 : Value).ownBlock ∧ (some k_ ≠ (.slice Ao32 t333.length co32 : Value).ownBlock ∧ (some k_ ≠ (.slice Ao39 t314.length co39 : Value).ownBlock ∧ some k_ ≠ (.slice Ao40 t317.length co40 : Value).ownBlock)))) ∧ some k_ ≠ (.slice Ao120 t340.length co120 : Value).ownBlock) ∧ some k_ ≠ (.slice Ao121 t343.length co121 : Value).ownBlock) ∧ some k_ ≠ (.slice Ao129 t347.length co129 : Value).ownBlock) ∧ some k_ ≠ (.slice Ao130 t350.length co130 : Value).ownBlock)) (n := t297.length) (c := co23) ?_).2.2; exact (by (with_reducible repeat (first | apply Kd.R_alloc | apply Kd.R_drewN | apply Kd.R_drew)); exact (Kd.R_mono (Kd.R_far (p := ⟨gb354, 2, none⟩) (Kd.R_far (p := ⟨gb354, 1, none⟩) (Kd.R_far (p := ⟨gb354, 0, none⟩) (Kd.R_types HO_305001.out BK354.out (by decide)) (fun _ hk => hk.2) (.int .i64 t346)) (fun _ hk => hk.2) (.slice Ao129 t347.length co129)) (fun _ hk => hk.2) (.slice Ao130 t350.length co130)) (fun _ h_ => h_.1)))); (case side6 => exact (Kd.R_reads' HO_305001.out).2.1); (case side7 => refine (Kd.R_reads' (e := 9) (base := w.heap.size) (ok := fun k_ => (((((some k_ ≠ (.slice Ao23 t297.length co23 : Value).ownBlock ∧ (some k_ ≠ (.slice Ao31 t332.length co31 : Value).ownBlock ∧ (some k_ ≠ (.slice Ao32 t333.length co32 : Value).ownBlock ∧ (some k_ ≠ (.slice Ao39 t314.length co39 : Value).ownBlock ∧ some k_ ≠ (.slice Ao40 t317.length co40 : Value).ownBlock)))) ∧ some k_ ≠ (.slice Ao120 t340.length co120 : Value).ownBlock) ∧ some k_ ≠ (.slice Ao121 t343.length co121 : Value).ownBlock) ∧ some k_ ≠ (.slice Ao129 t347.length co129 : Value).ownBlock) ∧ some k_ ≠ (.slice Ao130 t350.length co130 : Value).ownBlock)) (n := t300.length) (c := co24) ?_).2.2; exact (by (with_reducible repeat (first | apply Kd.R_alloc | apply Kd.R_drewN | apply Kd.R_drew)); exact (Kd.R_mono (Kd.R_far (p := ⟨gb354, 2, none⟩) (Kd.R_far (p := ⟨gb354, 1, none⟩) (Kd.R_far (p := ⟨gb354, 0, none⟩) (Kd.R_types HO_305002.out BK354.out (by decide)) (fun _ hk => hk.2) (.int .i64 t346)) (fun _ hk => hk.2) (.slice Ao129 t347.length co129)) (fun _ hk => hk.2) (.slice Ao130 t350.length co130)) (fun _ h_ => h_.1)))); (case side8 => exact (Kd.R_reads' HO_305002.out).2.1); rintro e w142 ⟨rfl, hb⟩; refine ⟨_, rfl, ?_⟩; have n0_ := Aside0.mk (Kd.R_below (by (with_reducible repeat (first | apply Kd.R_alloc | apply Kd.R_drewN | apply Kd.R_drew)); exact (Kd.R_mono (Kd.R_far (p := ⟨gb354, 2, none⟩) (Kd.R_far (p := ⟨gb354, 1, none⟩) (Kd.R_far (p := ⟨gb354, 0, none⟩) (Kd.R_types HO_305001.out BK354.out (by decide)) (fun _ hk => hk.2) (.int .i64 t346)) (fun _ hk => hk.2) (.slice Ao129 t347.length co129)) (fun _ hk => hk.2) (.slice Ao130 t350.length co130)) (fun _ h_ => h_.1))) hb); have n1_ := Aside0.mk (Kd.R_below (by (with_reducible repeat (first | apply Kd.R_alloc | apply Kd.R_drewN | apply Kd.R_drew)); exact (Kd.R_mono (Kd.R_far (p := ⟨gb354, 2, none⟩) (Kd.R_far (p := ⟨gb354, 1, none⟩) (Kd.R_far (p := ⟨gb354, 0, none⟩) (Kd.R_types HO_305002.out BK354.out (by decide)) (fun _ hk => hk.2) (.int .i64 t346)) (fun _ hk => hk.2) (.slice Ao129 t347.length co129)) (fun _ hk => hk.2) (.slice Ao130 t350.length co130)) (fun _ h_ => h_.1))) hb); have n2_ := Aside0.mk (Kd.R_below (by (with_reducible repeat (first | apply Kd.R_alloc | apply Kd.R_drewN | apply Kd.R_drew)); exact (Kd.R_mono (Kd.R_far (p := ⟨gb354, 2, none⟩) (Kd.R_far (p := ⟨gb354, 1, none⟩) (Kd.R_far (p := ⟨gb354, 0, none⟩) (Kd.R_types HO_313001.out BK354.out (by decide)) (fun _ hk => hk.2) (.int .i64 t346)) (fun _ hk => hk.2) (.slice Ao129 t347.length co129)) (fun _ hk => hk.2) (.slice Ao130 t350.length co130)) (fun _ h_ => h_.1))) hb); have n3_ := Aside0.mk (Kd.R_below (by (with_reducible repeat (first | apply Kd.R_alloc | apply Kd.R_drewN | apply Kd.R_drew)); exact (Kd.R_mono (Kd.R_far (p := ⟨gb354, 2, none⟩) (Kd.R_far (p := ⟨gb354, 1, none⟩) (Kd.R_far (p := ⟨gb354, 0, none⟩) (Kd.R_types HO_313002.out BK354.out (by decide)) (fun _ hk => hk.2) (.int .i64 t346)) (fun _ hk => hk.2) (.slice Ao129 t347.length co129)) (fun _ hk => hk.2) (.slice Ao130 t350.length co130)) (fun _ h_ => h_.1))) hb); have n4_ := Aside0.mk (Kd.R_below (by (with_reducible repeat (first | apply Kd.R_alloc | apply Kd.R_drewN | apply Kd.R_drew)); exact (Kd.R_mono (Kd.R_far (p := ⟨gb354, 2, none⟩) (Kd.R_far (p := ⟨gb354, 1, none⟩) (Kd.R_far (p := ⟨gb354, 0, none⟩) (Kd.R_types HO_322001.out BK354.out (by decide)) (fun _ hk => hk.2) (.int .i64 t346)) (fun _ hk => hk.2) (.slice Ao129 t347.length co129)) (fun _ hk => hk.2) (.slice Ao130 t350.length co130)) (fun _ h_ => h_.1))) hb); have n5_ := Aside0.mk (Kd.R_below (by (with_reducible repeat (first | apply Kd.R_alloc | apply Kd.R_drewN | apply Kd.R_drew)); exact (Kd.R_mono (Kd.R_far (p := ⟨gb354, 2, none⟩) (Kd.R_far (p := ⟨gb354, 1, none⟩) (Kd.R_far (p := ⟨gb354, 0, none⟩) (Kd.R_types HO_322002.out BK354.out (by decide)) (fun _ hk => hk.2) (.int .i64 t346)) (fun _ hk => hk.2) (.slice Ao129 t347.length co129)) (fun _ hk => hk.2) (.slice Ao130 t350.length co130)) (fun _ h_ => h_.1))) hb); have n6_ := Aside0.mk (Kd.R_below (by (with_reducible repeat (first | apply Kd.R_alloc | apply Kd.R_drewN | apply Kd.R_drew)); exact (Kd.R_mono (Kd.R_far (p := ⟨gb354, 2, none⟩) (Kd.R_far (p := ⟨gb354, 1, none⟩) (Kd.R_far (p := ⟨gb354, 0, none⟩) (Kd.R_types HO342.out BK354.out (by decide)) (fun _ hk => hk.2) (.int .i64 t346)) (fun _ hk => hk.2) (.slice Ao129 t347.length co129)) (fun _ hk => hk.2) (.slice Ao130 t350.length co130)) (fun _ h_ => h_.1))) hb); have n7_ := Aside0.mk (Kd.R_below (by (with_reducible repeat (first | apply Kd.R_alloc | apply Kd.R_drewN | apply Kd.R_drew)); exact (Kd.R_mono (Kd.R_far (p := ⟨gb354, 2, none⟩) (Kd.R_far (p := ⟨gb354, 1, none⟩) (Kd.R_far (p := ⟨gb354, 0, none⟩) (Kd.R_types HO345.out BK354.out (by decide)) (fun _ hk => hk.2) (.int .i64 t346)) (fun _ hk => hk.2) (.slice Ao129 t347.length co129)) (fun _ hk => hk.2) (.slice Ao130 t350.length co130)) (fun _ h_ => h_.1))) hb); have n8_ := Aside0.mk (Kd.R_below (by (with_reducible repeat (first | apply Kd.R_alloc | apply Kd.R_drewN | apply Kd.R_drew)); exact (Kd.R_mono (Kd.R_far (p := ⟨gb354, 2, none⟩) (Kd.R_far (p := ⟨gb354, 1, none⟩) (Kd.R_far (p := ⟨gb354, 0, none⟩) (Kd.R_types HO349.out BK354.out (by decide)) (fun _ hk => hk.2) (.int .i64 t346)) (fun _ hk => hk.2) (.slice Ao129 t347.length co129)) (fun _ hk => hk.2) (.slice Ao130 t350.length co130)) (fun _ h_ => h_.1))) hb); have n9_ := Aside0.mk (Kd.R_below (by (with_reducible repeat (first | apply Kd.R_alloc | apply Kd.R_drewN | apply Kd.R_drew)); exact (Kd.R_mono (Kd.R_far (p := ⟨gb354, 2, none⟩) (Kd.R_far (p := ⟨gb354, 1, none⟩) (Kd.R_far (p := ⟨gb354, 0, none⟩) (Kd.R_types HO352.out BK354.out (by decide)) (fun _ hk => hk.2) (.int .i64 t346)) (fun _ hk => hk.2) (.slice Ao129 t347.length co129)) (fun _ hk => hk.2) (.slice Ao130 t350.length co130)) (fun _ h_ => h_.1))) hb); have n10_ := Aside0.mk (blk_below (g := gb287) (o := .cells #[.int .i64 a0_0, .slice A0_1 l0_1.length c0_1, .slice A0_2 l0_2.length c0_2] 24 (0, 0)) (by refine uW ?_; refine blk_far ?_ NB287_354.out _; refine uW ?_; refine blk_far ?_ NB287_354.out _; refine uW ?_; refine blk_far ?_ NB287_354.out _; refine uW ?_; exact BK287.out) hb); have n11_ := Aside0.mk (blk_below (g := gb304) (o := .cells #[.int .i64 t296, .slice Ao23 t297.length co23, .slice Ao24 t300.length co24] 26 (0, 0)) (by refine uW ?_; refine blk_far ?_ NB304_354.out _; refine uW ?_; refine blk_far ?_ NB304_354.out _; refine uW ?_; refine blk_far ?_ NB304_354.out _; refine uW ?_; exact BK304.out) hb); have n12_ := Aside0.mk (blk_below (g := gb312) (o := .cells #[.int .i64 t305, .slice Ao31 t332.length co31, .slice Ao32 t333.length co32] 26 (0, 0)) (by refine uW ?_; refine blk_far ?_ NB312_354.out _; refine uW ?_; refine blk_far ?_ NB312_354.out _; refine uW ?_; refine blk_far ?_ NB312_354.out _; refine uW ?_; exact BK312.out) hb); have n13_ := Aside0.mk (blk_below (g := gb321) (o := .cells #[.int .i64 t313, .slice Ao39 t314.length co39, .slice Ao40 t317.length co40] 26 (0, 0)) (by refine uW ?_; refine blk_far ?_ NB321_354.out _; refine uW ?_; refine blk_far ?_ NB321_354.out _; refine uW ?_; refine blk_far ?_ NB321_354.out _; refine uW ?_; exact BK321.out) hb); have n14_ := Aside0.mk (blk_below (g := gb354) (o := .cells #[.int .i64 t346, .slice Ao129 t347.length co129, .slice Ao130 t350.length co130] 26 (0, 0)) (by refine uW ?_; refine blk_put (cs := #[.int .i64 t346, .slice Ao129 t347.length co129, .slice none 0 0]) ?_ 2 _ rfl; refine uW ?_; refine blk_put (cs := #[.int .i64 t346, .slice none 0 0, .slice none 0 0]) ?_ 1 _ rfl; refine uW ?_; refine blk_put (cs := #[.int .i64 0, .slice none 0 0, .slice none 0 0]) ?_ 0 _ rfl; refine uW ?_; exact BK354.out) hb); have n15_ := Aside0.mk (below_step (by first | exact uB HB | exact uS HB (gC GE287 (gC GE304 (gC GE312 (gC GE321 (gC GE354 gN)))))) hb); clear HO_305001 HO_305002 HO_313001 HO_313002 HO_322001 HO_322002 HO342 HO345 HO349 HO352 BK287 BK304 BK312 BK321 BK354 HB; have HO_305001 := n0_; have HO_305002 := n1_; have HO_313001 := n2_; have HO_313002 := n3_; have HO_322001 := n4_; have HO_322002 := n5_; have HO342 := n6_; have HO345 := n7_; have HO349 := n8_; have HO352 := n9_; have BK287 := n10_; have BK304 := n11_; have BK312 := n12_; have BK321 := n13_; have BK354 := n14_; have HB := n15_; clear n0_ n1_ n2_ n3_ n4_ n5_ n6_ n7_ n8_ n9_ n10_ n11_ n12_ n13_ n14_ n15_; (try clear hb); (try clear hb2); (try clear hk); (try clear hi)))
             go_meet
             case rel => exact ⟨_, ((t353 != t303)), (by first | rfl | (simp; done) | (simp [*]; done)), H', ⟨by have := HJ10.out; have := HJ63.out; first | omega | exact Nat.le_refl _⟩, ⟨by (try simp only [hl313001_63]); (try simp only [hl313002_63]); (with_reducible repeat (first | apply Kd.R_alloc | apply Kd.R_drewN | apply Kd.R_drew)); exact Kd.R_mono HO_305001.out (fun _ hk => ⟨hk.1.1.1.1.1, ⟨hk.1.1.1.1.2.1, ⟨hk.1.1.1.1.2.2.1, ⟨hk.1.1.1.1.2.2.2.1, ⟨hk.1.1.1.1.2.2.2.2, ⟨hk.1.2, hk.2⟩⟩⟩⟩⟩⟩)⟩, ⟨by (try simp only [hl313001_63]); (try simp only [hl313002_63]); (with_reducible repeat (first | apply Kd.R_alloc | apply Kd.R_drewN | apply Kd.R_drew)); exact Kd.R_mono HO_305002.out (fun _ hk => ⟨hk.1.1.1.1.1, ⟨hk.1.1.1.1.2.1, ⟨hk.1.1.1.1.2.2.1, ⟨hk.1.1.1.1.2.2.2.1, ⟨hk.1.1.1.1.2.2.2.2, ⟨hk.1.2, hk.2⟩⟩⟩⟩⟩⟩)⟩, ⟨by (try simp only [hl313001_63]); (try simp only [hl313002_63]); (with_reducible repeat (first | apply Kd.R_alloc | apply Kd.R_drewN | apply Kd.R_drew)); exact Kd.R_mono HO_313001.out (fun _ hk => ⟨hk.1.1.1.1.1, ⟨hk.1.1.1.1.2.1, ⟨hk.1.1.1.1.2.2.1, ⟨hk.1.1.1.1.2.2.2.1, ⟨hk.1.1.1.1.2.2.2.2, ⟨hk.1.2, hk.2⟩⟩⟩⟩⟩⟩)⟩, ⟨by (try simp only [hl313001_63]); (try simp only [hl313002_63]); (with_reducible repeat (first | apply Kd.R_alloc | apply Kd.R_drewN | apply Kd.R_drew)); exact Kd.R_mono HO_313002.out (fun _ hk => ⟨hk.1.1.1.1.1, ⟨hk.1.1.1.1.2.1, ⟨hk.1.1.1.1.2.2.1, ⟨hk.1.1.1.1.2.2.2.1, ⟨hk.1.1.1.1.2.2.2.2, ⟨hk.1.2, hk.2⟩⟩⟩⟩⟩⟩)⟩, ⟨by (try simp only [hl313001_63]); (try simp only [hl313002_63]); (with_reducible repeat (first | apply Kd.R_alloc | apply Kd.R_drewN | apply Kd.R_drew)); exact Kd.R_mono HO_322001.out (fun _ hk => ⟨hk.1.1.1.1.1, ⟨hk.1.1.1.1.2.1, ⟨hk.1.1.1.1.2.2.1, ⟨hk.1.1.1.1.2.2.2.1, ⟨hk.1.1.1.1.2.2.2.2, ⟨hk.1.2, hk.2⟩⟩⟩⟩⟩⟩)⟩, ⟨by (try simp only [hl313001_63]); (try simp only [hl313002_63]); (with_reducible repeat (first | apply Kd.R_alloc | apply Kd.R_drewN | apply Kd.R_drew)); exact Kd.R_mono HO_322002.out (fun _ hk => ⟨hk.1.1.1.1.1, ⟨hk.1.1.1.1.2.1, ⟨hk.1.1.1.1.2.2.1, ⟨hk.1.1.1.1.2.2.2.1, ⟨hk.1.1.1.1.2.2.2.2, ⟨hk.1.2, hk.2⟩⟩⟩⟩⟩⟩)⟩, ⟨by (try simp only [hl313001_63]); (try simp only [hl313002_63]); (with_reducible repeat (first | apply Kd.R_alloc | apply Kd.R_drewN | apply Kd.R_drew)); exact Kd.R_mono HO349.out (fun _ hk => ⟨hk.1.1.1.1.1.1.1.2, ⟨hk.1.1.1.1.1.1.2, ⟨hk.1.1.1.1.1.2, ⟨hk.1.1.1.1.2, ⟨hk.1.1.1.2, ⟨hk.1.1.2, hk.1.1.1.1.1.1.1.1⟩⟩⟩⟩⟩⟩)⟩, ⟨by (try simp only [hl313001_63]); (try simp only [hl313002_63]); (with_reducible repeat (first | apply Kd.R_alloc | apply Kd.R_drewN | apply Kd.R_drew)); exact Kd.R_mono HO352.out (fun _ hk => ⟨hk.1.1.1.1.1.1.1.2, ⟨hk.1.1.1.1.1.1.2, ⟨hk.1.1.1.1.1.2, ⟨hk.1.1.1.1.2, ⟨hk.1.1.1.2, ⟨hk.1.1.2, hk.1.1.1.1.1.1.1.1⟩⟩⟩⟩⟩⟩)⟩, ⟨by (try simp only [hl313001_63]); (try simp only [hl313002_63]); refine uW ?_; exact BK287.out⟩, ⟨by (try simp only [hl313001_63]); (try simp only [hl313002_63]); refine uW ?_; exact BK304.out⟩, ⟨by (try simp only [hl313001_63]); (try simp only [hl313002_63]); refine uW ?_; exact BK312.out⟩, ⟨by (try simp only [hl313001_63]); (try simp only [hl313002_63]); refine uW ?_; exact BK321.out⟩, ⟨by (try simp only [hl313001_63]); (try simp only [hl313002_63]); refine uW ?_; exact BK354.out⟩, ⟨by first | exact uB HB | exact uS HB (gC GE287 (gC GE304 (gC GE312 (gC GE321 (gC GE354 gN)))))⟩⟩
            ·
             replace c132 := Bool.eq_false_iff.mpr c132
             subst c132
             have H1 : (laws_FnExactCuckooUnstash.j2 kj63 t335 true t313 t336 t337) = some r := by rw [if_neg (show ¬ (false = true) by decide)] at H; exact H
             clear H
             have H := H1
             clear H1
             have H' := Aside0.mk H
             clear H
             have hnb143 := NB354_287.out
             have hnc143 := NB287_354.out
             have hnb144 := NB354_304.out
             have hnc144 := NB304_354.out
             have hnb145 := NB354_312.out
             have hnc145 := NB312_354.out
             have hnb146 := NB354_321.out
             have hnc146 := NB321_354.out
             have hcz147_0 : w123.cell? ⟨gb354, 0, none⟩ = some (.int .i64 0) := (blk_cell BK354.out 0).trans rfl
             have hcz147_1 : w123.cell? ⟨gb354, 1, none⟩ = some (.slice none 0 0) := (blk_cell BK354.out 1).trans rfl
             have hcz147_2 : w123.cell? ⟨gb354, 2, none⟩ = some (.slice none 0 0) := (blk_cell BK354.out 2).trans rfl
             have hfz147_0 := blk_frozen BK354.out 0
             have hfz147_1 := blk_frozen BK354.out 1
             have hfz147_2 := blk_frozen BK354.out 2
             have hnb148 := NB304_287.out
             have hnc148 := NB287_304.out
             have hnb149 := NB304_312.out
             have hnc149 := NB312_304.out
             have hnb150 := NB304_321.out
             have hnc150 := NB321_304.out
             have hcz151_0 : w123.cell? ⟨gb304, 0, none⟩ = some (.int .i64 t296) := (blk_cell BK304.out 0).trans rfl
             have hcz151_1 : w123.cell? ⟨gb304, 1, none⟩ = some (.slice Ao23 t297.length co23) := (blk_cell BK304.out 1).trans rfl
             have hcz151_2 : w123.cell? ⟨gb304, 2, none⟩ = some (.slice Ao24 t300.length co24) := (blk_cell BK304.out 2).trans rfl
             have hfz151_0 := blk_frozen BK304.out 0
             have hfz151_1 := blk_frozen BK304.out 1
             have hfz151_2 := blk_frozen BK304.out 2
             go_wp2_with (first | ((with_reducible refine gate_callee (f := 10) rfl ?_); refine goesL_ (some 81) rfl rfl Try.func10 (by kernel_rfl) rfl #[.agg #[.int .i64 t346, .slice Ao129 t347.length co129, .slice Ao130 t350.length co130], .agg #[.int .i64 t296, .slice Ao23 t297.length co23, .slice Ao24 t300.length co24]] rfl (by (try simp only [List.map_toArray, List.map_cons, List.map_nil]); first | done | rfl | (simp only [List.length_drop, List.length_take]; rfl)) ?_; (with_reducible refine (laws_eqCuckoo.calls kj63 t346 _ _ t347 _ _ t350 t296 _ _ t297 _ _ t300 false _ ?side1 ?side2 ?side3 ?side4 ?side5 ?side6 ?side7 ?side8 A131.out).mono ?_); (case side1 => refine (Kd.R_reads' (e := 9) (base := w.heap.size) (ok := fun k_ => ((((((((some k_ ≠ (.slice Ao130 t350.length co130 : Value).ownBlock ∧ some k_ ≠ (.slice Ao23 t297.length co23 : Value).ownBlock) ∧ some k_ ≠ (.slice Ao24 t300.length co24 : Value).ownBlock) ∧ some k_ ≠ (.slice Ao31 t332.length co31 : Value).ownBlock) ∧ some k_ ≠ (.slice Ao32 t333.length co32 : Value).ownBlock) ∧ some k_ ≠ (.slice Ao39 t314.length co39 : Value).ownBlock) ∧ some k_ ≠ (.slice Ao40 t317.length co40 : Value).ownBlock) ∧ some k_ ≠ (.slice Ao120 t340.length co120 : Value).ownBlock) ∧ some k_ ≠ (.slice Ao121 t343.length co121 : Value).ownBlock)) (n := t347.length) (c := co129) ?_).2.2; exact (by (with_reducible repeat (first | apply Kd.R_alloc | apply Kd.R_drewN | apply Kd.R_drew)); exact (Kd.R_mono (Kd.R_far (p := ⟨gb354, 2, none⟩) (Kd.R_far (p := ⟨gb354, 1, none⟩) (Kd.R_far (p := ⟨gb354, 0, none⟩) (Kd.R_types HO349.out BK354.out (by decide)) (fun _ hk => hk.2) (.int .i64 t346)) (fun _ hk => hk.2) (.slice Ao129 t347.length co129)) (fun _ hk => hk.2) (.slice Ao130 t350.length co130)) (fun _ h_ => h_.1)))); (case side2 => exact (Kd.R_reads' HO349.out).2.1); (case side3 => refine (Kd.R_reads' (e := 9) (base := w.heap.size) (ok := fun k_ => ((((((((some k_ ≠ (.slice Ao129 t347.length co129 : Value).ownBlock ∧ some k_ ≠ (.slice Ao23 t297.length co23 : Value).ownBlock) ∧ some k_ ≠ (.slice Ao24 t300.length co24 : Value).ownBlock) ∧ some k_ ≠ (.slice Ao31 t332.length co31 : Value).ownBlock) ∧ some k_ ≠ (.slice Ao32 t333.length co32 : Value).ownBlock) ∧ some k_ ≠ (.slice Ao39 t314.length co39 : Value).ownBlock) ∧ some k_ ≠ (.slice Ao40 t317.length co40 : Value).ownBlock) ∧ some k_ ≠ (.slice Ao120 t340.length co120 : Value).ownBlock) ∧ some k_ ≠ (.slice Ao121 t343.length co121 : Value).ownBlock)) (n := t350.length) (c := co130) ?_).2.2; exact (by (with_reducible repeat (first | apply Kd.R_alloc | apply Kd.R_drewN | apply Kd.R_drew)); exact (Kd.R_mono (Kd.R_far (p := ⟨gb354, 2, none⟩) (Kd.R_far (p := ⟨gb354, 1, none⟩) (Kd.R_far (p := ⟨gb354, 0, none⟩) (Kd.R_types HO352.out BK354.out (by decide)) (fun _ hk => hk.2) (.int .i64 t346)) (fun _ hk => hk.2) (.slice Ao129 t347.length co129)) (fun _ hk => hk.2) (.slice Ao130 t350.length co130)) (fun _ h_ => h_.1)))); (case side4 => exact (Kd.R_reads' HO352.out).2.1); (case side5 => refine (Kd.R_reads' (e := 9) (base := w.heap.size) (ok := fun k_ => (((((some k_ ≠ (.slice Ao24 t300.length co24 : Value).ownBlock ∧ (some k_ ≠ (.slice Ao31 t332.length co31 : Value).ownBlock ∧ (some k_ ≠ (.slice Ao32 t333.length co32 : Value).ownBlock ∧ (some k_ ≠ (.slice Ao39 t314.length co39 : Value).ownBlock ∧ some k_ ≠ (.slice Ao40 t317.length co40 : Value).ownBlock)))) ∧ some k_ ≠ (.slice Ao120 t340.length co120 : Value).ownBlock) ∧ some k_ ≠ (.slice Ao121 t343.length co121 : Value).ownBlock) ∧ some k_ ≠ (.slice Ao129 t347.length co129 : Value).ownBlock) ∧ some k_ ≠ (.slice Ao130 t350.length co130 : Value).ownBlock)) (n := t297.length) (c := co23) ?_).2.2; exact (by (with_reducible repeat (first | apply Kd.R_alloc | apply Kd.R_drewN | apply Kd.R_drew)); exact (Kd.R_mono (Kd.R_far (p := ⟨gb354, 2, none⟩) (Kd.R_far (p := ⟨gb354, 1, none⟩) (Kd.R_far (p := ⟨gb354, 0, none⟩) (Kd.R_types HO_305001.out BK354.out (by decide)) (fun _ hk => hk.2) (.int .i64 t346)) (fun _ hk => hk.2) (.slice Ao129 t347.length co129)) (fun _ hk => hk.2) (.slice Ao130 t350.length co130)) (fun _ h_ => h_.1)))); (case side6 => exact (Kd.R_reads' HO_305001.out).2.1); (case side7 => refine (Kd.R_reads' (e := 9) (base := w.heap.size) (ok := fun k_ => (((((some k_ ≠ (.slice Ao23 t297.length co23 : Value).ownBlock ∧ (some k_ ≠ (.slice Ao31 t332.length co31 : Value).ownBlock ∧ (some k_ ≠ (.slice Ao32 t333.length co32 : Value).ownBlock ∧ (some k_ ≠ (.slice Ao39 t314.length co39 : Value).ownBlock ∧ some k_ ≠ (.slice Ao40 t317.length co40 : Value).ownBlock)))) ∧ some k_ ≠ (.slice Ao120 t340.length co120 : Value).ownBlock) ∧ some k_ ≠ (.slice Ao121 t343.length co121 : Value).ownBlock) ∧ some k_ ≠ (.slice Ao129 t347.length co129 : Value).ownBlock) ∧ some k_ ≠ (.slice Ao130 t350.length co130 : Value).ownBlock)) (n := t300.length) (c := co24) ?_).2.2; exact (by (with_reducible repeat (first | apply Kd.R_alloc | apply Kd.R_drewN | apply Kd.R_drew)); exact (Kd.R_mono (Kd.R_far (p := ⟨gb354, 2, none⟩) (Kd.R_far (p := ⟨gb354, 1, none⟩) (Kd.R_far (p := ⟨gb354, 0, none⟩) (Kd.R_types HO_305002.out BK354.out (by decide)) (fun _ hk => hk.2) (.int .i64 t346)) (fun _ hk => hk.2) (.slice Ao129 t347.length co129)) (fun _ hk => hk.2) (.slice Ao130 t350.length co130)) (fun _ h_ => h_.1)))); (case side8 => exact (Kd.R_reads' HO_305002.out).2.1); rintro e w152 ⟨rfl, hb⟩; refine ⟨_, rfl, ?_⟩; have n0_ := Aside0.mk (Kd.R_below (by (with_reducible repeat (first | apply Kd.R_alloc | apply Kd.R_drewN | apply Kd.R_drew)); exact (Kd.R_mono (Kd.R_far (p := ⟨gb354, 2, none⟩) (Kd.R_far (p := ⟨gb354, 1, none⟩) (Kd.R_far (p := ⟨gb354, 0, none⟩) (Kd.R_types HO_305001.out BK354.out (by decide)) (fun _ hk => hk.2) (.int .i64 t346)) (fun _ hk => hk.2) (.slice Ao129 t347.length co129)) (fun _ hk => hk.2) (.slice Ao130 t350.length co130)) (fun _ h_ => h_.1))) hb); have n1_ := Aside0.mk (Kd.R_below (by (with_reducible repeat (first | apply Kd.R_alloc | apply Kd.R_drewN | apply Kd.R_drew)); exact (Kd.R_mono (Kd.R_far (p := ⟨gb354, 2, none⟩) (Kd.R_far (p := ⟨gb354, 1, none⟩) (Kd.R_far (p := ⟨gb354, 0, none⟩) (Kd.R_types HO_305002.out BK354.out (by decide)) (fun _ hk => hk.2) (.int .i64 t346)) (fun _ hk => hk.2) (.slice Ao129 t347.length co129)) (fun _ hk => hk.2) (.slice Ao130 t350.length co130)) (fun _ h_ => h_.1))) hb); have n2_ := Aside0.mk (Kd.R_below (by (with_reducible repeat (first | apply Kd.R_alloc | apply Kd.R_drewN | apply Kd.R_drew)); exact (Kd.R_mono (Kd.R_far (p := ⟨gb354, 2, none⟩) (Kd.R_far (p := ⟨gb354, 1, none⟩) (Kd.R_far (p := ⟨gb354, 0, none⟩) (Kd.R_types HO_313001.out BK354.out (by decide)) (fun _ hk => hk.2) (.int .i64 t346)) (fun _ hk => hk.2) (.slice Ao129 t347.length co129)) (fun _ hk => hk.2) (.slice Ao130 t350.length co130)) (fun _ h_ => h_.1))) hb); have n3_ := Aside0.mk (Kd.R_below (by (with_reducible repeat (first | apply Kd.R_alloc | apply Kd.R_drewN | apply Kd.R_drew)); exact (Kd.R_mono (Kd.R_far (p := ⟨gb354, 2, none⟩) (Kd.R_far (p := ⟨gb354, 1, none⟩) (Kd.R_far (p := ⟨gb354, 0, none⟩) (Kd.R_types HO_313002.out BK354.out (by decide)) (fun _ hk => hk.2) (.int .i64 t346)) (fun _ hk => hk.2) (.slice Ao129 t347.length co129)) (fun _ hk => hk.2) (.slice Ao130 t350.length co130)) (fun _ h_ => h_.1))) hb); have n4_ := Aside0.mk (Kd.R_below (by (with_reducible repeat (first | apply Kd.R_alloc | apply Kd.R_drewN | apply Kd.R_drew)); exact (Kd.R_mono (Kd.R_far (p := ⟨gb354, 2, none⟩) (Kd.R_far (p := ⟨gb354, 1, none⟩) (Kd.R_far (p := ⟨gb354, 0, none⟩) (Kd.R_types HO_322001.out BK354.out (by decide)) (fun _ hk => hk.2) (.int .i64 t346)) (fun _ hk => hk.2) (.slice Ao129 t347.length co129)) (fun _ hk => hk.2) (.slice Ao130 t350.length co130)) (fun _ h_ => h_.1))) hb); have n5_ := Aside0.mk (Kd.R_below (by (with_reducible repeat (first | apply Kd.R_alloc | apply Kd.R_drewN | apply Kd.R_drew)); exact (Kd.R_mono (Kd.R_far (p := ⟨gb354, 2, none⟩) (Kd.R_far (p := ⟨gb354, 1, none⟩) (Kd.R_far (p := ⟨gb354, 0, none⟩) (Kd.R_types HO_322002.out BK354.out (by decide)) (fun _ hk => hk.2) (.int .i64 t346)) (fun _ hk => hk.2) (.slice Ao129 t347.length co129)) (fun _ hk => hk.2) (.slice Ao130 t350.length co130)) (fun _ h_ => h_.1))) hb); have n6_ := Aside0.mk (Kd.R_below (by (with_reducible repeat (first | apply Kd.R_alloc | apply Kd.R_drewN | apply Kd.R_drew)); exact (Kd.R_mono (Kd.R_far (p := ⟨gb354, 2, none⟩) (Kd.R_far (p := ⟨gb354, 1, none⟩) (Kd.R_far (p := ⟨gb354, 0, none⟩) (Kd.R_types HO342.out BK354.out (by decide)) (fun _ hk => hk.2) (.int .i64 t346)) (fun _ hk => hk.2) (.slice Ao129 t347.length co129)) (fun _ hk => hk.2) (.slice Ao130 t350.length co130)) (fun _ h_ => h_.1))) hb); have n7_ := Aside0.mk (Kd.R_below (by (with_reducible repeat (first | apply Kd.R_alloc | apply Kd.R_drewN | apply Kd.R_drew)); exact (Kd.R_mono (Kd.R_far (p := ⟨gb354, 2, none⟩) (Kd.R_far (p := ⟨gb354, 1, none⟩) (Kd.R_far (p := ⟨gb354, 0, none⟩) (Kd.R_types HO345.out BK354.out (by decide)) (fun _ hk => hk.2) (.int .i64 t346)) (fun _ hk => hk.2) (.slice Ao129 t347.length co129)) (fun _ hk => hk.2) (.slice Ao130 t350.length co130)) (fun _ h_ => h_.1))) hb); have n8_ := Aside0.mk (Kd.R_below (by (with_reducible repeat (first | apply Kd.R_alloc | apply Kd.R_drewN | apply Kd.R_drew)); exact (Kd.R_mono (Kd.R_far (p := ⟨gb354, 2, none⟩) (Kd.R_far (p := ⟨gb354, 1, none⟩) (Kd.R_far (p := ⟨gb354, 0, none⟩) (Kd.R_types HO349.out BK354.out (by decide)) (fun _ hk => hk.2) (.int .i64 t346)) (fun _ hk => hk.2) (.slice Ao129 t347.length co129)) (fun _ hk => hk.2) (.slice Ao130 t350.length co130)) (fun _ h_ => h_.1))) hb); have n9_ := Aside0.mk (Kd.R_below (by (with_reducible repeat (first | apply Kd.R_alloc | apply Kd.R_drewN | apply Kd.R_drew)); exact (Kd.R_mono (Kd.R_far (p := ⟨gb354, 2, none⟩) (Kd.R_far (p := ⟨gb354, 1, none⟩) (Kd.R_far (p := ⟨gb354, 0, none⟩) (Kd.R_types HO352.out BK354.out (by decide)) (fun _ hk => hk.2) (.int .i64 t346)) (fun _ hk => hk.2) (.slice Ao129 t347.length co129)) (fun _ hk => hk.2) (.slice Ao130 t350.length co130)) (fun _ h_ => h_.1))) hb); have n10_ := Aside0.mk (blk_below (g := gb287) (o := .cells #[.int .i64 a0_0, .slice A0_1 l0_1.length c0_1, .slice A0_2 l0_2.length c0_2] 24 (0, 0)) (by refine uW ?_; refine blk_far ?_ NB287_354.out _; refine uW ?_; refine blk_far ?_ NB287_354.out _; refine uW ?_; refine blk_far ?_ NB287_354.out _; refine uW ?_; exact BK287.out) hb); have n11_ := Aside0.mk (blk_below (g := gb304) (o := .cells #[.int .i64 t296, .slice Ao23 t297.length co23, .slice Ao24 t300.length co24] 26 (0, 0)) (by refine uW ?_; refine blk_far ?_ NB304_354.out _; refine uW ?_; refine blk_far ?_ NB304_354.out _; refine uW ?_; refine blk_far ?_ NB304_354.out _; refine uW ?_; exact BK304.out) hb); have n12_ := Aside0.mk (blk_below (g := gb312) (o := .cells #[.int .i64 t305, .slice Ao31 t332.length co31, .slice Ao32 t333.length co32] 26 (0, 0)) (by refine uW ?_; refine blk_far ?_ NB312_354.out _; refine uW ?_; refine blk_far ?_ NB312_354.out _; refine uW ?_; refine blk_far ?_ NB312_354.out _; refine uW ?_; exact BK312.out) hb); have n13_ := Aside0.mk (blk_below (g := gb321) (o := .cells #[.int .i64 t313, .slice Ao39 t314.length co39, .slice Ao40 t317.length co40] 26 (0, 0)) (by refine uW ?_; refine blk_far ?_ NB321_354.out _; refine uW ?_; refine blk_far ?_ NB321_354.out _; refine uW ?_; refine blk_far ?_ NB321_354.out _; refine uW ?_; exact BK321.out) hb); have n14_ := Aside0.mk (blk_below (g := gb354) (o := .cells #[.int .i64 t346, .slice Ao129 t347.length co129, .slice Ao130 t350.length co130] 26 (0, 0)) (by refine uW ?_; refine blk_put (cs := #[.int .i64 t346, .slice Ao129 t347.length co129, .slice none 0 0]) ?_ 2 _ rfl; refine uW ?_; refine blk_put (cs := #[.int .i64 t346, .slice none 0 0, .slice none 0 0]) ?_ 1 _ rfl; refine uW ?_; refine blk_put (cs := #[.int .i64 0, .slice none 0 0, .slice none 0 0]) ?_ 0 _ rfl; refine uW ?_; exact BK354.out) hb); have n15_ := Aside0.mk (below_step (by first | exact uB HB | exact uS HB (gC GE287 (gC GE304 (gC GE312 (gC GE321 (gC GE354 gN)))))) hb); clear HO_305001 HO_305002 HO_313001 HO_313002 HO_322001 HO_322002 HO342 HO345 HO349 HO352 BK287 BK304 BK312 BK321 BK354 HB; have HO_305001 := n0_; have HO_305002 := n1_; have HO_313001 := n2_; have HO_313002 := n3_; have HO_322001 := n4_; have HO_322002 := n5_; have HO342 := n6_; have HO345 := n7_; have HO349 := n8_; have HO352 := n9_; have BK287 := n10_; have BK304 := n11_; have BK312 := n12_; have BK321 := n13_; have BK354 := n14_; have HB := n15_; clear n0_ n1_ n2_ n3_ n4_ n5_ n6_ n7_ n8_ n9_ n10_ n11_ n12_ n13_ n14_ n15_; (try clear hb); (try clear hb2); (try clear hk); (try clear hi)))
             go_meet
             case rel => exact ⟨_, (true), (by first | rfl | (simp; done) | (simp [*]; done)), H', ⟨by have := HJ10.out; have := HJ63.out; first | omega | exact Nat.le_refl _⟩, ⟨by (try simp only [hl313001_63]); (try simp only [hl313002_63]); (with_reducible repeat (first | apply Kd.R_alloc | apply Kd.R_drewN | apply Kd.R_drew)); exact Kd.R_mono HO_305001.out (fun _ hk => ⟨hk.1.1.1.1.1, ⟨hk.1.1.1.1.2.1, ⟨hk.1.1.1.1.2.2.1, ⟨hk.1.1.1.1.2.2.2.1, ⟨hk.1.1.1.1.2.2.2.2, ⟨hk.1.2, hk.2⟩⟩⟩⟩⟩⟩)⟩, ⟨by (try simp only [hl313001_63]); (try simp only [hl313002_63]); (with_reducible repeat (first | apply Kd.R_alloc | apply Kd.R_drewN | apply Kd.R_drew)); exact Kd.R_mono HO_305002.out (fun _ hk => ⟨hk.1.1.1.1.1, ⟨hk.1.1.1.1.2.1, ⟨hk.1.1.1.1.2.2.1, ⟨hk.1.1.1.1.2.2.2.1, ⟨hk.1.1.1.1.2.2.2.2, ⟨hk.1.2, hk.2⟩⟩⟩⟩⟩⟩)⟩, ⟨by (try simp only [hl313001_63]); (try simp only [hl313002_63]); (with_reducible repeat (first | apply Kd.R_alloc | apply Kd.R_drewN | apply Kd.R_drew)); exact Kd.R_mono HO_313001.out (fun _ hk => ⟨hk.1.1.1.1.1, ⟨hk.1.1.1.1.2.1, ⟨hk.1.1.1.1.2.2.1, ⟨hk.1.1.1.1.2.2.2.1, ⟨hk.1.1.1.1.2.2.2.2, ⟨hk.1.2, hk.2⟩⟩⟩⟩⟩⟩)⟩, ⟨by (try simp only [hl313001_63]); (try simp only [hl313002_63]); (with_reducible repeat (first | apply Kd.R_alloc | apply Kd.R_drewN | apply Kd.R_drew)); exact Kd.R_mono HO_313002.out (fun _ hk => ⟨hk.1.1.1.1.1, ⟨hk.1.1.1.1.2.1, ⟨hk.1.1.1.1.2.2.1, ⟨hk.1.1.1.1.2.2.2.1, ⟨hk.1.1.1.1.2.2.2.2, ⟨hk.1.2, hk.2⟩⟩⟩⟩⟩⟩)⟩, ⟨by (try simp only [hl313001_63]); (try simp only [hl313002_63]); (with_reducible repeat (first | apply Kd.R_alloc | apply Kd.R_drewN | apply Kd.R_drew)); exact Kd.R_mono HO_322001.out (fun _ hk => ⟨hk.1.1.1.1.1, ⟨hk.1.1.1.1.2.1, ⟨hk.1.1.1.1.2.2.1, ⟨hk.1.1.1.1.2.2.2.1, ⟨hk.1.1.1.1.2.2.2.2, ⟨hk.1.2, hk.2⟩⟩⟩⟩⟩⟩)⟩, ⟨by (try simp only [hl313001_63]); (try simp only [hl313002_63]); (with_reducible repeat (first | apply Kd.R_alloc | apply Kd.R_drewN | apply Kd.R_drew)); exact Kd.R_mono HO_322002.out (fun _ hk => ⟨hk.1.1.1.1.1, ⟨hk.1.1.1.1.2.1, ⟨hk.1.1.1.1.2.2.1, ⟨hk.1.1.1.1.2.2.2.1, ⟨hk.1.1.1.1.2.2.2.2, ⟨hk.1.2, hk.2⟩⟩⟩⟩⟩⟩)⟩, ⟨by (try simp only [hl313001_63]); (try simp only [hl313002_63]); (with_reducible repeat (first | apply Kd.R_alloc | apply Kd.R_drewN | apply Kd.R_drew)); exact Kd.R_mono HO349.out (fun _ hk => ⟨hk.1.1.1.1.1.1.1.2, ⟨hk.1.1.1.1.1.1.2, ⟨hk.1.1.1.1.1.2, ⟨hk.1.1.1.1.2, ⟨hk.1.1.1.2, ⟨hk.1.1.2, hk.1.1.1.1.1.1.1.1⟩⟩⟩⟩⟩⟩)⟩, ⟨by (try simp only [hl313001_63]); (try simp only [hl313002_63]); (with_reducible repeat (first | apply Kd.R_alloc | apply Kd.R_drewN | apply Kd.R_drew)); exact Kd.R_mono HO352.out (fun _ hk => ⟨hk.1.1.1.1.1.1.1.2, ⟨hk.1.1.1.1.1.1.2, ⟨hk.1.1.1.1.1.2, ⟨hk.1.1.1.1.2, ⟨hk.1.1.1.2, ⟨hk.1.1.2, hk.1.1.1.1.1.1.1.1⟩⟩⟩⟩⟩⟩)⟩, ⟨by (try simp only [hl313001_63]); (try simp only [hl313002_63]); refine uW ?_; exact BK287.out⟩, ⟨by (try simp only [hl313001_63]); (try simp only [hl313002_63]); refine uW ?_; exact BK304.out⟩, ⟨by (try simp only [hl313001_63]); (try simp only [hl313002_63]); refine uW ?_; exact BK312.out⟩, ⟨by (try simp only [hl313001_63]); (try simp only [hl313002_63]); refine uW ?_; exact BK321.out⟩, ⟨by (try simp only [hl313001_63]); (try simp only [hl313002_63]); refine uW ?_; exact BK354.out⟩, ⟨by first | exact uB HB | exact uS HB (gC GE287 (gC GE304 (gC GE312 (gC GE321 (gC GE354 gN)))))⟩⟩
           case rest =>
            clear HC108
            try clear c1
            try clear c2
            try clear p2
            try clear c3
            try clear c3b0
            try clear c4
            try clear c5
            try clear c6
            try clear c7
            try clear c8
            try clear c9
            try clear c10
            try clear c11
            try clear c12
            try clear c13
            try clear c14
            try clear c15
            try clear c21
            try clear c28
            try clear c29
            try clear c35
            try clear c36
            try clear c37
            try clear c42
            try clear c43
            try clear c44
            try clear c45
            try clear c47
            try clear c48
            try clear c51
            try clear c52
            try clear c53
            try clear c55
            try clear c56
            try clear c59
            try clear c62
            try clear c70
            try clear c71
            try clear c72
            try clear c75
            try clear c75b0
            try clear c77
            try clear c78
            try clear c79
            try clear c80
            try clear c82
            try clear c83
            try clear c86
            try clear c87
            try clear c88
            try clear c90
            try clear c91
            try clear c94
            try clear c97
            try clear c97b0
            try clear c98
            try clear c99
            try clear c100
            try clear c105
            try clear c105b0
            try clear c105b1
            try clear c109
            try clear c110
            try clear c111
            try clear c116
            try clear c117
            try clear c124
            try clear c125
            try clear c126
            try clear c127
            try clear c132
            try clear c133
            try clear c134
            try clear c135
            try clear c136
            try clear c138
            try clear c139
            try clear c140
            try clear c143
            try clear c144
            try clear c145
            try clear c146
            try clear c148
            try clear c149
            try clear c150
            try clear hcz101_0
            try clear hcz101_1
            try clear hcz101_2
            try clear hcz103_0
            try clear hcz103_1
            try clear hcz103_2
            try clear hcz112_0
            try clear hcz112_1
            try clear hcz112_2
            try clear hcz114_0
            try clear hcz114_1
            try clear hcz114_2
            try clear hcz118_0
            try clear hcz118_1
            try clear hcz118_2
            try clear hcz128_0
            try clear hcz128_1
            try clear hcz128_2
            try clear hcz137_0
            try clear hcz137_1
            try clear hcz137_2
            try clear hcz13_0
            try clear hcz13_1
            try clear hcz13_2
            try clear hcz141_0
            try clear hcz141_1
            try clear hcz141_2
            try clear hcz147_0
            try clear hcz147_1
            try clear hcz147_2
            try clear hcz151_0
            try clear hcz151_1
            try clear hcz151_2
            try clear hcz15_0
            try clear hcz15_1
            try clear hcz15_2
            try clear hcz22_0
            try clear hcz22_1
            try clear hcz22_2
            try clear hcz25_0
            try clear hcz25_1
            try clear hcz25_2
            try clear hcz30_0
            try clear hcz30_1
            try clear hcz30_2
            try clear hcz38_0
            try clear hcz38_1
            try clear hcz38_2
            try clear hcz46_0
            try clear hcz46_1
            try clear hcz46_2
            try clear hcz49_0
            try clear hcz49_1
            try clear hcz49_2
            try clear hcz54_0
            try clear hcz54_1
            try clear hcz54_2
            try clear hcz57_0
            try clear hcz57_1
            try clear hcz57_2
            try clear hcz5_0
            try clear hcz5_1
            try clear hcz5_2
            try clear hcz73_0
            try clear hcz73_1
            try clear hcz73_2
            try clear hcz81_0
            try clear hcz81_1
            try clear hcz81_2
            try clear hcz84_0
            try clear hcz84_1
            try clear hcz84_2
            try clear hcz89_0
            try clear hcz89_1
            try clear hcz89_2
            try clear hcz92_0
            try clear hcz92_1
            try clear hcz92_2
            try clear hfz101_0
            try clear hfz101_1
            try clear hfz101_2
            try clear hfz103_0
            try clear hfz103_1
            try clear hfz103_2
            try clear hfz112_0
            try clear hfz112_1
            try clear hfz112_2
            try clear hfz114_0
            try clear hfz114_1
            try clear hfz114_2
            try clear hfz118_0
            try clear hfz118_1
            try clear hfz118_2
            try clear hfz128_0
            try clear hfz128_1
            try clear hfz128_2
            try clear hfz137_0
            try clear hfz137_1
            try clear hfz137_2
            try clear hfz13_0
            try clear hfz13_1
            try clear hfz13_2
            try clear hfz141_0
            try clear hfz141_1
            try clear hfz141_2
            try clear hfz147_0
            try clear hfz147_1
            try clear hfz147_2
            try clear hfz151_0
            try clear hfz151_1
            try clear hfz151_2
            try clear hfz15_0
            try clear hfz15_1
            try clear hfz15_2
            try clear hfz22_0
            try clear hfz22_1
            try clear hfz22_2
            try clear hfz25_0
            try clear hfz25_1
            try clear hfz25_2
            try clear hfz30_0
            try clear hfz30_1
            try clear hfz30_2
            try clear hfz38_0
            try clear hfz38_1
            try clear hfz38_2
            try clear hfz46_0
            try clear hfz46_1
            try clear hfz46_2
            try clear hfz49_0
            try clear hfz49_1
            try clear hfz49_2
            try clear hfz54_0
            try clear hfz54_1
            try clear hfz54_2
            try clear hfz57_0
            try clear hfz57_1
            try clear hfz57_2
            try clear hfz5_0
            try clear hfz5_1
            try clear hfz5_2
            try clear hfz73_0
            try clear hfz73_1
            try clear hfz73_2
            try clear hfz81_0
            try clear hfz81_1
            try clear hfz81_2
            try clear hfz84_0
            try clear hfz84_1
            try clear hfz84_2
            try clear hfz89_0
            try clear hfz89_1
            try clear hfz89_2
            try clear hfz92_0
            try clear hfz92_1
            try clear hfz92_2
            try clear p2
            obtain ⟨kq, x87_107, rfl, HA, HJ107, HO_305001, HO_305002, HO_313001, HO_313002, HO_322001, HO_322002, HO_355001, HO_355002, BK287, BK304, BK312, BK321, BK354, HB⟩ := hcut
            have hl322001_107 := (Kd.R_reads' HO_322001.out).1
            rw [hl322001_107] at HO_322001
            (try simp only [hl322001_107])
            (try simp only [hl322001_107] at BK287)
            (try simp only [hl322001_107] at BK304)
            (try simp only [hl322001_107] at BK312)
            (try simp only [hl322001_107] at BK321)
            (try simp only [hl322001_107] at BK354)
            (try simp only [hl322001_107] at HO_305001)
            (try simp only [hl322001_107] at HO_305002)
            (try simp only [hl322001_107] at HO_313001)
            (try simp only [hl322001_107] at HO_313002)
            (try simp only [hl322001_107] at HO_322002)
            (try simp only [hl322001_107] at HO_355001)
            (try simp only [hl322001_107] at HO_355002)
            have hl322002_107 := (Kd.R_reads' HO_322002.out).1
            rw [hl322002_107] at HO_322002
            (try simp only [hl322002_107])
            (try simp only [hl322002_107] at BK287)
            (try simp only [hl322002_107] at BK304)
            (try simp only [hl322002_107] at BK312)
            (try simp only [hl322002_107] at BK321)
            (try simp only [hl322002_107] at BK354)
            (try simp only [hl322002_107] at HO_305001)
            (try simp only [hl322002_107] at HO_305002)
            (try simp only [hl322002_107] at HO_313001)
            (try simp only [hl322002_107] at HO_313002)
            (try simp only [hl322002_107] at HO_322001)
            (try simp only [hl322002_107] at HO_355001)
            (try simp only [hl322002_107] at HO_355002)
            cases kq with
            | zero => exact absurd HA.out (by simp [laws_FnExactCuckooUnstash.j2])
            | succ kj107 =>
             have H := HA.out
             clear HA
             simp only [laws_FnExactCuckooUnstash.j2] at H
             by_cases c153 : x87_107 = true
             ·
              subst c153
              have H1 : (some false) = some r := by rw [if_pos rfl] at H; exact H
              clear H
              have H := H1
              clear H1
              obtain rfl := Option.some.inj H
              go_wp2
              go_ret
              exact ⟨by first | rfl | (simp [errW_none, errW_some] <;> rfl) | (simp [*, errW_none, errW_some] <;> rfl), by first | exact uB HB | exact uS HB (gC GE287 (gC GE304 (gC GE312 (gC GE321 (gC GE354 gN)))))⟩
             ·
              replace c153 := Bool.eq_false_iff.mpr c153
              subst c153
              have H1 : ((laws_heldCuckoo.f kj107 t313 t336 t337 1).bind fun t356 => (if t356 < 0 then (some false) else (if t356 = t335 then (some true) else (some false)))) = some r := by rw [if_neg (show ¬ (false = true) by decide)] at H; exact H
              clear H
              have H := H1
              clear H1
              replace H := Option.bind_eq_some_iff.mp H
              obtain ⟨t356, A1540, H⟩ := H
              replace H : (if t356 < 0 then (some false) else (if t356 = t335 then (some true) else (some false))) = some r := H
              have A154 := Aside0.mk A1540
              clear A1540
              by_cases c155 : t356 < 0
              ·
               rw [if_pos c155] at H
               have c155b0 : decide (t356 < 0) = true := decide_eq_true c155
               clear c155
               obtain rfl := Option.some.inj H
               have hnb156 := NB321_287.out
               have hnc156 := NB287_321.out
               have hnb157 := NB321_304.out
               have hnc157 := NB304_321.out
               have hnb158 := NB321_312.out
               have hnc158 := NB312_321.out
               have hnb159 := NB321_354.out
               have hnc159 := NB354_321.out
               have hcz160_0 : wc.cell? ⟨gb321, 0, none⟩ = some (.int .i64 t313) := (blk_cell BK321.out 0).trans rfl
               have hcz160_1 : wc.cell? ⟨gb321, 1, none⟩ = some (.slice Ao39 t336.length co39) := (blk_cell BK321.out 1).trans rfl
               have hcz160_2 : wc.cell? ⟨gb321, 2, none⟩ = some (.slice Ao40 t337.length co40) := (blk_cell BK321.out 2).trans rfl
               have hfz160_0 := blk_frozen BK321.out 0
               have hfz160_1 := blk_frozen BK321.out 1
               have hfz160_2 := blk_frozen BK321.out 2
               go_wp2_with (first | ((with_reducible refine gate_callee (f := 12) rfl ?_); refine goesL_ (some 90) rfl rfl Try.func12 (by kernel_rfl) rfl #[.agg #[.int .i64 t313, .slice Ao39 t336.length co39, .slice Ao40 t337.length co40], .int .i64 1] rfl (by (try simp only [List.map_toArray, List.map_cons, List.map_nil]); first | done | rfl | (simp only [List.length_drop, List.length_take]; rfl)) ?_; (with_reducible refine (laws_heldCuckoo.calls kj107 t313 _ _ t336 _ _ t337 1 t356 _ ?side1 ?side2 ?side3 ?side4 A154.out).mono ?_); (case side1 => exact uD HO_322001); (case side2 => exact (Kd.R_reads' HO_322001.out).2.1); (case side3 => exact uD HO_322002); (case side4 => exact (Kd.R_reads' HO_322002.out).2.1); rintro e w161 ⟨rfl, hb⟩; refine ⟨_, rfl, ?_⟩; have n0_ := Aside0.mk (Kd.R_below (uR HO_305001) hb); have n1_ := Aside0.mk (Kd.R_below (uR HO_305002) hb); have n2_ := Aside0.mk (Kd.R_below (uR HO_313001) hb); have n3_ := Aside0.mk (Kd.R_below (uR HO_313002) hb); have n4_ := Aside0.mk (Kd.R_below (uR HO_322001) hb); have n5_ := Aside0.mk (Kd.R_below (uR HO_322002) hb); have n6_ := Aside0.mk (Kd.R_below (uR HO_355001) hb); have n7_ := Aside0.mk (Kd.R_below (uR HO_355002) hb); have n8_ := Aside0.mk (blk_below (g := gb287) (o := .cells #[.int .i64 a0_0, .slice A0_1 l0_1.length c0_1, .slice A0_2 l0_2.length c0_2] 24 (0, 0)) (uK BK287) hb); have n9_ := Aside0.mk (blk_below (g := gb304) (o := .cells #[.int .i64 t296, .slice Ao23 t297.length co23, .slice Ao24 t300.length co24] 26 (0, 0)) (uK BK304) hb); have n10_ := Aside0.mk (blk_below (g := gb312) (o := .cells #[.int .i64 t305, .slice Ao31 t332.length co31, .slice Ao32 t333.length co32] 26 (0, 0)) (uK BK312) hb); have n11_ := Aside0.mk (blk_below (g := gb321) (o := .cells #[.int .i64 t313, .slice Ao39 t336.length co39, .slice Ao40 t337.length co40] 26 (0, 0)) (uK BK321) hb); have n12_ := Aside0.mk (blk_below (g := gb354) (o := .cells #[.int .i64 t346, .slice Ao129 t347.length co129, .slice Ao130 t350.length co130] 26 (0, 0)) (uK BK354) hb); have n13_ := Aside0.mk (below_step (by first | exact uB HB | exact uS HB (gC GE287 (gC GE304 (gC GE312 (gC GE321 (gC GE354 gN)))))) hb); clear HO_305001 HO_305002 HO_313001 HO_313002 HO_322001 HO_322002 HO_355001 HO_355002 BK287 BK304 BK312 BK321 BK354 HB; have HO_305001 := n0_; have HO_305002 := n1_; have HO_313001 := n2_; have HO_313002 := n3_; have HO_322001 := n4_; have HO_322002 := n5_; have HO_355001 := n6_; have HO_355002 := n7_; have BK287 := n8_; have BK304 := n9_; have BK312 := n10_; have BK321 := n11_; have BK354 := n12_; have HB := n13_; clear n0_ n1_ n2_ n3_ n4_ n5_ n6_ n7_ n8_ n9_ n10_ n11_ n12_ n13_; (try clear hb); (try clear hb2); (try clear hk); (try clear hi)))
               go_ret
               exact ⟨by first | rfl | (simp [errW_none, errW_some] <;> rfl) | (simp [*, errW_none, errW_some] <;> rfl), by first | exact uB HB | exact uS HB (gC GE287 (gC GE304 (gC GE312 (gC GE321 (gC GE354 gN)))))⟩
              ·
               rw [if_neg c155] at H
               have c155b0 : decide (t356 < 0) = false := decide_eq_false c155
               clear c155
               by_cases c162 : t356 = t335
               ·
                rw [if_pos c162] at H
                have c162b0 : (t356 == t335) = true := beq_iff_eq.mpr c162
                have c162b1 : (t356 != t335) = false := bne_eq_false_iff_eq.mpr c162
                clear c162
                obtain rfl := Option.some.inj H
                have hnb163 := NB321_287.out
                have hnc163 := NB287_321.out
                have hnb164 := NB321_304.out
                have hnc164 := NB304_321.out
                have hnb165 := NB321_312.out
                have hnc165 := NB312_321.out
                have hnb166 := NB321_354.out
                have hnc166 := NB354_321.out
                have hcz167_0 : wc.cell? ⟨gb321, 0, none⟩ = some (.int .i64 t313) := (blk_cell BK321.out 0).trans rfl
                have hcz167_1 : wc.cell? ⟨gb321, 1, none⟩ = some (.slice Ao39 t336.length co39) := (blk_cell BK321.out 1).trans rfl
                have hcz167_2 : wc.cell? ⟨gb321, 2, none⟩ = some (.slice Ao40 t337.length co40) := (blk_cell BK321.out 2).trans rfl
                have hfz167_0 := blk_frozen BK321.out 0
                have hfz167_1 := blk_frozen BK321.out 1
                have hfz167_2 := blk_frozen BK321.out 2
                go_wp2_with (first | ((with_reducible refine gate_callee (f := 12) rfl ?_); refine goesL_ (some 90) rfl rfl Try.func12 (by kernel_rfl) rfl #[.agg #[.int .i64 t313, .slice Ao39 t336.length co39, .slice Ao40 t337.length co40], .int .i64 1] rfl (by (try simp only [List.map_toArray, List.map_cons, List.map_nil]); first | done | rfl | (simp only [List.length_drop, List.length_take]; rfl)) ?_; (with_reducible refine (laws_heldCuckoo.calls kj107 t313 _ _ t336 _ _ t337 1 t356 _ ?side1 ?side2 ?side3 ?side4 A154.out).mono ?_); (case side1 => exact uD HO_322001); (case side2 => exact (Kd.R_reads' HO_322001.out).2.1); (case side3 => exact uD HO_322002); (case side4 => exact (Kd.R_reads' HO_322002.out).2.1); rintro e w168 ⟨rfl, hb⟩; refine ⟨_, rfl, ?_⟩; have n0_ := Aside0.mk (Kd.R_below (uR HO_305001) hb); have n1_ := Aside0.mk (Kd.R_below (uR HO_305002) hb); have n2_ := Aside0.mk (Kd.R_below (uR HO_313001) hb); have n3_ := Aside0.mk (Kd.R_below (uR HO_313002) hb); have n4_ := Aside0.mk (Kd.R_below (uR HO_322001) hb); have n5_ := Aside0.mk (Kd.R_below (uR HO_322002) hb); have n6_ := Aside0.mk (Kd.R_below (uR HO_355001) hb); have n7_ := Aside0.mk (Kd.R_below (uR HO_355002) hb); have n8_ := Aside0.mk (blk_below (g := gb287) (o := .cells #[.int .i64 a0_0, .slice A0_1 l0_1.length c0_1, .slice A0_2 l0_2.length c0_2] 24 (0, 0)) (uK BK287) hb); have n9_ := Aside0.mk (blk_below (g := gb304) (o := .cells #[.int .i64 t296, .slice Ao23 t297.length co23, .slice Ao24 t300.length co24] 26 (0, 0)) (uK BK304) hb); have n10_ := Aside0.mk (blk_below (g := gb312) (o := .cells #[.int .i64 t305, .slice Ao31 t332.length co31, .slice Ao32 t333.length co32] 26 (0, 0)) (uK BK312) hb); have n11_ := Aside0.mk (blk_below (g := gb321) (o := .cells #[.int .i64 t313, .slice Ao39 t336.length co39, .slice Ao40 t337.length co40] 26 (0, 0)) (uK BK321) hb); have n12_ := Aside0.mk (blk_below (g := gb354) (o := .cells #[.int .i64 t346, .slice Ao129 t347.length co129, .slice Ao130 t350.length co130] 26 (0, 0)) (uK BK354) hb); have n13_ := Aside0.mk (below_step (by first | exact uB HB | exact uS HB (gC GE287 (gC GE304 (gC GE312 (gC GE321 (gC GE354 gN)))))) hb); clear HO_305001 HO_305002 HO_313001 HO_313002 HO_322001 HO_322002 HO_355001 HO_355002 BK287 BK304 BK312 BK321 BK354 HB; have HO_305001 := n0_; have HO_305002 := n1_; have HO_313001 := n2_; have HO_313002 := n3_; have HO_322001 := n4_; have HO_322002 := n5_; have HO_355001 := n6_; have HO_355002 := n7_; have BK287 := n8_; have BK304 := n9_; have BK312 := n10_; have BK321 := n11_; have BK354 := n12_; have HB := n13_; clear n0_ n1_ n2_ n3_ n4_ n5_ n6_ n7_ n8_ n9_ n10_ n11_ n12_ n13_; (try clear hb); (try clear hb2); (try clear hk); (try clear hi)))
                go_ret
                exact ⟨by first | rfl | (simp [errW_none, errW_some] <;> rfl) | (simp [*, errW_none, errW_some] <;> rfl), by first | exact uB HB | exact uS HB (gC GE287 (gC GE304 (gC GE312 (gC GE321 (gC GE354 gN)))))⟩
               ·
                rw [if_neg c162] at H
                have c162b0 : (t356 == t335) = false := beq_eq_false_iff_ne.mpr c162
                have c162b1 : (t356 != t335) = true := bne_iff_ne.mpr c162
                obtain rfl := Option.some.inj H
                have hnb169 := NB321_287.out
                have hnc169 := NB287_321.out
                have hnb170 := NB321_304.out
                have hnc170 := NB304_321.out
                have hnb171 := NB321_312.out
                have hnc171 := NB312_321.out
                have hnb172 := NB321_354.out
                have hnc172 := NB354_321.out
                have hcz173_0 : wc.cell? ⟨gb321, 0, none⟩ = some (.int .i64 t313) := (blk_cell BK321.out 0).trans rfl
                have hcz173_1 : wc.cell? ⟨gb321, 1, none⟩ = some (.slice Ao39 t336.length co39) := (blk_cell BK321.out 1).trans rfl
                have hcz173_2 : wc.cell? ⟨gb321, 2, none⟩ = some (.slice Ao40 t337.length co40) := (blk_cell BK321.out 2).trans rfl
                have hfz173_0 := blk_frozen BK321.out 0
                have hfz173_1 := blk_frozen BK321.out 1
                have hfz173_2 := blk_frozen BK321.out 2
                go_wp2_with (first | ((with_reducible refine gate_callee (f := 12) rfl ?_); refine goesL_ (some 90) rfl rfl Try.func12 (by kernel_rfl) rfl #[.agg #[.int .i64 t313, .slice Ao39 t336.length co39, .slice Ao40 t337.length co40], .int .i64 1] rfl (by (try simp only [List.map_toArray, List.map_cons, List.map_nil]); first | done | rfl | (simp only [List.length_drop, List.length_take]; rfl)) ?_; (with_reducible refine (laws_heldCuckoo.calls kj107 t313 _ _ t336 _ _ t337 1 t356 _ ?side1 ?side2 ?side3 ?side4 A154.out).mono ?_); (case side1 => exact uD HO_322001); (case side2 => exact (Kd.R_reads' HO_322001.out).2.1); (case side3 => exact uD HO_322002); (case side4 => exact (Kd.R_reads' HO_322002.out).2.1); rintro e w174 ⟨rfl, hb⟩; refine ⟨_, rfl, ?_⟩; have n0_ := Aside0.mk (Kd.R_below (uR HO_305001) hb); have n1_ := Aside0.mk (Kd.R_below (uR HO_305002) hb); have n2_ := Aside0.mk (Kd.R_below (uR HO_313001) hb); have n3_ := Aside0.mk (Kd.R_below (uR HO_313002) hb); have n4_ := Aside0.mk (Kd.R_below (uR HO_322001) hb); have n5_ := Aside0.mk (Kd.R_below (uR HO_322002) hb); have n6_ := Aside0.mk (Kd.R_below (uR HO_355001) hb); have n7_ := Aside0.mk (Kd.R_below (uR HO_355002) hb); have n8_ := Aside0.mk (blk_below (g := gb287) (o := .cells #[.int .i64 a0_0, .slice A0_1 l0_1.length c0_1, .slice A0_2 l0_2.length c0_2] 24 (0, 0)) (uK BK287) hb); have n9_ := Aside0.mk (blk_below (g := gb304) (o := .cells #[.int .i64 t296, .slice Ao23 t297.length co23, .slice Ao24 t300.length co24] 26 (0, 0)) (uK BK304) hb); have n10_ := Aside0.mk (blk_below (g := gb312) (o := .cells #[.int .i64 t305, .slice Ao31 t332.length co31, .slice Ao32 t333.length co32] 26 (0, 0)) (uK BK312) hb); have n11_ := Aside0.mk (blk_below (g := gb321) (o := .cells #[.int .i64 t313, .slice Ao39 t336.length co39, .slice Ao40 t337.length co40] 26 (0, 0)) (uK BK321) hb); have n12_ := Aside0.mk (blk_below (g := gb354) (o := .cells #[.int .i64 t346, .slice Ao129 t347.length co129, .slice Ao130 t350.length co130] 26 (0, 0)) (uK BK354) hb); have n13_ := Aside0.mk (below_step (by first | exact uB HB | exact uS HB (gC GE287 (gC GE304 (gC GE312 (gC GE321 (gC GE354 gN)))))) hb); clear HO_305001 HO_305002 HO_313001 HO_313002 HO_322001 HO_322002 HO_355001 HO_355002 BK287 BK304 BK312 BK321 BK354 HB; have HO_305001 := n0_; have HO_305002 := n1_; have HO_313001 := n2_; have HO_313002 := n3_; have HO_322001 := n4_; have HO_322002 := n5_; have HO_355001 := n6_; have HO_355002 := n7_; have BK287 := n8_; have BK304 := n9_; have BK312 := n10_; have BK321 := n11_; have BK354 := n12_; have HB := n13_; clear n0_ n1_ n2_ n3_ n4_ n5_ n6_ n7_ n8_ n9_ n10_ n11_ n12_ n13_; (try clear hb); (try clear hb2); (try clear hk); (try clear hi)))
                go_ret
                exact ⟨by first | rfl | (simp [errW_none, errW_some] <;> rfl) | (simp [*, errW_none, errW_some] <;> rfl), by first | exact uB HB | exact uS HB (gC GE287 (gC GE304 (gC GE312 (gC GE321 (gC GE354 gN)))))⟩
          ·
           rw [if_neg c105] at H
           have c105b0 : (t338 == t335) = false := beq_eq_false_iff_ne.mpr c105
           have c105b1 : (t338 != t335) = true := bne_iff_ne.mpr c105
           obtain rfl := Option.some.inj H
           have hnb175 := NB321_287.out
           have hnc175 := NB287_321.out
           have hnb176 := NB321_304.out
           have hnc176 := NB304_321.out
           have hnb177 := NB321_312.out
           have hnc177 := NB312_321.out
           have hcz178_0 : wc.cell? ⟨gb321, 0, none⟩ = some (.int .i64 t313) := (blk_cell BK321.out 0).trans rfl
           have hcz178_1 : wc.cell? ⟨gb321, 1, none⟩ = some (.slice Ao39 t314.length co39) := (blk_cell BK321.out 1).trans rfl
           have hcz178_2 : wc.cell? ⟨gb321, 2, none⟩ = some (.slice Ao40 t317.length co40) := (blk_cell BK321.out 2).trans rfl
           have hfz178_0 := blk_frozen BK321.out 0
           have hfz178_1 := blk_frozen BK321.out 1
           have hfz178_2 := blk_frozen BK321.out 2
           go_wp2_with (first | ((with_reducible refine gate_callee (f := 11) rfl ?_); refine goesL_ (some 64) rfl rfl Try.func11 (by kernel_rfl) rfl #[.agg #[.int .i64 t313, .slice Ao39 t314.length co39, .slice Ao40 t317.length co40], .int .i64 1] rfl (by (try simp only [List.map_toArray, List.map_cons, List.map_nil]); first | done | rfl | (simp only [List.length_drop, List.length_take]; rfl)) ?_; (with_reducible refine (laws_markCuckoo.calls kj63 t313 (fun k_ => some k_ = (.slice Ao39 t314.length co39 : Value).ownBlock) (.slice Ao39 t314.length co39) t314 (fun k_ => some k_ = (.slice Ao40 t317.length co40 : Value).ownBlock) (.slice Ao40 t317.length co40) t317 1 t335 t336 t337 w _ ?side1 ?side2 ?side3 ?side4 ?side5 A95.out).mono ?_); (case side1 => first | exact uB HB | exact uS HB (gC GE287 (gC GE304 (gC GE312 (gC GE321 gN))))); (case side2 => exact Kd.R_tight rfl HO_322001.out); (case side3 => exact fun k_ e_ => (HO_322001.out.1 k_ e_.symm).2.2.2.2); (case side4 => exact Kd.R_tight rfl HO_322002.out); (case side5 => exact fun k_ e_ => (HO_322002.out.1 k_ e_.symm).2.2.2.2); rintro e w179 ⟨rfl, hy0, hy1, hb, hkp⟩; refine ⟨_, rfl, ?_⟩; have n0_ := Aside0.mk (Kd.R_mono (ok' := fun k_ => some k_ ≠ (.slice Ao24 t300.length co24 : Value).ownBlock ∧ some k_ ≠ (.slice Ao31 t332.length co31 : Value).ownBlock ∧ some k_ ≠ (.slice Ao32 t333.length co32 : Value).ownBlock ∧ some k_ ≠ (.slice Ao39 t314.length co39 : Value).ownBlock ∧ some k_ ≠ (.slice Ao40 t317.length co40 : Value).ownBlock) (Kd.R_keptB (HO_305001.out) hkp (fun k_ hk_ hs_ => Or.elim hs_ (fun e_ => (hk_.2.2.2.1) e_) (fun e_ => (hk_.2.2.2.2) e_))) (fun k_ hk_ => ⟨hk_.1.1, hk_.1.2.1, hk_.1.2.2.1, hk_.1.2.2.2.1, hk_.1.2.2.2.2⟩)); have n1_ := Aside0.mk (Kd.R_mono (ok' := fun k_ => some k_ ≠ (.slice Ao23 t297.length co23 : Value).ownBlock ∧ some k_ ≠ (.slice Ao31 t332.length co31 : Value).ownBlock ∧ some k_ ≠ (.slice Ao32 t333.length co32 : Value).ownBlock ∧ some k_ ≠ (.slice Ao39 t314.length co39 : Value).ownBlock ∧ some k_ ≠ (.slice Ao40 t317.length co40 : Value).ownBlock) (Kd.R_keptB (HO_305002.out) hkp (fun k_ hk_ hs_ => Or.elim hs_ (fun e_ => (hk_.2.2.2.1) e_) (fun e_ => (hk_.2.2.2.2) e_))) (fun k_ hk_ => ⟨hk_.1.1, hk_.1.2.1, hk_.1.2.2.1, hk_.1.2.2.2.1, hk_.1.2.2.2.2⟩)); have n2_ := Aside0.mk (Kd.R_mono (ok' := fun k_ => some k_ ≠ (.slice Ao23 t297.length co23 : Value).ownBlock ∧ some k_ ≠ (.slice Ao24 t300.length co24 : Value).ownBlock ∧ some k_ ≠ (.slice Ao32 t333.length co32 : Value).ownBlock ∧ some k_ ≠ (.slice Ao39 t314.length co39 : Value).ownBlock ∧ some k_ ≠ (.slice Ao40 t317.length co40 : Value).ownBlock) (Kd.R_keptB (HO_313001.out) hkp (fun k_ hk_ hs_ => Or.elim hs_ (fun e_ => (hk_.2.2.2.1) e_) (fun e_ => (hk_.2.2.2.2) e_))) (fun k_ hk_ => ⟨hk_.1.1, hk_.1.2.1, hk_.1.2.2.1, hk_.1.2.2.2.1, hk_.1.2.2.2.2⟩)); have n3_ := Aside0.mk (Kd.R_mono (ok' := fun k_ => some k_ ≠ (.slice Ao23 t297.length co23 : Value).ownBlock ∧ some k_ ≠ (.slice Ao24 t300.length co24 : Value).ownBlock ∧ some k_ ≠ (.slice Ao31 t332.length co31 : Value).ownBlock ∧ some k_ ≠ (.slice Ao39 t314.length co39 : Value).ownBlock ∧ some k_ ≠ (.slice Ao40 t317.length co40 : Value).ownBlock) (Kd.R_keptB (HO_313002.out) hkp (fun k_ hk_ hs_ => Or.elim hs_ (fun e_ => (hk_.2.2.2.1) e_) (fun e_ => (hk_.2.2.2.2) e_))) (fun k_ hk_ => ⟨hk_.1.1, hk_.1.2.1, hk_.1.2.2.1, hk_.1.2.2.2.1, hk_.1.2.2.2.2⟩)); have n4_ := Aside0.mk (Kd.R_reok rfl hy0 (fun k_ e_ => HO_322001.out.1 k_ e_)); have n5_ := Aside0.mk (Kd.R_reok rfl hy1 (fun k_ e_ => HO_322002.out.1 k_ e_)); have n6_ := Aside0.mk (blk_kept (uK BK287) hkp (fun hs_ => Or.elim hs_ (fun e_ => (fun e_ => (Kd.R_ne HO_322001.out BK287.out (by decide)) e_) e_) (fun e_ => (fun e_ => (Kd.R_ne HO_322002.out BK287.out (by decide)) e_) e_))); have n7_ := Aside0.mk (blk_kept (uK BK304) hkp (fun hs_ => Or.elim hs_ (fun e_ => (fun e_ => (Kd.R_ne HO_322001.out BK304.out (by decide)) e_) e_) (fun e_ => (fun e_ => (Kd.R_ne HO_322002.out BK304.out (by decide)) e_) e_))); have n8_ := Aside0.mk (blk_kept (uK BK312) hkp (fun hs_ => Or.elim hs_ (fun e_ => (fun e_ => (Kd.R_ne HO_322001.out BK312.out (by decide)) e_) e_) (fun e_ => (fun e_ => (Kd.R_ne HO_322002.out BK312.out (by decide)) e_) e_))); have n9_ := Aside0.mk (blk_kept (uK BK321) hkp (fun hs_ => Or.elim hs_ (fun e_ => (fun e_ => (Kd.R_ne HO_322001.out BK321.out (by decide)) e_) e_) (fun e_ => (fun e_ => (Kd.R_ne HO_322002.out BK321.out (by decide)) e_) e_))); have n10_ := Aside0.mk (hb); clear HO_305001 HO_305002 HO_313001 HO_313002 HO_322001 HO_322002 BK287 BK304 BK312 BK321 HB; have HO_305001 := n0_; have HO_305002 := n1_; have HO_313001 := n2_; have HO_313002 := n3_; have HO_322001 := n4_; have HO_322002 := n5_; have BK287 := n6_; have BK304 := n7_; have BK312 := n8_; have BK321 := n9_; have HB := n10_; clear n0_ n1_ n2_ n3_ n4_ n5_ n6_ n7_ n8_ n9_ n10_; (try clear hb); (try clear hkp); (try clear hy0); (try clear hy1); have hcz180_0 : w179.cell? ⟨gb321, 0, none⟩ = some (.int .i64 t313) := (blk_cell BK321.out 0).trans rfl; have hcz180_1 : w179.cell? ⟨gb321, 1, none⟩ = some (.slice Ao39 t314.length co39) := (blk_cell BK321.out 1).trans rfl; have hcz180_2 : w179.cell? ⟨gb321, 2, none⟩ = some (.slice Ao40 t317.length co40) := (blk_cell BK321.out 2).trans rfl; have hfz180_0 := blk_frozen BK321.out 0; have hfz180_1 := blk_frozen BK321.out 1; have hfz180_2 := blk_frozen BK321.out 2) | ((with_reducible refine gate_callee (f := 12) rfl ?_); refine goesL_ (some 67) rfl rfl Try.func12 (by kernel_rfl) rfl #[.agg #[.int .i64 t313, .slice Ao39 t336.length co39, .slice Ao40 t337.length co40], .int .i64 1] rfl (by (try simp only [List.map_toArray, List.map_cons, List.map_nil]); first | done | (rw [show t336.length = t314.length from (Kd.R_reads' HO_322001.out).1.symm, show t337.length = t317.length from (Kd.R_reads' HO_322002.out).1.symm] <;> rfl) | rfl | (simp only [List.length_drop, List.length_take]; rfl)) ?_; (with_reducible refine (laws_heldCuckoo.calls kj63 t313 _ _ t336 _ _ t337 1 t338 _ ?side1 ?side2 ?side3 ?side4 A96.out).mono ?_); (case side1 => exact uD HO_322001); (case side2 => rw [show t336.length = t314.length from (Kd.R_reads' HO_322001.out).1.symm]; exact (Kd.R_reads' HO_322001.out).2.1); (case side3 => exact uD HO_322002); (case side4 => rw [show t337.length = t317.length from (Kd.R_reads' HO_322002.out).1.symm]; exact (Kd.R_reads' HO_322002.out).2.1); rintro e w181 ⟨rfl, hb⟩; refine ⟨_, rfl, ?_⟩; have n0_ := Aside0.mk (Kd.R_below (uR HO_305001) hb); have n1_ := Aside0.mk (Kd.R_below (uR HO_305002) hb); have n2_ := Aside0.mk (Kd.R_below (uR HO_313001) hb); have n3_ := Aside0.mk (Kd.R_below (uR HO_313002) hb); have n4_ := Aside0.mk (Kd.R_below (uR HO_322001) hb); have n5_ := Aside0.mk (Kd.R_below (uR HO_322002) hb); have n6_ := Aside0.mk (blk_below (g := gb287) (o := .cells #[.int .i64 a0_0, .slice A0_1 l0_1.length c0_1, .slice A0_2 l0_2.length c0_2] 24 (0, 0)) (uK BK287) hb); have n7_ := Aside0.mk (blk_below (g := gb304) (o := .cells #[.int .i64 t296, .slice Ao23 t297.length co23, .slice Ao24 t300.length co24] 26 (0, 0)) (uK BK304) hb); have n8_ := Aside0.mk (blk_below (g := gb312) (o := .cells #[.int .i64 t305, .slice Ao31 t332.length co31, .slice Ao32 t333.length co32] 26 (0, 0)) (uK BK312) hb); have n9_ := Aside0.mk (blk_below (g := gb321) (o := .cells #[.int .i64 t313, .slice Ao39 t314.length co39, .slice Ao40 t317.length co40] 26 (0, 0)) (uK BK321) hb); have n10_ := Aside0.mk (below_step (by first | exact uB HB | exact uS HB (gC GE287 (gC GE304 (gC GE312 (gC GE321 gN))))) hb); clear HO_305001 HO_305002 HO_313001 HO_313002 HO_322001 HO_322002 BK287 BK304 BK312 BK321 HB; have HO_305001 := n0_; have HO_305002 := n1_; have HO_313001 := n2_; have HO_313002 := n3_; have HO_322001 := n4_; have HO_322002 := n5_; have BK287 := n6_; have BK304 := n7_; have BK312 := n8_; have BK321 := n9_; have HB := n10_; clear n0_ n1_ n2_ n3_ n4_ n5_ n6_ n7_ n8_ n9_ n10_; (try clear hb); (try clear hb2); (try clear hk); (try clear hi)))
           go_ret
           exact ⟨by first | rfl | (simp [errW_none, errW_some] <;> rfl) | (simp [*, errW_none, errW_some] <;> rfl), by first | exact uB HB | exact uS HB (gC GE287 (gC GE304 (gC GE312 (gC GE321 gN))))⟩
     ·
      replace c62 := Bool.eq_false_iff.mpr c62
      subst c62
      have H1 : (some false) = some r := by rw [if_neg (show ¬ (false = true) by decide)] at H; exact H
      clear H
      have H := H1
      clear H1
      obtain rfl := Option.some.inj H
      try go_wp2
      have n0_ := Aside0.mk (Kd.R_drew HO_305001.out)
      have n1_ := Aside0.mk (Kd.R_drew HO_305002.out)
      have n2_ := Aside0.mk (Kd.R_drew HO_313001.out)
      have n3_ := Aside0.mk (Kd.R_drew HO_313002.out)
      have n4_ := Aside0.mk (Kd.R_drew HO_322001.out)
      have n5_ := Aside0.mk (Kd.R_drew HO_322002.out)
      have n6_ := Aside0.mk (blk_drew BK287.out)
      have n7_ := Aside0.mk (blk_drew BK304.out)
      have n8_ := Aside0.mk (blk_drew BK312.out)
      have n9_ := Aside0.mk (blk_drew BK321.out)
      have n10_ := Aside0.mk (below_drew1 HB.out)
      clear HO_305001
      clear HO_305002
      clear HO_313001
      clear HO_313002
      clear HO_322001
      clear HO_322002
      clear BK287
      clear BK304
      clear BK312
      clear BK321
      clear HB
      have HO_305001 := n0_
      have HO_305002 := n1_
      have HO_313001 := n2_
      have HO_313002 := n3_
      have HO_322001 := n4_
      have HO_322002 := n5_
      have BK287 := n6_
      have BK304 := n7_
      have BK312 := n8_
      have BK321 := n9_
      have HB := n10_
      clear n0_ n1_ n2_ n3_ n4_ n5_ n6_ n7_ n8_ n9_ n10_
      refine start_ (n := 5) (S := fun w' => w'.cell? ⟨gb312, 0, none⟩ = some (.int .i64 t305) ∧ w'.cell? ⟨gb312, 1, none⟩ = some (.slice Ao31 t306.length co31) ∧ w'.cell? ⟨gb312, 2, none⟩ = some (.slice Ao32 t309.length co32) ∧ w'.cell? ⟨gb287, 0, none⟩ = some (.int .i64 a0_0) ∧ w'.cell? ⟨gb287, 1, none⟩ = some (.slice A0_1 l0_1.length c0_1) ∧ w'.cell? ⟨gb287, 2, none⟩ = some (.slice A0_2 l0_2.length c0_2)) (ds := []) #[false, false, false, false, false] (by kernel_rfl) rfl rfl ⟨(blk_cell BK312.out 0).trans rfl, (blk_cell BK312.out 1).trans rfl, (blk_cell BK312.out 2).trans rfl, (blk_cell BK287.out 0).trans rfl, (blk_cell BK287.out 1).trans rfl, (blk_cell BK287.out 2).trans rfl⟩ (fun hHeld => ?_)
      generalize wc.drew = w182 at HO_305001 HO_305002 HO_313001 HO_313002 HO_322001 HO_322002 BK287 BK304 BK312 BK321 HB hHeld ⊢
      refine take_ (i := 0) (N := some 41) (v := ?_) (a' := ?_) #[true, false, false, false, false] rfl rfl (by kernel_rfl) (fun _ _ _ h => h) (Or.inl ⟨by rfl, ?_⟩) hHeld ?_ ?_
      rotate_left
      ·
       rintro w' ⟨s0, s1, s2, s3, s4, s5⟩
       go_simp
       with_reducible rfl
      rotate_left
      ·
       simp only [Act.put, List.setIfInBounds_toArray, List.set_cons_zero, List.set_cons_succ, i64_w, i32_w]
       rfl
      refine take_ (i := 1) (N := some 42) (v := ?_) (a' := ?_) #[true, true, false, false, false] rfl rfl (by kernel_rfl) (fun _ _ _ h => h) (Or.inl ⟨by rfl, ?_⟩) hHeld ?_ ?_
      rotate_left
      ·
       rintro w' ⟨s0, s1, s2, s3, s4, s5⟩
       go_simp
       with_reducible rfl
      rotate_left
      ·
       simp only [Act.put, List.setIfInBounds_toArray, List.set_cons_zero, List.set_cons_succ, i64_w, i32_w]
       rfl
      refine one_ (i := 2) (N := some 43) #[true, true, true, false, false] rfl rfl (by kernel_rfl) (by decide) (fun K hK => ?_)
      refine goes_ Try.func8 (by kernel_rfl) rfl #[.agg #[.int .i64 a0_0, .slice A0_1 l0_1.length c0_1, .slice A0_2 l0_2.length c0_2]] (by rfl) rfl rfl (by (try simp only [List.map_toArray, List.map_cons, List.map_nil]); first | done | rfl | (simp only [List.length_drop, List.length_take]; rfl)) ?_
      with_reducible refine (laws_toCuckoo.calls kj10 a0_0 _ _ l0_1 _ _ l0_2 t323 t324 t327 _ ?side1 ?side2 ?side3 ?side4 A60.out).mono ?_
      (case side1 => exact uC HR0_1 HB)
      (case side2 => exact HC0_1.out)
      (case side3 => exact uC HR0_2 HB)
      (case side4 => exact HC0_2.out)
      rintro e w183 ⟨v325, v328, rfl, ho0, ho1, hb⟩
      refine ⟨_, rfl, ?_⟩
      have n0_ := Aside0.mk (Kd.R_mono (Kd.R_told (Kd.R_told (Kd.R_old (uR HO_305001) hb) (Kd.R_base ho0)) (Kd.R_base ho1)) (fun _ h_ => h_.1))
      have n1_ := Aside0.mk (Kd.R_mono (Kd.R_told (Kd.R_told (Kd.R_old (uR HO_305002) hb) (Kd.R_base ho0)) (Kd.R_base ho1)) (fun _ h_ => h_.1))
      have n2_ := Aside0.mk (Kd.R_mono (Kd.R_told (Kd.R_told (Kd.R_old (uR HO_313001) hb) (Kd.R_base ho0)) (Kd.R_base ho1)) (fun _ h_ => h_.1))
      have n3_ := Aside0.mk (Kd.R_mono (Kd.R_told (Kd.R_told (Kd.R_old (uR HO_313002) hb) (Kd.R_base ho0)) (Kd.R_base ho1)) (fun _ h_ => h_.1))
      have n4_ := Aside0.mk (Kd.R_mono (Kd.R_told (Kd.R_told (Kd.R_old (uR HO_322001) hb) (Kd.R_base ho0)) (Kd.R_base ho1)) (fun _ h_ => h_.1))
      have n5_ := Aside0.mk (Kd.R_mono (Kd.R_told (Kd.R_told (Kd.R_old (uR HO_322002) hb) (Kd.R_base ho0)) (Kd.R_base ho1)) (fun _ h_ => h_.1))
      have n6_ := Aside0.mk (Kd.R_lower (Kd.R_new' (Kd.R_new' (Kd.R_new' (Kd.R_new' (Kd.R_new' (Kd.R_new' ho0 (Kd.R_lt (uR HO_305001))) (Kd.R_lt (uR HO_305002))) (Kd.R_lt (uR HO_313001))) (Kd.R_lt (uR HO_313002))) (Kd.R_lt (uR HO_322001))) (Kd.R_lt (uR HO_322002))) (below_size (by first | exact uB HB | exact uS HB (gC GE287 (gC GE304 (gC GE312 (gC GE321 gN)))))))
      have n7_ := Aside0.mk (Kd.R_lower (Kd.R_new' (Kd.R_new' (Kd.R_new' (Kd.R_new' (Kd.R_new' (Kd.R_new' ho1 (Kd.R_lt (uR HO_305001))) (Kd.R_lt (uR HO_305002))) (Kd.R_lt (uR HO_313001))) (Kd.R_lt (uR HO_313002))) (Kd.R_lt (uR HO_322001))) (Kd.R_lt (uR HO_322002))) (below_size (by first | exact uB HB | exact uS HB (gC GE287 (gC GE304 (gC GE312 (gC GE321 gN)))))))
      have n8_ := Aside0.mk (blk_below (g := gb287) (o := .cells #[.int .i64 a0_0, .slice A0_1 l0_1.length c0_1, .slice A0_2 l0_2.length c0_2] 24 (0, 0)) (uK BK287) hb)
      have n9_ := Aside0.mk (blk_below (g := gb304) (o := .cells #[.int .i64 t296, .slice Ao23 t297.length co23, .slice Ao24 t300.length co24] 26 (0, 0)) (uK BK304) hb)
      have n10_ := Aside0.mk (blk_below (g := gb312) (o := .cells #[.int .i64 t305, .slice Ao31 t306.length co31, .slice Ao32 t309.length co32] 26 (0, 0)) (uK BK312) hb)
      have n11_ := Aside0.mk (blk_below (g := gb321) (o := .cells #[.int .i64 t313, .slice Ao39 t314.length co39, .slice Ao40 t317.length co40] 26 (0, 0)) (uK BK321) hb)
      have n12_ := Aside0.mk (below_step (by first | exact uB HB | exact uS HB (gC GE287 (gC GE304 (gC GE312 (gC GE321 gN))))) hb)
      clear HO_305001
      clear HO_305002
      clear HO_313001
      clear HO_313002
      clear HO_322001
      clear HO_322002
      clear BK287
      clear BK304
      clear BK312
      clear BK321
      clear HB
      have HO_305001 := n0_
      have HO_305002 := n1_
      have HO_313001 := n2_
      have HO_313002 := n3_
      have HO_322001 := n4_
      have HO_322002 := n5_
      have HO326 := n6_
      have HO329 := n7_
      have BK287 := n8_
      have BK304 := n9_
      have BK312 := n10_
      have BK321 := n11_
      have HB := n12_
      clear n0_ n1_ n2_ n3_ n4_ n5_ n6_ n7_ n8_ n9_ n10_ n11_ n12_
      (try clear hb)
      (try clear hb2)
      (try clear hk)
      (try clear hi)
      (try clear ho0)
      (try clear ho1)
      obtain ⟨Ao184, co184, eo184⟩ := Kd.R_slice HO326.out
      (first | subst eo184 | (injection eo184 with f1_ f2_ f3_; have f4_ := f1_.symm; have f5_ := f3_.symm; clear f1_ f2_ f3_; subst f4_; subst f5_))
      obtain ⟨Ao185, co185, eo185⟩ := Kd.R_slice HO329.out
      (first | subst eo185 | (injection eo185 with f1_ f2_ f3_; have f4_ := f1_.symm; have f5_ := f3_.symm; clear f1_ f2_ f3_; subst f4_; subst f5_))
      refine hK.out _ _ ⟨(blk_cell BK312.out 0).trans rfl, (blk_cell BK312.out 1).trans rfl, (blk_cell BK312.out 2).trans rfl, (blk_cell BK287.out 0).trans rfl, (blk_cell BK287.out 1).trans rfl, (blk_cell BK287.out 2).trans rfl⟩ (fun hHeld => ?_)
      clear hK K
      refine norm_ (a' := ?_) ?_ ?_
      rotate_left
      ·
       show Act.put _ (some 43) _ = _
       simp only [Act.put, List.setIfInBounds_toArray, List.set_cons_zero, List.set_cons_succ, i64_w, i32_w]
       rfl
      refine one_ (i := 3) (N := some 44) #[true, true, true, true, false] rfl rfl (by kernel_rfl) (by decide) (fun K hK => ?_)
      refine goes_ Try.func10 (by kernel_rfl) rfl #[.agg #[.int .i64 t305, .slice Ao31 t306.length co31, .slice Ao32 t309.length co32], .agg #[.int .i64 t323, .slice Ao184 t324.length co184, .slice Ao185 t327.length co185]] (by rfl) rfl rfl (by (try simp only [List.map_toArray, List.map_cons, List.map_nil]); first | done | rfl | (simp only [List.length_drop, List.length_take]; rfl)) ?_
      with_reducible refine (laws_eqCuckoo.calls kj10 t305 _ _ t306 _ _ t309 t323 _ _ t324 _ _ t327 false _ ?side1 ?side2 ?side3 ?side4 ?side5 ?side6 ?side7 ?side8 A61.out).mono ?_
      (case side1 => exact uD HO_313001)
      (case side2 => exact (Kd.R_reads' HO_313001.out).2.1)
      (case side3 => exact uD HO_313002)
      (case side4 => exact (Kd.R_reads' HO_313002.out).2.1)
      (case side5 => exact uD HO326)
      (case side6 => exact (Kd.R_reads' HO326.out).2.1)
      (case side7 => exact uD HO329)
      (case side8 => exact (Kd.R_reads' HO329.out).2.1)
      rintro e w186 ⟨rfl, hb⟩
      refine ⟨_, rfl, ?_⟩
      have n0_ := Aside0.mk (Kd.R_below (uR HO_305001) hb)
      have n1_ := Aside0.mk (Kd.R_below (uR HO_305002) hb)
      have n2_ := Aside0.mk (Kd.R_below (uR HO_313001) hb)
      have n3_ := Aside0.mk (Kd.R_below (uR HO_313002) hb)
      have n4_ := Aside0.mk (Kd.R_below (uR HO_322001) hb)
      have n5_ := Aside0.mk (Kd.R_below (uR HO_322002) hb)
      have n6_ := Aside0.mk (Kd.R_below (uR HO326) hb)
      have n7_ := Aside0.mk (Kd.R_below (uR HO329) hb)
      have n8_ := Aside0.mk (blk_below (g := gb287) (o := .cells #[.int .i64 a0_0, .slice A0_1 l0_1.length c0_1, .slice A0_2 l0_2.length c0_2] 24 (0, 0)) (uK BK287) hb)
      have n9_ := Aside0.mk (blk_below (g := gb304) (o := .cells #[.int .i64 t296, .slice Ao23 t297.length co23, .slice Ao24 t300.length co24] 26 (0, 0)) (uK BK304) hb)
      have n10_ := Aside0.mk (blk_below (g := gb312) (o := .cells #[.int .i64 t305, .slice Ao31 t306.length co31, .slice Ao32 t309.length co32] 26 (0, 0)) (uK BK312) hb)
      have n11_ := Aside0.mk (blk_below (g := gb321) (o := .cells #[.int .i64 t313, .slice Ao39 t314.length co39, .slice Ao40 t317.length co40] 26 (0, 0)) (uK BK321) hb)
      have n12_ := Aside0.mk (below_step (by first | exact uB HB | exact uS HB (gC GE287 (gC GE304 (gC GE312 (gC GE321 gN))))) hb)
      clear HO_305001
      clear HO_305002
      clear HO_313001
      clear HO_313002
      clear HO_322001
      clear HO_322002
      clear HO326
      clear HO329
      clear BK287
      clear BK304
      clear BK312
      clear BK321
      clear HB
      have HO_305001 := n0_
      have HO_305002 := n1_
      have HO_313001 := n2_
      have HO_313002 := n3_
      have HO_322001 := n4_
      have HO_322002 := n5_
      have HO326 := n6_
      have HO329 := n7_
      have BK287 := n8_
      have BK304 := n9_
      have BK312 := n10_
      have BK321 := n11_
      have HB := n12_
      clear n0_ n1_ n2_ n3_ n4_ n5_ n6_ n7_ n8_ n9_ n10_ n11_ n12_
      (try clear hb)
      (try clear hb2)
      (try clear hk)
      (try clear hi)
      refine hK.out _ _ ⟨(blk_cell BK312.out 0).trans rfl, (blk_cell BK312.out 1).trans rfl, (blk_cell BK312.out 2).trans rfl, (blk_cell BK287.out 0).trans rfl, (blk_cell BK287.out 1).trans rfl, (blk_cell BK287.out 2).trans rfl⟩ (fun hHeld => ?_)
      clear hK K
      refine norm_ (a' := ?_) ?_ ?_
      rotate_left
      ·
       show Act.put _ (some 44) _ = _
       simp only [Act.put, List.setIfInBounds_toArray, List.set_cons_zero, List.set_cons_succ, i64_w, i32_w]
       rfl
      refine pure_ (i := 4) (N := some 45) (v := ?_) (a' := ?_) #[true, true, true, true, true] rfl rfl (by kernel_rfl) (fun _ _ _ h => h) (Or.inl ⟨by rfl, ?_⟩) ?_ ?_
      rotate_left
      ·
       intro w'
       go_simp
       with_reducible rfl
      rotate_left
      ·
       simp only [Act.put, List.setIfInBounds_toArray, List.set_cons_zero, List.set_cons_succ, i64_w, i32_w]
       rfl
      refine done_ (by kernel_rfl) ?_
      try go_wp2
      go_ret
      exact ⟨by first | rfl | (simp [errW_none, errW_some] <;> rfl) | (simp [*, errW_none, errW_some] <;> rfl), by first | exact uB HB | exact uS HB (gC GE287 (gC GE304 (gC GE312 (gC GE321 gN))))⟩

end Go.Proofs.Ythaicmebdgeamaa.PFnExactCuckooUnstash
