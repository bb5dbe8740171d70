-- made by wip/tools/myprint.py over the kit's print, for this claim
import Derived.Test.YtmccpdjmplijgaaPFnExactCuckooRemovex0
import Derived.Test.YtmccpdjmplijgaaPFnExactCuckooRemovex1
import Derived.Test.YtmccpdjmplijgaaPFnExactCuckooRemovex2
import Derived.Test.YtmccpdjmplijgaaPFnExactCuckooRemovex6
import Derived.Test.YtmccpdjmplijgaaPFnExactCuckooRemovex9
namespace Go.Proofs.Ytmccpdjmplijgaa.PFnExactCuckooRemove
open Go.RowKit Go.Proofs.YtmccpdjmplijgaaW.PrintWords Go.Proofs.YtmccpdjmplijgaaW.PrintLast Go.Proofs.YtmccpdjmplijgaaW.PrintMore
attribute [local go_sem] max2_int min2_int max_two min_two max_three min_three max_four min_four   -- for this text's walks alone
set_option linter.unusedVariables false
set_option linter.unusedSimpArgs false

/-! ### laws_FnExactCuckooRemove: function 7 -/
mutual
def laws_FnExactCuckooRemove.j0 : Nat → ByteArray → Bool → Bool → Bool → Int → List ByteArray → List ByteArray → Int → List ByteArray → List ByteArray → Int → List ByteArray → List ByteArray → Int → List ByteArray → List ByteArray → Option (Bool)
 | 0, _, _, _, _, _, _, _, _, _, _, _, _, _, _, _, _ => none
 | k + 1, x1, x7, x10, x47, x313000, x313001, x313002, x330000, x330001, x330002, x338000, x338001, x338002, x347000, x347001, x347002 => if x47 = true then (some false) else ((laws_toCuckoo.f k x313000 x313001 x313002).bind fun bt348 => ((laws_eqCuckoo.f k x338000 x338001 x338002 bt348.1 bt348.2.1 bt348.2.2).bind fun t355 => (if t355 = true then ((laws_markCuckoo.f k x338000 x338001 x338002 1).bind fun bt356 => (if bt356.1 < 0 then (laws_FnExactCuckooRemove.j1 k x1 x7 true x313000 x313001 x313002 x330000 x330001 x330002 x347000 x347001 x347002) else ((laws_eqCuckoo.f k x347000 x347001 x347002 x330000 x330001 x330002).bind fun t359 => (if t359 = true then (laws_FnExactCuckooRemove.j1 k x1 x7 (x10 != x7) x313000 x313001 x313002 x330000 x330001 x330002 x347000 x347001 x347002) else (laws_FnExactCuckooRemove.j1 k x1 x7 true x313000 x313001 x313002 x330000 x330001 x330002 x347000 x347001 x347002))))) else (some false))))
def laws_FnExactCuckooRemove.j1 : Nat → ByteArray → Bool → Bool → Int → List ByteArray → List ByteArray → Int → List ByteArray → List ByteArray → Int → List ByteArray → List ByteArray → Option (Bool)
 | 0, _, _, _, _, _, _, _, _, _, _, _, _ => none
 | k + 1, x1, x7, x68, x313000, x313001, x313002, x330000, x330001, x330002, x347000, x347001, x347002 => if x68 = true then (some false) else ((laws_markCuckoo.f k x347000 x347001 x347002 1).bind fun bt360 => ((laws_heldCuckoo.f k x347000 bt360.2.1 bt360.2.2 1).bind fun t363 => (if t363 < 0 then (some false) else (if t363 = bt360.1 then ((laws_toCuckoo.f k x313000 x313001 x313002).bind fun bt364 => ((impl_CuckooRemove.f k bt364.1 bt364.2.1 bt364.2.2 x1).bind fun bt371 => ((laws_eqCuckoo.f k bt371.1 bt371.2.1 bt371.2.2.1 x330000 x330001 x330002).bind fun t380 => (if t380 = true then (laws_FnExactCuckooRemove.j2 k bt360.1 (bt371.2.2.2 != x7) x347000 bt360.2.1 bt360.2.2) else (laws_FnExactCuckooRemove.j2 k bt360.1 true x347000 bt360.2.1 bt360.2.2))))) else (some false)))))
def laws_FnExactCuckooRemove.j2 : Nat → Int → Bool → Int → List ByteArray → List ByteArray → Option (Bool)
 | 0, _, _, _, _, _ => none
 | k + 1, x12, x95, x347000, x347001, x347002 => if x95 = true then (some false) else ((laws_heldCuckoo.f k x347000 x347001 x347002 1).bind fun t381 => (if t381 < 0 then (some false) else (if t381 = x12 then (some true) else (some false))))
end
def laws_FnExactCuckooRemove.f (k : Nat) (a0_0 : Int) (l0_1 : List ByteArray) (l0_2 : List ByteArray) (a1 : ByteArray) : Option (Bool) := if (a1.size : Int) > 1048576 then (some true) else ((laws_szCuckoo.f k a0_0 l0_1 l0_2 1048576).bind fun t313 => (if t313 < 0 then (some true) else ((laws_toCuckoo.f k a0_0 l0_1 l0_2).bind fun bt314 => ((spec_CuckooRemove.f k bt314.1 bt314.2.1 bt314.2.2 a1).bind fun bt321 => ((laws_toCuckoo.f k a0_0 l0_1 l0_2).bind fun bt330 => ((impl_CuckooRemove.f k bt330.1 bt330.2.1 bt330.2.2 a1).bind fun bt338 => ((laws_eqCuckoo.f k bt338.1 bt338.2.1 bt338.2.2.1 bt321.1 bt321.2.1 bt321.2.2.1).bind fun t347 => (if t347 = true then (laws_FnExactCuckooRemove.j0 k a1 bt321.2.2.2 bt338.2.2.2 (bt338.2.2.2 != bt321.2.2.2) a0_0 l0_1 l0_2 bt321.1 bt321.2.1 bt321.2.2.1 bt330.1 bt330.2.1 bt330.2.2 bt338.1 bt338.2.1 bt338.2.2.1) else (laws_FnExactCuckooRemove.j0 k a1 bt321.2.2.2 bt338.2.2.2 true a0_0 l0_1 l0_2 bt321.1 bt321.2.1 bt321.2.2.1 bt330.1 bt330.2.1 bt330.2.2 bt338.1 bt338.2.1 bt338.2.2.1)))))))))
theorem laws_FnExactCuckooRemove.mono_l : ∀ k, (∀ y0 y1 y2 y3 y4 y5 y6 y7 y8 y9 y10 y11 y12 y13 y14 y15, LeO (laws_FnExactCuckooRemove.j0 k y0 y1 y2 y3 y4 y5 y6 y7 y8 y9 y10 y11 y12 y13 y14 y15) (laws_FnExactCuckooRemove.j0 (k + 1) y0 y1 y2 y3 y4 y5 y6 y7 y8 y9 y10 y11 y12 y13 y14 y15)) ∧ (∀ y0 y1 y2 y3 y4 y5 y6 y7 y8 y9 y10 y11, LeO (laws_FnExactCuckooRemove.j1 k y0 y1 y2 y3 y4 y5 y6 y7 y8 y9 y10 y11) (laws_FnExactCuckooRemove.j1 (k + 1) y0 y1 y2 y3 y4 y5 y6 y7 y8 y9 y10 y11)) ∧ (∀ y0 y1 y2 y3 y4, LeO (laws_FnExactCuckooRemove.j2 k y0 y1 y2 y3 y4) (laws_FnExactCuckooRemove.j2 (k + 1) y0 y1 y2 y3 y4))
 | 0 => ⟨fun _ _ _ _ _ _ _ _ _ _ _ _ _ _ _ _ r h => by simp [laws_FnExactCuckooRemove.j0] at h, fun _ _ _ _ _ _ _ _ _ _ _ _ r h => by simp [laws_FnExactCuckooRemove.j1] at h, fun _ _ _ _ _ r h => by simp [laws_FnExactCuckooRemove.j2] at h⟩
 | k + 1 => by
  obtain ⟨ih0, ih1, ih2⟩ := laws_FnExactCuckooRemove.mono_l k
  refine ⟨?_, ?_, ?_⟩
  ·
   intro y0 y1 y2 y3 y4 y5 y6 y7 y8 y9 y10 y11 y12 y13 y14 y15
   unfold laws_FnExactCuckooRemove.j0
   repeat' first
   | (with_reducible exact ih0 _ _ _ _ _ _ _ _ _ _ _ _ _ _ _ _)
   | (with_reducible exact ih1 _ _ _ _ _ _ _ _ _ _ _ _)
   | (with_reducible exact ih2 _ _ _ _ _)
   | (with_reducible exact impl_CuckooRemove.mono _ _ _ _ _)
   | (with_reducible exact laws_eqCuckoo.mono _ _ _ _ _ _ _)
   | (with_reducible exact laws_heldCuckoo.mono _ _ _ _ _)
   | (with_reducible exact laws_markCuckoo.mono _ _ _ _ _)
   | (with_reducible exact laws_szCuckoo.mono _ _ _ _ _)
   | (with_reducible exact laws_toCuckoo.mono _ _ _ _)
   | (with_reducible exact spec_CuckooRemove.mono _ _ _ _ _)
   | (with_reducible exact LeO.refl _)
   | (with_reducible exact LeO.none _)
   | (with_reducible refine LeO.ite ?_ ?_)
   | (with_reducible refine LeO.bind ?_ (fun _ => ?_))
   | exact ih0 _ _ _ _ _ _ _ _ _ _ _ _ _ _ _ _
   | exact ih1 _ _ _ _ _ _ _ _ _ _ _ _
   | exact ih2 _ _ _ _ _
   | exact impl_CuckooRemove.mono _ _ _ _ _
   | exact laws_eqCuckoo.mono _ _ _ _ _ _ _
   | exact laws_heldCuckoo.mono _ _ _ _ _
   | exact laws_markCuckoo.mono _ _ _ _ _
   | exact laws_szCuckoo.mono _ _ _ _ _
   | exact laws_toCuckoo.mono _ _ _ _
   | exact spec_CuckooRemove.mono _ _ _ _ _
   | exact LeO.none _
   | refine LeO.ite ?_ ?_
   | refine LeO.bind ?_ (fun _ => ?_)
  ·
   intro y0 y1 y2 y3 y4 y5 y6 y7 y8 y9 y10 y11
   unfold laws_FnExactCuckooRemove.j1
   repeat' first
   | (with_reducible exact ih0 _ _ _ _ _ _ _ _ _ _ _ _ _ _ _ _)
   | (with_reducible exact ih1 _ _ _ _ _ _ _ _ _ _ _ _)
   | (with_reducible exact ih2 _ _ _ _ _)
   | (with_reducible exact impl_CuckooRemove.mono _ _ _ _ _)
   | (with_reducible exact laws_eqCuckoo.mono _ _ _ _ _ _ _)
   | (with_reducible exact laws_heldCuckoo.mono _ _ _ _ _)
   | (with_reducible exact laws_markCuckoo.mono _ _ _ _ _)
   | (with_reducible exact laws_szCuckoo.mono _ _ _ _ _)
   | (with_reducible exact laws_toCuckoo.mono _ _ _ _)
   | (with_reducible exact spec_CuckooRemove.mono _ _ _ _ _)
   | (with_reducible exact LeO.refl _)
   | (with_reducible exact LeO.none _)
   | (with_reducible refine LeO.ite ?_ ?_)
   | (with_reducible refine LeO.bind ?_ (fun _ => ?_))
   | exact ih0 _ _ _ _ _ _ _ _ _ _ _ _ _ _ _ _
   | exact ih1 _ _ _ _ _ _ _ _ _ _ _ _
   | exact ih2 _ _ _ _ _
   | exact impl_CuckooRemove.mono _ _ _ _ _
   | exact laws_eqCuckoo.mono _ _ _ _ _ _ _
   | exact laws_heldCuckoo.mono _ _ _ _ _
   | exact laws_markCuckoo.mono _ _ _ _ _
   | exact laws_szCuckoo.mono _ _ _ _ _
   | exact laws_toCuckoo.mono _ _ _ _
   | exact spec_CuckooRemove.mono _ _ _ _ _
   | exact LeO.none _
   | refine LeO.ite ?_ ?_
   | refine LeO.bind ?_ (fun _ => ?_)
  ·
   intro y0 y1 y2 y3 y4
   unfold laws_FnExactCuckooRemove.j2
   repeat' first
   | (with_reducible exact ih0 _ _ _ _ _ _ _ _ _ _ _ _ _ _ _ _)
   | (with_reducible exact ih1 _ _ _ _ _ _ _ _ _ _ _ _)
   | (with_reducible exact ih2 _ _ _ _ _)
   | (with_reducible exact impl_CuckooRemove.mono _ _ _ _ _)
   | (with_reducible exact laws_eqCuckoo.mono _ _ _ _ _ _ _)
   | (with_reducible exact laws_heldCuckoo.mono _ _ _ _ _)
   | (with_reducible exact laws_markCuckoo.mono _ _ _ _ _)
   | (with_reducible exact laws_szCuckoo.mono _ _ _ _ _)
   | (with_reducible exact laws_toCuckoo.mono _ _ _ _)
   | (with_reducible exact spec_CuckooRemove.mono _ _ _ _ _)
   | (with_reducible exact LeO.refl _)
   | (with_reducible exact LeO.none _)
   | (with_reducible refine LeO.ite ?_ ?_)
   | (with_reducible refine LeO.bind ?_ (fun _ => ?_))
   | exact ih0 _ _ _ _ _ _ _ _ _ _ _ _ _ _ _ _
   | exact ih1 _ _ _ _ _ _ _ _ _ _ _ _
   | exact ih2 _ _ _ _ _
   | exact impl_CuckooRemove.mono _ _ _ _ _
   | exact laws_eqCuckoo.mono _ _ _ _ _ _ _
   | exact laws_heldCuckoo.mono _ _ _ _ _
   | exact laws_markCuckoo.mono _ _ _ _ _
   | exact laws_szCuckoo.mono _ _ _ _ _
   | exact laws_toCuckoo.mono _ _ _ _
   | exact spec_CuckooRemove.mono _ _ _ _ _
   | exact LeO.none _
   | refine LeO.ite ?_ ?_
   | refine LeO.bind ?_ (fun _ => ?_)
theorem laws_FnExactCuckooRemove.mono : ∀ a0 a1 a2 a3 k, LeO (laws_FnExactCuckooRemove.f k a0 a1 a2 a3) (laws_FnExactCuckooRemove.f (k + 1) a0 a1 a2 a3) := by
 intro a0 a1 a2 a3 k
 obtain ⟨ih0, ih1, ih2⟩ := laws_FnExactCuckooRemove.mono_l k
 unfold laws_FnExactCuckooRemove.f
 repeat' first
   | (with_reducible exact ih0 _ _ _ _ _ _ _ _ _ _ _ _ _ _ _ _)
   | (with_reducible exact ih1 _ _ _ _ _ _ _ _ _ _ _ _)
   | (with_reducible exact ih2 _ _ _ _ _)
   | (with_reducible exact impl_CuckooRemove.mono _ _ _ _ _)
   | (with_reducible exact laws_eqCuckoo.mono _ _ _ _ _ _ _)
   | (with_reducible exact laws_heldCuckoo.mono _ _ _ _ _)
   | (with_reducible exact laws_markCuckoo.mono _ _ _ _ _)
   | (with_reducible exact laws_szCuckoo.mono _ _ _ _ _)
   | (with_reducible exact laws_toCuckoo.mono _ _ _ _)
   | (with_reducible exact spec_CuckooRemove.mono _ _ _ _ _)
   | (with_reducible exact LeO.refl _)
   | (with_reducible exact LeO.none _)
   | (with_reducible refine LeO.ite ?_ ?_)
   | (with_reducible refine LeO.bind ?_ (fun _ => ?_))
   | exact ih0 _ _ _ _ _ _ _ _ _ _ _ _ _ _ _ _
   | exact ih1 _ _ _ _ _ _ _ _ _ _ _ _
   | exact ih2 _ _ _ _ _
   | exact impl_CuckooRemove.mono _ _ _ _ _
   | exact laws_eqCuckoo.mono _ _ _ _ _ _ _
   | exact laws_heldCuckoo.mono _ _ _ _ _
   | exact laws_markCuckoo.mono _ _ _ _ _
   | exact laws_szCuckoo.mono _ _ _ _ _
   | exact laws_toCuckoo.mono _ _ _ _
   | exact spec_CuckooRemove.mono _ _ _ _ _
   | exact LeO.none _
   | refine LeO.ite ?_ ?_
   | refine LeO.bind ?_ (fun _ => ?_)
set_option maxHeartbeats 8000000 in
set_option maxRecDepth 100000 in
theorem laws_FnExactCuckooRemove.calls (k : Nat) (a0_0 : Int) (A0_1 : Option Addr) (c0_1 : Nat) (l0_1 : List ByteArray) (A0_2 : Option Addr) (c0_2 : Nat) (l0_2 : List ByteArray) (a1 : ByteArray) (r : Bool) (w : World) (hr0_1 : Kd.C Kd.string w A0_1 l0_1.length l0_1) (hc0_1 : l0_1.length ≤ c0_1) (hr0_2 : Kd.C Kd.string w A0_2 l0_2.length l0_2) (hc0_2 : l0_2.length ≤ c0_2) (h : laws_FnExactCuckooRemove.f k a0_0 l0_1 l0_2 a1 = some r) :
  Calls Try.prog 7 #[.agg #[.int .i64 a0_0, .slice A0_1 l0_1.length c0_1, .slice A0_2 l0_2.length c0_2], .string a1] w fun e w' => e = .returned (.bool r) ∧ Below w.heap.size w w' := by
 have hu24 := Try.underlying24
 have hu27 := Try.underlying27
 have HR0_1 := Aside0.mk hr0_1
 have HC0_1 := Aside0.mk hc0_1
 clear hr0_1 hc0_1
 have HR0_2 := Aside0.mk hr0_2
 have HC0_2 := Aside0.mk hc0_2
 clear hr0_2 hc0_2
 have HB := Aside0.mk (Below.refl w.heap.size w)
 have H : (if (a1.size : Int) > 1048576 then (some true) else ((laws_szCuckoo.f k a0_0 l0_1 l0_2 1048576).bind fun t313 => (if t313 < 0 then (some true) else ((laws_toCuckoo.f k a0_0 l0_1 l0_2).bind fun bt314 => ((spec_CuckooRemove.f k bt314.1 bt314.2.1 bt314.2.2 a1).bind fun bt321 => ((laws_toCuckoo.f k a0_0 l0_1 l0_2).bind fun bt330 => ((impl_CuckooRemove.f k bt330.1 bt330.2.1 bt330.2.2 a1).bind fun bt338 => ((laws_eqCuckoo.f k bt338.1 bt338.2.1 bt338.2.2.1 bt321.1 bt321.2.1 bt321.2.2.1).bind fun t347 => (if t347 = true then (laws_FnExactCuckooRemove.j0 k a1 bt321.2.2.2 bt338.2.2.2 (bt338.2.2.2 != bt321.2.2.2) a0_0 l0_1 l0_2 bt321.1 bt321.2.1 bt321.2.2.1 bt330.1 bt330.2.1 bt330.2.2 bt338.1 bt338.2.1 bt338.2.2.1) else (laws_FnExactCuckooRemove.j0 k a1 bt321.2.2.2 bt338.2.2.2 true a0_0 l0_1 l0_2 bt321.1 bt321.2.1 bt321.2.2.1 bt330.1 bt330.2.1 bt330.2.2 bt338.1 bt338.2.1 bt338.2.2.1)))))))))) = some r := h
 clear h
 by_cases c3 : (a1.size : Int) > 1048576
 ·
  rw [if_pos c3] at H
  have c3b0 : decide (1048576 < (a1.size : Int)) = true := decide_eq_true c3
  have c3b1 : decide (1048576 < a1.size) = true := decide_eq_true (by omega)
  clear c3
  obtain rfl := Option.some.inj H
  go_enter Try.func7, Try.ntmps7
  go_wp2_with (first | ((with_reducible refine gate_dst (N := 2) rfl ?_); refine box_event ?hg (N := 2) ?hd (cs := #[.int .i64 a0_0, .slice A0_1 l0_1.length c0_1, .slice A0_2 l0_2.length c0_2]) (t := 24) ?hr ?_; (case hd => rfl); (case hg => rfl); (case hr => first | (go_simp; done) | (go_simp; rfl)); intro gb312 hg w4 hbox hb; have n0_ := Aside0.mk (below_step (uB HB) hb); have n1_ := Aside0.mk (hbox); have n2_ := Aside0.mk ((by rw [hg]; exact (below_size (uB HB)) : w.heap.size ≤ gb312)); have n3_ := Aside0.mk ((by rw [hg]; exact (below_size (uB HB)) : w.heap.size ≤ gb312)); clear HB; have HB := n0_; have BK312 := n1_; have GW312 := n2_; have GE312 := n3_; clear n0_ n1_ n2_ n3_; clear hb hbox hg))
  go_ret
  exact ⟨by first | rfl | (simp [errW_none, errW_some] <;> rfl) | (simp [*, errW_none, errW_some] <;> rfl), by first | exact uB HB | exact uS HB (gC GE312 gN)⟩
 ·
  rw [if_neg c3] at H
  have c3b0 : decide (1048576 < (a1.size : Int)) = false := decide_eq_false c3
  have c3b1 : decide (1048576 < a1.size) = false := decide_eq_false (by omega)
  clear c3
  replace H := Option.bind_eq_some_iff.mp H
  obtain ⟨t313, A50, H⟩ := H
  replace H : (if t313 < 0 then (some true) else ((laws_toCuckoo.f k a0_0 l0_1 l0_2).bind fun bt314 => ((spec_CuckooRemove.f k bt314.1 bt314.2.1 bt314.2.2 a1).bind fun bt321 => ((laws_toCuckoo.f k a0_0 l0_1 l0_2).bind fun bt330 => ((impl_CuckooRemove.f k bt330.1 bt330.2.1 bt330.2.2 a1).bind fun bt338 => ((laws_eqCuckoo.f k bt338.1 bt338.2.1 bt338.2.2.1 bt321.1 bt321.2.1 bt321.2.2.1).bind fun t347 => (if t347 = true then (laws_FnExactCuckooRemove.j0 k a1 bt321.2.2.2 bt338.2.2.2 (bt338.2.2.2 != bt321.2.2.2) a0_0 l0_1 l0_2 bt321.1 bt321.2.1 bt321.2.2.1 bt330.1 bt330.2.1 bt330.2.2 bt338.1 bt338.2.1 bt338.2.2.1) else (laws_FnExactCuckooRemove.j0 k a1 bt321.2.2.2 bt338.2.2.2 true a0_0 l0_1 l0_2 bt321.1 bt321.2.1 bt321.2.2.1 bt330.1 bt330.2.1 bt330.2.2 bt338.1 bt338.2.1 bt338.2.2.1)))))))) = some r := H
  have A5 := Aside0.mk A50
  clear A50
  by_cases c6 : t313 < 0
  ·
   rw [if_pos c6] at H
   have c6b0 : decide (t313 < 0) = true := decide_eq_true c6
   clear c6
   obtain rfl := Option.some.inj H
   go_enter Try.func7, Try.ntmps7
   go_wp2_with (first | ((with_reducible refine gate_dst (N := 2) rfl ?_); refine box_event ?hg (N := 2) ?hd (cs := #[.int .i64 a0_0, .slice A0_1 l0_1.length c0_1, .slice A0_2 l0_2.length c0_2]) (t := 24) ?hr ?_; (case hd => rfl); (case hg => rfl); (case hr => first | (go_simp; done) | (go_simp; rfl)); intro gb312 hg w7 hbox hb; have n0_ := Aside0.mk (below_step (uB HB) hb); have n1_ := Aside0.mk (hbox); have n2_ := Aside0.mk ((by rw [hg]; exact (below_size (uB HB)) : w.heap.size ≤ gb312)); have n3_ := Aside0.mk ((by rw [hg]; exact (below_size (uB HB)) : w.heap.size ≤ gb312)); clear HB; have HB := n0_; have BK312 := n1_; have GW312 := n2_; have GE312 := n3_; clear n0_ n1_ n2_ n3_ hb hbox hg; have hcz8_0 : w7.cell? ⟨gb312, 0, none⟩ = some (.int .i64 a0_0) := (blk_cell BK312.out 0).trans rfl; have hcz8_1 : w7.cell? ⟨gb312, 1, none⟩ = some (.slice A0_1 l0_1.length c0_1) := (blk_cell BK312.out 1).trans rfl; have hcz8_2 : w7.cell? ⟨gb312, 2, none⟩ = some (.slice A0_2 l0_2.length c0_2) := (blk_cell BK312.out 2).trans rfl; have hfz8_0 := blk_frozen BK312.out 0; have hfz8_1 := blk_frozen BK312.out 1; have hfz8_2 := blk_frozen BK312.out 2) | ((with_reducible refine gate_callee (f := 10) rfl ?_); refine goesL_ (some 21) rfl rfl Try.func10 (by kernel_rfl) rfl #[.agg #[.int .i64 a0_0, .slice A0_1 l0_1.length c0_1, .slice A0_2 l0_2.length c0_2], .int .i64 1048576] rfl (by (try simp only [List.map_toArray, List.map_cons, List.map_nil]); first | done | rfl | (simp only [List.length_drop, List.length_take]; rfl)) ?_; (with_reducible refine (laws_szCuckoo.calls k a0_0 _ _ l0_1 _ _ l0_2 1048576 t313 _ ?side1 ?side2 ?side3 ?side4 A5.out).mono ?_); (case side1 => exact uC HR0_1 HB); (case side2 => exact HC0_1.out); (case side3 => exact uC HR0_2 HB); (case side4 => exact HC0_2.out); rintro e w9 ⟨rfl, hb⟩; refine ⟨_, rfl, ?_⟩; have n0_ := Aside0.mk (blk_below (g := gb312) (o := .cells #[.int .i64 a0_0, .slice A0_1 l0_1.length c0_1, .slice A0_2 l0_2.length c0_2] 24 (0, 0)) (uK BK312) hb); have n1_ := Aside0.mk (below_step (by first | exact uB HB | exact uS HB (gC GE312 gN)) hb); clear BK312 HB; have BK312 := n0_; have HB := n1_; clear n0_ n1_; (try clear hb); (try clear hb2); (try clear hk); (try clear hi)))
   go_ret
   exact ⟨by first | rfl | (simp [errW_none, errW_some] <;> rfl) | (simp [*, errW_none, errW_some] <;> rfl), by first | exact uB HB | exact uS HB (gC GE312 gN)⟩
  ·
   rw [if_neg c6] at H
   have c6b0 : decide (t313 < 0) = false := decide_eq_false c6
   clear c6
   replace H := Option.bind_eq_some_iff.mp H
   obtain ⟨⟨t314, t315, t318⟩, A100, H⟩ := H
   replace H : ((spec_CuckooRemove.f k t314 t315 t318 a1).bind fun bt321 => ((laws_toCuckoo.f k a0_0 l0_1 l0_2).bind fun bt330 => ((impl_CuckooRemove.f k bt330.1 bt330.2.1 bt330.2.2 a1).bind fun bt338 => ((laws_eqCuckoo.f k bt338.1 bt338.2.1 bt338.2.2.1 bt321.1 bt321.2.1 bt321.2.2.1).bind fun t347 => (if t347 = true then (laws_FnExactCuckooRemove.j0 k a1 bt321.2.2.2 bt338.2.2.2 (bt338.2.2.2 != bt321.2.2.2) a0_0 l0_1 l0_2 bt321.1 bt321.2.1 bt321.2.2.1 bt330.1 bt330.2.1 bt330.2.2 bt338.1 bt338.2.1 bt338.2.2.1) else (laws_FnExactCuckooRemove.j0 k a1 bt321.2.2.2 bt338.2.2.2 true a0_0 l0_1 l0_2 bt321.1 bt321.2.1 bt321.2.2.1 bt330.1 bt330.2.1 bt330.2.2 bt338.1 bt338.2.1 bt338.2.2.1)))))) = some r := H
   have A10 := Aside0.mk A100
   clear A100
   replace H := Option.bind_eq_some_iff.mp H
   obtain ⟨⟨t321, t322, t325, t328⟩, A110, H⟩ := H
   replace H : ((laws_toCuckoo.f k a0_0 l0_1 l0_2).bind fun bt330 => ((impl_CuckooRemove.f k bt330.1 bt330.2.1 bt330.2.2 a1).bind fun bt338 => ((laws_eqCuckoo.f k bt338.1 bt338.2.1 bt338.2.2.1 t321 t322 t325).bind fun t347 => (if t347 = true then (laws_FnExactCuckooRemove.j0 k a1 t328 bt338.2.2.2 (bt338.2.2.2 != t328) a0_0 l0_1 l0_2 t321 t322 t325 bt330.1 bt330.2.1 bt330.2.2 bt338.1 bt338.2.1 bt338.2.2.1) else (laws_FnExactCuckooRemove.j0 k a1 t328 bt338.2.2.2 true a0_0 l0_1 l0_2 t321 t322 t325 bt330.1 bt330.2.1 bt330.2.2 bt338.1 bt338.2.1 bt338.2.2.1))))) = some r := H
   have A11 := Aside0.mk A110
   clear A110
   replace H := Option.bind_eq_some_iff.mp H
   obtain ⟨⟨t330, t331, t334⟩, A120, H⟩ := H
   replace H : ((impl_CuckooRemove.f k t330 t331 t334 a1).bind fun bt338 => ((laws_eqCuckoo.f k bt338.1 bt338.2.1 bt338.2.2.1 t321 t322 t325).bind fun t347 => (if t347 = true then (laws_FnExactCuckooRemove.j0 k a1 t328 bt338.2.2.2 (bt338.2.2.2 != t328) a0_0 l0_1 l0_2 t321 t322 t325 t330 t331 t334 bt338.1 bt338.2.1 bt338.2.2.1) else (laws_FnExactCuckooRemove.j0 k a1 t328 bt338.2.2.2 true a0_0 l0_1 l0_2 t321 t322 t325 t330 t331 t334 bt338.1 bt338.2.1 bt338.2.2.1)))) = some r := H
   have A12 := Aside0.mk A120
   clear A120
   replace H := Option.bind_eq_some_iff.mp H
   obtain ⟨⟨t338, t339, t342, t345⟩, A130, H⟩ := H
   replace H : ((laws_eqCuckoo.f k t338 t339 t342 t321 t322 t325).bind fun t347 => (if t347 = true then (laws_FnExactCuckooRemove.j0 k a1 t328 t345 (t345 != t328) a0_0 l0_1 l0_2 t321 t322 t325 t330 t331 t334 t338 t339 t342) else (laws_FnExactCuckooRemove.j0 k a1 t328 t345 true a0_0 l0_1 l0_2 t321 t322 t325 t330 t331 t334 t338 t339 t342))) = some r := H
   have A13 := Aside0.mk A130
   clear A130
   have HC14 := Aside0.mk H
   clear H
   go_enter Try.func7, Try.ntmps7
   go_upto_region 10 with (first | ((with_reducible refine gate_dst (N := 2) rfl ?_); refine box_event ?hg (N := 2) ?hd (cs := #[.int .i64 a0_0, .slice A0_1 l0_1.length c0_1, .slice A0_2 l0_2.length c0_2]) (t := 24) ?hr ?_; (case hd => rfl); (case hg => rfl); (case hr => first | (go_simp; done) | (go_simp; rfl)); intro gb312 hg w15 hbox hb; have n0_ := Aside0.mk (below_step (uB HB) hb); have n1_ := Aside0.mk (hbox); have n2_ := Aside0.mk ((by rw [hg]; exact (below_size (uB HB)) : w.heap.size ≤ gb312)); have n3_ := Aside0.mk ((by rw [hg]; exact (below_size (uB HB)) : w.heap.size ≤ gb312)); clear HB; have HB := n0_; have BK312 := n1_; have GW312 := n2_; have GE312 := n3_; clear n0_ n1_ n2_ n3_ hb hbox hg; have hcz16_0 : w15.cell? ⟨gb312, 0, none⟩ = some (.int .i64 a0_0) := (blk_cell BK312.out 0).trans rfl; have hcz16_1 : w15.cell? ⟨gb312, 1, none⟩ = some (.slice A0_1 l0_1.length c0_1) := (blk_cell BK312.out 1).trans rfl; have hcz16_2 : w15.cell? ⟨gb312, 2, none⟩ = some (.slice A0_2 l0_2.length c0_2) := (blk_cell BK312.out 2).trans rfl; have hfz16_0 := blk_frozen BK312.out 0; have hfz16_1 := blk_frozen BK312.out 1; have hfz16_2 := blk_frozen BK312.out 2) | ((with_reducible refine gate_callee (f := 10) rfl ?_); refine goesL_ (some 21) rfl rfl Try.func10 (by kernel_rfl) rfl #[.agg #[.int .i64 a0_0, .slice A0_1 l0_1.length c0_1, .slice A0_2 l0_2.length c0_2], .int .i64 1048576] rfl (by (try simp only [List.map_toArray, List.map_cons, List.map_nil]); first | done | rfl | (simp only [List.length_drop, List.length_take]; rfl)) ?_; (with_reducible refine (laws_szCuckoo.calls k a0_0 _ _ l0_1 _ _ l0_2 1048576 t313 _ ?side1 ?side2 ?side3 ?side4 A5.out).mono ?_); (case side1 => exact uC HR0_1 HB); (case side2 => exact HC0_1.out); (case side3 => exact uC HR0_2 HB); (case side4 => exact HC0_2.out); rintro e w17 ⟨rfl, hb⟩; refine ⟨_, rfl, ?_⟩; have n0_ := Aside0.mk (blk_below (g := gb312) (o := .cells #[.int .i64 a0_0, .slice A0_1 l0_1.length c0_1, .slice A0_2 l0_2.length c0_2] 24 (0, 0)) (uK BK312) hb); have n1_ := Aside0.mk (below_step (by first | exact uB HB | exact uS HB (gC GE312 gN)) hb); clear BK312 HB; have BK312 := n0_; have HB := n1_; clear n0_ n1_; (try clear hb); (try clear hb2); (try clear hk); (try clear hi); have hcz18_0 : w17.cell? ⟨gb312, 0, none⟩ = some (.int .i64 a0_0) := (blk_cell BK312.out 0).trans rfl; have hcz18_1 : w17.cell? ⟨gb312, 1, none⟩ = some (.slice A0_1 l0_1.length c0_1) := (blk_cell BK312.out 1).trans rfl; have hcz18_2 : w17.cell? ⟨gb312, 2, none⟩ = some (.slice A0_2 l0_2.length c0_2) := (blk_cell BK312.out 2).trans rfl; have hfz18_0 := blk_frozen BK312.out 0; have hfz18_1 := blk_frozen BK312.out 1; have hfz18_2 := blk_frozen BK312.out 2) | ((with_reducible refine gate_callee (f := 12) rfl ?_); refine goesL_ (some 26) rfl rfl Try.func12 (by kernel_rfl) rfl #[.agg #[.int .i64 a0_0, .slice A0_1 l0_1.length c0_1, .slice A0_2 l0_2.length c0_2]] rfl (by (try simp only [List.map_toArray, List.map_cons, List.map_nil]); first | done | rfl | (simp only [List.length_drop, List.length_take]; rfl)) ?_; (with_reducible refine (laws_toCuckoo.calls k a0_0 _ _ l0_1 _ _ l0_2 t314 t315 t318 _ ?side1 ?side2 ?side3 ?side4 A10.out).mono ?_); (case side1 => exact uC HR0_1 HB); (case side2 => exact HC0_1.out); (case side3 => exact uC HR0_2 HB); (case side4 => exact HC0_2.out); rintro e w19 ⟨v316, v319, rfl, ho0, ho1, hb⟩; refine ⟨_, rfl, ?_⟩; have n0_ := Aside0.mk (Kd.R_lower ho0 (below_size (by first | exact uB HB | exact uS HB (gC GE312 gN)))); have n1_ := Aside0.mk (Kd.R_lower ho1 (below_size (by first | exact uB HB | exact uS HB (gC GE312 gN)))); have n2_ := Aside0.mk (blk_below (g := gb312) (o := .cells #[.int .i64 a0_0, .slice A0_1 l0_1.length c0_1, .slice A0_2 l0_2.length c0_2] 24 (0, 0)) (uK BK312) hb); have n3_ := Aside0.mk (below_step (by first | exact uB HB | exact uS HB (gC GE312 gN)) hb); clear BK312 HB; have HO317 := n0_; have HO320 := n1_; have BK312 := n2_; have HB := n3_; clear n0_ n1_ n2_ n3_; (try clear hb); (try clear hb2); (try clear hk); (try clear hi); (try clear ho0); (try clear ho1); obtain ⟨Ao20, co20, eo20⟩ := Kd.R_slice HO317.out; subst eo20; obtain ⟨Ao21, co21, eo21⟩ := Kd.R_slice HO320.out; subst eo21) | ((with_reducible refine gate_callee (f := 26) rfl ?_); refine goesL_ (some 28) rfl rfl Try.func26 (by kernel_rfl) rfl #[.agg #[.int .i64 t314, .slice Ao20 t315.length co20, .slice Ao21 t318.length co21], .string a1] rfl (by (try simp only [List.map_toArray, List.map_cons, List.map_nil]); first | done | rfl | (simp only [List.length_drop, List.length_take]; rfl)) ?_; (with_reducible refine (spec_CuckooRemove.calls k t314 _ _ t315 _ _ t318 a1 t321 t322 t325 t328 _ ?side1 ?side2 ?side3 ?side4 A11.out).mono ?_); (case side1 => exact uD HO317); (case side2 => exact (Kd.R_reads' HO317.out).2.1); (case side3 => exact uD HO320); (case side4 => exact (Kd.R_reads' HO320.out).2.1); rintro e w22 ⟨v323, v326, rfl, ho0, ho1, hb⟩; refine ⟨_, rfl, ?_⟩; have n0_ := Aside0.mk (Kd.R_mono (Kd.R_told (Kd.R_told (Kd.R_old (uR HO317) hb) (Kd.R_base ho0)) (Kd.R_base ho1)) (fun _ h_ => h_.1)); have n1_ := Aside0.mk (Kd.R_mono (Kd.R_told (Kd.R_told (Kd.R_old (uR HO320) hb) (Kd.R_base ho0)) (Kd.R_base ho1)) (fun _ h_ => h_.1)); have n2_ := Aside0.mk (Kd.R_lower (Kd.R_new' (Kd.R_new' ho0 (Kd.R_lt (uR HO317))) (Kd.R_lt (uR HO320))) (below_size (by first | exact uB HB | exact uS HB (gC GE312 gN)))); have n3_ := Aside0.mk (Kd.R_lower (Kd.R_new' (Kd.R_new' ho1 (Kd.R_lt (uR HO317))) (Kd.R_lt (uR HO320))) (below_size (by first | exact uB HB | exact uS HB (gC GE312 gN)))); have n4_ := Aside0.mk (blk_below (g := gb312) (o := .cells #[.int .i64 a0_0, .slice A0_1 l0_1.length c0_1, .slice A0_2 l0_2.length c0_2] 24 (0, 0)) (uK BK312) hb); have n5_ := Aside0.mk (below_step (by first | exact uB HB | exact uS HB (gC GE312 gN)) hb); clear HO317 HO320 BK312 HB; have HO317 := n0_; have HO320 := n1_; have HO324 := n2_; have HO327 := n3_; have BK312 := n4_; have HB := n5_; clear n0_ n1_ n2_ n3_ n4_ n5_; (try clear hb); (try clear hb2); (try clear hk); (try clear hi); (try clear ho0); (try clear ho1)) | ((with_reducible refine gate_dst (N := 6) rfl ?_); refine box_event ?hg (N := 6) ?hd (cs := #[.int .i64 0, .slice none 0 0, .slice none 0 0]) (t := 27) ?hr ?_; (case hd => rfl); (case hg => rfl); (case hr => first | (go_simp; done) | (go_simp; rfl)); intro gb329 hg w23 hbox hb; have n0_ := Aside0.mk (Kd.R_below (uR HO317) hb); have n1_ := Aside0.mk (Kd.R_below (uR HO320) hb); have n2_ := Aside0.mk (Kd.R_below (uR HO324) hb); have n3_ := Aside0.mk (Kd.R_below (uR HO327) hb); have n4_ := Aside0.mk (blk_below (g := gb312) (o := .cells #[.int .i64 a0_0, .slice A0_1 l0_1.length c0_1, .slice A0_2 l0_2.length c0_2] 24 (0, 0)) (uK BK312) hb); have n5_ := Aside0.mk (below_step (by first | exact uB HB | exact uS HB (gC GE312 gN)) hb); have n6_ := Aside0.mk (hbox); have n7_ := Aside0.mk ((by rw [hg]; exact (below_size (by first | exact uB HB | exact uS HB (gC GE312 gN))) : w.heap.size ≤ gb329)); have n8_ := Aside0.mk ((by rw [hg]; exact (below_size (by first | exact uB HB | exact uS HB (gC GE312 gN))) : w.heap.size ≤ gb329)); have n9_ := Aside0.mk ((by rw [hg]; exact Nat.ne_of_lt (blk_lt (g := gb312) (o := .cells #[.int .i64 a0_0, .slice A0_1 l0_1.length c0_1, .slice A0_2 l0_2.length c0_2] 24 (0, 0)) (uK BK312)) : gb312 ≠ gb329)); have n10_ := Aside0.mk ((by rw [hg]; exact Nat.ne_of_gt (blk_lt (g := gb312) (o := .cells #[.int .i64 a0_0, .slice A0_1 l0_1.length c0_1, .slice A0_2 l0_2.length c0_2] 24 (0, 0)) (uK BK312)) : gb329 ≠ gb312)); clear HO317 HO320 HO324 HO327 BK312 HB; have HO317 := n0_; have HO320 := n1_; have HO324 := n2_; have HO327 := n3_; have BK312 := n4_; have HB := n5_; have BK329 := n6_; have GW329 := n7_; have GE329 := n8_; have NB312_329 := n9_; have NB329_312 := n10_; clear n0_ n1_ n2_ n3_ n4_ n5_ n6_ n7_ n8_ n9_ n10_ hb hbox hg; have hnb24 := NB329_312.out; have hnc24 := NB312_329.out; have hcz25_0 : w23.cell? ⟨gb329, 0, none⟩ = some (.int .i64 0) := (blk_cell BK329.out 0).trans rfl; have hcz25_1 : w23.cell? ⟨gb329, 1, none⟩ = some (.slice none 0 0) := (blk_cell BK329.out 1).trans rfl; have hcz25_2 : w23.cell? ⟨gb329, 2, none⟩ = some (.slice none 0 0) := (blk_cell BK329.out 2).trans rfl; have hfz25_0 := blk_frozen BK329.out 0; have hfz25_1 := blk_frozen BK329.out 1; have hfz25_2 := blk_frozen BK329.out 2; obtain ⟨Ao26, co26, eo26⟩ := Kd.R_slice HO324.out; subst eo26; obtain ⟨Ao27, co27, eo27⟩ := Kd.R_slice HO327.out; subst eo27; have hcz28_0 : w23.cell? ⟨gb312, 0, none⟩ = some (.int .i64 a0_0) := (blk_cell BK312.out 0).trans rfl; have hcz28_1 : w23.cell? ⟨gb312, 1, none⟩ = some (.slice A0_1 l0_1.length c0_1) := (blk_cell BK312.out 1).trans rfl; have hcz28_2 : w23.cell? ⟨gb312, 2, none⟩ = some (.slice A0_2 l0_2.length c0_2) := (blk_cell BK312.out 2).trans rfl; have hfz28_0 := blk_frozen BK312.out 0; have hfz28_1 := blk_frozen BK312.out 1; have hfz28_2 := blk_frozen BK312.out 2) | ((with_reducible refine gate_callee (f := 12) rfl ?_); refine goesL_ (some 32) rfl rfl Try.func12 (by kernel_rfl) rfl #[.agg #[.int .i64 a0_0, .slice A0_1 l0_1.length c0_1, .slice A0_2 l0_2.length c0_2]] rfl (by (try simp only [List.map_toArray, List.map_cons, List.map_nil]); first | done | rfl | (simp only [List.length_drop, List.length_take]; rfl)) ?_; (with_reducible refine (laws_toCuckoo.calls k a0_0 _ _ l0_1 _ _ l0_2 t330 t331 t334 _ ?side1 ?side2 ?side3 ?side4 A12.out).mono ?_); (case side1 => exact Kd.C_below HR0_1.out (by first | exact uB HB | exact uS HB (gC GE312 (gC GE329 gN)))); (case side2 => exact HC0_1.out); (case side3 => exact Kd.C_below HR0_2.out (by first | exact uB HB | exact uS HB (gC GE312 (gC GE329 gN)))); (case side4 => exact HC0_2.out); rintro e w29 ⟨v332, v335, rfl, ho0, ho1, hb⟩; refine ⟨_, rfl, ?_⟩; have n0_ := Aside0.mk (Kd.R_mono (Kd.R_told (Kd.R_told (Kd.R_old (by (with_reducible repeat (first | apply Kd.R_alloc | apply Kd.R_drewN | apply Kd.R_drew)); exact (Kd.R_mono (Kd.R_far (p := ⟨gb329, 2, none⟩) (Kd.R_far (p := ⟨gb329, 1, none⟩) (Kd.R_far (p := ⟨gb329, 0, none⟩) (Kd.R_types HO317.out BK329.out (by decide)) (fun _ hk => hk.2) (.int .i64 t321)) (fun _ hk => hk.2) (.slice Ao26 t322.length co26)) (fun _ hk => hk.2) (.slice Ao27 t325.length co27)) (fun _ h_ => h_.1))) hb) (Kd.R_base ho0)) (Kd.R_base ho1)) (fun _ h_ => h_.1)); have n1_ := Aside0.mk (Kd.R_mono (Kd.R_told (Kd.R_told (Kd.R_old (by (with_reducible repeat (first | apply Kd.R_alloc | apply Kd.R_drewN | apply Kd.R_drew)); exact (Kd.R_mono (Kd.R_far (p := ⟨gb329, 2, none⟩) (Kd.R_far (p := ⟨gb329, 1, none⟩) (Kd.R_far (p := ⟨gb329, 0, none⟩) (Kd.R_types HO320.out BK329.out (by decide)) (fun _ hk => hk.2) (.int .i64 t321)) (fun _ hk => hk.2) (.slice Ao26 t322.length co26)) (fun _ hk => hk.2) (.slice Ao27 t325.length co27)) (fun _ h_ => h_.1))) hb) (Kd.R_base ho0)) (Kd.R_base ho1)) (fun _ h_ => h_.1)); have n2_ := Aside0.mk (Kd.R_mono (Kd.R_told (Kd.R_told (Kd.R_old (by (with_reducible repeat (first | apply Kd.R_alloc | apply Kd.R_drewN | apply Kd.R_drew)); exact (Kd.R_mono (Kd.R_far (p := ⟨gb329, 2, none⟩) (Kd.R_far (p := ⟨gb329, 1, none⟩) (Kd.R_far (p := ⟨gb329, 0, none⟩) (Kd.R_types HO324.out BK329.out (by decide)) (fun _ hk => hk.2) (.int .i64 t321)) (fun _ hk => hk.2) (.slice Ao26 t322.length co26)) (fun _ hk => hk.2) (.slice Ao27 t325.length co27)) (fun _ h_ => h_.1))) hb) (Kd.R_base ho0)) (Kd.R_base ho1)) (fun _ h_ => h_.1)); have n3_ := Aside0.mk (Kd.R_mono (Kd.R_told (Kd.R_told (Kd.R_old (by (with_reducible repeat (first | apply Kd.R_alloc | apply Kd.R_drewN | apply Kd.R_drew)); exact (Kd.R_mono (Kd.R_far (p := ⟨gb329, 2, none⟩) (Kd.R_far (p := ⟨gb329, 1, none⟩) (Kd.R_far (p := ⟨gb329, 0, none⟩) (Kd.R_types HO327.out BK329.out (by decide)) (fun _ hk => hk.2) (.int .i64 t321)) (fun _ hk => hk.2) (.slice Ao26 t322.length co26)) (fun _ hk => hk.2) (.slice Ao27 t325.length co27)) (fun _ h_ => h_.1))) hb) (Kd.R_base ho0)) (Kd.R_base ho1)) (fun _ h_ => h_.1)); have n4_ := Aside0.mk (Kd.R_lower (Kd.R_new' (Kd.R_new' (Kd.R_new' (Kd.R_new' ho0 (Kd.R_lt (by (with_reducible repeat (first | apply Kd.R_alloc | apply Kd.R_drewN | apply Kd.R_drew)); exact (Kd.R_mono (Kd.R_far (p := ⟨gb329, 2, none⟩) (Kd.R_far (p := ⟨gb329, 1, none⟩) (Kd.R_far (p := ⟨gb329, 0, none⟩) (Kd.R_types HO317.out BK329.out (by decide)) (fun _ hk => hk.2) (.int .i64 t321)) (fun _ hk => hk.2) (.slice Ao26 t322.length co26)) (fun _ hk => hk.2) (.slice Ao27 t325.length co27)) (fun _ h_ => h_.1))))) (Kd.R_lt (by (with_reducible repeat (first | apply Kd.R_alloc | apply Kd.R_drewN | apply Kd.R_drew)); exact (Kd.R_mono (Kd.R_far (p := ⟨gb329, 2, none⟩) (Kd.R_far (p := ⟨gb329, 1, none⟩) (Kd.R_far (p := ⟨gb329, 0, none⟩) (Kd.R_types HO320.out BK329.out (by decide)) (fun _ hk => hk.2) (.int .i64 t321)) (fun _ hk => hk.2) (.slice Ao26 t322.length co26)) (fun _ hk => hk.2) (.slice Ao27 t325.length co27)) (fun _ h_ => h_.1))))) (Kd.R_lt (by (with_reducible repeat (first | apply Kd.R_alloc | apply Kd.R_drewN | apply Kd.R_drew)); exact (Kd.R_mono (Kd.R_far (p := ⟨gb329, 2, none⟩) (Kd.R_far (p := ⟨gb329, 1, none⟩) (Kd.R_far (p := ⟨gb329, 0, none⟩) (Kd.R_types HO324.out BK329.out (by decide)) (fun _ hk => hk.2) (.int .i64 t321)) (fun _ hk => hk.2) (.slice Ao26 t322.length co26)) (fun _ hk => hk.2) (.slice Ao27 t325.length co27)) (fun _ h_ => h_.1))))) (Kd.R_lt (by (with_reducible repeat (first | apply Kd.R_alloc | apply Kd.R_drewN | apply Kd.R_drew)); exact (Kd.R_mono (Kd.R_far (p := ⟨gb329, 2, none⟩) (Kd.R_far (p := ⟨gb329, 1, none⟩) (Kd.R_far (p := ⟨gb329, 0, none⟩) (Kd.R_types HO327.out BK329.out (by decide)) (fun _ hk => hk.2) (.int .i64 t321)) (fun _ hk => hk.2) (.slice Ao26 t322.length co26)) (fun _ hk => hk.2) (.slice Ao27 t325.length co27)) (fun _ h_ => h_.1))))) (below_size (by first | exact uB HB | exact uS HB (gC GE312 (gC GE329 gN))))); have n5_ := Aside0.mk (Kd.R_lower (Kd.R_new' (Kd.R_new' (Kd.R_new' (Kd.R_new' ho1 (Kd.R_lt (by (with_reducible repeat (first | apply Kd.R_alloc | apply Kd.R_drewN | apply Kd.R_drew)); exact (Kd.R_mono (Kd.R_far (p := ⟨gb329, 2, none⟩) (Kd.R_far (p := ⟨gb329, 1, none⟩) (Kd.R_far (p := ⟨gb329, 0, none⟩) (Kd.R_types HO317.out BK329.out (by decide)) (fun _ hk => hk.2) (.int .i64 t321)) (fun _ hk => hk.2) (.slice Ao26 t322.length co26)) (fun _ hk => hk.2) (.slice Ao27 t325.length co27)) (fun _ h_ => h_.1))))) (Kd.R_lt (by (with_reducible repeat (first | apply Kd.R_alloc | apply Kd.R_drewN | apply Kd.R_drew)); exact (Kd.R_mono (Kd.R_far (p := ⟨gb329, 2, none⟩) (Kd.R_far (p := ⟨gb329, 1, none⟩) (Kd.R_far (p := ⟨gb329, 0, none⟩) (Kd.R_types HO320.out BK329.out (by decide)) (fun _ hk => hk.2) (.int .i64 t321)) (fun _ hk => hk.2) (.slice Ao26 t322.length co26)) (fun _ hk => hk.2) (.slice Ao27 t325.length co27)) (fun _ h_ => h_.1))))) (Kd.R_lt (by (with_reducible repeat (first | apply Kd.R_alloc | apply Kd.R_drewN | apply Kd.R_drew)); exact (Kd.R_mono (Kd.R_far (p := ⟨gb329, 2, none⟩) (Kd.R_far (p := ⟨gb329, 1, none⟩) (Kd.R_far (p := ⟨gb329, 0, none⟩) (Kd.R_types HO324.out BK329.out (by decide)) (fun _ hk => hk.2) (.int .i64 t321)) (fun _ hk => hk.2) (.slice Ao26 t322.length co26)) (fun _ hk => hk.2) (.slice Ao27 t325.length co27)) (fun _ h_ => h_.1))))) (Kd.R_lt (by (with_reducible repeat (first | apply Kd.R_alloc | apply Kd.R_drewN | apply Kd.R_drew)); exact (Kd.R_mono (Kd.R_far (p := ⟨gb329, 2, none⟩) (Kd.R_far (p := ⟨gb329, 1, none⟩) (Kd.R_far (p := ⟨gb329, 0, none⟩) (Kd.R_types HO327.out BK329.out (by decide)) (fun _ hk => hk.2) (.int .i64 t321)) (fun _ hk => hk.2) (.slice Ao26 t322.length co26)) (fun _ hk => hk.2) (.slice Ao27 t325.length co27)) (fun _ h_ => h_.1))))) (below_size (by first | exact uB HB | exact uS HB (gC GE312 (gC GE329 gN))))); have n6_ := Aside0.mk (blk_below (g := gb312) (o := .cells #[.int .i64 a0_0, .slice A0_1 l0_1.length c0_1, .slice A0_2 l0_2.length c0_2] 24 (0, 0)) (by refine uW ?_; refine blk_far ?_ NB312_329.out _; refine uW ?_; refine blk_far ?_ NB312_329.out _; refine uW ?_; refine blk_far ?_ NB312_329.out _; refine uW ?_; exact BK312.out) hb); have n7_ := Aside0.mk (blk_below (g := gb329) (o := .cells #[.int .i64 t321, .slice Ao26 t322.length co26, .slice Ao27 t325.length co27] 27 (0, 0)) (by refine uW ?_; refine blk_put (cs := #[.int .i64 t321, .slice Ao26 t322.length co26, .slice none 0 0]) ?_ 2 _ rfl; refine uW ?_; refine blk_put (cs := #[.int .i64 t321, .slice none 0 0, .slice none 0 0]) ?_ 1 _ rfl; refine uW ?_; refine blk_put (cs := #[.int .i64 0, .slice none 0 0, .slice none 0 0]) ?_ 0 _ rfl; refine uW ?_; exact BK329.out) hb); have n8_ := Aside0.mk (below_step (by first | exact uB HB | exact uS HB (gC GE312 (gC GE329 gN))) hb); clear HO317 HO320 HO324 HO327 BK312 BK329 HB; have HO317 := n0_; have HO320 := n1_; have HO324 := n2_; have HO327 := n3_; have HO333 := n4_; have HO336 := n5_; have BK312 := n6_; have BK329 := n7_; have HB := n8_; clear n0_ n1_ n2_ n3_ n4_ n5_ n6_ n7_ n8_; (try clear hb); (try clear hb2); (try clear hk); (try clear hi); (try clear ho0); (try clear ho1)) | ((with_reducible refine gate_dst (N := 8) rfl ?_); refine box_event ?hg (N := 8) ?hd (cs := #[.int .i64 0, .slice none 0 0, .slice none 0 0]) (t := 27) ?hr ?_; (case hd => rfl); (case hg => rfl); (case hr => first | (go_simp; done) | (go_simp; rfl)); intro gb337 hg w30 hbox hb; have n0_ := Aside0.mk (Kd.R_below (uR HO317) hb); have n1_ := Aside0.mk (Kd.R_below (uR HO320) hb); have n2_ := Aside0.mk (Kd.R_below (uR HO324) hb); have n3_ := Aside0.mk (Kd.R_below (uR HO327) hb); have n4_ := Aside0.mk (Kd.R_below (uR HO333) hb); have n5_ := Aside0.mk (Kd.R_below (uR HO336) hb); have n6_ := Aside0.mk (blk_below (g := gb312) (o := .cells #[.int .i64 a0_0, .slice A0_1 l0_1.length c0_1, .slice A0_2 l0_2.length c0_2] 24 (0, 0)) (uK BK312) hb); have n7_ := Aside0.mk (blk_below (g := gb329) (o := .cells #[.int .i64 t321, .slice Ao26 t322.length co26, .slice Ao27 t325.length co27] 27 (0, 0)) (uK BK329) hb); have n8_ := Aside0.mk (below_step (by first | exact uB HB | exact uS HB (gC GE312 (gC GE329 gN))) hb); have n9_ := Aside0.mk (hbox); have n10_ := Aside0.mk ((by rw [hg]; exact (below_size (by first | exact uB HB | exact uS HB (gC GE312 (gC GE329 gN)))) : w.heap.size ≤ gb337)); have n11_ := Aside0.mk ((by rw [hg]; exact (below_size (by first | exact uB HB | exact uS HB (gC GE312 (gC GE329 gN)))) : w.heap.size ≤ gb337)); have n12_ := Aside0.mk ((by rw [hg]; exact Nat.ne_of_lt (blk_lt (g := gb312) (o := .cells #[.int .i64 a0_0, .slice A0_1 l0_1.length c0_1, .slice A0_2 l0_2.length c0_2] 24 (0, 0)) (uK BK312)) : gb312 ≠ gb337)); have n13_ := Aside0.mk ((by rw [hg]; exact Nat.ne_of_gt (blk_lt (g := gb312) (o := .cells #[.int .i64 a0_0, .slice A0_1 l0_1.length c0_1, .slice A0_2 l0_2.length c0_2] 24 (0, 0)) (uK BK312)) : gb337 ≠ gb312)); have n14_ := Aside0.mk ((by rw [hg]; exact Nat.ne_of_lt (blk_lt (g := gb329) (o := .cells #[.int .i64 t321, .slice Ao26 t322.length co26, .slice Ao27 t325.length co27] 27 (0, 0)) (uK BK329)) : gb329 ≠ gb337)); have n15_ := Aside0.mk ((by rw [hg]; exact Nat.ne_of_gt (blk_lt (g := gb329) (o := .cells #[.int .i64 t321, .slice Ao26 t322.length co26, .slice Ao27 t325.length co27] 27 (0, 0)) (uK BK329)) : gb337 ≠ gb329)); clear HO317 HO320 HO324 HO327 HO333 HO336 BK312 BK329 HB; have HO317 := n0_; have HO320 := n1_; have HO324 := n2_; have HO327 := n3_; have HO333 := n4_; have HO336 := n5_; have BK312 := n6_; have BK329 := n7_; have HB := n8_; have BK337 := n9_; have GW337 := n10_; have GE337 := n11_; have NB312_337 := n12_; have NB337_312 := n13_; have NB329_337 := n14_; have NB337_329 := n15_; clear n0_ n1_ n2_ n3_ n4_ n5_ n6_ n7_ n8_ n9_ n10_ n11_ n12_ n13_ n14_ n15_ hb hbox hg; have hnb31 := NB337_312.out; have hnc31 := NB312_337.out; have hnb32 := NB337_329.out; have hnc32 := NB329_337.out; have hcz33_0 : w30.cell? ⟨gb337, 0, none⟩ = some (.int .i64 0) := (blk_cell BK337.out 0).trans rfl; have hcz33_1 : w30.cell? ⟨gb337, 1, none⟩ = some (.slice none 0 0) := (blk_cell BK337.out 1).trans rfl; have hcz33_2 : w30.cell? ⟨gb337, 2, none⟩ = some (.slice none 0 0) := (blk_cell BK337.out 2).trans rfl; have hfz33_0 := blk_frozen BK337.out 0; have hfz33_1 := blk_frozen BK337.out 1; have hfz33_2 := blk_frozen BK337.out 2; obtain ⟨Ao34, co34, eo34⟩ := Kd.R_slice HO333.out; subst eo34; obtain ⟨Ao35, co35, eo35⟩ := Kd.R_slice HO336.out; subst eo35) | ((with_reducible refine gate_callee (f := 27) rfl ?_); refine goesL_ (some 36) rfl rfl Try.func27 (by kernel_rfl) rfl #[.agg #[.int .i64 t330, .slice Ao34 t331.length co34, .slice Ao35 t334.length co35], .string a1] rfl (by (try simp only [List.map_toArray, List.map_cons, List.map_nil]); first | done | rfl | (simp only [List.length_drop, List.length_take]; rfl)) ?_; (with_reducible refine (impl_CuckooRemove.calls k t330 _ _ t331 _ _ t334 a1 t338 t339 t342 t345 _ ?side1 ?side2 ?side3 ?side4 A13.out).mono ?_); (case side1 => refine (Kd.R_reads' (e := 9) (base := w.heap.size) (ok := fun k_ => ((((some k_ ≠ (.slice Ao35 t334.length co35 : Value).ownBlock ∧ some k_ ≠ (.slice Ao20 t315.length co20 : Value).ownBlock) ∧ some k_ ≠ (.slice Ao21 t318.length co21 : Value).ownBlock) ∧ some k_ ≠ (.slice Ao26 t322.length co26 : Value).ownBlock) ∧ some k_ ≠ (.slice Ao27 t325.length co27 : Value).ownBlock)) (n := t331.length) (c := co34) ?_).2.2; exact (by (with_reducible repeat (first | apply Kd.R_alloc | apply Kd.R_drewN | apply Kd.R_drew)); exact (Kd.R_mono (Kd.R_far (p := ⟨gb337, 2, none⟩) (Kd.R_far (p := ⟨gb337, 1, none⟩) (Kd.R_far (p := ⟨gb337, 0, none⟩) (Kd.R_types HO333.out BK337.out (by decide)) (fun _ hk => hk.2) (.int .i64 t330)) (fun _ hk => hk.2) (.slice Ao34 t331.length co34)) (fun _ hk => hk.2) (.slice Ao35 t334.length co35)) (fun _ h_ => h_.1)))); (case side2 => exact (Kd.R_reads' HO333.out).2.1); (case side3 => refine (Kd.R_reads' (e := 9) (base := w.heap.size) (ok := fun k_ => ((((some k_ ≠ (.slice Ao34 t331.length co34 : Value).ownBlock ∧ some k_ ≠ (.slice Ao20 t315.length co20 : Value).ownBlock) ∧ some k_ ≠ (.slice Ao21 t318.length co21 : Value).ownBlock) ∧ some k_ ≠ (.slice Ao26 t322.length co26 : Value).ownBlock) ∧ some k_ ≠ (.slice Ao27 t325.length co27 : Value).ownBlock)) (n := t334.length) (c := co35) ?_).2.2; exact (by (with_reducible repeat (first | apply Kd.R_alloc | apply Kd.R_drewN | apply Kd.R_drew)); exact (Kd.R_mono (Kd.R_far (p := ⟨gb337, 2, none⟩) (Kd.R_far (p := ⟨gb337, 1, none⟩) (Kd.R_far (p := ⟨gb337, 0, none⟩) (Kd.R_types HO336.out BK337.out (by decide)) (fun _ hk => hk.2) (.int .i64 t330)) (fun _ hk => hk.2) (.slice Ao34 t331.length co34)) (fun _ hk => hk.2) (.slice Ao35 t334.length co35)) (fun _ h_ => h_.1)))); (case side4 => exact (Kd.R_reads' HO336.out).2.1); rintro e w36 ⟨v340, v343, rfl, ho0, ho1, hb⟩; refine ⟨_, rfl, ?_⟩; have n0_ := Aside0.mk (Kd.R_mono (Kd.R_told (Kd.R_told (Kd.R_old (by (with_reducible repeat (first | apply Kd.R_alloc | apply Kd.R_drewN | apply Kd.R_drew)); exact (Kd.R_mono (Kd.R_far (p := ⟨gb337, 2, none⟩) (Kd.R_far (p := ⟨gb337, 1, none⟩) (Kd.R_far (p := ⟨gb337, 0, none⟩) (Kd.R_types HO317.out BK337.out (by decide)) (fun _ hk => hk.2) (.int .i64 t330)) (fun _ hk => hk.2) (.slice Ao34 t331.length co34)) (fun _ hk => hk.2) (.slice Ao35 t334.length co35)) (fun _ h_ => h_.1))) hb) (Kd.R_base ho0)) (Kd.R_base ho1)) (fun _ h_ => h_.1)); have n1_ := Aside0.mk (Kd.R_mono (Kd.R_told (Kd.R_told (Kd.R_old (by (with_reducible repeat (first | apply Kd.R_alloc | apply Kd.R_drewN | apply Kd.R_drew)); exact (Kd.R_mono (Kd.R_far (p := ⟨gb337, 2, none⟩) (Kd.R_far (p := ⟨gb337, 1, none⟩) (Kd.R_far (p := ⟨gb337, 0, none⟩) (Kd.R_types HO320.out BK337.out (by decide)) (fun _ hk => hk.2) (.int .i64 t330)) (fun _ hk => hk.2) (.slice Ao34 t331.length co34)) (fun _ hk => hk.2) (.slice Ao35 t334.length co35)) (fun _ h_ => h_.1))) hb) (Kd.R_base ho0)) (Kd.R_base ho1)) (fun _ h_ => h_.1)); have n2_ := Aside0.mk (Kd.R_mono (Kd.R_told (Kd.R_told (Kd.R_old (by (with_reducible repeat (first | apply Kd.R_alloc | apply Kd.R_drewN | apply Kd.R_drew)); exact (Kd.R_mono (Kd.R_far (p := ⟨gb337, 2, none⟩) (Kd.R_far (p := ⟨gb337, 1, none⟩) (Kd.R_far (p := ⟨gb337, 0, none⟩) (Kd.R_types HO324.out BK337.out (by decide)) (fun _ hk => hk.2) (.int .i64 t330)) (fun _ hk => hk.2) (.slice Ao34 t331.length co34)) (fun _ hk => hk.2) (.slice Ao35 t334.length co35)) (fun _ h_ => h_.1))) hb) (Kd.R_base ho0)) (Kd.R_base ho1)) (fun _ h_ => h_.1)); have n3_ := Aside0.mk (Kd.R_mono (Kd.R_told (Kd.R_told (Kd.R_old (by (with_reducible repeat (first | apply Kd.R_alloc | apply Kd.R_drewN | apply Kd.R_drew)); exact (Kd.R_mono (Kd.R_far (p := ⟨gb337, 2, none⟩) (Kd.R_far (p := ⟨gb337, 1, none⟩) (Kd.R_far (p := ⟨gb337, 0, none⟩) (Kd.R_types HO327.out BK337.out (by decide)) (fun _ hk => hk.2) (.int .i64 t330)) (fun _ hk => hk.2) (.slice Ao34 t331.length co34)) (fun _ hk => hk.2) (.slice Ao35 t334.length co35)) (fun _ h_ => h_.1))) hb) (Kd.R_base ho0)) (Kd.R_base ho1)) (fun _ h_ => h_.1)); have n4_ := Aside0.mk (Kd.R_mono (Kd.R_told (Kd.R_told (Kd.R_old (by (with_reducible repeat (first | apply Kd.R_alloc | apply Kd.R_drewN | apply Kd.R_drew)); exact (Kd.R_mono (Kd.R_far (p := ⟨gb337, 2, none⟩) (Kd.R_far (p := ⟨gb337, 1, none⟩) (Kd.R_far (p := ⟨gb337, 0, none⟩) (Kd.R_types HO333.out BK337.out (by decide)) (fun _ hk => hk.2) (.int .i64 t330)) (fun _ hk => hk.2) (.slice Ao34 t331.length co34)) (fun _ hk => hk.2) (.slice Ao35 t334.length co35)) (fun _ h_ => h_.1))) hb) (Kd.R_base ho0)) (Kd.R_base ho1)) (fun _ h_ => h_.1)); have n5_ := Aside0.mk (Kd.R_mono (Kd.R_told (Kd.R_told (Kd.R_old (by (with_reducible repeat (first | apply Kd.R_alloc | apply Kd.R_drewN | apply Kd.R_drew)); exact (Kd.R_mono (Kd.R_far (p := ⟨gb337, 2, none⟩) (Kd.R_far (p := ⟨gb337, 1, none⟩) (Kd.R_far (p := ⟨gb337, 0, none⟩) (Kd.R_types HO336.out BK337.out (by decide)) (fun _ hk => hk.2) (.int .i64 t330)) (fun _ hk => hk.2) (.slice Ao34 t331.length co34)) (fun _ hk => hk.2) (.slice Ao35 t334.length co35)) (fun _ h_ => h_.1))) hb) (Kd.R_base ho0)) (Kd.R_base ho1)) (fun _ h_ => h_.1)); have n6_ := Aside0.mk (Kd.R_lower (Kd.R_new' (Kd.R_new' (Kd.R_new' (Kd.R_new' (Kd.R_new' (Kd.R_new' ho0 (Kd.R_lt (by (with_reducible repeat (first | apply Kd.R_alloc | apply Kd.R_drewN | apply Kd.R_drew)); exact (Kd.R_mono (Kd.R_far (p := ⟨gb337, 2, none⟩) (Kd.R_far (p := ⟨gb337, 1, none⟩) (Kd.R_far (p := ⟨gb337, 0, none⟩) (Kd.R_types HO317.out BK337.out (by decide)) (fun _ hk => hk.2) (.int .i64 t330)) (fun _ hk => hk.2) (.slice Ao34 t331.length co34)) (fun _ hk => hk.2) (.slice Ao35 t334.length co35)) (fun _ h_ => h_.1))))) (Kd.R_lt (by (with_reducible repeat (first | apply Kd.R_alloc | apply Kd.R_drewN | apply Kd.R_drew)); exact (Kd.R_mono (Kd.R_far (p := ⟨gb337, 2, none⟩) (Kd.R_far (p := ⟨gb337, 1, none⟩) (Kd.R_far (p := ⟨gb337, 0, none⟩) (Kd.R_types HO320.out BK337.out (by decide)) (fun _ hk => hk.2) (.int .i64 t330)) (fun _ hk => hk.2) (.slice Ao34 t331.length co34)) (fun _ hk => hk.2) (.slice Ao35 t334.length co35)) (fun _ h_ => h_.1))))) (Kd.R_lt (by (with_reducible repeat (first | apply Kd.R_alloc | apply Kd.R_drewN | apply Kd.R_drew)); exact (Kd.R_mono (Kd.R_far (p := ⟨gb337, 2, none⟩) (Kd.R_far (p := ⟨gb337, 1, none⟩) (Kd.R_far (p := ⟨gb337, 0, none⟩) (Kd.R_types HO324.out BK337.out (by decide)) (fun _ hk => hk.2) (.int .i64 t330)) (fun _ hk => hk.2) (.slice Ao34 t331.length co34)) (fun _ hk => hk.2) (.slice Ao35 t334.length co35)) (fun _ h_ => h_.1))))) (Kd.R_lt (by (with_reducible repeat (first | apply Kd.R_alloc | apply Kd.R_drewN | apply Kd.R_drew)); exact (Kd.R_mono (Kd.R_far (p := ⟨gb337, 2, none⟩) (Kd.R_far (p := ⟨gb337, 1, none⟩) (Kd.R_far (p := ⟨gb337, 0, none⟩) (Kd.R_types HO327.out BK337.out (by decide)) (fun _ hk => hk.2) (.int .i64 t330)) (fun _ hk => hk.2) (.slice Ao34 t331.length co34)) (fun _ hk => hk.2) (.slice Ao35 t334.length co35)) (fun _ h_ => h_.1))))) (Kd.R_lt (by (with_reducible repeat (first | apply Kd.R_alloc | apply Kd.R_drewN | apply Kd.R_drew)); exact (Kd.R_mono (Kd.R_far (p := ⟨gb337, 2, none⟩) (Kd.R_far (p := ⟨gb337, 1, none⟩) (Kd.R_far (p := ⟨gb337, 0, none⟩) (Kd.R_types HO333.out BK337.out (by decide)) (fun _ hk => hk.2) (.int .i64 t330)) (fun _ hk => hk.2) (.slice Ao34 t331.length co34)) (fun _ hk => hk.2) (.slice Ao35 t334.length co35)) (fun _ h_ => h_.1))))) (Kd.R_lt (by (with_reducible repeat (first | apply Kd.R_alloc | apply Kd.R_drewN | apply Kd.R_drew)); exact (Kd.R_mono (Kd.R_far (p := ⟨gb337, 2, none⟩) (Kd.R_far (p := ⟨gb337, 1, none⟩) (Kd.R_far (p := ⟨gb337, 0, none⟩) (Kd.R_types HO336.out BK337.out (by decide)) (fun _ hk => hk.2) (.int .i64 t330)) (fun _ hk => hk.2) (.slice Ao34 t331.length co34)) (fun _ hk => hk.2) (.slice Ao35 t334.length co35)) (fun _ h_ => h_.1))))) (below_size (by first | exact uB HB | exact uS HB (gC GE312 (gC GE329 (gC GE337 gN)))))); have n7_ := Aside0.mk (Kd.R_lower (Kd.R_new' (Kd.R_new' (Kd.R_new' (Kd.R_new' (Kd.R_new' (Kd.R_new' ho1 (Kd.R_lt (by (with_reducible repeat (first | apply Kd.R_alloc | apply Kd.R_drewN | apply Kd.R_drew)); exact (Kd.R_mono (Kd.R_far (p := ⟨gb337, 2, none⟩) (Kd.R_far (p := ⟨gb337, 1, none⟩) (Kd.R_far (p := ⟨gb337, 0, none⟩) (Kd.R_types HO317.out BK337.out (by decide)) (fun _ hk => hk.2) (.int .i64 t330)) (fun _ hk => hk.2) (.slice Ao34 t331.length co34)) (fun _ hk => hk.2) (.slice Ao35 t334.length co35)) (fun _ h_ => h_.1))))) (Kd.R_lt (by (with_reducible repeat (first | apply Kd.R_alloc | apply Kd.R_drewN | apply Kd.R_drew)); exact (Kd.R_mono (Kd.R_far (p := ⟨gb337, 2, none⟩) (Kd.R_far (p := ⟨gb337, 1, none⟩) (Kd.R_far (p := ⟨gb337, 0, none⟩) (Kd.R_types HO320.out BK337.out (by decide)) (fun _ hk => hk.2) (.int .i64 t330)) (fun _ hk => hk.2) (.slice Ao34 t331.length co34)) (fun _ hk => hk.2) (.slice Ao35 t334.length co35)) (fun _ h_ => h_.1))))) (Kd.R_lt (by (with_reducible repeat (first | apply Kd.R_alloc | apply Kd.R_drewN | apply Kd.R_drew)); exact (Kd.R_mono (Kd.R_far (p := ⟨gb337, 2, none⟩) (Kd.R_far (p := ⟨gb337, 1, none⟩) (Kd.R_far (p := ⟨gb337, 0, none⟩) (Kd.R_types HO324.out BK337.out (by decide)) (fun _ hk => hk.2) (.int .i64 t330)) (fun _ hk => hk.2) (.slice Ao34 t331.length co34)) (fun _ hk => hk.2) (.slice Ao35 t334.length co35)) (fun _ h_ => h_.1))))) (Kd.R_lt (by (with_reducible repeat (first | apply Kd.R_alloc | apply Kd.R_drewN | apply Kd.R_drew)); exact (Kd.R_mono (Kd.R_far (p := ⟨gb337, 2, none⟩) (Kd.R_far (p := ⟨gb337, 1, none⟩) (Kd.R_far (p := ⟨gb337, 0, none⟩) (Kd.R_types HO327.out BK337.out (by decide)) (fun _ hk => hk.2) (.int .i64 t330)) (fun _ hk => hk.2) (.slice Ao34 t331.length co34)) (fun _ hk => hk.2) (.slice Ao35 t334.length co35)) (fun _ h_ => h_.1))))) (Kd.R_lt (by (with_reducible repeat (first | apply Kd.R_alloc | apply Kd.R_drewN | apply Kd.R_drew)); exact (Kd.R_mono (Kd.R_far (p := ⟨gb337, 2, none⟩) (Kd.R_far (p := ⟨gb337, 1, none⟩) (Kd.R_far (p := ⟨gb337, 0, none⟩) (Kd.R_types HO333.out BK337.out (by decide)) (fun _ hk => hk.2) (.int .i64 t330)) (fun _ hk => hk.2) (.slice Ao34 t331.length co34)) (fun _ hk => hk.2) (.slice Ao35 t334.length co35)) (fun _ h_ => h_.1))))) (Kd.R_lt (by (with_reducible repeat (first | apply Kd.R_alloc | apply Kd.R_drewN | apply Kd.R_drew)); exact (Kd.R_mono (Kd.R_far (p := ⟨gb337, 2, none⟩) (Kd.R_far (p := ⟨gb337, 1, none⟩) (Kd.R_far (p := ⟨gb337, 0, none⟩) (Kd.R_types HO336.out BK337.out (by decide)) (fun _ hk => hk.2) (.int .i64 t330)) (fun _ hk => hk.2) (.slice Ao34 t331.length co34)) (fun _ hk => hk.2) (.slice Ao35 t334.length co35)) (fun _ h_ => h_.1))))) (below_size (by first | exact uB HB | exact uS HB (gC GE312 (gC GE329 (gC GE337 gN)))))); have n8_ := Aside0.mk (blk_below (g := gb312) (o := .cells #[.int .i64 a0_0, .slice A0_1 l0_1.length c0_1, .slice A0_2 l0_2.length c0_2] 24 (0, 0)) (by refine uW ?_; refine blk_far ?_ NB312_337.out _; refine uW ?_; refine blk_far ?_ NB312_337.out _; refine uW ?_; refine blk_far ?_ NB312_337.out _; refine uW ?_; exact BK312.out) hb); have n9_ := Aside0.mk (blk_below (g := gb329) (o := .cells #[.int .i64 t321, .slice Ao26 t322.length co26, .slice Ao27 t325.length co27] 27 (0, 0)) (by refine uW ?_; refine blk_far ?_ NB329_337.out _; refine uW ?_; refine blk_far ?_ NB329_337.out _; refine uW ?_; refine blk_far ?_ NB329_337.out _; refine uW ?_; exact BK329.out) hb); have n10_ := Aside0.mk (blk_below (g := gb337) (o := .cells #[.int .i64 t330, .slice Ao34 t331.length co34, .slice Ao35 t334.length co35] 27 (0, 0)) (by refine uW ?_; refine blk_put (cs := #[.int .i64 t330, .slice Ao34 t331.length co34, .slice none 0 0]) ?_ 2 _ rfl; refine uW ?_; refine blk_put (cs := #[.int .i64 t330, .slice none 0 0, .slice none 0 0]) ?_ 1 _ rfl; refine uW ?_; refine blk_put (cs := #[.int .i64 0, .slice none 0 0, .slice none 0 0]) ?_ 0 _ rfl; refine uW ?_; exact BK337.out) hb); have n11_ := Aside0.mk (below_step (by first | exact uB HB | exact uS HB (gC GE312 (gC GE329 (gC GE337 gN)))) hb); clear HO317 HO320 HO324 HO327 HO333 HO336 BK312 BK329 BK337 HB; have HO317 := n0_; have HO320 := n1_; have HO324 := n2_; have HO327 := n3_; have HO333 := n4_; have HO336 := n5_; have HO341 := n6_; have HO344 := n7_; have BK312 := n8_; have BK329 := n9_; have BK337 := n10_; have HB := n11_; clear n0_ n1_ n2_ n3_ n4_ n5_ n6_ n7_ n8_ n9_ n10_ n11_; (try clear hb); (try clear hb2); (try clear hk); (try clear hi); (try clear ho0); (try clear ho1)) | ((with_reducible refine gate_dst (N := 9) rfl ?_); refine box_event ?hg (N := 9) ?hd (cs := #[.int .i64 0, .slice none 0 0, .slice none 0 0]) (t := 27) ?hr ?_; (case hd => rfl); (case hg => rfl); (case hr => first | (go_simp; done) | (go_simp; rfl)); intro gb346 hg w37 hbox hb; have n0_ := Aside0.mk (Kd.R_below (uR HO317) hb); have n1_ := Aside0.mk (Kd.R_below (uR HO320) hb); have n2_ := Aside0.mk (Kd.R_below (uR HO324) hb); have n3_ := Aside0.mk (Kd.R_below (uR HO327) hb); have n4_ := Aside0.mk (Kd.R_below (uR HO333) hb); have n5_ := Aside0.mk (Kd.R_below (uR HO336) hb); have n6_ := Aside0.mk (Kd.R_below (uR HO341) hb); have n7_ := Aside0.mk (Kd.R_below (uR HO344) hb); have n8_ := Aside0.mk (blk_below (g := gb312) (o := .cells #[.int .i64 a0_0, .slice A0_1 l0_1.length c0_1, .slice A0_2 l0_2.length c0_2] 24 (0, 0)) (uK BK312) hb); have n9_ := Aside0.mk (blk_below (g := gb329) (o := .cells #[.int .i64 t321, .slice Ao26 t322.length co26, .slice Ao27 t325.length co27] 27 (0, 0)) (uK BK329) hb); have n10_ := Aside0.mk (blk_below (g := gb337) (o := .cells #[.int .i64 t330, .slice Ao34 t331.length co34, .slice Ao35 t334.length co35] 27 (0, 0)) (uK BK337) hb); have n11_ := Aside0.mk (below_step (by first | exact uB HB | exact uS HB (gC GE312 (gC GE329 (gC GE337 gN)))) hb); have n12_ := Aside0.mk (hbox); have n13_ := Aside0.mk ((by rw [hg]; exact (below_size (by first | exact uB HB | exact uS HB (gC GE312 (gC GE329 (gC GE337 gN))))) : w.heap.size ≤ gb346)); have n14_ := Aside0.mk ((by rw [hg]; exact (below_size (by first | exact uB HB | exact uS HB (gC GE312 (gC GE329 (gC GE337 gN))))) : w.heap.size ≤ gb346)); have n15_ := Aside0.mk ((by rw [hg]; exact Nat.ne_of_lt (blk_lt (g := gb312) (o := .cells #[.int .i64 a0_0, .slice A0_1 l0_1.length c0_1, .slice A0_2 l0_2.length c0_2] 24 (0, 0)) (uK BK312)) : gb312 ≠ gb346)); have n16_ := Aside0.mk ((by rw [hg]; exact Nat.ne_of_gt (blk_lt (g := gb312) (o := .cells #[.int .i64 a0_0, .slice A0_1 l0_1.length c0_1, .slice A0_2 l0_2.length c0_2] 24 (0, 0)) (uK BK312)) : gb346 ≠ gb312)); have n17_ := Aside0.mk ((by rw [hg]; exact Nat.ne_of_lt (blk_lt (g := gb329) (o := .cells #[.int .i64 t321, .slice Ao26 t322.length co26, .slice Ao27 t325.length co27] 27 (0, 0)) (uK BK329)) : gb329 ≠ gb346)); have n18_ := Aside0.mk ((by rw [hg]; exact Nat.ne_of_gt (blk_lt (g := gb329) (o := .cells #[.int .i64 t321, .slice Ao26 t322.length co26, .slice Ao27 t325.length co27] 27 (0, 0)) (uK BK329)) : gb346 ≠ gb329)); have n19_ := Aside0.mk ((by rw [hg]; exact Nat.ne_of_lt (blk_lt (g := gb337) (o := .cells #[.int .i64 t330, .slice Ao34 t331.length co34, .slice Ao35 t334.length co35] 27 (0, 0)) (uK BK337)) : gb337 ≠ gb346)); have n20_ := Aside0.mk ((by rw [hg]; exact Nat.ne_of_gt (blk_lt (g := gb337) (o := .cells #[.int .i64 t330, .slice Ao34 t331.length co34, .slice Ao35 t334.length co35] 27 (0, 0)) (uK BK337)) : gb346 ≠ gb337)); clear HO317 HO320 HO324 HO327 HO333 HO336 HO341 HO344 BK312 BK329 BK337 HB; have HO317 := n0_; have HO320 := n1_; have HO324 := n2_; have HO327 := n3_; have HO333 := n4_; have HO336 := n5_; have HO341 := n6_; have HO344 := n7_; have BK312 := n8_; have BK329 := n9_; have BK337 := n10_; have HB := n11_; have BK346 := n12_; have GW346 := n13_; have GE346 := n14_; have NB312_346 := n15_; have NB346_312 := n16_; have NB329_346 := n17_; have NB346_329 := n18_; have NB337_346 := n19_; have NB346_337 := n20_; clear n0_ n1_ n2_ n3_ n4_ n5_ n6_ n7_ n8_ n9_ n10_ n11_ n12_ n13_ n14_ n15_ n16_ n17_ n18_ n19_ n20_ hb hbox hg; have hnb38 := NB346_312.out; have hnc38 := NB312_346.out; have hnb39 := NB346_329.out; have hnc39 := NB329_346.out; have hnb40 := NB346_337.out; have hnc40 := NB337_346.out; have hcz41_0 : w37.cell? ⟨gb346, 0, none⟩ = some (.int .i64 0) := (blk_cell BK346.out 0).trans rfl; have hcz41_1 : w37.cell? ⟨gb346, 1, none⟩ = some (.slice none 0 0) := (blk_cell BK346.out 1).trans rfl; have hcz41_2 : w37.cell? ⟨gb346, 2, none⟩ = some (.slice none 0 0) := (blk_cell BK346.out 2).trans rfl; have hfz41_0 := blk_frozen BK346.out 0; have hfz41_1 := blk_frozen BK346.out 1; have hfz41_2 := blk_frozen BK346.out 2; obtain ⟨Ao42, co42, eo42⟩ := Kd.R_slice HO341.out; subst eo42; obtain ⟨Ao43, co43, eo43⟩ := Kd.R_slice HO344.out; subst eo43))
   (try simp only [Act.put, List.setIfInBounds_toArray, List.set_cons_zero, List.set_cons_succ])
   go_cut [47] (fun v47 wc => ∃ (kq : Nat) (x47_13 : Bool), v47 = .bool x47_13 ∧ Aside0 (laws_FnExactCuckooRemove.j0 kq a1 t328 t345 x47_13 a0_0 l0_1 l0_2 t321 t322 t325 t330 t331 t334 t338 t339 t342 = some r) ∧ Aside0 (kq ≤ k) ∧ Aside0 (Kd.R Kd.string 9 wc w.heap.size (fun k_ => some k_ ≠ ((.slice Ao27 t325.length co27) : Value).ownBlock ∧ some k_ ≠ ((.slice Ao34 t331.length co34) : Value).ownBlock ∧ some k_ ≠ ((.slice Ao35 t334.length co35) : Value).ownBlock ∧ some k_ ≠ ((.slice Ao42 t339.length co42) : Value).ownBlock ∧ some k_ ≠ ((.slice Ao43 t342.length co43) : Value).ownBlock) (.slice Ao26 t322.length co26) t322) ∧ Aside0 (Kd.R Kd.string 9 wc w.heap.size (fun k_ => some k_ ≠ ((.slice Ao26 t322.length co26) : Value).ownBlock ∧ some k_ ≠ ((.slice Ao34 t331.length co34) : Value).ownBlock ∧ some k_ ≠ ((.slice Ao35 t334.length co35) : Value).ownBlock ∧ some k_ ≠ ((.slice Ao42 t339.length co42) : Value).ownBlock ∧ some k_ ≠ ((.slice Ao43 t342.length co43) : Value).ownBlock) (.slice Ao27 t325.length co27) t325) ∧ Aside0 (Kd.R Kd.string 9 wc w.heap.size (fun k_ => some k_ ≠ ((.slice Ao26 t322.length co26) : Value).ownBlock ∧ some k_ ≠ ((.slice Ao27 t325.length co27) : Value).ownBlock ∧ some k_ ≠ ((.slice Ao35 t334.length co35) : Value).ownBlock ∧ some k_ ≠ ((.slice Ao42 t339.length co42) : Value).ownBlock ∧ some k_ ≠ ((.slice Ao43 t342.length co43) : Value).ownBlock) (.slice Ao34 t331.length co34) t331) ∧ Aside0 (Kd.R Kd.string 9 wc w.heap.size (fun k_ => some k_ ≠ ((.slice Ao26 t322.length co26) : Value).ownBlock ∧ some k_ ≠ ((.slice Ao27 t325.length co27) : Value).ownBlock ∧ some k_ ≠ ((.slice Ao34 t331.length co34) : Value).ownBlock ∧ some k_ ≠ ((.slice Ao42 t339.length co42) : Value).ownBlock ∧ some k_ ≠ ((.slice Ao43 t342.length co43) : Value).ownBlock) (.slice Ao35 t334.length co35) t334) ∧ Aside0 (Kd.R Kd.string 9 wc w.heap.size (fun k_ => some k_ ≠ ((.slice Ao26 t322.length co26) : Value).ownBlock ∧ some k_ ≠ ((.slice Ao27 t325.length co27) : Value).ownBlock ∧ some k_ ≠ ((.slice Ao34 t331.length co34) : Value).ownBlock ∧ some k_ ≠ ((.slice Ao35 t334.length co35) : Value).ownBlock ∧ some k_ ≠ ((.slice Ao43 t342.length co43) : Value).ownBlock) (.slice Ao42 t339.length co42) t339) ∧ Aside0 (Kd.R Kd.string 9 wc w.heap.size (fun k_ => some k_ ≠ ((.slice Ao26 t322.length co26) : Value).ownBlock ∧ some k_ ≠ ((.slice Ao27 t325.length co27) : Value).ownBlock ∧ some k_ ≠ ((.slice Ao34 t331.length co34) : Value).ownBlock ∧ some k_ ≠ ((.slice Ao35 t334.length co35) : Value).ownBlock ∧ some k_ ≠ ((.slice Ao42 t339.length co42) : Value).ownBlock) (.slice Ao43 t342.length co43) t342) ∧ Aside0 (wc.heap[gb312]? = some (.cells #[.int .i64 a0_0, (.slice A0_1 l0_1.length c0_1), (.slice A0_2 l0_2.length c0_2)] 24 (0, 0))) ∧ Aside0 (wc.heap[gb329]? = some (.cells #[.int .i64 t321, (.slice Ao26 t322.length co26), (.slice Ao27 t325.length co27)] 27 (0, 0))) ∧ Aside0 (wc.heap[gb337]? = some (.cells #[.int .i64 t330, (.slice Ao34 t331.length co34), (.slice Ao35 t334.length co35)] 27 (0, 0))) ∧ Aside0 (wc.heap[gb346]? = some (.cells #[.int .i64 t338, (.slice Ao42 t339.length co42), (.slice Ao43 t342.length co43)] 27 (0, 0))) ∧ Aside0 (Below w.heap.size w wc))
   case first =>
    have H := HC14.out
    clear HC14
    replace H := Option.bind_eq_some_iff.mp H
    obtain ⟨t347, A440, H⟩ := H
    replace H : (if t347 = true then (laws_FnExactCuckooRemove.j0 k a1 t328 t345 (t345 != t328) a0_0 l0_1 l0_2 t321 t322 t325 t330 t331 t334 t338 t339 t342) else (laws_FnExactCuckooRemove.j0 k a1 t328 t345 true a0_0 l0_1 l0_2 t321 t322 t325 t330 t331 t334 t338 t339 t342)) = some r := H
    have A44 := Aside0.mk A440
    clear A440
    by_cases c45 : t347 = true
    ·
     subst c45
     have H1 : (laws_FnExactCuckooRemove.j0 k a1 t328 t345 (t345 != t328) a0_0 l0_1 l0_2 t321 t322 t325 t330 t331 t334 t338 t339 t342) = some r := by rw [if_pos rfl] at H; exact H
     clear H
     have H := H1
     clear H1
     have H' := Aside0.mk H
     clear H
     have hnb46 := NB346_312.out
     have hnc46 := NB312_346.out
     have hnb47 := NB346_329.out
     have hnc47 := NB329_346.out
     have hnb48 := NB346_337.out
     have hnc48 := NB337_346.out
     have hcz49_0 : w37.cell? ⟨gb346, 0, none⟩ = some (.int .i64 0) := (blk_cell BK346.out 0).trans rfl
     have hcz49_1 : w37.cell? ⟨gb346, 1, none⟩ = some (.slice none 0 0) := (blk_cell BK346.out 1).trans rfl
     have hcz49_2 : w37.cell? ⟨gb346, 2, none⟩ = some (.slice none 0 0) := (blk_cell BK346.out 2).trans rfl
     have hfz49_0 := blk_frozen BK346.out 0
     have hfz49_1 := blk_frozen BK346.out 1
     have hfz49_2 := blk_frozen BK346.out 2
     have hnb50 := NB329_312.out
     have hnc50 := NB312_329.out
     have hnb51 := NB329_337.out
     have hnc51 := NB337_329.out
     have hcz52_0 : w37.cell? ⟨gb329, 0, none⟩ = some (.int .i64 t321) := (blk_cell BK329.out 0).trans rfl
     have hcz52_1 : w37.cell? ⟨gb329, 1, none⟩ = some (.slice Ao26 t322.length co26) := (blk_cell BK329.out 1).trans rfl
     have hcz52_2 : w37.cell? ⟨gb329, 2, none⟩ = some (.slice Ao27 t325.length co27) := (blk_cell BK329.out 2).trans rfl
     have hfz52_0 := blk_frozen BK329.out 0
     have hfz52_1 := blk_frozen BK329.out 1
     have hfz52_2 := blk_frozen BK329.out 2
     go_wp2_with (first | ((with_reducible refine gate_callee (f := 14) rfl ?_); refine goesL_ (some 41) rfl rfl Try.func14 (by kernel_rfl) rfl #[.agg #[.int .i64 t338, .slice Ao42 t339.length co42, .slice Ao43 t342.length co43], .agg #[.int .i64 t321, .slice Ao26 t322.length co26, .slice Ao27 t325.length co27]] rfl (by (try simp only [List.map_toArray, List.map_cons, List.map_nil]); first | done | rfl | (simp only [List.length_drop, List.length_take]; rfl)) ?_; (with_reducible refine (laws_eqCuckoo.calls k t338 _ _ t339 _ _ t342 t321 _ _ t322 _ _ t325 true _ ?side1 ?side2 ?side3 ?side4 ?side5 ?side6 ?side7 ?side8 A44.out).mono ?_); (case side1 => refine (Kd.R_reads' (e := 9) (base := w.heap.size) (ok := fun k_ => ((((((some k_ ≠ (.slice Ao43 t342.length co43 : Value).ownBlock ∧ some k_ ≠ (.slice Ao20 t315.length co20 : Value).ownBlock) ∧ some k_ ≠ (.slice Ao21 t318.length co21 : Value).ownBlock) ∧ some k_ ≠ (.slice Ao26 t322.length co26 : Value).ownBlock) ∧ some k_ ≠ (.slice Ao27 t325.length co27 : Value).ownBlock) ∧ some k_ ≠ (.slice Ao34 t331.length co34 : Value).ownBlock) ∧ some k_ ≠ (.slice Ao35 t334.length co35 : Value).ownBlock)) (n := t339.length) (c := co42) ?_).2.2; exact (by (with_reducible repeat (first | apply Kd.R_alloc | apply Kd.R_drewN | apply Kd.R_drew)); exact (Kd.R_mono (Kd.R_far (p := ⟨gb346, 2, none⟩) (Kd.R_far (p := ⟨gb346, 1, none⟩) (Kd.R_far (p := ⟨gb346, 0, none⟩) (Kd.R_types HO341.out BK346.out (by decide)) (fun _ hk => hk.2) (.int .i64 t338)) (fun _ hk => hk.2) (.slice Ao42 t339.length co42)) (fun _ hk => hk.2) (.slice Ao43 t342.length co43)) (fun _ h_ => h_.1)))); (case side2 => exact (Kd.R_reads' HO341.out).2.1); (case side3 => refine (Kd.R_reads' (e := 9) (base := w.heap.size) (ok := fun k_ => ((((((some k_ ≠ (.slice Ao42 t339.length co42 : Value).ownBlock ∧ some k_ ≠ (.slice Ao20 t315.length co20 : Value).ownBlock) ∧ some k_ ≠ (.slice Ao21 t318.length co21 : Value).ownBlock) ∧ some k_ ≠ (.slice Ao26 t322.length co26 : Value).ownBlock) ∧ some k_ ≠ (.slice Ao27 t325.length co27 : Value).ownBlock) ∧ some k_ ≠ (.slice Ao34 t331.length co34 : Value).ownBlock) ∧ some k_ ≠ (.slice Ao35 t334.length co35 : Value).ownBlock)) (n := t342.length) (c := co43) ?_).2.2; exact (by (with_reducible repeat (first | apply Kd.R_alloc | apply Kd.R_drewN | apply Kd.R_drew)); exact (Kd.R_mono (Kd.R_far (p := ⟨gb346, 2, none⟩) (Kd.R_far (p := ⟨gb346, 1, none⟩) (Kd.R_far (p := ⟨gb346, 0, none⟩) (Kd.R_types HO344.out BK346.out (by decide)) (fun _ hk => hk.2) (.int .i64 t338)) (fun _ hk => hk.2) (.slice Ao42 t339.length co42)) (fun _ hk => hk.2) (.slice Ao43 t342.length co43)) (fun _ h_ => h_.1)))); (case side4 => exact (Kd.R_reads' HO344.out).2.1); (case side5 => refine (Kd.R_reads' (e := 9) (base := w.heap.size) (ok := fun k_ => ((((((some k_ ≠ (.slice Ao27 t325.length co27 : Value).ownBlock ∧ some k_ ≠ (.slice Ao20 t315.length co20 : Value).ownBlock) ∧ some k_ ≠ (.slice Ao21 t318.length co21 : Value).ownBlock) ∧ some k_ ≠ (.slice Ao34 t331.length co34 : Value).ownBlock) ∧ some k_ ≠ (.slice Ao35 t334.length co35 : Value).ownBlock) ∧ some k_ ≠ (.slice Ao42 t339.length co42 : Value).ownBlock) ∧ some k_ ≠ (.slice Ao43 t342.length co43 : Value).ownBlock)) (n := t322.length) (c := co26) ?_).2.2; exact (by (with_reducible repeat (first | apply Kd.R_alloc | apply Kd.R_drewN | apply Kd.R_drew)); exact (Kd.R_mono (Kd.R_far (p := ⟨gb346, 2, none⟩) (Kd.R_far (p := ⟨gb346, 1, none⟩) (Kd.R_far (p := ⟨gb346, 0, none⟩) (Kd.R_types HO324.out BK346.out (by decide)) (fun _ hk => hk.2) (.int .i64 t338)) (fun _ hk => hk.2) (.slice Ao42 t339.length co42)) (fun _ hk => hk.2) (.slice Ao43 t342.length co43)) (fun _ h_ => h_.1)))); (case side6 => exact (Kd.R_reads' HO324.out).2.1); (case side7 => refine (Kd.R_reads' (e := 9) (base := w.heap.size) (ok := fun k_ => ((((((some k_ ≠ (.slice Ao26 t322.length co26 : Value).ownBlock ∧ some k_ ≠ (.slice Ao20 t315.length co20 : Value).ownBlock) ∧ some k_ ≠ (.slice Ao21 t318.length co21 : Value).ownBlock) ∧ some k_ ≠ (.slice Ao34 t331.length co34 : Value).ownBlock) ∧ some k_ ≠ (.slice Ao35 t334.length co35 : Value).ownBlock) ∧ some k_ ≠ (.slice Ao42 t339.length co42 : Value).ownBlock) ∧ some k_ ≠ (.slice Ao43 t342.length co43 : Value).ownBlock)) (n := t325.length) (c := co27) ?_).2.2; exact (by (with_reducible repeat (first | apply Kd.R_alloc | apply Kd.R_drewN | apply Kd.R_drew)); exact (Kd.R_mono (Kd.R_far (p := ⟨gb346, 2, none⟩) (Kd.R_far (p := ⟨gb346, 1, none⟩) (Kd.R_far (p := ⟨gb346, 0, none⟩) (Kd.R_types HO327.out BK346.out (by decide)) (fun _ hk => hk.2) (.int .i64 t338)) (fun _ hk => hk.2) (.slice Ao42 t339.length co42)) (fun _ hk => hk.2) (.slice Ao43 t342.length co43)) (fun _ h_ => h_.1)))); (case side8 => exact (Kd.R_reads' HO327.out).2.1); rintro e w53 ⟨rfl, hb⟩; refine ⟨_, rfl, ?_⟩; have n0_ := Aside0.mk (Kd.R_below (by (with_reducible repeat (first | apply Kd.R_alloc | apply Kd.R_drewN | apply Kd.R_drew)); exact (Kd.R_mono (Kd.R_far (p := ⟨gb346, 2, none⟩) (Kd.R_far (p := ⟨gb346, 1, none⟩) (Kd.R_far (p := ⟨gb346, 0, none⟩) (Kd.R_types HO317.out BK346.out (by decide)) (fun _ hk => hk.2) (.int .i64 t338)) (fun _ hk => hk.2) (.slice Ao42 t339.length co42)) (fun _ hk => hk.2) (.slice Ao43 t342.length co43)) (fun _ h_ => h_.1))) hb); have n1_ := Aside0.mk (Kd.R_below (by (with_reducible repeat (first | apply Kd.R_alloc | apply Kd.R_drewN | apply Kd.R_drew)); exact (Kd.R_mono (Kd.R_far (p := ⟨gb346, 2, none⟩) (Kd.R_far (p := ⟨gb346, 1, none⟩) (Kd.R_far (p := ⟨gb346, 0, none⟩) (Kd.R_types HO320.out BK346.out (by decide)) (fun _ hk => hk.2) (.int .i64 t338)) (fun _ hk => hk.2) (.slice Ao42 t339.length co42)) (fun _ hk => hk.2) (.slice Ao43 t342.length co43)) (fun _ h_ => h_.1))) hb); have n2_ := Aside0.mk (Kd.R_below (by (with_reducible repeat (first | apply Kd.R_alloc | apply Kd.R_drewN | apply Kd.R_drew)); exact (Kd.R_mono (Kd.R_far (p := ⟨gb346, 2, none⟩) (Kd.R_far (p := ⟨gb346, 1, none⟩) (Kd.R_far (p := ⟨gb346, 0, none⟩) (Kd.R_types HO324.out BK346.out (by decide)) (fun _ hk => hk.2) (.int .i64 t338)) (fun _ hk => hk.2) (.slice Ao42 t339.length co42)) (fun _ hk => hk.2) (.slice Ao43 t342.length co43)) (fun _ h_ => h_.1))) hb); have n3_ := Aside0.mk (Kd.R_below (by (with_reducible repeat (first | apply Kd.R_alloc | apply Kd.R_drewN | apply Kd.R_drew)); exact (Kd.R_mono (Kd.R_far (p := ⟨gb346, 2, none⟩) (Kd.R_far (p := ⟨gb346, 1, none⟩) (Kd.R_far (p := ⟨gb346, 0, none⟩) (Kd.R_types HO327.out BK346.out (by decide)) (fun _ hk => hk.2) (.int .i64 t338)) (fun _ hk => hk.2) (.slice Ao42 t339.length co42)) (fun _ hk => hk.2) (.slice Ao43 t342.length co43)) (fun _ h_ => h_.1))) hb); have n4_ := Aside0.mk (Kd.R_below (by (with_reducible repeat (first | apply Kd.R_alloc | apply Kd.R_drewN | apply Kd.R_drew)); exact (Kd.R_mono (Kd.R_far (p := ⟨gb346, 2, none⟩) (Kd.R_far (p := ⟨gb346, 1, none⟩) (Kd.R_far (p := ⟨gb346, 0, none⟩) (Kd.R_types HO333.out BK346.out (by decide)) (fun _ hk => hk.2) (.int .i64 t338)) (fun _ hk => hk.2) (.slice Ao42 t339.length co42)) (fun _ hk => hk.2) (.slice Ao43 t342.length co43)) (fun _ h_ => h_.1))) hb); have n5_ := Aside0.mk (Kd.R_below (by (with_reducible repeat (first | apply Kd.R_alloc | apply Kd.R_drewN | apply Kd.R_drew)); exact (Kd.R_mono (Kd.R_far (p := ⟨gb346, 2, none⟩) (Kd.R_far (p := ⟨gb346, 1, none⟩) (Kd.R_far (p := ⟨gb346, 0, none⟩) (Kd.R_types HO336.out BK346.out (by decide)) (fun _ hk => hk.2) (.int .i64 t338)) (fun _ hk => hk.2) (.slice Ao42 t339.length co42)) (fun _ hk => hk.2) (.slice Ao43 t342.length co43)) (fun _ h_ => h_.1))) hb); have n6_ := Aside0.mk (Kd.R_below (by (with_reducible repeat (first | apply Kd.R_alloc | apply Kd.R_drewN | apply Kd.R_drew)); exact (Kd.R_mono (Kd.R_far (p := ⟨gb346, 2, none⟩) (Kd.R_far (p := ⟨gb346, 1, none⟩) (Kd.R_far (p := ⟨gb346, 0, none⟩) (Kd.R_types HO341.out BK346.out (by decide)) (fun _ hk => hk.2) (.int .i64 t338)) (fun _ hk => hk.2) (.slice Ao42 t339.length co42)) (fun _ hk => hk.2) (.slice Ao43 t342.length co43)) (fun _ h_ => h_.1))) hb); have n7_ := Aside0.mk (Kd.R_below (by (with_reducible repeat (first | apply Kd.R_alloc | apply Kd.R_drewN | apply Kd.R_drew)); exact (Kd.R_mono (Kd.R_far (p := ⟨gb346, 2, none⟩) (Kd.R_far (p := ⟨gb346, 1, none⟩) (Kd.R_far (p := ⟨gb346, 0, none⟩) (Kd.R_types HO344.out BK346.out (by decide)) (fun _ hk => hk.2) (.int .i64 t338)) (fun _ hk => hk.2) (.slice Ao42 t339.length co42)) (fun _ hk => hk.2) (.slice Ao43 t342.length co43)) (fun _ h_ => h_.1))) hb); have n8_ := Aside0.mk (blk_below (g := gb312) (o := .cells #[.int .i64 a0_0, .slice A0_1 l0_1.length c0_1, .slice A0_2 l0_2.length c0_2] 24 (0, 0)) (by refine uW ?_; refine blk_far ?_ NB312_346.out _; refine uW ?_; refine blk_far ?_ NB312_346.out _; refine uW ?_; refine blk_far ?_ NB312_346.out _; refine uW ?_; exact BK312.out) hb); have n9_ := Aside0.mk (blk_below (g := gb329) (o := .cells #[.int .i64 t321, .slice Ao26 t322.length co26, .slice Ao27 t325.length co27] 27 (0, 0)) (by refine uW ?_; refine blk_far ?_ NB329_346.out _; refine uW ?_; refine blk_far ?_ NB329_346.out _; refine uW ?_; refine blk_far ?_ NB329_346.out _; refine uW ?_; exact BK329.out) hb); have n10_ := Aside0.mk (blk_below (g := gb337) (o := .cells #[.int .i64 t330, .slice Ao34 t331.length co34, .slice Ao35 t334.length co35] 27 (0, 0)) (by refine uW ?_; refine blk_far ?_ NB337_346.out _; refine uW ?_; refine blk_far ?_ NB337_346.out _; refine uW ?_; refine blk_far ?_ NB337_346.out _; refine uW ?_; exact BK337.out) hb); have n11_ := Aside0.mk (blk_below (g := gb346) (o := .cells #[.int .i64 t338, .slice Ao42 t339.length co42, .slice Ao43 t342.length co43] 27 (0, 0)) (by refine uW ?_; refine blk_put (cs := #[.int .i64 t338, .slice Ao42 t339.length co42, .slice none 0 0]) ?_ 2 _ rfl; refine uW ?_; refine blk_put (cs := #[.int .i64 t338, .slice none 0 0, .slice none 0 0]) ?_ 1 _ rfl; refine uW ?_; refine blk_put (cs := #[.int .i64 0, .slice none 0 0, .slice none 0 0]) ?_ 0 _ rfl; refine uW ?_; exact BK346.out) hb); have n12_ := Aside0.mk (below_step (by first | exact uB HB | exact uS HB (gC GE312 (gC GE329 (gC GE337 (gC GE346 gN))))) hb); clear HO317 HO320 HO324 HO327 HO333 HO336 HO341 HO344 BK312 BK329 BK337 BK346 HB; have HO317 := n0_; have HO320 := n1_; have HO324 := n2_; have HO327 := n3_; have HO333 := n4_; have HO336 := n5_; have HO341 := n6_; have HO344 := n7_; have BK312 := n8_; have BK329 := n9_; have BK337 := n10_; have BK346 := n11_; have HB := n12_; clear n0_ n1_ n2_ n3_ n4_ n5_ n6_ n7_ n8_ n9_ n10_ n11_ n12_; (try clear hb); (try clear hb2); (try clear hk); (try clear hi)))
     go_meet
     case rel => exact ⟨_, ((t345 != t328)), (by first | rfl | (simp; done) | (simp [*]; done)), H', ⟨by first | omega | exact Nat.le_refl _⟩, ⟨by (with_reducible repeat (first | apply Kd.R_alloc | apply Kd.R_drewN | apply Kd.R_drew)); exact Kd.R_mono HO324.out (fun _ hk => ⟨hk.1.1.1.1.1.1, ⟨hk.1.1.1.2, ⟨hk.1.1.2, ⟨hk.1.2, hk.2⟩⟩⟩⟩)⟩, ⟨by (with_reducible repeat (first | apply Kd.R_alloc | apply Kd.R_drewN | apply Kd.R_drew)); exact Kd.R_mono HO327.out (fun _ hk => ⟨hk.1.1.1.1.1.1, ⟨hk.1.1.1.2, ⟨hk.1.1.2, ⟨hk.1.2, hk.2⟩⟩⟩⟩)⟩, ⟨by (with_reducible repeat (first | apply Kd.R_alloc | apply Kd.R_drewN | apply Kd.R_drew)); exact Kd.R_mono HO333.out (fun _ hk => ⟨hk.1.1.1.2, ⟨hk.1.1.2, ⟨hk.1.1.1.1.1.1, ⟨hk.1.2, hk.2⟩⟩⟩⟩)⟩, ⟨by (with_reducible repeat (first | apply Kd.R_alloc | apply Kd.R_drewN | apply Kd.R_drew)); exact Kd.R_mono HO336.out (fun _ hk => ⟨hk.1.1.1.2, ⟨hk.1.1.2, ⟨hk.1.1.1.1.1.1, ⟨hk.1.2, hk.2⟩⟩⟩⟩)⟩, ⟨by (with_reducible repeat (first | apply Kd.R_alloc | apply Kd.R_drewN | apply Kd.R_drew)); exact Kd.R_mono HO341.out (fun _ hk => ⟨hk.1.1.1.2, ⟨hk.1.1.2, ⟨hk.1.2, ⟨hk.2, hk.1.1.1.1.1.1⟩⟩⟩⟩)⟩, ⟨by (with_reducible repeat (first | apply Kd.R_alloc | apply Kd.R_drewN | apply Kd.R_drew)); exact Kd.R_mono HO344.out (fun _ hk => ⟨hk.1.1.1.2, ⟨hk.1.1.2, ⟨hk.1.2, ⟨hk.2, hk.1.1.1.1.1.1⟩⟩⟩⟩)⟩, ⟨by refine uW ?_; exact BK312.out⟩, ⟨by refine uW ?_; exact BK329.out⟩, ⟨by refine uW ?_; exact BK337.out⟩, ⟨by refine uW ?_; exact BK346.out⟩, ⟨by first | exact uB HB | exact uS HB (gC GE312 (gC GE329 (gC GE337 (gC GE346 gN))))⟩⟩
    ·
     replace c45 := Bool.eq_false_iff.mpr c45
     subst c45
     have H1 : (laws_FnExactCuckooRemove.j0 k a1 t328 t345 true a0_0 l0_1 l0_2 t321 t322 t325 t330 t331 t334 t338 t339 t342) = some r := by rw [if_neg (show ¬ (false = true) by decide)] at H; exact H
     clear H
     have H := H1
     clear H1
     have H' := Aside0.mk H
     clear H
     have hnb54 := NB346_312.out
     have hnc54 := NB312_346.out
     have hnb55 := NB346_329.out
     have hnc55 := NB329_346.out
     have hnb56 := NB346_337.out
     have hnc56 := NB337_346.out
     have hcz57_0 : w37.cell? ⟨gb346, 0, none⟩ = some (.int .i64 0) := (blk_cell BK346.out 0).trans rfl
     have hcz57_1 : w37.cell? ⟨gb346, 1, none⟩ = some (.slice none 0 0) := (blk_cell BK346.out 1).trans rfl
     have hcz57_2 : w37.cell? ⟨gb346, 2, none⟩ = some (.slice none 0 0) := (blk_cell BK346.out 2).trans rfl
     have hfz57_0 := blk_frozen BK346.out 0
     have hfz57_1 := blk_frozen BK346.out 1
     have hfz57_2 := blk_frozen BK346.out 2
     have hnb58 := NB329_312.out
     have hnc58 := NB312_329.out
     have hnb59 := NB329_337.out
     have hnc59 := NB337_329.out
     have hcz60_0 : w37.cell? ⟨gb329, 0, none⟩ = some (.int .i64 t321) := (blk_cell BK329.out 0).trans rfl
     have hcz60_1 : w37.cell? ⟨gb329, 1, none⟩ = some (.slice Ao26 t322.length co26) := (blk_cell BK329.out 1).trans rfl
     have hcz60_2 : w37.cell? ⟨gb329, 2, none⟩ = some (.slice Ao27 t325.length co27) := (blk_cell BK329.out 2).trans rfl
     have hfz60_0 := blk_frozen BK329.out 0
     have hfz60_1 := blk_frozen BK329.out 1
     have hfz60_2 := blk_frozen BK329.out 2
     go_wp2_with (first | ((with_reducible refine gate_callee (f := 14) rfl ?_); refine goesL_ (some 41) rfl rfl Try.func14 (by kernel_rfl) rfl #[.agg #[.int .i64 t338, .slice Ao42 t339.length co42, .slice Ao43 t342.length co43], .agg #[.int .i64 t321, .slice Ao26 t322.length co26, .slice Ao27 t325.length co27]] rfl (by (try simp only [List.map_toArray, List.map_cons, List.map_nil]); first | done | rfl | (simp only [List.length_drop, List.length_take]; rfl)) ?_; (with_reducible refine (laws_eqCuckoo.calls k t338 _ _ t339 _ _ t342 t321 _ _ t322 _ _ t325 false _ ?side1 ?side2 ?side3 ?side4 ?side5 ?side6 ?side7 ?side8 A44.out).mono ?_); (case side1 => refine (Kd.R_reads' (e := 9) (base := w.heap.size) (ok := fun k_ => ((((((some k_ ≠ (.slice Ao43 t342.length co43 : Value).ownBlock ∧ some k_ ≠ (.slice Ao20 t315.length co20 : Value).ownBlock) ∧ some k_ ≠ (.slice Ao21 t318.length co21 : Value).ownBlock) ∧ some k_ ≠ (.slice Ao26 t322.length co26 : Value).ownBlock) ∧ some k_ ≠ (.slice Ao27 t325.length co27 : Value).ownBlock) ∧ some k_ ≠ (.slice Ao34 t331.length co34 : Value).ownBlock) ∧ some k_ ≠ (.slice Ao35 t334.length co35 : Value).ownBlock)) (n := t339.length) (c := co42) ?_).2.2; exact (by (with_reducible repeat (first | apply Kd.R_alloc | apply Kd.R_drewN | apply Kd.R_drew)); exact (Kd.R_mono (Kd.R_far (p := ⟨gb346, 2, none⟩) (Kd.R_far (p := ⟨gb346, 1, none⟩) (Kd.R_far (p := ⟨gb346, 0, none⟩) (Kd.R_types HO341.out BK346.out (by decide)) (fun _ hk => hk.2) (.int .i64 t338)) (fun _ hk => hk.2) (.slice Ao42 t339.length co42)) (fun _ hk => hk.2) (.slice Ao43 t342.length co43)) (fun _ h_ => h_.1)))); (case side2 => exact (Kd.R_reads' HO341.out).2.1); (case side3 => refine (Kd.R_reads' (e := 9) (base := w.heap.size) (ok := fun k_ => ((((((some k_ ≠ (.slice Ao42 t339.length co42 : Value).ownBlock ∧ some k_ ≠ (.slice Ao20 t315.length co20 : Value).ownBlock) ∧ some k_ ≠ (.slice Ao21 t318.length co21 : Value).ownBlock) ∧ some k_ ≠ (.slice Ao26 t322.length co26 : Value).ownBlock) ∧ some k_ ≠ (.slice Ao27 t325.length co27 : Value).ownBlock) ∧ some k_ ≠ (.slice Ao34 t331.length co34 : Value).ownBlock) ∧ some k_ ≠ (.slice Ao35 t334.length co35 : Value).ownBlock)) (n := t342.length) (c := co43) ?_).2.2; exact (by (with_reducible repeat (first | apply Kd.R_alloc | apply Kd.R_drewN | apply Kd.R_drew)); exact (Kd.R_mono (Kd.R_far (p := ⟨gb346, 2, none⟩) (Kd.R_far (p := ⟨gb346, 1, none⟩) (Kd.R_far (p := ⟨gb346, 0, none⟩) (Kd.R_types HO344.out BK346.out (by decide)) (fun _ hk => hk.2) (.int .i64 t338)) (fun _ hk => hk.2) (.slice Ao42 t339.length co42)) (fun _ hk => hk.2) (.slice Ao43 t342.length co43)) (fun _ h_ => h_.1)))); (case side4 => exact (Kd.R_reads' HO344.out).2.1); (case side5 => refine (Kd.R_reads' (e := 9) (base := w.heap.size) (ok := fun k_ => ((((((some k_ ≠ (.slice Ao27 t325.length co27 : Value).ownBlock ∧ some k_ ≠ (.slice Ao20 t315.length co20 : Value).ownBlock) ∧ some k_ ≠ (.slice Ao21 t318.length co21 : Value).ownBlock) ∧ some k_ ≠ (.slice Ao34 t331.length co34 : Value).ownBlock) ∧ some k_ ≠ (.slice Ao35 t334.length co35 : Value).ownBlock) ∧ some k_ ≠ (.slice Ao42 t339.length co42 : Value).ownBlock) ∧ some k_ ≠ (.slice Ao43 t342.length co43 : Value).ownBlock)) (n := t322.length) (c := co26) ?_).2.2; exact (by (with_reducible repeat (first | apply Kd.R_alloc | apply Kd.R_drewN | apply Kd.R_drew)); exact (Kd.R_mono (Kd.R_far (p := ⟨gb346, 2, none⟩) (Kd.R_far (p := ⟨gb346, 1, none⟩) (Kd.R_far (p := ⟨gb346, 0, none⟩) (Kd.R_types HO324.out BK346.out (by decide)) (fun _ hk => hk.2) (.int .i64 t338)) (fun _ hk => hk.2) (.slice Ao42 t339.length co42)) (fun _ hk => hk.2) (.slice Ao43 t342.length co43)) (fun _ h_ => h_.1)))); (case side6 => exact (Kd.R_reads' HO324.out).2.1); (case side7 => refine (Kd.R_reads' (e := 9) (base := w.heap.size) (ok := fun k_ => ((((((some k_ ≠ (.slice Ao26 t322.length co26 : Value).ownBlock ∧ some k_ ≠ (.slice Ao20 t315.length co20 : Value).ownBlock) ∧ some k_ ≠ (.slice Ao21 t318.length co21 : Value).ownBlock) ∧ some k_ ≠ (.slice Ao34 t331.length co34 : Value).ownBlock) ∧ some k_ ≠ (.slice Ao35 t334.length co35 : Value).ownBlock) ∧ some k_ ≠ (.slice Ao42 t339.length co42 : Value).ownBlock) ∧ some k_ ≠ (.slice Ao43 t342.length co43 : Value).ownBlock)) (n := t325.length) (c := co27) ?_).2.2; exact (by (with_reducible repeat (first | apply Kd.R_alloc | apply Kd.R_drewN | apply Kd.R_drew)); exact (Kd.R_mono (Kd.R_far (p := ⟨gb346, 2, none⟩) (Kd.R_far (p := ⟨gb346, 1, none⟩) (Kd.R_far (p := ⟨gb346, 0, none⟩) (Kd.R_types HO327.out BK346.out (by decide)) (fun _ hk => hk.2) (.int .i64 t338)) (fun _ hk => hk.2) (.slice Ao42 t339.length co42)) (fun _ hk => hk.2) (.slice Ao43 t342.length co43)) (fun _ h_ => h_.1)))); (case side8 => exact (Kd.R_reads' HO327.out).2.1); rintro e w61 ⟨rfl, hb⟩; refine ⟨_, rfl, ?_⟩; have n0_ := Aside0.mk (Kd.R_below (by (with_reducible repeat (first | apply Kd.R_alloc | apply Kd.R_drewN | apply Kd.R_drew)); exact (Kd.R_mono (Kd.R_far (p := ⟨gb346, 2, none⟩) (Kd.R_far (p := ⟨gb346, 1, none⟩) (Kd.R_far (p := ⟨gb346, 0, none⟩) (Kd.R_types HO317.out BK346.out (by decide)) (fun _ hk => hk.2) (.int .i64 t338)) (fun _ hk => hk.2) (.slice Ao42 t339.length co42)) (fun _ hk => hk.2) (.slice Ao43 t342.length co43)) (fun _ h_ => h_.1))) hb); have n1_ := Aside0.mk (Kd.R_below (by (with_reducible repeat (first | apply Kd.R_alloc | apply Kd.R_drewN | apply Kd.R_drew)); exact (Kd.R_mono (Kd.R_far (p := ⟨gb346, 2, none⟩) (Kd.R_far (p := ⟨gb346, 1, none⟩) (Kd.R_far (p := ⟨gb346, 0, none⟩) (Kd.R_types HO320.out BK346.out (by decide)) (fun _ hk => hk.2) (.int .i64 t338)) (fun _ hk => hk.2) (.slice Ao42 t339.length co42)) (fun _ hk => hk.2) (.slice Ao43 t342.length co43)) (fun _ h_ => h_.1))) hb); have n2_ := Aside0.mk (Kd.R_below (by (with_reducible repeat (first | apply Kd.R_alloc | apply Kd.R_drewN | apply Kd.R_drew)); exact (Kd.R_mono (Kd.R_far (p := ⟨gb346, 2, none⟩) (Kd.R_far (p := ⟨gb346, 1, none⟩) (Kd.R_far (p := ⟨gb346, 0, none⟩) (Kd.R_types HO324.out BK346.out (by decide)) (fun _ hk => hk.2) (.int .i64 t338)) (fun _ hk => hk.2) (.slice Ao42 t339.length co42)) (fun _ hk => hk.2) (.slice Ao43 t342.length co43)) (fun _ h_ => h_.1))) hb); have n3_ := Aside0.mk (Kd.R_below (by (with_reducible repeat (first | apply Kd.R_alloc | apply Kd.R_drewN | apply Kd.R_drew)); exact (Kd.R_mono (Kd.R_far (p := ⟨gb346, 2, none⟩) (Kd.R_far (p := ⟨gb346, 1, none⟩) (Kd.R_far (p := ⟨gb346, 0, none⟩) (Kd.R_types HO327.out BK346.out (by decide)) (fun _ hk => hk.2) (.int .i64 t338)) (fun _ hk => hk.2) (.slice Ao42 t339.length co42)) (fun _ hk => hk.2) (.slice Ao43 t342.length co43)) (fun _ h_ => h_.1))) hb); have n4_ := Aside0.mk (Kd.R_below (by (with_reducible repeat (first | apply Kd.R_alloc | apply Kd.R_drewN | apply Kd.R_drew)); exact (Kd.R_mono (Kd.R_far (p := ⟨gb346, 2, none⟩) (Kd.R_far (p := ⟨gb346, 1, none⟩) (Kd.R_far (p := ⟨gb346, 0, none⟩) (Kd.R_types HO333.out BK346.out (by decide)) (fun _ hk => hk.2) (.int .i64 t338)) (fun _ hk => hk.2) (.slice Ao42 t339.length co42)) (fun _ hk => hk.2) (.slice Ao43 t342.length co43)) (fun _ h_ => h_.1))) hb); have n5_ := Aside0.mk (Kd.R_below (by (with_reducible repeat (first | apply Kd.R_alloc | apply Kd.R_drewN | apply Kd.R_drew)); exact (Kd.R_mono (Kd.R_far (p := ⟨gb346, 2, none⟩) (Kd.R_far (p := ⟨gb346, 1, none⟩) (Kd.R_far (p := ⟨gb346, 0, none⟩) (Kd.R_types HO336.out BK346.out (by decide)) (fun _ hk => hk.2) (.int .i64 t338)) (fun _ hk => hk.2) (.slice Ao42 t339.length co42)) (fun _ hk => hk.2) (.slice Ao43 t342.length co43)) (fun _ h_ => h_.1))) hb); have n6_ := Aside0.mk (Kd.R_below (by (with_reducible repeat (first | apply Kd.R_alloc | apply Kd.R_drewN | apply Kd.R_drew)); exact (Kd.R_mono (Kd.R_far (p := ⟨gb346, 2, none⟩) (Kd.R_far (p := ⟨gb346, 1, none⟩) (Kd.R_far (p := ⟨gb346, 0, none⟩) (Kd.R_types HO341.out BK346.out (by decide)) (fun _ hk => hk.2) (.int .i64 t338)) (fun _ hk => hk.2) (.slice Ao42 t339.length co42)) (fun _ hk => hk.2) (.slice Ao43 t342.length co43)) (fun _ h_ => h_.1))) hb); have n7_ := Aside0.mk (Kd.R_below (by (with_reducible repeat (first | apply Kd.R_alloc | apply Kd.R_drewN | apply Kd.R_drew)); exact (Kd.R_mono (Kd.R_far (p := ⟨gb346, 2, none⟩) (Kd.R_far (p := ⟨gb346, 1, none⟩) (Kd.R_far (p := ⟨gb346, 0, none⟩) (Kd.R_types HO344.out BK346.out (by decide)) (fun _ hk => hk.2) (.int .i64 t338)) (fun _ hk => hk.2) (.slice Ao42 t339.length co42)) (fun _ hk => hk.2) (.slice Ao43 t342.length co43)) (fun _ h_ => h_.1))) hb); have n8_ := Aside0.mk (blk_below (g := gb312) (o := .cells #[.int .i64 a0_0, .slice A0_1 l0_1.length c0_1, .slice A0_2 l0_2.length c0_2] 24 (0, 0)) (by refine uW ?_; refine blk_far ?_ NB312_346.out _; refine uW ?_; refine blk_far ?_ NB312_346.out _; refine uW ?_; refine blk_far ?_ NB312_346.out _; refine uW ?_; exact BK312.out) hb); have n9_ := Aside0.mk (blk_below (g := gb329) (o := .cells #[.int .i64 t321, .slice Ao26 t322.length co26, .slice Ao27 t325.length co27] 27 (0, 0)) (by refine uW ?_; refine blk_far ?_ NB329_346.out _; refine uW ?_; refine blk_far ?_ NB329_346.out _; refine uW ?_; refine blk_far ?_ NB329_346.out _; refine uW ?_; exact BK329.out) hb); have n10_ := Aside0.mk (blk_below (g := gb337) (o := .cells #[.int .i64 t330, .slice Ao34 t331.length co34, .slice Ao35 t334.length co35] 27 (0, 0)) (by refine uW ?_; refine blk_far ?_ NB337_346.out _; refine uW ?_; refine blk_far ?_ NB337_346.out _; refine uW ?_; refine blk_far ?_ NB337_346.out _; refine uW ?_; exact BK337.out) hb); have n11_ := Aside0.mk (blk_below (g := gb346) (o := .cells #[.int .i64 t338, .slice Ao42 t339.length co42, .slice Ao43 t342.length co43] 27 (0, 0)) (by refine uW ?_; refine blk_put (cs := #[.int .i64 t338, .slice Ao42 t339.length co42, .slice none 0 0]) ?_ 2 _ rfl; refine uW ?_; refine blk_put (cs := #[.int .i64 t338, .slice none 0 0, .slice none 0 0]) ?_ 1 _ rfl; refine uW ?_; refine blk_put (cs := #[.int .i64 0, .slice none 0 0, .slice none 0 0]) ?_ 0 _ rfl; refine uW ?_; exact BK346.out) hb); have n12_ := Aside0.mk (below_step (by first | exact uB HB | exact uS HB (gC GE312 (gC GE329 (gC GE337 (gC GE346 gN))))) hb); clear HO317 HO320 HO324 HO327 HO333 HO336 HO341 HO344 BK312 BK329 BK337 BK346 HB; have HO317 := n0_; have HO320 := n1_; have HO324 := n2_; have HO327 := n3_; have HO333 := n4_; have HO336 := n5_; have HO341 := n6_; have HO344 := n7_; have BK312 := n8_; have BK329 := n9_; have BK337 := n10_; have BK346 := n11_; have HB := n12_; clear n0_ n1_ n2_ n3_ n4_ n5_ n6_ n7_ n8_ n9_ n10_ n11_ n12_; (try clear hb); (try clear hb2); (try clear hk); (try clear hi)))
     go_meet
     case rel => exact ⟨_, (true), (by first | rfl | (simp; done) | (simp [*]; done)), H', ⟨by first | omega | exact Nat.le_refl _⟩, ⟨by (with_reducible repeat (first | apply Kd.R_alloc | apply Kd.R_drewN | apply Kd.R_drew)); exact Kd.R_mono HO324.out (fun _ hk => ⟨hk.1.1.1.1.1.1, ⟨hk.1.1.1.2, ⟨hk.1.1.2, ⟨hk.1.2, hk.2⟩⟩⟩⟩)⟩, ⟨by (with_reducible repeat (first | apply Kd.R_alloc | apply Kd.R_drewN | apply Kd.R_drew)); exact Kd.R_mono HO327.out (fun _ hk => ⟨hk.1.1.1.1.1.1, ⟨hk.1.1.1.2, ⟨hk.1.1.2, ⟨hk.1.2, hk.2⟩⟩⟩⟩)⟩, ⟨by (with_reducible repeat (first | apply Kd.R_alloc | apply Kd.R_drewN | apply Kd.R_drew)); exact Kd.R_mono HO333.out (fun _ hk => ⟨hk.1.1.1.2, ⟨hk.1.1.2, ⟨hk.1.1.1.1.1.1, ⟨hk.1.2, hk.2⟩⟩⟩⟩)⟩, ⟨by (with_reducible repeat (first | apply Kd.R_alloc | apply Kd.R_drewN | apply Kd.R_drew)); exact Kd.R_mono HO336.out (fun _ hk => ⟨hk.1.1.1.2, ⟨hk.1.1.2, ⟨hk.1.1.1.1.1.1, ⟨hk.1.2, hk.2⟩⟩⟩⟩)⟩, ⟨by (with_reducible repeat (first | apply Kd.R_alloc | apply Kd.R_drewN | apply Kd.R_drew)); exact Kd.R_mono HO341.out (fun _ hk => ⟨hk.1.1.1.2, ⟨hk.1.1.2, ⟨hk.1.2, ⟨hk.2, hk.1.1.1.1.1.1⟩⟩⟩⟩)⟩, ⟨by (with_reducible repeat (first | apply Kd.R_alloc | apply Kd.R_drewN | apply Kd.R_drew)); exact Kd.R_mono HO344.out (fun _ hk => ⟨hk.1.1.1.2, ⟨hk.1.1.2, ⟨hk.1.2, ⟨hk.2, hk.1.1.1.1.1.1⟩⟩⟩⟩)⟩, ⟨by refine uW ?_; exact BK312.out⟩, ⟨by refine uW ?_; exact BK329.out⟩, ⟨by refine uW ?_; exact BK337.out⟩, ⟨by refine uW ?_; exact BK346.out⟩, ⟨by first | exact uB HB | exact uS HB (gC GE312 (gC GE329 (gC GE337 (gC GE346 gN))))⟩⟩
   case rest =>
    clear HC14
    try clear c1
    try clear c2
    try clear p2
    try clear c3
    try clear c3b0
    try clear c3b1
    try clear c4
    try clear c5
    try clear c6
    try clear c6b0
    try clear c7
    try clear c10
    try clear c12
    try clear c14
    try clear c24
    try clear c26
    try clear c27
    try clear c31
    try clear c32
    try clear c38
    try clear c39
    try clear c40
    try clear c45
    try clear c46
    try clear c47
    try clear c48
    try clear c50
    try clear c51
    try clear c54
    try clear c55
    try clear c56
    try clear c58
    try clear c59
    try clear hcz16_0
    try clear hcz16_1
    try clear hcz16_2
    try clear hcz18_0
    try clear hcz18_1
    try clear hcz18_2
    try clear hcz25_0
    try clear hcz25_1
    try clear hcz25_2
    try clear hcz28_0
    try clear hcz28_1
    try clear hcz28_2
    try clear hcz33_0
    try clear hcz33_1
    try clear hcz33_2
    try clear hcz41_0
    try clear hcz41_1
    try clear hcz41_2
    try clear hcz49_0
    try clear hcz49_1
    try clear hcz49_2
    try clear hcz52_0
    try clear hcz52_1
    try clear hcz52_2
    try clear hcz57_0
    try clear hcz57_1
    try clear hcz57_2
    try clear hcz60_0
    try clear hcz60_1
    try clear hcz60_2
    try clear hcz8_0
    try clear hcz8_1
    try clear hcz8_2
    try clear hfz16_0
    try clear hfz16_1
    try clear hfz16_2
    try clear hfz18_0
    try clear hfz18_1
    try clear hfz18_2
    try clear hfz25_0
    try clear hfz25_1
    try clear hfz25_2
    try clear hfz28_0
    try clear hfz28_1
    try clear hfz28_2
    try clear hfz33_0
    try clear hfz33_1
    try clear hfz33_2
    try clear hfz41_0
    try clear hfz41_1
    try clear hfz41_2
    try clear hfz49_0
    try clear hfz49_1
    try clear hfz49_2
    try clear hfz52_0
    try clear hfz52_1
    try clear hfz52_2
    try clear hfz57_0
    try clear hfz57_1
    try clear hfz57_2
    try clear hfz60_0
    try clear hfz60_1
    try clear hfz60_2
    try clear hfz8_0
    try clear hfz8_1
    try clear hfz8_2
    obtain ⟨kq, x47_13, rfl, HA, HJ13, HO_330001, HO_330002, HO_338001, HO_338002, HO_347001, HO_347002, BK312, BK329, BK337, BK346, HB⟩ := hcut
    cases kq with
    | zero => exact absurd HA.out (by simp [laws_FnExactCuckooRemove.j0])
    | succ kj13 =>
     have H := HA.out
     clear HA
     simp only [laws_FnExactCuckooRemove.j0] at H
     by_cases c62 : x47_13 = true
     ·
      subst c62
      have H1 : (some false) = some r := by rw [if_pos rfl] at H; exact H
      clear H
      have H := H1
      clear H1
      obtain rfl := Option.some.inj H
      go_wp2
      go_ret
      exact ⟨by first | rfl | (simp [errW_none, errW_some] <;> rfl) | (simp [*, errW_none, errW_some] <;> rfl), by first | exact uB HB | exact uS HB (gC GE312 (gC GE329 (gC GE337 (gC GE346 gN))))⟩
     ·
      replace c62 := Bool.eq_false_iff.mpr c62
      subst c62
      have H1 : ((laws_toCuckoo.f kj13 a0_0 l0_1 l0_2).bind fun bt348 => ((laws_eqCuckoo.f kj13 t330 t331 t334 bt348.1 bt348.2.1 bt348.2.2).bind fun t355 => (if t355 = true then ((laws_markCuckoo.f kj13 t330 t331 t334 1).bind fun bt356 => (if bt356.1 < 0 then (laws_FnExactCuckooRemove.j1 kj13 a1 t328 true a0_0 l0_1 l0_2 t321 t322 t325 t338 t339 t342) else ((laws_eqCuckoo.f kj13 t338 t339 t342 t321 t322 t325).bind fun t359 => (if t359 = true then (laws_FnExactCuckooRemove.j1 kj13 a1 t328 (t345 != t328) a0_0 l0_1 l0_2 t321 t322 t325 t338 t339 t342) else (laws_FnExactCuckooRemove.j1 kj13 a1 t328 true a0_0 l0_1 l0_2 t321 t322 t325 t338 t339 t342))))) else (some false)))) = some r := by rw [if_neg (show ¬ (false = true) by decide)] at H; exact H
      clear H
      have H := H1
      clear H1
      replace H := Option.bind_eq_some_iff.mp H
      obtain ⟨⟨t348, t349, t352⟩, A630, H⟩ := H
      replace H : ((laws_eqCuckoo.f kj13 t330 t331 t334 t348 t349 t352).bind fun t355 => (if t355 = true then ((laws_markCuckoo.f kj13 t330 t331 t334 1).bind fun bt356 => (if bt356.1 < 0 then (laws_FnExactCuckooRemove.j1 kj13 a1 t328 true a0_0 l0_1 l0_2 t321 t322 t325 t338 t339 t342) else ((laws_eqCuckoo.f kj13 t338 t339 t342 t321 t322 t325).bind fun t359 => (if t359 = true then (laws_FnExactCuckooRemove.j1 kj13 a1 t328 (t345 != t328) a0_0 l0_1 l0_2 t321 t322 t325 t338 t339 t342) else (laws_FnExactCuckooRemove.j1 kj13 a1 t328 true a0_0 l0_1 l0_2 t321 t322 t325 t338 t339 t342))))) else (some false))) = some r := H
      have A63 := Aside0.mk A630
      clear A630
      replace H := Option.bind_eq_some_iff.mp H
      obtain ⟨t355, A640, H⟩ := H
      replace H : (if t355 = true then ((laws_markCuckoo.f kj13 t330 t331 t334 1).bind fun bt356 => (if bt356.1 < 0 then (laws_FnExactCuckooRemove.j1 kj13 a1 t328 true a0_0 l0_1 l0_2 t321 t322 t325 t338 t339 t342) else ((laws_eqCuckoo.f kj13 t338 t339 t342 t321 t322 t325).bind fun t359 => (if t359 = true then (laws_FnExactCuckooRemove.j1 kj13 a1 t328 (t345 != t328) a0_0 l0_1 l0_2 t321 t322 t325 t338 t339 t342) else (laws_FnExactCuckooRemove.j1 kj13 a1 t328 true a0_0 l0_1 l0_2 t321 t322 t325 t338 t339 t342))))) else (some false)) = some r := H
      have A64 := Aside0.mk A640
      clear A640
      by_cases c65 : t355 = true
      ·
       subst c65
       have H1 : ((laws_markCuckoo.f kj13 t330 t331 t334 1).bind fun bt356 => (if bt356.1 < 0 then (laws_FnExactCuckooRemove.j1 kj13 a1 t328 true a0_0 l0_1 l0_2 t321 t322 t325 t338 t339 t342) else ((laws_eqCuckoo.f kj13 t338 t339 t342 t321 t322 t325).bind fun t359 => (if t359 = true then (laws_FnExactCuckooRemove.j1 kj13 a1 t328 (t345 != t328) a0_0 l0_1 l0_2 t321 t322 t325 t338 t339 t342) else (laws_FnExactCuckooRemove.j1 kj13 a1 t328 true a0_0 l0_1 l0_2 t321 t322 t325 t338 t339 t342))))) = some r := by rw [if_pos rfl] at H; exact H
       clear H
       have H := H1
       clear H1
       replace H := Option.bind_eq_some_iff.mp H
       obtain ⟨⟨t356, t357, t358⟩, A660, H⟩ := H
       replace H : (if t356 < 0 then (laws_FnExactCuckooRemove.j1 kj13 a1 t328 true a0_0 l0_1 l0_2 t321 t322 t325 t338 t339 t342) else ((laws_eqCuckoo.f kj13 t338 t339 t342 t321 t322 t325).bind fun t359 => (if t359 = true then (laws_FnExactCuckooRemove.j1 kj13 a1 t328 (t345 != t328) a0_0 l0_1 l0_2 t321 t322 t325 t338 t339 t342) else (laws_FnExactCuckooRemove.j1 kj13 a1 t328 true a0_0 l0_1 l0_2 t321 t322 t325 t338 t339 t342)))) = some r := H
       have A66 := Aside0.mk A660
       clear A660
       have HC67 := Aside0.mk H
       clear H
       try go_wp2
       have n0_ := Aside0.mk (Kd.R_drew HO_330001.out)
       have n1_ := Aside0.mk (Kd.R_drew HO_330002.out)
       have n2_ := Aside0.mk (Kd.R_drew HO_338001.out)
       have n3_ := Aside0.mk (Kd.R_drew HO_338002.out)
       have n4_ := Aside0.mk (Kd.R_drew HO_347001.out)
       have n5_ := Aside0.mk (Kd.R_drew HO_347002.out)
       have n6_ := Aside0.mk (blk_drew BK312.out)
       have n7_ := Aside0.mk (blk_drew BK329.out)
       have n8_ := Aside0.mk (blk_drew BK337.out)
       have n9_ := Aside0.mk (blk_drew BK346.out)
       have n10_ := Aside0.mk (below_drew1 HB.out)
       clear HO_330001
       clear HO_330002
       clear HO_338001
       clear HO_338002
       clear HO_347001
       clear HO_347002
       clear BK312
       clear BK329
       clear BK337
       clear BK346
       clear HB
       have HO_330001 := n0_
       have HO_330002 := n1_
       have HO_338001 := n2_
       have HO_338002 := n3_
       have HO_347001 := n4_
       have HO_347002 := n5_
       have BK312 := n6_
       have BK329 := n7_
       have BK337 := n8_
       have BK346 := n9_
       have HB := n10_
       clear n0_ n1_ n2_ n3_ n4_ n5_ n6_ n7_ n8_ n9_ n10_
       refine start_ (n := 5) (S := fun w' => w'.cell? ⟨gb337, 0, none⟩ = some (.int .i64 t330) ∧ w'.cell? ⟨gb337, 1, none⟩ = some (.slice Ao34 t331.length co34) ∧ w'.cell? ⟨gb337, 2, none⟩ = some (.slice Ao35 t334.length co35) ∧ w'.cell? ⟨gb312, 0, none⟩ = some (.int .i64 a0_0) ∧ w'.cell? ⟨gb312, 1, none⟩ = some (.slice A0_1 l0_1.length c0_1) ∧ w'.cell? ⟨gb312, 2, none⟩ = some (.slice A0_2 l0_2.length c0_2)) (ds := []) #[false, false, false, false, false] (by kernel_rfl) rfl rfl ⟨(blk_cell BK337.out 0).trans rfl, (blk_cell BK337.out 1).trans rfl, (blk_cell BK337.out 2).trans rfl, (blk_cell BK312.out 0).trans rfl, (blk_cell BK312.out 1).trans rfl, (blk_cell BK312.out 2).trans rfl⟩ (fun hHeld => ?_)
       generalize wc.drew = w68 at HO_330001 HO_330002 HO_338001 HO_338002 HO_347001 HO_347002 BK312 BK329 BK337 BK346 HB hHeld ⊢
       refine take_ (i := 0) (N := some 48) (v := ?_) (a' := ?_) #[true, false, false, false, false] rfl rfl (by kernel_rfl) (fun _ _ _ h => h) (Or.inl ⟨by rfl, ?_⟩) hHeld ?_ ?_
       rotate_left
       ·
        rintro w' ⟨s0, s1, s2, s3, s4, s5⟩
        go_simp
        with_reducible rfl
       rotate_left
       ·
        simp only [Act.put, List.setIfInBounds_toArray, List.set_cons_zero, List.set_cons_succ, i64_w, i32_w]
        rfl
       refine take_ (i := 1) (N := some 49) (v := ?_) (a' := ?_) #[true, true, false, false, false] rfl rfl (by kernel_rfl) (fun _ _ _ h => h) (Or.inl ⟨by rfl, ?_⟩) hHeld ?_ ?_
       rotate_left
       ·
        rintro w' ⟨s0, s1, s2, s3, s4, s5⟩
        go_simp
        with_reducible rfl
       rotate_left
       ·
        simp only [Act.put, List.setIfInBounds_toArray, List.set_cons_zero, List.set_cons_succ, i64_w, i32_w]
        rfl
       refine one_ (i := 2) (N := some 50) #[true, true, true, false, false] rfl rfl (by kernel_rfl) (by decide) (fun K hK => ?_)
       refine goes_ Try.func12 (by kernel_rfl) rfl #[.agg #[.int .i64 a0_0, .slice A0_1 l0_1.length c0_1, .slice A0_2 l0_2.length c0_2]] (by rfl) rfl rfl (by (try simp only [List.map_toArray, List.map_cons, List.map_nil]); first | done | rfl | (simp only [List.length_drop, List.length_take]; rfl)) ?_
       with_reducible refine (laws_toCuckoo.calls kj13 a0_0 _ _ l0_1 _ _ l0_2 t348 t349 t352 _ ?side1 ?side2 ?side3 ?side4 A63.out).mono ?_
       (case side1 => exact uC HR0_1 HB)
       (case side2 => exact HC0_1.out)
       (case side3 => exact uC HR0_2 HB)
       (case side4 => exact HC0_2.out)
       rintro e w69 ⟨v350, v353, rfl, ho0, ho1, hb⟩
       refine ⟨_, rfl, ?_⟩
       have n0_ := Aside0.mk (Kd.R_mono (Kd.R_told (Kd.R_told (Kd.R_old (uR HO_330001) hb) (Kd.R_base ho0)) (Kd.R_base ho1)) (fun _ h_ => h_.1))
       have n1_ := Aside0.mk (Kd.R_mono (Kd.R_told (Kd.R_told (Kd.R_old (uR HO_330002) hb) (Kd.R_base ho0)) (Kd.R_base ho1)) (fun _ h_ => h_.1))
       have n2_ := Aside0.mk (Kd.R_mono (Kd.R_told (Kd.R_told (Kd.R_old (uR HO_338001) hb) (Kd.R_base ho0)) (Kd.R_base ho1)) (fun _ h_ => h_.1))
       have n3_ := Aside0.mk (Kd.R_mono (Kd.R_told (Kd.R_told (Kd.R_old (uR HO_338002) hb) (Kd.R_base ho0)) (Kd.R_base ho1)) (fun _ h_ => h_.1))
       have n4_ := Aside0.mk (Kd.R_mono (Kd.R_told (Kd.R_told (Kd.R_old (uR HO_347001) hb) (Kd.R_base ho0)) (Kd.R_base ho1)) (fun _ h_ => h_.1))
       have n5_ := Aside0.mk (Kd.R_mono (Kd.R_told (Kd.R_told (Kd.R_old (uR HO_347002) hb) (Kd.R_base ho0)) (Kd.R_base ho1)) (fun _ h_ => h_.1))
       have n6_ := Aside0.mk (Kd.R_lower (Kd.R_new' (Kd.R_new' (Kd.R_new' (Kd.R_new' (Kd.R_new' (Kd.R_new' ho0 (Kd.R_lt (uR HO_330001))) (Kd.R_lt (uR HO_330002))) (Kd.R_lt (uR HO_338001))) (Kd.R_lt (uR HO_338002))) (Kd.R_lt (uR HO_347001))) (Kd.R_lt (uR HO_347002))) (below_size (by first | exact uB HB | exact uS HB (gC GE312 (gC GE329 (gC GE337 (gC GE346 gN)))))))
       have n7_ := Aside0.mk (Kd.R_lower (Kd.R_new' (Kd.R_new' (Kd.R_new' (Kd.R_new' (Kd.R_new' (Kd.R_new' ho1 (Kd.R_lt (uR HO_330001))) (Kd.R_lt (uR HO_330002))) (Kd.R_lt (uR HO_338001))) (Kd.R_lt (uR HO_338002))) (Kd.R_lt (uR HO_347001))) (Kd.R_lt (uR HO_347002))) (below_size (by first | exact uB HB | exact uS HB (gC GE312 (gC GE329 (gC GE337 (gC GE346 gN)))))))
       have n8_ := Aside0.mk (blk_below (g := gb312) (o := .cells #[.int .i64 a0_0, .slice A0_1 l0_1.length c0_1, .slice A0_2 l0_2.length c0_2] 24 (0, 0)) (uK BK312) hb)
       have n9_ := Aside0.mk (blk_below (g := gb329) (o := .cells #[.int .i64 t321, .slice Ao26 t322.length co26, .slice Ao27 t325.length co27] 27 (0, 0)) (uK BK329) hb)
       have n10_ := Aside0.mk (blk_below (g := gb337) (o := .cells #[.int .i64 t330, .slice Ao34 t331.length co34, .slice Ao35 t334.length co35] 27 (0, 0)) (uK BK337) hb)
       have n11_ := Aside0.mk (blk_below (g := gb346) (o := .cells #[.int .i64 t338, .slice Ao42 t339.length co42, .slice Ao43 t342.length co43] 27 (0, 0)) (uK BK346) hb)
       have n12_ := Aside0.mk (below_step (by first | exact uB HB | exact uS HB (gC GE312 (gC GE329 (gC GE337 (gC GE346 gN))))) hb)
       clear HO_330001
       clear HO_330002
       clear HO_338001
       clear HO_338002
       clear HO_347001
       clear HO_347002
       clear BK312
       clear BK329
       clear BK337
       clear BK346
       clear HB
       have HO_330001 := n0_
       have HO_330002 := n1_
       have HO_338001 := n2_
       have HO_338002 := n3_
       have HO_347001 := n4_
       have HO_347002 := n5_
       have HO351 := n6_
       have HO354 := n7_
       have BK312 := n8_
       have BK329 := n9_
       have BK337 := n10_
       have BK346 := n11_
       have HB := n12_
       clear n0_ n1_ n2_ n3_ n4_ n5_ n6_ n7_ n8_ n9_ n10_ n11_ n12_
       (try clear hb)
       (try clear hb2)
       (try clear hk)
       (try clear hi)
       (try clear ho0)
       (try clear ho1)
       obtain ⟨Ao70, co70, eo70⟩ := Kd.R_slice HO351.out
       (first | subst eo70 | (injection eo70 with f1_ f2_ f3_; have f4_ := f1_.symm; have f5_ := f3_.symm; clear f1_ f2_ f3_; subst f4_; subst f5_))
       obtain ⟨Ao71, co71, eo71⟩ := Kd.R_slice HO354.out
       (first | subst eo71 | (injection eo71 with f1_ f2_ f3_; have f4_ := f1_.symm; have f5_ := f3_.symm; clear f1_ f2_ f3_; subst f4_; subst f5_))
       refine hK.out _ _ ⟨(blk_cell BK337.out 0).trans rfl, (blk_cell BK337.out 1).trans rfl, (blk_cell BK337.out 2).trans rfl, (blk_cell BK312.out 0).trans rfl, (blk_cell BK312.out 1).trans rfl, (blk_cell BK312.out 2).trans rfl⟩ (fun hHeld => ?_)
       clear hK K
       refine norm_ (a' := ?_) ?_ ?_
       rotate_left
       ·
        show Act.put _ (some 50) _ = _
        simp only [Act.put, List.setIfInBounds_toArray, List.set_cons_zero, List.set_cons_succ, i64_w, i32_w]
        rfl
       refine one_ (i := 3) (N := some 51) #[true, true, true, true, false] rfl rfl (by kernel_rfl) (by decide) (fun K hK => ?_)
       refine goes_ Try.func14 (by kernel_rfl) rfl #[.agg #[.int .i64 t330, .slice Ao34 t331.length co34, .slice Ao35 t334.length co35], .agg #[.int .i64 t348, .slice Ao70 t349.length co70, .slice Ao71 t352.length co71]] (by rfl) rfl rfl (by (try simp only [List.map_toArray, List.map_cons, List.map_nil]); first | done | rfl | (simp only [List.length_drop, List.length_take]; rfl)) ?_
       with_reducible refine (laws_eqCuckoo.calls kj13 t330 _ _ t331 _ _ t334 t348 _ _ t349 _ _ t352 true _ ?side1 ?side2 ?side3 ?side4 ?side5 ?side6 ?side7 ?side8 A64.out).mono ?_
       (case side1 => exact uD HO_338001)
       (case side2 => exact (Kd.R_reads' HO_338001.out).2.1)
       (case side3 => exact uD HO_338002)
       (case side4 => exact (Kd.R_reads' HO_338002.out).2.1)
       (case side5 => exact uD HO351)
       (case side6 => exact (Kd.R_reads' HO351.out).2.1)
       (case side7 => exact uD HO354)
       (case side8 => exact (Kd.R_reads' HO354.out).2.1)
       rintro e w72 ⟨rfl, hb⟩
       refine ⟨_, rfl, ?_⟩
       have n0_ := Aside0.mk (Kd.R_below (uR HO_330001) hb)
       have n1_ := Aside0.mk (Kd.R_below (uR HO_330002) hb)
       have n2_ := Aside0.mk (Kd.R_below (uR HO_338001) hb)
       have n3_ := Aside0.mk (Kd.R_below (uR HO_338002) hb)
       have n4_ := Aside0.mk (Kd.R_below (uR HO_347001) hb)
       have n5_ := Aside0.mk (Kd.R_below (uR HO_347002) hb)
       have n6_ := Aside0.mk (Kd.R_below (uR HO351) hb)
       have n7_ := Aside0.mk (Kd.R_below (uR HO354) hb)
       have n8_ := Aside0.mk (blk_below (g := gb312) (o := .cells #[.int .i64 a0_0, .slice A0_1 l0_1.length c0_1, .slice A0_2 l0_2.length c0_2] 24 (0, 0)) (uK BK312) hb)
       have n9_ := Aside0.mk (blk_below (g := gb329) (o := .cells #[.int .i64 t321, .slice Ao26 t322.length co26, .slice Ao27 t325.length co27] 27 (0, 0)) (uK BK329) hb)
       have n10_ := Aside0.mk (blk_below (g := gb337) (o := .cells #[.int .i64 t330, .slice Ao34 t331.length co34, .slice Ao35 t334.length co35] 27 (0, 0)) (uK BK337) hb)
       have n11_ := Aside0.mk (blk_below (g := gb346) (o := .cells #[.int .i64 t338, .slice Ao42 t339.length co42, .slice Ao43 t342.length co43] 27 (0, 0)) (uK BK346) hb)
       have n12_ := Aside0.mk (below_step (by first | exact uB HB | exact uS HB (gC GE312 (gC GE329 (gC GE337 (gC GE346 gN))))) hb)
       clear HO_330001
       clear HO_330002
       clear HO_338001
       clear HO_338002
       clear HO_347001
       clear HO_347002
       clear HO351
       clear HO354
       clear BK312
       clear BK329
       clear BK337
       clear BK346
       clear HB
       have HO_330001 := n0_
       have HO_330002 := n1_
       have HO_338001 := n2_
       have HO_338002 := n3_
       have HO_347001 := n4_
       have HO_347002 := n5_
       have HO351 := n6_
       have HO354 := n7_
       have BK312 := n8_
       have BK329 := n9_
       have BK337 := n10_
       have BK346 := n11_
       have HB := n12_
       clear n0_ n1_ n2_ n3_ n4_ n5_ n6_ n7_ n8_ n9_ n10_ n11_ n12_
       (try clear hb)
       (try clear hb2)
       (try clear hk)
       (try clear hi)
       refine hK.out _ _ ⟨(blk_cell BK337.out 0).trans rfl, (blk_cell BK337.out 1).trans rfl, (blk_cell BK337.out 2).trans rfl, (blk_cell BK312.out 0).trans rfl, (blk_cell BK312.out 1).trans rfl, (blk_cell BK312.out 2).trans rfl⟩ (fun hHeld => ?_)
       clear hK K
       refine norm_ (a' := ?_) ?_ ?_
       rotate_left
       ·
        show Act.put _ (some 51) _ = _
        simp only [Act.put, List.setIfInBounds_toArray, List.set_cons_zero, List.set_cons_succ, i64_w, i32_w]
        rfl
       refine pure_ (i := 4) (N := some 52) (v := ?_) (a' := ?_) #[true, true, true, true, true] rfl rfl (by kernel_rfl) (fun _ _ _ h => h) (Or.inl ⟨by rfl, ?_⟩) ?_ ?_
       rotate_left
       ·
        intro w'
        go_simp
        with_reducible rfl
       rotate_left
       ·
        simp only [Act.put, List.setIfInBounds_toArray, List.set_cons_zero, List.set_cons_succ, i64_w, i32_w]
        rfl
       refine done_ (by kernel_rfl) ?_
       have hnb73 := NB337_312.out
       have hnc73 := NB312_337.out
       have hnb74 := NB337_329.out
       have hnc74 := NB329_337.out
       have hnb75 := NB337_346.out
       have hnc75 := NB346_337.out
       have hcz76_0 : w72.cell? ⟨gb337, 0, none⟩ = some (.int .i64 t330) := (blk_cell BK337.out 0).trans rfl
       have hcz76_1 : w72.cell? ⟨gb337, 1, none⟩ = some (.slice Ao34 t331.length co34) := (blk_cell BK337.out 1).trans rfl
       have hcz76_2 : w72.cell? ⟨gb337, 2, none⟩ = some (.slice Ao35 t334.length co35) := (blk_cell BK337.out 2).trans rfl
       have hfz76_0 := blk_frozen BK337.out 0
       have hfz76_1 := blk_frozen BK337.out 1
       have hfz76_2 := blk_frozen BK337.out 2
       go_upto_region 16 with (first | ((with_reducible refine gate_callee (f := 20) rfl ?_); refine goesL_ (some 55) rfl rfl Try.func20 (by kernel_rfl) rfl #[.agg #[.int .i64 t330, .slice Ao34 t331.length co34, .slice Ao35 t334.length co35], .int .i64 1] rfl (by (try simp only [List.map_toArray, List.map_cons, List.map_nil]); first | done | rfl | (simp only [List.length_drop, List.length_take]; rfl)) ?_; (with_reducible refine (laws_markCuckoo.calls kj13 t330 (fun k_ => some k_ = (.slice Ao34 t331.length co34 : Value).ownBlock) (.slice Ao34 t331.length co34) t331 (fun k_ => some k_ = (.slice Ao35 t334.length co35 : Value).ownBlock) (.slice Ao35 t334.length co35) t334 1 t356 t357 t358 w _ ?side1 ?side2 ?side3 ?side4 ?side5 A66.out).mono ?_); (case side1 => first | exact uB HB | exact uS HB (gC GE312 (gC GE329 (gC GE337 (gC GE346 gN))))); (case side2 => exact Kd.R_tight rfl HO_338001.out); (case side3 => exact fun k_ e_ => (HO_338001.out.1 k_ e_.symm).1.1.2.2.1); (case side4 => exact Kd.R_tight rfl HO_338002.out); (case side5 => exact fun k_ e_ => (HO_338002.out.1 k_ e_.symm).1.1.2.2.1); rintro e w77 ⟨rfl, hy0, hy1, hb, hkp⟩; refine ⟨_, rfl, ?_⟩; have n0_ := Aside0.mk (Kd.R_mono (ok' := fun k_ => some k_ ≠ (.slice Ao27 t325.length co27 : Value).ownBlock ∧ some k_ ≠ (.slice Ao34 t331.length co34 : Value).ownBlock ∧ some k_ ≠ (.slice Ao35 t334.length co35 : Value).ownBlock ∧ some k_ ≠ (.slice Ao42 t339.length co42 : Value).ownBlock ∧ some k_ ≠ (.slice Ao43 t342.length co43 : Value).ownBlock ∧ some k_ ≠ (.slice Ao70 t349.length co70 : Value).ownBlock ∧ some k_ ≠ (.slice Ao71 t352.length co71 : Value).ownBlock) (Kd.R_keptB (HO_330001.out) hkp (fun k_ hk_ hs_ => Or.elim hs_ (fun e_ => (hk_.1.1.2.1) e_) (fun e_ => (hk_.1.1.2.2.1) e_))) (fun k_ hk_ => ⟨hk_.1.1.1.1, hk_.1.1.1.2.1, hk_.1.1.1.2.2.1, hk_.1.1.1.2.2.2.1, hk_.1.1.1.2.2.2.2, hk_.1.1.2, hk_.1.2⟩)); have n1_ := Aside0.mk (Kd.R_mono (ok' := fun k_ => some k_ ≠ (.slice Ao26 t322.length co26 : Value).ownBlock ∧ some k_ ≠ (.slice Ao34 t331.length co34 : Value).ownBlock ∧ some k_ ≠ (.slice Ao35 t334.length co35 : Value).ownBlock ∧ some k_ ≠ (.slice Ao42 t339.length co42 : Value).ownBlock ∧ some k_ ≠ (.slice Ao43 t342.length co43 : Value).ownBlock ∧ some k_ ≠ (.slice Ao70 t349.length co70 : Value).ownBlock ∧ some k_ ≠ (.slice Ao71 t352.length co71 : Value).ownBlock) (Kd.R_keptB (HO_330002.out) hkp (fun k_ hk_ hs_ => Or.elim hs_ (fun e_ => (hk_.1.1.2.1) e_) (fun e_ => (hk_.1.1.2.2.1) e_))) (fun k_ hk_ => ⟨hk_.1.1.1.1, hk_.1.1.1.2.1, hk_.1.1.1.2.2.1, hk_.1.1.1.2.2.2.1, hk_.1.1.1.2.2.2.2, hk_.1.1.2, hk_.1.2⟩)); have n2_ := Aside0.mk (Kd.R_reok rfl hy0 (fun k_ e_ => HO_338001.out.1 k_ e_)); have n3_ := Aside0.mk (Kd.R_reok rfl hy1 (fun k_ e_ => HO_338002.out.1 k_ e_)); have n4_ := Aside0.mk (Kd.R_mono (ok' := fun k_ => some k_ ≠ (.slice Ao26 t322.length co26 : Value).ownBlock ∧ some k_ ≠ (.slice Ao27 t325.length co27 : Value).ownBlock ∧ some k_ ≠ (.slice Ao34 t331.length co34 : Value).ownBlock ∧ some k_ ≠ (.slice Ao35 t334.length co35 : Value).ownBlock ∧ some k_ ≠ (.slice Ao43 t342.length co43 : Value).ownBlock ∧ some k_ ≠ (.slice Ao70 t349.length co70 : Value).ownBlock ∧ some k_ ≠ (.slice Ao71 t352.length co71 : Value).ownBlock) (Kd.R_keptB (HO_347001.out) hkp (fun k_ hk_ hs_ => Or.elim hs_ (fun e_ => (hk_.1.1.2.2.1) e_) (fun e_ => (hk_.1.1.2.2.2.1) e_))) (fun k_ hk_ => ⟨hk_.1.1.1.1, hk_.1.1.1.2.1, hk_.1.1.1.2.2.1, hk_.1.1.1.2.2.2.1, hk_.1.1.1.2.2.2.2, hk_.1.1.2, hk_.1.2⟩)); have n5_ := Aside0.mk (Kd.R_mono (ok' := fun k_ => some k_ ≠ (.slice Ao26 t322.length co26 : Value).ownBlock ∧ some k_ ≠ (.slice Ao27 t325.length co27 : Value).ownBlock ∧ some k_ ≠ (.slice Ao34 t331.length co34 : Value).ownBlock ∧ some k_ ≠ (.slice Ao35 t334.length co35 : Value).ownBlock ∧ some k_ ≠ (.slice Ao42 t339.length co42 : Value).ownBlock ∧ some k_ ≠ (.slice Ao70 t349.length co70 : Value).ownBlock ∧ some k_ ≠ (.slice Ao71 t352.length co71 : Value).ownBlock) (Kd.R_keptB (HO_347002.out) hkp (fun k_ hk_ hs_ => Or.elim hs_ (fun e_ => (hk_.1.1.2.2.1) e_) (fun e_ => (hk_.1.1.2.2.2.1) e_))) (fun k_ hk_ => ⟨hk_.1.1.1.1, hk_.1.1.1.2.1, hk_.1.1.1.2.2.1, hk_.1.1.1.2.2.2.1, hk_.1.1.1.2.2.2.2, hk_.1.1.2, hk_.1.2⟩)); have n6_ := Aside0.mk (blk_kept (uK BK312) hkp (fun hs_ => Or.elim hs_ (fun e_ => (fun e_ => (Kd.R_ne HO_338001.out BK312.out (by decide)) e_) e_) (fun e_ => (fun e_ => (Kd.R_ne HO_338002.out BK312.out (by decide)) e_) e_))); have n7_ := Aside0.mk (blk_kept (uK BK329) hkp (fun hs_ => Or.elim hs_ (fun e_ => (fun e_ => (Kd.R_ne HO_338001.out BK329.out (by decide)) e_) e_) (fun e_ => (fun e_ => (Kd.R_ne HO_338002.out BK329.out (by decide)) e_) e_))); have n8_ := Aside0.mk (blk_kept (uK BK337) hkp (fun hs_ => Or.elim hs_ (fun e_ => (fun e_ => (Kd.R_ne HO_338001.out BK337.out (by decide)) e_) e_) (fun e_ => (fun e_ => (Kd.R_ne HO_338002.out BK337.out (by decide)) e_) e_))); have n9_ := Aside0.mk (blk_kept (uK BK346) hkp (fun hs_ => Or.elim hs_ (fun e_ => (fun e_ => (Kd.R_ne HO_338001.out BK346.out (by decide)) e_) e_) (fun e_ => (fun e_ => (Kd.R_ne HO_338002.out BK346.out (by decide)) e_) e_))); have n10_ := Aside0.mk (Kd.R_mono (ok' := fun k_ => some k_ ≠ (.slice Ao26 t322.length co26 : Value).ownBlock ∧ some k_ ≠ (.slice Ao27 t325.length co27 : Value).ownBlock ∧ some k_ ≠ (.slice Ao34 t331.length co34 : Value).ownBlock ∧ some k_ ≠ (.slice Ao35 t334.length co35 : Value).ownBlock ∧ some k_ ≠ (.slice Ao42 t339.length co42 : Value).ownBlock ∧ some k_ ≠ (.slice Ao43 t342.length co43 : Value).ownBlock ∧ some k_ ≠ (.slice Ao71 t352.length co71 : Value).ownBlock) (Kd.R_keptB (HO351.out) hkp (fun k_ hk_ hs_ => Or.elim hs_ (fun e_ => (hk_.1.1.1.2) e_) (fun e_ => (hk_.1.1.2) e_))) (fun k_ hk_ => ⟨hk_.1.1.1.1.1.1.2, hk_.1.1.1.1.1.2, hk_.1.1.1.1.2, hk_.1.1.1.2, hk_.1.1.2, hk_.1.2, hk_.1.1.1.1.1.1.1⟩)); have n11_ := Aside0.mk (Kd.R_mono (ok' := fun k_ => some k_ ≠ (.slice Ao26 t322.length co26 : Value).ownBlock ∧ some k_ ≠ (.slice Ao27 t325.length co27 : Value).ownBlock ∧ some k_ ≠ (.slice Ao34 t331.length co34 : Value).ownBlock ∧ some k_ ≠ (.slice Ao35 t334.length co35 : Value).ownBlock ∧ some k_ ≠ (.slice Ao42 t339.length co42 : Value).ownBlock ∧ some k_ ≠ (.slice Ao43 t342.length co43 : Value).ownBlock ∧ some k_ ≠ (.slice Ao70 t349.length co70 : Value).ownBlock) (Kd.R_keptB (HO354.out) hkp (fun k_ hk_ hs_ => Or.elim hs_ (fun e_ => (hk_.1.1.1.2) e_) (fun e_ => (hk_.1.1.2) e_))) (fun k_ hk_ => ⟨hk_.1.1.1.1.1.1.2, hk_.1.1.1.1.1.2, hk_.1.1.1.1.2, hk_.1.1.1.2, hk_.1.1.2, hk_.1.2, hk_.1.1.1.1.1.1.1⟩)); have n12_ := Aside0.mk (hb); clear HO_330001 HO_330002 HO_338001 HO_338002 HO_347001 HO_347002 BK312 BK329 BK337 BK346 HO351 HO354 HB; have HO_330001 := n0_; have HO_330002 := n1_; have HO_338001 := n2_; have HO_338002 := n3_; have HO_347001 := n4_; have HO_347002 := n5_; have BK312 := n6_; have BK329 := n7_; have BK337 := n8_; have BK346 := n9_; have HO351 := n10_; have HO354 := n11_; have HB := n12_; clear n0_ n1_ n2_ n3_ n4_ n5_ n6_ n7_ n8_ n9_ n10_ n11_ n12_; (try clear hb); (try clear hkp); (try clear hy0); (try clear hy1)))
       (try simp only [Act.put, List.setIfInBounds_toArray, List.set_cons_zero, List.set_cons_succ])
       go_cut [68] (fun v68 wc => ∃ (kq : Nat) (x68_66 : Bool), v68 = .bool x68_66 ∧ Aside0 (laws_FnExactCuckooRemove.j1 kq a1 t328 x68_66 a0_0 l0_1 l0_2 t321 t322 t325 t338 t339 t342 = some r) ∧ Aside0 (kq ≤ kj13) ∧ Aside0 (Kd.R Kd.string 9 wc w.heap.size (fun k_ => some k_ ≠ ((.slice Ao27 t325.length co27) : Value).ownBlock ∧ some k_ ≠ ((.slice Ao34 t331.length co34) : Value).ownBlock ∧ some k_ ≠ ((.slice Ao35 t334.length co35) : Value).ownBlock ∧ some k_ ≠ ((.slice Ao42 t339.length co42) : Value).ownBlock ∧ some k_ ≠ ((.slice Ao43 t342.length co43) : Value).ownBlock) (.slice Ao26 t322.length co26) t322) ∧ Aside0 (Kd.R Kd.string 9 wc w.heap.size (fun k_ => some k_ ≠ ((.slice Ao26 t322.length co26) : Value).ownBlock ∧ some k_ ≠ ((.slice Ao34 t331.length co34) : Value).ownBlock ∧ some k_ ≠ ((.slice Ao35 t334.length co35) : Value).ownBlock ∧ some k_ ≠ ((.slice Ao42 t339.length co42) : Value).ownBlock ∧ some k_ ≠ ((.slice Ao43 t342.length co43) : Value).ownBlock) (.slice Ao27 t325.length co27) t325) ∧ Aside0 (Kd.R Kd.string 9 wc w.heap.size (fun k_ => some k_ ≠ ((.slice Ao26 t322.length co26) : Value).ownBlock ∧ some k_ ≠ ((.slice Ao27 t325.length co27) : Value).ownBlock ∧ some k_ ≠ ((.slice Ao35 t334.length co35) : Value).ownBlock ∧ some k_ ≠ ((.slice Ao42 t339.length co42) : Value).ownBlock ∧ some k_ ≠ ((.slice Ao43 t342.length co43) : Value).ownBlock) (.slice Ao34 t331.length co34) t357) ∧ Aside0 (Kd.R Kd.string 9 wc w.heap.size (fun k_ => some k_ ≠ ((.slice Ao26 t322.length co26) : Value).ownBlock ∧ some k_ ≠ ((.slice Ao27 t325.length co27) : Value).ownBlock ∧ some k_ ≠ ((.slice Ao34 t331.length co34) : Value).ownBlock ∧ some k_ ≠ ((.slice Ao42 t339.length co42) : Value).ownBlock ∧ some k_ ≠ ((.slice Ao43 t342.length co43) : Value).ownBlock) (.slice Ao35 t334.length co35) t358) ∧ Aside0 (Kd.R Kd.string 9 wc w.heap.size (fun k_ => some k_ ≠ ((.slice Ao26 t322.length co26) : Value).ownBlock ∧ some k_ ≠ ((.slice Ao27 t325.length co27) : Value).ownBlock ∧ some k_ ≠ ((.slice Ao34 t331.length co34) : Value).ownBlock ∧ some k_ ≠ ((.slice Ao35 t334.length co35) : Value).ownBlock ∧ some k_ ≠ ((.slice Ao43 t342.length co43) : Value).ownBlock) (.slice Ao42 t339.length co42) t339) ∧ Aside0 (Kd.R Kd.string 9 wc w.heap.size (fun k_ => some k_ ≠ ((.slice Ao26 t322.length co26) : Value).ownBlock ∧ some k_ ≠ ((.slice Ao27 t325.length co27) : Value).ownBlock ∧ some k_ ≠ ((.slice Ao34 t331.length co34) : Value).ownBlock ∧ some k_ ≠ ((.slice Ao35 t334.length co35) : Value).ownBlock ∧ some k_ ≠ ((.slice Ao42 t339.length co42) : Value).ownBlock) (.slice Ao43 t342.length co43) t342) ∧ Aside0 (wc.heap[gb312]? = some (.cells #[.int .i64 a0_0, (.slice A0_1 l0_1.length c0_1), (.slice A0_2 l0_2.length c0_2)] 24 (0, 0))) ∧ Aside0 (wc.heap[gb329]? = some (.cells #[.int .i64 t321, (.slice Ao26 t322.length co26), (.slice Ao27 t325.length co27)] 27 (0, 0))) ∧ Aside0 (wc.heap[gb337]? = some (.cells #[.int .i64 t330, (.slice Ao34 t331.length co34), (.slice Ao35 t334.length co35)] 27 (0, 0))) ∧ Aside0 (wc.heap[gb346]? = some (.cells #[.int .i64 t338, (.slice Ao42 t339.length co42), (.slice Ao43 t342.length co43)] 27 (0, 0))) ∧ Aside0 (Below w.heap.size w wc))
       case first =>
        have H := HC67.out
        clear HC67
        by_cases c78 : t356 < 0
        ·
         rw [if_pos c78] at H
         have c78b0 : decide (t356 < 0) = true := decide_eq_true c78
         clear c78
         (first | rw [c78b0] | (simp only [i64_w, i32_w]; rw [c78b0]) | skip)
         have H' := Aside0.mk H
         clear H
         go_wp2
         go_meet
         case rel => exact ⟨_, (true), (by first | rfl | (simp; done) | (simp [*]; done)), H', ⟨by have := HJ13.out; first | omega | exact Nat.le_refl _⟩, ⟨by (with_reducible repeat (first | apply Kd.R_alloc | apply Kd.R_drewN | apply Kd.R_drew)); exact Kd.R_mono HO_330001.out (fun _ hk => ⟨hk.1, ⟨hk.2.1, ⟨hk.2.2.1, ⟨hk.2.2.2.1, hk.2.2.2.2.1⟩⟩⟩⟩)⟩, ⟨by (with_reducible repeat (first | apply Kd.R_alloc | apply Kd.R_drewN | apply Kd.R_drew)); exact Kd.R_mono HO_330002.out (fun _ hk => ⟨hk.1, ⟨hk.2.1, ⟨hk.2.2.1, ⟨hk.2.2.2.1, hk.2.2.2.2.1⟩⟩⟩⟩)⟩, ⟨by (with_reducible repeat (first | apply Kd.R_alloc | apply Kd.R_drewN | apply Kd.R_drew)); exact Kd.R_mono HO_338001.out (fun _ hk => ⟨hk.1.1.1, ⟨hk.1.1.2.1, ⟨hk.1.1.2.2.1, ⟨hk.1.1.2.2.2.1, hk.1.1.2.2.2.2⟩⟩⟩⟩)⟩, ⟨by (with_reducible repeat (first | apply Kd.R_alloc | apply Kd.R_drewN | apply Kd.R_drew)); exact Kd.R_mono HO_338002.out (fun _ hk => ⟨hk.1.1.1, ⟨hk.1.1.2.1, ⟨hk.1.1.2.2.1, ⟨hk.1.1.2.2.2.1, hk.1.1.2.2.2.2⟩⟩⟩⟩)⟩, ⟨by (with_reducible repeat (first | apply Kd.R_alloc | apply Kd.R_drewN | apply Kd.R_drew)); exact Kd.R_mono HO_347001.out (fun _ hk => ⟨hk.1, ⟨hk.2.1, ⟨hk.2.2.1, ⟨hk.2.2.2.1, hk.2.2.2.2.1⟩⟩⟩⟩)⟩, ⟨by (with_reducible repeat (first | apply Kd.R_alloc | apply Kd.R_drewN | apply Kd.R_drew)); exact Kd.R_mono HO_347002.out (fun _ hk => ⟨hk.1, ⟨hk.2.1, ⟨hk.2.2.1, ⟨hk.2.2.2.1, hk.2.2.2.2.1⟩⟩⟩⟩)⟩, ⟨by refine uW ?_; exact BK312.out⟩, ⟨by refine uW ?_; exact BK329.out⟩, ⟨by refine uW ?_; exact BK337.out⟩, ⟨by refine uW ?_; exact BK346.out⟩, ⟨by first | exact uB HB | exact uS HB (gC GE312 (gC GE329 (gC GE337 (gC GE346 gN))))⟩⟩
        ·
         rw [if_neg c78] at H
         have c78b0 : decide (t356 < 0) = false := decide_eq_false c78
         clear c78
         (first | rw [c78b0] | (simp only [i64_w, i32_w]; rw [c78b0]) | skip)
         replace H := Option.bind_eq_some_iff.mp H
         obtain ⟨t359, A790, H⟩ := H
         replace H : (if t359 = true then (laws_FnExactCuckooRemove.j1 kj13 a1 t328 (t345 != t328) a0_0 l0_1 l0_2 t321 t322 t325 t338 t339 t342) else (laws_FnExactCuckooRemove.j1 kj13 a1 t328 true a0_0 l0_1 l0_2 t321 t322 t325 t338 t339 t342)) = some r := H
         have A79 := Aside0.mk A790
         clear A790
         by_cases c80 : t359 = true
         ·
          subst c80
          have H1 : (laws_FnExactCuckooRemove.j1 kj13 a1 t328 (t345 != t328) a0_0 l0_1 l0_2 t321 t322 t325 t338 t339 t342) = some r := by rw [if_pos rfl] at H; exact H
          clear H
          have H := H1
          clear H1
          have H' := Aside0.mk H
          clear H
          have hnb81 := NB346_312.out
          have hnc81 := NB312_346.out
          have hnb82 := NB346_329.out
          have hnc82 := NB329_346.out
          have hnb83 := NB346_337.out
          have hnc83 := NB337_346.out
          have hcz84_0 : w77.cell? ⟨gb346, 0, none⟩ = some (.int .i64 t338) := (blk_cell BK346.out 0).trans rfl
          have hcz84_1 : w77.cell? ⟨gb346, 1, none⟩ = some (.slice Ao42 t339.length co42) := (blk_cell BK346.out 1).trans rfl
          have hcz84_2 : w77.cell? ⟨gb346, 2, none⟩ = some (.slice Ao43 t342.length co43) := (blk_cell BK346.out 2).trans rfl
          have hfz84_0 := blk_frozen BK346.out 0
          have hfz84_1 := blk_frozen BK346.out 1
          have hfz84_2 := blk_frozen BK346.out 2
          have hnb85 := NB329_312.out
          have hnc85 := NB312_329.out
          have hnb86 := NB329_337.out
          have hnc86 := NB337_329.out
          have hcz87_0 : w77.cell? ⟨gb329, 0, none⟩ = some (.int .i64 t321) := (blk_cell BK329.out 0).trans rfl
          have hcz87_1 : w77.cell? ⟨gb329, 1, none⟩ = some (.slice Ao26 t322.length co26) := (blk_cell BK329.out 1).trans rfl
          have hcz87_2 : w77.cell? ⟨gb329, 2, none⟩ = some (.slice Ao27 t325.length co27) := (blk_cell BK329.out 2).trans rfl
          have hfz87_0 := blk_frozen BK329.out 0
          have hfz87_1 := blk_frozen BK329.out 1
          have hfz87_2 := blk_frozen BK329.out 2
          go_wp2_with (first | (go_at_call 14; (with_reducible refine (laws_eqCuckoo.calls kj13 t338 _ _ t339 _ _ t342 t321 _ _ t322 _ _ t325 true _ ?side1 ?side2 ?side3 ?side4 ?side5 ?side6 ?side7 ?side8 A79.out).mono ?_); (case side1 => exact uD HO_347001); (case side2 => exact (Kd.R_reads' HO_347001.out).2.1); (case side3 => exact uD HO_347002); (case side4 => exact (Kd.R_reads' HO_347002.out).2.1); (case side5 => exact uD HO_330001); (case side6 => exact (Kd.R_reads' HO_330001.out).2.1); (case side7 => exact uD HO_330002); (case side8 => exact (Kd.R_reads' HO_330002.out).2.1); rintro e w88 ⟨rfl, hb⟩; have n0_ := Aside0.mk (Kd.R_below (uR HO_330001) hb); have n1_ := Aside0.mk (Kd.R_below (uR HO_330002) hb); have n2_ := Aside0.mk (Kd.R_below (uR HO_338001) hb); have n3_ := Aside0.mk (Kd.R_below (uR HO_338002) hb); have n4_ := Aside0.mk (Kd.R_below (uR HO_347001) hb); have n5_ := Aside0.mk (Kd.R_below (uR HO_347002) hb); have n6_ := Aside0.mk (Kd.R_below (uR HO351) hb); have n7_ := Aside0.mk (Kd.R_below (uR HO354) hb); have n8_ := Aside0.mk (blk_below (g := gb312) (o := .cells #[.int .i64 a0_0, .slice A0_1 l0_1.length c0_1, .slice A0_2 l0_2.length c0_2] 24 (0, 0)) (uK BK312) hb); have n9_ := Aside0.mk (blk_below (g := gb329) (o := .cells #[.int .i64 t321, .slice Ao26 t322.length co26, .slice Ao27 t325.length co27] 27 (0, 0)) (uK BK329) hb); have n10_ := Aside0.mk (blk_below (g := gb337) (o := .cells #[.int .i64 t330, .slice Ao34 t331.length co34, .slice Ao35 t334.length co35] 27 (0, 0)) (uK BK337) hb); have n11_ := Aside0.mk (blk_below (g := gb346) (o := .cells #[.int .i64 t338, .slice Ao42 t339.length co42, .slice Ao43 t342.length co43] 27 (0, 0)) (uK BK346) hb); have n12_ := Aside0.mk (below_step (by first | exact uB HB | exact uS HB (gC GE312 (gC GE329 (gC GE337 (gC GE346 gN))))) hb); clear HO_330001 HO_330002 HO_338001 HO_338002 HO_347001 HO_347002 HO351 HO354 BK312 BK329 BK337 BK346 HB; have HO_330001 := n0_; have HO_330002 := n1_; have HO_338001 := n2_; have HO_338002 := n3_; have HO_347001 := n4_; have HO_347002 := n5_; have HO351 := n6_; have HO354 := n7_; have BK312 := n8_; have BK329 := n9_; have BK337 := n10_; have BK346 := n11_; have HB := n12_; clear n0_ n1_ n2_ n3_ n4_ n5_ n6_ n7_ n8_ n9_ n10_ n11_ n12_; (try clear hb); (try clear hb2); (try clear hk); (try clear hi)))
          go_meet
          case rel => exact ⟨_, ((t345 != t328)), (by first | rfl | (simp; done) | (simp [*]; done)), H', ⟨by have := HJ13.out; first | omega | exact Nat.le_refl _⟩, ⟨by (with_reducible repeat (first | apply Kd.R_alloc | apply Kd.R_drewN | apply Kd.R_drew)); exact Kd.R_mono HO_330001.out (fun _ hk => ⟨hk.1, ⟨hk.2.1, ⟨hk.2.2.1, ⟨hk.2.2.2.1, hk.2.2.2.2.1⟩⟩⟩⟩)⟩, ⟨by (with_reducible repeat (first | apply Kd.R_alloc | apply Kd.R_drewN | apply Kd.R_drew)); exact Kd.R_mono HO_330002.out (fun _ hk => ⟨hk.1, ⟨hk.2.1, ⟨hk.2.2.1, ⟨hk.2.2.2.1, hk.2.2.2.2.1⟩⟩⟩⟩)⟩, ⟨by (with_reducible repeat (first | apply Kd.R_alloc | apply Kd.R_drewN | apply Kd.R_drew)); exact Kd.R_mono HO_338001.out (fun _ hk => ⟨hk.1.1.1, ⟨hk.1.1.2.1, ⟨hk.1.1.2.2.1, ⟨hk.1.1.2.2.2.1, hk.1.1.2.2.2.2⟩⟩⟩⟩)⟩, ⟨by (with_reducible repeat (first | apply Kd.R_alloc | apply Kd.R_drewN | apply Kd.R_drew)); exact Kd.R_mono HO_338002.out (fun _ hk => ⟨hk.1.1.1, ⟨hk.1.1.2.1, ⟨hk.1.1.2.2.1, ⟨hk.1.1.2.2.2.1, hk.1.1.2.2.2.2⟩⟩⟩⟩)⟩, ⟨by (with_reducible repeat (first | apply Kd.R_alloc | apply Kd.R_drewN | apply Kd.R_drew)); exact Kd.R_mono HO_347001.out (fun _ hk => ⟨hk.1, ⟨hk.2.1, ⟨hk.2.2.1, ⟨hk.2.2.2.1, hk.2.2.2.2.1⟩⟩⟩⟩)⟩, ⟨by (with_reducible repeat (first | apply Kd.R_alloc | apply Kd.R_drewN | apply Kd.R_drew)); exact Kd.R_mono HO_347002.out (fun _ hk => ⟨hk.1, ⟨hk.2.1, ⟨hk.2.2.1, ⟨hk.2.2.2.1, hk.2.2.2.2.1⟩⟩⟩⟩)⟩, ⟨by refine uW ?_; exact BK312.out⟩, ⟨by refine uW ?_; exact BK329.out⟩, ⟨by refine uW ?_; exact BK337.out⟩, ⟨by refine uW ?_; exact BK346.out⟩, ⟨by first | exact uB HB | exact uS HB (gC GE312 (gC GE329 (gC GE337 (gC GE346 gN))))⟩⟩
         ·
          replace c80 := Bool.eq_false_iff.mpr c80
          subst c80
          have H1 : (laws_FnExactCuckooRemove.j1 kj13 a1 t328 true a0_0 l0_1 l0_2 t321 t322 t325 t338 t339 t342) = some r := by rw [if_neg (show ¬ (false = true) by decide)] at H; exact H
          clear H
          have H := H1
          clear H1
          have H' := Aside0.mk H
          clear H
          have hnb89 := NB346_312.out
          have hnc89 := NB312_346.out
          have hnb90 := NB346_329.out
          have hnc90 := NB329_346.out
          have hnb91 := NB346_337.out
          have hnc91 := NB337_346.out
          have hcz92_0 : w77.cell? ⟨gb346, 0, none⟩ = some (.int .i64 t338) := (blk_cell BK346.out 0).trans rfl
          have hcz92_1 : w77.cell? ⟨gb346, 1, none⟩ = some (.slice Ao42 t339.length co42) := (blk_cell BK346.out 1).trans rfl
          have hcz92_2 : w77.cell? ⟨gb346, 2, none⟩ = some (.slice Ao43 t342.length co43) := (blk_cell BK346.out 2).trans rfl
          have hfz92_0 := blk_frozen BK346.out 0
          have hfz92_1 := blk_frozen BK346.out 1
          have hfz92_2 := blk_frozen BK346.out 2
          have hnb93 := NB329_312.out
          have hnc93 := NB312_329.out
          have hnb94 := NB329_337.out
          have hnc94 := NB337_329.out
          have hcz95_0 : w77.cell? ⟨gb329, 0, none⟩ = some (.int .i64 t321) := (blk_cell BK329.out 0).trans rfl
          have hcz95_1 : w77.cell? ⟨gb329, 1, none⟩ = some (.slice Ao26 t322.length co26) := (blk_cell BK329.out 1).trans rfl
          have hcz95_2 : w77.cell? ⟨gb329, 2, none⟩ = some (.slice Ao27 t325.length co27) := (blk_cell BK329.out 2).trans rfl
          have hfz95_0 := blk_frozen BK329.out 0
          have hfz95_1 := blk_frozen BK329.out 1
          have hfz95_2 := blk_frozen BK329.out 2
          go_wp2_with (first | (go_at_call 14; (with_reducible refine (laws_eqCuckoo.calls kj13 t338 _ _ t339 _ _ t342 t321 _ _ t322 _ _ t325 false _ ?side1 ?side2 ?side3 ?side4 ?side5 ?side6 ?side7 ?side8 A79.out).mono ?_); (case side1 => exact uD HO_347001); (case side2 => exact (Kd.R_reads' HO_347001.out).2.1); (case side3 => exact uD HO_347002); (case side4 => exact (Kd.R_reads' HO_347002.out).2.1); (case side5 => exact uD HO_330001); (case side6 => exact (Kd.R_reads' HO_330001.out).2.1); (case side7 => exact uD HO_330002); (case side8 => exact (Kd.R_reads' HO_330002.out).2.1); rintro e w96 ⟨rfl, hb⟩; have n0_ := Aside0.mk (Kd.R_below (uR HO_330001) hb); have n1_ := Aside0.mk (Kd.R_below (uR HO_330002) hb); have n2_ := Aside0.mk (Kd.R_below (uR HO_338001) hb); have n3_ := Aside0.mk (Kd.R_below (uR HO_338002) hb); have n4_ := Aside0.mk (Kd.R_below (uR HO_347001) hb); have n5_ := Aside0.mk (Kd.R_below (uR HO_347002) hb); have n6_ := Aside0.mk (Kd.R_below (uR HO351) hb); have n7_ := Aside0.mk (Kd.R_below (uR HO354) hb); have n8_ := Aside0.mk (blk_below (g := gb312) (o := .cells #[.int .i64 a0_0, .slice A0_1 l0_1.length c0_1, .slice A0_2 l0_2.length c0_2] 24 (0, 0)) (uK BK312) hb); have n9_ := Aside0.mk (blk_below (g := gb329) (o := .cells #[.int .i64 t321, .slice Ao26 t322.length co26, .slice Ao27 t325.length co27] 27 (0, 0)) (uK BK329) hb); have n10_ := Aside0.mk (blk_below (g := gb337) (o := .cells #[.int .i64 t330, .slice Ao34 t331.length co34, .slice Ao35 t334.length co35] 27 (0, 0)) (uK BK337) hb); have n11_ := Aside0.mk (blk_below (g := gb346) (o := .cells #[.int .i64 t338, .slice Ao42 t339.length co42, .slice Ao43 t342.length co43] 27 (0, 0)) (uK BK346) hb); have n12_ := Aside0.mk (below_step (by first | exact uB HB | exact uS HB (gC GE312 (gC GE329 (gC GE337 (gC GE346 gN))))) hb); clear HO_330001 HO_330002 HO_338001 HO_338002 HO_347001 HO_347002 HO351 HO354 BK312 BK329 BK337 BK346 HB; have HO_330001 := n0_; have HO_330002 := n1_; have HO_338001 := n2_; have HO_338002 := n3_; have HO_347001 := n4_; have HO_347002 := n5_; have HO351 := n6_; have HO354 := n7_; have BK312 := n8_; have BK329 := n9_; have BK337 := n10_; have BK346 := n11_; have HB := n12_; clear n0_ n1_ n2_ n3_ n4_ n5_ n6_ n7_ n8_ n9_ n10_ n11_ n12_; (try clear hb); (try clear hb2); (try clear hk); (try clear hi)))
          go_meet
          case rel => exact ⟨_, (true), (by first | rfl | (simp; done) | (simp [*]; done)), H', ⟨by have := HJ13.out; first | omega | exact Nat.le_refl _⟩, ⟨by (with_reducible repeat (first | apply Kd.R_alloc | apply Kd.R_drewN | apply Kd.R_drew)); exact Kd.R_mono HO_330001.out (fun _ hk => ⟨hk.1, ⟨hk.2.1, ⟨hk.2.2.1, ⟨hk.2.2.2.1, hk.2.2.2.2.1⟩⟩⟩⟩)⟩, ⟨by (with_reducible repeat (first | apply Kd.R_alloc | apply Kd.R_drewN | apply Kd.R_drew)); exact Kd.R_mono HO_330002.out (fun _ hk => ⟨hk.1, ⟨hk.2.1, ⟨hk.2.2.1, ⟨hk.2.2.2.1, hk.2.2.2.2.1⟩⟩⟩⟩)⟩, ⟨by (with_reducible repeat (first | apply Kd.R_alloc | apply Kd.R_drewN | apply Kd.R_drew)); exact Kd.R_mono HO_338001.out (fun _ hk => ⟨hk.1.1.1, ⟨hk.1.1.2.1, ⟨hk.1.1.2.2.1, ⟨hk.1.1.2.2.2.1, hk.1.1.2.2.2.2⟩⟩⟩⟩)⟩, ⟨by (with_reducible repeat (first | apply Kd.R_alloc | apply Kd.R_drewN | apply Kd.R_drew)); exact Kd.R_mono HO_338002.out (fun _ hk => ⟨hk.1.1.1, ⟨hk.1.1.2.1, ⟨hk.1.1.2.2.1, ⟨hk.1.1.2.2.2.1, hk.1.1.2.2.2.2⟩⟩⟩⟩)⟩, ⟨by (with_reducible repeat (first | apply Kd.R_alloc | apply Kd.R_drewN | apply Kd.R_drew)); exact Kd.R_mono HO_347001.out (fun _ hk => ⟨hk.1, ⟨hk.2.1, ⟨hk.2.2.1, ⟨hk.2.2.2.1, hk.2.2.2.2.1⟩⟩⟩⟩)⟩, ⟨by (with_reducible repeat (first | apply Kd.R_alloc | apply Kd.R_drewN | apply Kd.R_drew)); exact Kd.R_mono HO_347002.out (fun _ hk => ⟨hk.1, ⟨hk.2.1, ⟨hk.2.2.1, ⟨hk.2.2.2.1, hk.2.2.2.2.1⟩⟩⟩⟩)⟩, ⟨by refine uW ?_; exact BK312.out⟩, ⟨by refine uW ?_; exact BK329.out⟩, ⟨by refine uW ?_; exact BK337.out⟩, ⟨by refine uW ?_; exact BK346.out⟩, ⟨by first | exact uB HB | exact uS HB (gC GE312 (gC GE329 (gC GE337 (gC GE346 gN))))⟩⟩
       case rest =>
        clear HC67
        try clear c1
        try clear c2
        try clear p2
        try clear c3
        try clear c3b0
        try clear c3b1
        try clear c4
        try clear c5
        try clear c6
        try clear c6b0
        try clear c7
        try clear c8
        try clear c9
        try clear c10
        try clear c12
        try clear c14
        try clear c20
        try clear c24
        try clear c26
        try clear c27
        try clear c31
        try clear c32
        try clear c38
        try clear c39
        try clear c40
        try clear c45
        try clear c46
        try clear c47
        try clear c48
        try clear c50
        try clear c51
        try clear c54
        try clear c55
        try clear c56
        try clear c58
        try clear c59
        try clear c62
        try clear c65
        try clear c73
        try clear c74
        try clear c75
        try clear c78
        try clear c78b0
        try clear c80
        try clear c81
        try clear c82
        try clear c83
        try clear c85
        try clear c86
        try clear c89
        try clear c90
        try clear c91
        try clear c93
        try clear c94
        try clear hcz16_0
        try clear hcz16_1
        try clear hcz16_2
        try clear hcz18_0
        try clear hcz18_1
        try clear hcz18_2
        try clear hcz25_0
        try clear hcz25_1
        try clear hcz25_2
        try clear hcz28_0
        try clear hcz28_1
        try clear hcz28_2
        try clear hcz33_0
        try clear hcz33_1
        try clear hcz33_2
        try clear hcz41_0
        try clear hcz41_1
        try clear hcz41_2
        try clear hcz49_0
        try clear hcz49_1
        try clear hcz49_2
        try clear hcz52_0
        try clear hcz52_1
        try clear hcz52_2
        try clear hcz57_0
        try clear hcz57_1
        try clear hcz57_2
        try clear hcz60_0
        try clear hcz60_1
        try clear hcz60_2
        try clear hcz76_0
        try clear hcz76_1
        try clear hcz76_2
        try clear hcz84_0
        try clear hcz84_1
        try clear hcz84_2
        try clear hcz87_0
        try clear hcz87_1
        try clear hcz87_2
        try clear hcz8_0
        try clear hcz8_1
        try clear hcz8_2
        try clear hcz92_0
        try clear hcz92_1
        try clear hcz92_2
        try clear hcz95_0
        try clear hcz95_1
        try clear hcz95_2
        try clear hfz16_0
        try clear hfz16_1
        try clear hfz16_2
        try clear hfz18_0
        try clear hfz18_1
        try clear hfz18_2
        try clear hfz25_0
        try clear hfz25_1
        try clear hfz25_2
        try clear hfz28_0
        try clear hfz28_1
        try clear hfz28_2
        try clear hfz33_0
        try clear hfz33_1
        try clear hfz33_2
        try clear hfz41_0
        try clear hfz41_1
        try clear hfz41_2
        try clear hfz49_0
        try clear hfz49_1
        try clear hfz49_2
        try clear hfz52_0
        try clear hfz52_1
        try clear hfz52_2
        try clear hfz57_0
        try clear hfz57_1
        try clear hfz57_2
        try clear hfz60_0
        try clear hfz60_1
        try clear hfz60_2
        try clear hfz76_0
        try clear hfz76_1
        try clear hfz76_2
        try clear hfz84_0
        try clear hfz84_1
        try clear hfz84_2
        try clear hfz87_0
        try clear hfz87_1
        try clear hfz87_2
        try clear hfz8_0
        try clear hfz8_1
        try clear hfz8_2
        try clear hfz92_0
        try clear hfz92_1
        try clear hfz92_2
        try clear hfz95_0
        try clear hfz95_1
        try clear hfz95_2
        try clear p2
        obtain ⟨kq, x68_66, rfl, HA, HJ66, HO_330001, HO_330002, HO_338001, HO_338002, HO_347001, HO_347002, BK312, BK329, BK337, BK346, HB⟩ := hcut
        have hl338001_66 := (Kd.R_reads' HO_338001.out).1
        rw [hl338001_66] at HO_338001
        (try simp only [hl338001_66])
        (try simp only [hl338001_66] at BK312)
        (try simp only [hl338001_66] at BK329)
        (try simp only [hl338001_66] at BK337)
        (try simp only [hl338001_66] at BK346)
        (try simp only [hl338001_66] at HO_330001)
        (try simp only [hl338001_66] at HO_330002)
        (try simp only [hl338001_66] at HO_338002)
        (try simp only [hl338001_66] at HO_347001)
        (try simp only [hl338001_66] at HO_347002)
        have hl338002_66 := (Kd.R_reads' HO_338002.out).1
        rw [hl338002_66] at HO_338002
        (try simp only [hl338002_66])
        (try simp only [hl338002_66] at BK312)
        (try simp only [hl338002_66] at BK329)
        (try simp only [hl338002_66] at BK337)
        (try simp only [hl338002_66] at BK346)
        (try simp only [hl338002_66] at HO_330001)
        (try simp only [hl338002_66] at HO_330002)
        (try simp only [hl338002_66] at HO_338001)
        (try simp only [hl338002_66] at HO_347001)
        (try simp only [hl338002_66] at HO_347002)
        cases kq with
        | zero => exact absurd HA.out (by simp [laws_FnExactCuckooRemove.j1])
        | succ kj66 =>
         have H := HA.out
         clear HA
         simp only [laws_FnExactCuckooRemove.j1] at H
         by_cases c97 : x68_66 = true
         ·
          subst c97
          have H1 : (some false) = some r := by rw [if_pos rfl] at H; exact H
          clear H
          have H := H1
          clear H1
          obtain rfl := Option.some.inj H
          go_wp2
          go_ret
          exact ⟨by first | rfl | (simp [errW_none, errW_some] <;> rfl) | (simp [*, errW_none, errW_some] <;> rfl), by first | exact uB HB | exact uS HB (gC GE312 (gC GE329 (gC GE337 (gC GE346 gN))))⟩
         ·
          replace c97 := Bool.eq_false_iff.mpr c97
          subst c97
          have H1 : ((laws_markCuckoo.f kj66 t338 t339 t342 1).bind fun bt360 => ((laws_heldCuckoo.f kj66 t338 bt360.2.1 bt360.2.2 1).bind fun t363 => (if t363 < 0 then (some false) else (if t363 = bt360.1 then ((laws_toCuckoo.f kj66 a0_0 l0_1 l0_2).bind fun bt364 => ((impl_CuckooRemove.f kj66 bt364.1 bt364.2.1 bt364.2.2 a1).bind fun bt371 => ((laws_eqCuckoo.f kj66 bt371.1 bt371.2.1 bt371.2.2.1 t321 t322 t325).bind fun t380 => (if t380 = true then (laws_FnExactCuckooRemove.j2 kj66 bt360.1 (bt371.2.2.2 != t328) t338 bt360.2.1 bt360.2.2) else (laws_FnExactCuckooRemove.j2 kj66 bt360.1 true t338 bt360.2.1 bt360.2.2))))) else (some false))))) = some r := by rw [if_neg (show ¬ (false = true) by decide)] at H; exact H
          clear H
          have H := H1
          clear H1
          replace H := Option.bind_eq_some_iff.mp H
          obtain ⟨⟨t360, t361, t362⟩, A980, H⟩ := H
          replace H : ((laws_heldCuckoo.f kj66 t338 t361 t362 1).bind fun t363 => (if t363 < 0 then (some false) else (if t363 = t360 then ((laws_toCuckoo.f kj66 a0_0 l0_1 l0_2).bind fun bt364 => ((impl_CuckooRemove.f kj66 bt364.1 bt364.2.1 bt364.2.2 a1).bind fun bt371 => ((laws_eqCuckoo.f kj66 bt371.1 bt371.2.1 bt371.2.2.1 t321 t322 t325).bind fun t380 => (if t380 = true then (laws_FnExactCuckooRemove.j2 kj66 t360 (bt371.2.2.2 != t328) t338 t361 t362) else (laws_FnExactCuckooRemove.j2 kj66 t360 true t338 t361 t362))))) else (some false)))) = some r := H
          have A98 := Aside0.mk A980
          clear A980
          replace H := Option.bind_eq_some_iff.mp H
          obtain ⟨t363, A990, H⟩ := H
          replace H : (if t363 < 0 then (some false) else (if t363 = t360 then ((laws_toCuckoo.f kj66 a0_0 l0_1 l0_2).bind fun bt364 => ((impl_CuckooRemove.f kj66 bt364.1 bt364.2.1 bt364.2.2 a1).bind fun bt371 => ((laws_eqCuckoo.f kj66 bt371.1 bt371.2.1 bt371.2.2.1 t321 t322 t325).bind fun t380 => (if t380 = true then (laws_FnExactCuckooRemove.j2 kj66 t360 (bt371.2.2.2 != t328) t338 t361 t362) else (laws_FnExactCuckooRemove.j2 kj66 t360 true t338 t361 t362))))) else (some false))) = some r := H
          have A99 := Aside0.mk A990
          clear A990
          by_cases c100 : t363 < 0
          ·
           rw [if_pos c100] at H
           have c100b0 : decide (t363 < 0) = true := decide_eq_true c100
           clear c100
           obtain rfl := Option.some.inj H
           have hnb101 := NB346_312.out
           have hnc101 := NB312_346.out
           have hnb102 := NB346_329.out
           have hnc102 := NB329_346.out
           have hnb103 := NB346_337.out
           have hnc103 := NB337_346.out
           have hcz104_0 : wc.cell? ⟨gb346, 0, none⟩ = some (.int .i64 t338) := (blk_cell BK346.out 0).trans rfl
           have hcz104_1 : wc.cell? ⟨gb346, 1, none⟩ = some (.slice Ao42 t339.length co42) := (blk_cell BK346.out 1).trans rfl
           have hcz104_2 : wc.cell? ⟨gb346, 2, none⟩ = some (.slice Ao43 t342.length co43) := (blk_cell BK346.out 2).trans rfl
           have hfz104_0 := blk_frozen BK346.out 0
           have hfz104_1 := blk_frozen BK346.out 1
           have hfz104_2 := blk_frozen BK346.out 2
           go_wp2_with (first | ((with_reducible refine gate_callee (f := 20) rfl ?_); refine goesL_ (some 71) rfl rfl Try.func20 (by kernel_rfl) rfl #[.agg #[.int .i64 t338, .slice Ao42 t339.length co42, .slice Ao43 t342.length co43], .int .i64 1] rfl (by (try simp only [List.map_toArray, List.map_cons, List.map_nil]); first | done | rfl | (simp only [List.length_drop, List.length_take]; rfl)) ?_; (with_reducible refine (laws_markCuckoo.calls kj66 t338 (fun k_ => some k_ = (.slice Ao42 t339.length co42 : Value).ownBlock) (.slice Ao42 t339.length co42) t339 (fun k_ => some k_ = (.slice Ao43 t342.length co43 : Value).ownBlock) (.slice Ao43 t342.length co43) t342 1 t360 t361 t362 w _ ?side1 ?side2 ?side3 ?side4 ?side5 A98.out).mono ?_); (case side1 => first | exact uB HB | exact uS HB (gC GE312 (gC GE329 (gC GE337 (gC GE346 gN))))); (case side2 => exact Kd.R_tight rfl HO_347001.out); (case side3 => exact fun k_ e_ => (HO_347001.out.1 k_ e_.symm).2.2.2.2); (case side4 => exact Kd.R_tight rfl HO_347002.out); (case side5 => exact fun k_ e_ => (HO_347002.out.1 k_ e_.symm).2.2.2.2); rintro e w105 ⟨rfl, hy0, hy1, hb, hkp⟩; refine ⟨_, rfl, ?_⟩; have n0_ := Aside0.mk (Kd.R_mono (ok' := fun k_ => some k_ ≠ (.slice Ao27 t325.length co27 : Value).ownBlock ∧ some k_ ≠ (.slice Ao34 t357.length co34 : Value).ownBlock ∧ some k_ ≠ (.slice Ao35 t358.length co35 : Value).ownBlock ∧ some k_ ≠ (.slice Ao42 t339.length co42 : Value).ownBlock ∧ some k_ ≠ (.slice Ao43 t342.length co43 : Value).ownBlock) (Kd.R_keptB (HO_330001.out) hkp (fun k_ hk_ hs_ => Or.elim hs_ (fun e_ => (hk_.2.2.2.1) e_) (fun e_ => (hk_.2.2.2.2) e_))) (fun k_ hk_ => ⟨hk_.1.1, hk_.1.2.1, hk_.1.2.2.1, hk_.1.2.2.2.1, hk_.1.2.2.2.2⟩)); have n1_ := Aside0.mk (Kd.R_mono (ok' := fun k_ => some k_ ≠ (.slice Ao26 t322.length co26 : Value).ownBlock ∧ some k_ ≠ (.slice Ao34 t357.length co34 : Value).ownBlock ∧ some k_ ≠ (.slice Ao35 t358.length co35 : Value).ownBlock ∧ some k_ ≠ (.slice Ao42 t339.length co42 : Value).ownBlock ∧ some k_ ≠ (.slice Ao43 t342.length co43 : Value).ownBlock) (Kd.R_keptB (HO_330002.out) hkp (fun k_ hk_ hs_ => Or.elim hs_ (fun e_ => (hk_.2.2.2.1) e_) (fun e_ => (hk_.2.2.2.2) e_))) (fun k_ hk_ => ⟨hk_.1.1, hk_.1.2.1, hk_.1.2.2.1, hk_.1.2.2.2.1, hk_.1.2.2.2.2⟩)); have n2_ := Aside0.mk (Kd.R_mono (ok' := fun k_ => some k_ ≠ (.slice Ao26 t322.length co26 : Value).ownBlock ∧ some k_ ≠ (.slice Ao27 t325.length co27 : Value).ownBlock ∧ some k_ ≠ (.slice Ao35 t358.length co35 : Value).ownBlock ∧ some k_ ≠ (.slice Ao42 t339.length co42 : Value).ownBlock ∧ some k_ ≠ (.slice Ao43 t342.length co43 : Value).ownBlock) (Kd.R_keptB (HO_338001.out) hkp (fun k_ hk_ hs_ => Or.elim hs_ (fun e_ => (hk_.2.2.2.1) e_) (fun e_ => (hk_.2.2.2.2) e_))) (fun k_ hk_ => ⟨hk_.1.1, hk_.1.2.1, hk_.1.2.2.1, hk_.1.2.2.2.1, hk_.1.2.2.2.2⟩)); have n3_ := Aside0.mk (Kd.R_mono (ok' := fun k_ => some k_ ≠ (.slice Ao26 t322.length co26 : Value).ownBlock ∧ some k_ ≠ (.slice Ao27 t325.length co27 : Value).ownBlock ∧ some k_ ≠ (.slice Ao34 t357.length co34 : Value).ownBlock ∧ some k_ ≠ (.slice Ao42 t339.length co42 : Value).ownBlock ∧ some k_ ≠ (.slice Ao43 t342.length co43 : Value).ownBlock) (Kd.R_keptB (HO_338002.out) hkp (fun k_ hk_ hs_ => Or.elim hs_ (fun e_ => (hk_.2.2.2.1) e_) (fun e_ => (hk_.2.2.2.2) e_))) (fun k_ hk_ => ⟨hk_.1.1, hk_.1.2.1, hk_.1.2.2.1, hk_.1.2.2.2.1, hk_.1.2.2.2.2⟩)); have n4_ := Aside0.mk (Kd.R_reok rfl hy0 (fun k_ e_ => HO_347001.out.1 k_ e_)); have n5_ := Aside0.mk (Kd.R_reok rfl hy1 (fun k_ e_ => HO_347002.out.1 k_ e_)); have n6_ := Aside0.mk (blk_kept (uK BK312) hkp (fun hs_ => Or.elim hs_ (fun e_ => (fun e_ => (Kd.R_ne HO_347001.out BK312.out (by decide)) e_) e_) (fun e_ => (fun e_ => (Kd.R_ne HO_347002.out BK312.out (by decide)) e_) e_))); have n7_ := Aside0.mk (blk_kept (uK BK329) hkp (fun hs_ => Or.elim hs_ (fun e_ => (fun e_ => (Kd.R_ne HO_347001.out BK329.out (by decide)) e_) e_) (fun e_ => (fun e_ => (Kd.R_ne HO_347002.out BK329.out (by decide)) e_) e_))); have n8_ := Aside0.mk (blk_kept (uK BK337) hkp (fun hs_ => Or.elim hs_ (fun e_ => (fun e_ => (Kd.R_ne HO_347001.out BK337.out (by decide)) e_) e_) (fun e_ => (fun e_ => (Kd.R_ne HO_347002.out BK337.out (by decide)) e_) e_))); have n9_ := Aside0.mk (blk_kept (uK BK346) hkp (fun hs_ => Or.elim hs_ (fun e_ => (fun e_ => (Kd.R_ne HO_347001.out BK346.out (by decide)) e_) e_) (fun e_ => (fun e_ => (Kd.R_ne HO_347002.out BK346.out (by decide)) e_) e_))); have n10_ := Aside0.mk (hb); clear HO_330001 HO_330002 HO_338001 HO_338002 HO_347001 HO_347002 BK312 BK329 BK337 BK346 HB; have HO_330001 := n0_; have HO_330002 := n1_; have HO_338001 := n2_; have HO_338002 := n3_; have HO_347001 := n4_; have HO_347002 := n5_; have BK312 := n6_; have BK329 := n7_; have BK337 := n8_; have BK346 := n9_; have HB := n10_; clear n0_ n1_ n2_ n3_ n4_ n5_ n6_ n7_ n8_ n9_ n10_; (try clear hb); (try clear hkp); (try clear hy0); (try clear hy1); have hcz106_0 : w105.cell? ⟨gb346, 0, none⟩ = some (.int .i64 t338) := (blk_cell BK346.out 0).trans rfl; have hcz106_1 : w105.cell? ⟨gb346, 1, none⟩ = some (.slice Ao42 t339.length co42) := (blk_cell BK346.out 1).trans rfl; have hcz106_2 : w105.cell? ⟨gb346, 2, none⟩ = some (.slice Ao43 t342.length co43) := (blk_cell BK346.out 2).trans rfl; have hfz106_0 := blk_frozen BK346.out 0; have hfz106_1 := blk_frozen BK346.out 1; have hfz106_2 := blk_frozen BK346.out 2) | ((with_reducible refine gate_callee (f := 25) rfl ?_); refine goesL_ (some 74) rfl rfl Try.func25 (by kernel_rfl) rfl #[.agg #[.int .i64 t338, .slice Ao42 t361.length co42, .slice Ao43 t362.length co43], .int .i64 1] rfl (by (try simp only [List.map_toArray, List.map_cons, List.map_nil]); first | done | (rw [show t361.length = t339.length from (Kd.R_reads' HO_347001.out).1.symm, show t362.length = t342.length from (Kd.R_reads' HO_347002.out).1.symm] <;> rfl) | rfl | (simp only [List.length_drop, List.length_take]; rfl)) ?_; (with_reducible refine (laws_heldCuckoo.calls kj66 t338 _ _ t361 _ _ t362 1 t363 _ ?side1 ?side2 ?side3 ?side4 A99.out).mono ?_); (case side1 => exact uD HO_347001); (case side2 => rw [show t361.length = t339.length from (Kd.R_reads' HO_347001.out).1.symm]; exact (Kd.R_reads' HO_347001.out).2.1); (case side3 => exact uD HO_347002); (case side4 => rw [show t362.length = t342.length from (Kd.R_reads' HO_347002.out).1.symm]; exact (Kd.R_reads' HO_347002.out).2.1); rintro e w107 ⟨rfl, hb⟩; refine ⟨_, rfl, ?_⟩; have n0_ := Aside0.mk (Kd.R_below (uR HO_330001) hb); have n1_ := Aside0.mk (Kd.R_below (uR HO_330002) hb); have n2_ := Aside0.mk (Kd.R_below (uR HO_338001) hb); have n3_ := Aside0.mk (Kd.R_below (uR HO_338002) hb); have n4_ := Aside0.mk (Kd.R_below (uR HO_347001) hb); have n5_ := Aside0.mk (Kd.R_below (uR HO_347002) hb); have n6_ := Aside0.mk (blk_below (g := gb312) (o := .cells #[.int .i64 a0_0, .slice A0_1 l0_1.length c0_1, .slice A0_2 l0_2.length c0_2] 24 (0, 0)) (uK BK312) hb); have n7_ := Aside0.mk (blk_below (g := gb329) (o := .cells #[.int .i64 t321, .slice Ao26 t322.length co26, .slice Ao27 t325.length co27] 27 (0, 0)) (uK BK329) hb); have n8_ := Aside0.mk (blk_below (g := gb337) (o := .cells #[.int .i64 t330, .slice Ao34 t357.length co34, .slice Ao35 t358.length co35] 27 (0, 0)) (uK BK337) hb); have n9_ := Aside0.mk (blk_below (g := gb346) (o := .cells #[.int .i64 t338, .slice Ao42 t339.length co42, .slice Ao43 t342.length co43] 27 (0, 0)) (uK BK346) hb); have n10_ := Aside0.mk (below_step (by first | exact uB HB | exact uS HB (gC GE312 (gC GE329 (gC GE337 (gC GE346 gN))))) hb); clear HO_330001 HO_330002 HO_338001 HO_338002 HO_347001 HO_347002 BK312 BK329 BK337 BK346 HB; have HO_330001 := n0_; have HO_330002 := n1_; have HO_338001 := n2_; have HO_338002 := n3_; have HO_347001 := n4_; have HO_347002 := n5_; have BK312 := n6_; have BK329 := n7_; have BK337 := n8_; have BK346 := n9_; have HB := n10_; clear n0_ n1_ n2_ n3_ n4_ n5_ n6_ n7_ n8_ n9_ n10_; (try clear hb); (try clear hb2); (try clear hk); (try clear hi)))
           go_ret
           exact ⟨by first | rfl | (simp [errW_none, errW_some] <;> rfl) | (simp [*, errW_none, errW_some] <;> rfl), by first | exact uB HB | exact uS HB (gC GE312 (gC GE329 (gC GE337 (gC GE346 gN))))⟩
          ·
           rw [if_neg c100] at H
           have c100b0 : decide (t363 < 0) = false := decide_eq_false c100
           clear c100
           by_cases c108 : t363 = t360
           ·
            rw [if_pos c108] at H
            have c108b0 : (t363 == t360) = true := beq_iff_eq.mpr c108
            have c108b1 : (t363 != t360) = false := bne_eq_false_iff_eq.mpr c108
            clear c108
            replace H := Option.bind_eq_some_iff.mp H
            obtain ⟨⟨t364, t365, t368⟩, A1090, H⟩ := H
            replace H : ((impl_CuckooRemove.f kj66 t364 t365 t368 a1).bind fun bt371 => ((laws_eqCuckoo.f kj66 bt371.1 bt371.2.1 bt371.2.2.1 t321 t322 t325).bind fun t380 => (if t380 = true then (laws_FnExactCuckooRemove.j2 kj66 t360 (bt371.2.2.2 != t328) t338 t361 t362) else (laws_FnExactCuckooRemove.j2 kj66 t360 true t338 t361 t362)))) = some r := H
            have A109 := Aside0.mk A1090
            clear A1090
            replace H := Option.bind_eq_some_iff.mp H
            obtain ⟨⟨t371, t372, t375, t378⟩, A1100, H⟩ := H
            replace H : ((laws_eqCuckoo.f kj66 t371 t372 t375 t321 t322 t325).bind fun t380 => (if t380 = true then (laws_FnExactCuckooRemove.j2 kj66 t360 (t378 != t328) t338 t361 t362) else (laws_FnExactCuckooRemove.j2 kj66 t360 true t338 t361 t362))) = some r := H
            have A110 := Aside0.mk A1100
            clear A1100
            have HC111 := Aside0.mk H
            clear H
            have hnb112 := NB346_312.out
            have hnc112 := NB312_346.out
            have hnb113 := NB346_329.out
            have hnc113 := NB329_346.out
            have hnb114 := NB346_337.out
            have hnc114 := NB337_346.out
            have hcz115_0 : wc.cell? ⟨gb346, 0, none⟩ = some (.int .i64 t338) := (blk_cell BK346.out 0).trans rfl
            have hcz115_1 : wc.cell? ⟨gb346, 1, none⟩ = some (.slice Ao42 t339.length co42) := (blk_cell BK346.out 1).trans rfl
            have hcz115_2 : wc.cell? ⟨gb346, 2, none⟩ = some (.slice Ao43 t342.length co43) := (blk_cell BK346.out 2).trans rfl
            have hfz115_0 := blk_frozen BK346.out 0
            have hfz115_1 := blk_frozen BK346.out 1
            have hfz115_2 := blk_frozen BK346.out 2
            go_upto_region 27 with (first | ((with_reducible refine gate_callee (f := 20) rfl ?_); refine goesL_ (some 71) rfl rfl Try.func20 (by kernel_rfl) rfl #[.agg #[.int .i64 t338, .slice Ao42 t339.length co42, .slice Ao43 t342.length co43], .int .i64 1] rfl (by (try simp only [List.map_toArray, List.map_cons, List.map_nil]); first | done | rfl | (simp only [List.length_drop, List.length_take]; rfl)) ?_; (with_reducible refine (laws_markCuckoo.calls kj66 t338 (fun k_ => some k_ = (.slice Ao42 t339.length co42 : Value).ownBlock) (.slice Ao42 t339.length co42) t339 (fun k_ => some k_ = (.slice Ao43 t342.length co43 : Value).ownBlock) (.slice Ao43 t342.length co43) t342 1 t360 t361 t362 w _ ?side1 ?side2 ?side3 ?side4 ?side5 A98.out).mono ?_); (case side1 => first | exact uB HB | exact uS HB (gC GE312 (gC GE329 (gC GE337 (gC GE346 gN))))); (case side2 => exact Kd.R_tight rfl HO_347001.out); (case side3 => exact fun k_ e_ => (HO_347001.out.1 k_ e_.symm).2.2.2.2); (case side4 => exact Kd.R_tight rfl HO_347002.out); (case side5 => exact fun k_ e_ => (HO_347002.out.1 k_ e_.symm).2.2.2.2); rintro e w116 ⟨rfl, hy0, hy1, hb, hkp⟩; refine ⟨_, rfl, ?_⟩; have n0_ := Aside0.mk (Kd.R_mono (ok' := fun k_ => some k_ ≠ (.slice Ao27 t325.length co27 : Value).ownBlock ∧ some k_ ≠ (.slice Ao34 t357.length co34 : Value).ownBlock ∧ some k_ ≠ (.slice Ao35 t358.length co35 : Value).ownBlock ∧ some k_ ≠ (.slice Ao42 t339.length co42 : Value).ownBlock ∧ some k_ ≠ (.slice Ao43 t342.length co43 : Value).ownBlock) (Kd.R_keptB (HO_330001.out) hkp (fun k_ hk_ hs_ => Or.elim hs_ (fun e_ => (hk_.2.2.2.1) e_) (fun e_ => (hk_.2.2.2.2) e_))) (fun k_ hk_ => ⟨hk_.1.1, hk_.1.2.1, hk_.1.2.2.1, hk_.1.2.2.2.1, hk_.1.2.2.2.2⟩)); have n1_ := Aside0.mk (Kd.R_mono (ok' := fun k_ => some k_ ≠ (.slice Ao26 t322.length co26 : Value).ownBlock ∧ some k_ ≠ (.slice Ao34 t357.length co34 : Value).ownBlock ∧ some k_ ≠ (.slice Ao35 t358.length co35 : Value).ownBlock ∧ some k_ ≠ (.slice Ao42 t339.length co42 : Value).ownBlock ∧ some k_ ≠ (.slice Ao43 t342.length co43 : Value).ownBlock) (Kd.R_keptB (HO_330002.out) hkp (fun k_ hk_ hs_ => Or.elim hs_ (fun e_ => (hk_.2.2.2.1) e_) (fun e_ => (hk_.2.2.2.2) e_))) (fun k_ hk_ => ⟨hk_.1.1, hk_.1.2.1, hk_.1.2.2.1, hk_.1.2.2.2.1, hk_.1.2.2.2.2⟩)); have n2_ := Aside0.mk (Kd.R_mono (ok' := fun k_ => some k_ ≠ (.slice Ao26 t322.length co26 : Value).ownBlock ∧ some k_ ≠ (.slice Ao27 t325.length co27 : Value).ownBlock ∧ some k_ ≠ (.slice Ao35 t358.length co35 : Value).ownBlock ∧ some k_ ≠ (.slice Ao42 t339.length co42 : Value).ownBlock ∧ some k_ ≠ (.slice Ao43 t342.length co43 : Value).ownBlock) (Kd.R_keptB (HO_338001.out) hkp (fun k_ hk_ hs_ => Or.elim hs_ (fun e_ => (hk_.2.2.2.1) e_) (fun e_ => (hk_.2.2.2.2) e_))) (fun k_ hk_ => ⟨hk_.1.1, hk_.1.2.1, hk_.1.2.2.1, hk_.1.2.2.2.1, hk_.1.2.2.2.2⟩)); have n3_ := Aside0.mk (Kd.R_mono (ok' := fun k_ => some k_ ≠ (.slice Ao26 t322.length co26 : Value).ownBlock ∧ some k_ ≠ (.slice Ao27 t325.length co27 : Value).ownBlock ∧ some k_ ≠ (.slice Ao34 t357.length co34 : Value).ownBlock ∧ some k_ ≠ (.slice Ao42 t339.length co42 : Value).ownBlock ∧ some k_ ≠ (.slice Ao43 t342.length co43 : Value).ownBlock) (Kd.R_keptB (HO_338002.out) hkp (fun k_ hk_ hs_ => Or.elim hs_ (fun e_ => (hk_.2.2.2.1) e_) (fun e_ => (hk_.2.2.2.2) e_))) (fun k_ hk_ => ⟨hk_.1.1, hk_.1.2.1, hk_.1.2.2.1, hk_.1.2.2.2.1, hk_.1.2.2.2.2⟩)); have n4_ := Aside0.mk (Kd.R_reok rfl hy0 (fun k_ e_ => HO_347001.out.1 k_ e_)); have n5_ := Aside0.mk (Kd.R_reok rfl hy1 (fun k_ e_ => HO_347002.out.1 k_ e_)); have n6_ := Aside0.mk (blk_kept (uK BK312) hkp (fun hs_ => Or.elim hs_ (fun e_ => (fun e_ => (Kd.R_ne HO_347001.out BK312.out (by decide)) e_) e_) (fun e_ => (fun e_ => (Kd.R_ne HO_347002.out BK312.out (by decide)) e_) e_))); have n7_ := Aside0.mk (blk_kept (uK BK329) hkp (fun hs_ => Or.elim hs_ (fun e_ => (fun e_ => (Kd.R_ne HO_347001.out BK329.out (by decide)) e_) e_) (fun e_ => (fun e_ => (Kd.R_ne HO_347002.out BK329.out (by decide)) e_) e_))); have n8_ := Aside0.mk (blk_kept (uK BK337) hkp (fun hs_ => Or.elim hs_ (fun e_ => (fun e_ => (Kd.R_ne HO_347001.out BK337.out (by decide)) e_) e_) (fun e_ => (fun e_ => (Kd.R_ne HO_347002.out BK337.out (by decide)) e_) e_))); have n9_ := Aside0.mk (blk_kept (uK BK346) hkp (fun hs_ => Or.elim hs_ (fun e_ => (fun e_ => (Kd.R_ne HO_347001.out BK346.out (by decide)) e_) e_) (fun e_ => (fun e_ => (Kd.R_ne HO_347002.out BK346.out (by decide)) e_) e_))); have n10_ := Aside0.mk (hb); clear HO_330001 HO_330002 HO_338001 HO_338002 HO_347001 HO_347002 BK312 BK329 BK337 BK346 HB; have HO_330001 := n0_; have HO_330002 := n1_; have HO_338001 := n2_; have HO_338002 := n3_; have HO_347001 := n4_; have HO_347002 := n5_; have BK312 := n6_; have BK329 := n7_; have BK337 := n8_; have BK346 := n9_; have HB := n10_; clear n0_ n1_ n2_ n3_ n4_ n5_ n6_ n7_ n8_ n9_ n10_; (try clear hb); (try clear hkp); (try clear hy0); (try clear hy1); have hcz117_0 : w116.cell? ⟨gb346, 0, none⟩ = some (.int .i64 t338) := (blk_cell BK346.out 0).trans rfl; have hcz117_1 : w116.cell? ⟨gb346, 1, none⟩ = some (.slice Ao42 t339.length co42) := (blk_cell BK346.out 1).trans rfl; have hcz117_2 : w116.cell? ⟨gb346, 2, none⟩ = some (.slice Ao43 t342.length co43) := (blk_cell BK346.out 2).trans rfl; have hfz117_0 := blk_frozen BK346.out 0; have hfz117_1 := blk_frozen BK346.out 1; have hfz117_2 := blk_frozen BK346.out 2) | ((with_reducible refine gate_callee (f := 25) rfl ?_); refine goesL_ (some 74) rfl rfl Try.func25 (by kernel_rfl) rfl #[.agg #[.int .i64 t338, .slice Ao42 t361.length co42, .slice Ao43 t362.length co43], .int .i64 1] rfl (by (try simp only [List.map_toArray, List.map_cons, List.map_nil]); first | done | (rw [show t361.length = t339.length from (Kd.R_reads' HO_347001.out).1.symm, show t362.length = t342.length from (Kd.R_reads' HO_347002.out).1.symm] <;> rfl) | rfl | (simp only [List.length_drop, List.length_take]; rfl)) ?_; (with_reducible refine (laws_heldCuckoo.calls kj66 t338 _ _ t361 _ _ t362 1 t363 _ ?side1 ?side2 ?side3 ?side4 A99.out).mono ?_); (case side1 => exact uD HO_347001); (case side2 => rw [show t361.length = t339.length from (Kd.R_reads' HO_347001.out).1.symm]; exact (Kd.R_reads' HO_347001.out).2.1); (case side3 => exact uD HO_347002); (case side4 => rw [show t362.length = t342.length from (Kd.R_reads' HO_347002.out).1.symm]; exact (Kd.R_reads' HO_347002.out).2.1); rintro e w118 ⟨rfl, hb⟩; refine ⟨_, rfl, ?_⟩; have n0_ := Aside0.mk (Kd.R_below (uR HO_330001) hb); have n1_ := Aside0.mk (Kd.R_below (uR HO_330002) hb); have n2_ := Aside0.mk (Kd.R_below (uR HO_338001) hb); have n3_ := Aside0.mk (Kd.R_below (uR HO_338002) hb); have n4_ := Aside0.mk (Kd.R_below (uR HO_347001) hb); have n5_ := Aside0.mk (Kd.R_below (uR HO_347002) hb); have n6_ := Aside0.mk (blk_below (g := gb312) (o := .cells #[.int .i64 a0_0, .slice A0_1 l0_1.length c0_1, .slice A0_2 l0_2.length c0_2] 24 (0, 0)) (uK BK312) hb); have n7_ := Aside0.mk (blk_below (g := gb329) (o := .cells #[.int .i64 t321, .slice Ao26 t322.length co26, .slice Ao27 t325.length co27] 27 (0, 0)) (uK BK329) hb); have n8_ := Aside0.mk (blk_below (g := gb337) (o := .cells #[.int .i64 t330, .slice Ao34 t357.length co34, .slice Ao35 t358.length co35] 27 (0, 0)) (uK BK337) hb); have n9_ := Aside0.mk (blk_below (g := gb346) (o := .cells #[.int .i64 t338, .slice Ao42 t339.length co42, .slice Ao43 t342.length co43] 27 (0, 0)) (uK BK346) hb); have n10_ := Aside0.mk (below_step (by first | exact uB HB | exact uS HB (gC GE312 (gC GE329 (gC GE337 (gC GE346 gN))))) hb); clear HO_330001 HO_330002 HO_338001 HO_338002 HO_347001 HO_347002 BK312 BK329 BK337 BK346 HB; have HO_330001 := n0_; have HO_330002 := n1_; have HO_338001 := n2_; have HO_338002 := n3_; have HO_347001 := n4_; have HO_347002 := n5_; have BK312 := n6_; have BK329 := n7_; have BK337 := n8_; have BK346 := n9_; have HB := n10_; clear n0_ n1_ n2_ n3_ n4_ n5_ n6_ n7_ n8_ n9_ n10_; (try clear hb); (try clear hb2); (try clear hk); (try clear hi); have hnb119 := NB312_329.out; have hnc119 := NB329_312.out; have hnb120 := NB312_337.out; have hnc120 := NB337_312.out; have hcz121_0 : w118.cell? ⟨gb312, 0, none⟩ = some (.int .i64 a0_0) := (blk_cell BK312.out 0).trans rfl; have hcz121_1 : w118.cell? ⟨gb312, 1, none⟩ = some (.slice A0_1 l0_1.length c0_1) := (blk_cell BK312.out 1).trans rfl; have hcz121_2 : w118.cell? ⟨gb312, 2, none⟩ = some (.slice A0_2 l0_2.length c0_2) := (blk_cell BK312.out 2).trans rfl; have hfz121_0 := blk_frozen BK312.out 0; have hfz121_1 := blk_frozen BK312.out 1; have hfz121_2 := blk_frozen BK312.out 2) | ((with_reducible refine gate_callee (f := 12) rfl ?_); refine goesL_ (some 82) rfl rfl Try.func12 (by kernel_rfl) rfl #[.agg #[.int .i64 a0_0, .slice A0_1 l0_1.length c0_1, .slice A0_2 l0_2.length c0_2]] rfl (by (try simp only [List.map_toArray, List.map_cons, List.map_nil]); first | done | rfl | (simp only [List.length_drop, List.length_take]; rfl)) ?_; (with_reducible refine (laws_toCuckoo.calls kj66 a0_0 _ _ l0_1 _ _ l0_2 t364 t365 t368 _ ?side1 ?side2 ?side3 ?side4 A109.out).mono ?_); (case side1 => exact uC HR0_1 HB); (case side2 => exact HC0_1.out); (case side3 => exact uC HR0_2 HB); (case side4 => exact HC0_2.out); rintro e w122 ⟨v366, v369, rfl, ho0, ho1, hb⟩; refine ⟨_, rfl, ?_⟩; have n0_ := Aside0.mk (Kd.R_mono (Kd.R_told (Kd.R_told (Kd.R_old (uR HO_330001) hb) (Kd.R_base ho0)) (Kd.R_base ho1)) (fun _ h_ => h_.1)); have n1_ := Aside0.mk (Kd.R_mono (Kd.R_told (Kd.R_told (Kd.R_old (uR HO_330002) hb) (Kd.R_base ho0)) (Kd.R_base ho1)) (fun _ h_ => h_.1)); have n2_ := Aside0.mk (Kd.R_mono (Kd.R_told (Kd.R_told (Kd.R_old (uR HO_338001) hb) (Kd.R_base ho0)) (Kd.R_base ho1)) (fun _ h_ => h_.1)); have n3_ := Aside0.mk (Kd.R_mono (Kd.R_told (Kd.R_told (Kd.R_old (uR HO_338002) hb) (Kd.R_base ho0)) (Kd.R_base ho1)) (fun _ h_ => h_.1)); have n4_ := Aside0.mk (Kd.R_mono (Kd.R_told (Kd.R_told (Kd.R_old (uR HO_347001) hb) (Kd.R_base ho0)) (Kd.R_base ho1)) (fun _ h_ => h_.1)); have n5_ := Aside0.mk (Kd.R_mono (Kd.R_told (Kd.R_told (Kd.R_old (uR HO_347002) hb) (Kd.R_base ho0)) (Kd.R_base ho1)) (fun _ h_ => h_.1)); have n6_ := Aside0.mk (Kd.R_lower (Kd.R_new' (Kd.R_new' (Kd.R_new' (Kd.R_new' (Kd.R_new' (Kd.R_new' ho0 (Kd.R_lt (uR HO_330001))) (Kd.R_lt (uR HO_330002))) (Kd.R_lt (uR HO_338001))) (Kd.R_lt (uR HO_338002))) (Kd.R_lt (uR HO_347001))) (Kd.R_lt (uR HO_347002))) (below_size (by first | exact uB HB | exact uS HB (gC GE312 (gC GE329 (gC GE337 (gC GE346 gN))))))); have n7_ := Aside0.mk (Kd.R_lower (Kd.R_new' (Kd.R_new' (Kd.R_new' (Kd.R_new' (Kd.R_new' (Kd.R_new' ho1 (Kd.R_lt (uR HO_330001))) (Kd.R_lt (uR HO_330002))) (Kd.R_lt (uR HO_338001))) (Kd.R_lt (uR HO_338002))) (Kd.R_lt (uR HO_347001))) (Kd.R_lt (uR HO_347002))) (below_size (by first | exact uB HB | exact uS HB (gC GE312 (gC GE329 (gC GE337 (gC GE346 gN))))))); have n8_ := Aside0.mk (blk_below (g := gb312) (o := .cells #[.int .i64 a0_0, .slice A0_1 l0_1.length c0_1, .slice A0_2 l0_2.length c0_2] 24 (0, 0)) (uK BK312) hb); have n9_ := Aside0.mk (blk_below (g := gb329) (o := .cells #[.int .i64 t321, .slice Ao26 t322.length co26, .slice Ao27 t325.length co27] 27 (0, 0)) (uK BK329) hb); have n10_ := Aside0.mk (blk_below (g := gb337) (o := .cells #[.int .i64 t330, .slice Ao34 t357.length co34, .slice Ao35 t358.length co35] 27 (0, 0)) (uK BK337) hb); have n11_ := Aside0.mk (blk_below (g := gb346) (o := .cells #[.int .i64 t338, .slice Ao42 t339.length co42, .slice Ao43 t342.length co43] 27 (0, 0)) (uK BK346) hb); have n12_ := Aside0.mk (below_step (by first | exact uB HB | exact uS HB (gC GE312 (gC GE329 (gC GE337 (gC GE346 gN))))) hb); clear HO_330001 HO_330002 HO_338001 HO_338002 HO_347001 HO_347002 BK312 BK329 BK337 BK346 HB; have HO_330001 := n0_; have HO_330002 := n1_; have HO_338001 := n2_; have HO_338002 := n3_; have HO_347001 := n4_; have HO_347002 := n5_; have HO367 := n6_; have HO370 := n7_; have BK312 := n8_; have BK329 := n9_; have BK337 := n10_; have BK346 := n11_; have HB := n12_; clear n0_ n1_ n2_ n3_ n4_ n5_ n6_ n7_ n8_ n9_ n10_ n11_ n12_; (try clear hb); (try clear hb2); (try clear hk); (try clear hi); (try clear ho0); (try clear ho1); obtain ⟨Ao123, co123, eo123⟩ := Kd.R_slice HO367.out; subst eo123; obtain ⟨Ao124, co124, eo124⟩ := Kd.R_slice HO370.out; subst eo124) | ((with_reducible refine gate_callee (f := 27) rfl ?_); refine goesL_ (some 84) rfl rfl Try.func27 (by kernel_rfl) rfl #[.agg #[.int .i64 t364, .slice Ao123 t365.length co123, .slice Ao124 t368.length co124], .string a1] rfl (by (try simp only [List.map_toArray, List.map_cons, List.map_nil]); first | done | rfl | (simp only [List.length_drop, List.length_take]; rfl)) ?_; (with_reducible refine (impl_CuckooRemove.calls kj66 t364 _ _ t365 _ _ t368 a1 t371 t372 t375 t378 _ ?side1 ?side2 ?side3 ?side4 A110.out).mono ?_); (case side1 => exact uD HO367); (case side2 => exact (Kd.R_reads' HO367.out).2.1); (case side3 => exact uD HO370); (case side4 => exact (Kd.R_reads' HO370.out).2.1); rintro e w125 ⟨v373, v376, rfl, ho0, ho1, hb⟩; refine ⟨_, rfl, ?_⟩; have n0_ := Aside0.mk (Kd.R_mono (Kd.R_told (Kd.R_told (Kd.R_old (uR HO_330001) hb) (Kd.R_base ho0)) (Kd.R_base ho1)) (fun _ h_ => h_.1)); have n1_ := Aside0.mk (Kd.R_mono (Kd.R_told (Kd.R_told (Kd.R_old (uR HO_330002) hb) (Kd.R_base ho0)) (Kd.R_base ho1)) (fun _ h_ => h_.1)); have n2_ := Aside0.mk (Kd.R_mono (Kd.R_told (Kd.R_told (Kd.R_old (uR HO_338001) hb) (Kd.R_base ho0)) (Kd.R_base ho1)) (fun _ h_ => h_.1)); have n3_ := Aside0.mk (Kd.R_mono (Kd.R_told (Kd.R_told (Kd.R_old (uR HO_338002) hb) (Kd.R_base ho0)) (Kd.R_base ho1)) (fun _ h_ => h_.1)); have n4_ := Aside0.mk (Kd.R_mono (Kd.R_told (Kd.R_told (Kd.R_old (uR HO_347001) hb) (Kd.R_base ho0)) (Kd.R_base ho1)) (fun _ h_ => h_.1)); have n5_ := Aside0.mk (Kd.R_mono (Kd.R_told (Kd.R_told (Kd.R_old (uR HO_347002) hb) (Kd.R_base ho0)) (Kd.R_base ho1)) (fun _ h_ => h_.1)); have n6_ := Aside0.mk (Kd.R_mono (Kd.R_told (Kd.R_told (Kd.R_old (uR HO367) hb) (Kd.R_base ho0)) (Kd.R_base ho1)) (fun _ h_ => h_.1)); have n7_ := Aside0.mk (Kd.R_mono (Kd.R_told (Kd.R_told (Kd.R_old (uR HO370) hb) (Kd.R_base ho0)) (Kd.R_base ho1)) (fun _ h_ => h_.1)); have n8_ := Aside0.mk (Kd.R_lower (Kd.R_new' (Kd.R_new' (Kd.R_new' (Kd.R_new' (Kd.R_new' (Kd.R_new' (Kd.R_new' (Kd.R_new' ho0 (Kd.R_lt (uR HO_330001))) (Kd.R_lt (uR HO_330002))) (Kd.R_lt (uR HO_338001))) (Kd.R_lt (uR HO_338002))) (Kd.R_lt (uR HO_347001))) (Kd.R_lt (uR HO_347002))) (Kd.R_lt (uR HO367))) (Kd.R_lt (uR HO370))) (below_size (by first | exact uB HB | exact uS HB (gC GE312 (gC GE329 (gC GE337 (gC GE346 gN))))))); have n9_ := Aside0.mk (Kd.R_lower (Kd.R_new' (Kd.R_new' (Kd.R_new' (Kd.R_new' (Kd.R_new' (Kd.R_new' (Kd.R_new' (Kd.R_new' ho1 (Kd.R_lt (uR HO_330001))) (Kd.R_lt (uR HO_330002))) (Kd.R_lt (uR HO_338001))) (Kd.R_lt (uR HO_338002))) (Kd.R_lt (uR HO_347001))) (Kd.R_lt (uR HO_347002))) (Kd.R_lt (uR HO367))) (Kd.R_lt (uR HO370))) (below_size (by first | exact uB HB | exact uS HB (gC GE312 (gC GE329 (gC GE337 (gC GE346 gN))))))); have n10_ := Aside0.mk (blk_below (g := gb312) (o := .cells #[.int .i64 a0_0, .slice A0_1 l0_1.length c0_1, .slice A0_2 l0_2.length c0_2] 24 (0, 0)) (uK BK312) hb); have n11_ := Aside0.mk (blk_below (g := gb329) (o := .cells #[.int .i64 t321, .slice Ao26 t322.length co26, .slice Ao27 t325.length co27] 27 (0, 0)) (uK BK329) hb); have n12_ := Aside0.mk (blk_below (g := gb337) (o := .cells #[.int .i64 t330, .slice Ao34 t357.length co34, .slice Ao35 t358.length co35] 27 (0, 0)) (uK BK337) hb); have n13_ := Aside0.mk (blk_below (g := gb346) (o := .cells #[.int .i64 t338, .slice Ao42 t339.length co42, .slice Ao43 t342.length co43] 27 (0, 0)) (uK BK346) hb); have n14_ := Aside0.mk (below_step (by first | exact uB HB | exact uS HB (gC GE312 (gC GE329 (gC GE337 (gC GE346 gN))))) hb); clear HO_330001 HO_330002 HO_338001 HO_338002 HO_347001 HO_347002 HO367 HO370 BK312 BK329 BK337 BK346 HB; have HO_330001 := n0_; have HO_330002 := n1_; have HO_338001 := n2_; have HO_338002 := n3_; have HO_347001 := n4_; have HO_347002 := n5_; have HO367 := n6_; have HO370 := n7_; have HO374 := n8_; have HO377 := n9_; have BK312 := n10_; have BK329 := n11_; have BK337 := n12_; have BK346 := n13_; have HB := n14_; clear n0_ n1_ n2_ n3_ n4_ n5_ n6_ n7_ n8_ n9_ n10_ n11_ n12_ n13_ n14_; (try clear hb); (try clear hb2); (try clear hk); (try clear hi); (try clear ho0); (try clear ho1)) | ((with_reducible refine gate_dst (N := 14) rfl ?_); refine box_event ?hg (N := 14) ?hd (cs := #[.int .i64 0, .slice none 0 0, .slice none 0 0]) (t := 27) ?hr ?_; (case hd => rfl); (case hg => rfl); (case hr => first | (go_simp; done) | (go_simp; rfl)); intro gb379 hg w126 hbox hb; have n0_ := Aside0.mk (Kd.R_below (uR HO_330001) hb); have n1_ := Aside0.mk (Kd.R_below (uR HO_330002) hb); have n2_ := Aside0.mk (Kd.R_below (uR HO_338001) hb); have n3_ := Aside0.mk (Kd.R_below (uR HO_338002) hb); have n4_ := Aside0.mk (Kd.R_below (uR HO_347001) hb); have n5_ := Aside0.mk (Kd.R_below (uR HO_347002) hb); have n6_ := Aside0.mk (Kd.R_below (uR HO367) hb); have n7_ := Aside0.mk (Kd.R_below (uR HO370) hb); have n8_ := Aside0.mk (Kd.R_below (uR HO374) hb); have n9_ := Aside0.mk (Kd.R_below (uR HO377) hb); have n10_ := Aside0.mk (blk_below (g := gb312) (o := .cells #[.int .i64 a0_0, .slice A0_1 l0_1.length c0_1, .slice A0_2 l0_2.length c0_2] 24 (0, 0)) (uK BK312) hb); have n11_ := Aside0.mk (blk_below (g := gb329) (o := .cells #[.int .i64 t321, .slice Ao26 t322.length co26, .slice Ao27 t325.length co27] 27 (0, 0)) (uK BK329) hb); have n12_ := Aside0.mk (blk_below (g := gb337) (o := .cells #[.int .i64 t330, .slice Ao34 t357.length co34, .slice Ao35 t358.length co35] 27 (0, 0)) (uK BK337) hb); have n13_ := Aside0.mk (blk_below (g := gb346) (o := .cells #[.int .i64 t338, .slice Ao42 t339.length co42, .slice Ao43 t342.length co43] 27 (0, 0)) (uK BK346) hb); have n14_ := Aside0.mk (below_step (by first | exact uB HB | exact uS HB (gC GE312 (gC GE329 (gC GE337 (gC GE346 gN))))) hb); have n15_ := Aside0.mk (hbox); have n16_ := Aside0.mk ((by rw [hg]; exact (below_size (by first | exact uB HB | exact uS HB (gC GE312 (gC GE329 (gC GE337 (gC GE346 gN)))))) : w.heap.size ≤ gb379)); have n17_ := Aside0.mk ((by rw [hg]; exact (below_size (by first | exact uB HB | exact uS HB (gC GE312 (gC GE329 (gC GE337 (gC GE346 gN)))))) : w.heap.size ≤ gb379)); have n18_ := Aside0.mk ((by rw [hg]; exact Nat.ne_of_lt (blk_lt (g := gb312) (o := .cells #[.int .i64 a0_0, .slice A0_1 l0_1.length c0_1, .slice A0_2 l0_2.length c0_2] 24 (0, 0)) (uK BK312)) : gb312 ≠ gb379)); have n19_ := Aside0.mk ((by rw [hg]; exact Nat.ne_of_gt (blk_lt (g := gb312) (o := .cells #[.int .i64 a0_0, .slice A0_1 l0_1.length c0_1, .slice A0_2 l0_2.length c0_2] 24 (0, 0)) (uK BK312)) : gb379 ≠ gb312)); have n20_ := Aside0.mk ((by rw [hg]; exact Nat.ne_of_lt (blk_lt (g := gb329) (o := .cells #[.int .i64 t321, .slice Ao26 t322.length co26, .slice Ao27 t325.length co27] 27 (0, 0)) (uK BK329)) : gb329 ≠ gb379)); have n21_ := Aside0.mk ((by rw [hg]; exact Nat.ne_of_gt (blk_lt (g := gb329) (o := .cells #[.int .i64 t321, .slice Ao26 t322.length co26, .slice Ao27 t325.length co27] 27 (0, 0)) (uK BK329)) : gb379 ≠ gb329)); have n22_ := Aside0.mk ((by rw [hg]; exact Nat.ne_of_lt (blk_lt (g := gb337) (o := .cells #[.int .i64 t330, .slice Ao34 t357.length co34, .slice Ao35 t358.length co35] 27 (0, 0)) (uK BK337)) : gb337 ≠ gb379)); have n23_ := Aside0.mk ((by rw [hg]; exact Nat.ne_of_gt (blk_lt (g := gb337) (o := .cells #[.int .i64 t330, .slice Ao34 t357.length co34, .slice Ao35 t358.length co35] 27 (0, 0)) (uK BK337)) : gb379 ≠ gb337)); have n24_ := Aside0.mk ((by rw [hg]; exact Nat.ne_of_lt (blk_lt (g := gb346) (o := .cells #[.int .i64 t338, .slice Ao42 t339.length co42, .slice Ao43 t342.length co43] 27 (0, 0)) (uK BK346)) : gb346 ≠ gb379)); have n25_ := Aside0.mk ((by rw [hg]; exact Nat.ne_of_gt (blk_lt (g := gb346) (o := .cells #[.int .i64 t338, .slice Ao42 t339.length co42, .slice Ao43 t342.length co43] 27 (0, 0)) (uK BK346)) : gb379 ≠ gb346)); clear HO_330001 HO_330002 HO_338001 HO_338002 HO_347001 HO_347002 HO367 HO370 HO374 HO377 BK312 BK329 BK337 BK346 HB; have HO_330001 := n0_; have HO_330002 := n1_; have HO_338001 := n2_; have HO_338002 := n3_; have HO_347001 := n4_; have HO_347002 := n5_; have HO367 := n6_; have HO370 := n7_; have HO374 := n8_; have HO377 := n9_; have BK312 := n10_; have BK329 := n11_; have BK337 := n12_; have BK346 := n13_; have HB := n14_; have BK379 := n15_; have GW379 := n16_; have GE379 := n17_; have NB312_379 := n18_; have NB379_312 := n19_; have NB329_379 := n20_; have NB379_329 := n21_; have NB337_379 := n22_; have NB379_337 := n23_; have NB346_379 := n24_; have NB379_346 := n25_; clear n0_ n1_ n2_ n3_ n4_ n5_ n6_ n7_ n8_ n9_ n10_ n11_ n12_ n13_ n14_ n15_ n16_ n17_ n18_ n19_ n20_ n21_ n22_ n23_ n24_ n25_ hb hbox hg; have hnb127 := NB379_312.out; have hnc127 := NB312_379.out; have hnb128 := NB379_329.out; have hnc128 := NB329_379.out; have hnb129 := NB379_337.out; have hnc129 := NB337_379.out; have hnb130 := NB379_346.out; have hnc130 := NB346_379.out; have hcz131_0 : w126.cell? ⟨gb379, 0, none⟩ = some (.int .i64 0) := (blk_cell BK379.out 0).trans rfl; have hcz131_1 : w126.cell? ⟨gb379, 1, none⟩ = some (.slice none 0 0) := (blk_cell BK379.out 1).trans rfl; have hcz131_2 : w126.cell? ⟨gb379, 2, none⟩ = some (.slice none 0 0) := (blk_cell BK379.out 2).trans rfl; have hfz131_0 := blk_frozen BK379.out 0; have hfz131_1 := blk_frozen BK379.out 1; have hfz131_2 := blk_frozen BK379.out 2; obtain ⟨Ao132, co132, eo132⟩ := Kd.R_slice HO374.out; subst eo132; obtain ⟨Ao133, co133, eo133⟩ := Kd.R_slice HO377.out; subst eo133))
            (try simp only [Act.put, List.setIfInBounds_toArray, List.set_cons_zero, List.set_cons_succ])
            go_cut [95] (fun v95 wc => ∃ (kq : Nat) (x95_110 : Bool), v95 = .bool x95_110 ∧ Aside0 (laws_FnExactCuckooRemove.j2 kq t360 x95_110 t338 t361 t362 = some r) ∧ Aside0 (kq ≤ kj66) ∧ Aside0 (Kd.R Kd.string 9 wc w.heap.size (fun k_ => some k_ ≠ ((.slice Ao27 t325.length co27) : Value).ownBlock ∧ some k_ ≠ ((.slice Ao34 t357.length co34) : Value).ownBlock ∧ some k_ ≠ ((.slice Ao35 t358.length co35) : Value).ownBlock ∧ some k_ ≠ ((.slice Ao42 t339.length co42) : Value).ownBlock ∧ some k_ ≠ ((.slice Ao43 t342.length co43) : Value).ownBlock ∧ some k_ ≠ ((.slice Ao132 t372.length co132) : Value).ownBlock ∧ some k_ ≠ ((.slice Ao133 t375.length co133) : Value).ownBlock) (.slice Ao26 t322.length co26) t322) ∧ Aside0 (Kd.R Kd.string 9 wc w.heap.size (fun k_ => some k_ ≠ ((.slice Ao26 t322.length co26) : Value).ownBlock ∧ some k_ ≠ ((.slice Ao34 t357.length co34) : Value).ownBlock ∧ some k_ ≠ ((.slice Ao35 t358.length co35) : Value).ownBlock ∧ some k_ ≠ ((.slice Ao42 t339.length co42) : Value).ownBlock ∧ some k_ ≠ ((.slice Ao43 t342.length co43) : Value).ownBlock ∧ some k_ ≠ ((.slice Ao132 t372.length co132) : Value).ownBlock ∧ some k_ ≠ ((.slice Ao133 t375.length co133) : Value).ownBlock) (.slice Ao27 t325.length co27) t325) ∧ Aside0 (Kd.R Kd.string 9 wc w.heap.size (fun k_ => some k_ ≠ ((.slice Ao26 t322.length co26) : Value).ownBlock ∧ some k_ ≠ ((.slice Ao27 t325.length co27) : Value).ownBlock ∧ some k_ ≠ ((.slice Ao35 t358.length co35) : Value).ownBlock ∧ some k_ ≠ ((.slice Ao42 t339.length co42) : Value).ownBlock ∧ some k_ ≠ ((.slice Ao43 t342.length co43) : Value).ownBlock ∧ some k_ ≠ ((.slice Ao132 t372.length co132) : Value).ownBlock ∧ some k_ ≠ ((.slice Ao133 t375.length co133) : Value).ownBlock) (.slice Ao34 t357.length co34) t357) ∧ Aside0 (Kd.R Kd.string 9 wc w.heap.size (fun k_ => some k_ ≠ ((.slice Ao26 t322.length co26) : Value).ownBlock ∧ some k_ ≠ ((.slice Ao27 t325.length co27) : Value).ownBlock ∧ some k_ ≠ ((.slice Ao34 t357.length co34) : Value).ownBlock ∧ some k_ ≠ ((.slice Ao42 t339.length co42) : Value).ownBlock ∧ some k_ ≠ ((.slice Ao43 t342.length co43) : Value).ownBlock ∧ some k_ ≠ ((.slice Ao132 t372.length co132) : Value).ownBlock ∧ some k_ ≠ ((.slice Ao133 t375.length co133) : Value).ownBlock) (.slice Ao35 t358.length co35) t358) ∧ Aside0 (Kd.R Kd.string 9 wc w.heap.size (fun k_ => some k_ ≠ ((.slice Ao26 t322.length co26) : Value).ownBlock ∧ some k_ ≠ ((.slice Ao27 t325.length co27) : Value).ownBlock ∧ some k_ ≠ ((.slice Ao34 t357.length co34) : Value).ownBlock ∧ some k_ ≠ ((.slice Ao35 t358.length co35) : Value).ownBlock ∧ some k_ ≠ ((.slice Ao43 t342.length co43) : Value).ownBlock ∧ some k_ ≠ ((.slice Ao132 t372.length co132) : Value).ownBlock ∧ some k_ ≠ ((.slice Ao133 t375.length co133) : Value).ownBlock) (.slice Ao42 t339.length co42) t361) ∧ Aside0 (Kd.R Kd.string 9 wc w.heap.size (fun k_ => some k_ ≠ ((.slice Ao26 t322.length co26) : Value).ownBlock ∧ some k_ ≠ ((.slice Ao27 t325.length co27) : Value).ownBlock ∧ some k_ ≠ ((.slice Ao34 t357.length co34) : Value).ownBlock ∧ some k_ ≠ ((.slice Ao35 t358.length co35) : Value).ownBlock ∧ some k_ ≠ ((.slice Ao42 t339.length co42) : Value).ownBlock ∧ some k_ ≠ ((.slice Ao132 t372.length co132) : Value).ownBlock ∧ some k_ ≠ ((.slice Ao133 t375.length co133) : Value).ownBlock) (.slice Ao43 t342.length co43) t362) ∧ Aside0 (Kd.R Kd.string 9 wc w.heap.size (fun k_ => some k_ ≠ ((.slice Ao26 t322.length co26) : Value).ownBlock ∧ some k_ ≠ ((.slice Ao27 t325.length co27) : Value).ownBlock ∧ some k_ ≠ ((.slice Ao34 t357.length co34) : Value).ownBlock ∧ some k_ ≠ ((.slice Ao35 t358.length co35) : Value).ownBlock ∧ some k_ ≠ ((.slice Ao42 t339.length co42) : Value).ownBlock ∧ some k_ ≠ ((.slice Ao43 t342.length co43) : Value).ownBlock ∧ some k_ ≠ ((.slice Ao133 t375.length co133) : Value).ownBlock) (.slice Ao132 t372.length co132) t372) ∧ Aside0 (Kd.R Kd.string 9 wc w.heap.size (fun k_ => some k_ ≠ ((.slice Ao26 t322.length co26) : Value).ownBlock ∧ some k_ ≠ ((.slice Ao27 t325.length co27) : Value).ownBlock ∧ some k_ ≠ ((.slice Ao34 t357.length co34) : Value).ownBlock ∧ some k_ ≠ ((.slice Ao35 t358.length co35) : Value).ownBlock ∧ some k_ ≠ ((.slice Ao42 t339.length co42) : Value).ownBlock ∧ some k_ ≠ ((.slice Ao43 t342.length co43) : Value).ownBlock ∧ some k_ ≠ ((.slice Ao132 t372.length co132) : Value).ownBlock) (.slice Ao133 t375.length co133) t375) ∧ Aside0 (wc.heap[gb312]? = some (.cells #[.int .i64 a0_0, (.slice A0_1 l0_1.length c0_1), (.slice A0_2 l0_2.length c0_2)] 24 (0, 0))) ∧ Aside0 (wc.heap[gb329]? = some (.cells #[.int .i64 t321, (.slice Ao26 t322.length co26), (.slice Ao27 t325.length co27)] 27 (0, 0))) ∧ Aside0 (wc.heap[gb337]? = some (.cells #[.int .i64 t330, (.slice Ao34 t357.length co34), (.slice Ao35 t358.length co35)] 27 (0, 0))) ∧ Aside0 (wc.heap[gb346]? = some (.cells #[.int .i64 t338, (.slice Ao42 t339.length co42), (.slice Ao43 t342.length co43)] 27 (0, 0))) ∧ Aside0 (wc.heap[gb379]? = some (.cells #[.int .i64 t371, (.slice Ao132 t372.length co132), (.slice Ao133 t375.length co133)] 27 (0, 0))) ∧ Aside0 (Below w.heap.size w wc))
            case first =>
             have H := HC111.out
             clear HC111
             replace H := Option.bind_eq_some_iff.mp H
             obtain ⟨t380, A1340, H⟩ := H
             replace H : (if t380 = true then (laws_FnExactCuckooRemove.j2 kj66 t360 (t378 != t328) t338 t361 t362) else (laws_FnExactCuckooRemove.j2 kj66 t360 true t338 t361 t362)) = some r := H
             have A134 := Aside0.mk A1340
             clear A1340
             by_cases c135 : t380 = true
             ·
              subst c135
              have H1 : (laws_FnExactCuckooRemove.j2 kj66 t360 (t378 != t328) t338 t361 t362) = some r := by rw [if_pos rfl] at H; exact H
              clear H
              have H := H1
              clear H1
              have H' := Aside0.mk H
              clear H
              have hnb136 := NB379_312.out
              have hnc136 := NB312_379.out
              have hnb137 := NB379_329.out
              have hnc137 := NB329_379.out
              have hnb138 := NB379_337.out
              have hnc138 := NB337_379.out
              have hnb139 := NB379_346.out
              have hnc139 := NB346_379.out
              have hcz140_0 : w126.cell? ⟨gb379, 0, none⟩ = some (.int .i64 0) := (blk_cell BK379.out 0).trans rfl
              have hcz140_1 : w126.cell? ⟨gb379, 1, none⟩ = some (.slice none 0 0) := (blk_cell BK379.out 1).trans rfl
              have hcz140_2 : w126.cell? ⟨gb379, 2, none⟩ = some (.slice none 0 0) := (blk_cell BK379.out 2).trans rfl
              have hfz140_0 := blk_frozen BK379.out 0
              have hfz140_1 := blk_frozen BK379.out 1
              have hfz140_2 := blk_frozen BK379.out 2
              have hnb141 := NB329_312.out
              have hnc141 := NB312_329.out
              have hnb142 := NB329_337.out
              have hnc142 := NB337_329.out
              have hnb143 := NB329_346.out
              have hnc143 := NB346_329.out
              have hcz144_0 : w126.cell? ⟨gb329, 0, none⟩ = some (.int .i64 t321) := (blk_cell BK329.out 0).trans rfl
              have hcz144_1 : w126.cell? ⟨gb329, 1, none⟩ = some (.slice Ao26 t322.length co26) := (blk_cell BK329.out 1).trans rfl
              have hcz144_2 : w126.cell? ⟨gb329, 2, none⟩ = some (.slice Ao27 t325.length co27) := (blk_cell BK329.out 2).trans rfl
              have hfz144_0 := blk_frozen BK329.out 0
              have hfz144_1 := blk_frozen BK329.out 1
              have hfz144_2 := blk_frozen BK329.out 2
              go_wp2_with (first | ((with_reducible refine gate_callee (f := 14) rfl ?_); refine goesL_ (some 89) rfl rfl Try.func14 (by kernel_rfl) rfl #[.agg #[.int .i64 t371, .slice Ao132 t372.length co132, .slice Ao133 t375.length co133], .agg #[.int .i64 t321, .slice Ao26 t322.length co26, .slice Ao27 t325.length co27]] rfl (by (try simp only [List.map_toArray, List.map_cons, List.map_nil]); first | done | rfl | (simp only [List.length_drop, List.length_take]; rfl)) ?_; (with_reducible refine (laws_eqCuckoo.calls kj66 t371 _ _ t372 _ _ t375 t321 _ _ t322 _ _ t325 true _ ?side1 ?side2 ?side3 ?side4 ?side5 ?side6 ?side7 ?side8 A134.out).mono ?_); (case side1 => refine (Kd.R_reads' (e := 9) (base := w.heap.size) (ok := fun k_ => ((((((((some k_ ≠ (.slice Ao133 t375.length co133 : Value).ownBlock ∧ some k_ ≠ (.slice Ao26 t322.length co26 : Value).ownBlock) ∧ some k_ ≠ (.slice Ao27 t325.length co27 : Value).ownBlock) ∧ some k_ ≠ (.slice Ao34 t357.length co34 : Value).ownBlock) ∧ some k_ ≠ (.slice Ao35 t358.length co35 : Value).ownBlock) ∧ some k_ ≠ (.slice Ao42 t339.length co42 : Value).ownBlock) ∧ some k_ ≠ (.slice Ao43 t342.length co43 : Value).ownBlock) ∧ some k_ ≠ (.slice Ao123 t365.length co123 : Value).ownBlock) ∧ some k_ ≠ (.slice Ao124 t368.length co124 : Value).ownBlock)) (n := t372.length) (c := co132) ?_).2.2; exact (by (with_reducible repeat (first | apply Kd.R_alloc | apply Kd.R_drewN | apply Kd.R_drew)); exact (Kd.R_mono (Kd.R_far (p := ⟨gb379, 2, none⟩) (Kd.R_far (p := ⟨gb379, 1, none⟩) (Kd.R_far (p := ⟨gb379, 0, none⟩) (Kd.R_types HO374.out BK379.out (by decide)) (fun _ hk => hk.2) (.int .i64 t371)) (fun _ hk => hk.2) (.slice Ao132 t372.length co132)) (fun _ hk => hk.2) (.slice Ao133 t375.length co133)) (fun _ h_ => h_.1)))); (case side2 => exact (Kd.R_reads' HO374.out).2.1); (case side3 => refine (Kd.R_reads' (e := 9) (base := w.heap.size) (ok := fun k_ => ((((((((some k_ ≠ (.slice Ao132 t372.length co132 : Value).ownBlock ∧ some k_ ≠ (.slice Ao26 t322.length co26 : Value).ownBlock) ∧ some k_ ≠ (.slice Ao27 t325.length co27 : Value).ownBlock) ∧ some k_ ≠ (.slice Ao34 t357.length co34 : Value).ownBlock) ∧ some k_ ≠ (.slice Ao35 t358.length co35 : Value).ownBlock) ∧ some k_ ≠ (.slice Ao42 t339.length co42 : Value).ownBlock) ∧ some k_ ≠ (.slice Ao43 t342.length co43 : Value).ownBlock) ∧ some k_ ≠ (.slice Ao123 t365.length co123 : Value).ownBlock) ∧ some k_ ≠ (.slice Ao124 t368.length co124 : Value).ownBlock)) (n := t375.length) (c := co133) ?_).2.2; exact (by (with_reducible repeat (first | apply Kd.R_alloc | apply Kd.R_drewN | apply Kd.R_drew)); exact (Kd.R_mono (Kd.R_far (p := ⟨gb379, 2, none⟩) (Kd.R_far (p := ⟨gb379, 1, none⟩) (Kd.R_far (p := ⟨gb379, 0, none⟩) (Kd.R_types HO377.out BK379.out (by decide)) (fun _ hk => hk.2) (.int .i64 t371)) (fun _ hk => hk.2) (.slice Ao132 t372.length co132)) (fun _ hk => hk.2) (.slice Ao133 t375.length co133)) (fun _ h_ => h_.1)))); (case side4 => exact (Kd.R_reads' HO377.out).2.1); (case side5 => refine (Kd.R_reads' (e := 9) (base := w.heap.size) (ok := fun k_ => (((((some k_ ≠ (.slice Ao27 t325.length co27 : Value).ownBlock ∧ (some k_ ≠ (.slice Ao34 t357.length co34 : Value).ownBlock ∧ (some k_ ≠ (.slice Ao35 t358.length co35 : Value).ownBlock ∧ (some k_ ≠ (.slice Ao42 t339.length co42 : Value).ownBlock ∧ some k_ ≠ (.slice Ao43 t342.length co43 : Value).ownBlock)))) ∧ some k_ ≠ (.slice Ao123 t365.length co123 : Value).ownBlock) ∧ some k_ ≠ (.slice Ao124 t368.length co124 : Value).ownBlock) ∧ some k_ ≠ (.slice Ao132 t372.length co132 : Value).ownBlock) ∧ some k_ ≠ (.slice Ao133 t375.length co133 : Value).ownBlock)) (n := t322.length) (c := co26) ?_).2.2; exact (by (with_reducible repeat (first | apply Kd.R_alloc | apply Kd.R_drewN | apply Kd.R_drew)); exact (Kd.R_mono (Kd.R_far (p := ⟨gb379, 2, none⟩) (Kd.R_far (p := ⟨gb379, 1, none⟩) (Kd.R_far (p := ⟨gb379, 0, none⟩) (Kd.R_types HO_330001.out BK379.out (by decide)) (fun _ hk => hk.2) (.int .i64 t371)) (fun _ hk => hk.2) (.slice Ao132 t372.length co132)) (fun _ hk => hk.2) (.slice Ao133 t375.length co133)) (fun _ h_ => h_.1)))); (case side6 => exact (Kd.R_reads' HO_330001.out).2.1); (case side7 => refine (Kd.R_reads' (e := 9) (base := w.heap.size) (ok := fun k_ => (((((some k_ ≠ (.slice Ao26 t322.length co26 : Value).ownBlock ∧ (some k_ ≠ (.slice Ao34 t357.length co34 : Value).ownBlock ∧ (some k_ ≠ (.slice Ao35 t358.length co35 : Value).ownBlock ∧ (some k_ ≠ (.slice Ao42 t339.length co42 : Value).ownBlock ∧ some k_ ≠ (.slice Ao43 t342.length co43 : Value).ownBlock)))) ∧ some k_ ≠ (.slice Ao123 t365.length co123 : Value).ownBlock) ∧ some k_ ≠ (.slice Ao124 t368.length co124 : Value).ownBlock) ∧ some k_ ≠ (.slice Ao132 t372.length co132 : Value).ownBlock) ∧ some k_ ≠ (.slice Ao133 t375.length co133 : Value).ownBlock)) (n := t325.length) (c := co27) ?_).2.2; exact (by (with_reducible repeat (first | apply Kd.R_alloc | apply Kd.R_drewN | apply Kd.R_drew)); exact (Kd.R_mono (Kd.R_far (p := ⟨gb379, 2, none⟩) (Kd.R_far (p := ⟨gb379, 1, none⟩) (Kd.R_far (p := ⟨gb379, 0, none⟩) (Kd.R_types HO_330002.out BK379.out (by decide)) (fun _ hk => hk.2) (.int .i64 t371)) (fun _ hk => hk.2) (.slice Ao132 t372.length co132)) (fun _ hk => hk.2) (.slice Ao133 t375.length co133)) (fun _ h_ => h_.1)))); (case side8 => exact (Kd.R_reads' HO_330002.out).2.1); rintro e w145 ⟨rfl, hb⟩; refine ⟨_, rfl, ?_⟩; have n0_ := Aside0.mk (Kd.R_below (by (with_reducible repeat (first | apply Kd.R_alloc | apply Kd.R_drewN | apply Kd.R_drew)); exact (Kd.R_mono (Kd.R_far (p := ⟨gb379, 2, none⟩) (Kd.R_far (p := ⟨gb379, 1, none⟩) (Kd.R_far (p := ⟨gb379, 0, none⟩) (Kd.R_types HO_330001.out BK379.out (by decide)) (fun _ hk => hk.2) (.int .i64 t371)) (fun _ hk => hk.2) (.slice Ao132 t372.length co132)) (fun _ hk => hk.2) (.slice Ao133 t375.length co133)) (fun _ h_ => h_.1))) hb); have n1_ := Aside0.mk (Kd.R_below (by (with_reducible repeat (first | apply Kd.R_alloc | apply Kd.R_drewN | apply Kd.R_drew)); exact (Kd.R_mono (Kd.R_far (p := ⟨gb379, 2, none⟩) (Kd.R_far (p := ⟨gb379, 1, none⟩) (Kd.R_far (p := ⟨gb379, 0, none⟩) (Kd.R_types HO_330002.out BK379.out (by decide)) (fun _ hk => hk.2) (.int .i64 t371)) (fun _ hk => hk.2) (.slice Ao132 t372.length co132)) (fun _ hk => hk.2) (.slice Ao133 t375.length co133)) (fun _ h_ => h_.1))) hb); have n2_ := Aside0.mk (Kd.R_below (by (with_reducible repeat (first | apply Kd.R_alloc | apply Kd.R_drewN | apply Kd.R_drew)); exact (Kd.R_mono (Kd.R_far (p := ⟨gb379, 2, none⟩) (Kd.R_far (p := ⟨gb379, 1, none⟩) (Kd.R_far (p := ⟨gb379, 0, none⟩) (Kd.R_types HO_338001.out BK379.out (by decide)) (fun _ hk => hk.2) (.int .i64 t371)) (fun _ hk => hk.2) (.slice Ao132 t372.length co132)) (fun _ hk => hk.2) (.slice Ao133 t375.length co133)) (fun _ h_ => h_.1))) hb); have n3_ := Aside0.mk (Kd.R_below (by (with_reducible repeat (first | apply Kd.R_alloc | apply Kd.R_drewN | apply Kd.R_drew)); exact (Kd.R_mono (Kd.R_far (p := ⟨gb379, 2, none⟩) (Kd.R_far (p := ⟨gb379, 1, none⟩) (Kd.R_far (p := ⟨gb379, 0, none⟩) (Kd.R_types HO_338002.out BK379.out (by decide)) (fun _ hk => hk.2) (.int .i64 t371)) (fun _ hk => hk.2) (.slice Ao132 t372.length co132)) (fun _ hk => hk.2) (.slice Ao133 t375.length co133)) (fun _ h_ => h_.1))) hb); have n4_ := Aside0.mk (Kd.R_below (by (with_reducible repeat (first | apply Kd.R_alloc | apply Kd.R_drewN | apply Kd.R_drew)); exact (Kd.R_mono (Kd.R_far (p := ⟨gb379, 2, none⟩) (Kd.R_far (p := ⟨gb379, 1, none⟩) (Kd.R_far (p := ⟨gb379, 0, none⟩) (Kd.R_types HO_347001.out BK379.out (by decide)) (fun _ hk => hk.2) (.int .i64 t371)) (fun _ hk => hk.2) (.slice Ao132 t372.length co132)) (fun _ hk => hk.2) (.slice Ao133 t375.length co133)) (fun _ h_ => h_.1))) hb); have n5_ := Aside0.mk (Kd.R_below (by (with_reducible repeat (first | apply Kd.R_alloc | apply Kd.R_drewN | apply Kd.R_drew)); exact (Kd.R_mono (Kd.R_far (p := ⟨gb379, 2, none⟩) (Kd.R_far (p := ⟨gb379, 1, none⟩) (Kd.R_far (p := ⟨gb379, 0, none⟩) (Kd.R_types HO_347002.out BK379.out (by decide)) (fun _ hk => hk.2) (.int .i64 t371)) (fun _ hk => hk.2) (.slice Ao132 t372.length co132)) (fun _ hk => hk.2) (.slice Ao133 t375.length co133)) (fun _ h_ => h_.1))) hb); have n6_ := Aside0.mk (Kd.R_below (by (with_reducible repeat (first | apply Kd.R_alloc | apply Kd.R_drewN | apply Kd.R_drew)); exact (Kd.R_mono (Kd.R_far (p := ⟨gb379, 2, none⟩) (Kd.R_far (p := ⟨gb379, 1, none⟩) (Kd.R_far (p := ⟨gb379, 0, none⟩) (Kd.R_types HO367.out BK379.out (by decide)) (fun _ hk => hk.2) (.int .i64 t371)) (fun _ hk => hk.2) (.slice Ao132 t372.length co132)) (fun _ hk => hk.2) (.slice Ao133 t375.length co133)) (fun _ h_ => h_.1))) hb); have n7_ := Aside0.mk (Kd.R_below (by (with_reducible repeat (first | apply Kd.R_alloc | apply Kd.R_drewN | apply Kd.R_drew)); exact (Kd.R_mono (Kd.R_far (p := ⟨gb379, 2, none⟩) (Kd.R_far (p := ⟨gb379, 1, none⟩) (Kd.R_far (p := ⟨gb379, 0, none⟩) (Kd.R_types HO370.out BK379.out (by decide)) (fun _ hk => hk.2) (.int .i64 t371)) (fun _ hk => hk.2) (.slice Ao132 t372.length co132)) (fun _ hk => hk.2) (.slice Ao133 t375.length co133)) (fun _ h_ => h_.1))) hb); have n8_ := Aside0.mk (Kd.R_below (by (with_reducible repeat (first | apply Kd.R_alloc | apply Kd.R_drewN | apply Kd.R_drew)); exact (Kd.R_mono (Kd.R_far (p := ⟨gb379, 2, none⟩) (Kd.R_far (p := ⟨gb379, 1, none⟩) (Kd.R_far (p := ⟨gb379, 0, none⟩) (Kd.R_types HO374.out BK379.out (by decide)) (fun _ hk => hk.2) (.int .i64 t371)) (fun _ hk => hk.2) (.slice Ao132 t372.length co132)) (fun _ hk => hk.2) (.slice Ao133 t375.length co133)) (fun _ h_ => h_.1))) hb); have n9_ := Aside0.mk (Kd.R_below (by (with_reducible repeat (first | apply Kd.R_alloc | apply Kd.R_drewN | apply Kd.R_drew)); exact (Kd.R_mono (Kd.R_far (p := ⟨gb379, 2, none⟩) (Kd.R_far (p := ⟨gb379, 1, none⟩) (Kd.R_far (p := ⟨gb379, 0, none⟩) (Kd.R_types HO377.out BK379.out (by decide)) (fun _ hk => hk.2) (.int .i64 t371)) (fun _ hk => hk.2) (.slice Ao132 t372.length co132)) (fun _ hk => hk.2) (.slice Ao133 t375.length co133)) (fun _ h_ => h_.1))) hb); have n10_ := Aside0.mk (blk_below (g := gb312) (o := .cells #[.int .i64 a0_0, .slice A0_1 l0_1.length c0_1, .slice A0_2 l0_2.length c0_2] 24 (0, 0)) (by refine uW ?_; refine blk_far ?_ NB312_379.out _; refine uW ?_; refine blk_far ?_ NB312_379.out _; refine uW ?_; refine blk_far ?_ NB312_379.out _; refine uW ?_; exact BK312.out) hb); have n11_ := Aside0.mk (blk_below (g := gb329) (o := .cells #[.int .i64 t321, .slice Ao26 t322.length co26, .slice Ao27 t325.length co27] 27 (0, 0)) (by refine uW ?_; refine blk_far ?_ NB329_379.out _; refine uW ?_; refine blk_far ?_ NB329_379.out _; refine uW ?_; refine blk_far ?_ NB329_379.out _; refine uW ?_; exact BK329.out) hb); have n12_ := Aside0.mk (blk_below (g := gb337) (o := .cells #[.int .i64 t330, .slice Ao34 t357.length co34, .slice Ao35 t358.length co35] 27 (0, 0)) (by refine uW ?_; refine blk_far ?_ NB337_379.out _; refine uW ?_; refine blk_far ?_ NB337_379.out _; refine uW ?_; refine blk_far ?_ NB337_379.out _; refine uW ?_; exact BK337.out) hb); have n13_ := Aside0.mk (blk_below (g := gb346) (o := .cells #[.int .i64 t338, .slice Ao42 t339.length co42, .slice Ao43 t342.length co43] 27 (0, 0)) (by refine uW ?_; refine blk_far ?_ NB346_379.out _; refine uW ?_; refine blk_far ?_ NB346_379.out _; refine uW ?_; refine blk_far ?_ NB346_379.out _; refine uW ?_; exact BK346.out) hb); have n14_ := Aside0.mk (blk_below (g := gb379) (o := .cells #[.int .i64 t371, .slice Ao132 t372.length co132, .slice Ao133 t375.length co133] 27 (0, 0)) (by refine uW ?_; refine blk_put (cs := #[.int .i64 t371, .slice Ao132 t372.length co132, .slice none 0 0]) ?_ 2 _ rfl; refine uW ?_; refine blk_put (cs := #[.int .i64 t371, .slice none 0 0, .slice none 0 0]) ?_ 1 _ rfl; refine uW ?_; refine blk_put (cs := #[.int .i64 0, .slice none 0 0, .slice none 0 0]) ?_ 0 _ rfl; refine uW ?_; exact BK379.out) hb); have n15_ := Aside0.mk (below_step (by first | exact uB HB | exact uS HB (gC GE312 (gC GE329 (gC GE337 (gC GE346 (gC GE379 gN)))))) hb); clear HO_330001 HO_330002 HO_338001 HO_338002 HO_347001 HO_347002 HO367 HO370 HO374 HO377 BK312 BK329 BK337 BK346 BK379 HB; have HO_330001 := n0_; have HO_330002 := n1_; have HO_338001 := n2_; have HO_338002 := n3_; have HO_347001 := n4_; have HO_347002 := n5_; have HO367 := n6_; have HO370 := n7_; have HO374 := n8_; have HO377 := n9_; have BK312 := n10_; have BK329 := n11_; have BK337 := n12_; have BK346 := n13_; have BK379 := n14_; have HB := n15_; clear n0_ n1_ n2_ n3_ n4_ n5_ n6_ n7_ n8_ n9_ n10_ n11_ n12_ n13_ n14_ n15_; (try clear hb); (try clear hb2); (try clear hk); (try clear hi)))
              go_meet
              case rel => exact ⟨_, ((t378 != t328)), (by first | rfl | (simp; done) | (simp [*]; done)), H', ⟨by have := HJ13.out; have := HJ66.out; first | omega | exact Nat.le_refl _⟩, ⟨by (try simp only [hl338001_66]); (try simp only [hl338002_66]); (with_reducible repeat (first | apply Kd.R_alloc | apply Kd.R_drewN | apply Kd.R_drew)); exact Kd.R_mono HO_330001.out (fun _ hk => ⟨hk.1.1.1.1.1, ⟨hk.1.1.1.1.2.1, ⟨hk.1.1.1.1.2.2.1, ⟨hk.1.1.1.1.2.2.2.1, ⟨hk.1.1.1.1.2.2.2.2, ⟨hk.1.2, hk.2⟩⟩⟩⟩⟩⟩)⟩, ⟨by (try simp only [hl338001_66]); (try simp only [hl338002_66]); (with_reducible repeat (first | apply Kd.R_alloc | apply Kd.R_drewN | apply Kd.R_drew)); exact Kd.R_mono HO_330002.out (fun _ hk => ⟨hk.1.1.1.1.1, ⟨hk.1.1.1.1.2.1, ⟨hk.1.1.1.1.2.2.1, ⟨hk.1.1.1.1.2.2.2.1, ⟨hk.1.1.1.1.2.2.2.2, ⟨hk.1.2, hk.2⟩⟩⟩⟩⟩⟩)⟩, ⟨by (try simp only [hl338001_66]); (try simp only [hl338002_66]); (with_reducible repeat (first | apply Kd.R_alloc | apply Kd.R_drewN | apply Kd.R_drew)); exact Kd.R_mono HO_338001.out (fun _ hk => ⟨hk.1.1.1.1.1, ⟨hk.1.1.1.1.2.1, ⟨hk.1.1.1.1.2.2.1, ⟨hk.1.1.1.1.2.2.2.1, ⟨hk.1.1.1.1.2.2.2.2, ⟨hk.1.2, hk.2⟩⟩⟩⟩⟩⟩)⟩, ⟨by (try simp only [hl338001_66]); (try simp only [hl338002_66]); (with_reducible repeat (first | apply Kd.R_alloc | apply Kd.R_drewN | apply Kd.R_drew)); exact Kd.R_mono HO_338002.out (fun _ hk => ⟨hk.1.1.1.1.1, ⟨hk.1.1.1.1.2.1, ⟨hk.1.1.1.1.2.2.1, ⟨hk.1.1.1.1.2.2.2.1, ⟨hk.1.1.1.1.2.2.2.2, ⟨hk.1.2, hk.2⟩⟩⟩⟩⟩⟩)⟩, ⟨by (try simp only [hl338001_66]); (try simp only [hl338002_66]); (with_reducible repeat (first | apply Kd.R_alloc | apply Kd.R_drewN | apply Kd.R_drew)); exact Kd.R_mono HO_347001.out (fun _ hk => ⟨hk.1.1.1.1.1, ⟨hk.1.1.1.1.2.1, ⟨hk.1.1.1.1.2.2.1, ⟨hk.1.1.1.1.2.2.2.1, ⟨hk.1.1.1.1.2.2.2.2, ⟨hk.1.2, hk.2⟩⟩⟩⟩⟩⟩)⟩, ⟨by (try simp only [hl338001_66]); (try simp only [hl338002_66]); (with_reducible repeat (first | apply Kd.R_alloc | apply Kd.R_drewN | apply Kd.R_drew)); exact Kd.R_mono HO_347002.out (fun _ hk => ⟨hk.1.1.1.1.1, ⟨hk.1.1.1.1.2.1, ⟨hk.1.1.1.1.2.2.1, ⟨hk.1.1.1.1.2.2.2.1, ⟨hk.1.1.1.1.2.2.2.2, ⟨hk.1.2, hk.2⟩⟩⟩⟩⟩⟩)⟩, ⟨by (try simp only [hl338001_66]); (try simp only [hl338002_66]); (with_reducible repeat (first | apply Kd.R_alloc | apply Kd.R_drewN | apply Kd.R_drew)); exact Kd.R_mono HO374.out (fun _ hk => ⟨hk.1.1.1.1.1.1.1.2, ⟨hk.1.1.1.1.1.1.2, ⟨hk.1.1.1.1.1.2, ⟨hk.1.1.1.1.2, ⟨hk.1.1.1.2, ⟨hk.1.1.2, hk.1.1.1.1.1.1.1.1⟩⟩⟩⟩⟩⟩)⟩, ⟨by (try simp only [hl338001_66]); (try simp only [hl338002_66]); (with_reducible repeat (first | apply Kd.R_alloc | apply Kd.R_drewN | apply Kd.R_drew)); exact Kd.R_mono HO377.out (fun _ hk => ⟨hk.1.1.1.1.1.1.1.2, ⟨hk.1.1.1.1.1.1.2, ⟨hk.1.1.1.1.1.2, ⟨hk.1.1.1.1.2, ⟨hk.1.1.1.2, ⟨hk.1.1.2, hk.1.1.1.1.1.1.1.1⟩⟩⟩⟩⟩⟩)⟩, ⟨by (try simp only [hl338001_66]); (try simp only [hl338002_66]); refine uW ?_; exact BK312.out⟩, ⟨by (try simp only [hl338001_66]); (try simp only [hl338002_66]); refine uW ?_; exact BK329.out⟩, ⟨by (try simp only [hl338001_66]); (try simp only [hl338002_66]); refine uW ?_; exact BK337.out⟩, ⟨by (try simp only [hl338001_66]); (try simp only [hl338002_66]); refine uW ?_; exact BK346.out⟩, ⟨by (try simp only [hl338001_66]); (try simp only [hl338002_66]); refine uW ?_; exact BK379.out⟩, ⟨by first | exact uB HB | exact uS HB (gC GE312 (gC GE329 (gC GE337 (gC GE346 (gC GE379 gN)))))⟩⟩
             ·
              replace c135 := Bool.eq_false_iff.mpr c135
              subst c135
              have H1 : (laws_FnExactCuckooRemove.j2 kj66 t360 true t338 t361 t362) = some r := by rw [if_neg (show ¬ (false = true) by decide)] at H; exact H
              clear H
              have H := H1
              clear H1
              have H' := Aside0.mk H
              clear H
              have hnb146 := NB379_312.out
              have hnc146 := NB312_379.out
              have hnb147 := NB379_329.out
              have hnc147 := NB329_379.out
              have hnb148 := NB379_337.out
              have hnc148 := NB337_379.out
              have hnb149 := NB379_346.out
              have hnc149 := NB346_379.out
              have hcz150_0 : w126.cell? ⟨gb379, 0, none⟩ = some (.int .i64 0) := (blk_cell BK379.out 0).trans rfl
              have hcz150_1 : w126.cell? ⟨gb379, 1, none⟩ = some (.slice none 0 0) := (blk_cell BK379.out 1).trans rfl
              have hcz150_2 : w126.cell? ⟨gb379, 2, none⟩ = some (.slice none 0 0) := (blk_cell BK379.out 2).trans rfl
              have hfz150_0 := blk_frozen BK379.out 0
              have hfz150_1 := blk_frozen BK379.out 1
              have hfz150_2 := blk_frozen BK379.out 2
              have hnb151 := NB329_312.out
              have hnc151 := NB312_329.out
              have hnb152 := NB329_337.out
              have hnc152 := NB337_329.out
              have hnb153 := NB329_346.out
              have hnc153 := NB346_329.out
              have hcz154_0 : w126.cell? ⟨gb329, 0, none⟩ = some (.int .i64 t321) := (blk_cell BK329.out 0).trans rfl
              have hcz154_1 : w126.cell? ⟨gb329, 1, none⟩ = some (.slice Ao26 t322.length co26) := (blk_cell BK329.out 1).trans rfl
              have hcz154_2 : w126.cell? ⟨gb329, 2, none⟩ = some (.slice Ao27 t325.length co27) := (blk_cell BK329.out 2).trans rfl
              have hfz154_0 := blk_frozen BK329.out 0
              have hfz154_1 := blk_frozen BK329.out 1
              have hfz154_2 := blk_frozen BK329.out 2
              go_wp2_with (first | ((with_reducible refine gate_callee (f := 14) rfl ?_); refine goesL_ (some 89) rfl rfl Try.func14 (by kernel_rfl) rfl #[.agg #[.int .i64 t371, .slice Ao132 t372.length co132, .slice Ao133 t375.length co133], .agg #[.int .i64 t321, .slice Ao26 t322.length co26, .slice Ao27 t325.length co27]] rfl (by (try simp only [List.map_toArray, List.map_cons, List.map_nil]); first | done | rfl | (simp only [List.length_drop, List.length_take]; rfl)) ?_; (with_reducible refine (laws_eqCuckoo.calls kj66 t371 _ _ t372 _ _ t375 t321 _ _ t322 _ _ t325 false _ ?side1 ?side2 ?side3 ?side4 ?side5 ?side6 ?side7 ?side8 A134.out).mono ?_); (case side1 => refine (Kd.R_reads' (e := 9) (base := w.heap.size) (ok := fun k_ => ((((((((some k_ ≠ (.slice Ao133 t375.length co133 : Value).ownBlock ∧ some k_ ≠ (.slice Ao26 t322.length co26 : Value).ownBlock) ∧ some k_ ≠ (.slice Ao27 t325.length co27 : Value).ownBlock) ∧ some k_ ≠ (.slice Ao34 t357.length co34 : Value).ownBlock) ∧ some k_ ≠ (.slice Ao35 t358.length co35 : Value).ownBlock) ∧ some k_ ≠ (.slice Ao42 t339.length co42 : Value).ownBlock) ∧ some k_ ≠ (.slice Ao43 t342.length co43 : Value).ownBlock) ∧ some k_ ≠ (.slice Ao123 t365.length co123 : Value).ownBlock) ∧ some k_ ≠ (.slice Ao124 t368.length co124 : Value).ownBlock)) (n := t372.length) (c := co132) ?_).2.2; exact (by (with_reducible repeat (first | apply Kd.R_alloc | apply Kd.R_drewN | apply Kd.R_drew)); exact (Kd.R_mono (Kd.R_far (p := ⟨gb379, 2, none⟩) (Kd.R_far (p := ⟨gb379, 1, none⟩) (Kd.R_far (p := ⟨gb379, 0, none⟩) (Kd.R_types HO374.out BK379.out (by decide)) (fun _ hk => hk.2) (.int .i64 t371)) (fun _ hk => hk.2) (.slice Ao132 t372.length co132)) (fun _ hk => hk.2) (.slice Ao133 t375.length co133)) (fun _ h_ => h_.1)))); (case side2 => exact (Kd.R_reads' HO374.out).2.1); (case side3 => refine (Kd.R_reads' (e := 9) (base := w.heap.size) (ok := fun k_ => ((((((((some k_ ≠ (.slice Ao132 t372.length co132 : Value).ownBlock ∧ some k_ ≠ (.slice Ao26 t322.length co26 : Value).ownBlock) ∧ some k_ ≠ (.slice Ao27 t325.length co27 : Value).ownBlock) ∧ some k_ ≠ (.slice Ao34 t357.length co34 : Value).ownBlock) ∧ some k_ ≠ (.slice Ao35 t358.length co35 : Value).ownBlock) ∧ some k_ ≠ (.slice Ao42 t339.length co42 : Value).ownBlock) ∧ some k_ ≠ (.slice Ao43 t342.length co43 : Value).ownBlock) ∧ some k_ ≠ (.slice Ao123 t365.length co123 : Value).ownBlock) ∧ some k_ ≠ (.slice Ao124 t368.length co124 : Value).ownBlock)) (n := t375.length) (c := co133) ?_).2.2; exact (by (with_reducible repeat (first | apply Kd.R_alloc | apply Kd.R_drewN | apply Kd.R_drew)); exact (Kd.R_mono (Kd.R_far (p := ⟨gb379, 2, none⟩) (Kd.R_far (p := ⟨gb379, 1, none⟩) (Kd.R_far (p := ⟨gb379, 0, none⟩) (Kd.R_types HO377.out BK379.out (by decide)) (fun _ hk => hk.2) (.int .i64 t371)) (fun _ hk => hk.2) (.slice Ao132 t372.length co132)) (fun _ hk => hk.2) (.slice Ao133 t375.length co133)) (fun _ h_ => h_.1)))); (case side4 => exact (Kd.R_reads' HO377.out).2.1); (case side5 => refine (Kd.R_reads' (e := 9) (base := w.heap.size) (ok := fun k_ => (((((some k_ ≠ (.slice Ao27 t325.length co27 : Value).ownBlock ∧ (some k_ ≠ (.slice Ao34 t357.length co34 : Value).ownBlock ∧ (some k_ ≠ (.slice Ao35 t358.length co35 : Value).ownBlock ∧ (some k_ ≠ (.slice Ao42 t339.length co42 : Value).ownBlock ∧ some k_ ≠ (.slice Ao43 t342.length co43 : Value).ownBlock)))) ∧ some k_ ≠ (.slice Ao123 t365.length co123 : Value).ownBlock) ∧ some k_ ≠ (.slice Ao124 t368.length co124 : Value).ownBlock) ∧ some k_ ≠ (.slice Ao132 t372.length co132 : Value).ownBlock) ∧ some k_ ≠ (.slice Ao133 t375.length co133 : Value).ownBlock)) (n := t322.length) (c := co26) ?_).2.2; exact (by (with_reducible repeat (first | apply Kd.R_alloc | apply Kd.R_drewN | apply Kd.R_drew)); exact (Kd.R_mono (Kd.R_far (p := ⟨gb379, 2, none⟩) (Kd.R_far (p := ⟨gb379, 1, none⟩) (Kd.R_far (p := ⟨gb379, 0, none⟩) (Kd.R_types HO_330001.out BK379.out (by decide)) (fun _ hk => hk.2) (.int .i64 t371)) (fun _ hk => hk.2) (.slice Ao132 t372.length co132)) (fun _ hk => hk.2) (.slice Ao133 t375.length co133)) (fun _ h_ => h_.1)))); (case side6 => exact (Kd.R_reads' HO_330001.out).2.1); (case side7 => refine (Kd.R_reads' (e := 9) (base := w.heap.size) (ok := fun k_ => (((((some k_ ≠ (.slice Ao26 t322.length co26 : Value).ownBlock ∧ (some k_ ≠ (.slice Ao34 t357.length co34 : Value).ownBlock ∧ (some k_ ≠ (.slice Ao35 t358.length co35 : Value).ownBlock ∧ (some k_ ≠ (.slice Ao42 t339.length co42 : Value).ownBlock ∧ some k_ ≠ (.slice Ao43 t342.length co43 : Value).ownBlock)))) ∧ some k_ ≠ (.slice Ao123 t365.length co123 : Value).ownBlock) ∧ some k_ ≠ (.slice Ao124 t368.length co124 : Value).ownBlock) ∧ some k_ ≠ (.slice Ao132 t372.length co132 : Value).ownBlock) ∧ some k_ ≠ (.slice Ao133 t375.length co133 : Value).ownBlock)) (n := t325.length) (c := co27) ?_).2.2; exact (by (with_reducible repeat (first | apply Kd.R_alloc | apply Kd.R_drewN | apply Kd.R_drew)); exact (Kd.R_mono (Kd.R_far (p := ⟨gb379, 2, none⟩) (Kd.R_far (p := ⟨gb379, 1, none⟩) (Kd.R_far (p := ⟨gb379, 0, none⟩) (Kd.R_types HO_330002.out BK379.out (by decide)) (fun _ hk => hk.2) (.int .i64 t371)) (fun _ hk => hk.2) (.slice Ao132 t372.length co132)) (fun _ hk => hk.2) (.slice Ao133 t375.length co133)) (fun _ h_ => h_.1)))); (case side8 => exact (Kd.R_reads' HO_330002.out).2.1); rintro e w155 ⟨rfl, hb⟩; refine ⟨_, rfl, ?_⟩; have n0_ := Aside0.mk (Kd.R_below (by (with_reducible repeat (first | apply Kd.R_alloc | apply Kd.R_drewN | apply Kd.R_drew)); exact (Kd.R_mono (Kd.R_far (p := ⟨gb379, 2, none⟩) (Kd.R_far (p := ⟨gb379, 1, none⟩) (Kd.R_far (p := ⟨gb379, 0, none⟩) (Kd.R_types HO_330001.out BK379.out (by decide)) (fun _ hk => hk.2) (.int .i64 t371)) (fun _ hk => hk.2) (.slice Ao132 t372.length co132)) (fun _ hk => hk.2) (.slice Ao133 t375.length co133)) (fun _ h_ => h_.1))) hb); have n1_ := Aside0.mk (Kd.R_below (by (with_reducible repeat (first | apply Kd.R_alloc | apply Kd.R_drewN | apply Kd.R_drew)); exact (Kd.R_mono (Kd.R_far (p := ⟨gb379, 2, none⟩) (Kd.R_far (p := ⟨gb379, 1, none⟩) (Kd.R_far (p := ⟨gb379, 0, none⟩) (Kd.R_types HO_330002.out BK379.out (by decide)) (fun _ hk => hk.2) (.int .i64 t371)) (fun _ hk => hk.2) (.slice Ao132 t372.length co132)) (fun _ hk => hk.2) (.slice Ao133 t375.length co133)) (fun _ h_ => h_.1))) hb); have n2_ := Aside0.mk (Kd.R_below (by (with_reducible repeat (first | apply Kd.R_alloc | apply Kd.R_drewN | apply Kd.R_drew)); exact (Kd.R_mono (Kd.R_far (p := ⟨gb379, 2, none⟩) (Kd.R_far (p := ⟨gb379, 1, none⟩) (Kd.R_far (p := ⟨gb379, 0, none⟩) (Kd.R_types HO_338001.out BK379.out (by decide)) (fun _ hk => hk.2) (.int .i64 t371)) (fun _ hk => hk.2) (.slice Ao132 t372.length co132)) (fun _ hk => hk.2) (.slice Ao133 t375.length co133)) (fun _ h_ => h_.1))) hb); have n3_ := Aside0.mk (Kd.R_below (by (with_reducible repeat (first | apply Kd.R_alloc | apply Kd.R_drewN | apply Kd.R_drew)); exact (Kd.R_mono (Kd.R_far (p := ⟨gb379, 2, none⟩) (Kd.R_far (p := ⟨gb379, 1, none⟩) (Kd.R_far (p := ⟨gb379, 0, none⟩) (Kd.R_types HO_338002.out BK379.out (by decide)) (fun _ hk => hk.2) (.int .i64 t371)) (fun _ hk => hk.2) (.slice Ao132 t372.length co132)) (fun _ hk => hk.2) (.slice Ao133 t375.length co133)) (fun _ h_ => h_.1))) hb); have n4_ := Aside0.mk (Kd.R_below (by (with_reducible repeat (first | apply Kd.R_alloc | apply Kd.R_drewN | apply Kd.R_drew)); exact (Kd.R_mono (Kd.R_far (p := ⟨gb379, 2, none⟩) (Kd.R_far (p := ⟨gb379, 1, none⟩) (Kd.R_far (p := ⟨gb379, 0, none⟩) (Kd.R_types HO_347001.out BK379.out (by decide)) (fun _ hk => hk.2) (.int .i64 t371)) (fun _ hk => hk.2) (.slice Ao132 t372.length co132)) (fun _ hk => hk.2) (.slice Ao133 t375.length co133)) (fun _ h_ => h_.1))) hb); have n5_ := Aside0.mk (Kd.R_below (by (with_reducible repeat (first | apply Kd.R_alloc | apply Kd.R_drewN | apply Kd.R_drew)); exact (Kd.R_mono (Kd.R_far (p := ⟨gb379, 2, none⟩) (Kd.R_far (p := ⟨gb379, 1, none⟩) (Kd.R_far (p := ⟨gb379, 0, none⟩) (Kd.R_types HO_347002.out BK379.out (by decide)) (fun _ hk => hk.2) (.int .i64 t371)) (fun _ hk => hk.2) (.slice Ao132 t372.length co132)) (fun _ hk => hk.2) (.slice Ao133 t375.length co133)) (fun _ h_ => h_.1))) hb); have n6_ := Aside0.mk (Kd.R_below (by (with_reducible repeat (first | apply Kd.R_alloc | apply Kd.R_drewN | apply Kd.R_drew)); exact (Kd.R_mono (Kd.R_far (p := ⟨gb379, 2, none⟩) (Kd.R_far (p := ⟨gb379, 1, none⟩) (Kd.R_far (p := ⟨gb379, 0, none⟩) (Kd.R_types HO367.out BK379.out (by decide)) (fun _ hk => hk.2) (.int .i64 t371)) (fun _ hk => hk.2) (.slice Ao132 t372.length co132)) (fun _ hk => hk.2) (.slice Ao133 t375.length co133)) (fun _ h_ => h_.1))) hb); have n7_ := Aside0.mk (Kd.R_below (by (with_reducible repeat (first | apply Kd.R_alloc | apply Kd.R_drewN | apply Kd.R_drew)); exact (Kd.R_mono (Kd.R_far (p := ⟨gb379, 2, none⟩) (Kd.R_far (p := ⟨gb379, 1, none⟩) (Kd.R_far (p := ⟨gb379, 0, none⟩) (Kd.R_types HO370.out BK379.out (by decide)) (fun _ hk => hk.2) (.int .i64 t371)) (fun _ hk => hk.2) (.slice Ao132 t372.length co132)) (fun _ hk => hk.2) (.slice Ao133 t375.length co133)) (fun _ h_ => h_.1))) hb); have n8_ := Aside0.mk (Kd.R_below (by (with_reducible repeat (first | apply Kd.R_alloc | apply Kd.R_drewN | apply Kd.R_drew)); exact (Kd.R_mono (Kd.R_far (p := ⟨gb379, 2, none⟩) (Kd.R_far (p := ⟨gb379, 1, none⟩) (Kd.R_far (p := ⟨gb379, 0, none⟩) (Kd.R_types HO374.out BK379.out (by decide)) (fun _ hk => hk.2) (.int .i64 t371)) (fun _ hk => hk.2) (.slice Ao132 t372.length co132)) (fun _ hk => hk.2) (.slice Ao133 t375.length co133)) (fun _ h_ => h_.1))) hb); have n9_ := Aside0.mk (Kd.R_below (by (with_reducible repeat (first | apply Kd.R_alloc | apply Kd.R_drewN | apply Kd.R_drew)); exact (Kd.R_mono (Kd.R_far (p := ⟨gb379, 2, none⟩) (Kd.R_far (p := ⟨gb379, 1, none⟩) (Kd.R_far (p := ⟨gb379, 0, none⟩) (Kd.R_types HO377.out BK379.out (by decide)) (fun _ hk => hk.2) (.int .i64 t371)) (fun _ hk => hk.2) (.slice Ao132 t372.length co132)) (fun _ hk => hk.2) (.slice Ao133 t375.length co133)) (fun _ h_ => h_.1))) hb); have n10_ := Aside0.mk (blk_below (g := gb312) (o := .cells #[.int .i64 a0_0, .slice A0_1 l0_1.length c0_1, .slice A0_2 l0_2.length c0_2] 24 (0, 0)) (by refine uW ?_; refine blk_far ?_ NB312_379.out _; refine uW ?_; refine blk_far ?_ NB312_379.out _; refine uW ?_; refine blk_far ?_ NB312_379.out _; refine uW ?_; exact BK312.out) hb); have n11_ := Aside0.mk (blk_below (g := gb329) (o := .cells #[.int .i64 t321, .slice Ao26 t322.length co26, .slice Ao27 t325.length co27] 27 (0, 0)) (by refine uW ?_; refine blk_far ?_ NB329_379.out _; refine uW ?_; refine blk_far ?_ NB329_379.out _; refine uW ?_; refine blk_far ?_ NB329_379.out _; refine uW ?_; exact BK329.out) hb); have n12_ := Aside0.mk (blk_below (g := gb337) (o := .cells #[.int .i64 t330, .slice Ao34 t357.length co34, .slice Ao35 t358.length co35] 27 (0, 0)) (by refine uW ?_; refine blk_far ?_ NB337_379.out _; refine uW ?_; refine blk_far ?_ NB337_379.out _; refine uW ?_; refine blk_far ?_ NB337_379.out _; refine uW ?_; exact BK337.out) hb); have n13_ := Aside0.mk (blk_below (g := gb346) (o := .cells #[.int .i64 t338, .slice Ao42 t339.length co42, .slice Ao43 t342.length co43] 27 (0, 0)) (by refine uW ?_; refine blk_far ?_ NB346_379.out _; refine uW ?_; refine blk_far ?_ NB346_379.out _; refine uW ?_; refine blk_far ?_ NB346_379.out _; refine uW ?_; exact BK346.out) hb); have n14_ := Aside0.mk (blk_below (g := gb379) (o := .cells #[.int .i64 t371, .slice Ao132 t372.length co132, .slice Ao133 t375.length co133] 27 (0, 0)) (by refine uW ?_; refine blk_put (cs := #[.int .i64 t371, .slice Ao132 t372.length co132, .slice none 0 0]) ?_ 2 _ rfl; refine uW ?_; refine blk_put (cs := #[.int .i64 t371, .slice none 0 0, .slice none 0 0]) ?_ 1 _ rfl; refine uW ?_; refine blk_put (cs := #[.int .i64 0, .slice none 0 0, .slice none 0 0]) ?_ 0 _ rfl; refine uW ?_; exact BK379.out) hb); have n15_ := Aside0.mk (below_step (by first | exact uB HB | exact uS HB (gC GE312 (gC GE329 (gC GE337 (gC GE346 (gC GE379 gN)))))) hb); clear HO_330001 HO_330002 HO_338001 HO_338002 HO_347001 HO_347002 HO367 HO370 HO374 HO377 BK312 BK329 BK337 BK346 BK379 HB; have HO_330001 := n0_; have HO_330002 := n1_; have HO_338001 := n2_; have HO_338002 := n3_; have HO_347001 := n4_; have HO_347002 := n5_; have HO367 := n6_; have HO370 := n7_; have HO374 := n8_; have HO377 := n9_; have BK312 := n10_; have BK329 := n11_; have BK337 := n12_; have BK346 := n13_; have BK379 := n14_; have HB := n15_; clear n0_ n1_ n2_ n3_ n4_ n5_ n6_ n7_ n8_ n9_ n10_ n11_ n12_ n13_ n14_ n15_; (try clear hb); (try clear hb2); (try clear hk); (try clear hi)))
              go_meet
              case rel => exact ⟨_, (true), (by first | rfl | (simp; done) | (simp [*]; done)), H', ⟨by have := HJ13.out; have := HJ66.out; first | omega | exact Nat.le_refl _⟩, ⟨by (try simp only [hl338001_66]); (try simp only [hl338002_66]); (with_reducible repeat (first | apply Kd.R_alloc | apply Kd.R_drewN | apply Kd.R_drew)); exact Kd.R_mono HO_330001.out (fun _ hk => ⟨hk.1.1.1.1.1, ⟨hk.1.1.1.1.2.1, ⟨hk.1.1.1.1.2.2.1, ⟨hk.1.1.1.1.2.2.2.1, ⟨hk.1.1.1.1.2.2.2.2, ⟨hk.1.2, hk.2⟩⟩⟩⟩⟩⟩)⟩, ⟨by (try simp only [hl338001_66]); (try simp only [hl338002_66]); (with_reducible repeat (first | apply Kd.R_alloc | apply Kd.R_drewN | apply Kd.R_drew)); exact Kd.R_mono HO_330002.out (fun _ hk => ⟨hk.1.1.1.1.1, ⟨hk.1.1.1.1.2.1, ⟨hk.1.1.1.1.2.2.1, ⟨hk.1.1.1.1.2.2.2.1, ⟨hk.1.1.1.1.2.2.2.2, ⟨hk.1.2, hk.2⟩⟩⟩⟩⟩⟩)⟩, ⟨by (try simp only [hl338001_66]); (try simp only [hl338002_66]); (with_reducible repeat (first | apply Kd.R_alloc | apply Kd.R_drewN | apply Kd.R_drew)); exact Kd.R_mono HO_338001.out (fun _ hk => ⟨hk.1.1.1.1.1, ⟨hk.1.1.1.1.2.1, ⟨hk.1.1.1.1.2.2.1, ⟨hk.1.1.1.1.2.2.2.1, ⟨hk.1.1.1.1.2.2.2.2, ⟨hk.1.2, hk.2⟩⟩⟩⟩⟩⟩)⟩, ⟨by (try simp only [hl338001_66]); (try simp only [hl338002_66]); (with_reducible repeat (first | apply Kd.R_alloc | apply Kd.R_drewN | apply Kd.R_drew)); exact Kd.R_mono HO_338002.out (fun _ hk => ⟨hk.1.1.1.1.1, ⟨hk.1.1.1.1.2.1, ⟨hk.1.1.1.1.2.2.1, ⟨hk.1.1.1.1.2.2.2.1, ⟨hk.1.1.1.1.2.2.2.2, ⟨hk.1.2, hk.2⟩⟩⟩⟩⟩⟩)⟩, ⟨by (try simp only [hl338001_66]); (try simp only [hl338002_66]); (with_reducible repeat (first | apply Kd.R_alloc | apply Kd.R_drewN | apply Kd.R_drew)); exact Kd.R_mono HO_347001.out (fun _ hk => ⟨hk.1.1.1.1.1, ⟨hk.1.1.1.1.2.1, ⟨hk.1.1.1.1.2.2.1, ⟨hk.1.1.1.1.2.2.2.1, ⟨hk.1.1.1.1.2.2.2.2, ⟨hk.1.2, hk.2⟩⟩⟩⟩⟩⟩)⟩, ⟨by (try simp only [hl338001_66]); (try simp only [hl338002_66]); (with_reducible repeat (first | apply Kd.R_alloc | apply Kd.R_drewN | apply Kd.R_drew)); exact Kd.R_mono HO_347002.out (fun _ hk => ⟨hk.1.1.1.1.1, ⟨hk.1.1.1.1.2.1, ⟨hk.1.1.1.1.2.2.1, ⟨hk.1.1.1.1.2.2.2.1, ⟨hk.1.1.1.1.2.2.2.2, ⟨hk.1.2, hk.2⟩⟩⟩⟩⟩⟩)⟩, ⟨by (try simp only [hl338001_66]); (try simp only [hl338002_66]); (with_reducible repeat (first | apply Kd.R_alloc | apply Kd.R_drewN | apply Kd.R_drew)); exact Kd.R_mono HO374.out (fun _ hk => ⟨hk.1.1.1.1.1.1.1.2, ⟨hk.1.1.1.1.1.1.2, ⟨hk.1.1.1.1.1.2, ⟨hk.1.1.1.1.2, ⟨hk.1.1.1.2, ⟨hk.1.1.2, hk.1.1.1.1.1.1.1.1⟩⟩⟩⟩⟩⟩)⟩, ⟨by (try simp only [hl338001_66]); (try simp only [hl338002_66]); (with_reducible repeat (first | apply Kd.R_alloc | apply Kd.R_drewN | apply Kd.R_drew)); exact Kd.R_mono HO377.out (fun _ hk => ⟨hk.1.1.1.1.1.1.1.2, ⟨hk.1.1.1.1.1.1.2, ⟨hk.1.1.1.1.1.2, ⟨hk.1.1.1.1.2, ⟨hk.1.1.1.2, ⟨hk.1.1.2, hk.1.1.1.1.1.1.1.1⟩⟩⟩⟩⟩⟩)⟩, ⟨by (try simp only [hl338001_66]); (try simp only [hl338002_66]); refine uW ?_; exact BK312.out⟩, ⟨by (try simp only [hl338001_66]); (try simp only [hl338002_66]); refine uW ?_; exact BK329.out⟩, ⟨by (try simp only [hl338001_66]); (try simp only [hl338002_66]); refine uW ?_; exact BK337.out⟩, ⟨by (try simp only [hl338001_66]); (try simp only [hl338002_66]); refine uW ?_; exact BK346.out⟩, ⟨by (try simp only [hl338001_66]); (try simp only [hl338002_66]); refine uW ?_; exact BK379.out⟩, ⟨by first | exact uB HB | exact uS HB (gC GE312 (gC GE329 (gC GE337 (gC GE346 (gC GE379 gN)))))⟩⟩
            case rest =>
             clear HC111
             try clear c1
             try clear c2
             try clear p2
             try clear c3
             try clear c3b0
             try clear c3b1
             try clear c4
             try clear c5
             try clear c6
             try clear c6b0
             try clear c7
             try clear c8
             try clear c9
             try clear c10
             try clear c11
             try clear c12
             try clear c13
             try clear c14
             try clear c15
             try clear c20
             try clear c24
             try clear c25
             try clear c26
             try clear c27
             try clear c31
             try clear c32
             try clear c38
             try clear c39
             try clear c40
             try clear c45
             try clear c46
             try clear c47
             try clear c48
             try clear c50
             try clear c51
             try clear c54
             try clear c55
             try clear c56
             try clear c58
             try clear c59
             try clear c62
             try clear c65
             try clear c73
             try clear c74
             try clear c75
             try clear c78
             try clear c78b0
             try clear c80
             try clear c81
             try clear c82
             try clear c83
             try clear c85
             try clear c86
             try clear c89
             try clear c90
             try clear c91
             try clear c93
             try clear c94
             try clear c97
             try clear c100
             try clear c100b0
             try clear c101
             try clear c102
             try clear c103
             try clear c108
             try clear c108b0
             try clear c108b1
             try clear c112
             try clear c113
             try clear c114
             try clear c119
             try clear c120
             try clear c127
             try clear c128
             try clear c129
             try clear c130
             try clear c135
             try clear c136
             try clear c137
             try clear c138
             try clear c139
             try clear c141
             try clear c142
             try clear c143
             try clear c146
             try clear c147
             try clear c148
             try clear c149
             try clear c151
             try clear c152
             try clear c153
             try clear hcz104_0
             try clear hcz104_1
             try clear hcz104_2
             try clear hcz106_0
             try clear hcz106_1
             try clear hcz106_2
             try clear hcz115_0
             try clear hcz115_1
             try clear hcz115_2
             try clear hcz117_0
             try clear hcz117_1
             try clear hcz117_2
             try clear hcz121_0
             try clear hcz121_1
             try clear hcz121_2
             try clear hcz131_0
             try clear hcz131_1
             try clear hcz131_2
             try clear hcz140_0
             try clear hcz140_1
             try clear hcz140_2
             try clear hcz144_0
             try clear hcz144_1
             try clear hcz144_2
             try clear hcz150_0
             try clear hcz150_1
             try clear hcz150_2
             try clear hcz154_0
             try clear hcz154_1
             try clear hcz154_2
             try clear hcz16_0
             try clear hcz16_1
             try clear hcz16_2
             try clear hcz18_0
             try clear hcz18_1
             try clear hcz18_2
             try clear hcz25_0
             try clear hcz25_1
             try clear hcz25_2
             try clear hcz28_0
             try clear hcz28_1
             try clear hcz28_2
             try clear hcz33_0
             try clear hcz33_1
             try clear hcz33_2
             try clear hcz41_0
             try clear hcz41_1
             try clear hcz41_2
             try clear hcz49_0
             try clear hcz49_1
             try clear hcz49_2
             try clear hcz52_0
             try clear hcz52_1
             try clear hcz52_2
             try clear hcz57_0
             try clear hcz57_1
             try clear hcz57_2
             try clear hcz60_0
             try clear hcz60_1
             try clear hcz60_2
             try clear hcz76_0
             try clear hcz76_1
             try clear hcz76_2
             try clear hcz84_0
             try clear hcz84_1
             try clear hcz84_2
             try clear hcz87_0
             try clear hcz87_1
             try clear hcz87_2
             try clear hcz8_0
             try clear hcz8_1
             try clear hcz8_2
             try clear hcz92_0
             try clear hcz92_1
             try clear hcz92_2
             try clear hcz95_0
             try clear hcz95_1
             try clear hcz95_2
             try clear hfz104_0
             try clear hfz104_1
             try clear hfz104_2
             try clear hfz106_0
             try clear hfz106_1
             try clear hfz106_2
             try clear hfz115_0
             try clear hfz115_1
             try clear hfz115_2
             try clear hfz117_0
             try clear hfz117_1
             try clear hfz117_2
             try clear hfz121_0
             try clear hfz121_1
             try clear hfz121_2
             try clear hfz131_0
             try clear hfz131_1
             try clear hfz131_2
             try clear hfz140_0
             try clear hfz140_1
             try clear hfz140_2
             try clear hfz144_0
             try clear hfz144_1
             try clear hfz144_2
             try clear hfz150_0
             try clear hfz150_1
             try clear hfz150_2
             try clear hfz154_0
             try clear hfz154_1
             try clear hfz154_2
             try clear hfz16_0
             try clear hfz16_1
             try clear hfz16_2
             try clear hfz18_0
             try clear hfz18_1
             try clear hfz18_2
             try clear hfz25_0
             try clear hfz25_1
             try clear hfz25_2
             try clear hfz28_0
             try clear hfz28_1
             try clear hfz28_2
             try clear hfz33_0
             try clear hfz33_1
             try clear hfz33_2
             try clear hfz41_0
             try clear hfz41_1
             try clear hfz41_2
             try clear hfz49_0
             try clear hfz49_1
             try clear hfz49_2
             try clear hfz52_0
             try clear hfz52_1
             try clear hfz52_2
             try clear hfz57_0
             try clear hfz57_1
             try clear hfz57_2
             try clear hfz60_0
             try clear hfz60_1
             try clear hfz60_2
             try clear hfz76_0
             try clear hfz76_1
             try clear hfz76_2
             try clear hfz84_0
             try clear hfz84_1
             try clear hfz84_2
             try clear hfz87_0
             try clear hfz87_1
             try clear hfz87_2
             try clear hfz8_0
             try clear hfz8_1
             try clear hfz8_2
             try clear hfz92_0
             try clear hfz92_1
             try clear hfz92_2
             try clear hfz95_0
             try clear hfz95_1
             try clear hfz95_2
             try clear p2
             obtain ⟨kq, x95_110, rfl, HA, HJ110, HO_330001, HO_330002, HO_338001, HO_338002, HO_347001, HO_347002, HO_380001, HO_380002, BK312, BK329, BK337, BK346, BK379, HB⟩ := hcut
             have hl347001_110 := (Kd.R_reads' HO_347001.out).1
             rw [hl347001_110] at HO_347001
             (try simp only [hl347001_110])
             (try simp only [hl347001_110] at BK312)
             (try simp only [hl347001_110] at BK329)
             (try simp only [hl347001_110] at BK337)
             (try simp only [hl347001_110] at BK346)
             (try simp only [hl347001_110] at BK379)
             (try simp only [hl347001_110] at HO_330001)
             (try simp only [hl347001_110] at HO_330002)
             (try simp only [hl347001_110] at HO_338001)
             (try simp only [hl347001_110] at HO_338002)
             (try simp only [hl347001_110] at HO_347002)
             (try simp only [hl347001_110] at HO_380001)
             (try simp only [hl347001_110] at HO_380002)
             have hl347002_110 := (Kd.R_reads' HO_347002.out).1
             rw [hl347002_110] at HO_347002
             (try simp only [hl347002_110])
             (try simp only [hl347002_110] at BK312)
             (try simp only [hl347002_110] at BK329)
             (try simp only [hl347002_110] at BK337)
             (try simp only [hl347002_110] at BK346)
             (try simp only [hl347002_110] at BK379)
             (try simp only [hl347002_110] at HO_330001)
             (try simp only [hl347002_110] at HO_330002)
             (try simp only [hl347002_110] at HO_338001)
             (try simp only [hl347002_110] at HO_338002)
             (try simp only [hl347002_110] at HO_347001)
             (try simp only [hl347002_110] at HO_380001)
             (try simp only [hl347002_110] at HO_380002)
             cases kq with
             | zero => exact absurd HA.out (by simp [laws_FnExactCuckooRemove.j2])
             | succ kj110 =>
              have H := HA.out
              clear HA
              simp only [laws_FnExactCuckooRemove.j2] at H
              by_cases c156 : x95_110 = true
              ·
               subst c156
               have H1 : (some false) = some r := by rw [if_pos rfl] at H; exact H
               clear H
               have H := H1
               clear H1
               obtain rfl := Option.some.inj H
               go_wp2
               go_ret
               exact ⟨by first | rfl | (simp [errW_none, errW_some] <;> rfl) | (simp [*, errW_none, errW_some] <;> rfl), by first | exact uB HB | exact uS HB (gC GE312 (gC GE329 (gC GE337 (gC GE346 (gC GE379 gN)))))⟩
              ·
               replace c156 := Bool.eq_false_iff.mpr c156
               subst c156
               have H1 : ((laws_heldCuckoo.f kj110 t338 t361 t362 1).bind fun t381 => (if t381 < 0 then (some false) else (if t381 = t360 then (some true) else (some false)))) = some r := by rw [if_neg (show ¬ (false = true) by decide)] at H; exact H
               clear H
               have H := H1
               clear H1
               replace H := Option.bind_eq_some_iff.mp H
               obtain ⟨t381, A1570, H⟩ := H
               replace H : (if t381 < 0 then (some false) else (if t381 = t360 then (some true) else (some false))) = some r := H
               have A157 := Aside0.mk A1570
               clear A1570
               by_cases c158 : t381 < 0
               ·
                rw [if_pos c158] at H
                have c158b0 : decide (t381 < 0) = true := decide_eq_true c158
                clear c158
                obtain rfl := Option.some.inj H
                have hnb159 := NB346_312.out
                have hnc159 := NB312_346.out
                have hnb160 := NB346_329.out
                have hnc160 := NB329_346.out
                have hnb161 := NB346_337.out
                have hnc161 := NB337_346.out
                have hnb162 := NB346_379.out
                have hnc162 := NB379_346.out
                have hcz163_0 : wc.cell? ⟨gb346, 0, none⟩ = some (.int .i64 t338) := (blk_cell BK346.out 0).trans rfl
                have hcz163_1 : wc.cell? ⟨gb346, 1, none⟩ = some (.slice Ao42 t361.length co42) := (blk_cell BK346.out 1).trans rfl
                have hcz163_2 : wc.cell? ⟨gb346, 2, none⟩ = some (.slice Ao43 t362.length co43) := (blk_cell BK346.out 2).trans rfl
                have hfz163_0 := blk_frozen BK346.out 0
                have hfz163_1 := blk_frozen BK346.out 1
                have hfz163_2 := blk_frozen BK346.out 2
                go_wp2_with (first | ((with_reducible refine gate_callee (f := 25) rfl ?_); refine goesL_ (some 98) rfl rfl Try.func25 (by kernel_rfl) rfl #[.agg #[.int .i64 t338, .slice Ao42 t361.length co42, .slice Ao43 t362.length co43], .int .i64 1] rfl (by (try simp only [List.map_toArray, List.map_cons, List.map_nil]); first | done | rfl | (simp only [List.length_drop, List.length_take]; rfl)) ?_; (with_reducible refine (laws_heldCuckoo.calls kj110 t338 _ _ t361 _ _ t362 1 t381 _ ?side1 ?side2 ?side3 ?side4 A157.out).mono ?_); (case side1 => exact uD HO_347001); (case side2 => exact (Kd.R_reads' HO_347001.out).2.1); (case side3 => exact uD HO_347002); (case side4 => exact (Kd.R_reads' HO_347002.out).2.1); rintro e w164 ⟨rfl, hb⟩; refine ⟨_, rfl, ?_⟩; have n0_ := Aside0.mk (Kd.R_below (uR HO_330001) hb); have n1_ := Aside0.mk (Kd.R_below (uR HO_330002) hb); have n2_ := Aside0.mk (Kd.R_below (uR HO_338001) hb); have n3_ := Aside0.mk (Kd.R_below (uR HO_338002) hb); have n4_ := Aside0.mk (Kd.R_below (uR HO_347001) hb); have n5_ := Aside0.mk (Kd.R_below (uR HO_347002) hb); have n6_ := Aside0.mk (Kd.R_below (uR HO_380001) hb); have n7_ := Aside0.mk (Kd.R_below (uR HO_380002) hb); have n8_ := Aside0.mk (blk_below (g := gb312) (o := .cells #[.int .i64 a0_0, .slice A0_1 l0_1.length c0_1, .slice A0_2 l0_2.length c0_2] 24 (0, 0)) (uK BK312) hb); have n9_ := Aside0.mk (blk_below (g := gb329) (o := .cells #[.int .i64 t321, .slice Ao26 t322.length co26, .slice Ao27 t325.length co27] 27 (0, 0)) (uK BK329) hb); have n10_ := Aside0.mk (blk_below (g := gb337) (o := .cells #[.int .i64 t330, .slice Ao34 t357.length co34, .slice Ao35 t358.length co35] 27 (0, 0)) (uK BK337) hb); have n11_ := Aside0.mk (blk_below (g := gb346) (o := .cells #[.int .i64 t338, .slice Ao42 t361.length co42, .slice Ao43 t362.length co43] 27 (0, 0)) (uK BK346) hb); have n12_ := Aside0.mk (blk_below (g := gb379) (o := .cells #[.int .i64 t371, .slice Ao132 t372.length co132, .slice Ao133 t375.length co133] 27 (0, 0)) (uK BK379) hb); have n13_ := Aside0.mk (below_step (by first | exact uB HB | exact uS HB (gC GE312 (gC GE329 (gC GE337 (gC GE346 (gC GE379 gN)))))) hb); clear HO_330001 HO_330002 HO_338001 HO_338002 HO_347001 HO_347002 HO_380001 HO_380002 BK312 BK329 BK337 BK346 BK379 HB; have HO_330001 := n0_; have HO_330002 := n1_; have HO_338001 := n2_; have HO_338002 := n3_; have HO_347001 := n4_; have HO_347002 := n5_; have HO_380001 := n6_; have HO_380002 := n7_; have BK312 := n8_; have BK329 := n9_; have BK337 := n10_; have BK346 := n11_; have BK379 := n12_; have HB := n13_; clear n0_ n1_ n2_ n3_ n4_ n5_ n6_ n7_ n8_ n9_ n10_ n11_ n12_ n13_; (try clear hb); (try clear hb2); (try clear hk); (try clear hi)))
                go_ret
                exact ⟨by first | rfl | (simp [errW_none, errW_some] <;> rfl) | (simp [*, errW_none, errW_some] <;> rfl), by first | exact uB HB | exact uS HB (gC GE312 (gC GE329 (gC GE337 (gC GE346 (gC GE379 gN)))))⟩
               ·
                rw [if_neg c158] at H
                have c158b0 : decide (t381 < 0) = false := decide_eq_false c158
                clear c158
                by_cases c165 : t381 = t360
                ·
                 rw [if_pos c165] at H
                 have c165b0 : (t381 == t360) = true := beq_iff_eq.mpr c165
                 have c165b1 : (t381 != t360) = false := bne_eq_false_iff_eq.mpr c165
                 clear c165
                 obtain rfl := Option.some.inj H
                 have hnb166 := NB346_312.out
                 have hnc166 := NB312_346.out
                 have hnb167 := NB346_329.out
                 have hnc167 := NB329_346.out
                 have hnb168 := NB346_337.out
                 have hnc168 := NB337_346.out
                 have hnb169 := NB346_379.out
                 have hnc169 := NB379_346.out
                 have hcz170_0 : wc.cell? ⟨gb346, 0, none⟩ = some (.int .i64 t338) := (blk_cell BK346.out 0).trans rfl
                 have hcz170_1 : wc.cell? ⟨gb346, 1, none⟩ = some (.slice Ao42 t361.length co42) := (blk_cell BK346.out 1).trans rfl
                 have hcz170_2 : wc.cell? ⟨gb346, 2, none⟩ = some (.slice Ao43 t362.length co43) := (blk_cell BK346.out 2).trans rfl
                 have hfz170_0 := blk_frozen BK346.out 0
                 have hfz170_1 := blk_frozen BK346.out 1
                 have hfz170_2 := blk_frozen BK346.out 2
                 go_wp2_with (first | ((with_reducible refine gate_callee (f := 25) rfl ?_); refine goesL_ (some 98) rfl rfl Try.func25 (by kernel_rfl) rfl #[.agg #[.int .i64 t338, .slice Ao42 t361.length co42, .slice Ao43 t362.length co43], .int .i64 1] rfl (by (try simp only [List.map_toArray, List.map_cons, List.map_nil]); first | done | rfl | (simp only [List.length_drop, List.length_take]; rfl)) ?_; (with_reducible refine (laws_heldCuckoo.calls kj110 t338 _ _ t361 _ _ t362 1 t381 _ ?side1 ?side2 ?side3 ?side4 A157.out).mono ?_); (case side1 => exact uD HO_347001); (case side2 => exact (Kd.R_reads' HO_347001.out).2.1); (case side3 => exact uD HO_347002); (case side4 => exact (Kd.R_reads' HO_347002.out).2.1); rintro e w171 ⟨rfl, hb⟩; refine ⟨_, rfl, ?_⟩; have n0_ := Aside0.mk (Kd.R_below (uR HO_330001) hb); have n1_ := Aside0.mk (Kd.R_below (uR HO_330002) hb); have n2_ := Aside0.mk (Kd.R_below (uR HO_338001) hb); have n3_ := Aside0.mk (Kd.R_below (uR HO_338002) hb); have n4_ := Aside0.mk (Kd.R_below (uR HO_347001) hb); have n5_ := Aside0.mk (Kd.R_below (uR HO_347002) hb); have n6_ := Aside0.mk (Kd.R_below (uR HO_380001) hb); have n7_ := Aside0.mk (Kd.R_below (uR HO_380002) hb); have n8_ := Aside0.mk (blk_below (g := gb312) (o := .cells #[.int .i64 a0_0, .slice A0_1 l0_1.length c0_1, .slice A0_2 l0_2.length c0_2] 24 (0, 0)) (uK BK312) hb); have n9_ := Aside0.mk (blk_below (g := gb329) (o := .cells #[.int .i64 t321, .slice Ao26 t322.length co26, .slice Ao27 t325.length co27] 27 (0, 0)) (uK BK329) hb); have n10_ := Aside0.mk (blk_below (g := gb337) (o := .cells #[.int .i64 t330, .slice Ao34 t357.length co34, .slice Ao35 t358.length co35] 27 (0, 0)) (uK BK337) hb); have n11_ := Aside0.mk (blk_below (g := gb346) (o := .cells #[.int .i64 t338, .slice Ao42 t361.length co42, .slice Ao43 t362.length co43] 27 (0, 0)) (uK BK346) hb); have n12_ := Aside0.mk (blk_below (g := gb379) (o := .cells #[.int .i64 t371, .slice Ao132 t372.length co132, .slice Ao133 t375.length co133] 27 (0, 0)) (uK BK379) hb); have n13_ := Aside0.mk (below_step (by first | exact uB HB | exact uS HB (gC GE312 (gC GE329 (gC GE337 (gC GE346 (gC GE379 gN)))))) hb); clear HO_330001 HO_330002 HO_338001 HO_338002 HO_347001 HO_347002 HO_380001 HO_380002 BK312 BK329 BK337 BK346 BK379 HB; have HO_330001 := n0_; have HO_330002 := n1_; have HO_338001 := n2_; have HO_338002 := n3_; have HO_347001 := n4_; have HO_347002 := n5_; have HO_380001 := n6_; have HO_380002 := n7_; have BK312 := n8_; have BK329 := n9_; have BK337 := n10_; have BK346 := n11_; have BK379 := n12_; have HB := n13_; clear n0_ n1_ n2_ n3_ n4_ n5_ n6_ n7_ n8_ n9_ n10_ n11_ n12_ n13_; (try clear hb); (try clear hb2); (try clear hk); (try clear hi)))
                 go_ret
                 exact ⟨by first | rfl | (simp [errW_none, errW_some] <;> rfl) | (simp [*, errW_none, errW_some] <;> rfl), by first | exact uB HB | exact uS HB (gC GE312 (gC GE329 (gC GE337 (gC GE346 (gC GE379 gN)))))⟩
                ·
                 rw [if_neg c165] at H
                 have c165b0 : (t381 == t360) = false := beq_eq_false_iff_ne.mpr c165
                 have c165b1 : (t381 != t360) = true := bne_iff_ne.mpr c165
                 obtain rfl := Option.some.inj H
                 have hnb172 := NB346_312.out
                 have hnc172 := NB312_346.out
                 have hnb173 := NB346_329.out
                 have hnc173 := NB329_346.out
                 have hnb174 := NB346_337.out
                 have hnc174 := NB337_346.out
                 have hnb175 := NB346_379.out
                 have hnc175 := NB379_346.out
                 have hcz176_0 : wc.cell? ⟨gb346, 0, none⟩ = some (.int .i64 t338) := (blk_cell BK346.out 0).trans rfl
                 have hcz176_1 : wc.cell? ⟨gb346, 1, none⟩ = some (.slice Ao42 t361.length co42) := (blk_cell BK346.out 1).trans rfl
                 have hcz176_2 : wc.cell? ⟨gb346, 2, none⟩ = some (.slice Ao43 t362.length co43) := (blk_cell BK346.out 2).trans rfl
                 have hfz176_0 := blk_frozen BK346.out 0
                 have hfz176_1 := blk_frozen BK346.out 1
                 have hfz176_2 := blk_frozen BK346.out 2
                 go_wp2_with (first | ((with_reducible refine gate_callee (f := 25) rfl ?_); refine goesL_ (some 98) rfl rfl Try.func25 (by kernel_rfl) rfl #[.agg #[.int .i64 t338, .slice Ao42 t361.length co42, .slice Ao43 t362.length co43], .int .i64 1] rfl (by (try simp only [List.map_toArray, List.map_cons, List.map_nil]); first | done | rfl | (simp only [List.length_drop, List.length_take]; rfl)) ?_; (with_reducible refine (laws_heldCuckoo.calls kj110 t338 _ _ t361 _ _ t362 1 t381 _ ?side1 ?side2 ?side3 ?side4 A157.out).mono ?_); (case side1 => exact uD HO_347001); (case side2 => exact (Kd.R_reads' HO_347001.out).2.1); (case side3 => exact uD HO_347002); (case side4 => exact (Kd.R_reads' HO_347002.out).2.1); rintro e w177 ⟨rfl, hb⟩; refine ⟨_, rfl, ?_⟩; have n0_ := Aside0.mk (Kd.R_below (uR HO_330001) hb); have n1_ := Aside0.mk (Kd.R_below (uR HO_330002) hb); have n2_ := Aside0.mk (Kd.R_below (uR HO_338001) hb); have n3_ := Aside0.mk (Kd.R_below (uR HO_338002) hb); have n4_ := Aside0.mk (Kd.R_below (uR HO_347001) hb); have n5_ := Aside0.mk (Kd.R_below (uR HO_347002) hb); have n6_ := Aside0.mk (Kd.R_below (uR HO_380001) hb); have n7_ := Aside0.mk (Kd.R_below (uR HO_380002) hb); have n8_ := Aside0.mk (blk_below (g := gb312) (o := .cells #[.int .i64 a0_0, .slice A0_1 l0_1.length c0_1, .slice A0_2 l0_2.length c0_2] 24 (0, 0)) (uK BK312) hb); have n9_ := Aside0.mk (blk_below (g := gb329) (o := .cells #[.int .i64 t321, .slice Ao26 t322.length co26, .slice Ao27 t325.length co27] 27 (0, 0)) (uK BK329) hb); have n10_ := Aside0.mk (blk_below (g := gb337) (o := .cells #[.int .i64 t330, .slice Ao34 t357.length co34, .slice Ao35 t358.length co35] 27 (0, 0)) (uK BK337) hb); have n11_ := Aside0.mk (blk_below (g := gb346) (o := .cells #[.int .i64 t338, .slice Ao42 t361.length co42, .slice Ao43 t362.length co43] 27 (0, 0)) (uK BK346) hb); have n12_ := Aside0.mk (blk_below (g := gb379) (o := .cells #[.int .i64 t371, .slice Ao132 t372.length co132, .slice Ao133 t375.length co133] 27 (0, 0)) (uK BK379) hb); have n13_ := Aside0.mk (below_step (by first | exact uB HB | exact uS HB (gC GE312 (gC GE329 (gC GE337 (gC GE346 (gC GE379 gN)))))) hb); clear HO_330001 HO_330002 HO_338001 HO_338002 HO_347001 HO_347002 HO_380001 HO_380002 BK312 BK329 BK337 BK346 BK379 HB; have HO_330001 := n0_; have HO_330002 := n1_; have HO_338001 := n2_; have HO_338002 := n3_; have HO_347001 := n4_; have HO_347002 := n5_; have HO_380001 := n6_; have HO_380002 := n7_; have BK312 := n8_; have BK329 := n9_; have BK337 := n10_; have BK346 := n11_; have BK379 := n12_; have HB := n13_; clear n0_ n1_ n2_ n3_ n4_ n5_ n6_ n7_ n8_ n9_ n10_ n11_ n12_ n13_; (try clear hb); (try clear hb2); (try clear hk); (try clear hi)))
                 go_ret
                 exact ⟨by first | rfl | (simp [errW_none, errW_some] <;> rfl) | (simp [*, errW_none, errW_some] <;> rfl), by first | exact uB HB | exact uS HB (gC GE312 (gC GE329 (gC GE337 (gC GE346 (gC GE379 gN)))))⟩
           ·
            rw [if_neg c108] at H
            have c108b0 : (t363 == t360) = false := beq_eq_false_iff_ne.mpr c108
            have c108b1 : (t363 != t360) = true := bne_iff_ne.mpr c108
            obtain rfl := Option.some.inj H
            have hnb178 := NB346_312.out
            have hnc178 := NB312_346.out
            have hnb179 := NB346_329.out
            have hnc179 := NB329_346.out
            have hnb180 := NB346_337.out
            have hnc180 := NB337_346.out
            have hcz181_0 : wc.cell? ⟨gb346, 0, none⟩ = some (.int .i64 t338) := (blk_cell BK346.out 0).trans rfl
            have hcz181_1 : wc.cell? ⟨gb346, 1, none⟩ = some (.slice Ao42 t339.length co42) := (blk_cell BK346.out 1).trans rfl
            have hcz181_2 : wc.cell? ⟨gb346, 2, none⟩ = some (.slice Ao43 t342.length co43) := (blk_cell BK346.out 2).trans rfl
            have hfz181_0 := blk_frozen BK346.out 0
            have hfz181_1 := blk_frozen BK346.out 1
            have hfz181_2 := blk_frozen BK346.out 2
            go_wp2_with (first | ((with_reducible refine gate_callee (f := 20) rfl ?_); refine goesL_ (some 71) rfl rfl Try.func20 (by kernel_rfl) rfl #[.agg #[.int .i64 t338, .slice Ao42 t339.length co42, .slice Ao43 t342.length co43], .int .i64 1] rfl (by (try simp only [List.map_toArray, List.map_cons, List.map_nil]); first | done | rfl | (simp only [List.length_drop, List.length_take]; rfl)) ?_; (with_reducible refine (laws_markCuckoo.calls kj66 t338 (fun k_ => some k_ = (.slice Ao42 t339.length co42 : Value).ownBlock) (.slice Ao42 t339.length co42) t339 (fun k_ => some k_ = (.slice Ao43 t342.length co43 : Value).ownBlock) (.slice Ao43 t342.length co43) t342 1 t360 t361 t362 w _ ?side1 ?side2 ?side3 ?side4 ?side5 A98.out).mono ?_); (case side1 => first | exact uB HB | exact uS HB (gC GE312 (gC GE329 (gC GE337 (gC GE346 gN))))); (case side2 => exact Kd.R_tight rfl HO_347001.out); (case side3 => exact fun k_ e_ => (HO_347001.out.1 k_ e_.symm).2.2.2.2); (case side4 => exact Kd.R_tight rfl HO_347002.out); (case side5 => exact fun k_ e_ => (HO_347002.out.1 k_ e_.symm).2.2.2.2); rintro e w182 ⟨rfl, hy0, hy1, hb, hkp⟩; refine ⟨_, rfl, ?_⟩; have n0_ := Aside0.mk (Kd.R_mono (ok' := fun k_ => some k_ ≠ (.slice Ao27 t325.length co27 : Value).ownBlock ∧ some k_ ≠ (.slice Ao34 t357.length co34 : Value).ownBlock ∧ some k_ ≠ (.slice Ao35 t358.length co35 : Value).ownBlock ∧ some k_ ≠ (.slice Ao42 t339.length co42 : Value).ownBlock ∧ some k_ ≠ (.slice Ao43 t342.length co43 : Value).ownBlock) (Kd.R_keptB (HO_330001.out) hkp (fun k_ hk_ hs_ => Or.elim hs_ (fun e_ => (hk_.2.2.2.1) e_) (fun e_ => (hk_.2.2.2.2) e_))) (fun k_ hk_ => ⟨hk_.1.1, hk_.1.2.1, hk_.1.2.2.1, hk_.1.2.2.2.1, hk_.1.2.2.2.2⟩)); have n1_ := Aside0.mk (Kd.R_mono (ok' := fun k_ => some k_ ≠ (.slice Ao26 t322.length co26 : Value).ownBlock ∧ some k_ ≠ (.slice Ao34 t357.length co34 : Value).ownBlock ∧ some k_ ≠ (.slice Ao35 t358.length co35 : Value).ownBlock ∧ some k_ ≠ (.slice Ao42 t339.length co42 : Value).ownBlock ∧ some k_ ≠ (.slice Ao43 t342.length co43 : Value).ownBlock) (Kd.R_keptB (HO_330002.out) hkp (fun k_ hk_ hs_ => Or.elim hs_ (fun e_ => (hk_.2.2.2.1) e_) (fun e_ => (hk_.2.2.2.2) e_))) (fun k_ hk_ => ⟨hk_.1.1, hk_.1.2.1, hk_.1.2.2.1, hk_.1.2.2.2.1, hk_.1.2.2.2.2⟩)); have n2_ := Aside0.mk (Kd.R_mono (ok' := fun k_ => some k_ ≠ (.slice Ao26 t322.length co26 : Value).ownBlock ∧ some k_ ≠ (.slice Ao27 t325.length co27 : Value).ownBlock ∧ some k_ ≠ (.slice Ao35 t358.length co35 : Value).ownBlock ∧ some k_ ≠ (.slice Ao42 t339.length co42 : Value).ownBlock ∧ some k_ ≠ (.slice Ao43 t342.length co43 : Value).ownBlock) (Kd.R_keptB (HO_338001.out) hkp (fun k_ hk_ hs_ => Or.elim hs_ (fun e_ => (hk_.2.2.2.1) e_) (fun e_ => (hk_.2.2.2.2) e_))) (fun k_ hk_ => ⟨hk_.1.1, hk_.1.2.1, hk_.1.2.2.1, hk_.1.2.2.2.1, hk_.1.2.2.2.2⟩)); have n3_ := Aside0.mk (Kd.R_mono (ok' := fun k_ => some k_ ≠ (.slice Ao26 t322.length co26 : Value).ownBlock ∧ some k_ ≠ (.slice Ao27 t325.length co27 : Value).ownBlock ∧ some k_ ≠ (.slice Ao34 t357.length co34 : Value).ownBlock ∧ some k_ ≠ (.slice Ao42 t339.length co42 : Value).ownBlock ∧ some k_ ≠ (.slice Ao43 t342.length co43 : Value).ownBlock) (Kd.R_keptB (HO_338002.out) hkp (fun k_ hk_ hs_ => Or.elim hs_ (fun e_ => (hk_.2.2.2.1) e_) (fun e_ => (hk_.2.2.2.2) e_))) (fun k_ hk_ => ⟨hk_.1.1, hk_.1.2.1, hk_.1.2.2.1, hk_.1.2.2.2.1, hk_.1.2.2.2.2⟩)); have n4_ := Aside0.mk (Kd.R_reok rfl hy0 (fun k_ e_ => HO_347001.out.1 k_ e_)); have n5_ := Aside0.mk (Kd.R_reok rfl hy1 (fun k_ e_ => HO_347002.out.1 k_ e_)); have n6_ := Aside0.mk (blk_kept (uK BK312) hkp (fun hs_ => Or.elim hs_ (fun e_ => (fun e_ => (Kd.R_ne HO_347001.out BK312.out (by decide)) e_) e_) (fun e_ => (fun e_ => (Kd.R_ne HO_347002.out BK312.out (by decide)) e_) e_))); have n7_ := Aside0.mk (blk_kept (uK BK329) hkp (fun hs_ => Or.elim hs_ (fun e_ => (fun e_ => (Kd.R_ne HO_347001.out BK329.out (by decide)) e_) e_) (fun e_ => (fun e_ => (Kd.R_ne HO_347002.out BK329.out (by decide)) e_) e_))); have n8_ := Aside0.mk (blk_kept (uK BK337) hkp (fun hs_ => Or.elim hs_ (fun e_ => (fun e_ => (Kd.R_ne HO_347001.out BK337.out (by decide)) e_) e_) (fun e_ => (fun e_ => (Kd.R_ne HO_347002.out BK337.out (by decide)) e_) e_))); have n9_ := Aside0.mk (blk_kept (uK BK346) hkp (fun hs_ => Or.elim hs_ (fun e_ => (fun e_ => (Kd.R_ne HO_347001.out BK346.out (by decide)) e_) e_) (fun e_ => (fun e_ => (Kd.R_ne HO_347002.out BK346.out (by decide)) e_) e_))); have n10_ := Aside0.mk (hb); clear HO_330001 HO_330002 HO_338001 HO_338002 HO_347001 HO_347002 BK312 BK329 BK337 BK346 HB; have HO_330001 := n0_; have HO_330002 := n1_; have HO_338001 := n2_; have HO_338002 := n3_; have HO_347001 := n4_; have HO_347002 := n5_; have BK312 := n6_; have BK329 := n7_; have BK337 := n8_; have BK346 := n9_; have HB := n10_; clear n0_ n1_ n2_ n3_ n4_ n5_ n6_ n7_ n8_ n9_ n10_; (try clear hb); (try clear hkp); (try clear hy0); (try clear hy1); have hcz183_0 : w182.cell? ⟨gb346, 0, none⟩ = some (.int .i64 t338) := (blk_cell BK346.out 0).trans rfl; have hcz183_1 : w182.cell? ⟨gb346, 1, none⟩ = some (.slice Ao42 t339.length co42) := (blk_cell BK346.out 1).trans rfl; have hcz183_2 : w182.cell? ⟨gb346, 2, none⟩ = some (.slice Ao43 t342.length co43) := (blk_cell BK346.out 2).trans rfl; have hfz183_0 := blk_frozen BK346.out 0; have hfz183_1 := blk_frozen BK346.out 1; have hfz183_2 := blk_frozen BK346.out 2) | ((with_reducible refine gate_callee (f := 25) rfl ?_); refine goesL_ (some 74) rfl rfl Try.func25 (by kernel_rfl) rfl #[.agg #[.int .i64 t338, .slice Ao42 t361.length co42, .slice Ao43 t362.length co43], .int .i64 1] rfl (by (try simp only [List.map_toArray, List.map_cons, List.map_nil]); first | done | (rw [show t361.length = t339.length from (Kd.R_reads' HO_347001.out).1.symm, show t362.length = t342.length from (Kd.R_reads' HO_347002.out).1.symm] <;> rfl) | rfl | (simp only [List.length_drop, List.length_take]; rfl)) ?_; (with_reducible refine (laws_heldCuckoo.calls kj66 t338 _ _ t361 _ _ t362 1 t363 _ ?side1 ?side2 ?side3 ?side4 A99.out).mono ?_); (case side1 => exact uD HO_347001); (case side2 => rw [show t361.length = t339.length from (Kd.R_reads' HO_347001.out).1.symm]; exact (Kd.R_reads' HO_347001.out).2.1); (case side3 => exact uD HO_347002); (case side4 => rw [show t362.length = t342.length from (Kd.R_reads' HO_347002.out).1.symm]; exact (Kd.R_reads' HO_347002.out).2.1); rintro e w184 ⟨rfl, hb⟩; refine ⟨_, rfl, ?_⟩; have n0_ := Aside0.mk (Kd.R_below (uR HO_330001) hb); have n1_ := Aside0.mk (Kd.R_below (uR HO_330002) hb); have n2_ := Aside0.mk (Kd.R_below (uR HO_338001) hb); have n3_ := Aside0.mk (Kd.R_below (uR HO_338002) hb); have n4_ := Aside0.mk (Kd.R_below (uR HO_347001) hb); have n5_ := Aside0.mk (Kd.R_below (uR HO_347002) hb); have n6_ := Aside0.mk (blk_below (g := gb312) (o := .cells #[.int .i64 a0_0, .slice A0_1 l0_1.length c0_1, .slice A0_2 l0_2.length c0_2] 24 (0, 0)) (uK BK312) hb); have n7_ := Aside0.mk (blk_below (g := gb329) (o := .cells #[.int .i64 t321, .slice Ao26 t322.length co26, .slice Ao27 t325.length co27] 27 (0, 0)) (uK BK329) hb); have n8_ := Aside0.mk (blk_below (g := gb337) (o := .cells #[.int .i64 t330, .slice Ao34 t357.length co34, .slice Ao35 t358.length co35] 27 (0, 0)) (uK BK337) hb); have n9_ := Aside0.mk (blk_below (g := gb346) (o := .cells #[.int .i64 t338, .slice Ao42 t339.length co42, .slice Ao43 t342.length co43] 27 (0, 0)) (uK BK346) hb); have n10_ := Aside0.mk (below_step (by first | exact uB HB | exact uS HB (gC GE312 (gC GE329 (gC GE337 (gC GE346 gN))))) hb); clear HO_330001 HO_330002 HO_338001 HO_338002 HO_347001 HO_347002 BK312 BK329 BK337 BK346 HB; have HO_330001 := n0_; have HO_330002 := n1_; have HO_338001 := n2_; have HO_338002 := n3_; have HO_347001 := n4_; have HO_347002 := n5_; have BK312 := n6_; have BK329 := n7_; have BK337 := n8_; have BK346 := n9_; have HB := n10_; clear n0_ n1_ n2_ n3_ n4_ n5_ n6_ n7_ n8_ n9_ n10_; (try clear hb); (try clear hb2); (try clear hk); (try clear hi)))
            go_ret
            exact ⟨by first | rfl | (simp [errW_none, errW_some] <;> rfl) | (simp [*, errW_none, errW_some] <;> rfl), by first | exact uB HB | exact uS HB (gC GE312 (gC GE329 (gC GE337 (gC GE346 gN))))⟩
      ·
       replace c65 := Bool.eq_false_iff.mpr c65
       subst c65
       have H1 : (some false) = some r := by rw [if_neg (show ¬ (false = true) by decide)] at H; exact H
       clear H
       have H := H1
       clear H1
       obtain rfl := Option.some.inj H
       try go_wp2
       have n0_ := Aside0.mk (Kd.R_drew HO_330001.out)
       have n1_ := Aside0.mk (Kd.R_drew HO_330002.out)
       have n2_ := Aside0.mk (Kd.R_drew HO_338001.out)
       have n3_ := Aside0.mk (Kd.R_drew HO_338002.out)
       have n4_ := Aside0.mk (Kd.R_drew HO_347001.out)
       have n5_ := Aside0.mk (Kd.R_drew HO_347002.out)
       have n6_ := Aside0.mk (blk_drew BK312.out)
       have n7_ := Aside0.mk (blk_drew BK329.out)
       have n8_ := Aside0.mk (blk_drew BK337.out)
       have n9_ := Aside0.mk (blk_drew BK346.out)
       have n10_ := Aside0.mk (below_drew1 HB.out)
       clear HO_330001
       clear HO_330002
       clear HO_338001
       clear HO_338002
       clear HO_347001
       clear HO_347002
       clear BK312
       clear BK329
       clear BK337
       clear BK346
       clear HB
       have HO_330001 := n0_
       have HO_330002 := n1_
       have HO_338001 := n2_
       have HO_338002 := n3_
       have HO_347001 := n4_
       have HO_347002 := n5_
       have BK312 := n6_
       have BK329 := n7_
       have BK337 := n8_
       have BK346 := n9_
       have HB := n10_
       clear n0_ n1_ n2_ n3_ n4_ n5_ n6_ n7_ n8_ n9_ n10_
       refine start_ (n := 5) (S := fun w' => w'.cell? ⟨gb337, 0, none⟩ = some (.int .i64 t330) ∧ w'.cell? ⟨gb337, 1, none⟩ = some (.slice Ao34 t331.length co34) ∧ w'.cell? ⟨gb337, 2, none⟩ = some (.slice Ao35 t334.length co35) ∧ w'.cell? ⟨gb312, 0, none⟩ = some (.int .i64 a0_0) ∧ w'.cell? ⟨gb312, 1, none⟩ = some (.slice A0_1 l0_1.length c0_1) ∧ w'.cell? ⟨gb312, 2, none⟩ = some (.slice A0_2 l0_2.length c0_2)) (ds := []) #[false, false, false, false, false] (by kernel_rfl) rfl rfl ⟨(blk_cell BK337.out 0).trans rfl, (blk_cell BK337.out 1).trans rfl, (blk_cell BK337.out 2).trans rfl, (blk_cell BK312.out 0).trans rfl, (blk_cell BK312.out 1).trans rfl, (blk_cell BK312.out 2).trans rfl⟩ (fun hHeld => ?_)
       generalize wc.drew = w185 at HO_330001 HO_330002 HO_338001 HO_338002 HO_347001 HO_347002 BK312 BK329 BK337 BK346 HB hHeld ⊢
       refine take_ (i := 0) (N := some 48) (v := ?_) (a' := ?_) #[true, false, false, false, false] rfl rfl (by kernel_rfl) (fun _ _ _ h => h) (Or.inl ⟨by rfl, ?_⟩) hHeld ?_ ?_
       rotate_left
       ·
        rintro w' ⟨s0, s1, s2, s3, s4, s5⟩
        go_simp
        with_reducible rfl
       rotate_left
       ·
        simp only [Act.put, List.setIfInBounds_toArray, List.set_cons_zero, List.set_cons_succ, i64_w, i32_w]
        rfl
       refine take_ (i := 1) (N := some 49) (v := ?_) (a' := ?_) #[true, true, false, false, false] rfl rfl (by kernel_rfl) (fun _ _ _ h => h) (Or.inl ⟨by rfl, ?_⟩) hHeld ?_ ?_
       rotate_left
       ·
        rintro w' ⟨s0, s1, s2, s3, s4, s5⟩
        go_simp
        with_reducible rfl
       rotate_left
       ·
        simp only [Act.put, List.setIfInBounds_toArray, List.set_cons_zero, List.set_cons_succ, i64_w, i32_w]
        rfl
       refine one_ (i := 2) (N := some 50) #[true, true, true, false, false] rfl rfl (by kernel_rfl) (by decide) (fun K hK => ?_)
       refine goes_ Try.func12 (by kernel_rfl) rfl #[.agg #[.int .i64 a0_0, .slice A0_1 l0_1.length c0_1, .slice A0_2 l0_2.length c0_2]] (by rfl) rfl rfl (by (try simp only [List.map_toArray, List.map_cons, List.map_nil]); first | done | rfl | (simp only [List.length_drop, List.length_take]; rfl)) ?_
       with_reducible refine (laws_toCuckoo.calls kj13 a0_0 _ _ l0_1 _ _ l0_2 t348 t349 t352 _ ?side1 ?side2 ?side3 ?side4 A63.out).mono ?_
       (case side1 => exact uC HR0_1 HB)
       (case side2 => exact HC0_1.out)
       (case side3 => exact uC HR0_2 HB)
       (case side4 => exact HC0_2.out)
       rintro e w186 ⟨v350, v353, rfl, ho0, ho1, hb⟩
       refine ⟨_, rfl, ?_⟩
       have n0_ := Aside0.mk (Kd.R_mono (Kd.R_told (Kd.R_told (Kd.R_old (uR HO_330001) hb) (Kd.R_base ho0)) (Kd.R_base ho1)) (fun _ h_ => h_.1))
       have n1_ := Aside0.mk (Kd.R_mono (Kd.R_told (Kd.R_told (Kd.R_old (uR HO_330002) hb) (Kd.R_base ho0)) (Kd.R_base ho1)) (fun _ h_ => h_.1))
       have n2_ := Aside0.mk (Kd.R_mono (Kd.R_told (Kd.R_told (Kd.R_old (uR HO_338001) hb) (Kd.R_base ho0)) (Kd.R_base ho1)) (fun _ h_ => h_.1))
       have n3_ := Aside0.mk (Kd.R_mono (Kd.R_told (Kd.R_told (Kd.R_old (uR HO_338002) hb) (Kd.R_base ho0)) (Kd.R_base ho1)) (fun _ h_ => h_.1))
       have n4_ := Aside0.mk (Kd.R_mono (Kd.R_told (Kd.R_told (Kd.R_old (uR HO_347001) hb) (Kd.R_base ho0)) (Kd.R_base ho1)) (fun _ h_ => h_.1))
       have n5_ := Aside0.mk (Kd.R_mono (Kd.R_told (Kd.R_told (Kd.R_old (uR HO_347002) hb) (Kd.R_base ho0)) (Kd.R_base ho1)) (fun _ h_ => h_.1))
       have n6_ := Aside0.mk (Kd.R_lower (Kd.R_new' (Kd.R_new' (Kd.R_new' (Kd.R_new' (Kd.R_new' (Kd.R_new' ho0 (Kd.R_lt (uR HO_330001))) (Kd.R_lt (uR HO_330002))) (Kd.R_lt (uR HO_338001))) (Kd.R_lt (uR HO_338002))) (Kd.R_lt (uR HO_347001))) (Kd.R_lt (uR HO_347002))) (below_size (by first | exact uB HB | exact uS HB (gC GE312 (gC GE329 (gC GE337 (gC GE346 gN)))))))
       have n7_ := Aside0.mk (Kd.R_lower (Kd.R_new' (Kd.R_new' (Kd.R_new' (Kd.R_new' (Kd.R_new' (Kd.R_new' ho1 (Kd.R_lt (uR HO_330001))) (Kd.R_lt (uR HO_330002))) (Kd.R_lt (uR HO_338001))) (Kd.R_lt (uR HO_338002))) (Kd.R_lt (uR HO_347001))) (Kd.R_lt (uR HO_347002))) (below_size (by first | exact uB HB | exact uS HB (gC GE312 (gC GE329 (gC GE337 (gC GE346 gN)))))))
       have n8_ := Aside0.mk (blk_below (g := gb312) (o := .cells #[.int .i64 a0_0, .slice A0_1 l0_1.length c0_1, .slice A0_2 l0_2.length c0_2] 24 (0, 0)) (uK BK312) hb)
       have n9_ := Aside0.mk (blk_below (g := gb329) (o := .cells #[.int .i64 t321, .slice Ao26 t322.length co26, .slice Ao27 t325.length co27] 27 (0, 0)) (uK BK329) hb)
       have n10_ := Aside0.mk (blk_below (g := gb337) (o := .cells #[.int .i64 t330, .slice Ao34 t331.length co34, .slice Ao35 t334.length co35] 27 (0, 0)) (uK BK337) hb)
       have n11_ := Aside0.mk (blk_below (g := gb346) (o := .cells #[.int .i64 t338, .slice Ao42 t339.length co42, .slice Ao43 t342.length co43] 27 (0, 0)) (uK BK346) hb)
       have n12_ := Aside0.mk (below_step (by first | exact uB HB | exact uS HB (gC GE312 (gC GE329 (gC GE337 (gC GE346 gN))))) hb)
       clear HO_330001
       clear HO_330002
       clear HO_338001
       clear HO_338002
       clear HO_347001
       clear HO_347002
       clear BK312
       clear BK329
       clear BK337
       clear BK346
       clear HB
       have HO_330001 := n0_
       have HO_330002 := n1_
       have HO_338001 := n2_
       have HO_338002 := n3_
       have HO_347001 := n4_
       have HO_347002 := n5_
       have HO351 := n6_
       have HO354 := n7_
       have BK312 := n8_
       have BK329 := n9_
       have BK337 := n10_
       have BK346 := n11_
       have HB := n12_
       clear n0_ n1_ n2_ n3_ n4_ n5_ n6_ n7_ n8_ n9_ n10_ n11_ n12_
       (try clear hb)
       (try clear hb2)
       (try clear hk)
       (try clear hi)
       (try clear ho0)
       (try clear ho1)
       obtain ⟨Ao187, co187, eo187⟩ := Kd.R_slice HO351.out
       (first | subst eo187 | (injection eo187 with f1_ f2_ f3_; have f4_ := f1_.symm; have f5_ := f3_.symm; clear f1_ f2_ f3_; subst f4_; subst f5_))
       obtain ⟨Ao188, co188, eo188⟩ := Kd.R_slice HO354.out
       (first | subst eo188 | (injection eo188 with f1_ f2_ f3_; have f4_ := f1_.symm; have f5_ := f3_.symm; clear f1_ f2_ f3_; subst f4_; subst f5_))
       refine hK.out _ _ ⟨(blk_cell BK337.out 0).trans rfl, (blk_cell BK337.out 1).trans rfl, (blk_cell BK337.out 2).trans rfl, (blk_cell BK312.out 0).trans rfl, (blk_cell BK312.out 1).trans rfl, (blk_cell BK312.out 2).trans rfl⟩ (fun hHeld => ?_)
       clear hK K
       refine norm_ (a' := ?_) ?_ ?_
       rotate_left
       ·
        show Act.put _ (some 50) _ = _
        simp only [Act.put, List.setIfInBounds_toArray, List.set_cons_zero, List.set_cons_succ, i64_w, i32_w]
        rfl
       refine one_ (i := 3) (N := some 51) #[true, true, true, true, false] rfl rfl (by kernel_rfl) (by decide) (fun K hK => ?_)
       refine goes_ Try.func14 (by kernel_rfl) rfl #[.agg #[.int .i64 t330, .slice Ao34 t331.length co34, .slice Ao35 t334.length co35], .agg #[.int .i64 t348, .slice Ao187 t349.length co187, .slice Ao188 t352.length co188]] (by rfl) rfl rfl (by (try simp only [List.map_toArray, List.map_cons, List.map_nil]); first | done | rfl | (simp only [List.length_drop, List.length_take]; rfl)) ?_
       with_reducible refine (laws_eqCuckoo.calls kj13 t330 _ _ t331 _ _ t334 t348 _ _ t349 _ _ t352 false _ ?side1 ?side2 ?side3 ?side4 ?side5 ?side6 ?side7 ?side8 A64.out).mono ?_
       (case side1 => exact uD HO_338001)
       (case side2 => exact (Kd.R_reads' HO_338001.out).2.1)
       (case side3 => exact uD HO_338002)
       (case side4 => exact (Kd.R_reads' HO_338002.out).2.1)
       (case side5 => exact uD HO351)
       (case side6 => exact (Kd.R_reads' HO351.out).2.1)
       (case side7 => exact uD HO354)
       (case side8 => exact (Kd.R_reads' HO354.out).2.1)
       rintro e w189 ⟨rfl, hb⟩
       refine ⟨_, rfl, ?_⟩
       have n0_ := Aside0.mk (Kd.R_below (uR HO_330001) hb)
       have n1_ := Aside0.mk (Kd.R_below (uR HO_330002) hb)
       have n2_ := Aside0.mk (Kd.R_below (uR HO_338001) hb)
       have n3_ := Aside0.mk (Kd.R_below (uR HO_338002) hb)
       have n4_ := Aside0.mk (Kd.R_below (uR HO_347001) hb)
       have n5_ := Aside0.mk (Kd.R_below (uR HO_347002) hb)
       have n6_ := Aside0.mk (Kd.R_below (uR HO351) hb)
       have n7_ := Aside0.mk (Kd.R_below (uR HO354) hb)
       have n8_ := Aside0.mk (blk_below (g := gb312) (o := .cells #[.int .i64 a0_0, .slice A0_1 l0_1.length c0_1, .slice A0_2 l0_2.length c0_2] 24 (0, 0)) (uK BK312) hb)
       have n9_ := Aside0.mk (blk_below (g := gb329) (o := .cells #[.int .i64 t321, .slice Ao26 t322.length co26, .slice Ao27 t325.length co27] 27 (0, 0)) (uK BK329) hb)
       have n10_ := Aside0.mk (blk_below (g := gb337) (o := .cells #[.int .i64 t330, .slice Ao34 t331.length co34, .slice Ao35 t334.length co35] 27 (0, 0)) (uK BK337) hb)
       have n11_ := Aside0.mk (blk_below (g := gb346) (o := .cells #[.int .i64 t338, .slice Ao42 t339.length co42, .slice Ao43 t342.length co43] 27 (0, 0)) (uK BK346) hb)
       have n12_ := Aside0.mk (below_step (by first | exact uB HB | exact uS HB (gC GE312 (gC GE329 (gC GE337 (gC GE346 gN))))) hb)
       clear HO_330001
       clear HO_330002
       clear HO_338001
       clear HO_338002
       clear HO_347001
       clear HO_347002
       clear HO351
       clear HO354
       clear BK312
       clear BK329
       clear BK337
       clear BK346
       clear HB
       have HO_330001 := n0_
       have HO_330002 := n1_
       have HO_338001 := n2_
       have HO_338002 := n3_
       have HO_347001 := n4_
       have HO_347002 := n5_
       have HO351 := n6_
       have HO354 := n7_
       have BK312 := n8_
       have BK329 := n9_
       have BK337 := n10_
       have BK346 := n11_
       have HB := n12_
       clear n0_ n1_ n2_ n3_ n4_ n5_ n6_ n7_ n8_ n9_ n10_ n11_ n12_
       (try clear hb)
       (try clear hb2)
       (try clear hk)
       (try clear hi)
       refine hK.out _ _ ⟨(blk_cell BK337.out 0).trans rfl, (blk_cell BK337.out 1).trans rfl, (blk_cell BK337.out 2).trans rfl, (blk_cell BK312.out 0).trans rfl, (blk_cell BK312.out 1).trans rfl, (blk_cell BK312.out 2).trans rfl⟩ (fun hHeld => ?_)
       clear hK K
       refine norm_ (a' := ?_) ?_ ?_
       rotate_left
       ·
        show Act.put _ (some 51) _ = _
        simp only [Act.put, List.setIfInBounds_toArray, List.set_cons_zero, List.set_cons_succ, i64_w, i32_w]
        rfl
       refine pure_ (i := 4) (N := some 52) (v := ?_) (a' := ?_) #[true, true, true, true, true] rfl rfl (by kernel_rfl) (fun _ _ _ h => h) (Or.inl ⟨by rfl, ?_⟩) ?_ ?_
       rotate_left
       ·
        intro w'
        go_simp
        with_reducible rfl
       rotate_left
       ·
        simp only [Act.put, List.setIfInBounds_toArray, List.set_cons_zero, List.set_cons_succ, i64_w, i32_w]
        rfl
       refine done_ (by kernel_rfl) ?_
       try go_wp2
       go_ret
       exact ⟨by first | rfl | (simp [errW_none, errW_some] <;> rfl) | (simp [*, errW_none, errW_some] <;> rfl), by first | exact uB HB | exact uS HB (gC GE312 (gC GE329 (gC GE337 (gC GE346 gN))))⟩

end Go.Proofs.Ytmccpdjmplijgaa.PFnExactCuckooRemove
