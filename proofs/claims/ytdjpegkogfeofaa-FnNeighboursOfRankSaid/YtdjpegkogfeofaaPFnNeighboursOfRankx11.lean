-- made by wip/tools/myprint.py over the kit's print, for this claim
import Derived.Test.YtdjpegkogfeofaaPFnNeighboursOfRankx0
import Derived.Test.YtdjpegkogfeofaaPFnNeighboursOfRankx1
import Derived.Test.YtdjpegkogfeofaaPFnNeighboursOfRankx7
import Derived.Test.YtdjpegkogfeofaaPFnNeighboursOfRankx8
import Derived.Test.YtdjpegkogfeofaaPFnNeighboursOfRankx9
import Derived.Test.YtdjpegkogfeofaaPFnNeighboursOfRankx10
namespace Go.Proofs.Ytdjpegkogfeofaa.PFnNeighboursOfRank
open Go.RowKit Go.Proofs.YtdjpegkogfeofaaW.PrintWords Go.Proofs.YtdjpegkogfeofaaW.PrintLast Go.Proofs.YtdjpegkogfeofaaW.PrintMore
attribute [local go_sem] max2_int min2_int max_two min_two max_three min_three max_four min_four   -- for this text's walks alone
set_option linter.unusedVariables false
set_option linter.unusedSimpArgs false

/-! ### impl_LastOne: function 24 -/
mutual
def impl_LastOne.j0 : Nat → Int → Bool → Int → List Int → List Int → List Int → Option (Int × Bool)
 | 0, _, _, _, _, _, _ => none
 | k + 1, x1, x16, x414000, x414001, x414002, x414003 => if x16 = true then (some (0, false)) else (impl_LastOne.l0 k (wrap64 (x1 - 1)) x414000 x414001 x414002 x414003)
def impl_LastOne.l0 : Nat → Int → Int → List Int → List Int → List Int → Option (Int × Bool)
 | 0, _, _, _, _, _ => none
 | k + 1, x1, x414000, x414001, x414002, x414003 => if x1 ≥ 0 then ((impl_Bits_at_in40_0.f x414000 x414001 x414002 x414003 x1).bind fun t416 => (if t416 = true then (some (x1, true)) else (impl_LastOne.l0 k (wrap64 (x1 - 1)) x414000 x414001 x414002 x414003))) else (some (0, false))
end
def impl_LastOne.f (k : Nat) (a0_0 : Int) (l0_1 : List Int) (l0_2 : List Int) (l0_3 : List Int) (a1 : Int) : Option (Int × Bool) := (impl_IsRanked.f k a0_0 l0_1 l0_2 l0_3).bind fun t414 => (if t414 = true then ((impl_in.f a1 0 a0_0).bind fun t415 => (impl_LastOne.j0 k a1 (!t415) a0_0 l0_1 l0_2 l0_3)) else (impl_LastOne.j0 k a1 true a0_0 l0_1 l0_2 l0_3))
theorem impl_LastOne.mono_l : ∀ k, (∀ y0 y1 y2 y3 y4 y5, LeO (impl_LastOne.j0 k y0 y1 y2 y3 y4 y5) (impl_LastOne.j0 (k + 1) y0 y1 y2 y3 y4 y5)) ∧ (∀ y0 y1 y2 y3 y4, LeO (impl_LastOne.l0 k y0 y1 y2 y3 y4) (impl_LastOne.l0 (k + 1) y0 y1 y2 y3 y4))
 | 0 => ⟨fun _ _ _ _ _ _ r h => by simp [impl_LastOne.j0] at h, fun _ _ _ _ _ r h => by simp [impl_LastOne.l0] at h⟩
 | k + 1 => by
  obtain ⟨ih0, ih1⟩ := impl_LastOne.mono_l k
  refine ⟨?_, ?_⟩
  ·
   intro y0 y1 y2 y3 y4 y5
   unfold impl_LastOne.j0
   repeat' first
   | (with_reducible exact ih0 _ _ _ _ _ _)
   | (with_reducible exact ih1 _ _ _ _ _)
   | (with_reducible exact impl_IsRanked.mono _ _ _ _ _)
   | (with_reducible exact LeO.refl _)
   | (with_reducible exact LeO.none _)
   | (with_reducible refine LeO.ite ?_ ?_)
   | (with_reducible refine LeO.bind ?_ (fun _ => ?_))
   | exact ih0 _ _ _ _ _ _
   | exact ih1 _ _ _ _ _
   | exact impl_IsRanked.mono _ _ _ _ _
   | exact LeO.none _
   | refine LeO.ite ?_ ?_
   | refine LeO.bind ?_ (fun _ => ?_)
  ·
   intro y0 y1 y2 y3 y4
   unfold impl_LastOne.l0
   repeat' first
   | (with_reducible exact ih0 _ _ _ _ _ _)
   | (with_reducible exact ih1 _ _ _ _ _)
   | (with_reducible exact impl_IsRanked.mono _ _ _ _ _)
   | (with_reducible exact LeO.refl _)
   | (with_reducible exact LeO.none _)
   | (with_reducible refine LeO.ite ?_ ?_)
   | (with_reducible refine LeO.bind ?_ (fun _ => ?_))
   | exact ih0 _ _ _ _ _ _
   | exact ih1 _ _ _ _ _
   | exact impl_IsRanked.mono _ _ _ _ _
   | exact LeO.none _
   | refine LeO.ite ?_ ?_
   | refine LeO.bind ?_ (fun _ => ?_)
theorem impl_LastOne.mono : ∀ a0 a1 a2 a3 a4 k, LeO (impl_LastOne.f k a0 a1 a2 a3 a4) (impl_LastOne.f (k + 1) a0 a1 a2 a3 a4) := by
 intro a0 a1 a2 a3 a4 k
 obtain ⟨ih0, ih1⟩ := impl_LastOne.mono_l k
 unfold impl_LastOne.f
 repeat' first
   | (with_reducible exact ih0 _ _ _ _ _ _)
   | (with_reducible exact ih1 _ _ _ _ _)
   | (with_reducible exact impl_IsRanked.mono _ _ _ _ _)
   | (with_reducible exact LeO.refl _)
   | (with_reducible exact LeO.none _)
   | (with_reducible refine LeO.ite ?_ ?_)
   | (with_reducible refine LeO.bind ?_ (fun _ => ?_))
   | exact ih0 _ _ _ _ _ _
   | exact ih1 _ _ _ _ _
   | exact impl_IsRanked.mono _ _ _ _ _
   | exact LeO.none _
   | refine LeO.ite ?_ ?_
   | refine LeO.bind ?_ (fun _ => ?_)
set_option maxHeartbeats 8000000 in
set_option maxRecDepth 100000 in
theorem impl_LastOne.calls (k : Nat) (a0_0 : Int) (A0_1 : Option Addr) (c0_1 : Nat) (l0_1 : List Int) (A0_2 : Option Addr) (c0_2 : Nat) (l0_2 : List Int) (A0_3 : Option Addr) (c0_3 : Nat) (l0_3 : List Int) (a1 : Int) (r1 : Int) (r2 : Bool) (w : World) (hr0_1 : Kd.C (Kd.int .i64) w A0_1 l0_1.length l0_1) (hc0_1 : l0_1.length ≤ c0_1) (hr0_2 : Kd.C (Kd.int .i64) w A0_2 l0_2.length l0_2) (hc0_2 : l0_2.length ≤ c0_2) (hr0_3 : Kd.C (Kd.int .i64) w A0_3 l0_3.length l0_3) (hc0_3 : l0_3.length ≤ c0_3) (h : impl_LastOne.f k a0_0 l0_1 l0_2 l0_3 a1 = some (r1, r2)) :
  Calls Try.prog 24 #[.agg #[.int .i64 a0_0, .slice A0_1 l0_1.length c0_1, .slice A0_2 l0_2.length c0_2, .slice A0_3 l0_3.length c0_3], .int .i64 a1] w fun e w' => e = .returned (.tuple #[.int .i64 r1, .bool r2]) ∧ Below w.heap.size w w' := by
 have hu40 := Try.underlying40
 have HR0_1 := Aside0.mk hr0_1
 have HC0_1 := Aside0.mk hc0_1
 clear hr0_1 hc0_1
 have HR0_2 := Aside0.mk hr0_2
 have HC0_2 := Aside0.mk hc0_2
 clear hr0_2 hc0_2
 have HR0_3 := Aside0.mk hr0_3
 have HC0_3 := Aside0.mk hc0_3
 clear hr0_3 hc0_3
 have HB := Aside0.mk (Below.refl w.heap.size w)
 have H : ((impl_IsRanked.f k a0_0 l0_1 l0_2 l0_3).bind fun t414 => (if t414 = true then ((impl_in.f a1 0 a0_0).bind fun t415 => (impl_LastOne.j0 k a1 (!t415) a0_0 l0_1 l0_2 l0_3)) else (impl_LastOne.j0 k a1 true a0_0 l0_1 l0_2 l0_3))) = some (r1, r2) := h
 clear h
 have HC3 := Aside0.mk H
 clear H
 go_enter Try.func24, Try.ntmps24
 go_upto_region 1 with (first | ((with_reducible refine gate_dst (N := 2) rfl ?_); refine box_event ?hg (N := 2) ?hd (cs := #[.int .i64 a0_0, .slice A0_1 l0_1.length c0_1, .slice A0_2 l0_2.length c0_2, .slice A0_3 l0_3.length c0_3]) (t := 40) ?hr ?_; (case hd => rfl); (case hg => rfl); (case hr => first | (go_simp; done) | (go_simp; rfl)); intro gb413 hg w4 hbox hb; have n0_ := Aside0.mk (below_step (uB HB) hb); have n1_ := Aside0.mk (hbox); have n2_ := Aside0.mk ((by rw [hg]; exact (below_size (uB HB)) : w.heap.size ≤ gb413)); have n3_ := Aside0.mk ((by rw [hg]; exact (below_size (uB HB)) : w.heap.size ≤ gb413)); clear HB; have HB := n0_; have BK413 := n1_; have GW413 := n2_; have GE413 := n3_; clear n0_ n1_ n2_ n3_; clear hb hbox hg))
 (try simp only [Act.put, List.setIfInBounds_toArray, List.set_cons_zero, List.set_cons_succ])
 go_cut [16] (fun v16 wc => ∃ (kq : Nat) (x16_2 : Bool), v16 = .bool x16_2 ∧ Aside0 (impl_LastOne.j0 kq a1 x16_2 a0_0 l0_1 l0_2 l0_3 = some (r1, r2)) ∧ Aside0 (kq ≤ k) ∧ Aside0 (wc.heap[gb413]? = some (.cells #[.int .i64 a0_0, (.slice A0_1 l0_1.length c0_1), (.slice A0_2 l0_2.length c0_2), (.slice A0_3 l0_3.length c0_3)] 40 (0, 0))) ∧ Aside0 (Below w.heap.size w wc))
 case first =>
  have H := HC3.out
  clear HC3
  replace H := Option.bind_eq_some_iff.mp H
  obtain ⟨t414, A50, H⟩ := H
  replace H : (if t414 = true then ((impl_in.f a1 0 a0_0).bind fun t415 => (impl_LastOne.j0 k a1 (!t415) a0_0 l0_1 l0_2 l0_3)) else (impl_LastOne.j0 k a1 true a0_0 l0_1 l0_2 l0_3)) = some (r1, r2) := H
  have A5 := Aside0.mk A50
  clear A50
  by_cases c6 : t414 = true
  ·
   subst c6
   have H1 : ((impl_in.f a1 0 a0_0).bind fun t415 => (impl_LastOne.j0 k a1 (!t415) a0_0 l0_1 l0_2 l0_3)) = some (r1, r2) := by rw [if_pos rfl] at H; exact H
   clear H
   have H := H1
   clear H1
   replace H := Option.bind_eq_some_iff.mp H
   obtain ⟨t415, A70, H⟩ := H
   replace H : (impl_LastOne.j0 k a1 (!t415) a0_0 l0_1 l0_2 l0_3) = some (r1, r2) := H
   have A7 := Aside0.mk A70
   clear A70
   have H' := Aside0.mk H
   clear H
   have hcz8_0 : w4.cell? ⟨gb413, 0, none⟩ = some (.int .i64 a0_0) := (blk_cell BK413.out 0).trans rfl
   have hcz8_1 : w4.cell? ⟨gb413, 1, none⟩ = some (.slice A0_1 l0_1.length c0_1) := (blk_cell BK413.out 1).trans rfl
   have hcz8_2 : w4.cell? ⟨gb413, 2, none⟩ = some (.slice A0_2 l0_2.length c0_2) := (blk_cell BK413.out 2).trans rfl
   have hcz8_3 : w4.cell? ⟨gb413, 3, none⟩ = some (.slice A0_3 l0_3.length c0_3) := (blk_cell BK413.out 3).trans rfl
   have hfz8_0 := blk_frozen BK413.out 0
   have hfz8_1 := blk_frozen BK413.out 1
   have hfz8_2 := blk_frozen BK413.out 2
   have hfz8_3 := blk_frozen BK413.out 3
   go_wp2_with (first | ((with_reducible refine gate_callee (f := 59) rfl ?_); refine goesL_ (some 7) rfl rfl Try.func59 (by kernel_rfl) rfl #[.agg #[.int .i64 a0_0, .slice A0_1 l0_1.length c0_1, .slice A0_2 l0_2.length c0_2, .slice A0_3 l0_3.length c0_3]] rfl (by (try simp only [List.map_toArray, List.map_cons, List.map_nil]); first | done | rfl | (simp only [List.length_drop, List.length_take]; rfl)) ?_; (with_reducible refine (impl_IsRanked.calls k a0_0 _ _ l0_1 _ _ l0_2 _ _ l0_3 true _ ?side1 ?side2 ?side3 ?side4 ?side5 ?side6 A5.out).mono ?_); (case side1 => exact uC HR0_1 HB); (case side2 => exact HC0_1.out); (case side3 => exact uC HR0_2 HB); (case side4 => exact HC0_2.out); (case side5 => exact uC HR0_3 HB); (case side6 => exact HC0_3.out); rintro e w9 ⟨rfl, hb⟩; refine ⟨_, rfl, ?_⟩; have n0_ := Aside0.mk (blk_below (g := gb413) (o := .cells #[.int .i64 a0_0, .slice A0_1 l0_1.length c0_1, .slice A0_2 l0_2.length c0_2, .slice A0_3 l0_3.length c0_3] 40 (0, 0)) (uK BK413) hb); have n1_ := Aside0.mk (below_step (by first | exact uB HB | exact uS HB (gC GE413 gN)) hb); clear BK413 HB; have BK413 := n0_; have HB := n1_; clear n0_ n1_; (try clear hb); (try clear hb2); (try clear hk); (try clear hi); have hcz10_0 : w9.cell? ⟨gb413, 0, none⟩ = some (.int .i64 a0_0) := (blk_cell BK413.out 0).trans rfl; have hcz10_1 : w9.cell? ⟨gb413, 1, none⟩ = some (.slice A0_1 l0_1.length c0_1) := (blk_cell BK413.out 1).trans rfl; have hcz10_2 : w9.cell? ⟨gb413, 2, none⟩ = some (.slice A0_2 l0_2.length c0_2) := (blk_cell BK413.out 2).trans rfl; have hcz10_3 : w9.cell? ⟨gb413, 3, none⟩ = some (.slice A0_3 l0_3.length c0_3) := (blk_cell BK413.out 3).trans rfl; have hfz10_0 := blk_frozen BK413.out 0; have hfz10_1 := blk_frozen BK413.out 1; have hfz10_2 := blk_frozen BK413.out 2; have hfz10_3 := blk_frozen BK413.out 3) | (go_at_call 42; (with_reducible refine (impl_in.calls a1 0 a0_0 t415 _ A7.out).mono ?_); rintro e w' ⟨rfl, ⟨nd, rfl⟩⟩))
   go_meet
   case rel => exact ⟨_, (!t415), (by first | rfl | (simp; done) | (simp [*]; done)), H', ⟨by first | omega | exact Nat.le_refl _⟩, ⟨by refine uW ?_; exact BK413.out⟩, ⟨by first | exact uB HB | exact uS HB (gC GE413 gN)⟩⟩
  ·
   replace c6 := Bool.eq_false_iff.mpr c6
   subst c6
   have H1 : (impl_LastOne.j0 k a1 true a0_0 l0_1 l0_2 l0_3) = some (r1, r2) := by rw [if_neg (show ¬ (false = true) by decide)] at H; exact H
   clear H
   have H := H1
   clear H1
   have H' := Aside0.mk H
   clear H
   have hcz11_0 : w4.cell? ⟨gb413, 0, none⟩ = some (.int .i64 a0_0) := (blk_cell BK413.out 0).trans rfl
   have hcz11_1 : w4.cell? ⟨gb413, 1, none⟩ = some (.slice A0_1 l0_1.length c0_1) := (blk_cell BK413.out 1).trans rfl
   have hcz11_2 : w4.cell? ⟨gb413, 2, none⟩ = some (.slice A0_2 l0_2.length c0_2) := (blk_cell BK413.out 2).trans rfl
   have hcz11_3 : w4.cell? ⟨gb413, 3, none⟩ = some (.slice A0_3 l0_3.length c0_3) := (blk_cell BK413.out 3).trans rfl
   have hfz11_0 := blk_frozen BK413.out 0
   have hfz11_1 := blk_frozen BK413.out 1
   have hfz11_2 := blk_frozen BK413.out 2
   have hfz11_3 := blk_frozen BK413.out 3
   go_wp2_with (first | ((with_reducible refine gate_callee (f := 59) rfl ?_); refine goesL_ (some 7) rfl rfl Try.func59 (by kernel_rfl) rfl #[.agg #[.int .i64 a0_0, .slice A0_1 l0_1.length c0_1, .slice A0_2 l0_2.length c0_2, .slice A0_3 l0_3.length c0_3]] rfl (by (try simp only [List.map_toArray, List.map_cons, List.map_nil]); first | done | rfl | (simp only [List.length_drop, List.length_take]; rfl)) ?_; (with_reducible refine (impl_IsRanked.calls k a0_0 _ _ l0_1 _ _ l0_2 _ _ l0_3 false _ ?side1 ?side2 ?side3 ?side4 ?side5 ?side6 A5.out).mono ?_); (case side1 => exact uC HR0_1 HB); (case side2 => exact HC0_1.out); (case side3 => exact uC HR0_2 HB); (case side4 => exact HC0_2.out); (case side5 => exact uC HR0_3 HB); (case side6 => exact HC0_3.out); rintro e w12 ⟨rfl, hb⟩; refine ⟨_, rfl, ?_⟩; have n0_ := Aside0.mk (blk_below (g := gb413) (o := .cells #[.int .i64 a0_0, .slice A0_1 l0_1.length c0_1, .slice A0_2 l0_2.length c0_2, .slice A0_3 l0_3.length c0_3] 40 (0, 0)) (uK BK413) hb); have n1_ := Aside0.mk (below_step (by first | exact uB HB | exact uS HB (gC GE413 gN)) hb); clear BK413 HB; have BK413 := n0_; have HB := n1_; clear n0_ n1_; (try clear hb); (try clear hb2); (try clear hk); (try clear hi)))
   go_meet
   case rel => exact ⟨_, (true), (by first | rfl | (simp; done) | (simp [*]; done)), H', ⟨by first | omega | exact Nat.le_refl _⟩, ⟨by refine uW ?_; exact BK413.out⟩, ⟨by first | exact uB HB | exact uS HB (gC GE413 gN)⟩⟩
 case rest =>
  clear HC3
  try clear c2
  try clear p2
  try clear c5
  try clear c6
  try clear hcz10_0
  try clear hcz10_1
  try clear hcz10_2
  try clear hcz10_3
  try clear hcz11_0
  try clear hcz11_1
  try clear hcz11_2
  try clear hcz11_3
  try clear hcz8_0
  try clear hcz8_1
  try clear hcz8_2
  try clear hcz8_3
  try clear hfz10_0
  try clear hfz10_1
  try clear hfz10_2
  try clear hfz10_3
  try clear hfz11_0
  try clear hfz11_1
  try clear hfz11_2
  try clear hfz11_3
  try clear hfz8_0
  try clear hfz8_1
  try clear hfz8_2
  try clear hfz8_3
  obtain ⟨kq, x16_2, rfl, HA, HJ2, BK413, HB⟩ := hcut
  cases kq with
  | zero => exact absurd HA.out (by simp [impl_LastOne.j0])
  | succ kj2 =>
   have H := HA.out
   clear HA
   simp only [impl_LastOne.j0] at H
   by_cases c13 : x16_2 = true
   ·
    subst c13
    have H1 : (some (0, false)) = some (r1, r2) := by rw [if_pos rfl] at H; exact H
    clear H
    have H := H1
    clear H1
    simp only [Option.some.injEq, Prod.mk.injEq] at H
    obtain ⟨rfl, rfl⟩ := H
    go_wp2
    go_ret2
    exact ⟨by first | rfl | (simp [errW_none, errW_some] <;> rfl) | (simp [*, errW_none, errW_some] <;> rfl), by first | exact uB HB | exact uS HB (gC GE413 gN)⟩
   ·
    replace c13 := Bool.eq_false_iff.mpr c13
    subst c13
    have H1 : (impl_LastOne.l0 kj2 (wrap64 (a1 - 1)) a0_0 l0_1 l0_2 l0_3) = some (r1, r2) := by rw [if_neg (show ¬ (false = true) by decide)] at H; exact H
    clear H
    have H := H1
    clear H1
    have H' := Aside0.mk H
    clear H
    go_wp2
    go_loopg [1] kj2 (fun kq v1 w' => ∃ (x1_2 : Int), v1 = .int .i64 x1_2 ∧ Aside0 (impl_LastOne.l0 kq x1_2 a0_0 l0_1 l0_2 l0_3 = some (r1, r2)) ∧ Aside0 (kq ≤ kj2) ∧ Aside0 (w'.heap[gb413]? = some (.cells #[.int .i64 a0_0, (.slice A0_1 l0_1.length c0_1), (.slice A0_2 l0_2.length c0_2), (.slice A0_3 l0_3.length c0_3)] 40 (0, 0))) ∧ Aside0 (Below w.heap.size w w'))
    case atStart => exact ⟨(wrap64 (a1 - 1)), (by first | rfl | (simp; done) | (simp [*]; done)), H', ⟨Nat.le_refl _⟩, ⟨by refine uW ?_; exact BK413.out⟩, ⟨by first | exact uB HB | exact uS HB (gC GE413 gN)⟩⟩
    case round =>
     clear H'
     try clear c1
     try clear c2
     try clear p2
     try clear c5
     try clear c6
     try clear p6
     try clear c13
     try clear hcz10_0
     try clear hcz10_1
     try clear hcz10_2
     try clear hcz10_3
     try clear hcz11_0
     try clear hcz11_1
     try clear hcz11_2
     try clear hcz11_3
     try clear hcz8_0
     try clear hcz8_1
     try clear hcz8_2
     try clear hcz8_3
     try clear hfz10_0
     try clear hfz10_1
     try clear hfz10_2
     try clear hfz10_3
     try clear hfz11_0
     try clear hfz11_1
     try clear hfz11_2
     try clear hfz11_3
     try clear hfz8_0
     try clear hfz8_1
     try clear hfz8_2
     try clear hfz8_3
     try clear p2
     obtain ⟨x1_2, rfl, HA, HK2, BK413, HB⟩ := hrel
     cases gk with
     | zero => exact absurd HA.out (by simp [impl_LastOne.l0])
     | succ k2 =>
      have H := HA.out
      clear HA
      simp only [impl_LastOne.l0] at H
      by_cases c14 : x1_2 ≥ 0
      ·
       rw [if_pos c14] at H
       have c14b0 : decide (0 ≤ x1_2) = true := decide_eq_true c14
       clear c14
       replace H := Option.bind_eq_some_iff.mp H
       obtain ⟨t416, A150, H⟩ := H
       replace H : (if t416 = true then (some (x1_2, true)) else (impl_LastOne.l0 k2 (wrap64 (x1_2 - 1)) a0_0 l0_1 l0_2 l0_3)) = some (r1, r2) := H
       have A15 := Aside0.mk A150
       clear A150
       by_cases c16 : t416 = true
       ·
        subst c16
        have H1 : (some (x1_2, true)) = some (r1, r2) := by rw [if_pos rfl] at H; exact H
        clear H
        have H := H1
        clear H1
        simp only [Option.some.injEq, Prod.mk.injEq] at H
        obtain ⟨rfl, rfl⟩ := H
        go_wp2_with (first | ((with_reducible refine gate_callee (f := 65) rfl ?_); refine goesL_ (some 25) rfl rfl Try.func65 (by kernel_rfl) rfl #[.pointer (some ⟨gb413, 0, none⟩), .int .i64 x1_2] rfl (by (try simp only [List.map_toArray, List.map_cons, List.map_nil]); first | done | rfl | (simp only [List.length_drop, List.length_take]; rfl)) ?_; (with_reducible refine (impl_Bits_at_in40_0.calls gb413 a0_0 A0_1 c0_1 l0_1 A0_2 c0_2 l0_2 A0_3 c0_3 l0_3 x1_2 true _ ?side1 ?side2 ?side3 ?side4 ?side5 ?side6 ?side7 A15.out).mono ?_); (case side1 => exact (uK BK413)); (case side2 => exact uC HR0_1 HB); (case side3 => exact HC0_1.out); (case side4 => exact uC HR0_2 HB); (case side5 => exact HC0_2.out); (case side6 => exact uC HR0_3 HB); (case side7 => exact HC0_3.out); rintro e w17 ⟨rfl, hb⟩; refine ⟨_, rfl, ?_⟩; have n0_ := Aside0.mk (blk_below (g := gb413) (o := .cells #[.int .i64 a0_0, .slice A0_1 l0_1.length c0_1, .slice A0_2 l0_2.length c0_2, .slice A0_3 l0_3.length c0_3] 40 (0, 0)) (uK BK413) hb); have n1_ := Aside0.mk (below_step (by first | exact uB HB | exact uS HB (gC GE413 gN)) hb); clear BK413 HB; have BK413 := n0_; have HB := n1_; clear n0_ n1_; (try clear hb); (try clear hb2); (try clear hk); (try clear hi)))
        go_ret2
        exact ⟨by first | rfl | (simp [errW_none, errW_some] <;> rfl) | (simp [*, errW_none, errW_some] <;> rfl), by first | exact uB HB | exact uS HB (gC GE413 gN)⟩
       ·
        replace c16 := Bool.eq_false_iff.mpr c16
        subst c16
        have H1 : (impl_LastOne.l0 k2 (wrap64 (x1_2 - 1)) a0_0 l0_1 l0_2 l0_3) = some (r1, r2) := by rw [if_neg (show ¬ (false = true) by decide)] at H; exact H
        clear H
        have H := H1
        clear H1
        have H' := Aside0.mk H
        clear H
        go_wp2_with (first | ((with_reducible refine gate_callee (f := 65) rfl ?_); refine goesL_ (some 25) rfl rfl Try.func65 (by kernel_rfl) rfl #[.pointer (some ⟨gb413, 0, none⟩), .int .i64 x1_2] rfl (by (try simp only [List.map_toArray, List.map_cons, List.map_nil]); first | done | rfl | (simp only [List.length_drop, List.length_take]; rfl)) ?_; (with_reducible refine (impl_Bits_at_in40_0.calls gb413 a0_0 A0_1 c0_1 l0_1 A0_2 c0_2 l0_2 A0_3 c0_3 l0_3 x1_2 false _ ?side1 ?side2 ?side3 ?side4 ?side5 ?side6 ?side7 A15.out).mono ?_); (case side1 => exact (uK BK413)); (case side2 => exact uC HR0_1 HB); (case side3 => exact HC0_1.out); (case side4 => exact uC HR0_2 HB); (case side5 => exact HC0_2.out); (case side6 => exact uC HR0_3 HB); (case side7 => exact HC0_3.out); rintro e w18 ⟨rfl, hb⟩; refine ⟨_, rfl, ?_⟩; have n0_ := Aside0.mk (blk_below (g := gb413) (o := .cells #[.int .i64 a0_0, .slice A0_1 l0_1.length c0_1, .slice A0_2 l0_2.length c0_2, .slice A0_3 l0_3.length c0_3] 40 (0, 0)) (uK BK413) hb); have n1_ := Aside0.mk (below_step (by first | exact uB HB | exact uS HB (gC GE413 gN)) hb); clear BK413 HB; have BK413 := n0_; have HB := n1_; clear n0_ n1_; (try clear hb); (try clear hb2); (try clear hk); (try clear hi)))
        go_roundg k2
        case measure => have := HJ2.out; have := HK2.out; omega
        case rel => exact ⟨(wrap64 (x1_2 - 1)), (by first | rfl | (simp; done) | (simp [*]; done)), H', ⟨by have := HJ2.out; have := HK2.out; omega⟩, ⟨by refine uW ?_; exact BK413.out⟩, ⟨by first | exact uB HB | exact uS HB (gC GE413 gN)⟩⟩
      ·
       rw [if_neg c14] at H
       have c14b0 : decide (0 ≤ x1_2) = false := decide_eq_false c14
       clear c14
       simp only [Option.some.injEq, Prod.mk.injEq] at H
       obtain ⟨rfl, rfl⟩ := H
       go_wp2
       go_ret2
       exact ⟨by first | rfl | (simp [errW_none, errW_some] <;> rfl) | (simp [*, errW_none, errW_some] <;> rfl), by first | exact uB HB | exact uS HB (gC GE413 gN)⟩

/-! ### laws_FnNeighboursOfRank: function 5 -/
mutual
def laws_FnNeighboursOfRank.j0 : Nat → Int → Int → Bool → Bool → Int → List Int → List Int → List Int → Option (Bool)
 | 0, _, _, _, _, _, _, _, _ => none
 | k + 1, x6, x7, x8, x44, x430000, x430001, x430002, x430003 => if x44 = true then (some false) else ((impl_Rank1.f k x430000 x430001 x430002 x430003 x6).bind fun bt434 => (if bt434.2 = true then ((impl_Select1.f k x430000 x430001 x430002 x430003 bt434.1).bind fun bt436 => (if (x8 != bt436.2) = true then (laws_FnNeighboursOfRank.j1 k x6 bt434.1 true x430000 x430001 x430002 x430003) else (laws_FnNeighboursOfRank.j1 k x6 bt434.1 (x7 != bt436.1) x430000 x430001 x430002 x430003))) else (some (!x8))))
def laws_FnNeighboursOfRank.j1 : Nat → Int → Int → Bool → Int → List Int → List Int → List Int → Option (Bool)
 | 0, _, _, _, _, _, _, _ => none
 | k + 1, x6, x11, x68, x430000, x430001, x430002, x430003 => if x68 = true then (some false) else ((impl_LastOne.f k x430000 x430001 x430002 x430003 x6).bind fun bt438 => (if x11 = 0 then (some (!bt438.2)) else ((impl_Select1.f k x430000 x430001 x430002 x430003 (wrap64 (x11 - 1))).bind fun bt440 => (if bt438.2 = true then (if bt440.2 = true then (some (bt438.1 == bt440.1)) else (some false)) else (some false)))))
end
def laws_FnNeighboursOfRank.f (k : Nat) (l0 : List Int) (l1 : List Int) : Option (Bool) := (laws_big.f l0 l1).bind fun t417 => (if t417 = true then (some true) else ((spec_DrawNextOne.f k l0).bind fun bt418 => ((impl_NextOne.f k bt418.1 bt418.2.1 bt418.2.2.1 bt418.2.2.2.1 bt418.2.2.2.2).bind fun bt430 => ((spec_NextOne.f k bt418.1 bt418.2.1 bt418.2.2.1 bt418.2.2.2.1 bt418.2.2.2.2).bind fun bt432 => (if (bt430.2 != bt432.2) = true then (laws_FnNeighboursOfRank.j0 k bt418.2.2.2.2 bt430.1 bt430.2 true bt418.1 bt418.2.1 bt418.2.2.1 bt418.2.2.2.1) else (laws_FnNeighboursOfRank.j0 k bt418.2.2.2.2 bt430.1 bt430.2 (bt430.1 != bt432.1) bt418.1 bt418.2.1 bt418.2.2.1 bt418.2.2.2.1))))))
theorem laws_FnNeighboursOfRank.mono_l : ∀ k, (∀ y0 y1 y2 y3 y4 y5 y6 y7, LeO (laws_FnNeighboursOfRank.j0 k y0 y1 y2 y3 y4 y5 y6 y7) (laws_FnNeighboursOfRank.j0 (k + 1) y0 y1 y2 y3 y4 y5 y6 y7)) ∧ (∀ y0 y1 y2 y3 y4 y5 y6, LeO (laws_FnNeighboursOfRank.j1 k y0 y1 y2 y3 y4 y5 y6) (laws_FnNeighboursOfRank.j1 (k + 1) y0 y1 y2 y3 y4 y5 y6))
 | 0 => ⟨fun _ _ _ _ _ _ _ _ r h => by simp [laws_FnNeighboursOfRank.j0] at h, fun _ _ _ _ _ _ _ r h => by simp [laws_FnNeighboursOfRank.j1] at h⟩
 | k + 1 => by
  obtain ⟨ih0, ih1⟩ := laws_FnNeighboursOfRank.mono_l k
  refine ⟨?_, ?_⟩
  ·
   intro y0 y1 y2 y3 y4 y5 y6 y7
   unfold laws_FnNeighboursOfRank.j0
   repeat' first
   | (with_reducible exact ih0 _ _ _ _ _ _ _ _)
   | (with_reducible exact ih1 _ _ _ _ _ _ _)
   | (with_reducible exact impl_LastOne.mono _ _ _ _ _ _)
   | (with_reducible exact impl_NextOne.mono _ _ _ _ _ _)
   | (with_reducible exact impl_Rank1.mono _ _ _ _ _ _)
   | (with_reducible exact impl_Select1.mono _ _ _ _ _ _)
   | (with_reducible exact spec_DrawNextOne.mono _ _)
   | (with_reducible exact spec_NextOne.mono _ _ _ _ _ _)
   | (with_reducible exact LeO.refl _)
   | (with_reducible exact LeO.none _)
   | (with_reducible refine LeO.ite ?_ ?_)
   | (with_reducible refine LeO.bind ?_ (fun _ => ?_))
   | exact ih0 _ _ _ _ _ _ _ _
   | exact ih1 _ _ _ _ _ _ _
   | exact impl_LastOne.mono _ _ _ _ _ _
   | exact impl_NextOne.mono _ _ _ _ _ _
   | exact impl_Rank1.mono _ _ _ _ _ _
   | exact impl_Select1.mono _ _ _ _ _ _
   | exact spec_DrawNextOne.mono _ _
   | exact spec_NextOne.mono _ _ _ _ _ _
   | exact LeO.none _
   | refine LeO.ite ?_ ?_
   | refine LeO.bind ?_ (fun _ => ?_)
  ·
   intro y0 y1 y2 y3 y4 y5 y6
   unfold laws_FnNeighboursOfRank.j1
   repeat' first
   | (with_reducible exact ih0 _ _ _ _ _ _ _ _)
   | (with_reducible exact ih1 _ _ _ _ _ _ _)
   | (with_reducible exact impl_LastOne.mono _ _ _ _ _ _)
   | (with_reducible exact impl_NextOne.mono _ _ _ _ _ _)
   | (with_reducible exact impl_Rank1.mono _ _ _ _ _ _)
   | (with_reducible exact impl_Select1.mono _ _ _ _ _ _)
   | (with_reducible exact spec_DrawNextOne.mono _ _)
   | (with_reducible exact spec_NextOne.mono _ _ _ _ _ _)
   | (with_reducible exact LeO.refl _)
   | (with_reducible exact LeO.none _)
   | (with_reducible refine LeO.ite ?_ ?_)
   | (with_reducible refine LeO.bind ?_ (fun _ => ?_))
   | exact ih0 _ _ _ _ _ _ _ _
   | exact ih1 _ _ _ _ _ _ _
   | exact impl_LastOne.mono _ _ _ _ _ _
   | exact impl_NextOne.mono _ _ _ _ _ _
   | exact impl_Rank1.mono _ _ _ _ _ _
   | exact impl_Select1.mono _ _ _ _ _ _
   | exact spec_DrawNextOne.mono _ _
   | exact spec_NextOne.mono _ _ _ _ _ _
   | exact LeO.none _
   | refine LeO.ite ?_ ?_
   | refine LeO.bind ?_ (fun _ => ?_)
theorem laws_FnNeighboursOfRank.mono : ∀ a0 a1 k, LeO (laws_FnNeighboursOfRank.f k a0 a1) (laws_FnNeighboursOfRank.f (k + 1) a0 a1) := by
 intro a0 a1 k
 obtain ⟨ih0, ih1⟩ := laws_FnNeighboursOfRank.mono_l k
 unfold laws_FnNeighboursOfRank.f
 repeat' first
   | (with_reducible exact ih0 _ _ _ _ _ _ _ _)
   | (with_reducible exact ih1 _ _ _ _ _ _ _)
   | (with_reducible exact impl_LastOne.mono _ _ _ _ _ _)
   | (with_reducible exact impl_NextOne.mono _ _ _ _ _ _)
   | (with_reducible exact impl_Rank1.mono _ _ _ _ _ _)
   | (with_reducible exact impl_Select1.mono _ _ _ _ _ _)
   | (with_reducible exact spec_DrawNextOne.mono _ _)
   | (with_reducible exact spec_NextOne.mono _ _ _ _ _ _)
   | (with_reducible exact LeO.refl _)
   | (with_reducible exact LeO.none _)
   | (with_reducible refine LeO.ite ?_ ?_)
   | (with_reducible refine LeO.bind ?_ (fun _ => ?_))
   | exact ih0 _ _ _ _ _ _ _ _
   | exact ih1 _ _ _ _ _ _ _
   | exact impl_LastOne.mono _ _ _ _ _ _
   | exact impl_NextOne.mono _ _ _ _ _ _
   | exact impl_Rank1.mono _ _ _ _ _ _
   | exact impl_Select1.mono _ _ _ _ _ _
   | exact spec_DrawNextOne.mono _ _
   | exact spec_NextOne.mono _ _ _ _ _ _
   | exact LeO.none _
   | refine LeO.ite ?_ ?_
   | refine LeO.bind ?_ (fun _ => ?_)
set_option maxHeartbeats 8000000 in
set_option maxRecDepth 100000 in
theorem laws_FnNeighboursOfRank.calls (k : Nat) (A0 : Option Addr) (c0 : Nat) (l0 : List Int) (A1 : Option Addr) (c1 : Nat) (l1 : List Int) (r : Bool) (w : World) (hr0 : Kd.C (Kd.int .u8) w A0 l0.length l0) (hc0 : l0.length ≤ c0) (hr1 : Kd.C (Kd.int .u8) w A1 l1.length l1) (hc1 : l1.length ≤ c1) (h : laws_FnNeighboursOfRank.f k l0 l1 = some r) :
  Calls Try.prog 5 #[.slice A0 l0.length c0, .slice A1 l1.length c1] w fun e w' => e = .returned (.bool r) ∧ Below w.heap.size w w' := by
 have hu40 := Try.underlying40
 have HR0 := Aside0.mk hr0
 have HC0 := Aside0.mk hc0
 clear hr0 hc0
 have HR1 := Aside0.mk hr1
 have HC1 := Aside0.mk hc1
 clear hr1 hc1
 have HB := Aside0.mk (Below.refl w.heap.size w)
 have H : ((laws_big.f l0 l1).bind fun t417 => (if t417 = true then (some true) else ((spec_DrawNextOne.f k l0).bind fun bt418 => ((impl_NextOne.f k bt418.1 bt418.2.1 bt418.2.2.1 bt418.2.2.2.1 bt418.2.2.2.2).bind fun bt430 => ((spec_NextOne.f k bt418.1 bt418.2.1 bt418.2.2.1 bt418.2.2.2.1 bt418.2.2.2.2).bind fun bt432 => (if (bt430.2 != bt432.2) = true then (laws_FnNeighboursOfRank.j0 k bt418.2.2.2.2 bt430.1 bt430.2 true bt418.1 bt418.2.1 bt418.2.2.1 bt418.2.2.2.1) else (laws_FnNeighboursOfRank.j0 k bt418.2.2.2.2 bt430.1 bt430.2 (bt430.1 != bt432.1) bt418.1 bt418.2.1 bt418.2.2.1 bt418.2.2.2.1))))))) = some r := h
 clear h
 replace H := Option.bind_eq_some_iff.mp H
 obtain ⟨t417, A30, H⟩ := H
 replace H : (if t417 = true then (some true) else ((spec_DrawNextOne.f k l0).bind fun bt418 => ((impl_NextOne.f k bt418.1 bt418.2.1 bt418.2.2.1 bt418.2.2.2.1 bt418.2.2.2.2).bind fun bt430 => ((spec_NextOne.f k bt418.1 bt418.2.1 bt418.2.2.1 bt418.2.2.2.1 bt418.2.2.2.2).bind fun bt432 => (if (bt430.2 != bt432.2) = true then (laws_FnNeighboursOfRank.j0 k bt418.2.2.2.2 bt430.1 bt430.2 true bt418.1 bt418.2.1 bt418.2.2.1 bt418.2.2.2.1) else (laws_FnNeighboursOfRank.j0 k bt418.2.2.2.2 bt430.1 bt430.2 (bt430.1 != bt432.1) bt418.1 bt418.2.1 bt418.2.2.1 bt418.2.2.2.1)))))) = some r := H
 have A3 := Aside0.mk A30
 clear A30
 by_cases c4 : t417 = true
 ·
  subst c4
  have H1 : (some true) = some r := by rw [if_pos rfl] at H; exact H
  clear H
  have H := H1
  clear H1
  obtain rfl := Option.some.inj H
  go_enter Try.func5, Try.ntmps5
  go_wp2_with (first | ((with_reducible refine gate_callee (f := 8) rfl ?_); refine goesL_ (some 19) rfl rfl Try.func8 (by kernel_rfl) rfl #[.slice A0 l0.length c0, .slice A1 l1.length c1] rfl (by (try simp only [List.map_toArray, List.map_cons, List.map_nil]); first | done | rfl | (simp only [List.length_drop, List.length_take]; rfl)) ?_; (with_reducible refine (laws_big.calls _ _ l0 _ _ l1 true _ ?side1 ?side2 ?side3 ?side4 A3.out).mono ?_); (case side1 => repeat (first | exact HR0.out | (with_reducible refine Kd.C_alloc ?_ _) | (with_reducible refine Kd.C_drewN ?_ _) | (with_reducible refine Kd.C_drew ?_))); (case side2 => exact HC0.out); (case side3 => repeat (first | exact HR1.out | (with_reducible refine Kd.C_alloc ?_ _) | (with_reducible refine Kd.C_drewN ?_ _) | (with_reducible refine Kd.C_drew ?_))); (case side4 => exact HC1.out); rintro e w' ⟨rfl, ⟨nd, rfl⟩⟩; refine ⟨_, rfl, ?_⟩))
  go_ret
  exact ⟨by first | rfl | (simp [errW_none, errW_some] <;> rfl) | (simp [*, errW_none, errW_some] <;> rfl), uB HB⟩
 ·
  replace c4 := Bool.eq_false_iff.mpr c4
  subst c4
  have H1 : ((spec_DrawNextOne.f k l0).bind fun bt418 => ((impl_NextOne.f k bt418.1 bt418.2.1 bt418.2.2.1 bt418.2.2.2.1 bt418.2.2.2.2).bind fun bt430 => ((spec_NextOne.f k bt418.1 bt418.2.1 bt418.2.2.1 bt418.2.2.2.1 bt418.2.2.2.2).bind fun bt432 => (if (bt430.2 != bt432.2) = true then (laws_FnNeighboursOfRank.j0 k bt418.2.2.2.2 bt430.1 bt430.2 true bt418.1 bt418.2.1 bt418.2.2.1 bt418.2.2.2.1) else (laws_FnNeighboursOfRank.j0 k bt418.2.2.2.2 bt430.1 bt430.2 (bt430.1 != bt432.1) bt418.1 bt418.2.1 bt418.2.2.1 bt418.2.2.2.1))))) = some r := by rw [if_neg (show ¬ (false = true) by decide)] at H; exact H
  clear H
  have H := H1
  clear H1
  replace H := Option.bind_eq_some_iff.mp H
  obtain ⟨⟨t418, t419, t422, t425, t428⟩, A50, H⟩ := H
  replace H : ((impl_NextOne.f k t418 t419 t422 t425 t428).bind fun bt430 => ((spec_NextOne.f k t418 t419 t422 t425 t428).bind fun bt432 => (if (bt430.2 != bt432.2) = true then (laws_FnNeighboursOfRank.j0 k t428 bt430.1 bt430.2 true t418 t419 t422 t425) else (laws_FnNeighboursOfRank.j0 k t428 bt430.1 bt430.2 (bt430.1 != bt432.1) t418 t419 t422 t425)))) = some r := H
  have A5 := Aside0.mk A50
  clear A50
  replace H := Option.bind_eq_some_iff.mp H
  obtain ⟨⟨t430, t431⟩, A60, H⟩ := H
  replace H : ((spec_NextOne.f k t418 t419 t422 t425 t428).bind fun bt432 => (if (t431 != bt432.2) = true then (laws_FnNeighboursOfRank.j0 k t428 t430 t431 true t418 t419 t422 t425) else (laws_FnNeighboursOfRank.j0 k t428 t430 t431 (t430 != bt432.1) t418 t419 t422 t425))) = some r := H
  have A6 := Aside0.mk A60
  clear A60
  replace H := Option.bind_eq_some_iff.mp H
  obtain ⟨⟨t432, t433⟩, A70, H⟩ := H
  replace H : (if (t431 != t433) = true then (laws_FnNeighboursOfRank.j0 k t428 t430 t431 true t418 t419 t422 t425) else (laws_FnNeighboursOfRank.j0 k t428 t430 t431 (t430 != t432) t418 t419 t422 t425)) = some r := H
  have A7 := Aside0.mk A70
  clear A70
  have HC8 := Aside0.mk H
  clear H
  go_enter Try.func5, Try.ntmps5
  go_upto_region 6 with (first | ((with_reducible refine gate_callee (f := 8) rfl ?_); refine goesL_ (some 19) rfl rfl Try.func8 (by kernel_rfl) rfl #[.slice A0 l0.length c0, .slice A1 l1.length c1] rfl (by (try simp only [List.map_toArray, List.map_cons, List.map_nil]); first | done | rfl | (simp only [List.length_drop, List.length_take]; rfl)) ?_; (with_reducible refine (laws_big.calls _ _ l0 _ _ l1 false _ ?side1 ?side2 ?side3 ?side4 A3.out).mono ?_); (case side1 => repeat (first | exact HR0.out | (with_reducible refine Kd.C_alloc ?_ _) | (with_reducible refine Kd.C_drewN ?_ _) | (with_reducible refine Kd.C_drew ?_))); (case side2 => exact HC0.out); (case side3 => repeat (first | exact HR1.out | (with_reducible refine Kd.C_alloc ?_ _) | (with_reducible refine Kd.C_drewN ?_ _) | (with_reducible refine Kd.C_drew ?_))); (case side4 => exact HC1.out); rintro e w' ⟨rfl, ⟨nd, rfl⟩⟩; refine ⟨_, rfl, ?_⟩) | ((with_reducible refine gate_callee (f := 19) rfl ?_); refine goesL_ (some 22) rfl rfl Try.func19 (by kernel_rfl) rfl #[.slice A0 l0.length c0] rfl (by (try simp only [List.map_toArray, List.map_cons, List.map_nil]); first | done | rfl | (simp only [List.length_drop, List.length_take]; rfl)) ?_; (with_reducible refine (spec_DrawNextOne.calls k _ _ l0 t418 t419 t422 t425 t428 _ ?side1 ?side2 A5.out).mono ?_); (case side1 => repeat (first | exact HR0.out | (with_reducible refine Kd.C_alloc ?_ _) | (with_reducible refine Kd.C_drewN ?_ _) | (with_reducible refine Kd.C_drew ?_))); (case side2 => exact HC0.out); rintro e w9 ⟨v420, v423, v426, rfl, ho0, ho1, ho2, hb⟩; refine ⟨_, rfl, ?_⟩; have n0_ := Aside0.mk (Kd.R_lower ho0 (below_size (uB HB))); have n1_ := Aside0.mk (Kd.R_lower ho1 (below_size (uB HB))); have n2_ := Aside0.mk (Kd.R_lower ho2 (below_size (uB HB))); have n3_ := Aside0.mk (below_step (uB HB) hb); clear HB; have HO421 := n0_; have HO424 := n1_; have HO427 := n2_; have HB := n3_; clear n0_ n1_ n2_ n3_; (try clear hb); (try clear hb2); (try clear hk); (try clear hi); (try clear ho0); (try clear ho1); (try clear ho2)) | ((with_reducible refine gate_dst (N := 5) rfl ?_); refine box_event ?hg (N := 5) ?hd (cs := #[.int .i64 0, .slice none 0 0, .slice none 0 0, .slice none 0 0]) (t := 40) ?hr ?_; (case hd => rfl); (case hg => rfl); (case hr => first | (go_simp; done) | (go_simp; rfl)); intro gb429 hg w10 hbox hb; have n0_ := Aside0.mk (Kd.R_below (uR HO421) hb); have n1_ := Aside0.mk (Kd.R_below (uR HO424) hb); have n2_ := Aside0.mk (Kd.R_below (uR HO427) hb); have n3_ := Aside0.mk (below_step (uB HB) hb); have n4_ := Aside0.mk (hbox); have n5_ := Aside0.mk ((by rw [hg]; exact (below_size (uB HB)) : w.heap.size ≤ gb429)); have n6_ := Aside0.mk ((by rw [hg]; exact (below_size (uB HB)) : w.heap.size ≤ gb429)); clear HO421 HO424 HO427 HB; have HO421 := n0_; have HO424 := n1_; have HO427 := n2_; have HB := n3_; have BK429 := n4_; have GW429 := n5_; have GE429 := n6_; clear n0_ n1_ n2_ n3_ n4_ n5_ n6_ hb hbox hg; have hcz11_0 : w10.cell? ⟨gb429, 0, none⟩ = some (.int .i64 0) := (blk_cell BK429.out 0).trans rfl; have hcz11_1 : w10.cell? ⟨gb429, 1, none⟩ = some (.slice none 0 0) := (blk_cell BK429.out 1).trans rfl; have hcz11_2 : w10.cell? ⟨gb429, 2, none⟩ = some (.slice none 0 0) := (blk_cell BK429.out 2).trans rfl; have hcz11_3 : w10.cell? ⟨gb429, 3, none⟩ = some (.slice none 0 0) := (blk_cell BK429.out 3).trans rfl; have hfz11_0 := blk_frozen BK429.out 0; have hfz11_1 := blk_frozen BK429.out 1; have hfz11_2 := blk_frozen BK429.out 2; have hfz11_3 := blk_frozen BK429.out 3; obtain ⟨Ao12, co12, eo12⟩ := Kd.R_slice HO421.out; subst eo12; obtain ⟨Ao13, co13, eo13⟩ := Kd.R_slice HO424.out; subst eo13; obtain ⟨Ao14, co14, eo14⟩ := Kd.R_slice HO427.out; subst eo14) | ((with_reducible refine gate_callee (f := 20) rfl ?_); refine goesL_ (some 28) rfl rfl Try.func20 (by kernel_rfl) rfl #[.agg #[.int .i64 t418, .slice Ao12 t419.length co12, .slice Ao13 t422.length co13, .slice Ao14 t425.length co14], .int .i64 t428] rfl (by (try simp only [List.map_toArray, List.map_cons, List.map_nil]); first | done | rfl | (simp only [List.length_drop, List.length_take]; rfl)) ?_; (with_reducible refine (impl_NextOne.calls k t418 _ _ t419 _ _ t422 _ _ t425 t428 t430 t431 _ ?side1 ?side2 ?side3 ?side4 ?side5 ?side6 A6.out).mono ?_); (case side1 => refine (Kd.R_reads' (e := 3) (base := w.heap.size) (ok := fun k_ => (some k_ ≠ (.slice Ao13 t422.length co13 : Value).ownBlock ∧ some k_ ≠ (.slice Ao14 t425.length co14 : Value).ownBlock)) (n := t419.length) (c := co12) ?_).2.2; exact (by (with_reducible repeat (first | apply Kd.R_alloc | apply Kd.R_drewN | apply Kd.R_drew)); exact (Kd.R_mono (Kd.R_far (p := ⟨gb429, 3, none⟩) (Kd.R_far (p := ⟨gb429, 2, none⟩) (Kd.R_far (p := ⟨gb429, 1, none⟩) (Kd.R_far (p := ⟨gb429, 0, none⟩) (Kd.R_types HO421.out BK429.out (by decide)) (fun _ hk => hk.2) (.int .i64 t418)) (fun _ hk => hk.2) (.slice Ao12 t419.length co12)) (fun _ hk => hk.2) (.slice Ao13 t422.length co13)) (fun _ hk => hk.2) (.slice Ao14 t425.length co14)) (fun _ h_ => h_.1)))); (case side2 => exact (Kd.R_reads' HO421.out).2.1); (case side3 => refine (Kd.R_reads' (e := 3) (base := w.heap.size) (ok := fun k_ => (some k_ ≠ (.slice Ao12 t419.length co12 : Value).ownBlock ∧ some k_ ≠ (.slice Ao14 t425.length co14 : Value).ownBlock)) (n := t422.length) (c := co13) ?_).2.2; exact (by (with_reducible repeat (first | apply Kd.R_alloc | apply Kd.R_drewN | apply Kd.R_drew)); exact (Kd.R_mono (Kd.R_far (p := ⟨gb429, 3, none⟩) (Kd.R_far (p := ⟨gb429, 2, none⟩) (Kd.R_far (p := ⟨gb429, 1, none⟩) (Kd.R_far (p := ⟨gb429, 0, none⟩) (Kd.R_types HO424.out BK429.out (by decide)) (fun _ hk => hk.2) (.int .i64 t418)) (fun _ hk => hk.2) (.slice Ao12 t419.length co12)) (fun _ hk => hk.2) (.slice Ao13 t422.length co13)) (fun _ hk => hk.2) (.slice Ao14 t425.length co14)) (fun _ h_ => h_.1)))); (case side4 => exact (Kd.R_reads' HO424.out).2.1); (case side5 => refine (Kd.R_reads' (e := 3) (base := w.heap.size) (ok := fun k_ => (some k_ ≠ (.slice Ao12 t419.length co12 : Value).ownBlock ∧ some k_ ≠ (.slice Ao13 t422.length co13 : Value).ownBlock)) (n := t425.length) (c := co14) ?_).2.2; exact (by (with_reducible repeat (first | apply Kd.R_alloc | apply Kd.R_drewN | apply Kd.R_drew)); exact (Kd.R_mono (Kd.R_far (p := ⟨gb429, 3, none⟩) (Kd.R_far (p := ⟨gb429, 2, none⟩) (Kd.R_far (p := ⟨gb429, 1, none⟩) (Kd.R_far (p := ⟨gb429, 0, none⟩) (Kd.R_types HO427.out BK429.out (by decide)) (fun _ hk => hk.2) (.int .i64 t418)) (fun _ hk => hk.2) (.slice Ao12 t419.length co12)) (fun _ hk => hk.2) (.slice Ao13 t422.length co13)) (fun _ hk => hk.2) (.slice Ao14 t425.length co14)) (fun _ h_ => h_.1)))); (case side6 => exact (Kd.R_reads' HO427.out).2.1); rintro e w15 ⟨rfl, hb⟩; refine ⟨_, rfl, ?_⟩; have n0_ := Aside0.mk (Kd.R_below (by (with_reducible repeat (first | apply Kd.R_alloc | apply Kd.R_drewN | apply Kd.R_drew)); exact (Kd.R_mono (Kd.R_far (p := ⟨gb429, 3, none⟩) (Kd.R_far (p := ⟨gb429, 2, none⟩) (Kd.R_far (p := ⟨gb429, 1, none⟩) (Kd.R_far (p := ⟨gb429, 0, none⟩) (Kd.R_types HO421.out BK429.out (by decide)) (fun _ hk => hk.2) (.int .i64 t418)) (fun _ hk => hk.2) (.slice Ao12 t419.length co12)) (fun _ hk => hk.2) (.slice Ao13 t422.length co13)) (fun _ hk => hk.2) (.slice Ao14 t425.length co14)) (fun _ h_ => h_.1))) hb); have n1_ := Aside0.mk (Kd.R_below (by (with_reducible repeat (first | apply Kd.R_alloc | apply Kd.R_drewN | apply Kd.R_drew)); exact (Kd.R_mono (Kd.R_far (p := ⟨gb429, 3, none⟩) (Kd.R_far (p := ⟨gb429, 2, none⟩) (Kd.R_far (p := ⟨gb429, 1, none⟩) (Kd.R_far (p := ⟨gb429, 0, none⟩) (Kd.R_types HO424.out BK429.out (by decide)) (fun _ hk => hk.2) (.int .i64 t418)) (fun _ hk => hk.2) (.slice Ao12 t419.length co12)) (fun _ hk => hk.2) (.slice Ao13 t422.length co13)) (fun _ hk => hk.2) (.slice Ao14 t425.length co14)) (fun _ h_ => h_.1))) hb); have n2_ := Aside0.mk (Kd.R_below (by (with_reducible repeat (first | apply Kd.R_alloc | apply Kd.R_drewN | apply Kd.R_drew)); exact (Kd.R_mono (Kd.R_far (p := ⟨gb429, 3, none⟩) (Kd.R_far (p := ⟨gb429, 2, none⟩) (Kd.R_far (p := ⟨gb429, 1, none⟩) (Kd.R_far (p := ⟨gb429, 0, none⟩) (Kd.R_types HO427.out BK429.out (by decide)) (fun _ hk => hk.2) (.int .i64 t418)) (fun _ hk => hk.2) (.slice Ao12 t419.length co12)) (fun _ hk => hk.2) (.slice Ao13 t422.length co13)) (fun _ hk => hk.2) (.slice Ao14 t425.length co14)) (fun _ h_ => h_.1))) hb); have n3_ := Aside0.mk (blk_below (g := gb429) (o := .cells #[.int .i64 t418, .slice Ao12 t419.length co12, .slice Ao13 t422.length co13, .slice Ao14 t425.length co14] 40 (0, 0)) (by refine uW ?_; refine blk_put (cs := #[.int .i64 t418, .slice Ao12 t419.length co12, .slice Ao13 t422.length co13, .slice none 0 0]) ?_ 3 _ rfl; refine uW ?_; refine blk_put (cs := #[.int .i64 t418, .slice Ao12 t419.length co12, .slice none 0 0, .slice none 0 0]) ?_ 2 _ rfl; refine uW ?_; refine blk_put (cs := #[.int .i64 t418, .slice none 0 0, .slice none 0 0, .slice none 0 0]) ?_ 1 _ rfl; refine uW ?_; refine blk_put (cs := #[.int .i64 0, .slice none 0 0, .slice none 0 0, .slice none 0 0]) ?_ 0 _ rfl; refine uW ?_; exact BK429.out) hb); have n4_ := Aside0.mk (below_step (by first | exact uB HB | exact uS HB (gC GE429 gN)) hb); clear HO421 HO424 HO427 BK429 HB; have HO421 := n0_; have HO424 := n1_; have HO427 := n2_; have BK429 := n3_; have HB := n4_; clear n0_ n1_ n2_ n3_ n4_; (try clear hb); (try clear hb2); (try clear hk); (try clear hi); have hcz16_0 : w15.cell? ⟨gb429, 0, none⟩ = some (.int .i64 t418) := (blk_cell BK429.out 0).trans rfl; have hcz16_1 : w15.cell? ⟨gb429, 1, none⟩ = some (.slice Ao12 t419.length co12) := (blk_cell BK429.out 1).trans rfl; have hcz16_2 : w15.cell? ⟨gb429, 2, none⟩ = some (.slice Ao13 t422.length co13) := (blk_cell BK429.out 2).trans rfl; have hcz16_3 : w15.cell? ⟨gb429, 3, none⟩ = some (.slice Ao14 t425.length co14) := (blk_cell BK429.out 3).trans rfl; have hfz16_0 := blk_frozen BK429.out 0; have hfz16_1 := blk_frozen BK429.out 1; have hfz16_2 := blk_frozen BK429.out 2; have hfz16_3 := blk_frozen BK429.out 3) | ((with_reducible refine gate_callee (f := 21) rfl ?_); refine goesL_ (some 34) rfl rfl Try.func21 (by kernel_rfl) rfl #[.agg #[.int .i64 t418, .slice Ao12 t419.length co12, .slice Ao13 t422.length co13, .slice Ao14 t425.length co14], .int .i64 t428] rfl (by (try simp only [List.map_toArray, List.map_cons, List.map_nil]); first | done | rfl | (simp only [List.length_drop, List.length_take]; rfl)) ?_; (with_reducible refine (spec_NextOne.calls k t418 _ _ t419 _ _ t422 _ _ t425 t428 t432 t433 _ ?side1 ?side2 ?side3 ?side4 ?side5 ?side6 A7.out).mono ?_); (case side1 => exact uD HO421); (case side2 => exact (Kd.R_reads' HO421.out).2.1); (case side3 => exact uD HO424); (case side4 => exact (Kd.R_reads' HO424.out).2.1); (case side5 => exact uD HO427); (case side6 => exact (Kd.R_reads' HO427.out).2.1); rintro e w17 ⟨rfl, hb⟩; refine ⟨_, rfl, ?_⟩; have n0_ := Aside0.mk (Kd.R_below (uR HO421) hb); have n1_ := Aside0.mk (Kd.R_below (uR HO424) hb); have n2_ := Aside0.mk (Kd.R_below (uR HO427) hb); have n3_ := Aside0.mk (blk_below (g := gb429) (o := .cells #[.int .i64 t418, .slice Ao12 t419.length co12, .slice Ao13 t422.length co13, .slice Ao14 t425.length co14] 40 (0, 0)) (uK BK429) hb); have n4_ := Aside0.mk (below_step (by first | exact uB HB | exact uS HB (gC GE429 gN)) hb); clear HO421 HO424 HO427 BK429 HB; have HO421 := n0_; have HO424 := n1_; have HO427 := n2_; have BK429 := n3_; have HB := n4_; clear n0_ n1_ n2_ n3_ n4_; (try clear hb); (try clear hb2); (try clear hk); (try clear hi)))
  (try simp only [Act.put, List.setIfInBounds_toArray, List.set_cons_zero, List.set_cons_succ])
  go_cut [44] (fun v44 wc => ∃ (kq : Nat) (x44_7 : Bool), v44 = .bool x44_7 ∧ Aside0 (laws_FnNeighboursOfRank.j0 kq t428 t430 t431 x44_7 t418 t419 t422 t425 = some r) ∧ Aside0 (kq ≤ k) ∧ Aside0 (Kd.R (Kd.int .i64) 3 wc w.heap.size (fun k_ => some k_ ≠ ((.slice Ao13 t422.length co13) : Value).ownBlock ∧ some k_ ≠ ((.slice Ao14 t425.length co14) : Value).ownBlock) (.slice Ao12 t419.length co12) t419) ∧ Aside0 (Kd.R (Kd.int .i64) 3 wc w.heap.size (fun k_ => some k_ ≠ ((.slice Ao12 t419.length co12) : Value).ownBlock ∧ some k_ ≠ ((.slice Ao14 t425.length co14) : Value).ownBlock) (.slice Ao13 t422.length co13) t422) ∧ Aside0 (Kd.R (Kd.int .i64) 3 wc w.heap.size (fun k_ => some k_ ≠ ((.slice Ao12 t419.length co12) : Value).ownBlock ∧ some k_ ≠ ((.slice Ao13 t422.length co13) : Value).ownBlock) (.slice Ao14 t425.length co14) t425) ∧ Aside0 (wc.heap[gb429]? = some (.cells #[.int .i64 t418, (.slice Ao12 t419.length co12), (.slice Ao13 t422.length co13), (.slice Ao14 t425.length co14)] 40 (0, 0))) ∧ Aside0 (Below w.heap.size w wc))
  case first =>
   have H := HC8.out
   clear HC8
   by_cases c18 : (t431 != t433) = true
   ·
    rw [if_pos c18] at H
    have c18b0 : (t431 != t433) = true := c18
    (try (have c18b1 : decide (t431 = t433) = false := by simpa using c18))
    (try (have c18b2 : (t431 == t433) = false := by simpa using c18))
    (try (have c18b3 : ¬ (t431 = t433) := by simpa using c18))
    clear c18
    (first | rw [c18b0] | (simp only [i64_w, i32_w]; rw [c18b0]) | skip)
    have H' := Aside0.mk H
    clear H
    go_wp2
    go_meet
    case rel => exact ⟨_, (true), (by first | rfl | (simp; done) | (simp [*]; done)), H', ⟨by first | omega | exact Nat.le_refl _⟩, ⟨by (with_reducible repeat (first | apply Kd.R_alloc | apply Kd.R_drewN | apply Kd.R_drew)); exact HO421.out⟩, ⟨by (with_reducible repeat (first | apply Kd.R_alloc | apply Kd.R_drewN | apply Kd.R_drew)); exact HO424.out⟩, ⟨by (with_reducible repeat (first | apply Kd.R_alloc | apply Kd.R_drewN | apply Kd.R_drew)); exact HO427.out⟩, ⟨by refine uW ?_; exact BK429.out⟩, ⟨by first | exact uB HB | exact uS HB (gC GE429 gN)⟩⟩
   ·
    rw [if_neg c18] at H
    have c18b0 : (t431 != t433) = false := by simpa using c18
    (try (have c18b1 : decide (t431 = t433) = true := by simpa using c18))
    (try (have c18b2 : (t431 == t433) = true := by simpa using c18))
    clear c18
    (first | rw [c18b0] | (simp only [i64_w, i32_w]; rw [c18b0]) | skip)
    have H' := Aside0.mk H
    clear H
    go_wp2
    go_meet
    case rel => exact ⟨_, ((t430 != t432)), (by first | rfl | (simp; done) | (simp [*]; done)), H', ⟨by first | omega | exact Nat.le_refl _⟩, ⟨by (with_reducible repeat (first | apply Kd.R_alloc | apply Kd.R_drewN | apply Kd.R_drew)); exact HO421.out⟩, ⟨by (with_reducible repeat (first | apply Kd.R_alloc | apply Kd.R_drewN | apply Kd.R_drew)); exact HO424.out⟩, ⟨by (with_reducible repeat (first | apply Kd.R_alloc | apply Kd.R_drewN | apply Kd.R_drew)); exact HO427.out⟩, ⟨by refine uW ?_; exact BK429.out⟩, ⟨by first | exact uB HB | exact uS HB (gC GE429 gN)⟩⟩
  case rest =>
   clear HC8
   try clear c1
   try clear c2
   try clear p2
   try clear c4
   try clear c5
   try clear c8
   try clear c18
   try clear c18b0
   try clear c18b1
   try clear c18b2
   try clear hcz11_0
   try clear hcz11_1
   try clear hcz11_2
   try clear hcz11_3
   try clear hcz16_0
   try clear hcz16_1
   try clear hcz16_2
   try clear hcz16_3
   try clear hfz11_0
   try clear hfz11_1
   try clear hfz11_2
   try clear hfz11_3
   try clear hfz16_0
   try clear hfz16_1
   try clear hfz16_2
   try clear hfz16_3
   obtain ⟨kq, x44_7, rfl, HA, HJ7, HO_430001, HO_430002, HO_430003, BK429, HB⟩ := hcut
   cases kq with
   | zero => exact absurd HA.out (by simp [laws_FnNeighboursOfRank.j0])
   | succ kj7 =>
    have H := HA.out
    clear HA
    simp only [laws_FnNeighboursOfRank.j0] at H
    by_cases c19 : x44_7 = true
    ·
     subst c19
     have H1 : (some false) = some r := by rw [if_pos rfl] at H; exact H
     clear H
     have H := H1
     clear H1
     obtain rfl := Option.some.inj H
     go_wp2
     go_ret
     exact ⟨by first | rfl | (simp [errW_none, errW_some] <;> rfl) | (simp [*, errW_none, errW_some] <;> rfl), by first | exact uB HB | exact uS HB (gC GE429 gN)⟩
    ·
     replace c19 := Bool.eq_false_iff.mpr c19
     subst c19
     have H1 : ((impl_Rank1.f kj7 t418 t419 t422 t425 t428).bind fun bt434 => (if bt434.2 = true then ((impl_Select1.f kj7 t418 t419 t422 t425 bt434.1).bind fun bt436 => (if (t431 != bt436.2) = true then (laws_FnNeighboursOfRank.j1 kj7 t428 bt434.1 true t418 t419 t422 t425) else (laws_FnNeighboursOfRank.j1 kj7 t428 bt434.1 (t430 != bt436.1) t418 t419 t422 t425))) else (some (!t431)))) = some r := by rw [if_neg (show ¬ (false = true) by decide)] at H; exact H
     clear H
     have H := H1
     clear H1
     replace H := Option.bind_eq_some_iff.mp H
     obtain ⟨⟨t434, t435⟩, A200, H⟩ := H
     replace H : (if t435 = true then ((impl_Select1.f kj7 t418 t419 t422 t425 t434).bind fun bt436 => (if (t431 != bt436.2) = true then (laws_FnNeighboursOfRank.j1 kj7 t428 t434 true t418 t419 t422 t425) else (laws_FnNeighboursOfRank.j1 kj7 t428 t434 (t430 != bt436.1) t418 t419 t422 t425))) else (some (!t431))) = some r := H
     have A20 := Aside0.mk A200
     clear A200
     by_cases c21 : t435 = true
     ·
      subst c21
      have H1 : ((impl_Select1.f kj7 t418 t419 t422 t425 t434).bind fun bt436 => (if (t431 != bt436.2) = true then (laws_FnNeighboursOfRank.j1 kj7 t428 t434 true t418 t419 t422 t425) else (laws_FnNeighboursOfRank.j1 kj7 t428 t434 (t430 != bt436.1) t418 t419 t422 t425))) = some r := by rw [if_pos rfl] at H; exact H
      clear H
      have H := H1
      clear H1
      replace H := Option.bind_eq_some_iff.mp H
      obtain ⟨⟨t436, t437⟩, A220, H⟩ := H
      replace H : (if (t431 != t437) = true then (laws_FnNeighboursOfRank.j1 kj7 t428 t434 true t418 t419 t422 t425) else (laws_FnNeighboursOfRank.j1 kj7 t428 t434 (t430 != t436) t418 t419 t422 t425)) = some r := H
      have A22 := Aside0.mk A220
      clear A220
      have HC23 := Aside0.mk H
      clear H
      have hcz24_0 : wc.cell? ⟨gb429, 0, none⟩ = some (.int .i64 t418) := (blk_cell BK429.out 0).trans rfl
      have hcz24_1 : wc.cell? ⟨gb429, 1, none⟩ = some (.slice Ao12 t419.length co12) := (blk_cell BK429.out 1).trans rfl
      have hcz24_2 : wc.cell? ⟨gb429, 2, none⟩ = some (.slice Ao13 t422.length co13) := (blk_cell BK429.out 2).trans rfl
      have hcz24_3 : wc.cell? ⟨gb429, 3, none⟩ = some (.slice Ao14 t425.length co14) := (blk_cell BK429.out 3).trans rfl
      have hfz24_0 := blk_frozen BK429.out 0
      have hfz24_1 := blk_frozen BK429.out 1
      have hfz24_2 := blk_frozen BK429.out 2
      have hfz24_3 := blk_frozen BK429.out 3
      go_upto_region 12 with (first | ((with_reducible refine gate_callee (f := 22) rfl ?_); refine goesL_ (some 48) rfl rfl Try.func22 (by kernel_rfl) rfl #[.agg #[.int .i64 t418, .slice Ao12 t419.length co12, .slice Ao13 t422.length co13, .slice Ao14 t425.length co14], .int .i64 t428] rfl (by (try simp only [List.map_toArray, List.map_cons, List.map_nil]); first | done | rfl | (simp only [List.length_drop, List.length_take]; rfl)) ?_; (with_reducible refine (impl_Rank1.calls kj7 t418 _ _ t419 _ _ t422 _ _ t425 t428 t434 true _ ?side1 ?side2 ?side3 ?side4 ?side5 ?side6 A20.out).mono ?_); (case side1 => exact uD HO_430001); (case side2 => exact (Kd.R_reads' HO_430001.out).2.1); (case side3 => exact uD HO_430002); (case side4 => exact (Kd.R_reads' HO_430002.out).2.1); (case side5 => exact uD HO_430003); (case side6 => exact (Kd.R_reads' HO_430003.out).2.1); rintro e w25 ⟨rfl, hb⟩; refine ⟨_, rfl, ?_⟩; have n0_ := Aside0.mk (Kd.R_below (uR HO_430001) hb); have n1_ := Aside0.mk (Kd.R_below (uR HO_430002) hb); have n2_ := Aside0.mk (Kd.R_below (uR HO_430003) hb); have n3_ := Aside0.mk (blk_below (g := gb429) (o := .cells #[.int .i64 t418, .slice Ao12 t419.length co12, .slice Ao13 t422.length co13, .slice Ao14 t425.length co14] 40 (0, 0)) (uK BK429) hb); have n4_ := Aside0.mk (below_step (by first | exact uB HB | exact uS HB (gC GE429 gN)) hb); clear HO_430001 HO_430002 HO_430003 BK429 HB; have HO_430001 := n0_; have HO_430002 := n1_; have HO_430003 := n2_; have BK429 := n3_; have HB := n4_; clear n0_ n1_ n2_ n3_ n4_; (try clear hb); (try clear hb2); (try clear hk); (try clear hi); have hcz26_0 : w25.cell? ⟨gb429, 0, none⟩ = some (.int .i64 t418) := (blk_cell BK429.out 0).trans rfl; have hcz26_1 : w25.cell? ⟨gb429, 1, none⟩ = some (.slice Ao12 t419.length co12) := (blk_cell BK429.out 1).trans rfl; have hcz26_2 : w25.cell? ⟨gb429, 2, none⟩ = some (.slice Ao13 t422.length co13) := (blk_cell BK429.out 2).trans rfl; have hcz26_3 : w25.cell? ⟨gb429, 3, none⟩ = some (.slice Ao14 t425.length co14) := (blk_cell BK429.out 3).trans rfl; have hfz26_0 := blk_frozen BK429.out 0; have hfz26_1 := blk_frozen BK429.out 1; have hfz26_2 := blk_frozen BK429.out 2; have hfz26_3 := blk_frozen BK429.out 3) | ((with_reducible refine gate_callee (f := 23) rfl ?_); refine goesL_ (some 58) rfl rfl Try.func23 (by kernel_rfl) rfl #[.agg #[.int .i64 t418, .slice Ao12 t419.length co12, .slice Ao13 t422.length co13, .slice Ao14 t425.length co14], .int .i64 t434] rfl (by (try simp only [List.map_toArray, List.map_cons, List.map_nil]); first | done | rfl | (simp only [List.length_drop, List.length_take]; rfl)) ?_; (with_reducible refine (impl_Select1.calls kj7 t418 _ _ t419 _ _ t422 _ _ t425 t434 t436 t437 _ ?side1 ?side2 ?side3 ?side4 ?side5 ?side6 A22.out).mono ?_); (case side1 => exact uD HO_430001); (case side2 => exact (Kd.R_reads' HO_430001.out).2.1); (case side3 => exact uD HO_430002); (case side4 => exact (Kd.R_reads' HO_430002.out).2.1); (case side5 => exact uD HO_430003); (case side6 => exact (Kd.R_reads' HO_430003.out).2.1); rintro e w27 ⟨rfl, hb⟩; refine ⟨_, rfl, ?_⟩; have n0_ := Aside0.mk (Kd.R_below (uR HO_430001) hb); have n1_ := Aside0.mk (Kd.R_below (uR HO_430002) hb); have n2_ := Aside0.mk (Kd.R_below (uR HO_430003) hb); have n3_ := Aside0.mk (blk_below (g := gb429) (o := .cells #[.int .i64 t418, .slice Ao12 t419.length co12, .slice Ao13 t422.length co13, .slice Ao14 t425.length co14] 40 (0, 0)) (uK BK429) hb); have n4_ := Aside0.mk (below_step (by first | exact uB HB | exact uS HB (gC GE429 gN)) hb); clear HO_430001 HO_430002 HO_430003 BK429 HB; have HO_430001 := n0_; have HO_430002 := n1_; have HO_430003 := n2_; have BK429 := n3_; have HB := n4_; clear n0_ n1_ n2_ n3_ n4_; (try clear hb); (try clear hb2); (try clear hk); (try clear hi)))
      (try simp only [Act.put, List.setIfInBounds_toArray, List.set_cons_zero, List.set_cons_succ])
      go_cut [68] (fun v68 wc => ∃ (kq : Nat) (x68_22 : Bool), v68 = .bool x68_22 ∧ Aside0 (laws_FnNeighboursOfRank.j1 kq t428 t434 x68_22 t418 t419 t422 t425 = some r) ∧ Aside0 (kq ≤ kj7) ∧ Aside0 (Kd.R (Kd.int .i64) 3 wc w.heap.size (fun k_ => some k_ ≠ ((.slice Ao13 t422.length co13) : Value).ownBlock ∧ some k_ ≠ ((.slice Ao14 t425.length co14) : Value).ownBlock) (.slice Ao12 t419.length co12) t419) ∧ Aside0 (Kd.R (Kd.int .i64) 3 wc w.heap.size (fun k_ => some k_ ≠ ((.slice Ao12 t419.length co12) : Value).ownBlock ∧ some k_ ≠ ((.slice Ao14 t425.length co14) : Value).ownBlock) (.slice Ao13 t422.length co13) t422) ∧ Aside0 (Kd.R (Kd.int .i64) 3 wc w.heap.size (fun k_ => some k_ ≠ ((.slice Ao12 t419.length co12) : Value).ownBlock ∧ some k_ ≠ ((.slice Ao13 t422.length co13) : Value).ownBlock) (.slice Ao14 t425.length co14) t425) ∧ Aside0 (wc.heap[gb429]? = some (.cells #[.int .i64 t418, (.slice Ao12 t419.length co12), (.slice Ao13 t422.length co13), (.slice Ao14 t425.length co14)] 40 (0, 0))) ∧ Aside0 (Below w.heap.size w wc))
      case first =>
       have H := HC23.out
       clear HC23
       by_cases c28 : (t431 != t437) = true
       ·
        rw [if_pos c28] at H
        have c28b0 : (t431 != t437) = true := c28
        (try (have c28b1 : decide (t431 = t437) = false := by simpa using c28))
        (try (have c28b2 : (t431 == t437) = false := by simpa using c28))
        (try (have c28b3 : ¬ (t431 = t437) := by simpa using c28))
        clear c28
        (first | rw [c28b0] | (simp only [i64_w, i32_w]; rw [c28b0]) | skip)
        have H' := Aside0.mk H
        clear H
        go_wp2
        go_meet
        case rel => exact ⟨_, (true), (by first | rfl | (simp; done) | (simp [*]; done)), H', ⟨by have := HJ7.out; first | omega | exact Nat.le_refl _⟩, ⟨by (with_reducible repeat (first | apply Kd.R_alloc | apply Kd.R_drewN | apply Kd.R_drew)); exact HO_430001.out⟩, ⟨by (with_reducible repeat (first | apply Kd.R_alloc | apply Kd.R_drewN | apply Kd.R_drew)); exact HO_430002.out⟩, ⟨by (with_reducible repeat (first | apply Kd.R_alloc | apply Kd.R_drewN | apply Kd.R_drew)); exact HO_430003.out⟩, ⟨by refine uW ?_; exact BK429.out⟩, ⟨by first | exact uB HB | exact uS HB (gC GE429 gN)⟩⟩
       ·
        rw [if_neg c28] at H
        have c28b0 : (t431 != t437) = false := by simpa using c28
        (try (have c28b1 : decide (t431 = t437) = true := by simpa using c28))
        (try (have c28b2 : (t431 == t437) = true := by simpa using c28))
        clear c28
        (first | rw [c28b0] | (simp only [i64_w, i32_w]; rw [c28b0]) | skip)
        have H' := Aside0.mk H
        clear H
        go_wp2
        go_meet
        case rel => exact ⟨_, ((t430 != t436)), (by first | rfl | (simp; done) | (simp [*]; done)), H', ⟨by have := HJ7.out; first | omega | exact Nat.le_refl _⟩, ⟨by (with_reducible repeat (first | apply Kd.R_alloc | apply Kd.R_drewN | apply Kd.R_drew)); exact HO_430001.out⟩, ⟨by (with_reducible repeat (first | apply Kd.R_alloc | apply Kd.R_drewN | apply Kd.R_drew)); exact HO_430002.out⟩, ⟨by (with_reducible repeat (first | apply Kd.R_alloc | apply Kd.R_drewN | apply Kd.R_drew)); exact HO_430003.out⟩, ⟨by refine uW ?_; exact BK429.out⟩, ⟨by first | exact uB HB | exact uS HB (gC GE429 gN)⟩⟩
      case rest =>
       clear HC23
       try clear c1
       try clear c2
       try clear p2
       try clear c4
       try clear c5
       try clear c8
       try clear c18
       try clear c18b0
       try clear c18b1
       try clear c18b2
       try clear c19
       try clear c20
       try clear c21
       try clear c22
       try clear c23
       try clear c28
       try clear c28b0
       try clear c28b1
       try clear c28b2
       try clear hcz11_0
       try clear hcz11_1
       try clear hcz11_2
       try clear hcz11_3
       try clear hcz16_0
       try clear hcz16_1
       try clear hcz16_2
       try clear hcz16_3
       try clear hcz24_0
       try clear hcz24_1
       try clear hcz24_2
       try clear hcz24_3
       try clear hcz26_0
       try clear hcz26_1
       try clear hcz26_2
       try clear hcz26_3
       try clear hfz11_0
       try clear hfz11_1
       try clear hfz11_2
       try clear hfz11_3
       try clear hfz16_0
       try clear hfz16_1
       try clear hfz16_2
       try clear hfz16_3
       try clear hfz24_0
       try clear hfz24_1
       try clear hfz24_2
       try clear hfz24_3
       try clear hfz26_0
       try clear hfz26_1
       try clear hfz26_2
       try clear hfz26_3
       try clear p2
       obtain ⟨kq, x68_22, rfl, HA, HJ22, HO_430001, HO_430002, HO_430003, BK429, HB⟩ := hcut
       cases kq with
       | zero => exact absurd HA.out (by simp [laws_FnNeighboursOfRank.j1])
       | succ kj22 =>
        have H := HA.out
        clear HA
        simp only [laws_FnNeighboursOfRank.j1] at H
        by_cases c29 : x68_22 = true
        ·
         subst c29
         have H1 : (some false) = some r := by rw [if_pos rfl] at H; exact H
         clear H
         have H := H1
         clear H1
         obtain rfl := Option.some.inj H
         go_wp2
         go_ret
         exact ⟨by first | rfl | (simp [errW_none, errW_some] <;> rfl) | (simp [*, errW_none, errW_some] <;> rfl), by first | exact uB HB | exact uS HB (gC GE429 gN)⟩
        ·
         replace c29 := Bool.eq_false_iff.mpr c29
         subst c29
         have H1 : ((impl_LastOne.f kj22 t418 t419 t422 t425 t428).bind fun bt438 => (if t434 = 0 then (some (!bt438.2)) else ((impl_Select1.f kj22 t418 t419 t422 t425 (wrap64 (t434 - 1))).bind fun bt440 => (if bt438.2 = true then (if bt440.2 = true then (some (bt438.1 == bt440.1)) else (some false)) else (some false))))) = some r := by rw [if_neg (show ¬ (false = true) by decide)] at H; exact H
         clear H
         have H := H1
         clear H1
         replace H := Option.bind_eq_some_iff.mp H
         obtain ⟨⟨t438, t439⟩, A300, H⟩ := H
         replace H : (if t434 = 0 then (some (!t439)) else ((impl_Select1.f kj22 t418 t419 t422 t425 (wrap64 (t434 - 1))).bind fun bt440 => (if t439 = true then (if bt440.2 = true then (some (t438 == bt440.1)) else (some false)) else (some false)))) = some r := H
         have A30 := Aside0.mk A300
         clear A300
         by_cases c31 : t434 = 0
         ·
          rw [if_pos c31] at H
          have c31b0 : (t434 == 0) = true := beq_iff_eq.mpr c31
          have c31b1 : (t434 != 0) = false := bne_eq_false_iff_eq.mpr c31
          clear c31
          obtain rfl := Option.some.inj H
          have hcz32_0 : wc.cell? ⟨gb429, 0, none⟩ = some (.int .i64 t418) := (blk_cell BK429.out 0).trans rfl
          have hcz32_1 : wc.cell? ⟨gb429, 1, none⟩ = some (.slice Ao12 t419.length co12) := (blk_cell BK429.out 1).trans rfl
          have hcz32_2 : wc.cell? ⟨gb429, 2, none⟩ = some (.slice Ao13 t422.length co13) := (blk_cell BK429.out 2).trans rfl
          have hcz32_3 : wc.cell? ⟨gb429, 3, none⟩ = some (.slice Ao14 t425.length co14) := (blk_cell BK429.out 3).trans rfl
          have hfz32_0 := blk_frozen BK429.out 0
          have hfz32_1 := blk_frozen BK429.out 1
          have hfz32_2 := blk_frozen BK429.out 2
          have hfz32_3 := blk_frozen BK429.out 3
          go_wp2_with (first | ((with_reducible refine gate_callee (f := 24) rfl ?_); refine goesL_ (some 72) rfl rfl Try.func24 (by kernel_rfl) rfl #[.agg #[.int .i64 t418, .slice Ao12 t419.length co12, .slice Ao13 t422.length co13, .slice Ao14 t425.length co14], .int .i64 t428] rfl (by (try simp only [List.map_toArray, List.map_cons, List.map_nil]); first | done | rfl | (simp only [List.length_drop, List.length_take]; rfl)) ?_; (with_reducible refine (impl_LastOne.calls kj22 t418 _ _ t419 _ _ t422 _ _ t425 t428 t438 t439 _ ?side1 ?side2 ?side3 ?side4 ?side5 ?side6 A30.out).mono ?_); (case side1 => exact uD HO_430001); (case side2 => exact (Kd.R_reads' HO_430001.out).2.1); (case side3 => exact uD HO_430002); (case side4 => exact (Kd.R_reads' HO_430002.out).2.1); (case side5 => exact uD HO_430003); (case side6 => exact (Kd.R_reads' HO_430003.out).2.1); rintro e w33 ⟨rfl, hb⟩; refine ⟨_, rfl, ?_⟩; have n0_ := Aside0.mk (Kd.R_below (uR HO_430001) hb); have n1_ := Aside0.mk (Kd.R_below (uR HO_430002) hb); have n2_ := Aside0.mk (Kd.R_below (uR HO_430003) hb); have n3_ := Aside0.mk (blk_below (g := gb429) (o := .cells #[.int .i64 t418, .slice Ao12 t419.length co12, .slice Ao13 t422.length co13, .slice Ao14 t425.length co14] 40 (0, 0)) (uK BK429) hb); have n4_ := Aside0.mk (below_step (by first | exact uB HB | exact uS HB (gC GE429 gN)) hb); clear HO_430001 HO_430002 HO_430003 BK429 HB; have HO_430001 := n0_; have HO_430002 := n1_; have HO_430003 := n2_; have BK429 := n3_; have HB := n4_; clear n0_ n1_ n2_ n3_ n4_; (try clear hb); (try clear hb2); (try clear hk); (try clear hi)))
          go_ret
          exact ⟨by first | rfl | (simp [errW_none, errW_some] <;> rfl) | (simp [*, errW_none, errW_some] <;> rfl), by first | exact uB HB | exact uS HB (gC GE429 gN)⟩
         ·
          rw [if_neg c31] at H
          have c31b0 : (t434 == 0) = false := beq_eq_false_iff_ne.mpr c31
          have c31b1 : (t434 != 0) = true := bne_iff_ne.mpr c31
          replace H := Option.bind_eq_some_iff.mp H
          obtain ⟨⟨t440, t441⟩, A340, H⟩ := H
          replace H : (if t439 = true then (if t441 = true then (some (t438 == t440)) else (some false)) else (some false)) = some r := H
          have A34 := Aside0.mk A340
          clear A340
          by_cases c35 : t439 = true
          ·
           subst c35
           have H1 : (if t441 = true then (some (t438 == t440)) else (some false)) = some r := by rw [if_pos rfl] at H; exact H
           clear H
           have H := H1
           clear H1
           by_cases c36 : t441 = true
           ·
            subst c36
            have H1 : (some (t438 == t440)) = some r := by rw [if_pos rfl] at H; exact H
            clear H
            have H := H1
            clear H1
            obtain rfl := Option.some.inj H
            have hcz37_0 : wc.cell? ⟨gb429, 0, none⟩ = some (.int .i64 t418) := (blk_cell BK429.out 0).trans rfl
            have hcz37_1 : wc.cell? ⟨gb429, 1, none⟩ = some (.slice Ao12 t419.length co12) := (blk_cell BK429.out 1).trans rfl
            have hcz37_2 : wc.cell? ⟨gb429, 2, none⟩ = some (.slice Ao13 t422.length co13) := (blk_cell BK429.out 2).trans rfl
            have hcz37_3 : wc.cell? ⟨gb429, 3, none⟩ = some (.slice Ao14 t425.length co14) := (blk_cell BK429.out 3).trans rfl
            have hfz37_0 := blk_frozen BK429.out 0
            have hfz37_1 := blk_frozen BK429.out 1
            have hfz37_2 := blk_frozen BK429.out 2
            have hfz37_3 := blk_frozen BK429.out 3
            go_wp2_with (first | ((with_reducible refine gate_callee (f := 24) rfl ?_); refine goesL_ (some 72) rfl rfl Try.func24 (by kernel_rfl) rfl #[.agg #[.int .i64 t418, .slice Ao12 t419.length co12, .slice Ao13 t422.length co13, .slice Ao14 t425.length co14], .int .i64 t428] rfl (by (try simp only [List.map_toArray, List.map_cons, List.map_nil]); first | done | rfl | (simp only [List.length_drop, List.length_take]; rfl)) ?_; (with_reducible refine (impl_LastOne.calls kj22 t418 _ _ t419 _ _ t422 _ _ t425 t428 t438 true _ ?side1 ?side2 ?side3 ?side4 ?side5 ?side6 A30.out).mono ?_); (case side1 => exact uD HO_430001); (case side2 => exact (Kd.R_reads' HO_430001.out).2.1); (case side3 => exact uD HO_430002); (case side4 => exact (Kd.R_reads' HO_430002.out).2.1); (case side5 => exact uD HO_430003); (case side6 => exact (Kd.R_reads' HO_430003.out).2.1); rintro e w38 ⟨rfl, hb⟩; refine ⟨_, rfl, ?_⟩; have n0_ := Aside0.mk (Kd.R_below (uR HO_430001) hb); have n1_ := Aside0.mk (Kd.R_below (uR HO_430002) hb); have n2_ := Aside0.mk (Kd.R_below (uR HO_430003) hb); have n3_ := Aside0.mk (blk_below (g := gb429) (o := .cells #[.int .i64 t418, .slice Ao12 t419.length co12, .slice Ao13 t422.length co13, .slice Ao14 t425.length co14] 40 (0, 0)) (uK BK429) hb); have n4_ := Aside0.mk (below_step (by first | exact uB HB | exact uS HB (gC GE429 gN)) hb); clear HO_430001 HO_430002 HO_430003 BK429 HB; have HO_430001 := n0_; have HO_430002 := n1_; have HO_430003 := n2_; have BK429 := n3_; have HB := n4_; clear n0_ n1_ n2_ n3_ n4_; (try clear hb); (try clear hb2); (try clear hk); (try clear hi); have hcz39_0 : w38.cell? ⟨gb429, 0, none⟩ = some (.int .i64 t418) := (blk_cell BK429.out 0).trans rfl; have hcz39_1 : w38.cell? ⟨gb429, 1, none⟩ = some (.slice Ao12 t419.length co12) := (blk_cell BK429.out 1).trans rfl; have hcz39_2 : w38.cell? ⟨gb429, 2, none⟩ = some (.slice Ao13 t422.length co13) := (blk_cell BK429.out 2).trans rfl; have hcz39_3 : w38.cell? ⟨gb429, 3, none⟩ = some (.slice Ao14 t425.length co14) := (blk_cell BK429.out 3).trans rfl; have hfz39_0 := blk_frozen BK429.out 0; have hfz39_1 := blk_frozen BK429.out 1; have hfz39_2 := blk_frozen BK429.out 2; have hfz39_3 := blk_frozen BK429.out 3) | ((with_reducible refine gate_callee (f := 23) rfl ?_); refine goesL_ (some 83) rfl rfl Try.func23 (by kernel_rfl) rfl #[.agg #[.int .i64 t418, .slice Ao12 t419.length co12, .slice Ao13 t422.length co13, .slice Ao14 t425.length co14], .int .i64 (wrap64 (t434 - 1))] rfl (by (try simp only [List.map_toArray, List.map_cons, List.map_nil]); first | done | rfl | (simp only [List.length_drop, List.length_take]; rfl)) ?_; (with_reducible refine (impl_Select1.calls kj22 t418 _ _ t419 _ _ t422 _ _ t425 (wrap64 (t434 - 1)) t440 true _ ?side1 ?side2 ?side3 ?side4 ?side5 ?side6 A34.out).mono ?_); (case side1 => exact uD HO_430001); (case side2 => exact (Kd.R_reads' HO_430001.out).2.1); (case side3 => exact uD HO_430002); (case side4 => exact (Kd.R_reads' HO_430002.out).2.1); (case side5 => exact uD HO_430003); (case side6 => exact (Kd.R_reads' HO_430003.out).2.1); rintro e w40 ⟨rfl, hb⟩; refine ⟨_, rfl, ?_⟩; have n0_ := Aside0.mk (Kd.R_below (uR HO_430001) hb); have n1_ := Aside0.mk (Kd.R_below (uR HO_430002) hb); have n2_ := Aside0.mk (Kd.R_below (uR HO_430003) hb); have n3_ := Aside0.mk (blk_below (g := gb429) (o := .cells #[.int .i64 t418, .slice Ao12 t419.length co12, .slice Ao13 t422.length co13, .slice Ao14 t425.length co14] 40 (0, 0)) (uK BK429) hb); have n4_ := Aside0.mk (below_step (by first | exact uB HB | exact uS HB (gC GE429 gN)) hb); clear HO_430001 HO_430002 HO_430003 BK429 HB; have HO_430001 := n0_; have HO_430002 := n1_; have HO_430003 := n2_; have BK429 := n3_; have HB := n4_; clear n0_ n1_ n2_ n3_ n4_; (try clear hb); (try clear hb2); (try clear hk); (try clear hi)))
            go_ret
            exact ⟨by first | rfl | (simp [errW_none, errW_some] <;> rfl) | (simp [*, errW_none, errW_some] <;> rfl), by first | exact uB HB | exact uS HB (gC GE429 gN)⟩
           ·
            replace c36 := Bool.eq_false_iff.mpr c36
            subst c36
            have H1 : (some false) = some r := by rw [if_neg (show ¬ (false = true) by decide)] at H; exact H
            clear H
            have H := H1
            clear H1
            obtain rfl := Option.some.inj H
            have hcz41_0 : wc.cell? ⟨gb429, 0, none⟩ = some (.int .i64 t418) := (blk_cell BK429.out 0).trans rfl
            have hcz41_1 : wc.cell? ⟨gb429, 1, none⟩ = some (.slice Ao12 t419.length co12) := (blk_cell BK429.out 1).trans rfl
            have hcz41_2 : wc.cell? ⟨gb429, 2, none⟩ = some (.slice Ao13 t422.length co13) := (blk_cell BK429.out 2).trans rfl
            have hcz41_3 : wc.cell? ⟨gb429, 3, none⟩ = some (.slice Ao14 t425.length co14) := (blk_cell BK429.out 3).trans rfl
            have hfz41_0 := blk_frozen BK429.out 0
            have hfz41_1 := blk_frozen BK429.out 1
            have hfz41_2 := blk_frozen BK429.out 2
            have hfz41_3 := blk_frozen BK429.out 3
            go_wp2_with (first | ((with_reducible refine gate_callee (f := 24) rfl ?_); refine goesL_ (some 72) rfl rfl Try.func24 (by kernel_rfl) rfl #[.agg #[.int .i64 t418, .slice Ao12 t419.length co12, .slice Ao13 t422.length co13, .slice Ao14 t425.length co14], .int .i64 t428] rfl (by (try simp only [List.map_toArray, List.map_cons, List.map_nil]); first | done | rfl | (simp only [List.length_drop, List.length_take]; rfl)) ?_; (with_reducible refine (impl_LastOne.calls kj22 t418 _ _ t419 _ _ t422 _ _ t425 t428 t438 true _ ?side1 ?side2 ?side3 ?side4 ?side5 ?side6 A30.out).mono ?_); (case side1 => exact uD HO_430001); (case side2 => exact (Kd.R_reads' HO_430001.out).2.1); (case side3 => exact uD HO_430002); (case side4 => exact (Kd.R_reads' HO_430002.out).2.1); (case side5 => exact uD HO_430003); (case side6 => exact (Kd.R_reads' HO_430003.out).2.1); rintro e w42 ⟨rfl, hb⟩; refine ⟨_, rfl, ?_⟩; have n0_ := Aside0.mk (Kd.R_below (uR HO_430001) hb); have n1_ := Aside0.mk (Kd.R_below (uR HO_430002) hb); have n2_ := Aside0.mk (Kd.R_below (uR HO_430003) hb); have n3_ := Aside0.mk (blk_below (g := gb429) (o := .cells #[.int .i64 t418, .slice Ao12 t419.length co12, .slice Ao13 t422.length co13, .slice Ao14 t425.length co14] 40 (0, 0)) (uK BK429) hb); have n4_ := Aside0.mk (below_step (by first | exact uB HB | exact uS HB (gC GE429 gN)) hb); clear HO_430001 HO_430002 HO_430003 BK429 HB; have HO_430001 := n0_; have HO_430002 := n1_; have HO_430003 := n2_; have BK429 := n3_; have HB := n4_; clear n0_ n1_ n2_ n3_ n4_; (try clear hb); (try clear hb2); (try clear hk); (try clear hi); have hcz43_0 : w42.cell? ⟨gb429, 0, none⟩ = some (.int .i64 t418) := (blk_cell BK429.out 0).trans rfl; have hcz43_1 : w42.cell? ⟨gb429, 1, none⟩ = some (.slice Ao12 t419.length co12) := (blk_cell BK429.out 1).trans rfl; have hcz43_2 : w42.cell? ⟨gb429, 2, none⟩ = some (.slice Ao13 t422.length co13) := (blk_cell BK429.out 2).trans rfl; have hcz43_3 : w42.cell? ⟨gb429, 3, none⟩ = some (.slice Ao14 t425.length co14) := (blk_cell BK429.out 3).trans rfl; have hfz43_0 := blk_frozen BK429.out 0; have hfz43_1 := blk_frozen BK429.out 1; have hfz43_2 := blk_frozen BK429.out 2; have hfz43_3 := blk_frozen BK429.out 3) | ((with_reducible refine gate_callee (f := 23) rfl ?_); refine goesL_ (some 83) rfl rfl Try.func23 (by kernel_rfl) rfl #[.agg #[.int .i64 t418, .slice Ao12 t419.length co12, .slice Ao13 t422.length co13, .slice Ao14 t425.length co14], .int .i64 (wrap64 (t434 - 1))] rfl (by (try simp only [List.map_toArray, List.map_cons, List.map_nil]); first | done | rfl | (simp only [List.length_drop, List.length_take]; rfl)) ?_; (with_reducible refine (impl_Select1.calls kj22 t418 _ _ t419 _ _ t422 _ _ t425 (wrap64 (t434 - 1)) t440 false _ ?side1 ?side2 ?side3 ?side4 ?side5 ?side6 A34.out).mono ?_); (case side1 => exact uD HO_430001); (case side2 => exact (Kd.R_reads' HO_430001.out).2.1); (case side3 => exact uD HO_430002); (case side4 => exact (Kd.R_reads' HO_430002.out).2.1); (case side5 => exact uD HO_430003); (case side6 => exact (Kd.R_reads' HO_430003.out).2.1); rintro e w44 ⟨rfl, hb⟩; refine ⟨_, rfl, ?_⟩; have n0_ := Aside0.mk (Kd.R_below (uR HO_430001) hb); have n1_ := Aside0.mk (Kd.R_below (uR HO_430002) hb); have n2_ := Aside0.mk (Kd.R_below (uR HO_430003) hb); have n3_ := Aside0.mk (blk_below (g := gb429) (o := .cells #[.int .i64 t418, .slice Ao12 t419.length co12, .slice Ao13 t422.length co13, .slice Ao14 t425.length co14] 40 (0, 0)) (uK BK429) hb); have n4_ := Aside0.mk (below_step (by first | exact uB HB | exact uS HB (gC GE429 gN)) hb); clear HO_430001 HO_430002 HO_430003 BK429 HB; have HO_430001 := n0_; have HO_430002 := n1_; have HO_430003 := n2_; have BK429 := n3_; have HB := n4_; clear n0_ n1_ n2_ n3_ n4_; (try clear hb); (try clear hb2); (try clear hk); (try clear hi)))
            go_ret
            exact ⟨by first | rfl | (simp [errW_none, errW_some] <;> rfl) | (simp [*, errW_none, errW_some] <;> rfl), by first | exact uB HB | exact uS HB (gC GE429 gN)⟩
          ·
           replace c35 := Bool.eq_false_iff.mpr c35
           subst c35
           have H1 : (some false) = some r := by rw [if_neg (show ¬ (false = true) by decide)] at H; exact H
           clear H
           have H := H1
           clear H1
           obtain rfl := Option.some.inj H
           have hcz45_0 : wc.cell? ⟨gb429, 0, none⟩ = some (.int .i64 t418) := (blk_cell BK429.out 0).trans rfl
           have hcz45_1 : wc.cell? ⟨gb429, 1, none⟩ = some (.slice Ao12 t419.length co12) := (blk_cell BK429.out 1).trans rfl
           have hcz45_2 : wc.cell? ⟨gb429, 2, none⟩ = some (.slice Ao13 t422.length co13) := (blk_cell BK429.out 2).trans rfl
           have hcz45_3 : wc.cell? ⟨gb429, 3, none⟩ = some (.slice Ao14 t425.length co14) := (blk_cell BK429.out 3).trans rfl
           have hfz45_0 := blk_frozen BK429.out 0
           have hfz45_1 := blk_frozen BK429.out 1
           have hfz45_2 := blk_frozen BK429.out 2
           have hfz45_3 := blk_frozen BK429.out 3
           go_wp2_with (first | ((with_reducible refine gate_callee (f := 24) rfl ?_); refine goesL_ (some 72) rfl rfl Try.func24 (by kernel_rfl) rfl #[.agg #[.int .i64 t418, .slice Ao12 t419.length co12, .slice Ao13 t422.length co13, .slice Ao14 t425.length co14], .int .i64 t428] rfl (by (try simp only [List.map_toArray, List.map_cons, List.map_nil]); first | done | rfl | (simp only [List.length_drop, List.length_take]; rfl)) ?_; (with_reducible refine (impl_LastOne.calls kj22 t418 _ _ t419 _ _ t422 _ _ t425 t428 t438 false _ ?side1 ?side2 ?side3 ?side4 ?side5 ?side6 A30.out).mono ?_); (case side1 => exact uD HO_430001); (case side2 => exact (Kd.R_reads' HO_430001.out).2.1); (case side3 => exact uD HO_430002); (case side4 => exact (Kd.R_reads' HO_430002.out).2.1); (case side5 => exact uD HO_430003); (case side6 => exact (Kd.R_reads' HO_430003.out).2.1); rintro e w46 ⟨rfl, hb⟩; refine ⟨_, rfl, ?_⟩; have n0_ := Aside0.mk (Kd.R_below (uR HO_430001) hb); have n1_ := Aside0.mk (Kd.R_below (uR HO_430002) hb); have n2_ := Aside0.mk (Kd.R_below (uR HO_430003) hb); have n3_ := Aside0.mk (blk_below (g := gb429) (o := .cells #[.int .i64 t418, .slice Ao12 t419.length co12, .slice Ao13 t422.length co13, .slice Ao14 t425.length co14] 40 (0, 0)) (uK BK429) hb); have n4_ := Aside0.mk (below_step (by first | exact uB HB | exact uS HB (gC GE429 gN)) hb); clear HO_430001 HO_430002 HO_430003 BK429 HB; have HO_430001 := n0_; have HO_430002 := n1_; have HO_430003 := n2_; have BK429 := n3_; have HB := n4_; clear n0_ n1_ n2_ n3_ n4_; (try clear hb); (try clear hb2); (try clear hk); (try clear hi); have hcz47_0 : w46.cell? ⟨gb429, 0, none⟩ = some (.int .i64 t418) := (blk_cell BK429.out 0).trans rfl; have hcz47_1 : w46.cell? ⟨gb429, 1, none⟩ = some (.slice Ao12 t419.length co12) := (blk_cell BK429.out 1).trans rfl; have hcz47_2 : w46.cell? ⟨gb429, 2, none⟩ = some (.slice Ao13 t422.length co13) := (blk_cell BK429.out 2).trans rfl; have hcz47_3 : w46.cell? ⟨gb429, 3, none⟩ = some (.slice Ao14 t425.length co14) := (blk_cell BK429.out 3).trans rfl; have hfz47_0 := blk_frozen BK429.out 0; have hfz47_1 := blk_frozen BK429.out 1; have hfz47_2 := blk_frozen BK429.out 2; have hfz47_3 := blk_frozen BK429.out 3) | ((with_reducible refine gate_callee (f := 23) rfl ?_); refine goesL_ (some 83) rfl rfl Try.func23 (by kernel_rfl) rfl #[.agg #[.int .i64 t418, .slice Ao12 t419.length co12, .slice Ao13 t422.length co13, .slice Ao14 t425.length co14], .int .i64 (wrap64 (t434 - 1))] rfl (by (try simp only [List.map_toArray, List.map_cons, List.map_nil]); first | done | rfl | (simp only [List.length_drop, List.length_take]; rfl)) ?_; (with_reducible refine (impl_Select1.calls kj22 t418 _ _ t419 _ _ t422 _ _ t425 (wrap64 (t434 - 1)) t440 t441 _ ?side1 ?side2 ?side3 ?side4 ?side5 ?side6 A34.out).mono ?_); (case side1 => exact uD HO_430001); (case side2 => exact (Kd.R_reads' HO_430001.out).2.1); (case side3 => exact uD HO_430002); (case side4 => exact (Kd.R_reads' HO_430002.out).2.1); (case side5 => exact uD HO_430003); (case side6 => exact (Kd.R_reads' HO_430003.out).2.1); rintro e w48 ⟨rfl, hb⟩; refine ⟨_, rfl, ?_⟩; have n0_ := Aside0.mk (Kd.R_below (uR HO_430001) hb); have n1_ := Aside0.mk (Kd.R_below (uR HO_430002) hb); have n2_ := Aside0.mk (Kd.R_below (uR HO_430003) hb); have n3_ := Aside0.mk (blk_below (g := gb429) (o := .cells #[.int .i64 t418, .slice Ao12 t419.length co12, .slice Ao13 t422.length co13, .slice Ao14 t425.length co14] 40 (0, 0)) (uK BK429) hb); have n4_ := Aside0.mk (below_step (by first | exact uB HB | exact uS HB (gC GE429 gN)) hb); clear HO_430001 HO_430002 HO_430003 BK429 HB; have HO_430001 := n0_; have HO_430002 := n1_; have HO_430003 := n2_; have BK429 := n3_; have HB := n4_; clear n0_ n1_ n2_ n3_ n4_; (try clear hb); (try clear hb2); (try clear hk); (try clear hi)))
           go_ret
           exact ⟨by first | rfl | (simp [errW_none, errW_some] <;> rfl) | (simp [*, errW_none, errW_some] <;> rfl), by first | exact uB HB | exact uS HB (gC GE429 gN)⟩
     ·
      replace c21 := Bool.eq_false_iff.mpr c21
      subst c21
      have H1 : (some (!t431)) = some r := by rw [if_neg (show ¬ (false = true) by decide)] at H; exact H
      clear H
      have H := H1
      clear H1
      obtain rfl := Option.some.inj H
      have hcz49_0 : wc.cell? ⟨gb429, 0, none⟩ = some (.int .i64 t418) := (blk_cell BK429.out 0).trans rfl
      have hcz49_1 : wc.cell? ⟨gb429, 1, none⟩ = some (.slice Ao12 t419.length co12) := (blk_cell BK429.out 1).trans rfl
      have hcz49_2 : wc.cell? ⟨gb429, 2, none⟩ = some (.slice Ao13 t422.length co13) := (blk_cell BK429.out 2).trans rfl
      have hcz49_3 : wc.cell? ⟨gb429, 3, none⟩ = some (.slice Ao14 t425.length co14) := (blk_cell BK429.out 3).trans rfl
      have hfz49_0 := blk_frozen BK429.out 0
      have hfz49_1 := blk_frozen BK429.out 1
      have hfz49_2 := blk_frozen BK429.out 2
      have hfz49_3 := blk_frozen BK429.out 3
      go_wp2_with (first | ((with_reducible refine gate_callee (f := 22) rfl ?_); refine goesL_ (some 48) rfl rfl Try.func22 (by kernel_rfl) rfl #[.agg #[.int .i64 t418, .slice Ao12 t419.length co12, .slice Ao13 t422.length co13, .slice Ao14 t425.length co14], .int .i64 t428] rfl (by (try simp only [List.map_toArray, List.map_cons, List.map_nil]); first | done | rfl | (simp only [List.length_drop, List.length_take]; rfl)) ?_; (with_reducible refine (impl_Rank1.calls kj7 t418 _ _ t419 _ _ t422 _ _ t425 t428 t434 false _ ?side1 ?side2 ?side3 ?side4 ?side5 ?side6 A20.out).mono ?_); (case side1 => exact uD HO_430001); (case side2 => exact (Kd.R_reads' HO_430001.out).2.1); (case side3 => exact uD HO_430002); (case side4 => exact (Kd.R_reads' HO_430002.out).2.1); (case side5 => exact uD HO_430003); (case side6 => exact (Kd.R_reads' HO_430003.out).2.1); rintro e w50 ⟨rfl, hb⟩; refine ⟨_, rfl, ?_⟩; have n0_ := Aside0.mk (Kd.R_below (uR HO_430001) hb); have n1_ := Aside0.mk (Kd.R_below (uR HO_430002) hb); have n2_ := Aside0.mk (Kd.R_below (uR HO_430003) hb); have n3_ := Aside0.mk (blk_below (g := gb429) (o := .cells #[.int .i64 t418, .slice Ao12 t419.length co12, .slice Ao13 t422.length co13, .slice Ao14 t425.length co14] 40 (0, 0)) (uK BK429) hb); have n4_ := Aside0.mk (below_step (by first | exact uB HB | exact uS HB (gC GE429 gN)) hb); clear HO_430001 HO_430002 HO_430003 BK429 HB; have HO_430001 := n0_; have HO_430002 := n1_; have HO_430003 := n2_; have BK429 := n3_; have HB := n4_; clear n0_ n1_ n2_ n3_ n4_; (try clear hb); (try clear hb2); (try clear hk); (try clear hi)))
      go_ret
      exact ⟨by first | rfl | (simp [errW_none, errW_some] <;> rfl) | (simp [*, errW_none, errW_some] <;> rfl), by first | exact uB HB | exact uS HB (gC GE429 gN)⟩

/-- THE ONE PURE STATEMENT of laws_FnNeighboursOfRank: yours. -/
def laws_FnNeighboursOfRank.Pure : Prop := ∀ (l0 : List Int) (l1 : List Int), l0.length ≤ maxLen → l0.length * 1 ≤ 140737488351232 → (∀ x ∈ l0, (Lit.int .u8 x).wf = true) → l1.length ≤ maxLen → l1.length * 1 ≤ 140737488351232 → (∀ x ∈ l1, (Lit.int .u8 x).wf = true) → ∃ k, laws_FnNeighboursOfRank.f k l0 l1 = some true
theorem laws_FnNeighboursOfRank.walk (P : laws_FnNeighboursOfRank.Pure) (a0 : Option Addr) (len0 cap0 : Nat) (z0 : List Int) (a1 : Option Addr) (len1 cap1 : Nat) (z1 : List Int) (w : World) (w0 : (a0 = none ∧ len0 = 0 ∧ cap0 = 0 ∧ z0 = []) ∨ ∃ x, a0 = some x ∧ len0 ≤ cap0 ∧ cap0 ≤ maxLen ∧ z0.length = cap0 ∧ (∀ i, i < z0.length → w.cell? (x.add i) = some (.int .u8 (z0.getD i 0))) ∧ ∀ n ∈ z0, (Lit.int .u8 n).wf = true) (y0 : len0 * 1 ≤ 140737488351232) (w1 : (a1 = none ∧ len1 = 0 ∧ cap1 = 0 ∧ z1 = []) ∨ ∃ x, a1 = some x ∧ len1 ≤ cap1 ∧ cap1 ≤ maxLen ∧ z1.length = cap1 ∧ (∀ i, i < z1.length → w.cell? (x.add i) = some (.int .u8 (z1.getD i 0))) ∧ ∀ n ∈ z1, (Lit.int .u8 n).wf = true) (y1 : len1 * 1 ≤ 140737488351232) :
  Calls Try.prog 5 #[.slice a0 len0 cap0, .slice a1 len1 cap1] w fun e w' => e = .returned (.bool true) ∧ Below w.heap.size w w' := by
 obtain ⟨l0, rfl, hr0, hm0, hw0, hc0⟩ := ReadsInt.ofRowC w0
 obtain ⟨l1, rfl, hr1, hm1, hw1, hc1⟩ := ReadsInt.ofRowC w1
 obtain ⟨k, h⟩ := P l0 l1 hm0 y0 hw0 hm1 y1 hw1
 refine (laws_FnNeighboursOfRank.calls k _ _ l0 _ _ l1 true w (Kd.C_of_reads (d := (0 : Int)) (h1 := fun _ => rfl) hr0) hc0 (Kd.C_of_reads (d := (0 : Int)) (h1 := fun _ => rfl) hr1) hc1 h).mono ?_
 rintro e w' ⟨rfl, hd⟩
 exact ⟨rfl, hd⟩

end Go.Proofs.Ytdjpegkogfeofaa.PFnNeighboursOfRank
