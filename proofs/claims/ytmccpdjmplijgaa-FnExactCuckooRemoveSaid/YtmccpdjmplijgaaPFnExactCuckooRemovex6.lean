-- made by wip/tools/myprint.py over the kit's print, for this claim
import Derived.Test.YtmccpdjmplijgaaPFnExactCuckooRemovex0
import Derived.Test.YtmccpdjmplijgaaPFnExactCuckooRemovex2
import Derived.Test.YtmccpdjmplijgaaPFnExactCuckooRemovex4
import Derived.Test.YtmccpdjmplijgaaPFnExactCuckooRemovex5
namespace Go.Proofs.Ytmccpdjmplijgaa.PFnExactCuckooRemove
open Go.RowKit Go.Proofs.YtmccpdjmplijgaaW.PrintWords Go.Proofs.YtmccpdjmplijgaaW.PrintLast Go.Proofs.YtmccpdjmplijgaaW.PrintMore
attribute [local go_sem] max2_int min2_int max_two min_two max_three min_three max_four min_four   -- for this text's walks alone
set_option linter.unusedVariables false
set_option linter.unusedSimpArgs false

/-! ### spec_CuckooRemove: function 26 -/
mutual
def spec_CuckooRemove.j0 : Nat → ByteArray → Bool → Int → List ByteArray → List ByteArray → Option (Int × List ByteArray × List ByteArray × Bool)
 | 0, _, _, _, _, _ => none
 | k + 1, x1, x24, x233000, x233001, x233002 => if x24 = true then (some (0, ([] : List ByteArray), ([] : List ByteArray), false)) else ((spec_l1OwnS.f x233001).bind fun t237 => (spec_CuckooRemove.l0 k x1 x233001 (x233001.length : Int) 0 x233000 x233001 x233002 x233000 t237))
def spec_CuckooRemove.l0 : Nat → ByteArray → List ByteArray → Int → Int → Int → List ByteArray → List ByteArray → Int → List ByteArray → Option (Int × List ByteArray × List ByteArray × Bool)
 | 0, _, _, _, _, _, _, _, _, _ => none
 | k + 1, x1, x33, x34, x35, x233000, x233001, x233002, x241000, x241001 => if x35 < x34 then (if 0 ≤ x35 then (if x35 < (x33.length : Int) then (if (rdOf ByteArray.empty x33 x35).toList = x1.toList then (if x35 < (x241001.length : Int) then (spec_CuckooRemove.l0 k x1 x33 x34 (wrap64 (x35 + 1)) x233000 x233001 x233002 x241000 (x241001.set (x35 : Int).toNat (⟨#[]⟩ : ByteArray))) else (none)) else (spec_CuckooRemove.l0 k x1 x33 x34 (wrap64 (x35 + 1)) x233000 x233001 x233002 x241000 x241001)) else (none)) else (none)) else (spec_CuckooRemove.l1 k x1 x233002 (x233002.length : Int) 0 x241000 x241001 ([] : List ByteArray))
def spec_CuckooRemove.l1 : Nat → ByteArray → List ByteArray → Int → Int → Int → List ByteArray → List ByteArray → Option (Int × List ByteArray × List ByteArray × Bool)
 | 0, _, _, _, _, _, _, _ => none
 | k + 1, x1, x49, x50, x51, x241000, x241001, x241002 => if x51 < x50 then (if 0 ≤ x51 then (if x51 < (x49.length : Int) then (if (rdOf ByteArray.empty x49 x51).toList = x1.toList then (spec_CuckooRemove.l1 k x1 x49 x50 (wrap64 (x51 + 1)) x241000 x241001 x241002) else (if x241002.length < 8796093022208 then (spec_CuckooRemove.l1 k x1 x49 x50 (wrap64 (x51 + 1)) x241000 x241001 (x241002 ++ [rdOf ByteArray.empty x49 x51])) else (none))) else (none)) else (none)) else (some (x241000, x241001, x241002, true))
end
def spec_CuckooRemove.f (k : Nat) (a0_0 : Int) (l0_1 : List ByteArray) (l0_2 : List ByteArray) (a1 : ByteArray) : Option (Int × List ByteArray × List ByteArray × Bool) := (spec_cuGood.f k a0_0 l0_1 l0_2).bind fun t234 => (if t234 = true then ((spec_IsKey.f k a1).bind fun t235 => (if t235 = true then ((spec_cuFind.f k a0_0 l0_1 l0_2 a1).bind fun t236 => (spec_CuckooRemove.j0 k a1 (decide (t236 < 0)) a0_0 l0_1 l0_2)) else (spec_CuckooRemove.j0 k a1 true a0_0 l0_1 l0_2))) else (spec_CuckooRemove.j0 k a1 true a0_0 l0_1 l0_2))
theorem spec_CuckooRemove.mono_l : ∀ k, (∀ y0 y1 y2 y3 y4, LeO (spec_CuckooRemove.j0 k y0 y1 y2 y3 y4) (spec_CuckooRemove.j0 (k + 1) y0 y1 y2 y3 y4)) ∧ (∀ y0 y1 y2 y3 y4 y5 y6 y7 y8, LeO (spec_CuckooRemove.l0 k y0 y1 y2 y3 y4 y5 y6 y7 y8) (spec_CuckooRemove.l0 (k + 1) y0 y1 y2 y3 y4 y5 y6 y7 y8)) ∧ (∀ y0 y1 y2 y3 y4 y5 y6, LeO (spec_CuckooRemove.l1 k y0 y1 y2 y3 y4 y5 y6) (spec_CuckooRemove.l1 (k + 1) y0 y1 y2 y3 y4 y5 y6))
 | 0 => ⟨fun _ _ _ _ _ r h => by simp [spec_CuckooRemove.j0] at h, fun _ _ _ _ _ _ _ _ _ r h => by simp [spec_CuckooRemove.l0] at h, fun _ _ _ _ _ _ _ r h => by simp [spec_CuckooRemove.l1] at h⟩
 | k + 1 => by
  obtain ⟨ih0, ih1, ih2⟩ := spec_CuckooRemove.mono_l k
  refine ⟨?_, ?_, ?_⟩
  ·
   intro y0 y1 y2 y3 y4
   unfold spec_CuckooRemove.j0
   repeat' first
   | (with_reducible exact ih0 _ _ _ _ _)
   | (with_reducible exact ih1 _ _ _ _ _ _ _ _ _)
   | (with_reducible exact ih2 _ _ _ _ _ _ _)
   | (with_reducible exact spec_IsKey.mono _ _)
   | (with_reducible exact spec_cuFind.mono _ _ _ _ _)
   | (with_reducible exact spec_cuGood.mono _ _ _ _)
   | (with_reducible exact LeO.refl _)
   | (with_reducible exact LeO.none _)
   | (with_reducible refine LeO.ite ?_ ?_)
   | (with_reducible refine LeO.bind ?_ (fun _ => ?_))
   | exact ih0 _ _ _ _ _
   | exact ih1 _ _ _ _ _ _ _ _ _
   | exact ih2 _ _ _ _ _ _ _
   | exact spec_IsKey.mono _ _
   | exact spec_cuFind.mono _ _ _ _ _
   | exact spec_cuGood.mono _ _ _ _
   | exact LeO.none _
   | refine LeO.ite ?_ ?_
   | refine LeO.bind ?_ (fun _ => ?_)
  ·
   intro y0 y1 y2 y3 y4 y5 y6 y7 y8
   unfold spec_CuckooRemove.l0
   repeat' first
   | (with_reducible exact ih0 _ _ _ _ _)
   | (with_reducible exact ih1 _ _ _ _ _ _ _ _ _)
   | (with_reducible exact ih2 _ _ _ _ _ _ _)
   | (with_reducible exact spec_IsKey.mono _ _)
   | (with_reducible exact spec_cuFind.mono _ _ _ _ _)
   | (with_reducible exact spec_cuGood.mono _ _ _ _)
   | (with_reducible exact LeO.refl _)
   | (with_reducible exact LeO.none _)
   | (with_reducible refine LeO.ite ?_ ?_)
   | (with_reducible refine LeO.bind ?_ (fun _ => ?_))
   | exact ih0 _ _ _ _ _
   | exact ih1 _ _ _ _ _ _ _ _ _
   | exact ih2 _ _ _ _ _ _ _
   | exact spec_IsKey.mono _ _
   | exact spec_cuFind.mono _ _ _ _ _
   | exact spec_cuGood.mono _ _ _ _
   | exact LeO.none _
   | refine LeO.ite ?_ ?_
   | refine LeO.bind ?_ (fun _ => ?_)
  ·
   intro y0 y1 y2 y3 y4 y5 y6
   unfold spec_CuckooRemove.l1
   repeat' first
   | (with_reducible exact ih0 _ _ _ _ _)
   | (with_reducible exact ih1 _ _ _ _ _ _ _ _ _)
   | (with_reducible exact ih2 _ _ _ _ _ _ _)
   | (with_reducible exact spec_IsKey.mono _ _)
   | (with_reducible exact spec_cuFind.mono _ _ _ _ _)
   | (with_reducible exact spec_cuGood.mono _ _ _ _)
   | (with_reducible exact LeO.refl _)
   | (with_reducible exact LeO.none _)
   | (with_reducible refine LeO.ite ?_ ?_)
   | (with_reducible refine LeO.bind ?_ (fun _ => ?_))
   | exact ih0 _ _ _ _ _
   | exact ih1 _ _ _ _ _ _ _ _ _
   | exact ih2 _ _ _ _ _ _ _
   | exact spec_IsKey.mono _ _
   | exact spec_cuFind.mono _ _ _ _ _
   | exact spec_cuGood.mono _ _ _ _
   | exact LeO.none _
   | refine LeO.ite ?_ ?_
   | refine LeO.bind ?_ (fun _ => ?_)
theorem spec_CuckooRemove.mono : ∀ a0 a1 a2 a3 k, LeO (spec_CuckooRemove.f k a0 a1 a2 a3) (spec_CuckooRemove.f (k + 1) a0 a1 a2 a3) := by
 intro a0 a1 a2 a3 k
 obtain ⟨ih0, ih1, ih2⟩ := spec_CuckooRemove.mono_l k
 unfold spec_CuckooRemove.f
 repeat' first
   | (with_reducible exact ih0 _ _ _ _ _)
   | (with_reducible exact ih1 _ _ _ _ _ _ _ _ _)
   | (with_reducible exact ih2 _ _ _ _ _ _ _)
   | (with_reducible exact spec_IsKey.mono _ _)
   | (with_reducible exact spec_cuFind.mono _ _ _ _ _)
   | (with_reducible exact spec_cuGood.mono _ _ _ _)
   | (with_reducible exact LeO.refl _)
   | (with_reducible exact LeO.none _)
   | (with_reducible refine LeO.ite ?_ ?_)
   | (with_reducible refine LeO.bind ?_ (fun _ => ?_))
   | exact ih0 _ _ _ _ _
   | exact ih1 _ _ _ _ _ _ _ _ _
   | exact ih2 _ _ _ _ _ _ _
   | exact spec_IsKey.mono _ _
   | exact spec_cuFind.mono _ _ _ _ _
   | exact spec_cuGood.mono _ _ _ _
   | exact LeO.none _
   | refine LeO.ite ?_ ?_
   | refine LeO.bind ?_ (fun _ => ?_)
def spec_CuckooRemove.T3 : Bool × List (List Nat × List Nat) := (true, [([], []), ([0], [0]), ([], []), ([2], [2]), ([3], [3]), ([1, 4], [1, 4]), ([], []), ([6, 5, 4, 0, 1, 2, 3, 4, 5, 6], [5, 6])])
def spec_CuckooRemove.B3 : List Nat := [0, 1, 0, 4, 12, 31, 0, 127]
theorem spec_CuckooRemove.tab3 : rtab .any (opsOf Try.f26 3) = spec_CuckooRemove.T3 := by kernel_rfl
theorem spec_CuckooRemove.bits3 : waitsOk spec_CuckooRemove.T3.2 spec_CuckooRemove.B3 = true := by kernel_rfl
set_option maxHeartbeats 8000000 in
set_option maxRecDepth 100000 in
theorem spec_CuckooRemove.calls (k : Nat) (a0_0 : Int) (A0_1 : Option Addr) (c0_1 : Nat) (l0_1 : List ByteArray) (A0_2 : Option Addr) (c0_2 : Nat) (l0_2 : List ByteArray) (a1 : ByteArray) (r1 : Int) (r2 : List ByteArray) (r3 : List ByteArray) (r4 : Bool) (w : World) (hr0_1 : Kd.C Kd.string w A0_1 l0_1.length l0_1) (hc0_1 : l0_1.length ≤ c0_1) (hr0_2 : Kd.C Kd.string w A0_2 l0_2.length l0_2) (hc0_2 : l0_2.length ≤ c0_2) (h : spec_CuckooRemove.f k a0_0 l0_1 l0_2 a1 = some (r1, r2, r3, r4)) :
  Calls Try.prog 26 #[.agg #[.int .i64 a0_0, .slice A0_1 l0_1.length c0_1, .slice A0_2 l0_2.length c0_2], .string a1] w fun e w' => ∃ v1_ v2_ : Value, e = .returned (.tuple #[.agg #[.int .i64 r1, v1_, v2_], .bool r4]) ∧ Kd.R Kd.string 9 w' w.heap.size (fun k_ => some k_ ≠ (v2_ : Value).ownBlock) v1_ r2 ∧ Kd.R Kd.string 9 w' w.heap.size (fun k_ => some k_ ≠ (v1_ : Value).ownBlock) v2_ r3 ∧ Below w.heap.size w w' := by
 have hu27 := Try.underlying27
 have HR0_1 := Aside0.mk hr0_1
 have HC0_1 := Aside0.mk hc0_1
 clear hr0_1 hc0_1
 have HR0_2 := Aside0.mk hr0_2
 have HC0_2 := Aside0.mk hc0_2
 clear hr0_2 hc0_2
 have HB := Aside0.mk (Below.refl w.heap.size w)
 have H : ((spec_cuGood.f k a0_0 l0_1 l0_2).bind fun t234 => (if t234 = true then ((spec_IsKey.f k a1).bind fun t235 => (if t235 = true then ((spec_cuFind.f k a0_0 l0_1 l0_2 a1).bind fun t236 => (spec_CuckooRemove.j0 k a1 (decide (t236 < 0)) a0_0 l0_1 l0_2)) else (spec_CuckooRemove.j0 k a1 true a0_0 l0_1 l0_2))) else (spec_CuckooRemove.j0 k a1 true a0_0 l0_1 l0_2))) = some (r1, r2, r3, r4) := h
 clear h
 have HC3 := Aside0.mk H
 clear H
 go_enter Try.func26, Try.ntmps26
 go_upto_region 1 with (first | ((with_reducible refine gate_dst (N := 2) rfl ?_); refine box_event ?hg (N := 2) ?hd (cs := #[.int .i64 a0_0, .slice A0_1 l0_1.length c0_1, .slice A0_2 l0_2.length c0_2]) (t := 27) ?hr ?_; (case hd => rfl); (case hg => rfl); (case hr => first | (go_simp; done) | (go_simp; rfl)); intro gb232 hg w4 hbox hb; have n0_ := Aside0.mk (below_step (uB HB) hb); have n1_ := Aside0.mk (hbox); have n2_ := Aside0.mk ((by rw [hg]; exact (below_size (uB HB)) : w.heap.size ≤ gb232)); have n3_ := Aside0.mk ((by rw [hg]; exact (below_size (uB HB)) : w.heap.size ≤ gb232)); clear HB; have HB := n0_; have BK232 := n1_; have GW232 := n2_; have GE232 := n3_; clear n0_ n1_ n2_ n3_; clear hb hbox hg) | ((with_reducible refine gate_dst (N := 4) rfl ?_); refine box_event ?hg (N := 4) ?hd (cs := #[.int .i64 0, .slice none 0 0, .slice none 0 0]) (t := 27) ?hr ?_; (case hd => rfl); (case hg => rfl); (case hr => first | (go_simp; done) | (go_simp; rfl)); intro gb233 hg w5 hbox hb; have n0_ := Aside0.mk (blk_below (g := gb232) (o := .cells #[.int .i64 a0_0, .slice A0_1 l0_1.length c0_1, .slice A0_2 l0_2.length c0_2] 27 (0, 0)) (uK BK232) hb); have n1_ := Aside0.mk (below_step (by first | exact uB HB | exact uS HB (gC GE232 gN)) hb); have n2_ := Aside0.mk (hbox); have n3_ := Aside0.mk ((by rw [hg]; exact (below_size (by first | exact uB HB | exact uS HB (gC GE232 gN))) : w.heap.size ≤ gb233)); have n4_ := Aside0.mk ((by rw [hg]; exact (below_size (by first | exact uB HB | exact uS HB (gC GE232 gN))) : w.heap.size ≤ gb233)); have n5_ := Aside0.mk ((by rw [hg]; exact Nat.ne_of_lt (blk_lt (g := gb232) (o := .cells #[.int .i64 a0_0, .slice A0_1 l0_1.length c0_1, .slice A0_2 l0_2.length c0_2] 27 (0, 0)) (uK BK232)) : gb232 ≠ gb233)); have n6_ := Aside0.mk ((by rw [hg]; exact Nat.ne_of_gt (blk_lt (g := gb232) (o := .cells #[.int .i64 a0_0, .slice A0_1 l0_1.length c0_1, .slice A0_2 l0_2.length c0_2] 27 (0, 0)) (uK BK232)) : gb233 ≠ gb232)); clear BK232 HB; have BK232 := n0_; have HB := n1_; have BK233 := n2_; have GW233 := n3_; have GE233 := n4_; have NB232_233 := n5_; have NB233_232 := n6_; clear n0_ n1_ n2_ n3_ n4_ n5_ n6_; clear hb hbox hg))
 (try simp only [Act.put, List.setIfInBounds_toArray, List.set_cons_zero, List.set_cons_succ])
 go_cut [24] (fun v24 wc => ∃ (kq : Nat) (x24_2 : Bool), v24 = .bool x24_2 ∧ Aside0 (spec_CuckooRemove.j0 kq a1 x24_2 a0_0 l0_1 l0_2 = some (r1, r2, r3, r4)) ∧ Aside0 (kq ≤ k) ∧ Aside0 (wc.heap[gb232]? = some (.cells #[.int .i64 a0_0, (.slice A0_1 l0_1.length c0_1), (.slice A0_2 l0_2.length c0_2)] 27 (0, 0))) ∧ Aside0 (wc.heap[gb233]? = some (.cells #[.int .i64 0, (.slice none 0 0), (.slice none 0 0)] 27 (0, 0))) ∧ Aside0 (Below w.heap.size w wc))
 case first =>
  have H := HC3.out
  clear HC3
  replace H := Option.bind_eq_some_iff.mp H
  obtain ⟨t234, A60, H⟩ := H
  replace H : (if t234 = true then ((spec_IsKey.f k a1).bind fun t235 => (if t235 = true then ((spec_cuFind.f k a0_0 l0_1 l0_2 a1).bind fun t236 => (spec_CuckooRemove.j0 k a1 (decide (t236 < 0)) a0_0 l0_1 l0_2)) else (spec_CuckooRemove.j0 k a1 true a0_0 l0_1 l0_2))) else (spec_CuckooRemove.j0 k a1 true a0_0 l0_1 l0_2)) = some (r1, r2, r3, r4) := H
  have A6 := Aside0.mk A60
  clear A60
  by_cases c7 : t234 = true
  ·
   subst c7
   have H1 : ((spec_IsKey.f k a1).bind fun t235 => (if t235 = true then ((spec_cuFind.f k a0_0 l0_1 l0_2 a1).bind fun t236 => (spec_CuckooRemove.j0 k a1 (decide (t236 < 0)) a0_0 l0_1 l0_2)) else (spec_CuckooRemove.j0 k a1 true a0_0 l0_1 l0_2))) = some (r1, r2, r3, r4) := by rw [if_pos rfl] at H; exact H
   clear H
   have H := H1
   clear H1
   replace H := Option.bind_eq_some_iff.mp H
   obtain ⟨t235, A80, H⟩ := H
   replace H : (if t235 = true then ((spec_cuFind.f k a0_0 l0_1 l0_2 a1).bind fun t236 => (spec_CuckooRemove.j0 k a1 (decide (t236 < 0)) a0_0 l0_1 l0_2)) else (spec_CuckooRemove.j0 k a1 true a0_0 l0_1 l0_2)) = some (r1, r2, r3, r4) := H
   have A8 := Aside0.mk A80
   clear A80
   by_cases c9 : t235 = true
   ·
    subst c9
    have H1 : ((spec_cuFind.f k a0_0 l0_1 l0_2 a1).bind fun t236 => (spec_CuckooRemove.j0 k a1 (decide (t236 < 0)) a0_0 l0_1 l0_2)) = some (r1, r2, r3, r4) := by rw [if_pos rfl] at H; exact H
    clear H
    have H := H1
    clear H1
    replace H := Option.bind_eq_some_iff.mp H
    obtain ⟨t236, A100, H⟩ := H
    replace H : (spec_CuckooRemove.j0 k a1 (decide (t236 < 0)) a0_0 l0_1 l0_2) = some (r1, r2, r3, r4) := H
    have A10 := Aside0.mk A100
    clear A100
    have H' := Aside0.mk H
    clear H
    have hnb11 := NB232_233.out
    have hnc11 := NB233_232.out
    have hcz12_0 : w5.cell? ⟨gb232, 0, none⟩ = some (.int .i64 a0_0) := (blk_cell BK232.out 0).trans rfl
    have hcz12_1 : w5.cell? ⟨gb232, 1, none⟩ = some (.slice A0_1 l0_1.length c0_1) := (blk_cell BK232.out 1).trans rfl
    have hcz12_2 : w5.cell? ⟨gb232, 2, none⟩ = some (.slice A0_2 l0_2.length c0_2) := (blk_cell BK232.out 2).trans rfl
    have hfz12_0 := blk_frozen BK232.out 0
    have hfz12_1 := blk_frozen BK232.out 1
    have hfz12_2 := blk_frozen BK232.out 2
    go_wp2_with (first | ((with_reducible refine gate_callee (f := 34) rfl ?_); refine goesL_ (some 12) rfl rfl Try.func34 (by kernel_rfl) rfl #[.agg #[.int .i64 a0_0, .slice A0_1 l0_1.length c0_1, .slice A0_2 l0_2.length c0_2]] rfl (by (try simp only [List.map_toArray, List.map_cons, List.map_nil]); first | done | rfl | (simp only [List.length_drop, List.length_take]; rfl)) ?_; (with_reducible refine (spec_cuGood.calls k a0_0 _ _ l0_1 _ _ l0_2 true _ ?side1 ?side2 ?side3 ?side4 A6.out).mono ?_); (case side1 => exact uC HR0_1 HB); (case side2 => exact HC0_1.out); (case side3 => exact uC HR0_2 HB); (case side4 => exact HC0_2.out); rintro e w13 ⟨rfl, hb⟩; refine ⟨_, rfl, ?_⟩; have n0_ := Aside0.mk (blk_below (g := gb232) (o := .cells #[.int .i64 a0_0, .slice A0_1 l0_1.length c0_1, .slice A0_2 l0_2.length c0_2] 27 (0, 0)) (uK BK232) hb); have n1_ := Aside0.mk (blk_below (g := gb233) (o := .cells #[.int .i64 0, .slice none 0 0, .slice none 0 0] 27 (0, 0)) (uK BK233) hb); have n2_ := Aside0.mk (below_step (by first | exact uB HB | exact uS HB (gC GE232 (gC GE233 gN))) hb); clear BK232 BK233 HB; have BK232 := n0_; have BK233 := n1_; have HB := n2_; clear n0_ n1_ n2_; (try clear hb); (try clear hb2); (try clear hk); (try clear hi)) | (go_at_call 42; (with_reducible refine (spec_IsKey.calls k a1 true _ A8.out).mono ?_); rintro e w' ⟨rfl, ⟨nd, rfl⟩⟩; have hcz14_0 : w13.cell? ⟨gb232, 0, none⟩ = some (.int .i64 a0_0) := (blk_cell BK232.out 0).trans rfl; have hcz14_1 : w13.cell? ⟨gb232, 1, none⟩ = some (.slice A0_1 l0_1.length c0_1) := (blk_cell BK232.out 1).trans rfl; have hcz14_2 : w13.cell? ⟨gb232, 2, none⟩ = some (.slice A0_2 l0_2.length c0_2) := (blk_cell BK232.out 2).trans rfl; have hfz14_0 := blk_frozen BK232.out 0; have hfz14_1 := blk_frozen BK232.out 1; have hfz14_2 := blk_frozen BK232.out 2) | (go_at_call 43; (with_reducible refine (spec_cuFind.calls k a0_0 _ _ l0_1 _ _ l0_2 a1 t236 _ ?side1 ?side2 ?side3 ?side4 A10.out).mono ?_); (case side1 => repeat (first | exact (Kd.C_below HR0_1.out (by first | exact uB HB | exact uS HB (gC GE232 (gC GE233 gN)))) | (with_reducible refine Kd.C_alloc ?_ _) | (with_reducible refine Kd.C_drewN ?_ _) | (with_reducible refine Kd.C_drew ?_))); (case side2 => exact HC0_1.out); (case side3 => repeat (first | exact (Kd.C_below HR0_2.out (by first | exact uB HB | exact uS HB (gC GE232 (gC GE233 gN)))) | (with_reducible refine Kd.C_alloc ?_ _) | (with_reducible refine Kd.C_drewN ?_ _) | (with_reducible refine Kd.C_drew ?_))); (case side4 => exact HC0_2.out); rintro e w15 ⟨rfl, hb⟩; have n0_ := Aside0.mk (blk_below (g := gb232) (o := .cells #[.int .i64 a0_0, .slice A0_1 l0_1.length c0_1, .slice A0_2 l0_2.length c0_2] 27 (0, 0)) (uK BK232) hb); have n1_ := Aside0.mk (blk_below (g := gb233) (o := .cells #[.int .i64 0, .slice none 0 0, .slice none 0 0] 27 (0, 0)) (uK BK233) hb); have n2_ := Aside0.mk (below_step (by first | exact uB HB | exact uS HB (gC GE232 (gC GE233 gN))) hb); clear BK232 BK233 HB; have BK232 := n0_; have BK233 := n1_; have HB := n2_; clear n0_ n1_ n2_; (try clear hb); (try clear hb2); (try clear hk); (try clear hi)))
    go_meet
    case rel => exact ⟨_, (decide (t236 < 0)), (by first | rfl | (simp; done) | (simp [*]; done)), H', ⟨by first | omega | exact Nat.le_refl _⟩, ⟨by refine uW ?_; exact BK232.out⟩, ⟨by refine uW ?_; exact BK233.out⟩, ⟨by first | exact uB HB | exact uS HB (gC GE232 (gC GE233 gN))⟩⟩
   ·
    replace c9 := Bool.eq_false_iff.mpr c9
    subst c9
    have H1 : (spec_CuckooRemove.j0 k a1 true a0_0 l0_1 l0_2) = some (r1, r2, r3, r4) := by rw [if_neg (show ¬ (false = true) by decide)] at H; exact H
    clear H
    have H := H1
    clear H1
    have H' := Aside0.mk H
    clear H
    have hnb16 := NB232_233.out
    have hnc16 := NB233_232.out
    have hcz17_0 : w5.cell? ⟨gb232, 0, none⟩ = some (.int .i64 a0_0) := (blk_cell BK232.out 0).trans rfl
    have hcz17_1 : w5.cell? ⟨gb232, 1, none⟩ = some (.slice A0_1 l0_1.length c0_1) := (blk_cell BK232.out 1).trans rfl
    have hcz17_2 : w5.cell? ⟨gb232, 2, none⟩ = some (.slice A0_2 l0_2.length c0_2) := (blk_cell BK232.out 2).trans rfl
    have hfz17_0 := blk_frozen BK232.out 0
    have hfz17_1 := blk_frozen BK232.out 1
    have hfz17_2 := blk_frozen BK232.out 2
    go_wp2_with (first | ((with_reducible refine gate_callee (f := 34) rfl ?_); refine goesL_ (some 12) rfl rfl Try.func34 (by kernel_rfl) rfl #[.agg #[.int .i64 a0_0, .slice A0_1 l0_1.length c0_1, .slice A0_2 l0_2.length c0_2]] rfl (by (try simp only [List.map_toArray, List.map_cons, List.map_nil]); first | done | rfl | (simp only [List.length_drop, List.length_take]; rfl)) ?_; (with_reducible refine (spec_cuGood.calls k a0_0 _ _ l0_1 _ _ l0_2 true _ ?side1 ?side2 ?side3 ?side4 A6.out).mono ?_); (case side1 => exact uC HR0_1 HB); (case side2 => exact HC0_1.out); (case side3 => exact uC HR0_2 HB); (case side4 => exact HC0_2.out); rintro e w18 ⟨rfl, hb⟩; refine ⟨_, rfl, ?_⟩; have n0_ := Aside0.mk (blk_below (g := gb232) (o := .cells #[.int .i64 a0_0, .slice A0_1 l0_1.length c0_1, .slice A0_2 l0_2.length c0_2] 27 (0, 0)) (uK BK232) hb); have n1_ := Aside0.mk (blk_below (g := gb233) (o := .cells #[.int .i64 0, .slice none 0 0, .slice none 0 0] 27 (0, 0)) (uK BK233) hb); have n2_ := Aside0.mk (below_step (by first | exact uB HB | exact uS HB (gC GE232 (gC GE233 gN))) hb); clear BK232 BK233 HB; have BK232 := n0_; have BK233 := n1_; have HB := n2_; clear n0_ n1_ n2_; (try clear hb); (try clear hb2); (try clear hk); (try clear hi)) | (go_at_call 42; (with_reducible refine (spec_IsKey.calls k a1 false _ A8.out).mono ?_); rintro e w' ⟨rfl, ⟨nd, rfl⟩⟩))
    go_meet
    case rel => exact ⟨_, (true), (by first | rfl | (simp; done) | (simp [*]; done)), H', ⟨by first | omega | exact Nat.le_refl _⟩, ⟨by refine uW ?_; exact BK232.out⟩, ⟨by refine uW ?_; exact BK233.out⟩, ⟨by first | exact uB HB | exact uS HB (gC GE232 (gC GE233 gN))⟩⟩
  ·
   replace c7 := Bool.eq_false_iff.mpr c7
   subst c7
   have H1 : (spec_CuckooRemove.j0 k a1 true a0_0 l0_1 l0_2) = some (r1, r2, r3, r4) := by rw [if_neg (show ¬ (false = true) by decide)] at H; exact H
   clear H
   have H := H1
   clear H1
   have H' := Aside0.mk H
   clear H
   have hnb19 := NB232_233.out
   have hnc19 := NB233_232.out
   have hcz20_0 : w5.cell? ⟨gb232, 0, none⟩ = some (.int .i64 a0_0) := (blk_cell BK232.out 0).trans rfl
   have hcz20_1 : w5.cell? ⟨gb232, 1, none⟩ = some (.slice A0_1 l0_1.length c0_1) := (blk_cell BK232.out 1).trans rfl
   have hcz20_2 : w5.cell? ⟨gb232, 2, none⟩ = some (.slice A0_2 l0_2.length c0_2) := (blk_cell BK232.out 2).trans rfl
   have hfz20_0 := blk_frozen BK232.out 0
   have hfz20_1 := blk_frozen BK232.out 1
   have hfz20_2 := blk_frozen BK232.out 2
   go_wp2_with (first | ((with_reducible refine gate_callee (f := 34) rfl ?_); refine goesL_ (some 12) rfl rfl Try.func34 (by kernel_rfl) rfl #[.agg #[.int .i64 a0_0, .slice A0_1 l0_1.length c0_1, .slice A0_2 l0_2.length c0_2]] rfl (by (try simp only [List.map_toArray, List.map_cons, List.map_nil]); first | done | rfl | (simp only [List.length_drop, List.length_take]; rfl)) ?_; (with_reducible refine (spec_cuGood.calls k a0_0 _ _ l0_1 _ _ l0_2 false _ ?side1 ?side2 ?side3 ?side4 A6.out).mono ?_); (case side1 => exact uC HR0_1 HB); (case side2 => exact HC0_1.out); (case side3 => exact uC HR0_2 HB); (case side4 => exact HC0_2.out); rintro e w21 ⟨rfl, hb⟩; refine ⟨_, rfl, ?_⟩; have n0_ := Aside0.mk (blk_below (g := gb232) (o := .cells #[.int .i64 a0_0, .slice A0_1 l0_1.length c0_1, .slice A0_2 l0_2.length c0_2] 27 (0, 0)) (uK BK232) hb); have n1_ := Aside0.mk (blk_below (g := gb233) (o := .cells #[.int .i64 0, .slice none 0 0, .slice none 0 0] 27 (0, 0)) (uK BK233) hb); have n2_ := Aside0.mk (below_step (by first | exact uB HB | exact uS HB (gC GE232 (gC GE233 gN))) hb); clear BK232 BK233 HB; have BK232 := n0_; have BK233 := n1_; have HB := n2_; clear n0_ n1_ n2_; (try clear hb); (try clear hb2); (try clear hk); (try clear hi)))
   go_meet
   case rel => exact ⟨_, (true), (by first | rfl | (simp; done) | (simp [*]; done)), H', ⟨by first | omega | exact Nat.le_refl _⟩, ⟨by refine uW ?_; exact BK232.out⟩, ⟨by refine uW ?_; exact BK233.out⟩, ⟨by first | exact uB HB | exact uS HB (gC GE232 (gC GE233 gN))⟩⟩
 case rest =>
  clear HC3
  try clear c1
  try clear c2
  try clear p2
  try clear c3
  try clear c7
  try clear c9
  try clear c11
  try clear c16
  try clear c19
  try clear hcz12_0
  try clear hcz12_1
  try clear hcz12_2
  try clear hcz14_0
  try clear hcz14_1
  try clear hcz14_2
  try clear hcz17_0
  try clear hcz17_1
  try clear hcz17_2
  try clear hcz20_0
  try clear hcz20_1
  try clear hcz20_2
  try clear hfz12_0
  try clear hfz12_1
  try clear hfz12_2
  try clear hfz14_0
  try clear hfz14_1
  try clear hfz14_2
  try clear hfz17_0
  try clear hfz17_1
  try clear hfz17_2
  try clear hfz20_0
  try clear hfz20_1
  try clear hfz20_2
  obtain ⟨kq, x24_2, rfl, HA, HJ2, BK232, BK233, HB⟩ := hcut
  cases kq with
  | zero => exact absurd HA.out (by simp [spec_CuckooRemove.j0])
  | succ kj2 =>
   have H := HA.out
   clear HA
   simp only [spec_CuckooRemove.j0] at H
   by_cases c22 : x24_2 = true
   ·
    subst c22
    have H1 : (some (0, ([] : List ByteArray), ([] : List ByteArray), false)) = some (r1, r2, r3, r4) := by rw [if_pos rfl] at H; exact H
    clear H
    have H := H1
    clear H1
    simp only [Option.some.injEq, Prod.mk.injEq] at H
    obtain ⟨rfl, rfl, rfl, rfl⟩ := H
    have hnb23 := NB233_232.out
    have hnc23 := NB232_233.out
    have hcz24_0 : wc.cell? ⟨gb233, 0, none⟩ = some (.int .i64 0) := (blk_cell BK233.out 0).trans rfl
    have hcz24_1 : wc.cell? ⟨gb233, 1, none⟩ = some (.slice none 0 0) := (blk_cell BK233.out 1).trans rfl
    have hcz24_2 : wc.cell? ⟨gb233, 2, none⟩ = some (.slice none 0 0) := (blk_cell BK233.out 2).trans rfl
    have hfz24_0 := blk_frozen BK233.out 0
    have hfz24_1 := blk_frozen BK233.out 1
    have hfz24_2 := blk_frozen BK233.out 2
    go_wp2
    refine bodyPost_ret (results_ct rfl _ _ gb233 27 #[.int .i64 0, .slice none 0 0, .slice none 0 0] (0, 0) _ rfl (by refine uW ?_; refine blk_put (cs := #[.int .i64 0, .slice none 0 0, .slice none 0 0]) ?_ 2 _ rfl; refine uW ?_; refine blk_put (cs := #[.int .i64 0, .slice none 0 0, .slice none 0 0]) ?_ 1 _ rfl; refine uW ?_; refine blk_put (cs := #[.int .i64 0, .slice none 0 0, .slice none 0 0]) ?_ 0 _ rfl; refine uW ?_; exact BK233.out) Try.underlying27 rfl (by kernel_rfl)) rfl ?_
    exact ⟨_, _, by first | rfl | (simp [errW_none, errW_some] <;> rfl) | (simp [*, errW_none, errW_some] <;> rfl), by first | exact Kd.R_nil _ _ _ _ _ | exact Kd.N_nil _ _ _ _ _ | exact Kd.V_nil _ _ _ _ _ | exact Kd.Q_nil _ _ _ _ _ | exact Kd.S_nil _ _ _ _ _, by first | exact Kd.R_nil _ _ _ _ _ | exact Kd.N_nil _ _ _ _ _ | exact Kd.V_nil _ _ _ _ _ | exact Kd.Q_nil _ _ _ _ _ | exact Kd.S_nil _ _ _ _ _, by first | exact uB HB | exact uS HB (gC GE232 (gC GE233 gN))⟩
   ·
    replace c22 := Bool.eq_false_iff.mpr c22
    subst c22
    have H1 : ((spec_l1OwnS.f l0_1).bind fun t237 => (spec_CuckooRemove.l0 kj2 a1 l0_1 (l0_1.length : Int) 0 a0_0 l0_1 l0_2 a0_0 t237)) = some (r1, r2, r3, r4) := by rw [if_neg (show ¬ (false = true) by decide)] at H; exact H
    clear H
    have H := H1
    clear H1
    replace H := Option.bind_eq_some_iff.mp H
    obtain ⟨t237, A250, H⟩ := H
    replace H : (spec_CuckooRemove.l0 kj2 a1 l0_1 (l0_1.length : Int) 0 a0_0 l0_1 l0_2 a0_0 t237) = some (r1, r2, r3, r4) := H
    have A25 := Aside0.mk A250
    clear A250
    have H' := Aside0.mk H
    clear H
    try go_wp2
    have n0_ := Aside0.mk (blk_drew BK232.out)
    have n1_ := Aside0.mk (blk_drew BK233.out)
    have n2_ := Aside0.mk (below_drew1 HB.out)
    clear BK232
    clear BK233
    clear HB
    have BK232 := n0_
    have BK233 := n1_
    have HB := n2_
    clear n0_ n1_ n2_
    refine start_ (n := 8) (S := fun w' => w'.cell? ⟨gb232, 0, none⟩ = some (.int .i64 a0_0) ∧ w'.cell? ⟨gb232, 1, none⟩ = some (.slice A0_1 l0_1.length c0_1) ∧ w'.cell? ⟨gb232, 2, none⟩ = some (.slice A0_2 l0_2.length c0_2)) (ds := []) #[false, false, false, false, false, false, false, false] (by kernel_rfl) rfl rfl ⟨(blk_cell BK232.out 0).trans rfl, (blk_cell BK232.out 1).trans rfl, (blk_cell BK232.out 2).trans rfl⟩ (fun hHeld => ?_); refine with_tabW spec_CuckooRemove.tab3 spec_CuckooRemove.bits3 (fun HT_ HW_ => ?_)
    generalize wc.drew = w26 at BK232 BK233 HB hHeld ⊢
    refine pure_ (i := 0) (N := some 26) (v := ?_) (a' := ?_) #[true, false, false, false, false, false, false, false] rfl rfl (any_of HT_.out (by kernel_rfl)) (fun _ _ _ h => h) (Or.inl ⟨by rfl, ?_⟩) ?_ ?_
    rotate_left
    ·
     intro w'
     go_simp
     with_reducible rfl
    rotate_left
    ·
     simp only [Act.put, List.setIfInBounds_toArray, List.set_cons_zero, List.set_cons_succ, i64_w, i32_w]
     rfl
    refine pure_ (i := 2) (N := some 28) (v := ?_) (a' := ?_) #[true, false, true, false, false, false, false, false] rfl rfl (any_of HT_.out (by kernel_rfl)) (fun _ _ _ h => h) (Or.inl ⟨by rfl, ?_⟩) ?_ ?_
    rotate_left
    ·
     intro w'
     go_simp
     with_reducible rfl
    rotate_left
    ·
     simp only [Act.put, List.setIfInBounds_toArray, List.set_cons_zero, List.set_cons_succ, i64_w, i32_w]
     rfl
    refine take_ (i := 1) (N := some 27) (v := ?_) (a' := ?_) #[true, true, true, false, false, false, false, false] rfl rfl (take_ofW HT_.out HW_.out (by kernel_rfl)) (fun _ _ _ h => h) (Or.inl ⟨by rfl, ?_⟩) hHeld ?_ ?_
    rotate_left
    ·
     rintro w' ⟨s0, s1, s2⟩
     go_simp
     with_reducible rfl
    rotate_left
    ·
     simp only [Act.put, List.setIfInBounds_toArray, List.set_cons_zero, List.set_cons_succ, i64_w, i32_w]
     rfl
    refine take_ (i := 3) (N := some 29) (v := ?_) (a' := ?_) #[true, true, true, true, false, false, false, false] rfl rfl (take_ofW HT_.out HW_.out (by kernel_rfl)) (fun _ _ _ h => h) (Or.inl ⟨by rfl, ?_⟩) hHeld ?_ ?_
    rotate_left
    ·
     rintro w' ⟨s0, s1, s2⟩
     go_simp
     with_reducible rfl
    rotate_left
    ·
     simp only [Act.put, List.setIfInBounds_toArray, List.set_cons_zero, List.set_cons_succ, i64_w, i32_w]
     rfl
    refine join_ (σ := Value × Nat) 1 #[true, true, true, true, true, true, true, false] (fun s_ => [(30, s_.1), (6, .pointer (some ⟨s_.2, 0, none⟩)), (31, .agg #[.int .i64 a0_0, s_.1, .slice none 0 0])]) (fun s_ w' => (w'.cell? ⟨gb232, 0, none⟩ = some (.int .i64 a0_0) ∧ w'.cell? ⟨gb232, 1, none⟩ = some (.slice A0_1 l0_1.length c0_1) ∧ w'.cell? ⟨gb232, 2, none⟩ = some (.slice A0_2 l0_2.length c0_2)) ∧ (Kd.R Kd.string 9 w' w.heap.size (fun _ => True) s_.1 t237) ∧ (w'.heap[gb232]? = some (.cells #[.int .i64 a0_0, .slice A0_1 l0_1.length c0_1, .slice A0_2 l0_2.length c0_2] 27 (0, 0))) ∧ (w'.heap[gb233]? = some (.cells #[.int .i64 0, .slice none 0 0, .slice none 0 0] 27 (0, 0))) ∧ (w'.heap[s_.2]? = some (.cells #[.int .i64 0, .slice none 0 0, .slice none 0 0] 27 (0, 0))) ∧ (w.heap.size ≤ s_.2) ∧ (w.heap.size ≤ s_.2) ∧ (gb232 ≠ s_.2) ∧ (s_.2 ≠ gb232) ∧ (gb233 ≠ s_.2) ∧ (s_.2 ≠ gb233) ∧ (Below w.heap.size w w')) ?_ ?_
    rotate_left
    ·
     intro hCont
     refine two_ (i := 4) (j := 6) (Ni := some 30) (Nj := some 6) #[true, true, true, true, true, false, false, false] #[true, true, true, true, false, false, true, false] rfl rfl rfl rfl (two_of HT_.out (by kernel_rfl)) (by decide) (by decide) (fun K hK => ?_) (fun K hK => ?_)
     ·
      skip
      refine goes_ Try.func47 (by kernel_rfl) rfl #[.slice A0_1 l0_1.length c0_1] (by rfl) rfl rfl (by (try simp only [List.map_toArray, List.map_cons, List.map_nil]); first | done | rfl | (simp only [List.length_drop, List.length_take]; rfl)) ?_
      with_reducible refine (spec_l1OwnS.calls _ _ l0_1 t237 _ ?side1 ?side2 A25.out).mono ?_
      (case side1 => exact uC HR0_1 HB)
      (case side2 => exact HC0_1.out)
      rintro e w27 ⟨v238, rfl, ho0, hb⟩
      refine ⟨_, rfl, ?_⟩
      have n0_ := Aside0.mk (Kd.R_lower ho0 (below_size (by first | exact uB HB | exact uS HB (gC GE232 (gC GE233 gN)))))
      have n1_ := Aside0.mk (blk_below (g := gb232) (o := .cells #[.int .i64 a0_0, .slice A0_1 l0_1.length c0_1, .slice A0_2 l0_2.length c0_2] 27 (0, 0)) (uK BK232) hb)
      have n2_ := Aside0.mk (blk_below (g := gb233) (o := .cells #[.int .i64 0, .slice none 0 0, .slice none 0 0] 27 (0, 0)) (uK BK233) hb)
      have n3_ := Aside0.mk (below_step (by first | exact uB HB | exact uS HB (gC GE232 (gC GE233 gN))) hb)
      clear BK232
      clear BK233
      clear HB
      have HO239 := n0_
      have BK232 := n1_
      have BK233 := n2_
      have HB := n3_
      clear n0_ n1_ n2_ n3_
      (try clear hb)
      (try clear hb2)
      (try clear hk)
      (try clear hi)
      (try clear ho0)
      obtain ⟨Ao28, co28, eo28⟩ := Kd.R_slice HO239.out
      (first | subst eo28 | (injection eo28 with f1_ f2_ f3_; have f4_ := f1_.symm; have f5_ := f3_.symm; clear f1_ f2_ f3_; subst f4_; subst f5_))
      refine hK.out _ _ ⟨(blk_cell BK232.out 0).trans rfl, (blk_cell BK232.out 1).trans rfl, (blk_cell BK232.out 2).trans rfl⟩ (fun hHeld => ?_)
      clear hK K
      refine norm_ (a' := ?_) ?_ ?_
      rotate_left
      ·
       show Act.put _ (some 30) _ = _
       simp only [Act.put, List.setIfInBounds_toArray, List.set_cons_zero, List.set_cons_succ, i64_w, i32_w]
       rfl
      refine pure_ (i := 5) (N := some 31) (v := ?_) (a' := ?_) #[true, true, true, true, true, true, false, false] rfl rfl (any_of HT_.out (by kernel_rfl)) (fun _ _ _ h => h) (Or.inl ⟨by rfl, ?_⟩) ?_ ?_
      rotate_left
      ·
       intro w'
       go_simp
       with_reducible rfl
      rotate_left
      ·
       simp only [Act.put, List.setIfInBounds_toArray, List.set_cons_zero, List.set_cons_succ, i64_w, i32_w]
       rfl
      refine one_ (i := 6) (N := some 6) #[true, true, true, true, true, true, true, false] rfl rfl (one_of HT_.out (by kernel_rfl)) (by decide) (fun K hK => ?_)
      refine box_step ?hg (N := 6) ?hd (cs := #[.int .i64 0, .slice none 0 0, .slice none 0 0]) (t := 27) ?hr ?_; (case hd => rfl); (case hg => rfl); (case hr => first | (go_simp; done) | (go_simp; rfl))
      intro gb240 hg w29 hbox hb
      have n0_ := Aside0.mk (Kd.R_below (uR HO239) hb)
      have n1_ := Aside0.mk (blk_below (g := gb232) (o := .cells #[.int .i64 a0_0, .slice A0_1 l0_1.length c0_1, .slice A0_2 l0_2.length c0_2] 27 (0, 0)) (uK BK232) hb)
      have n2_ := Aside0.mk (blk_below (g := gb233) (o := .cells #[.int .i64 0, .slice none 0 0, .slice none 0 0] 27 (0, 0)) (uK BK233) hb)
      have n3_ := Aside0.mk (below_step (by first | exact uB HB | exact uS HB (gC GE232 (gC GE233 gN))) hb)
      have n4_ := Aside0.mk (hbox)
      have n5_ := Aside0.mk ((by rw [hg]; exact (below_size (by first | exact uB HB | exact uS HB (gC GE232 (gC GE233 gN)))) : w.heap.size ≤ gb240))
      have n6_ := Aside0.mk ((by rw [hg]; exact (below_size (by first | exact uB HB | exact uS HB (gC GE232 (gC GE233 gN)))) : w.heap.size ≤ gb240))
      have n7_ := Aside0.mk ((by rw [hg]; exact Nat.ne_of_lt (blk_lt (g := gb232) (o := .cells #[.int .i64 a0_0, .slice A0_1 l0_1.length c0_1, .slice A0_2 l0_2.length c0_2] 27 (0, 0)) (uK BK232)) : gb232 ≠ gb240))
      have n8_ := Aside0.mk ((by rw [hg]; exact Nat.ne_of_gt (blk_lt (g := gb232) (o := .cells #[.int .i64 a0_0, .slice A0_1 l0_1.length c0_1, .slice A0_2 l0_2.length c0_2] 27 (0, 0)) (uK BK232)) : gb240 ≠ gb232))
      have n9_ := Aside0.mk ((by rw [hg]; exact Nat.ne_of_lt (blk_lt (g := gb233) (o := .cells #[.int .i64 0, .slice none 0 0, .slice none 0 0] 27 (0, 0)) (uK BK233)) : gb233 ≠ gb240))
      have n10_ := Aside0.mk ((by rw [hg]; exact Nat.ne_of_gt (blk_lt (g := gb233) (o := .cells #[.int .i64 0, .slice none 0 0, .slice none 0 0] 27 (0, 0)) (uK BK233)) : gb240 ≠ gb233))
      clear HO239
      clear BK232
      clear BK233
      clear HB
      have HO239 := n0_
      have BK232 := n1_
      have BK233 := n2_
      have HB := n3_
      have BK240 := n4_
      have GW240 := n5_
      have GE240 := n6_
      have NB232_240 := n7_
      have NB240_232 := n8_
      have NB233_240 := n9_
      have NB240_233 := n10_
      clear n0_ n1_ n2_ n3_ n4_ n5_ n6_ n7_ n8_ n9_ n10_
      clear hb hbox hg
      refine hK.out _ _ ⟨(blk_cell BK232.out 0).trans rfl, (blk_cell BK232.out 1).trans rfl, (blk_cell BK232.out 2).trans rfl⟩ (fun hHeld => ?_)
      clear hK K
      refine norm_ (a' := ?_) ?_ ?_
      rotate_left
      ·
       show Act.put _ (some 6) _ = _
       simp only [Act.put, List.setIfInBounds_toArray, List.set_cons_zero, List.set_cons_succ, i64_w, i32_w]
       rfl
      exact norm_ (by simp only [putAll, Act.put, List.setIfInBounds_toArray, List.set_cons_zero, List.set_cons_succ]) (hCont (.slice Ao28 t237.length co28, gb240) _ ⟨hHeld, (uR HO239), (uK BK232), (uK BK233), (uK BK240), GW240.out, GE240.out, NB232_240.out, NB240_232.out, NB233_240.out, NB240_233.out, (by first | exact uB HB | exact uS HB (gC GE232 (gC GE233 (gC GE240 gN))))⟩)
     ·
      skip
      refine box_step ?hg (N := 6) ?hd (cs := #[.int .i64 0, .slice none 0 0, .slice none 0 0]) (t := 27) ?hr ?_; (case hd => rfl); (case hg => rfl); (case hr => first | (go_simp; done) | (go_simp; rfl))
      intro gb240 hg w27 hbox hb
      have n0_ := Aside0.mk (blk_below (g := gb232) (o := .cells #[.int .i64 a0_0, .slice A0_1 l0_1.length c0_1, .slice A0_2 l0_2.length c0_2] 27 (0, 0)) (uK BK232) hb)
      have n1_ := Aside0.mk (blk_below (g := gb233) (o := .cells #[.int .i64 0, .slice none 0 0, .slice none 0 0] 27 (0, 0)) (uK BK233) hb)
      have n2_ := Aside0.mk (below_step (by first | exact uB HB | exact uS HB (gC GE232 (gC GE233 gN))) hb)
      have n3_ := Aside0.mk (hbox)
      have n4_ := Aside0.mk ((by rw [hg]; exact (below_size (by first | exact uB HB | exact uS HB (gC GE232 (gC GE233 gN)))) : w.heap.size ≤ gb240))
      have n5_ := Aside0.mk ((by rw [hg]; exact (below_size (by first | exact uB HB | exact uS HB (gC GE232 (gC GE233 gN)))) : w.heap.size ≤ gb240))
      have n6_ := Aside0.mk ((by rw [hg]; exact Nat.ne_of_lt (blk_lt (g := gb232) (o := .cells #[.int .i64 a0_0, .slice A0_1 l0_1.length c0_1, .slice A0_2 l0_2.length c0_2] 27 (0, 0)) (uK BK232)) : gb232 ≠ gb240))
      have n7_ := Aside0.mk ((by rw [hg]; exact Nat.ne_of_gt (blk_lt (g := gb232) (o := .cells #[.int .i64 a0_0, .slice A0_1 l0_1.length c0_1, .slice A0_2 l0_2.length c0_2] 27 (0, 0)) (uK BK232)) : gb240 ≠ gb232))
      have n8_ := Aside0.mk ((by rw [hg]; exact Nat.ne_of_lt (blk_lt (g := gb233) (o := .cells #[.int .i64 0, .slice none 0 0, .slice none 0 0] 27 (0, 0)) (uK BK233)) : gb233 ≠ gb240))
      have n9_ := Aside0.mk ((by rw [hg]; exact Nat.ne_of_gt (blk_lt (g := gb233) (o := .cells #[.int .i64 0, .slice none 0 0, .slice none 0 0] 27 (0, 0)) (uK BK233)) : gb240 ≠ gb233))
      clear BK232
      clear BK233
      clear HB
      have BK232 := n0_
      have BK233 := n1_
      have HB := n2_
      have BK240 := n3_
      have GW240 := n4_
      have GE240 := n5_
      have NB232_240 := n6_
      have NB240_232 := n7_
      have NB233_240 := n8_
      have NB240_233 := n9_
      clear n0_ n1_ n2_ n3_ n4_ n5_ n6_ n7_ n8_ n9_
      clear hb hbox hg
      refine hK.out _ _ ⟨(blk_cell BK232.out 0).trans rfl, (blk_cell BK232.out 1).trans rfl, (blk_cell BK232.out 2).trans rfl⟩ (fun hHeld => ?_)
      clear hK K
      refine norm_ (a' := ?_) ?_ ?_
      rotate_left
      ·
       show Act.put _ (some 6) _ = _
       simp only [Act.put, List.setIfInBounds_toArray, List.set_cons_zero, List.set_cons_succ, i64_w, i32_w]
       rfl
      refine one_ (i := 4) (N := some 30) #[true, true, true, true, true, false, true, false] rfl rfl (one_of HT_.out (by kernel_rfl)) (by decide) (fun K hK => ?_)
      refine goes_ Try.func47 (by kernel_rfl) rfl #[.slice A0_1 l0_1.length c0_1] (by rfl) rfl rfl (by (try simp only [List.map_toArray, List.map_cons, List.map_nil]); first | done | rfl | (simp only [List.length_drop, List.length_take]; rfl)) ?_
      with_reducible refine (spec_l1OwnS.calls _ _ l0_1 t237 _ ?side1 ?side2 A25.out).mono ?_
      (case side1 => exact uC HR0_1 HB)
      (case side2 => exact HC0_1.out)
      rintro e w28 ⟨v238, rfl, ho0, hb⟩
      refine ⟨_, rfl, ?_⟩
      have n0_ := Aside0.mk (Kd.R_lower ho0 (below_size (by first | exact uB HB | exact uS HB (gC GE232 (gC GE233 (gC GE240 gN))))))
      have n1_ := Aside0.mk (blk_below (g := gb232) (o := .cells #[.int .i64 a0_0, .slice A0_1 l0_1.length c0_1, .slice A0_2 l0_2.length c0_2] 27 (0, 0)) (uK BK232) hb)
      have n2_ := Aside0.mk (blk_below (g := gb233) (o := .cells #[.int .i64 0, .slice none 0 0, .slice none 0 0] 27 (0, 0)) (uK BK233) hb)
      have n3_ := Aside0.mk (blk_below (g := gb240) (o := .cells #[.int .i64 0, .slice none 0 0, .slice none 0 0] 27 (0, 0)) (uK BK240) hb)
      have n4_ := Aside0.mk (below_step (by first | exact uB HB | exact uS HB (gC GE232 (gC GE233 (gC GE240 gN)))) hb)
      clear BK232
      clear BK233
      clear BK240
      clear HB
      have HO239 := n0_
      have BK232 := n1_
      have BK233 := n2_
      have BK240 := n3_
      have HB := n4_
      clear n0_ n1_ n2_ n3_ n4_
      (try clear hb)
      (try clear hb2)
      (try clear hk)
      (try clear hi)
      (try clear ho0)
      obtain ⟨Ao29, co29, eo29⟩ := Kd.R_slice HO239.out
      (first | subst eo29 | (injection eo29 with f1_ f2_ f3_; have f4_ := f1_.symm; have f5_ := f3_.symm; clear f1_ f2_ f3_; subst f4_; subst f5_))
      refine hK.out _ _ ⟨(blk_cell BK232.out 0).trans rfl, (blk_cell BK232.out 1).trans rfl, (blk_cell BK232.out 2).trans rfl⟩ (fun hHeld => ?_)
      clear hK K
      refine norm_ (a' := ?_) ?_ ?_
      rotate_left
      ·
       show Act.put _ (some 30) _ = _
       simp only [Act.put, List.setIfInBounds_toArray, List.set_cons_zero, List.set_cons_succ, i64_w, i32_w]
       rfl
      refine pure_ (i := 5) (N := some 31) (v := ?_) (a' := ?_) #[true, true, true, true, true, true, true, false] rfl rfl (any_of HT_.out (by kernel_rfl)) (fun _ _ _ h => h) (Or.inl ⟨by rfl, ?_⟩) ?_ ?_
      rotate_left
      ·
       intro w'
       go_simp
       with_reducible rfl
      rotate_left
      ·
       simp only [Act.put, List.setIfInBounds_toArray, List.set_cons_zero, List.set_cons_succ, i64_w, i32_w]
       rfl
      exact norm_ (by simp only [putAll, Act.put, List.setIfInBounds_toArray, List.set_cons_zero, List.set_cons_succ]) (hCont (.slice Ao29 t237.length co29, gb240) _ ⟨hHeld, (uR HO239), (uK BK232), (uK BK233), (uK BK240), GW240.out, GE240.out, NB232_240.out, NB240_232.out, NB233_240.out, NB240_233.out, (by first | exact uB HB | exact uS HB (gC GE232 (gC GE233 (gC GE240 gN))))⟩)
    rintro ⟨v238, gb240⟩ w30 ⟨hS_, h0_, h1_, h2_, h3_, h4_, h5_, h6_, h7_, h8_, h9_, h10_⟩
    have n0_ : Aside0 (Kd.R Kd.string 9 w30 w.heap.size (fun _ => True) v238 t237) := ⟨h0_⟩
    have n1_ : Aside0 (w30.heap[gb232]? = some (.cells #[.int .i64 a0_0, .slice A0_1 l0_1.length c0_1, .slice A0_2 l0_2.length c0_2] 27 (0, 0))) := ⟨h1_⟩
    have n2_ : Aside0 (w30.heap[gb233]? = some (.cells #[.int .i64 0, .slice none 0 0, .slice none 0 0] 27 (0, 0))) := ⟨h2_⟩
    have n3_ : Aside0 (w30.heap[gb240]? = some (.cells #[.int .i64 0, .slice none 0 0, .slice none 0 0] 27 (0, 0))) := ⟨h3_⟩
    have n4_ : Aside0 (w.heap.size ≤ gb240) := ⟨h4_⟩
    have n5_ : Aside0 (w.heap.size ≤ gb240) := ⟨h5_⟩
    have n6_ : Aside0 (gb232 ≠ gb240) := ⟨h6_⟩
    have n7_ : Aside0 (gb240 ≠ gb232) := ⟨h7_⟩
    have n8_ : Aside0 (gb233 ≠ gb240) := ⟨h8_⟩
    have n9_ : Aside0 (gb240 ≠ gb233) := ⟨h9_⟩
    have n10_ : Aside0 (Below w.heap.size w w30) := ⟨h10_⟩
    clear BK232
    clear BK233
    clear HB
    clear h0_ h1_ h2_ h3_ h4_ h5_ h6_ h7_ h8_ h9_ h10_
    have HO239 := n0_
    have BK232 := n1_
    have BK233 := n2_
    have BK240 := n3_
    have GW240 := n4_
    have GE240 := n5_
    have NB232_240 := n6_
    have NB240_232 := n7_
    have NB233_240 := n8_
    have NB240_233 := n9_
    have HB := n10_
    clear n0_ n1_ n2_ n3_ n4_ n5_ n6_ n7_ n8_ n9_ n10_
    have hHeld : w30.cell? ⟨gb232, 0, none⟩ = some (.int .i64 a0_0) ∧ w30.cell? ⟨gb232, 1, none⟩ = some (.slice A0_1 l0_1.length c0_1) ∧ w30.cell? ⟨gb232, 2, none⟩ = some (.slice A0_2 l0_2.length c0_2) := hS_
    obtain ⟨Ao31, co31, eo31⟩ := Kd.R_slice HO239.out
    (first | subst eo31 | (injection eo31 with f1_ f2_ f3_; have f4_ := f1_.symm; have f5_ := f3_.symm; clear f1_ f2_ f3_; subst f4_; subst f5_))
    refine norm_ (a' := ?_) ?_ ?_
    rotate_left
    ·
     simp only [putAll, Act.put, List.setIfInBounds_toArray, List.set_cons_zero, List.set_cons_succ]
     rfl
    refine one_ (i := 7) (N := none) #[true, true, true, true, true, true, true, true] rfl rfl (one_of HT_.out (by kernel_rfl)) (by decide) (fun K hK => ?_)
    have hs32 : w30.cell? ⟨gb240, 0, none⟩ = some (.int .i64 0) := (blk_cell BK240.out 0).trans rfl
    have hfs32 := blk_frozen BK240.out 0
    have hns32_0 := NB232_240.out
    have hns32_1 := NB233_240.out
    have hms32_0 := NB240_232.out
    have hms32_1 := NB240_233.out
    have hs33 : w30.cell? ⟨gb240, 1, none⟩ = some (.slice none 0 0) := (blk_cell BK240.out 1).trans rfl
    have hfs33 := blk_frozen BK240.out 1
    have hns33_0 := NB232_240.out
    have hns33_1 := NB233_240.out
    have hms33_0 := NB240_232.out
    have hms33_1 := NB240_233.out
    have hs34 : w30.cell? ⟨gb240, 2, none⟩ = some (.slice none 0 0) := (blk_cell BK240.out 2).trans rfl
    have hfs34 := blk_frozen BK240.out 2
    have hns34_0 := NB232_240.out
    have hns34_1 := NB233_240.out
    have hms34_0 := NB240_232.out
    have hms34_1 := NB240_233.out
    refine skip_ (w1 := ?_) (by rfl) rfl ?_ ?_
    rotate_left
    ·
     go_simp
     rfl
    refine hK.out _ _ ⟨((cell_far (p := ⟨gb240, _, none⟩) NB232_240.out _).trans (((cell_far (p := ⟨gb240, _, none⟩) NB232_240.out _).trans (((cell_far (p := ⟨gb240, _, none⟩) NB232_240.out _).trans (hHeld.1)))))), ((cell_far (p := ⟨gb240, _, none⟩) NB232_240.out _).trans (((cell_far (p := ⟨gb240, _, none⟩) NB232_240.out _).trans (((cell_far (p := ⟨gb240, _, none⟩) NB232_240.out _).trans (hHeld.2.1)))))), ((cell_far (p := ⟨gb240, _, none⟩) NB232_240.out _).trans (((cell_far (p := ⟨gb240, _, none⟩) NB232_240.out _).trans (((cell_far (p := ⟨gb240, _, none⟩) NB232_240.out _).trans (hHeld.2.2))))))⟩ (fun hHeld => ?_)
    clear hK K
    refine done_ (done_of HT_.out (by kernel_rfl)) ?_
    have hnb35 := NB232_233.out
    have hnc35 := NB233_232.out
    have hnb36 := NB232_240.out
    have hnc36 := NB240_232.out
    have hcz37_0 : w30.cell? ⟨gb232, 0, none⟩ = some (.int .i64 a0_0) := (blk_cell BK232.out 0).trans rfl
    have hcz37_1 : w30.cell? ⟨gb232, 1, none⟩ = some (.slice A0_1 l0_1.length c0_1) := (blk_cell BK232.out 1).trans rfl
    have hcz37_2 : w30.cell? ⟨gb232, 2, none⟩ = some (.slice A0_2 l0_2.length c0_2) := (blk_cell BK232.out 2).trans rfl
    have hfz37_0 := blk_frozen BK232.out 0
    have hfz37_1 := blk_frozen BK232.out 1
    have hfz37_2 := blk_frozen BK232.out 2
    try go_wp2
    go_loopg [35] kj2 (fun kq v35 w' => ∃ (x35_2 : Int) (x241001_2 : List ByteArray) (u241001 : Value), v35 = .int .i64 x35_2 ∧ Aside0 (spec_CuckooRemove.l0 kq a1 l0_1 (l0_1.length : Int) x35_2 a0_0 l0_1 l0_2 a0_0 x241001_2 = some (r1, r2, r3, r4)) ∧ Aside0 (kq ≤ kj2) ∧ Aside0 (Kd.R Kd.string 9 w' w.heap.size (fun _ => True) u241001 x241001_2) ∧ Aside0 (w'.heap[gb232]? = some (.cells #[.int .i64 a0_0, (.slice A0_1 l0_1.length c0_1), (.slice A0_2 l0_2.length c0_2)] 27 (0, 0))) ∧ Aside0 (w'.heap[gb233]? = some (.cells #[.int .i64 0, (.slice none 0 0), (.slice none 0 0)] 27 (0, 0))) ∧ Aside0 (w'.heap[gb240]? = some (.cells #[.int .i64 a0_0, u241001, (.slice none 0 0)] 27 (0, 0))) ∧ Aside0 (Below w.heap.size w w'))
    case atStart => exact ⟨(0), (t237), (.slice Ao31 t237.length co31), (by first | rfl | (simp; done) | (simp [*]; done)), H', ⟨Nat.le_refl _⟩, ⟨by (with_reducible repeat (first | apply Kd.R_alloc | apply Kd.R_drewN | apply Kd.R_drew)); exact Kd.R_mono (Kd.R_far (p := ⟨gb240, 2, none⟩) (Kd.R_far (p := ⟨gb240, 1, none⟩) (Kd.R_far (p := ⟨gb240, 0, none⟩) (Kd.R_types HO239.out BK240.out (by decide)) (fun _ hk => hk.2) (.int .i64 a0_0)) (fun _ hk => hk.2) (.slice Ao31 t237.length co31)) (fun _ hk => hk.2) (.slice none 0 0)) (fun _ hk => trivial)⟩, ⟨by refine uW ?_; refine blk_far ?_ NB232_240.out _; refine uW ?_; refine blk_far ?_ NB232_240.out _; refine uW ?_; refine blk_far ?_ NB232_240.out _; refine uW ?_; exact BK232.out⟩, ⟨by refine uW ?_; refine blk_far ?_ NB233_240.out _; refine uW ?_; refine blk_far ?_ NB233_240.out _; refine uW ?_; refine blk_far ?_ NB233_240.out _; refine uW ?_; exact BK233.out⟩, ⟨by refine uW ?_; refine blk_put (cs := #[.int .i64 a0_0, .slice Ao31 t237.length co31, .slice none 0 0]) ?_ 2 _ rfl; refine uW ?_; refine blk_put (cs := #[.int .i64 a0_0, .slice none 0 0, .slice none 0 0]) ?_ 1 _ rfl; refine uW ?_; refine blk_put (cs := #[.int .i64 0, .slice none 0 0, .slice none 0 0]) ?_ 0 _ rfl; refine uW ?_; exact BK240.out⟩, ⟨by first | exact uB HB | exact uS HB (gC GE232 (gC GE233 (gC GE240 gN)))⟩⟩
    case round =>
     clear H'
     try clear c1
     try clear c2
     try clear p2
     try clear c3
     try clear c4
     try clear c7
     try clear c9
     try clear c11
     try clear c16
     try clear c19
     try clear c22
     try clear c23
     try clear c26
     try clear c34
     try clear c35
     try clear c36
     try clear hcz12_0
     try clear hcz12_1
     try clear hcz12_2
     try clear hcz14_0
     try clear hcz14_1
     try clear hcz14_2
     try clear hcz17_0
     try clear hcz17_1
     try clear hcz17_2
     try clear hcz20_0
     try clear hcz20_1
     try clear hcz20_2
     try clear hcz24_0
     try clear hcz24_1
     try clear hcz24_2
     try clear hcz37_0
     try clear hcz37_1
     try clear hcz37_2
     try clear hfz12_0
     try clear hfz12_1
     try clear hfz12_2
     try clear hfz14_0
     try clear hfz14_1
     try clear hfz14_2
     try clear hfz17_0
     try clear hfz17_1
     try clear hfz17_2
     try clear hfz20_0
     try clear hfz20_1
     try clear hfz20_2
     try clear hfz24_0
     try clear hfz24_1
     try clear hfz24_2
     try clear hfz37_0
     try clear hfz37_1
     try clear hfz37_2
     try clear p2
     obtain ⟨x35_2, x241001_2, u241001, rfl, HA, HK2, HO_241001, BK232, BK233, BK240, HB⟩ := hrel
     cases gk with
     | zero => exact absurd HA.out (by simp [spec_CuckooRemove.l0])
     | succ k2 =>
      have H := HA.out
      clear HA
      simp only [spec_CuckooRemove.l0] at H
      by_cases c38 : x35_2 < (l0_1.length : Int)
      ·
       rw [if_pos c38] at H
       have c38b0 : decide (x35_2 < (l0_1.length : Int)) = true := decide_eq_true c38
       clear c38
       by_cases c39 : 0 ≤ x35_2
       ·
        rw [if_pos c39] at H
        have c39b0 : decide (0 ≤ x35_2) = true := decide_eq_true c39
        clear c39
        by_cases c40 : x35_2 < (l0_1.length : Int)
        ·
         rw [if_pos c40] at H
         have c40b0 : decide (x35_2 < (l0_1.length : Int)) = true := decide_eq_true c40
         clear c40
         by_cases c41 : (rdOf ByteArray.empty l0_1 x35_2).toList = a1.toList
         ·
          rw [if_pos c41] at H
          have c41b0 : ((rdOf ByteArray.empty l0_1 x35_2).toList == a1.toList) = true := beq_iff_eq.mpr c41
          have c41b1 : ((rdOf ByteArray.empty l0_1 x35_2).toList != a1.toList) = false := bne_eq_false_iff_eq.mpr c41
          clear c41
          by_cases c42 : x35_2 < (x241001_2.length : Int)
          ·
           rw [if_pos c42] at H
           have c42b0 : decide (x35_2 < (x241001_2.length : Int)) = true := decide_eq_true c42
           clear c42
           obtain ⟨y242, hy242⟩ : ∃ y_ : List ByteArray, y_ = (x241001_2.set (x35_2 : Int).toNat (⟨#[]⟩ : ByteArray)) := ⟨_, rfl⟩
           replace H : (spec_CuckooRemove.l0 k2 a1 l0_1 (l0_1.length : Int) (wrap64 (x35_2 + 1)) a0_0 l0_1 l0_2 a0_0 y242) = some (r1, r2, r3, r4) := by first | (rw [hy242]; with_reducible exact H) | (have H2_ := (Option.bind_some _ _).symm.trans H; rw [hy242]; with_reducible exact H2_) | (have H2_ := (Option.bind_some _ _).symm.trans H; with_reducible exact H2_) | with_reducible exact H | (rw [hy242]; exact H) | exact H
           have Ny242 := Aside0.mk hy242
           clear hy242
           have H' := Aside0.mk H
           clear H
           have p241 : 0 ≤ (x35_2 : Int) := of_decide_eq_true (by first | (with_reducible assumption) | assumption)
           have q241 : x35_2 < (l0_1.length : Int) := of_decide_eq_true (by first | (with_reducible assumption) | assumption)
           obtain ⟨ad241, e241, hx241_0⟩ := Kd.at_string HR0_1.out x35_2 p241 q241
           cases e241
           replace hx241_0 := (HB.out.cell (World.block_lt_of_cell? w _ hx241_0)).trans hx241_0
           replace p241 := eq_true p241
           replace q241 := eq_true q241
           have hnb44 := NB240_232.out
           have hnc44 := NB232_240.out
           have hnb45 := NB240_233.out
           have hnc45 := NB233_240.out
           have hcz46_0 : wr.cell? ⟨gb240, 0, none⟩ = some (.int .i64 a0_0) := (blk_cell BK240.out 0).trans rfl
           have hcz46_1 : wr.cell? ⟨gb240, 1, none⟩ = some (u241001) := (blk_cell BK240.out 1).trans rfl
           have hcz46_2 : wr.cell? ⟨gb240, 2, none⟩ = some (.slice none 0 0) := (blk_cell BK240.out 2).trans rfl
           have hfz46_0 := blk_frozen BK240.out 0
           have hfz46_1 := blk_frozen BK240.out 1
           have hfz46_2 := blk_frozen BK240.out 2
           have p43 : 0 ≤ (x35_2 : Int) := of_decide_eq_true (by first | (with_reducible assumption) | assumption)
           have q43 : (x35_2 : Int) < ((x241001_2.length : Int) : Int) := of_decide_eq_true (by first | (with_reducible assumption) | assumption)
           obtain ⟨go43, co43, eo43, gb43, gl43, cl43, HG43⟩ := Kd.R_form HO_241001.out (by omega)
           (first | cases eo43 | (injection eo43 with ea_ en_ ec_; (first | subst ea_ | (injection ea_ with ea_; subst ea_)); subst ec_; clear en_))
           have GB43 := Aside0.mk gb43
           have GG43 := Aside0.mk HG43
           clear gb43 gl43 HG43
           obtain ⟨hx43_0, hf43_0⟩ := Kd.R_celln (⟨#[]⟩ : ByteArray) HO_241001.out (x35_2 : Int) p43 q43
           replace p43 := eq_true p43
           replace q43 := eq_true q43
           have HP47 := Kd.R_putg HO_241001.out (x35_2 : Int) (⟨#[]⟩ : ByteArray)
           go_wp2_with (first | ((with_reducible refine gate_store (t := 9) (p := 46) rfl ?_); refine store_event (t := 9) (p := 46) (v := ?vo_w48) (w1 := (wr.setCell ⟨go43, (x35_2 : Int).toNat, none⟩ (.string (⟨#[]⟩ : ByteArray)))) ?hg ?ho ?hn ?hr ?_; (case ho => rfl); (case hg => rfl); (case hn => rfl); (case hr => first | (go_simp; done) | (go_simp; rfl)); intro w48 hw; have hg : wr.grownBy w48 (some go43) := (by rw [hw]; exact HP47.2); have hp_ : Kd.R Kd.string 9 w48 w.heap.size (fun _ => True) (.slice (some ⟨go43, 0, none⟩) x241001_2.length co43) y242 := (by rw [hw, Ny242.out]; exact HP47.1); clear HP47; have n0_ := Aside0.mk (hp_); have n1_ := Aside0.mk (blk_grown (g := gb232) (o := .cells #[.int .i64 a0_0, .slice (some ad241) l0_1.length c0_1, .slice A0_2 l0_2.length c0_2] 27 (0, 0)) (uK BK232) hg (Kd.R_ne HO_241001.out BK232.out (by decide))); have n2_ := Aside0.mk (blk_grown (g := gb233) (o := .cells #[.int .i64 0, .slice none 0 0, .slice none 0 0] 27 (0, 0)) (uK BK233) hg (Kd.R_ne HO_241001.out BK233.out (by decide))); have n3_ := Aside0.mk (blk_grown (g := gb240) (o := .cells #[.int .i64 a0_0, .slice (some ⟨go43, 0, none⟩) x241001_2.length co43, .slice none 0 0] 27 (0, 0)) (uK BK240) hg (Kd.R_ne HO_241001.out BK240.out (by decide))); have n4_ := Aside0.mk ((by rw [hw]; exact below_set (HB.out) GB43.out : Below w.heap.size w w48)); clear HO_241001 BK232 BK233 BK240 HB; have HO_241001 := n0_; have BK232 := n1_; have BK233 := n2_; have BK240 := n3_; have HB := n4_; clear n0_ n1_ n2_ n3_ n4_; clear hg hw hp_))
           go_roundg k2
           case measure => have := HJ2.out; have := HK2.out; omega
           case rel => exact ⟨(wrap64 (x35_2 + 1)), (y242), (.slice (some ⟨go43, 0, none⟩) x241001_2.length co43), (by first | rfl | (simp; done) | (simp [*]; done)), H', ⟨by have := HJ2.out; have := HK2.out; omega⟩, ⟨by (with_reducible repeat (first | apply Kd.R_alloc | apply Kd.R_drewN | apply Kd.R_drew)); exact HO_241001.out⟩, ⟨by refine uW ?_; exact BK232.out⟩, ⟨by refine uW ?_; exact BK233.out⟩, ⟨by refine uW ?_; exact BK240.out⟩, ⟨by first | exact uB HB | exact uS HB (gC GE232 (gC GE233 (gC GE240 gN)))⟩⟩
          ·
           rw [if_neg c42] at H
           exact absurd H (by simp)
         ·
          rw [if_neg c41] at H
          have c41b0 : ((rdOf ByteArray.empty l0_1 x35_2).toList == a1.toList) = false := beq_eq_false_iff_ne.mpr c41
          have c41b1 : ((rdOf ByteArray.empty l0_1 x35_2).toList != a1.toList) = true := bne_iff_ne.mpr c41
          have H' := Aside0.mk H
          clear H
          have p241 : 0 ≤ (x35_2 : Int) := of_decide_eq_true (by first | (with_reducible assumption) | assumption)
          have q241 : x35_2 < (l0_1.length : Int) := of_decide_eq_true (by first | (with_reducible assumption) | assumption)
          obtain ⟨ad241, e241, hx241_0⟩ := Kd.at_string HR0_1.out x35_2 p241 q241
          cases e241
          replace hx241_0 := (HB.out.cell (World.block_lt_of_cell? w _ hx241_0)).trans hx241_0
          replace p241 := eq_true p241
          replace q241 := eq_true q241
          go_wp2
          go_roundg k2
          case measure => have := HJ2.out; have := HK2.out; omega
          case rel => exact ⟨(wrap64 (x35_2 + 1)), (x241001_2), (u241001), (by first | rfl | (simp; done) | (simp [*]; done)), H', ⟨by have := HJ2.out; have := HK2.out; omega⟩, ⟨by (with_reducible repeat (first | apply Kd.R_alloc | apply Kd.R_drewN | apply Kd.R_drew)); exact HO_241001.out⟩, ⟨by refine uW ?_; exact BK232.out⟩, ⟨by refine uW ?_; exact BK233.out⟩, ⟨by refine uW ?_; exact BK240.out⟩, ⟨by first | exact uB HB | exact uS HB (gC GE232 (gC GE233 (gC GE240 gN)))⟩⟩
        ·
         rw [if_neg c40] at H
         exact absurd H (by simp)
       ·
        rw [if_neg c39] at H
        exact absurd H (by simp)
      ·
       rw [if_neg c38] at H
       have c38b0 : decide (x35_2 < (l0_1.length : Int)) = false := decide_eq_false c38
       clear c38
       have H' := Aside0.mk H
       clear H
       have hnb49 := NB232_233.out
       have hnc49 := NB233_232.out
       have hnb50 := NB232_240.out
       have hnc50 := NB240_232.out
       have hcz51_0 : wr.cell? ⟨gb232, 0, none⟩ = some (.int .i64 a0_0) := (blk_cell BK232.out 0).trans rfl
       have hcz51_1 : wr.cell? ⟨gb232, 1, none⟩ = some (.slice A0_1 l0_1.length c0_1) := (blk_cell BK232.out 1).trans rfl
       have hcz51_2 : wr.cell? ⟨gb232, 2, none⟩ = some (.slice A0_2 l0_2.length c0_2) := (blk_cell BK232.out 2).trans rfl
       have hfz51_0 := blk_frozen BK232.out 0
       have hfz51_1 := blk_frozen BK232.out 1
       have hfz51_2 := blk_frozen BK232.out 2
       go_wp2
       go_loopg [51] k2 (fun kq v51 w' => ∃ (x51_3 : Int) (x241002_3 : List ByteArray) (u241002 : Value), v51 = .int .i64 x51_3 ∧ Aside0 (spec_CuckooRemove.l1 kq a1 l0_2 (l0_2.length : Int) x51_3 a0_0 x241001_2 x241002_3 = some (r1, r2, r3, r4)) ∧ Aside0 (kq ≤ k2) ∧ Aside0 (Kd.R Kd.string 9 w' w.heap.size (fun k_ => some k_ ≠ (u241002 : Value).ownBlock) u241001 x241001_2) ∧ Aside0 (Kd.R Kd.string 9 w' w.heap.size (fun k_ => some k_ ≠ (u241001 : Value).ownBlock) u241002 x241002_3) ∧ Aside0 (w'.heap[gb232]? = some (.cells #[.int .i64 a0_0, (.slice A0_1 l0_1.length c0_1), (.slice A0_2 l0_2.length c0_2)] 27 (0, 0))) ∧ Aside0 (w'.heap[gb233]? = some (.cells #[.int .i64 0, (.slice none 0 0), (.slice none 0 0)] 27 (0, 0))) ∧ Aside0 (w'.heap[gb240]? = some (.cells #[.int .i64 a0_0, u241001, u241002] 27 (0, 0))) ∧ Aside0 (Below w.heap.size w w'))
       case atStart => exact ⟨(0), (([] : List ByteArray)), (.slice none 0 0), (by first | rfl | (simp; done) | (simp [*]; done)), H', ⟨Nat.le_refl _⟩, ⟨by (with_reducible repeat (first | apply Kd.R_alloc | apply Kd.R_drewN | apply Kd.R_drew)); exact Kd.R_mono HO_241001.out (fun _ hk => (by simp [Value.ownBlock]))⟩, ⟨by first | exact Kd.R_nil _ _ _ _ _ | exact Kd.N_nil _ _ _ _ _ | exact Kd.V_nil _ _ _ _ _ | exact Kd.Q_nil _ _ _ _ _ | exact Kd.S_nil _ _ _ _ _⟩, ⟨by refine uW ?_; exact BK232.out⟩, ⟨by refine uW ?_; exact BK233.out⟩, ⟨by refine uW ?_; exact BK240.out⟩, ⟨by first | exact uB HB | exact uS HB (gC GE232 (gC GE233 (gC GE240 gN)))⟩⟩
       case round =>
        clear H'
        try clear c1
        try clear c2
        try clear p2
        try clear q2
        try clear hx2
        try clear c3
        try clear c4
        try clear p4
        try clear q4
        try clear hx4
        try clear hf4
        try clear c5
        try clear p6
        try clear c7
        try clear c9
        try clear c11
        try clear c16
        try clear c19
        try clear c22
        try clear c23
        try clear p24
        try clear q24
        try clear hx24
        try clear c26
        try clear c34
        try clear c35
        try clear c36
        try clear c38
        try clear c38b0
        try clear c39
        try clear c39b0
        try clear c40
        try clear c40b0
        try clear c41
        try clear c41b0
        try clear c41b1
        try clear c42
        try clear c42b0
        try clear p43
        try clear q43
        try clear hx43
        try clear hf43
        try clear c44
        try clear c45
        try clear c47
        try clear c49
        try clear c50
        try clear hcz12_0
        try clear hcz12_1
        try clear hcz12_2
        try clear hcz14_0
        try clear hcz14_1
        try clear hcz14_2
        try clear hcz17_0
        try clear hcz17_1
        try clear hcz17_2
        try clear hcz20_0
        try clear hcz20_1
        try clear hcz20_2
        try clear hcz24_0
        try clear hcz24_1
        try clear hcz24_2
        try clear hcz37_0
        try clear hcz37_1
        try clear hcz37_2
        try clear hcz46_0
        try clear hcz46_1
        try clear hcz46_2
        try clear hcz51_0
        try clear hcz51_1
        try clear hcz51_2
        try clear hfz12_0
        try clear hfz12_1
        try clear hfz12_2
        try clear hfz14_0
        try clear hfz14_1
        try clear hfz14_2
        try clear hfz17_0
        try clear hfz17_1
        try clear hfz17_2
        try clear hfz20_0
        try clear hfz20_1
        try clear hfz20_2
        try clear hfz24_0
        try clear hfz24_1
        try clear hfz24_2
        try clear hfz37_0
        try clear hfz37_1
        try clear hfz37_2
        try clear hfz46_0
        try clear hfz46_1
        try clear hfz46_2
        try clear hfz51_0
        try clear hfz51_1
        try clear hfz51_2
        try clear hx241_0
        try clear hx43_0
        try clear p2
        try clear p241
        try clear p43
        try clear q241
        try clear q43
        obtain ⟨x51_3, x241002_3, u241002, rfl, HA, HK3, HO_241001, HO_241002, BK232, BK233, BK240, HB⟩ := hrel
        cases gk with
        | zero => exact absurd HA.out (by simp [spec_CuckooRemove.l1])
        | succ k3 =>
         have H := HA.out
         clear HA
         simp only [spec_CuckooRemove.l1] at H
         by_cases c52 : x51_3 < (l0_2.length : Int)
         ·
          rw [if_pos c52] at H
          have c52b0 : decide (x51_3 < (l0_2.length : Int)) = true := decide_eq_true c52
          clear c52
          by_cases c53 : 0 ≤ x51_3
          ·
           rw [if_pos c53] at H
           have c53b0 : decide (0 ≤ x51_3) = true := decide_eq_true c53
           clear c53
           by_cases c54 : x51_3 < (l0_2.length : Int)
           ·
            rw [if_pos c54] at H
            have c54b0 : decide (x51_3 < (l0_2.length : Int)) = true := decide_eq_true c54
            clear c54
            by_cases c55 : (rdOf ByteArray.empty l0_2 x51_3).toList = a1.toList
            ·
             rw [if_pos c55] at H
             have c55b0 : ((rdOf ByteArray.empty l0_2 x51_3).toList == a1.toList) = true := beq_iff_eq.mpr c55
             have c55b1 : ((rdOf ByteArray.empty l0_2 x51_3).toList != a1.toList) = false := bne_eq_false_iff_eq.mpr c55
             clear c55
             have H' := Aside0.mk H
             clear H
             have p243 : 0 ≤ (x51_3 : Int) := of_decide_eq_true (by first | (with_reducible assumption) | assumption)
             have q243 : x51_3 < (l0_2.length : Int) := of_decide_eq_true (by first | (with_reducible assumption) | assumption)
             obtain ⟨ad243, e243, hx243_0⟩ := Kd.at_string HR0_2.out x51_3 p243 q243
             cases e243
             replace hx243_0 := (HB.out.cell (World.block_lt_of_cell? w _ hx243_0)).trans hx243_0
             replace p243 := eq_true p243
             replace q243 := eq_true q243
             go_wp2
             go_roundg k3
             case measure => have := HJ2.out; have := HK2.out; have := HK3.out; omega
             case rel => exact ⟨(wrap64 (x51_3 + 1)), (x241002_3), (u241002), (by first | rfl | (simp; done) | (simp [*]; done)), H', ⟨by have := HJ2.out; have := HK2.out; have := HK3.out; omega⟩, ⟨by (with_reducible repeat (first | apply Kd.R_alloc | apply Kd.R_drewN | apply Kd.R_drew)); exact HO_241001.out⟩, ⟨by (with_reducible repeat (first | apply Kd.R_alloc | apply Kd.R_drewN | apply Kd.R_drew)); exact HO_241002.out⟩, ⟨by refine uW ?_; exact BK232.out⟩, ⟨by refine uW ?_; exact BK233.out⟩, ⟨by refine uW ?_; exact BK240.out⟩, ⟨by first | exact uB HB | exact uS HB (gC GE232 (gC GE233 (gC GE240 gN)))⟩⟩
            ·
             rw [if_neg c55] at H
             have c55b0 : ((rdOf ByteArray.empty l0_2 x51_3).toList == a1.toList) = false := beq_eq_false_iff_ne.mpr c55
             have c55b1 : ((rdOf ByteArray.empty l0_2 x51_3).toList != a1.toList) = true := bne_iff_ne.mpr c55
             by_cases c56 : x241002_3.length < 8796093022208
             ·
              rw [if_pos c56] at H
              have LMc56 := Aside0.mk c56
              clear c56
              obtain ⟨y244, hy244⟩ : ∃ y_ : List ByteArray, y_ = (x241002_3 ++ [rdOf ByteArray.empty l0_2 x51_3]) := ⟨_, rfl⟩
              replace H : (spec_CuckooRemove.l1 k3 a1 l0_2 (l0_2.length : Int) (wrap64 (x51_3 + 1)) a0_0 x241001_2 y244) = some (r1, r2, r3, r4) := by first | (rw [hy244]; with_reducible exact H) | (have H2_ := (Option.bind_some _ _).symm.trans H; rw [hy244]; with_reducible exact H2_) | (have H2_ := (Option.bind_some _ _).symm.trans H; with_reducible exact H2_) | with_reducible exact H | (rw [hy244]; exact H) | exact H
              have Ny244 := Aside0.mk hy244
              clear hy244
              have H' := Aside0.mk H
              clear H
              have p243 : 0 ≤ (x51_3 : Int) := of_decide_eq_true (by first | (with_reducible assumption) | assumption)
              have q243 : x51_3 < (l0_2.length : Int) := of_decide_eq_true (by first | (with_reducible assumption) | assumption)
              obtain ⟨ad243, e243, hx243_0⟩ := Kd.at_string HR0_2.out x51_3 p243 q243
              cases e243
              replace hx243_0 := (HB.out.cell (World.block_lt_of_cell? w _ hx243_0)).trans hx243_0
              replace p243 := eq_true p243
              replace q243 := eq_true q243
              have hnb57 := NB240_232.out
              have hnc57 := NB232_240.out
              have hnb58 := NB240_233.out
              have hnc58 := NB233_240.out
              have hcz59_0 : wr.cell? ⟨gb240, 0, none⟩ = some (.int .i64 a0_0) := (blk_cell BK240.out 0).trans rfl
              have hcz59_1 : wr.cell? ⟨gb240, 1, none⟩ = some (u241001) := (blk_cell BK240.out 1).trans rfl
              have hcz59_2 : wr.cell? ⟨gb240, 2, none⟩ = some (u241002) := (blk_cell BK240.out 2).trans rfl
              have hfz59_0 := blk_frozen BK240.out 0
              have hfz59_1 := blk_frozen BK240.out 1
              have hfz59_2 := blk_frozen BK240.out 2
              go_wp2_with (first | ((with_reducible refine gate_builtin (b := .append) (xs := #[.tmp 59, .tmp 61]) rfl ?_); at_builtin; refine Kd.R_append Kd.string (w0 := w) w.heap.size rfl (.tmp 59) (.tmp 61) 22 9 (.string ⟨#[]⟩) 16 rfl Try.underlying22 info9 rfl (by decide) (by omega) u241002 x241002_3 (rdOf ByteArray.empty l0_2 x51_3) [.string (rdOf ByteArray.empty l0_2 x51_3)] (fun k_ => some k_ ≠ (u241001 : Value).ownBlock) (fun _ => False) rfl rfl ?aP (fun _ hk => hk.elim) ?aF ?aO ?aB ?aS ?aL ?_; (case aP => exact rfl); (case aB => exact (by first | exact uB HB | exact uS HB (gC GE232 (gC GE233 (gC GE240 gN))))); (case aF => exact (fun k_ hk => Kd.fresh' (Kd.R_lt (uR HO_241001)) k_ hk)); (case aO => exact (uR HO_241002)); (case aS => exact (below_size (by first | exact uB HB | exact uS HB (gC GE232 (gC GE233 (gC GE240 gN)))))); (case aL => have := LMc56.out; omega); intro v245 w60 ho hb hg hat; rw [← Ny244.out] at ho; have n0_ := Aside0.mk (Kd.R_after (ok := (fun _ => True)) (by (with_reducible repeat (first | apply Kd.R_alloc | apply Kd.R_drewN | apply Kd.R_drew)); exact Kd.R_mono HO_241001.out (fun _ hk => ⟨trivial, hk⟩)) hg hat); have n1_ := Aside0.mk (blk_grown (g := gb232) (o := .cells #[.int .i64 a0_0, .slice A0_1 l0_1.length c0_1, .slice (some ad243) l0_2.length c0_2] 27 (0, 0)) (uK BK232) hg (Kd.R_ne HO_241002.out BK232.out (by decide))); have n2_ := Aside0.mk (blk_grown (g := gb233) (o := .cells #[.int .i64 0, .slice none 0 0, .slice none 0 0] 27 (0, 0)) (uK BK233) hg (Kd.R_ne HO_241002.out BK233.out (by decide))); have n3_ := Aside0.mk (blk_grown (g := gb240) (o := .cells #[.int .i64 a0_0, u241001, u241002] 27 (0, 0)) (uK BK240) hg (Kd.R_ne HO_241002.out BK240.out (by decide))); have n4_ := Aside0.mk (hb); have n5_ := Aside0.mk (ho); clear HO_241001 BK232 BK233 BK240 HB HO_241002; have HO_241001 := n0_; have BK232 := n1_; have BK233 := n2_; have BK240 := n3_; have HB := n4_; have HO246 := n5_; clear n0_ n1_ n2_ n3_ n4_ n5_ ho hb hg hat; obtain ⟨Ao61, co61, eo61⟩ := Kd.R_slice HO246.out; subst eo61; have hcz62_0 : w60.cell? ⟨gb240, 0, none⟩ = some (.int .i64 a0_0) := (blk_cell BK240.out 0).trans rfl; have hcz62_1 : w60.cell? ⟨gb240, 1, none⟩ = some (u241001) := (blk_cell BK240.out 1).trans rfl; have hcz62_2 : w60.cell? ⟨gb240, 2, none⟩ = some (u241002) := (blk_cell BK240.out 2).trans rfl; have hfz62_0 := blk_frozen BK240.out 0; have hfz62_1 := blk_frozen BK240.out 1; have hfz62_2 := blk_frozen BK240.out 2))
              go_roundg k3
              case measure => have := HJ2.out; have := HK2.out; have := HK3.out; omega
              case rel => exact ⟨(wrap64 (x51_3 + 1)), (y244), (.slice Ao61 y244.length co61), (by first | rfl | (simp; done) | (simp [*]; done)), H', ⟨by have := HJ2.out; have := HK2.out; have := HK3.out; omega⟩, ⟨by (with_reducible repeat (first | apply Kd.R_alloc | apply Kd.R_drewN | apply Kd.R_drew)); exact Kd.R_mono (Kd.R_far (p := ⟨gb240, 2, none⟩) (Kd.R_types HO_241001.out BK240.out (by decide)) (fun _ hk => hk.2) (.slice Ao61 y244.length co61)) (fun _ hk => hk.1.2)⟩, ⟨by (with_reducible repeat (first | apply Kd.R_alloc | apply Kd.R_drewN | apply Kd.R_drew)); exact Kd.R_mono (Kd.R_far (p := ⟨gb240, 2, none⟩) (Kd.R_types HO246.out BK240.out (by decide)) (fun _ hk => hk.2) (.slice Ao61 y244.length co61)) (fun _ hk => hk.1)⟩, ⟨by refine uW ?_; refine blk_far ?_ NB232_240.out _; refine uW ?_; exact BK232.out⟩, ⟨by refine uW ?_; refine blk_far ?_ NB233_240.out _; refine uW ?_; exact BK233.out⟩, ⟨by refine uW ?_; refine blk_put (cs := #[.int .i64 a0_0, u241001, u241002]) ?_ 2 _ rfl; refine uW ?_; exact BK240.out⟩, ⟨by first | exact uB HB | exact uS HB (gC GE232 (gC GE233 (gC GE240 gN)))⟩⟩
             ·
              rw [if_neg c56] at H
              exact absurd H (by simp)
           ·
            rw [if_neg c54] at H
            exact absurd H (by simp)
          ·
           rw [if_neg c53] at H
           exact absurd H (by simp)
         ·
          rw [if_neg c52] at H
          have c52b0 : decide (x51_3 < (l0_2.length : Int)) = false := decide_eq_false c52
          clear c52
          simp only [Option.some.injEq, Prod.mk.injEq] at H
          obtain ⟨rfl, rfl, rfl, rfl⟩ := H
          have hnb63 := NB240_232.out
          have hnc63 := NB232_240.out
          have hnb64 := NB240_233.out
          have hnc64 := NB233_240.out
          have hcz65_0 : wr.cell? ⟨gb240, 0, none⟩ = some (.int .i64 a0_0) := (blk_cell BK240.out 0).trans rfl
          have hcz65_1 : wr.cell? ⟨gb240, 1, none⟩ = some (u241001) := (blk_cell BK240.out 1).trans rfl
          have hcz65_2 : wr.cell? ⟨gb240, 2, none⟩ = some (u241002) := (blk_cell BK240.out 2).trans rfl
          have hfz65_0 := blk_frozen BK240.out 0
          have hfz65_1 := blk_frozen BK240.out 1
          have hfz65_2 := blk_frozen BK240.out 2
          have hnb66 := NB233_232.out
          have hnc66 := NB232_233.out
          have hcz67_0 : wr.cell? ⟨gb233, 0, none⟩ = some (.int .i64 0) := (blk_cell BK233.out 0).trans rfl
          have hcz67_1 : wr.cell? ⟨gb233, 1, none⟩ = some (.slice none 0 0) := (blk_cell BK233.out 1).trans rfl
          have hcz67_2 : wr.cell? ⟨gb233, 2, none⟩ = some (.slice none 0 0) := (blk_cell BK233.out 2).trans rfl
          have hfz67_0 := blk_frozen BK233.out 0
          have hfz67_1 := blk_frozen BK233.out 1
          have hfz67_2 := blk_frozen BK233.out 2
          obtain ⟨Ao68, co68, eo68⟩ := Kd.R_slice HO_241001.out
          subst eo68
          obtain ⟨Ao69, co69, eo69⟩ := Kd.R_slice HO_241002.out
          subst eo69
          go_wp2
          refine bodyPost_ret (results_ct rfl _ _ gb233 27 #[.int .i64 a0_0, .slice Ao68 x241001_2.length co68, .slice Ao69 x241002_3.length co69] (0, 0) _ rfl (by refine uW ?_; refine blk_put (cs := #[.int .i64 a0_0, .slice Ao68 x241001_2.length co68, .slice none 0 0]) ?_ 2 _ rfl; refine uW ?_; refine blk_put (cs := #[.int .i64 a0_0, .slice none 0 0, .slice none 0 0]) ?_ 1 _ rfl; refine uW ?_; refine blk_put (cs := #[.int .i64 0, .slice none 0 0, .slice none 0 0]) ?_ 0 _ rfl; refine uW ?_; exact BK233.out) Try.underlying27 rfl (by kernel_rfl)) rfl ?_
          exact ⟨_, _, by first | rfl | (simp [errW_none, errW_some] <;> rfl) | (simp [*, errW_none, errW_some] <;> rfl), by (with_reducible repeat (first | apply Kd.R_alloc | apply Kd.R_drewN | apply Kd.R_drew)); exact Kd.R_mono (Kd.R_far (p := ⟨gb233, 2, none⟩) (Kd.R_far (p := ⟨gb233, 1, none⟩) (Kd.R_far (p := ⟨gb233, 0, none⟩) (Kd.R_types HO_241001.out BK233.out (by decide)) (fun _ hk => hk.2) (.int .i64 a0_0)) (fun _ hk => hk.2) (.slice Ao68 x241001_2.length co68)) (fun _ hk => hk.2) (.slice Ao69 x241002_3.length co69)) (fun _ hk => hk.1), by (with_reducible repeat (first | apply Kd.R_alloc | apply Kd.R_drewN | apply Kd.R_drew)); exact Kd.R_mono (Kd.R_far (p := ⟨gb233, 2, none⟩) (Kd.R_far (p := ⟨gb233, 1, none⟩) (Kd.R_far (p := ⟨gb233, 0, none⟩) (Kd.R_types HO_241002.out BK233.out (by decide)) (fun _ hk => hk.2) (.int .i64 a0_0)) (fun _ hk => hk.2) (.slice Ao68 x241001_2.length co68)) (fun _ hk => hk.2) (.slice Ao69 x241002_3.length co69)) (fun _ hk => hk.1), by first | exact uB HB | exact uS HB (gC GE232 (gC GE233 (gC GE240 gN)))⟩

end Go.Proofs.Ytmccpdjmplijgaa.PFnExactCuckooRemove
