-- made by wip/tools/myprint.py over the kit's print, for this claim
import Derived.Test.YtllaofiopnhdgaaPFnSparseCountsx0
import Derived.Test.YtllaofiopnhdgaaPFnSparseCountsx4
import Derived.Test.YtllaofiopnhdgaaPFnSparseCountsx7
import Derived.Test.YtllaofiopnhdgaaPFnSparseCountsx11
import Derived.Test.YtllaofiopnhdgaaPFnSparseCountsx12
import Derived.Test.YtllaofiopnhdgaaPFnSparseCountsx14
namespace Go.Proofs.Ytllaofiopnhdgaa.PFnSparseCounts
open Go.RowKit Go.Proofs.YtllaofiopnhdgaaW.PrintWords Go.Proofs.YtllaofiopnhdgaaW.PrintLast Go.Proofs.YtllaofiopnhdgaaW.PrintMore
open List (setIfInBounds_toArray set_cons_zero set_cons_succ)
attribute [local go_sem] max2_int min2_int max_two min_two max_three min_three max_four min_four   -- for this text's walks alone
set_option linter.unusedVariables false
set_option linter.unusedSimpArgs false

/-! ### spec_spAsked: function 25 -/
def spec_spAsked.f (k : Nat) (a0_0 : Int) (a0_1 : Int) (a0_2 : Int) (a0_3 : Int) (l0_4 : List Int) (a0_5 : Int) (l0_6 : List Int) (a1 : Int) : Option (Bool) := (spec_spGood.f k a0_0 a0_1 a0_2 a0_3 l0_4 a0_5 l0_6).bind fun t519 => (if t519 = true then ((spec_l1In.f a1 0 (wrap64 (a0_1 - 1))).bind fun t520 => (some t520)) else (some false))
theorem spec_spAsked.mono : ∀ a0 a1 a2 a3 a4 a5 a6 a7 k, LeO (spec_spAsked.f k a0 a1 a2 a3 a4 a5 a6 a7) (spec_spAsked.f (k + 1) a0 a1 a2 a3 a4 a5 a6 a7) := by
 intro a0 a1 a2 a3 a4 a5 a6 a7 k
 unfold spec_spAsked.f
 repeat' first
   | with_reducible first | exact spec_spGood.mono .. | exact LeO.refl _ | exact LeO.none _ | refine LeO.ite ?_ ?_ | refine LeO.bind ?_ (fun _ => ?_)
   | exact spec_spGood.mono .. | exact LeO.none _ | refine LeO.ite ?_ ?_ | refine LeO.bind ?_ (fun _ => ?_)
set_option maxHeartbeats 8000000 in
set_option maxRecDepth 100000 in
theorem spec_spAsked.calls (k : Nat) (a0_0 : Int) (a0_1 : Int) (a0_2 : Int) (a0_3 : Int) (A0_4 : Option Addr) (c0_4 : Nat) (l0_4 : List Int) (a0_5 : Int) (A0_6 : Option Addr) (c0_6 : Nat) (l0_6 : List Int) (a1 : Int) (r : Bool) (w : World) (hr0_4 : Kd.C (Kd.int .i64) w A0_4 l0_4.length l0_4) (hc0_4 : l0_4.length ≤ c0_4) (hr0_6 : Kd.C (Kd.int .i64) w A0_6 l0_6.length l0_6) (hc0_6 : l0_6.length ≤ c0_6) (h : spec_spAsked.f k a0_0 a0_1 a0_2 a0_3 l0_4 a0_5 l0_6 a1 = some r) :
  Calls Try.prog 25 #[.agg #[.int .i64 a0_0, .int .i64 a0_1, .int .i64 a0_2, .int .i64 a0_3, .slice A0_4 l0_4.length c0_4, .int .i64 a0_5, .slice A0_6 l0_6.length c0_6], .int .i64 a1] w fun e w' => e = .returned (.bool r) ∧ Below w.heap.size w w' := by
 have hu28 := Try.underlying28
 have HR0_4 := Aside0.mk hr0_4
 have HC0_4 := Aside0.mk hc0_4
 clear hr0_4 hc0_4
 have HR0_6 := Aside0.mk hr0_6
 have HC0_6 := Aside0.mk hc0_6
 clear hr0_6 hc0_6
 have HB := Aside0.mk (Below.refl w.heap.size w)
 have H : ((spec_spGood.f k a0_0 a0_1 a0_2 a0_3 l0_4 a0_5 l0_6).bind fun t519 => (if t519 = true then ((spec_l1In.f a1 0 (wrap64 (a0_1 - 1))).bind fun t520 => (some t520)) else (some false))) = some r := h
 clear h
 replace H := Option.bind_eq_some_iff.mp H
 obtain ⟨t519, A30, H⟩ := H
 try dsimp only at H
 have A3 := Aside0.mk A30
 clear A30
 by_cases c4 : t519 = true
 ·
  subst c4
  rw [if_pos rfl] at H
  replace H := Option.bind_eq_some_iff.mp H
  obtain ⟨t520, A50, H⟩ := H
  try dsimp only at H
  have A5 := Aside0.mk A50
  clear A50
  obtain rfl := Option.some.inj H
  go_enter Try.func25, Try.ntmps25
  go_wp2_with (first | ((with_reducible refine gate_dst (N := 2) rfl ?_); refine box_event ?hg (N := 2) ?hd (cs := #[.int .i64 a0_0, .int .i64 a0_1, .int .i64 a0_2, .int .i64 a0_3, .slice A0_4 l0_4.length c0_4, .int .i64 a0_5, .slice A0_6 l0_6.length c0_6]) (t := 28) ?hr ?_; (case hd => rfl); (case hg => rfl); (case hr => exact Z93); intro gb518 hg w6 hbox hb; have BK518 := Aside0.mk (hbox); have GW518 := nG HB hg; have GE518 := nG HB hg; have GI518 := gI GE518; replace HB := Aside0.mk (below_step (uN HB) hb); clear hb hbox hg; have hcz7_0 : w6.cell? ⟨gb518, 0, none⟩ = some (.int .i64 a0_0) := bc BK518 0; have hcz7_1 : w6.cell? ⟨gb518, 1, none⟩ = some (.int .i64 a0_1) := bc BK518 1; have hcz7_2 : w6.cell? ⟨gb518, 2, none⟩ = some (.int .i64 a0_2) := bc BK518 2; have hcz7_3 : w6.cell? ⟨gb518, 3, none⟩ = some (.int .i64 a0_3) := bc BK518 3; have hcz7_4 : w6.cell? ⟨gb518, 4, none⟩ = some (.slice A0_4 l0_4.length c0_4) := bc BK518 4; have hcz7_5 : w6.cell? ⟨gb518, 5, none⟩ = some (.int .i64 a0_5) := bc BK518 5; have hcz7_6 : w6.cell? ⟨gb518, 6, none⟩ = some (.slice A0_6 l0_6.length c0_6) := bc BK518 6; have hfz7_0 := blk_frozen BK518.out 0; have hfz7_1 := blk_frozen BK518.out 1; have hfz7_2 := blk_frozen BK518.out 2; have hfz7_3 := blk_frozen BK518.out 3; have hfz7_4 := blk_frozen BK518.out 4; have hfz7_5 := blk_frozen BK518.out 5; have hfz7_6 := blk_frozen BK518.out 6) | ((with_reducible refine gate_callee (f := 29) rfl ?_); refine goesL_ (some 6) rfl rfl Try.func29 Z92 rfl #[.agg #[.int .i64 a0_0, .int .i64 a0_1, .int .i64 a0_2, .int .i64 a0_3, .slice A0_4 l0_4.length c0_4, .int .i64 a0_5, .slice A0_6 l0_6.length c0_6]] rfl Z89 ?_; (with_reducible refine (spec_spGood.calls k a0_0 a0_1 a0_2 a0_3 _ _ l0_4 a0_5 _ _ l0_6 true _ ?side1 ?side2 ?side3 ?side4 A3.out).mono ?_); (case side1 => exact uC HR0_4 HB); (case side2 => exact HC0_4.out); (case side3 => exact uC HR0_6 HB); (case side4 => exact HC0_6.out); rintro e w8 ⟨rfl, hb⟩; refine ⟨_, rfl, ?_⟩; replace BK518 := kB BK518 hb; replace HB := Aside0.mk (below_step Z57 hb); (try clear hb); (try clear hb2); (try clear hk); (try clear hi); have hcz9_0 : w8.cell? ⟨gb518, 0, none⟩ = some (.int .i64 a0_0) := bc BK518 0; have hcz9_1 : w8.cell? ⟨gb518, 1, none⟩ = some (.int .i64 a0_1) := bc BK518 1; have hcz9_2 : w8.cell? ⟨gb518, 2, none⟩ = some (.int .i64 a0_2) := bc BK518 2; have hcz9_3 : w8.cell? ⟨gb518, 3, none⟩ = some (.int .i64 a0_3) := bc BK518 3; have hcz9_4 : w8.cell? ⟨gb518, 4, none⟩ = some (.slice A0_4 l0_4.length c0_4) := bc BK518 4; have hcz9_5 : w8.cell? ⟨gb518, 5, none⟩ = some (.int .i64 a0_5) := bc BK518 5; have hcz9_6 : w8.cell? ⟨gb518, 6, none⟩ = some (.slice A0_6 l0_6.length c0_6) := bc BK518 6; have hfz9_0 := blk_frozen BK518.out 0; have hfz9_1 := blk_frozen BK518.out 1; have hfz9_2 := blk_frozen BK518.out 2; have hfz9_3 := blk_frozen BK518.out 3; have hfz9_4 := blk_frozen BK518.out 4; have hfz9_5 := blk_frozen BK518.out 5; have hfz9_6 := blk_frozen BK518.out 6) | (go_at_call 30; (with_reducible refine (spec_l1In.calls a1 0 (wrap64 (a0_1 - 1)) t520 _ A5.out).mono ?_); rintro e w' ⟨rfl, ⟨nd, rfl⟩⟩))
  go_ret
  exact ⟨Z90, Z57⟩
 replace c4 := Bool.eq_false_iff.mpr c4
 subst c4
 rw [if_neg (show ¬ (false = true) from Z19)] at H
 obtain rfl := Option.some.inj H
 go_enter Try.func25, Try.ntmps25
 go_wp2_with (first | ((with_reducible refine gate_dst (N := 2) rfl ?_); refine box_event ?hg (N := 2) ?hd (cs := #[.int .i64 a0_0, .int .i64 a0_1, .int .i64 a0_2, .int .i64 a0_3, .slice A0_4 l0_4.length c0_4, .int .i64 a0_5, .slice A0_6 l0_6.length c0_6]) (t := 28) ?hr ?_; (case hd => rfl); (case hg => rfl); (case hr => exact Z93); intro gb518 hg w10 hbox hb; have BK518 := Aside0.mk (hbox); have GW518 := nG HB hg; have GE518 := nG HB hg; have GI518 := gI GE518; replace HB := Aside0.mk (below_step (uN HB) hb); clear hb hbox hg; have hcz11_0 : w10.cell? ⟨gb518, 0, none⟩ = some (.int .i64 a0_0) := bc BK518 0; have hcz11_1 : w10.cell? ⟨gb518, 1, none⟩ = some (.int .i64 a0_1) := bc BK518 1; have hcz11_2 : w10.cell? ⟨gb518, 2, none⟩ = some (.int .i64 a0_2) := bc BK518 2; have hcz11_3 : w10.cell? ⟨gb518, 3, none⟩ = some (.int .i64 a0_3) := bc BK518 3; have hcz11_4 : w10.cell? ⟨gb518, 4, none⟩ = some (.slice A0_4 l0_4.length c0_4) := bc BK518 4; have hcz11_5 : w10.cell? ⟨gb518, 5, none⟩ = some (.int .i64 a0_5) := bc BK518 5; have hcz11_6 : w10.cell? ⟨gb518, 6, none⟩ = some (.slice A0_6 l0_6.length c0_6) := bc BK518 6; have hfz11_0 := blk_frozen BK518.out 0; have hfz11_1 := blk_frozen BK518.out 1; have hfz11_2 := blk_frozen BK518.out 2; have hfz11_3 := blk_frozen BK518.out 3; have hfz11_4 := blk_frozen BK518.out 4; have hfz11_5 := blk_frozen BK518.out 5; have hfz11_6 := blk_frozen BK518.out 6) | ((with_reducible refine gate_callee (f := 29) rfl ?_); refine goesL_ (some 6) rfl rfl Try.func29 Z92 rfl #[.agg #[.int .i64 a0_0, .int .i64 a0_1, .int .i64 a0_2, .int .i64 a0_3, .slice A0_4 l0_4.length c0_4, .int .i64 a0_5, .slice A0_6 l0_6.length c0_6]] rfl Z89 ?_; (with_reducible refine (spec_spGood.calls k a0_0 a0_1 a0_2 a0_3 _ _ l0_4 a0_5 _ _ l0_6 false _ ?side1 ?side2 ?side3 ?side4 A3.out).mono ?_); (case side1 => exact uC HR0_4 HB); (case side2 => exact HC0_4.out); (case side3 => exact uC HR0_6 HB); (case side4 => exact HC0_6.out); rintro e w12 ⟨rfl, hb⟩; refine ⟨_, rfl, ?_⟩; replace BK518 := kB BK518 hb; replace HB := Aside0.mk (below_step Z57 hb); (try clear hb); (try clear hb2); (try clear hk); (try clear hi)))
 go_ret
 exact ⟨Z90, Z57⟩

/-! ### spec_spBelow: function 26 -/
def spec_spBelow.l0 : Nat → Int → Int → List Int → Int → Int → Option (Int)
 | 0, _, _, _, _, _ => none
 | k + 1, x1, x5, x9, x10, x11 => if x11 < x10 then (if 0 ≤ x11 then (if x11 < (x9.length : Int) then (if (rd x9 x11) < x1 then (spec_spBelow.l0 k x1 (wrap64 (x5 + 1)) x9 x10 (wrap64 (x11 + 1))) else (spec_spBelow.l0 k x1 x5 x9 x10 (wrap64 (x11 + 1)))) else (none)) else (none)) else (some x5)
def spec_spBelow.f (k : Nat) (a0_0 : Int) (a0_1 : Int) (a0_2 : Int) (a0_3 : Int) (l0_4 : List Int) (a0_5 : Int) (l0_6 : List Int) (a1 : Int) : Option (Int) := (spec_spList.f k a0_0 a0_1 a0_2 a0_3 l0_4 a0_5 l0_6).bind fun t522 => (spec_spBelow.l0 k a1 0 t522 (t522.length : Int) 0)
theorem spec_spBelow.mono_l : ∀ k, (∀ y0 y1 y2 y3 y4, LeO (spec_spBelow.l0 k y0 y1 y2 y3 y4) (spec_spBelow.l0 (k + 1) y0 y1 y2 y3 y4))
 | 0 => fun _ _ _ _ _ r h => by simp [spec_spBelow.l0] at h | k + 1 => by
  have ih0 := spec_spBelow.mono_l k
  ·
   intro y0 y1 y2 y3 y4
   unfold spec_spBelow.l0
   repeat' first
   | with_reducible first | exact ih0 .. | exact spec_spList.mono .. | exact LeO.refl _ | exact LeO.none _ | refine LeO.ite ?_ ?_ | refine LeO.bind ?_ (fun _ => ?_)
   | exact ih0 .. | exact spec_spList.mono .. | exact LeO.none _ | refine LeO.ite ?_ ?_ | refine LeO.bind ?_ (fun _ => ?_)
theorem spec_spBelow.mono : ∀ a0 a1 a2 a3 a4 a5 a6 a7 k, LeO (spec_spBelow.f k a0 a1 a2 a3 a4 a5 a6 a7) (spec_spBelow.f (k + 1) a0 a1 a2 a3 a4 a5 a6 a7) := by
 intro a0 a1 a2 a3 a4 a5 a6 a7 k
 have ih0 := spec_spBelow.mono_l k
 unfold spec_spBelow.f
 repeat' first
   | with_reducible first | exact ih0 .. | exact spec_spList.mono .. | exact LeO.refl _ | exact LeO.none _ | refine LeO.ite ?_ ?_ | refine LeO.bind ?_ (fun _ => ?_)
   | exact ih0 .. | exact spec_spList.mono .. | exact LeO.none _ | refine LeO.ite ?_ ?_ | refine LeO.bind ?_ (fun _ => ?_)
set_option maxHeartbeats 8000000 in
set_option maxRecDepth 100000 in
theorem spec_spBelow.calls (k : Nat) (a0_0 : Int) (a0_1 : Int) (a0_2 : Int) (a0_3 : Int) (A0_4 : Option Addr) (c0_4 : Nat) (l0_4 : List Int) (a0_5 : Int) (A0_6 : Option Addr) (c0_6 : Nat) (l0_6 : List Int) (a1 : Int) (r : Int) (w : World) (hr0_4 : Kd.C (Kd.int .i64) w A0_4 l0_4.length l0_4) (hc0_4 : l0_4.length ≤ c0_4) (hr0_6 : Kd.C (Kd.int .i64) w A0_6 l0_6.length l0_6) (hc0_6 : l0_6.length ≤ c0_6) (h : spec_spBelow.f k a0_0 a0_1 a0_2 a0_3 l0_4 a0_5 l0_6 a1 = some r) :
  Calls Try.prog 26 #[.agg #[.int .i64 a0_0, .int .i64 a0_1, .int .i64 a0_2, .int .i64 a0_3, .slice A0_4 l0_4.length c0_4, .int .i64 a0_5, .slice A0_6 l0_6.length c0_6], .int .i64 a1] w fun e w' => e = .returned (.int .i64 r) ∧ Below w.heap.size w w' := by
 have hu28 := Try.underlying28
 have HR0_4 := Aside0.mk hr0_4
 have HC0_4 := Aside0.mk hc0_4
 clear hr0_4 hc0_4
 have HR0_6 := Aside0.mk hr0_6
 have HC0_6 := Aside0.mk hc0_6
 clear hr0_6 hc0_6
 have HB := Aside0.mk (Below.refl w.heap.size w)
 have H : ((spec_spList.f k a0_0 a0_1 a0_2 a0_3 l0_4 a0_5 l0_6).bind fun t522 => (spec_spBelow.l0 k a1 0 t522 (t522.length : Int) 0)) = some r := h
 clear h
 replace H := Option.bind_eq_some_iff.mp H
 obtain ⟨t522, A30, H⟩ := H
 try dsimp only at H
 have A3 := Aside0.mk A30
 clear A30
 have H' := Aside0.mk H
 clear H
 go_enter Try.func26, Try.ntmps26
 go_wp2_with (first | ((with_reducible refine gate_dst (N := 2) rfl ?_); refine box_event ?hg (N := 2) ?hd (cs := #[.int .i64 a0_0, .int .i64 a0_1, .int .i64 a0_2, .int .i64 a0_3, .slice A0_4 l0_4.length c0_4, .int .i64 a0_5, .slice A0_6 l0_6.length c0_6]) (t := 28) ?hr ?_; (case hd => rfl); (case hg => rfl); (case hr => exact Z93); intro gb521 hg w4 hbox hb; have BK521 := Aside0.mk (hbox); have GW521 := nG HB hg; have GE521 := nG HB hg; have GI521 := gI GE521; replace HB := Aside0.mk (below_step (uN HB) hb); clear hb hbox hg; have hcz5_0 : w4.cell? ⟨gb521, 0, none⟩ = some (.int .i64 a0_0) := bc BK521 0; have hcz5_1 : w4.cell? ⟨gb521, 1, none⟩ = some (.int .i64 a0_1) := bc BK521 1; have hcz5_2 : w4.cell? ⟨gb521, 2, none⟩ = some (.int .i64 a0_2) := bc BK521 2; have hcz5_3 : w4.cell? ⟨gb521, 3, none⟩ = some (.int .i64 a0_3) := bc BK521 3; have hcz5_4 : w4.cell? ⟨gb521, 4, none⟩ = some (.slice A0_4 l0_4.length c0_4) := bc BK521 4; have hcz5_5 : w4.cell? ⟨gb521, 5, none⟩ = some (.int .i64 a0_5) := bc BK521 5; have hcz5_6 : w4.cell? ⟨gb521, 6, none⟩ = some (.slice A0_6 l0_6.length c0_6) := bc BK521 6; have hfz5_0 := blk_frozen BK521.out 0; have hfz5_1 := blk_frozen BK521.out 1; have hfz5_2 := blk_frozen BK521.out 2; have hfz5_3 := blk_frozen BK521.out 3; have hfz5_4 := blk_frozen BK521.out 4; have hfz5_5 := blk_frozen BK521.out 5; have hfz5_6 := blk_frozen BK521.out 6) | ((with_reducible refine gate_callee (f := 32) rfl ?_); refine goesL_ (some 9) rfl rfl Try.func32 Z92 rfl #[.agg #[.int .i64 a0_0, .int .i64 a0_1, .int .i64 a0_2, .int .i64 a0_3, .slice A0_4 l0_4.length c0_4, .int .i64 a0_5, .slice A0_6 l0_6.length c0_6]] rfl Z89 ?_; (with_reducible refine (spec_spList.calls k a0_0 a0_1 a0_2 a0_3 _ _ l0_4 a0_5 _ _ l0_6 t522 _ ?side1 ?side2 ?side3 ?side4 A3.out).mono ?_); (case side1 => exact uC HR0_4 HB); (case side2 => exact HC0_4.out); (case side3 => exact uC HR0_6 HB); (case side4 => exact HC0_6.out); rintro e w6 ⟨v523, rfl, ho0, hb⟩; refine ⟨_, rfl, ?_⟩; have HO524 := Aside0.mk (Kd.R_lower ho0 (below_size Z42)); replace BK521 := kB BK521 hb; replace HB := Aside0.mk (below_step Z42 hb); (try clear hb); (try clear hb2); (try clear hk); (try clear hi); (try clear ho0); obtain ⟨Ao7, co7, eo7⟩ := Kd.R_slice HO524.out; subst eo7))
 go_loopg [5, 11] k (fun kq v5 v11 w' => ∃ (x5_1 : Int) (x11_1 : Int), v5 = .int .i64 x5_1 ∧ v11 = .int .i64 x11_1 ∧ Aside0 (spec_spBelow.l0 kq a1 x5_1 t522 (t522.length : Int) x11_1 = some r) ∧ Aside0 (kq ≤ k) ∧ Aside0 (Kd.R (Kd.int .i64) 3 w' w.heap.size (fun _ => True) (.slice Ao7 t522.length co7) t522) ∧ Aside0 (w'.heap[gb521]? = some (.cells #[.int .i64 a0_0, .int .i64 a0_1, .int .i64 a0_2, .int .i64 a0_3, (.slice A0_4 l0_4.length c0_4), .int .i64 a0_5, (.slice A0_6 l0_6.length c0_6)] 28 (0, 0))) ∧ Aside0 (Below w.heap.size w w'))
 case atStart => exact ⟨(0), (0), Z91, Z91, H', ⟨Nat.le_refl _⟩, ⟨by (with_reducible repeat (first | apply Kd.R_alloc | apply Kd.R_drewN | apply Kd.R_drew)); exact HO524.out⟩, ⟨by refine uW ?_; exact BK521.out⟩, ⟨Z42⟩⟩
 case round =>
  clear H'
  try clear c2
  try clear p2
  try clear c3
  try clear hcz5_0
  try clear hcz5_1
  try clear hcz5_2
  try clear hcz5_3
  try clear hcz5_4
  try clear hcz5_5
  try clear hcz5_6
  try clear hfz5_0
  try clear hfz5_1
  try clear hfz5_2
  try clear hfz5_3
  try clear hfz5_4
  try clear hfz5_5
  try clear hfz5_6
  try clear HO_9
  obtain ⟨x5_1, x11_1, rfl, rfl, HA, HK1, HO_9, BK521, HB⟩ := hrel
  cases gk with
  | zero => exact absurd HA.out (by simp [spec_spBelow.l0])
  | succ k1 =>
   have H := HA.out
   clear HA
   simp only [spec_spBelow.l0] at H
   by_cases c8 : x11_1 < (t522.length : Int)
   ·
    rw [if_pos c8] at H
    have c8b0 : decide (x11_1 < (t522.length : Int)) = true := decide_eq_true c8
    clear c8
    by_cases c9 : 0 ≤ x11_1
    ·
     rw [if_pos c9] at H
     have c9b0 : decide (0 ≤ x11_1) = true := decide_eq_true c9
     clear c9
     by_cases c10 : x11_1 < (t522.length : Int)
     ·
      rw [if_pos c10] at H
      have c10b0 : decide (x11_1 < (t522.length : Int)) = true := decide_eq_true c10
      clear c10
      by_cases c11 : (rd t522 x11_1) < a1
      ·
       rw [if_pos c11] at H
       have c11b0 : decide ((rd t522 x11_1) < a1) = true := decide_eq_true c11
       clear c11
       have H' := Aside0.mk H
       clear H
       have p525 : 0 ≤ (x11_1 : Int) := of_decide_eq_true Z6
       have q525 : x11_1 < (t522.length : Int) := of_decide_eq_true Z6
       obtain ⟨ad525, e525, hx525_0⟩ := Kd.at_int (Kd.R_reads' HO_9.out).2.2 x11_1 p525 q525
       cases e525
       replace p525 := eq_true p525
       replace q525 := eq_true q525
       go_wp2
       go_roundg k1
       case measure => have := HK1.out; omega
       case rel => exact ⟨(wrap64 (x5_1 + 1)), (wrap64 (x11_1 + 1)), Z91, Z91, H', ⟨by have := HK1.out; omega⟩, ⟨Z87⟩, ⟨by refine uW ?_; exact BK521.out⟩, ⟨Z42⟩⟩
      rw [if_neg c11] at H
      have c11b0 : decide ((rd t522 x11_1) < a1) = false := decide_eq_false c11
      clear c11
      have H' := Aside0.mk H
      clear H
      have p525 : 0 ≤ (x11_1 : Int) := of_decide_eq_true Z6
      have q525 : x11_1 < (t522.length : Int) := of_decide_eq_true Z6
      obtain ⟨ad525, e525, hx525_0⟩ := Kd.at_int (Kd.R_reads' HO_9.out).2.2 x11_1 p525 q525
      cases e525
      replace p525 := eq_true p525
      replace q525 := eq_true q525
      go_wp2
      go_roundg k1
      case measure => have := HK1.out; omega
      case rel => exact ⟨(x5_1), (wrap64 (x11_1 + 1)), Z91, Z91, H', ⟨by have := HK1.out; omega⟩, ⟨Z87⟩, ⟨by refine uW ?_; exact BK521.out⟩, ⟨Z42⟩⟩
     rw [if_neg c10] at H
     exact absurd H Z37
    rw [if_neg c9] at H
    exact absurd H Z37
   rw [if_neg c8] at H
   have c8b0 : decide (x11_1 < (t522.length : Int)) = false := decide_eq_false c8
   clear c8
   obtain rfl := Option.some.inj H
   go_wp2
   go_ret
   exact ⟨Z90, Z42⟩

/-! ### spec_LastAtMost: function 8 -/
def spec_LastAtMost.f (k : Nat) (a0_0 : Int) (a0_1 : Int) (a0_2 : Int) (a0_3 : Int) (l0_4 : List Int) (a0_5 : Int) (l0_6 : List Int) (a1 : Int) : Option (Int × Bool) := (spec_spAsked.f k a0_0 a0_1 a0_2 a0_3 l0_4 a0_5 l0_6 a1).bind fun t527 => (if t527 = true then ((spec_spBelow.f k a0_0 a0_1 a0_2 a0_3 l0_4 a0_5 l0_6 (wrap64 (a1 + 1))).bind fun t528 => (if t528 = 0 then (some (0, false)) else ((spec_spBelow.f k a0_0 a0_1 a0_2 a0_3 l0_4 a0_5 l0_6 (wrap64 (a1 + 1))).bind fun t529 => (some (wrap64 (t529 - 1), true))))) else (some (0, false)))
theorem spec_LastAtMost.mono : ∀ a0 a1 a2 a3 a4 a5 a6 a7 k, LeO (spec_LastAtMost.f k a0 a1 a2 a3 a4 a5 a6 a7) (spec_LastAtMost.f (k + 1) a0 a1 a2 a3 a4 a5 a6 a7) := by
 intro a0 a1 a2 a3 a4 a5 a6 a7 k
 unfold spec_LastAtMost.f
 repeat' first
   | with_reducible first | exact spec_spAsked.mono .. | exact spec_spBelow.mono .. | exact LeO.refl _ | exact LeO.none _ | refine LeO.ite ?_ ?_ | refine LeO.bind ?_ (fun _ => ?_)
   | exact spec_spAsked.mono .. | exact spec_spBelow.mono .. | exact LeO.none _ | refine LeO.ite ?_ ?_ | refine LeO.bind ?_ (fun _ => ?_)
set_option maxHeartbeats 8000000 in
set_option maxRecDepth 100000 in
theorem spec_LastAtMost.calls (k : Nat) (a0_0 : Int) (a0_1 : Int) (a0_2 : Int) (a0_3 : Int) (A0_4 : Option Addr) (c0_4 : Nat) (l0_4 : List Int) (a0_5 : Int) (A0_6 : Option Addr) (c0_6 : Nat) (l0_6 : List Int) (a1 : Int) (r1 : Int) (r2 : Bool) (w : World) (hr0_4 : Kd.C (Kd.int .i64) w A0_4 l0_4.length l0_4) (hc0_4 : l0_4.length ≤ c0_4) (hr0_6 : Kd.C (Kd.int .i64) w A0_6 l0_6.length l0_6) (hc0_6 : l0_6.length ≤ c0_6) (h : spec_LastAtMost.f k a0_0 a0_1 a0_2 a0_3 l0_4 a0_5 l0_6 a1 = some (r1, r2)) :
  Calls Try.prog 8 #[.agg #[.int .i64 a0_0, .int .i64 a0_1, .int .i64 a0_2, .int .i64 a0_3, .slice A0_4 l0_4.length c0_4, .int .i64 a0_5, .slice A0_6 l0_6.length c0_6], .int .i64 a1] w fun e w' => e = .returned (.tuple #[.int .i64 r1, .bool r2]) ∧ Below w.heap.size w w' := by
 have hu28 := Try.underlying28
 have HR0_4 := Aside0.mk hr0_4
 have HC0_4 := Aside0.mk hc0_4
 clear hr0_4 hc0_4
 have HR0_6 := Aside0.mk hr0_6
 have HC0_6 := Aside0.mk hc0_6
 clear hr0_6 hc0_6
 have HB := Aside0.mk (Below.refl w.heap.size w)
 have H : ((spec_spAsked.f k a0_0 a0_1 a0_2 a0_3 l0_4 a0_5 l0_6 a1).bind fun t527 => (if t527 = true then ((spec_spBelow.f k a0_0 a0_1 a0_2 a0_3 l0_4 a0_5 l0_6 (wrap64 (a1 + 1))).bind fun t528 => (if t528 = 0 then (some (0, false)) else ((spec_spBelow.f k a0_0 a0_1 a0_2 a0_3 l0_4 a0_5 l0_6 (wrap64 (a1 + 1))).bind fun t529 => (some (wrap64 (t529 - 1), true))))) else (some (0, false)))) = some (r1, r2) := h
 clear h
 replace H := Option.bind_eq_some_iff.mp H
 obtain ⟨t527, A30, H⟩ := H
 try dsimp only at H
 have A3 := Aside0.mk A30
 clear A30
 by_cases c4 : t527 = true
 ·
  subst c4
  rw [if_pos rfl] at H
  replace H := Option.bind_eq_some_iff.mp H
  obtain ⟨t528, A50, H⟩ := H
  try dsimp only at H
  have A5 := Aside0.mk A50
  clear A50
  by_cases c6 : t528 = 0
  ·
   rw [if_pos c6] at H
   have c6b0 : (t528 == 0) = true := beq_iff_eq.mpr c6
   have c6b1 : (t528 != 0) = false := bne_eq_false_iff_eq.mpr c6
   clear c6
   simp only [Option.some.injEq, Prod.mk.injEq] at H
   obtain ⟨rfl, rfl⟩ := H
   go_enter Try.func8, Try.ntmps8
   go_wp2_with (first | ((with_reducible refine gate_dst (N := 2) rfl ?_); refine box_event ?hg (N := 2) ?hd (cs := #[.int .i64 a0_0, .int .i64 a0_1, .int .i64 a0_2, .int .i64 a0_3, .slice A0_4 l0_4.length c0_4, .int .i64 a0_5, .slice A0_6 l0_6.length c0_6]) (t := 28) ?hr ?_; (case hd => rfl); (case hg => rfl); (case hr => exact Z93); intro gb526 hg w7 hbox hb; have BK526 := Aside0.mk (hbox); have GW526 := nG HB hg; have GE526 := nG HB hg; have GI526 := gI GE526; replace HB := Aside0.mk (below_step (uN HB) hb); clear hb hbox hg; have hcz8_0 : w7.cell? ⟨gb526, 0, none⟩ = some (.int .i64 a0_0) := bc BK526 0; have hcz8_1 : w7.cell? ⟨gb526, 1, none⟩ = some (.int .i64 a0_1) := bc BK526 1; have hcz8_2 : w7.cell? ⟨gb526, 2, none⟩ = some (.int .i64 a0_2) := bc BK526 2; have hcz8_3 : w7.cell? ⟨gb526, 3, none⟩ = some (.int .i64 a0_3) := bc BK526 3; have hcz8_4 : w7.cell? ⟨gb526, 4, none⟩ = some (.slice A0_4 l0_4.length c0_4) := bc BK526 4; have hcz8_5 : w7.cell? ⟨gb526, 5, none⟩ = some (.int .i64 a0_5) := bc BK526 5; have hcz8_6 : w7.cell? ⟨gb526, 6, none⟩ = some (.slice A0_6 l0_6.length c0_6) := bc BK526 6; have hfz8_0 := blk_frozen BK526.out 0; have hfz8_1 := blk_frozen BK526.out 1; have hfz8_2 := blk_frozen BK526.out 2; have hfz8_3 := blk_frozen BK526.out 3; have hfz8_4 := blk_frozen BK526.out 4; have hfz8_5 := blk_frozen BK526.out 5; have hfz8_6 := blk_frozen BK526.out 6) | ((with_reducible refine gate_callee (f := 25) rfl ?_); refine goesL_ (some 8) rfl rfl Try.func25 Z92 rfl #[.agg #[.int .i64 a0_0, .int .i64 a0_1, .int .i64 a0_2, .int .i64 a0_3, .slice A0_4 l0_4.length c0_4, .int .i64 a0_5, .slice A0_6 l0_6.length c0_6], .int .i64 a1] rfl Z89 ?_; (with_reducible refine (spec_spAsked.calls k a0_0 a0_1 a0_2 a0_3 _ _ l0_4 a0_5 _ _ l0_6 a1 true _ ?side1 ?side2 ?side3 ?side4 A3.out).mono ?_); (case side1 => exact uC HR0_4 HB); (case side2 => exact HC0_4.out); (case side3 => exact uC HR0_6 HB); (case side4 => exact HC0_6.out); rintro e w9 ⟨rfl, hb⟩; refine ⟨_, rfl, ?_⟩; replace BK526 := kB BK526 hb; replace HB := Aside0.mk (below_step Z31 hb); (try clear hb); (try clear hb2); (try clear hk); (try clear hi); have hcz10_0 : w9.cell? ⟨gb526, 0, none⟩ = some (.int .i64 a0_0) := bc BK526 0; have hcz10_1 : w9.cell? ⟨gb526, 1, none⟩ = some (.int .i64 a0_1) := bc BK526 1; have hcz10_2 : w9.cell? ⟨gb526, 2, none⟩ = some (.int .i64 a0_2) := bc BK526 2; have hcz10_3 : w9.cell? ⟨gb526, 3, none⟩ = some (.int .i64 a0_3) := bc BK526 3; have hcz10_4 : w9.cell? ⟨gb526, 4, none⟩ = some (.slice A0_4 l0_4.length c0_4) := bc BK526 4; have hcz10_5 : w9.cell? ⟨gb526, 5, none⟩ = some (.int .i64 a0_5) := bc BK526 5; have hcz10_6 : w9.cell? ⟨gb526, 6, none⟩ = some (.slice A0_6 l0_6.length c0_6) := bc BK526 6; have hfz10_0 := blk_frozen BK526.out 0; have hfz10_1 := blk_frozen BK526.out 1; have hfz10_2 := blk_frozen BK526.out 2; have hfz10_3 := blk_frozen BK526.out 3; have hfz10_4 := blk_frozen BK526.out 4; have hfz10_5 := blk_frozen BK526.out 5; have hfz10_6 := blk_frozen BK526.out 6) | (go_at_call 26; (with_reducible refine (spec_spBelow.calls k a0_0 a0_1 a0_2 a0_3 _ _ l0_4 a0_5 _ _ l0_6 (wrap64 (a1 + 1)) t528 _ ?side1 ?side2 ?side3 ?side4 A5.out).mono ?_); (case side1 => exact uC HR0_4 HB); (case side2 => exact HC0_4.out); (case side3 => exact uC HR0_6 HB); (case side4 => exact HC0_6.out); rintro e w11 ⟨rfl, hb⟩; replace BK526 := kB BK526 hb; replace HB := Aside0.mk (below_step Z31 hb); (try clear hb); (try clear hb2); (try clear hk); (try clear hi)))
   go_ret2
   exact ⟨Z90, Z31⟩
  rw [if_neg c6] at H
  have c6b0 : (t528 == 0) = false := beq_eq_false_iff_ne.mpr c6
  have c6b1 : (t528 != 0) = true := bne_iff_ne.mpr c6
  replace H := Option.bind_eq_some_iff.mp H
  obtain ⟨t529, A120, H⟩ := H
  try dsimp only at H
  have A12 := Aside0.mk A120
  clear A120
  simp only [Option.some.injEq, Prod.mk.injEq] at H
  obtain ⟨rfl, rfl⟩ := H
  go_enter Try.func8, Try.ntmps8
  go_wp2_with (first | ((with_reducible refine gate_dst (N := 2) rfl ?_); refine box_event ?hg (N := 2) ?hd (cs := #[.int .i64 a0_0, .int .i64 a0_1, .int .i64 a0_2, .int .i64 a0_3, .slice A0_4 l0_4.length c0_4, .int .i64 a0_5, .slice A0_6 l0_6.length c0_6]) (t := 28) ?hr ?_; (case hd => rfl); (case hg => rfl); (case hr => exact Z93); intro gb526 hg w13 hbox hb; have BK526 := Aside0.mk (hbox); have GW526 := nG HB hg; have GE526 := nG HB hg; have GI526 := gI GE526; replace HB := Aside0.mk (below_step (uN HB) hb); clear hb hbox hg; have hcz14_0 : w13.cell? ⟨gb526, 0, none⟩ = some (.int .i64 a0_0) := bc BK526 0; have hcz14_1 : w13.cell? ⟨gb526, 1, none⟩ = some (.int .i64 a0_1) := bc BK526 1; have hcz14_2 : w13.cell? ⟨gb526, 2, none⟩ = some (.int .i64 a0_2) := bc BK526 2; have hcz14_3 : w13.cell? ⟨gb526, 3, none⟩ = some (.int .i64 a0_3) := bc BK526 3; have hcz14_4 : w13.cell? ⟨gb526, 4, none⟩ = some (.slice A0_4 l0_4.length c0_4) := bc BK526 4; have hcz14_5 : w13.cell? ⟨gb526, 5, none⟩ = some (.int .i64 a0_5) := bc BK526 5; have hcz14_6 : w13.cell? ⟨gb526, 6, none⟩ = some (.slice A0_6 l0_6.length c0_6) := bc BK526 6; have hfz14_0 := blk_frozen BK526.out 0; have hfz14_1 := blk_frozen BK526.out 1; have hfz14_2 := blk_frozen BK526.out 2; have hfz14_3 := blk_frozen BK526.out 3; have hfz14_4 := blk_frozen BK526.out 4; have hfz14_5 := blk_frozen BK526.out 5; have hfz14_6 := blk_frozen BK526.out 6) | ((with_reducible refine gate_callee (f := 25) rfl ?_); refine goesL_ (some 8) rfl rfl Try.func25 Z92 rfl #[.agg #[.int .i64 a0_0, .int .i64 a0_1, .int .i64 a0_2, .int .i64 a0_3, .slice A0_4 l0_4.length c0_4, .int .i64 a0_5, .slice A0_6 l0_6.length c0_6], .int .i64 a1] rfl Z89 ?_; (with_reducible refine (spec_spAsked.calls k a0_0 a0_1 a0_2 a0_3 _ _ l0_4 a0_5 _ _ l0_6 a1 true _ ?side1 ?side2 ?side3 ?side4 A3.out).mono ?_); (case side1 => exact uC HR0_4 HB); (case side2 => exact HC0_4.out); (case side3 => exact uC HR0_6 HB); (case side4 => exact HC0_6.out); rintro e w15 ⟨rfl, hb⟩; refine ⟨_, rfl, ?_⟩; replace BK526 := kB BK526 hb; replace HB := Aside0.mk (below_step Z31 hb); (try clear hb); (try clear hb2); (try clear hk); (try clear hi); have hcz16_0 : w15.cell? ⟨gb526, 0, none⟩ = some (.int .i64 a0_0) := bc BK526 0; have hcz16_1 : w15.cell? ⟨gb526, 1, none⟩ = some (.int .i64 a0_1) := bc BK526 1; have hcz16_2 : w15.cell? ⟨gb526, 2, none⟩ = some (.int .i64 a0_2) := bc BK526 2; have hcz16_3 : w15.cell? ⟨gb526, 3, none⟩ = some (.int .i64 a0_3) := bc BK526 3; have hcz16_4 : w15.cell? ⟨gb526, 4, none⟩ = some (.slice A0_4 l0_4.length c0_4) := bc BK526 4; have hcz16_5 : w15.cell? ⟨gb526, 5, none⟩ = some (.int .i64 a0_5) := bc BK526 5; have hcz16_6 : w15.cell? ⟨gb526, 6, none⟩ = some (.slice A0_6 l0_6.length c0_6) := bc BK526 6; have hfz16_0 := blk_frozen BK526.out 0; have hfz16_1 := blk_frozen BK526.out 1; have hfz16_2 := blk_frozen BK526.out 2; have hfz16_3 := blk_frozen BK526.out 3; have hfz16_4 := blk_frozen BK526.out 4; have hfz16_5 := blk_frozen BK526.out 5; have hfz16_6 := blk_frozen BK526.out 6) | (go_at_call 26; (with_reducible refine (spec_spBelow.calls k a0_0 a0_1 a0_2 a0_3 _ _ l0_4 a0_5 _ _ l0_6 (wrap64 (a1 + 1)) t528 _ ?side1 ?side2 ?side3 ?side4 A5.out).mono ?_); (case side1 => exact uC HR0_4 HB); (case side2 => exact HC0_4.out); (case side3 => exact uC HR0_6 HB); (case side4 => exact HC0_6.out); rintro e w17 ⟨rfl, hb⟩; replace BK526 := kB BK526 hb; replace HB := Aside0.mk (below_step Z31 hb); (try clear hb); (try clear hb2); (try clear hk); (try clear hi); have hcz18_0 : w17.cell? ⟨gb526, 0, none⟩ = some (.int .i64 a0_0) := bc BK526 0; have hcz18_1 : w17.cell? ⟨gb526, 1, none⟩ = some (.int .i64 a0_1) := bc BK526 1; have hcz18_2 : w17.cell? ⟨gb526, 2, none⟩ = some (.int .i64 a0_2) := bc BK526 2; have hcz18_3 : w17.cell? ⟨gb526, 3, none⟩ = some (.int .i64 a0_3) := bc BK526 3; have hcz18_4 : w17.cell? ⟨gb526, 4, none⟩ = some (.slice A0_4 l0_4.length c0_4) := bc BK526 4; have hcz18_5 : w17.cell? ⟨gb526, 5, none⟩ = some (.int .i64 a0_5) := bc BK526 5; have hcz18_6 : w17.cell? ⟨gb526, 6, none⟩ = some (.slice A0_6 l0_6.length c0_6) := bc BK526 6; have hfz18_0 := blk_frozen BK526.out 0; have hfz18_1 := blk_frozen BK526.out 1; have hfz18_2 := blk_frozen BK526.out 2; have hfz18_3 := blk_frozen BK526.out 3; have hfz18_4 := blk_frozen BK526.out 4; have hfz18_5 := blk_frozen BK526.out 5; have hfz18_6 := blk_frozen BK526.out 6) | ((with_reducible refine gate_callee (f := 26) rfl ?_); refine goesL_ (some 20) rfl rfl Try.func26 Z92 rfl #[.agg #[.int .i64 a0_0, .int .i64 a0_1, .int .i64 a0_2, .int .i64 a0_3, .slice A0_4 l0_4.length c0_4, .int .i64 a0_5, .slice A0_6 l0_6.length c0_6], .int .i64 (wrap64 (a1 + 1))] rfl Z89 ?_; (with_reducible refine (spec_spBelow.calls k a0_0 a0_1 a0_2 a0_3 _ _ l0_4 a0_5 _ _ l0_6 (wrap64 (a1 + 1)) t529 _ ?side1 ?side2 ?side3 ?side4 A12.out).mono ?_); (case side1 => exact uC HR0_4 HB); (case side2 => exact HC0_4.out); (case side3 => exact uC HR0_6 HB); (case side4 => exact HC0_6.out); rintro e w19 ⟨rfl, hb⟩; refine ⟨_, rfl, ?_⟩; replace BK526 := kB BK526 hb; replace HB := Aside0.mk (below_step Z31 hb); (try clear hb); (try clear hb2); (try clear hk); (try clear hi)))
  go_ret2
  exact ⟨Z90, Z31⟩
 replace c4 := Bool.eq_false_iff.mpr c4
 subst c4
 rw [if_neg (show ¬ (false = true) from Z19)] at H
 simp only [Option.some.injEq, Prod.mk.injEq] at H
 obtain ⟨rfl, rfl⟩ := H
 go_enter Try.func8, Try.ntmps8
 go_wp2_with (first | ((with_reducible refine gate_dst (N := 2) rfl ?_); refine box_event ?hg (N := 2) ?hd (cs := #[.int .i64 a0_0, .int .i64 a0_1, .int .i64 a0_2, .int .i64 a0_3, .slice A0_4 l0_4.length c0_4, .int .i64 a0_5, .slice A0_6 l0_6.length c0_6]) (t := 28) ?hr ?_; (case hd => rfl); (case hg => rfl); (case hr => exact Z93); intro gb526 hg w20 hbox hb; have BK526 := Aside0.mk (hbox); have GW526 := nG HB hg; have GE526 := nG HB hg; have GI526 := gI GE526; replace HB := Aside0.mk (below_step (uN HB) hb); clear hb hbox hg; have hcz21_0 : w20.cell? ⟨gb526, 0, none⟩ = some (.int .i64 a0_0) := bc BK526 0; have hcz21_1 : w20.cell? ⟨gb526, 1, none⟩ = some (.int .i64 a0_1) := bc BK526 1; have hcz21_2 : w20.cell? ⟨gb526, 2, none⟩ = some (.int .i64 a0_2) := bc BK526 2; have hcz21_3 : w20.cell? ⟨gb526, 3, none⟩ = some (.int .i64 a0_3) := bc BK526 3; have hcz21_4 : w20.cell? ⟨gb526, 4, none⟩ = some (.slice A0_4 l0_4.length c0_4) := bc BK526 4; have hcz21_5 : w20.cell? ⟨gb526, 5, none⟩ = some (.int .i64 a0_5) := bc BK526 5; have hcz21_6 : w20.cell? ⟨gb526, 6, none⟩ = some (.slice A0_6 l0_6.length c0_6) := bc BK526 6; have hfz21_0 := blk_frozen BK526.out 0; have hfz21_1 := blk_frozen BK526.out 1; have hfz21_2 := blk_frozen BK526.out 2; have hfz21_3 := blk_frozen BK526.out 3; have hfz21_4 := blk_frozen BK526.out 4; have hfz21_5 := blk_frozen BK526.out 5; have hfz21_6 := blk_frozen BK526.out 6) | ((with_reducible refine gate_callee (f := 25) rfl ?_); refine goesL_ (some 8) rfl rfl Try.func25 Z92 rfl #[.agg #[.int .i64 a0_0, .int .i64 a0_1, .int .i64 a0_2, .int .i64 a0_3, .slice A0_4 l0_4.length c0_4, .int .i64 a0_5, .slice A0_6 l0_6.length c0_6], .int .i64 a1] rfl Z89 ?_; (with_reducible refine (spec_spAsked.calls k a0_0 a0_1 a0_2 a0_3 _ _ l0_4 a0_5 _ _ l0_6 a1 false _ ?side1 ?side2 ?side3 ?side4 A3.out).mono ?_); (case side1 => exact uC HR0_4 HB); (case side2 => exact HC0_4.out); (case side3 => exact uC HR0_6 HB); (case side4 => exact HC0_6.out); rintro e w22 ⟨rfl, hb⟩; refine ⟨_, rfl, ?_⟩; replace BK526 := kB BK526 hb; replace HB := Aside0.mk (below_step Z31 hb); (try clear hb); (try clear hb2); (try clear hk); (try clear hi)))
 go_ret2
 exact ⟨Z90, Z31⟩

/-! ### impl_CountBelow: function 9 -/
def impl_CountBelow.f (k : Nat) (a0_0 : Int) (a0_1 : Int) (a0_2 : Int) (a0_3 : Int) (l0_4 : List Int) (a0_5 : Int) (l0_6 : List Int) (a1 : Int) : Option (Int × Bool) := (impl_Sparse_numbers_in28_0.f k a0_0 a0_1 a0_2 a0_3 l0_4 a0_5 l0_6).bind fun bt531 => (if bt531.2 = true then ((impl_in.f a1 0 a0_1).bind fun t535 => (if t535 = true then ((impl_below.f k bt531.1 a1).bind fun t536 => (some (t536, true))) else (some (0, false)))) else (some (0, false)))
theorem impl_CountBelow.mono : ∀ a0 a1 a2 a3 a4 a5 a6 a7 k, LeO (impl_CountBelow.f k a0 a1 a2 a3 a4 a5 a6 a7) (impl_CountBelow.f (k + 1) a0 a1 a2 a3 a4 a5 a6 a7) := by
 intro a0 a1 a2 a3 a4 a5 a6 a7 k
 unfold impl_CountBelow.f
 repeat' first
   | with_reducible first | exact impl_Sparse_numbers_in28_0.mono .. | exact impl_below.mono .. | exact LeO.refl _ | exact LeO.none _ | refine LeO.ite ?_ ?_ | refine LeO.bind ?_ (fun _ => ?_)
   | exact impl_Sparse_numbers_in28_0.mono .. | exact impl_below.mono .. | exact LeO.none _ | refine LeO.ite ?_ ?_ | refine LeO.bind ?_ (fun _ => ?_)
set_option maxHeartbeats 8000000 in
set_option maxRecDepth 100000 in
theorem impl_CountBelow.calls (k : Nat) (a0_0 : Int) (a0_1 : Int) (a0_2 : Int) (a0_3 : Int) (A0_4 : Option Addr) (c0_4 : Nat) (l0_4 : List Int) (a0_5 : Int) (A0_6 : Option Addr) (c0_6 : Nat) (l0_6 : List Int) (a1 : Int) (r1 : Int) (r2 : Bool) (w : World) (hr0_4 : Kd.C (Kd.int .i64) w A0_4 l0_4.length l0_4) (hc0_4 : l0_4.length ≤ c0_4) (hr0_6 : Kd.C (Kd.int .i64) w A0_6 l0_6.length l0_6) (hc0_6 : l0_6.length ≤ c0_6) (h : impl_CountBelow.f k a0_0 a0_1 a0_2 a0_3 l0_4 a0_5 l0_6 a1 = some (r1, r2)) :
  Calls Try.prog 9 #[.agg #[.int .i64 a0_0, .int .i64 a0_1, .int .i64 a0_2, .int .i64 a0_3, .slice A0_4 l0_4.length c0_4, .int .i64 a0_5, .slice A0_6 l0_6.length c0_6], .int .i64 a1] w fun e w' => e = .returned (.tuple #[.int .i64 r1, .bool r2]) ∧ Below w.heap.size w w' := by
 have hu28 := Try.underlying28
 have HR0_4 := Aside0.mk hr0_4
 have HC0_4 := Aside0.mk hc0_4
 clear hr0_4 hc0_4
 have HR0_6 := Aside0.mk hr0_6
 have HC0_6 := Aside0.mk hc0_6
 clear hr0_6 hc0_6
 have HB := Aside0.mk (Below.refl w.heap.size w)
 have H : ((impl_Sparse_numbers_in28_0.f k a0_0 a0_1 a0_2 a0_3 l0_4 a0_5 l0_6).bind fun bt531 => (if bt531.2 = true then ((impl_in.f a1 0 a0_1).bind fun t535 => (if t535 = true then ((impl_below.f k bt531.1 a1).bind fun t536 => (some (t536, true))) else (some (0, false)))) else (some (0, false)))) = some (r1, r2) := h
 clear h
 replace H := Option.bind_eq_some_iff.mp H
 obtain ⟨⟨t531, t534⟩, A30, H⟩ := H
 try dsimp only at H
 have A3 := Aside0.mk A30
 clear A30
 by_cases c4 : t534 = true
 ·
  subst c4
  rw [if_pos rfl] at H
  replace H := Option.bind_eq_some_iff.mp H
  obtain ⟨t535, A50, H⟩ := H
  try dsimp only at H
  have A5 := Aside0.mk A50
  clear A50
  by_cases c6 : t535 = true
  ·
   subst c6
   rw [if_pos rfl] at H
   replace H := Option.bind_eq_some_iff.mp H
   obtain ⟨t536, A70, H⟩ := H
   try dsimp only at H
   have A7 := Aside0.mk A70
   clear A70
   simp only [Option.some.injEq, Prod.mk.injEq] at H
   obtain ⟨rfl, rfl⟩ := H
   go_enter Try.func9, Try.ntmps9
   go_wp2_with (first | ((with_reducible refine gate_dst (N := 2) rfl ?_); refine box_event ?hg (N := 2) ?hd (cs := #[.int .i64 a0_0, .int .i64 a0_1, .int .i64 a0_2, .int .i64 a0_3, .slice A0_4 l0_4.length c0_4, .int .i64 a0_5, .slice A0_6 l0_6.length c0_6]) (t := 28) ?hr ?_; (case hd => rfl); (case hg => rfl); (case hr => exact Z93); intro gb530 hg w8 hbox hb; have BK530 := Aside0.mk (hbox); have GW530 := nG HB hg; have GE530 := nG HB hg; have GI530 := gI GE530; replace HB := Aside0.mk (below_step (uN HB) hb); clear hb hbox hg) | ((with_reducible refine gate_callee (f := 22) rfl ?_); refine goesL_ (some 9) rfl rfl Try.func22 Z92 rfl #[.pointer (some ⟨gb530, 0, none⟩)] rfl Z89 ?_; (with_reducible refine (impl_Sparse_numbers_in28_0.calls k gb530 a0_0 a0_1 a0_2 a0_3 A0_4 c0_4 l0_4 a0_5 A0_6 c0_6 l0_6 t531 true _ ?side1 ?side2 ?side3 ?side4 ?side5 A3.out).mono ?_); (case side1 => exact (uK BK530)); (case side2 => exact uC HR0_4 HB); (case side3 => exact HC0_4.out); (case side4 => exact uC HR0_6 HB); (case side5 => exact HC0_6.out); rintro e w9 ⟨v532, rfl, ho0, hb⟩; refine ⟨_, rfl, ?_⟩; have HO533 := Aside0.mk (Kd.R_lower ho0 (below_size Z30)); replace BK530 := kB BK530 hb; replace HB := Aside0.mk (below_step Z30 hb); (try clear hb); (try clear hb2); (try clear hk); (try clear hi); (try clear ho0); have hcz10_0 : w9.cell? ⟨gb530, 0, none⟩ = some (.int .i64 a0_0) := bc BK530 0; have hcz10_1 : w9.cell? ⟨gb530, 1, none⟩ = some (.int .i64 a0_1) := bc BK530 1; have hcz10_2 : w9.cell? ⟨gb530, 2, none⟩ = some (.int .i64 a0_2) := bc BK530 2; have hcz10_3 : w9.cell? ⟨gb530, 3, none⟩ = some (.int .i64 a0_3) := bc BK530 3; have hcz10_4 : w9.cell? ⟨gb530, 4, none⟩ = some (.slice A0_4 l0_4.length c0_4) := bc BK530 4; have hcz10_5 : w9.cell? ⟨gb530, 5, none⟩ = some (.int .i64 a0_5) := bc BK530 5; have hcz10_6 : w9.cell? ⟨gb530, 6, none⟩ = some (.slice A0_6 l0_6.length c0_6) := bc BK530 6; have hfz10_0 := blk_frozen BK530.out 0; have hfz10_1 := blk_frozen BK530.out 1; have hfz10_2 := blk_frozen BK530.out 2; have hfz10_3 := blk_frozen BK530.out 3; have hfz10_4 := blk_frozen BK530.out 4; have hfz10_5 := blk_frozen BK530.out 5; have hfz10_6 := blk_frozen BK530.out 6) | (go_at_call 23; (with_reducible refine (impl_in.calls a1 0 a0_1 true _ A5.out).mono ?_); rintro e w' ⟨rfl, ⟨nd, rfl⟩⟩; obtain ⟨Ao11, co11, eo11⟩ := Kd.R_slice HO533.out; subst eo11) | ((with_reducible refine gate_callee (f := 24) rfl ?_); refine goesL_ (some 23) rfl rfl Try.func24 Z92 rfl #[.slice Ao11 t531.length co11, .int .i64 a1] rfl Z89 ?_; (with_reducible refine (impl_below.calls k _ _ t531 a1 t536 _ ?side1 ?side2 A7.out).mono ?_); (case side1 => exact uD HO533); (case side2 => exact (Kd.R_reads' HO533.out).2.1); rintro e w' ⟨rfl, ⟨nd, rfl⟩⟩; refine ⟨_, rfl, ?_⟩))
   go_ret2
   exact ⟨Z90, Z30⟩
  replace c6 := Bool.eq_false_iff.mpr c6
  subst c6
  rw [if_neg (show ¬ (false = true) from Z19)] at H
  simp only [Option.some.injEq, Prod.mk.injEq] at H
  obtain ⟨rfl, rfl⟩ := H
  go_enter Try.func9, Try.ntmps9
  go_wp2_with (first | ((with_reducible refine gate_dst (N := 2) rfl ?_); refine box_event ?hg (N := 2) ?hd (cs := #[.int .i64 a0_0, .int .i64 a0_1, .int .i64 a0_2, .int .i64 a0_3, .slice A0_4 l0_4.length c0_4, .int .i64 a0_5, .slice A0_6 l0_6.length c0_6]) (t := 28) ?hr ?_; (case hd => rfl); (case hg => rfl); (case hr => exact Z93); intro gb530 hg w12 hbox hb; have BK530 := Aside0.mk (hbox); have GW530 := nG HB hg; have GE530 := nG HB hg; have GI530 := gI GE530; replace HB := Aside0.mk (below_step (uN HB) hb); clear hb hbox hg) | ((with_reducible refine gate_callee (f := 22) rfl ?_); refine goesL_ (some 9) rfl rfl Try.func22 Z92 rfl #[.pointer (some ⟨gb530, 0, none⟩)] rfl Z89 ?_; (with_reducible refine (impl_Sparse_numbers_in28_0.calls k gb530 a0_0 a0_1 a0_2 a0_3 A0_4 c0_4 l0_4 a0_5 A0_6 c0_6 l0_6 t531 true _ ?side1 ?side2 ?side3 ?side4 ?side5 A3.out).mono ?_); (case side1 => exact (uK BK530)); (case side2 => exact uC HR0_4 HB); (case side3 => exact HC0_4.out); (case side4 => exact uC HR0_6 HB); (case side5 => exact HC0_6.out); rintro e w13 ⟨v532, rfl, ho0, hb⟩; refine ⟨_, rfl, ?_⟩; have HO533 := Aside0.mk (Kd.R_lower ho0 (below_size Z30)); replace BK530 := kB BK530 hb; replace HB := Aside0.mk (below_step Z30 hb); (try clear hb); (try clear hb2); (try clear hk); (try clear hi); (try clear ho0); have hcz14_0 : w13.cell? ⟨gb530, 0, none⟩ = some (.int .i64 a0_0) := bc BK530 0; have hcz14_1 : w13.cell? ⟨gb530, 1, none⟩ = some (.int .i64 a0_1) := bc BK530 1; have hcz14_2 : w13.cell? ⟨gb530, 2, none⟩ = some (.int .i64 a0_2) := bc BK530 2; have hcz14_3 : w13.cell? ⟨gb530, 3, none⟩ = some (.int .i64 a0_3) := bc BK530 3; have hcz14_4 : w13.cell? ⟨gb530, 4, none⟩ = some (.slice A0_4 l0_4.length c0_4) := bc BK530 4; have hcz14_5 : w13.cell? ⟨gb530, 5, none⟩ = some (.int .i64 a0_5) := bc BK530 5; have hcz14_6 : w13.cell? ⟨gb530, 6, none⟩ = some (.slice A0_6 l0_6.length c0_6) := bc BK530 6; have hfz14_0 := blk_frozen BK530.out 0; have hfz14_1 := blk_frozen BK530.out 1; have hfz14_2 := blk_frozen BK530.out 2; have hfz14_3 := blk_frozen BK530.out 3; have hfz14_4 := blk_frozen BK530.out 4; have hfz14_5 := blk_frozen BK530.out 5; have hfz14_6 := blk_frozen BK530.out 6) | (go_at_call 23; (with_reducible refine (impl_in.calls a1 0 a0_1 false _ A5.out).mono ?_); rintro e w' ⟨rfl, ⟨nd, rfl⟩⟩))
  go_ret2
  exact ⟨Z90, Z30⟩
 replace c4 := Bool.eq_false_iff.mpr c4
 subst c4
 rw [if_neg (show ¬ (false = true) from Z19)] at H
 simp only [Option.some.injEq, Prod.mk.injEq] at H
 obtain ⟨rfl, rfl⟩ := H
 go_enter Try.func9, Try.ntmps9
 go_wp2_with (first | ((with_reducible refine gate_dst (N := 2) rfl ?_); refine box_event ?hg (N := 2) ?hd (cs := #[.int .i64 a0_0, .int .i64 a0_1, .int .i64 a0_2, .int .i64 a0_3, .slice A0_4 l0_4.length c0_4, .int .i64 a0_5, .slice A0_6 l0_6.length c0_6]) (t := 28) ?hr ?_; (case hd => rfl); (case hg => rfl); (case hr => exact Z93); intro gb530 hg w15 hbox hb; have BK530 := Aside0.mk (hbox); have GW530 := nG HB hg; have GE530 := nG HB hg; have GI530 := gI GE530; replace HB := Aside0.mk (below_step (uN HB) hb); clear hb hbox hg) | ((with_reducible refine gate_callee (f := 22) rfl ?_); refine goesL_ (some 9) rfl rfl Try.func22 Z92 rfl #[.pointer (some ⟨gb530, 0, none⟩)] rfl Z89 ?_; (with_reducible refine (impl_Sparse_numbers_in28_0.calls k gb530 a0_0 a0_1 a0_2 a0_3 A0_4 c0_4 l0_4 a0_5 A0_6 c0_6 l0_6 t531 false _ ?side1 ?side2 ?side3 ?side4 ?side5 A3.out).mono ?_); (case side1 => exact (uK BK530)); (case side2 => exact uC HR0_4 HB); (case side3 => exact HC0_4.out); (case side4 => exact uC HR0_6 HB); (case side5 => exact HC0_6.out); rintro e w16 ⟨v532, rfl, ho0, hb⟩; refine ⟨_, rfl, ?_⟩; have HO533 := Aside0.mk (Kd.R_lower ho0 (below_size Z30)); replace BK530 := kB BK530 hb; replace HB := Aside0.mk (below_step Z30 hb); (try clear hb); (try clear hb2); (try clear hk); (try clear hi); (try clear ho0)))
 go_ret2
 exact ⟨Z90, Z30⟩

/-! ### impl_FirstAtLeast: function 10 -/
def impl_FirstAtLeast.f (k : Nat) (a0_0 : Int) (a0_1 : Int) (a0_2 : Int) (a0_3 : Int) (l0_4 : List Int) (a0_5 : Int) (l0_6 : List Int) (a1 : Int) : Option (Int × Bool) := (impl_Sparse_numbers_in28_0.f k a0_0 a0_1 a0_2 a0_3 l0_4 a0_5 l0_6).bind fun bt538 => (if bt538.2 = true then ((impl_in.f a1 0 (wrap64 (a0_1 - 1))).bind fun t542 => (if t542 = true then ((impl_below.f k bt538.1 a1).bind fun t543 => (if t543 = (bt538.1.length : Int) then (some (0, false)) else ((impl_below.f k bt538.1 a1).bind fun t544 => (some (t544, true))))) else (some (0, false)))) else (some (0, false)))
theorem impl_FirstAtLeast.mono : ∀ a0 a1 a2 a3 a4 a5 a6 a7 k, LeO (impl_FirstAtLeast.f k a0 a1 a2 a3 a4 a5 a6 a7) (impl_FirstAtLeast.f (k + 1) a0 a1 a2 a3 a4 a5 a6 a7) := by
 intro a0 a1 a2 a3 a4 a5 a6 a7 k
 unfold impl_FirstAtLeast.f
 repeat' first
   | with_reducible first | exact impl_Sparse_numbers_in28_0.mono .. | exact impl_below.mono .. | exact LeO.refl _ | exact LeO.none _ | refine LeO.ite ?_ ?_ | refine LeO.bind ?_ (fun _ => ?_)
   | exact impl_Sparse_numbers_in28_0.mono .. | exact impl_below.mono .. | exact LeO.none _ | refine LeO.ite ?_ ?_ | refine LeO.bind ?_ (fun _ => ?_)
set_option maxHeartbeats 8000000 in
set_option maxRecDepth 100000 in
theorem impl_FirstAtLeast.calls (k : Nat) (a0_0 : Int) (a0_1 : Int) (a0_2 : Int) (a0_3 : Int) (A0_4 : Option Addr) (c0_4 : Nat) (l0_4 : List Int) (a0_5 : Int) (A0_6 : Option Addr) (c0_6 : Nat) (l0_6 : List Int) (a1 : Int) (r1 : Int) (r2 : Bool) (w : World) (hr0_4 : Kd.C (Kd.int .i64) w A0_4 l0_4.length l0_4) (hc0_4 : l0_4.length ≤ c0_4) (hr0_6 : Kd.C (Kd.int .i64) w A0_6 l0_6.length l0_6) (hc0_6 : l0_6.length ≤ c0_6) (h : impl_FirstAtLeast.f k a0_0 a0_1 a0_2 a0_3 l0_4 a0_5 l0_6 a1 = some (r1, r2)) :
  Calls Try.prog 10 #[.agg #[.int .i64 a0_0, .int .i64 a0_1, .int .i64 a0_2, .int .i64 a0_3, .slice A0_4 l0_4.length c0_4, .int .i64 a0_5, .slice A0_6 l0_6.length c0_6], .int .i64 a1] w fun e w' => e = .returned (.tuple #[.int .i64 r1, .bool r2]) ∧ Below w.heap.size w w' := by
 have hu28 := Try.underlying28
 have HR0_4 := Aside0.mk hr0_4
 have HC0_4 := Aside0.mk hc0_4
 clear hr0_4 hc0_4
 have HR0_6 := Aside0.mk hr0_6
 have HC0_6 := Aside0.mk hc0_6
 clear hr0_6 hc0_6
 have HB := Aside0.mk (Below.refl w.heap.size w)
 have H : ((impl_Sparse_numbers_in28_0.f k a0_0 a0_1 a0_2 a0_3 l0_4 a0_5 l0_6).bind fun bt538 => (if bt538.2 = true then ((impl_in.f a1 0 (wrap64 (a0_1 - 1))).bind fun t542 => (if t542 = true then ((impl_below.f k bt538.1 a1).bind fun t543 => (if t543 = (bt538.1.length : Int) then (some (0, false)) else ((impl_below.f k bt538.1 a1).bind fun t544 => (some (t544, true))))) else (some (0, false)))) else (some (0, false)))) = some (r1, r2) := h
 clear h
 replace H := Option.bind_eq_some_iff.mp H
 obtain ⟨⟨t538, t541⟩, A30, H⟩ := H
 try dsimp only at H
 have A3 := Aside0.mk A30
 clear A30
 by_cases c4 : t541 = true
 ·
  subst c4
  rw [if_pos rfl] at H
  replace H := Option.bind_eq_some_iff.mp H
  obtain ⟨t542, A50, H⟩ := H
  try dsimp only at H
  have A5 := Aside0.mk A50
  clear A50
  by_cases c6 : t542 = true
  ·
   subst c6
   rw [if_pos rfl] at H
   replace H := Option.bind_eq_some_iff.mp H
   obtain ⟨t543, A70, H⟩ := H
   try dsimp only at H
   have A7 := Aside0.mk A70
   clear A70
   by_cases c8 : t543 = (t538.length : Int)
   ·
    rw [if_pos c8] at H
    have c8b0 : (t543 == (t538.length : Int)) = true := beq_iff_eq.mpr c8
    have c8b1 : (t543 != (t538.length : Int)) = false := bne_eq_false_iff_eq.mpr c8
    clear c8
    simp only [Option.some.injEq, Prod.mk.injEq] at H
    obtain ⟨rfl, rfl⟩ := H
    go_enter Try.func10, Try.ntmps10
    go_wp2_with (first | ((with_reducible refine gate_dst (N := 2) rfl ?_); (try (refine gate_guard Z63 ?_; dsimp only)); refine box_event ?hg (N := 2) ?hd (cs := #[.int .i64 a0_0, .int .i64 a0_1, .int .i64 a0_2, .int .i64 a0_3, .slice A0_4 l0_4.length c0_4, .int .i64 a0_5, .slice A0_6 l0_6.length c0_6]) (t := 28) ?hr ?_; (case hd => rfl); (case hg => rfl); (case hr => exact Z93); intro gb537 hg w9 hbox hb; have BK537 := Aside0.mk (hbox); have GW537 := nG HB hg; have GE537 := nG HB hg; have GI537 := gI GE537; replace HB := Aside0.mk (below_step (uN HB) hb); clear hb hbox hg) | ((with_reducible refine gate_callee (f := 22) rfl ?_); refine goesL_ (some 9) rfl rfl Try.func22 Z92 rfl #[.pointer (some ⟨gb537, 0, none⟩)] rfl Z89 ?_; (with_reducible refine (impl_Sparse_numbers_in28_0.calls k gb537 a0_0 a0_1 a0_2 a0_3 A0_4 c0_4 l0_4 a0_5 A0_6 c0_6 l0_6 t538 true _ ?side1 ?side2 ?side3 ?side4 ?side5 A3.out).mono ?_); (case side1 => exact (uK BK537)); (case side2 => exact uC HR0_4 HB); (case side3 => exact HC0_4.out); (case side4 => exact uC HR0_6 HB); (case side5 => exact HC0_6.out); rintro e w10 ⟨v539, rfl, ho0, hb⟩; refine ⟨_, rfl, ?_⟩; have HO540 := Aside0.mk (Kd.R_lower ho0 (below_size Z22)); replace BK537 := kB BK537 hb; replace HB := Aside0.mk (below_step Z22 hb); (try clear hb); (try clear hb2); (try clear hk); (try clear hi); (try clear ho0); have hcz11_0 : w10.cell? ⟨gb537, 0, none⟩ = some (.int .i64 a0_0) := bc BK537 0; have hcz11_1 : w10.cell? ⟨gb537, 1, none⟩ = some (.int .i64 a0_1) := bc BK537 1; have hcz11_2 : w10.cell? ⟨gb537, 2, none⟩ = some (.int .i64 a0_2) := bc BK537 2; have hcz11_3 : w10.cell? ⟨gb537, 3, none⟩ = some (.int .i64 a0_3) := bc BK537 3; have hcz11_4 : w10.cell? ⟨gb537, 4, none⟩ = some (.slice A0_4 l0_4.length c0_4) := bc BK537 4; have hcz11_5 : w10.cell? ⟨gb537, 5, none⟩ = some (.int .i64 a0_5) := bc BK537 5; have hcz11_6 : w10.cell? ⟨gb537, 6, none⟩ = some (.slice A0_6 l0_6.length c0_6) := bc BK537 6; have hfz11_0 := blk_frozen BK537.out 0; have hfz11_1 := blk_frozen BK537.out 1; have hfz11_2 := blk_frozen BK537.out 2; have hfz11_3 := blk_frozen BK537.out 3; have hfz11_4 := blk_frozen BK537.out 4; have hfz11_5 := blk_frozen BK537.out 5; have hfz11_6 := blk_frozen BK537.out 6) | (go_at_call 23; (with_reducible refine (impl_in.calls a1 0 (wrap64 (a0_1 - 1)) true _ A5.out).mono ?_); rintro e w' ⟨rfl, ⟨nd, rfl⟩⟩; obtain ⟨Ao12, co12, eo12⟩ := Kd.R_slice HO540.out; subst eo12) | (go_at_call 24; (with_reducible refine (impl_below.calls k _ _ t538 a1 t543 _ ?side1 ?side2 A7.out).mono ?_); (case side1 => exact uD HO540); (case side2 => exact (Kd.R_reads' HO540.out).2.1); rintro e w' ⟨rfl, ⟨nd, rfl⟩⟩))
    go_ret2
    exact ⟨Z90, Z22⟩
   rw [if_neg c8] at H
   have c8b0 : (t543 == (t538.length : Int)) = false := beq_eq_false_iff_ne.mpr c8
   have c8b1 : (t543 != (t538.length : Int)) = true := bne_iff_ne.mpr c8
   replace H := Option.bind_eq_some_iff.mp H
   obtain ⟨t544, A130, H⟩ := H
   try dsimp only at H
   have A13 := Aside0.mk A130
   clear A130
   simp only [Option.some.injEq, Prod.mk.injEq] at H
   obtain ⟨rfl, rfl⟩ := H
   go_enter Try.func10, Try.ntmps10
   go_wp2_with (first | ((with_reducible refine gate_dst (N := 2) rfl ?_); (try (refine gate_guard Z63 ?_; dsimp only)); refine box_event ?hg (N := 2) ?hd (cs := #[.int .i64 a0_0, .int .i64 a0_1, .int .i64 a0_2, .int .i64 a0_3, .slice A0_4 l0_4.length c0_4, .int .i64 a0_5, .slice A0_6 l0_6.length c0_6]) (t := 28) ?hr ?_; (case hd => rfl); (case hg => rfl); (case hr => exact Z93); intro gb537 hg w14 hbox hb; have BK537 := Aside0.mk (hbox); have GW537 := nG HB hg; have GE537 := nG HB hg; have GI537 := gI GE537; replace HB := Aside0.mk (below_step (uN HB) hb); clear hb hbox hg) | ((with_reducible refine gate_callee (f := 22) rfl ?_); refine goesL_ (some 9) rfl rfl Try.func22 Z92 rfl #[.pointer (some ⟨gb537, 0, none⟩)] rfl Z89 ?_; (with_reducible refine (impl_Sparse_numbers_in28_0.calls k gb537 a0_0 a0_1 a0_2 a0_3 A0_4 c0_4 l0_4 a0_5 A0_6 c0_6 l0_6 t538 true _ ?side1 ?side2 ?side3 ?side4 ?side5 A3.out).mono ?_); (case side1 => exact (uK BK537)); (case side2 => exact uC HR0_4 HB); (case side3 => exact HC0_4.out); (case side4 => exact uC HR0_6 HB); (case side5 => exact HC0_6.out); rintro e w15 ⟨v539, rfl, ho0, hb⟩; refine ⟨_, rfl, ?_⟩; have HO540 := Aside0.mk (Kd.R_lower ho0 (below_size Z22)); replace BK537 := kB BK537 hb; replace HB := Aside0.mk (below_step Z22 hb); (try clear hb); (try clear hb2); (try clear hk); (try clear hi); (try clear ho0); have hcz16_0 : w15.cell? ⟨gb537, 0, none⟩ = some (.int .i64 a0_0) := bc BK537 0; have hcz16_1 : w15.cell? ⟨gb537, 1, none⟩ = some (.int .i64 a0_1) := bc BK537 1; have hcz16_2 : w15.cell? ⟨gb537, 2, none⟩ = some (.int .i64 a0_2) := bc BK537 2; have hcz16_3 : w15.cell? ⟨gb537, 3, none⟩ = some (.int .i64 a0_3) := bc BK537 3; have hcz16_4 : w15.cell? ⟨gb537, 4, none⟩ = some (.slice A0_4 l0_4.length c0_4) := bc BK537 4; have hcz16_5 : w15.cell? ⟨gb537, 5, none⟩ = some (.int .i64 a0_5) := bc BK537 5; have hcz16_6 : w15.cell? ⟨gb537, 6, none⟩ = some (.slice A0_6 l0_6.length c0_6) := bc BK537 6; have hfz16_0 := blk_frozen BK537.out 0; have hfz16_1 := blk_frozen BK537.out 1; have hfz16_2 := blk_frozen BK537.out 2; have hfz16_3 := blk_frozen BK537.out 3; have hfz16_4 := blk_frozen BK537.out 4; have hfz16_5 := blk_frozen BK537.out 5; have hfz16_6 := blk_frozen BK537.out 6) | (go_at_call 23; (with_reducible refine (impl_in.calls a1 0 (wrap64 (a0_1 - 1)) true _ A5.out).mono ?_); rintro e w' ⟨rfl, ⟨nd, rfl⟩⟩; obtain ⟨Ao17, co17, eo17⟩ := Kd.R_slice HO540.out; subst eo17) | (go_at_call 24; (with_reducible refine (impl_below.calls k _ _ t538 a1 t543 _ ?side1 ?side2 A7.out).mono ?_); (case side1 => exact uD HO540); (case side2 => exact (Kd.R_reads' HO540.out).2.1); rintro e w' ⟨rfl, ⟨nd, rfl⟩⟩) | ((with_reducible refine gate_callee (f := 24) rfl ?_); refine goesL_ (some 32) rfl rfl Try.func24 Z92 rfl #[.slice Ao17 t538.length co17, .int .i64 a1] rfl Z89 ?_; (with_reducible refine (impl_below.calls k _ _ t538 a1 t544 _ ?side1 ?side2 A13.out).mono ?_); (case side1 => exact uD HO540); (case side2 => exact (Kd.R_reads' HO540.out).2.1); rintro e w' ⟨rfl, ⟨nd, rfl⟩⟩; refine ⟨_, rfl, ?_⟩))
   go_ret2
   exact ⟨Z90, Z22⟩
  replace c6 := Bool.eq_false_iff.mpr c6
  subst c6
  rw [if_neg (show ¬ (false = true) from Z19)] at H
  simp only [Option.some.injEq, Prod.mk.injEq] at H
  obtain ⟨rfl, rfl⟩ := H
  go_enter Try.func10, Try.ntmps10
  go_wp2_with (first | ((with_reducible refine gate_dst (N := 2) rfl ?_); (try (refine gate_guard Z63 ?_; dsimp only)); refine box_event ?hg (N := 2) ?hd (cs := #[.int .i64 a0_0, .int .i64 a0_1, .int .i64 a0_2, .int .i64 a0_3, .slice A0_4 l0_4.length c0_4, .int .i64 a0_5, .slice A0_6 l0_6.length c0_6]) (t := 28) ?hr ?_; (case hd => rfl); (case hg => rfl); (case hr => exact Z93); intro gb537 hg w18 hbox hb; have BK537 := Aside0.mk (hbox); have GW537 := nG HB hg; have GE537 := nG HB hg; have GI537 := gI GE537; replace HB := Aside0.mk (below_step (uN HB) hb); clear hb hbox hg) | ((with_reducible refine gate_callee (f := 22) rfl ?_); refine goesL_ (some 9) rfl rfl Try.func22 Z92 rfl #[.pointer (some ⟨gb537, 0, none⟩)] rfl Z89 ?_; (with_reducible refine (impl_Sparse_numbers_in28_0.calls k gb537 a0_0 a0_1 a0_2 a0_3 A0_4 c0_4 l0_4 a0_5 A0_6 c0_6 l0_6 t538 true _ ?side1 ?side2 ?side3 ?side4 ?side5 A3.out).mono ?_); (case side1 => exact (uK BK537)); (case side2 => exact uC HR0_4 HB); (case side3 => exact HC0_4.out); (case side4 => exact uC HR0_6 HB); (case side5 => exact HC0_6.out); rintro e w19 ⟨v539, rfl, ho0, hb⟩; refine ⟨_, rfl, ?_⟩; have HO540 := Aside0.mk (Kd.R_lower ho0 (below_size Z22)); replace BK537 := kB BK537 hb; replace HB := Aside0.mk (below_step Z22 hb); (try clear hb); (try clear hb2); (try clear hk); (try clear hi); (try clear ho0); have hcz20_0 : w19.cell? ⟨gb537, 0, none⟩ = some (.int .i64 a0_0) := bc BK537 0; have hcz20_1 : w19.cell? ⟨gb537, 1, none⟩ = some (.int .i64 a0_1) := bc BK537 1; have hcz20_2 : w19.cell? ⟨gb537, 2, none⟩ = some (.int .i64 a0_2) := bc BK537 2; have hcz20_3 : w19.cell? ⟨gb537, 3, none⟩ = some (.int .i64 a0_3) := bc BK537 3; have hcz20_4 : w19.cell? ⟨gb537, 4, none⟩ = some (.slice A0_4 l0_4.length c0_4) := bc BK537 4; have hcz20_5 : w19.cell? ⟨gb537, 5, none⟩ = some (.int .i64 a0_5) := bc BK537 5; have hcz20_6 : w19.cell? ⟨gb537, 6, none⟩ = some (.slice A0_6 l0_6.length c0_6) := bc BK537 6; have hfz20_0 := blk_frozen BK537.out 0; have hfz20_1 := blk_frozen BK537.out 1; have hfz20_2 := blk_frozen BK537.out 2; have hfz20_3 := blk_frozen BK537.out 3; have hfz20_4 := blk_frozen BK537.out 4; have hfz20_5 := blk_frozen BK537.out 5; have hfz20_6 := blk_frozen BK537.out 6) | (go_at_call 23; (with_reducible refine (impl_in.calls a1 0 (wrap64 (a0_1 - 1)) false _ A5.out).mono ?_); rintro e w' ⟨rfl, ⟨nd, rfl⟩⟩))
  go_ret2
  exact ⟨Z90, Z22⟩
 replace c4 := Bool.eq_false_iff.mpr c4
 subst c4
 rw [if_neg (show ¬ (false = true) from Z19)] at H
 simp only [Option.some.injEq, Prod.mk.injEq] at H
 obtain ⟨rfl, rfl⟩ := H
 go_enter Try.func10, Try.ntmps10
 go_wp2_with (first | ((with_reducible refine gate_dst (N := 2) rfl ?_); (try (refine gate_guard Z63 ?_; dsimp only)); refine box_event ?hg (N := 2) ?hd (cs := #[.int .i64 a0_0, .int .i64 a0_1, .int .i64 a0_2, .int .i64 a0_3, .slice A0_4 l0_4.length c0_4, .int .i64 a0_5, .slice A0_6 l0_6.length c0_6]) (t := 28) ?hr ?_; (case hd => rfl); (case hg => rfl); (case hr => exact Z93); intro gb537 hg w21 hbox hb; have BK537 := Aside0.mk (hbox); have GW537 := nG HB hg; have GE537 := nG HB hg; have GI537 := gI GE537; replace HB := Aside0.mk (below_step (uN HB) hb); clear hb hbox hg) | ((with_reducible refine gate_callee (f := 22) rfl ?_); refine goesL_ (some 9) rfl rfl Try.func22 Z92 rfl #[.pointer (some ⟨gb537, 0, none⟩)] rfl Z89 ?_; (with_reducible refine (impl_Sparse_numbers_in28_0.calls k gb537 a0_0 a0_1 a0_2 a0_3 A0_4 c0_4 l0_4 a0_5 A0_6 c0_6 l0_6 t538 false _ ?side1 ?side2 ?side3 ?side4 ?side5 A3.out).mono ?_); (case side1 => exact (uK BK537)); (case side2 => exact uC HR0_4 HB); (case side3 => exact HC0_4.out); (case side4 => exact uC HR0_6 HB); (case side5 => exact HC0_6.out); rintro e w22 ⟨v539, rfl, ho0, hb⟩; refine ⟨_, rfl, ?_⟩; have HO540 := Aside0.mk (Kd.R_lower ho0 (below_size Z22)); replace BK537 := kB BK537 hb; replace HB := Aside0.mk (below_step Z22 hb); (try clear hb); (try clear hb2); (try clear hk); (try clear hi); (try clear ho0)))
 go_ret2
 exact ⟨Z90, Z22⟩

/-! ### slices_Index_int_int: function 56 -/
def slices_Index_int_int.l0 : Nat → List Int → Int → Int → Int → Option (Int)
 | 0, _, _, _, _ => none
 | k + 1, x0, x1, x7, x8 => if x8 < x7 then (if 0 ≤ x8 then (if x8 < (x0.length : Int) then (if x1 = (rd x0 x8) then (some x8) else (slices_Index_int_int.l0 k x0 x1 x7 (wrap64 (x8 + 1)))) else (none)) else (none)) else (some (-1))
def slices_Index_int_int.f (k : Nat) (l0 : List Int) (a1 : Int) : Option (Int) := slices_Index_int_int.l0 k l0 a1 (l0.length : Int) 0
theorem slices_Index_int_int.mono_l : ∀ k, (∀ y0 y1 y2 y3, LeO (slices_Index_int_int.l0 k y0 y1 y2 y3) (slices_Index_int_int.l0 (k + 1) y0 y1 y2 y3))
 | 0 => fun _ _ _ _ r h => by simp [slices_Index_int_int.l0] at h | k + 1 => by
  have ih0 := slices_Index_int_int.mono_l k
  ·
   intro y0 y1 y2 y3
   unfold slices_Index_int_int.l0
   repeat' first
   | with_reducible first | exact ih0 .. | exact LeO.refl _ | exact LeO.none _ | refine LeO.ite ?_ ?_ | refine LeO.bind ?_ (fun _ => ?_)
   | exact ih0 .. | exact LeO.none _ | refine LeO.ite ?_ ?_ | refine LeO.bind ?_ (fun _ => ?_)
theorem slices_Index_int_int.mono : ∀ a0 a1 k, LeO (slices_Index_int_int.f k a0 a1) (slices_Index_int_int.f (k + 1) a0 a1) := by
 intro a0 a1 k
 have ih0 := slices_Index_int_int.mono_l k
 unfold slices_Index_int_int.f
 repeat' first
   | with_reducible first | exact ih0 .. | exact LeO.refl _ | exact LeO.none _ | refine LeO.ite ?_ ?_ | refine LeO.bind ?_ (fun _ => ?_)
   | exact ih0 .. | exact LeO.none _ | refine LeO.ite ?_ ?_ | refine LeO.bind ?_ (fun _ => ?_)
set_option maxHeartbeats 8000000 in
set_option maxRecDepth 100000 in
theorem slices_Index_int_int.calls (k : Nat) (A0 : Option Addr) (c0 : Nat) (l0 : List Int) (a1 : Int) (r : Int) (w : World) (hr0 : Kd.C (Kd.int .i64) w A0 l0.length l0) (hc0 : l0.length ≤ c0) (h : slices_Index_int_int.f k l0 a1 = some r) :
  Calls Try.prog 56 #[.slice A0 l0.length c0, .int .i64 a1] w fun e w' => e = .returned (.int .i64 r) ∧ Drawn0 w w' := by
 have HR0 := Aside0.mk hr0
 have HC0 := Aside0.mk hc0
 clear hr0 hc0
 have H : (slices_Index_int_int.l0 k l0 a1 (l0.length : Int) 0) = some r := h
 clear h
 have H' := Aside0.mk H
 clear H
 go_enter Try.func56, Try.ntmps56
 go_wp2
 go_loopg [8] k (fun kq v8 w' => ∃ (x8_1 : Int), v8 = .int .i64 x8_1 ∧ Aside0 (slices_Index_int_int.l0 kq l0 a1 (l0.length : Int) x8_1 = some r) ∧ Aside0 (kq ≤ k) ∧ Drawn0 w w')
 case atStart => exact ⟨(0), Z91, H', ⟨Nat.le_refl _⟩, Z17⟩
 case round =>
  clear H'
  try clear p2
  obtain ⟨x8_1, rfl, HA, HK1, ⟨m1, rfl⟩⟩ := hrel
  cases gk with
  | zero => exact absurd HA.out (by simp [slices_Index_int_int.l0])
  | succ k1 =>
   have H := HA.out
   clear HA
   simp only [slices_Index_int_int.l0] at H
   by_cases c3 : x8_1 < (l0.length : Int)
   ·
    rw [if_pos c3] at H
    have c3b0 : decide (x8_1 < (l0.length : Int)) = true := decide_eq_true c3
    clear c3
    by_cases c4 : 0 ≤ x8_1
    ·
     rw [if_pos c4] at H
     have c4b0 : decide (0 ≤ x8_1) = true := decide_eq_true c4
     clear c4
     by_cases c5 : x8_1 < (l0.length : Int)
     ·
      rw [if_pos c5] at H
      have c5b0 : decide (x8_1 < (l0.length : Int)) = true := decide_eq_true c5
      clear c5
      by_cases c6 : a1 = (rd l0 x8_1)
      ·
       rw [if_pos c6] at H
       have c6b0 : (a1 == (rd l0 x8_1)) = true := beq_iff_eq.mpr c6
       have c6b1 : (a1 != (rd l0 x8_1)) = false := bne_eq_false_iff_eq.mpr c6
       clear c6
       obtain rfl := Option.some.inj H
       have p545 : 0 ≤ (x8_1 : Int) := of_decide_eq_true Z6
       have q545 : x8_1 < (l0.length : Int) := of_decide_eq_true Z6
       obtain ⟨ad545, e545, hx545_0⟩ := Kd.at_int HR0.out x8_1 p545 q545
       cases e545
       replace p545 := eq_true p545
       replace q545 := eq_true q545
       go_wp2
       go_ret
       exact ⟨Z91, Z17⟩
      rw [if_neg c6] at H
      have c6b0 : (a1 == (rd l0 x8_1)) = false := beq_eq_false_iff_ne.mpr c6
      have c6b1 : (a1 != (rd l0 x8_1)) = true := bne_iff_ne.mpr c6
      have H' := Aside0.mk H
      clear H
      have p545 : 0 ≤ (x8_1 : Int) := of_decide_eq_true Z6
      have q545 : x8_1 < (l0.length : Int) := of_decide_eq_true Z6
      obtain ⟨ad545, e545, hx545_0⟩ := Kd.at_int HR0.out x8_1 p545 q545
      cases e545
      replace p545 := eq_true p545
      replace q545 := eq_true q545
      go_wp2
      go_roundg k1
      case measure => have := HK1.out; omega
      case rel => exact ⟨(wrap64 (x8_1 + 1)), Z91, H', ⟨by have := HK1.out; omega⟩, Z17⟩
     rw [if_neg c5] at H
     exact absurd H Z37
    rw [if_neg c4] at H
    exact absurd H Z37
   rw [if_neg c3] at H
   have c3b0 : decide (x8_1 < (l0.length : Int)) = false := decide_eq_false c3
   clear c3
   obtain rfl := Option.some.inj H
   go_wp2
   go_ret
   exact ⟨Z91, Z17⟩

/-! ### slices_Contains_int_int: function 27 -/
def slices_Contains_int_int.f (k : Nat) (l0 : List Int) (a1 : Int) : Option (Bool) := (slices_Index_int_int.f k l0 a1).bind fun t546 => (some (decide (t546 ≥ 0)))
theorem slices_Contains_int_int.mono : ∀ a0 a1 k, LeO (slices_Contains_int_int.f k a0 a1) (slices_Contains_int_int.f (k + 1) a0 a1) := by
  intro a0 a1 k
  unfold slices_Contains_int_int.f
  repeat' first
      | with_reducible first | exact slices_Index_int_int.mono .. | exact LeO.refl _ | exact LeO.none _ | refine LeO.ite ?_ ?_ | refine LeO.bind ?_ (fun _ => ?_)
      | exact slices_Index_int_int.mono .. | exact LeO.none _ | refine LeO.ite ?_ ?_ | refine LeO.bind ?_ (fun _ => ?_)
set_option maxHeartbeats 8000000 in
set_option maxRecDepth 100000 in
theorem slices_Contains_int_int.calls (k : Nat) (A0 : Option Addr) (c0 : Nat) (l0 : List Int) (a1 : Int) (r : Bool) (w : World) (hr0 : Kd.C (Kd.int .i64) w A0 l0.length l0) (hc0 : l0.length ≤ c0) (h : slices_Contains_int_int.f k l0 a1 = some r) :
    Calls Try.prog 27 #[.slice A0 l0.length c0, .int .i64 a1] w fun e w' => e = .returned (.bool r) ∧ Drawn0 w w' := by
  have HR0 := Aside0.mk hr0
  have HC0 := Aside0.mk hc0
  clear hr0 hc0
  have H : ((slices_Index_int_int.f k l0 a1).bind fun t546 => (some (decide (t546 ≥ 0)))) = some r := h
  clear h
  replace H := Option.bind_eq_some_iff.mp H
  obtain ⟨t546, A30, H⟩ := H
  try dsimp only at H
  have A3 := Aside0.mk A30
  clear A30
  obtain rfl := Option.some.inj H
  go_enter Try.func27, Try.ntmps27
  go_wp2_with (first | ((with_reducible refine gate_callee (f := 56) rfl ?_); refine goesL_ (some 7) rfl rfl Try.func56 Z92 rfl #[.slice A0 l0.length c0, .int .i64 a1] rfl Z89 ?_; (with_reducible refine (slices_Index_int_int.calls k _ _ l0 a1 t546 _ ?side1 ?side2 A3.out).mono ?_); (case side1 => exact Z54); (case side2 => exact HC0.out); rintro e w' ⟨rfl, ⟨nd, rfl⟩⟩; refine ⟨_, rfl, ?_⟩))
  go_ret
  exact ⟨Z91, Z17⟩

/-! ### impl_HasNumber: function 11 -/
def impl_HasNumber.f (k : Nat) (a0_0 : Int) (a0_1 : Int) (a0_2 : Int) (a0_3 : Int) (l0_4 : List Int) (a0_5 : Int) (l0_6 : List Int) (a1 : Int) : Option (Bool × Bool) := (impl_Sparse_numbers_in28_0.f k a0_0 a0_1 a0_2 a0_3 l0_4 a0_5 l0_6).bind fun bt548 => (if bt548.2 = true then ((impl_in.f a1 0 (wrap64 (a0_1 - 1))).bind fun t552 => (if t552 = true then ((slices_Contains_int_int.f k bt548.1 a1).bind fun t553 => (some (t553, true))) else (some (false, false)))) else (some (false, false)))
theorem impl_HasNumber.mono : ∀ a0 a1 a2 a3 a4 a5 a6 a7 k, LeO (impl_HasNumber.f k a0 a1 a2 a3 a4 a5 a6 a7) (impl_HasNumber.f (k + 1) a0 a1 a2 a3 a4 a5 a6 a7) := by
 intro a0 a1 a2 a3 a4 a5 a6 a7 k
 unfold impl_HasNumber.f
 repeat' first
   | with_reducible first | exact impl_Sparse_numbers_in28_0.mono .. | exact slices_Contains_int_int.mono .. | exact LeO.refl _ | exact LeO.none _ | refine LeO.ite ?_ ?_ | refine LeO.bind ?_ (fun _ => ?_)
   | exact impl_Sparse_numbers_in28_0.mono .. | exact slices_Contains_int_int.mono .. | exact LeO.none _ | refine LeO.ite ?_ ?_ | refine LeO.bind ?_ (fun _ => ?_)
set_option maxHeartbeats 8000000 in
set_option maxRecDepth 100000 in
theorem impl_HasNumber.calls (k : Nat) (a0_0 : Int) (a0_1 : Int) (a0_2 : Int) (a0_3 : Int) (A0_4 : Option Addr) (c0_4 : Nat) (l0_4 : List Int) (a0_5 : Int) (A0_6 : Option Addr) (c0_6 : Nat) (l0_6 : List Int) (a1 : Int) (r1 : Bool) (r2 : Bool) (w : World) (hr0_4 : Kd.C (Kd.int .i64) w A0_4 l0_4.length l0_4) (hc0_4 : l0_4.length ≤ c0_4) (hr0_6 : Kd.C (Kd.int .i64) w A0_6 l0_6.length l0_6) (hc0_6 : l0_6.length ≤ c0_6) (h : impl_HasNumber.f k a0_0 a0_1 a0_2 a0_3 l0_4 a0_5 l0_6 a1 = some (r1, r2)) :
  Calls Try.prog 11 #[.agg #[.int .i64 a0_0, .int .i64 a0_1, .int .i64 a0_2, .int .i64 a0_3, .slice A0_4 l0_4.length c0_4, .int .i64 a0_5, .slice A0_6 l0_6.length c0_6], .int .i64 a1] w fun e w' => e = .returned (.tuple #[.bool r1, .bool r2]) ∧ Below w.heap.size w w' := by
 have hu28 := Try.underlying28
 have HR0_4 := Aside0.mk hr0_4
 have HC0_4 := Aside0.mk hc0_4
 clear hr0_4 hc0_4
 have HR0_6 := Aside0.mk hr0_6
 have HC0_6 := Aside0.mk hc0_6
 clear hr0_6 hc0_6
 have HB := Aside0.mk (Below.refl w.heap.size w)
 have H : ((impl_Sparse_numbers_in28_0.f k a0_0 a0_1 a0_2 a0_3 l0_4 a0_5 l0_6).bind fun bt548 => (if bt548.2 = true then ((impl_in.f a1 0 (wrap64 (a0_1 - 1))).bind fun t552 => (if t552 = true then ((slices_Contains_int_int.f k bt548.1 a1).bind fun t553 => (some (t553, true))) else (some (false, false)))) else (some (false, false)))) = some (r1, r2) := h
 clear h
 replace H := Option.bind_eq_some_iff.mp H
 obtain ⟨⟨t548, t551⟩, A30, H⟩ := H
 try dsimp only at H
 have A3 := Aside0.mk A30
 clear A30
 by_cases c4 : t551 = true
 ·
  subst c4
  rw [if_pos rfl] at H
  replace H := Option.bind_eq_some_iff.mp H
  obtain ⟨t552, A50, H⟩ := H
  try dsimp only at H
  have A5 := Aside0.mk A50
  clear A50
  by_cases c6 : t552 = true
  ·
   subst c6
   rw [if_pos rfl] at H
   replace H := Option.bind_eq_some_iff.mp H
   obtain ⟨t553, A70, H⟩ := H
   try dsimp only at H
   have A7 := Aside0.mk A70
   clear A70
   simp only [Option.some.injEq, Prod.mk.injEq] at H
   obtain ⟨rfl, rfl⟩ := H
   go_enter Try.func11, Try.ntmps11
   go_wp2_with (first | ((with_reducible refine gate_dst (N := 2) rfl ?_); refine box_event ?hg (N := 2) ?hd (cs := #[.int .i64 a0_0, .int .i64 a0_1, .int .i64 a0_2, .int .i64 a0_3, .slice A0_4 l0_4.length c0_4, .int .i64 a0_5, .slice A0_6 l0_6.length c0_6]) (t := 28) ?hr ?_; (case hd => rfl); (case hg => rfl); (case hr => exact Z93); intro gb547 hg w8 hbox hb; have BK547 := Aside0.mk (hbox); have GW547 := nG HB hg; have GE547 := nG HB hg; have GI547 := gI GE547; replace HB := Aside0.mk (below_step (uN HB) hb); clear hb hbox hg) | ((with_reducible refine gate_callee (f := 22) rfl ?_); refine goesL_ (some 9) rfl rfl Try.func22 Z92 rfl #[.pointer (some ⟨gb547, 0, none⟩)] rfl Z89 ?_; (with_reducible refine (impl_Sparse_numbers_in28_0.calls k gb547 a0_0 a0_1 a0_2 a0_3 A0_4 c0_4 l0_4 a0_5 A0_6 c0_6 l0_6 t548 true _ ?side1 ?side2 ?side3 ?side4 ?side5 A3.out).mono ?_); (case side1 => exact (uK BK547)); (case side2 => exact uC HR0_4 HB); (case side3 => exact HC0_4.out); (case side4 => exact uC HR0_6 HB); (case side5 => exact HC0_6.out); rintro e w9 ⟨v549, rfl, ho0, hb⟩; refine ⟨_, rfl, ?_⟩; have HO550 := Aside0.mk (Kd.R_lower ho0 (below_size Z29)); replace BK547 := kB BK547 hb; replace HB := Aside0.mk (below_step Z29 hb); (try clear hb); (try clear hb2); (try clear hk); (try clear hi); (try clear ho0); have hcz10_0 : w9.cell? ⟨gb547, 0, none⟩ = some (.int .i64 a0_0) := bc BK547 0; have hcz10_1 : w9.cell? ⟨gb547, 1, none⟩ = some (.int .i64 a0_1) := bc BK547 1; have hcz10_2 : w9.cell? ⟨gb547, 2, none⟩ = some (.int .i64 a0_2) := bc BK547 2; have hcz10_3 : w9.cell? ⟨gb547, 3, none⟩ = some (.int .i64 a0_3) := bc BK547 3; have hcz10_4 : w9.cell? ⟨gb547, 4, none⟩ = some (.slice A0_4 l0_4.length c0_4) := bc BK547 4; have hcz10_5 : w9.cell? ⟨gb547, 5, none⟩ = some (.int .i64 a0_5) := bc BK547 5; have hcz10_6 : w9.cell? ⟨gb547, 6, none⟩ = some (.slice A0_6 l0_6.length c0_6) := bc BK547 6; have hfz10_0 := blk_frozen BK547.out 0; have hfz10_1 := blk_frozen BK547.out 1; have hfz10_2 := blk_frozen BK547.out 2; have hfz10_3 := blk_frozen BK547.out 3; have hfz10_4 := blk_frozen BK547.out 4; have hfz10_5 := blk_frozen BK547.out 5; have hfz10_6 := blk_frozen BK547.out 6) | (go_at_call 23; (with_reducible refine (impl_in.calls a1 0 (wrap64 (a0_1 - 1)) true _ A5.out).mono ?_); rintro e w' ⟨rfl, ⟨nd, rfl⟩⟩; obtain ⟨Ao11, co11, eo11⟩ := Kd.R_slice HO550.out; subst eo11) | ((with_reducible refine gate_callee (f := 27) rfl ?_); refine goesL_ (some 24) rfl rfl Try.func27 Z92 rfl #[.slice Ao11 t548.length co11, .int .i64 a1] rfl Z89 ?_; (with_reducible refine (slices_Contains_int_int.calls k _ _ t548 a1 t553 _ ?side1 ?side2 A7.out).mono ?_); (case side1 => exact uD HO550); (case side2 => exact (Kd.R_reads' HO550.out).2.1); rintro e w' ⟨rfl, ⟨nd, rfl⟩⟩; refine ⟨_, rfl, ?_⟩))
   go_ret2
   exact ⟨Z90, Z29⟩
  replace c6 := Bool.eq_false_iff.mpr c6
  subst c6
  rw [if_neg (show ¬ (false = true) from Z19)] at H
  simp only [Option.some.injEq, Prod.mk.injEq] at H
  obtain ⟨rfl, rfl⟩ := H
  go_enter Try.func11, Try.ntmps11
  go_wp2_with (first | ((with_reducible refine gate_dst (N := 2) rfl ?_); refine box_event ?hg (N := 2) ?hd (cs := #[.int .i64 a0_0, .int .i64 a0_1, .int .i64 a0_2, .int .i64 a0_3, .slice A0_4 l0_4.length c0_4, .int .i64 a0_5, .slice A0_6 l0_6.length c0_6]) (t := 28) ?hr ?_; (case hd => rfl); (case hg => rfl); (case hr => exact Z93); intro gb547 hg w12 hbox hb; have BK547 := Aside0.mk (hbox); have GW547 := nG HB hg; have GE547 := nG HB hg; have GI547 := gI GE547; replace HB := Aside0.mk (below_step (uN HB) hb); clear hb hbox hg) | ((with_reducible refine gate_callee (f := 22) rfl ?_); refine goesL_ (some 9) rfl rfl Try.func22 Z92 rfl #[.pointer (some ⟨gb547, 0, none⟩)] rfl Z89 ?_; (with_reducible refine (impl_Sparse_numbers_in28_0.calls k gb547 a0_0 a0_1 a0_2 a0_3 A0_4 c0_4 l0_4 a0_5 A0_6 c0_6 l0_6 t548 true _ ?side1 ?side2 ?side3 ?side4 ?side5 A3.out).mono ?_); (case side1 => exact (uK BK547)); (case side2 => exact uC HR0_4 HB); (case side3 => exact HC0_4.out); (case side4 => exact uC HR0_6 HB); (case side5 => exact HC0_6.out); rintro e w13 ⟨v549, rfl, ho0, hb⟩; refine ⟨_, rfl, ?_⟩; have HO550 := Aside0.mk (Kd.R_lower ho0 (below_size Z29)); replace BK547 := kB BK547 hb; replace HB := Aside0.mk (below_step Z29 hb); (try clear hb); (try clear hb2); (try clear hk); (try clear hi); (try clear ho0); have hcz14_0 : w13.cell? ⟨gb547, 0, none⟩ = some (.int .i64 a0_0) := bc BK547 0; have hcz14_1 : w13.cell? ⟨gb547, 1, none⟩ = some (.int .i64 a0_1) := bc BK547 1; have hcz14_2 : w13.cell? ⟨gb547, 2, none⟩ = some (.int .i64 a0_2) := bc BK547 2; have hcz14_3 : w13.cell? ⟨gb547, 3, none⟩ = some (.int .i64 a0_3) := bc BK547 3; have hcz14_4 : w13.cell? ⟨gb547, 4, none⟩ = some (.slice A0_4 l0_4.length c0_4) := bc BK547 4; have hcz14_5 : w13.cell? ⟨gb547, 5, none⟩ = some (.int .i64 a0_5) := bc BK547 5; have hcz14_6 : w13.cell? ⟨gb547, 6, none⟩ = some (.slice A0_6 l0_6.length c0_6) := bc BK547 6; have hfz14_0 := blk_frozen BK547.out 0; have hfz14_1 := blk_frozen BK547.out 1; have hfz14_2 := blk_frozen BK547.out 2; have hfz14_3 := blk_frozen BK547.out 3; have hfz14_4 := blk_frozen BK547.out 4; have hfz14_5 := blk_frozen BK547.out 5; have hfz14_6 := blk_frozen BK547.out 6) | (go_at_call 23; (with_reducible refine (impl_in.calls a1 0 (wrap64 (a0_1 - 1)) false _ A5.out).mono ?_); rintro e w' ⟨rfl, ⟨nd, rfl⟩⟩))
  go_ret2
  exact ⟨Z90, Z29⟩
 replace c4 := Bool.eq_false_iff.mpr c4
 subst c4
 rw [if_neg (show ¬ (false = true) from Z19)] at H
 simp only [Option.some.injEq, Prod.mk.injEq] at H
 obtain ⟨rfl, rfl⟩ := H
 go_enter Try.func11, Try.ntmps11
 go_wp2_with (first | ((with_reducible refine gate_dst (N := 2) rfl ?_); refine box_event ?hg (N := 2) ?hd (cs := #[.int .i64 a0_0, .int .i64 a0_1, .int .i64 a0_2, .int .i64 a0_3, .slice A0_4 l0_4.length c0_4, .int .i64 a0_5, .slice A0_6 l0_6.length c0_6]) (t := 28) ?hr ?_; (case hd => rfl); (case hg => rfl); (case hr => exact Z93); intro gb547 hg w15 hbox hb; have BK547 := Aside0.mk (hbox); have GW547 := nG HB hg; have GE547 := nG HB hg; have GI547 := gI GE547; replace HB := Aside0.mk (below_step (uN HB) hb); clear hb hbox hg) | ((with_reducible refine gate_callee (f := 22) rfl ?_); refine goesL_ (some 9) rfl rfl Try.func22 Z92 rfl #[.pointer (some ⟨gb547, 0, none⟩)] rfl Z89 ?_; (with_reducible refine (impl_Sparse_numbers_in28_0.calls k gb547 a0_0 a0_1 a0_2 a0_3 A0_4 c0_4 l0_4 a0_5 A0_6 c0_6 l0_6 t548 false _ ?side1 ?side2 ?side3 ?side4 ?side5 A3.out).mono ?_); (case side1 => exact (uK BK547)); (case side2 => exact uC HR0_4 HB); (case side3 => exact HC0_4.out); (case side4 => exact uC HR0_6 HB); (case side5 => exact HC0_6.out); rintro e w16 ⟨v549, rfl, ho0, hb⟩; refine ⟨_, rfl, ?_⟩; have HO550 := Aside0.mk (Kd.R_lower ho0 (below_size Z29)); replace BK547 := kB BK547 hb; replace HB := Aside0.mk (below_step Z29 hb); (try clear hb); (try clear hb2); (try clear hk); (try clear hi); (try clear ho0)))
 go_ret2
 exact ⟨Z90, Z29⟩

end Go.Proofs.Ytllaofiopnhdgaa.PFnSparseCounts
