-- made by wip/tools/myprint.py over the kit's print, for this claim
import Derived.Test.YtllaofiopnhdgaaPFnSparseCountsx0
import Derived.Test.YtllaofiopnhdgaaPFnSparseCountsx1
import Derived.Test.YtllaofiopnhdgaaPFnSparseCountsx7
import Derived.Test.YtllaofiopnhdgaaPFnSparseCountsx12
import Derived.Test.YtllaofiopnhdgaaPFnSparseCountsx15
namespace Go.Proofs.Ytllaofiopnhdgaa.PFnSparseCounts
open Go.RowKit Go.Proofs.YtllaofiopnhdgaaW.PrintWords Go.Proofs.YtllaofiopnhdgaaW.PrintLast Go.Proofs.YtllaofiopnhdgaaW.PrintMore
open List (setIfInBounds_toArray set_cons_zero set_cons_succ)
attribute [local go_sem] max2_int min2_int max_two min_two max_three min_three max_four min_four   -- for this text's walks alone
set_option linter.unusedVariables false
set_option linter.unusedSimpArgs false

/-! ### laws_FnSparseCounts: function 3 -/
mutual
def laws_FnSparseCounts.j0 : Nat → Int → Int → Bool → Bool → Int → Int → Int → Int → List Int → Int → List Int → Option (Bool)
 | 0, _, _, _, _, _, _, _, _, _, _, _ => none
 | k + 1, x6, x7, x8, x46, x568000, x568001, x568002, x568003, x568004, x568005, x568006 => if x46 = true then (some false) else ((impl_CountBelow.f k x568000 x568001 x568002 x568003 x568004 x568005 x568006 x6).bind fun bt572 => ((impl_CountBelow.f k x568000 x568001 x568002 x568003 x568004 x568005 x568006 (wrap64 (x6 + 1))).bind fun bt574 => (if bt572.2 = true then (laws_FnSparseCounts.j1 k x6 x7 x8 bt572.1 bt574.1 (!bt574.2) x568000 x568001 x568002 x568003 x568004 x568005 x568006) else (laws_FnSparseCounts.j1 k x6 x7 x8 bt572.1 bt574.1 true x568000 x568001 x568002 x568003 x568004 x568005 x568006))))
def laws_FnSparseCounts.j1 : Nat → Int → Int → Bool → Int → Int → Bool → Int → Int → Int → Int → List Int → Int → List Int → Option (Bool)
 | 0, _, _, _, _, _, _, _, _, _, _, _, _, _ => none
 | k + 1, x6, x7, x8, x11, x13, x65, x568000, x568001, x568002, x568003, x568004, x568005, x568006 => if x65 = true then (some (!x8)) else (if x6 ≥ x568001 then (some (!x8)) else ((impl_FirstAtLeast.f k x568000 x568001 x568002 x568003 x568004 x568005 x568006 x6).bind fun bt576 => ((impl_HasNumber.f k x568000 x568001 x568002 x568003 x568004 x568005 x568006 x6).bind fun bt578 => (if bt578.2 = true then (if (bt578.1 != (decide (x13 > x11))) = true then (some false) else (if (bt576.2 != (decide (x11 < x568000))) = true then (some false) else (if (x8 != (decide (x13 > 0))) = true then (some false) else (if x8 = true then (if x7 = (wrap64 (x13 - 1)) then (if bt576.2 = true then (some (bt576.1 == x11)) else (some true)) else (some false)) else (if bt576.2 = true then (some (bt576.1 == x11)) else (some true)))))) else (some false)))))
end
def laws_FnSparseCounts.f (k : Nat) (l0 : List Int) (l1 : List Int) : Option (Bool) := (laws_big.f l0 l1).bind fun t554 => (if t554 = true then (some true) else ((spec_DrawLastAtMost.f k l0).bind fun bt555 => ((impl_LastAtMost.f k bt555.1 bt555.2.1 bt555.2.2.1 bt555.2.2.2.1 bt555.2.2.2.2.1 bt555.2.2.2.2.2.1 bt555.2.2.2.2.2.2.1 bt555.2.2.2.2.2.2.2).bind fun bt568 => ((spec_LastAtMost.f k bt555.1 bt555.2.1 bt555.2.2.1 bt555.2.2.2.1 bt555.2.2.2.2.1 bt555.2.2.2.2.2.1 bt555.2.2.2.2.2.2.1 bt555.2.2.2.2.2.2.2).bind fun bt570 => (if (bt568.2 != bt570.2) = true then (laws_FnSparseCounts.j0 k bt555.2.2.2.2.2.2.2 bt568.1 bt568.2 true bt555.1 bt555.2.1 bt555.2.2.1 bt555.2.2.2.1 bt555.2.2.2.2.1 bt555.2.2.2.2.2.1 bt555.2.2.2.2.2.2.1) else (laws_FnSparseCounts.j0 k bt555.2.2.2.2.2.2.2 bt568.1 bt568.2 (bt568.1 != bt570.1) bt555.1 bt555.2.1 bt555.2.2.1 bt555.2.2.2.1 bt555.2.2.2.2.1 bt555.2.2.2.2.2.1 bt555.2.2.2.2.2.2.1))))))
theorem laws_FnSparseCounts.mono_l : ∀ k, (∀ y0 y1 y2 y3 y4 y5 y6 y7 y8 y9 y10, LeO (laws_FnSparseCounts.j0 k y0 y1 y2 y3 y4 y5 y6 y7 y8 y9 y10) (laws_FnSparseCounts.j0 (k + 1) y0 y1 y2 y3 y4 y5 y6 y7 y8 y9 y10)) ∧ (∀ y0 y1 y2 y3 y4 y5 y6 y7 y8 y9 y10 y11 y12, LeO (laws_FnSparseCounts.j1 k y0 y1 y2 y3 y4 y5 y6 y7 y8 y9 y10 y11 y12) (laws_FnSparseCounts.j1 (k + 1) y0 y1 y2 y3 y4 y5 y6 y7 y8 y9 y10 y11 y12))
 | 0 => ⟨fun _ _ _ _ _ _ _ _ _ _ _ r h => by simp [laws_FnSparseCounts.j0] at h, fun _ _ _ _ _ _ _ _ _ _ _ _ _ r h => by simp [laws_FnSparseCounts.j1] at h⟩ | k + 1 => by
  obtain ⟨ih0, ih1⟩ := laws_FnSparseCounts.mono_l k
  refine ⟨?_, ?_⟩
  ·
   intro y0 y1 y2 y3 y4 y5 y6 y7 y8 y9 y10
   unfold laws_FnSparseCounts.j0
   repeat' first
   | with_reducible first | exact ih0 .. | exact ih1 .. | exact impl_CountBelow.mono .. | exact impl_FirstAtLeast.mono .. | exact impl_HasNumber.mono .. | exact impl_LastAtMost.mono .. | exact spec_DrawLastAtMost.mono .. | exact spec_LastAtMost.mono .. | exact LeO.refl _ | exact LeO.none _ | refine LeO.ite ?_ ?_ | refine LeO.bind ?_ (fun _ => ?_)
   | exact ih0 .. | exact ih1 .. | exact impl_CountBelow.mono .. | exact impl_FirstAtLeast.mono .. | exact impl_HasNumber.mono .. | exact impl_LastAtMost.mono .. | exact spec_DrawLastAtMost.mono .. | exact spec_LastAtMost.mono .. | exact LeO.none _ | refine LeO.ite ?_ ?_ | refine LeO.bind ?_ (fun _ => ?_)
  intro y0 y1 y2 y3 y4 y5 y6 y7 y8 y9 y10 y11 y12
  unfold laws_FnSparseCounts.j1
  repeat' first
  | with_reducible first | exact ih0 .. | exact ih1 .. | exact impl_CountBelow.mono .. | exact impl_FirstAtLeast.mono .. | exact impl_HasNumber.mono .. | exact impl_LastAtMost.mono .. | exact spec_DrawLastAtMost.mono .. | exact spec_LastAtMost.mono .. | exact LeO.refl _ | exact LeO.none _ | refine LeO.ite ?_ ?_ | refine LeO.bind ?_ (fun _ => ?_)
  | exact ih0 .. | exact ih1 .. | exact impl_CountBelow.mono .. | exact impl_FirstAtLeast.mono .. | exact impl_HasNumber.mono .. | exact impl_LastAtMost.mono .. | exact spec_DrawLastAtMost.mono .. | exact spec_LastAtMost.mono .. | exact LeO.none _ | refine LeO.ite ?_ ?_ | refine LeO.bind ?_ (fun _ => ?_)
theorem laws_FnSparseCounts.mono : ∀ a0 a1 k, LeO (laws_FnSparseCounts.f k a0 a1) (laws_FnSparseCounts.f (k + 1) a0 a1) := by
 intro a0 a1 k
 obtain ⟨ih0, ih1⟩ := laws_FnSparseCounts.mono_l k
 unfold laws_FnSparseCounts.f
 repeat' first
   | with_reducible first | exact ih0 .. | exact ih1 .. | exact impl_CountBelow.mono .. | exact impl_FirstAtLeast.mono .. | exact impl_HasNumber.mono .. | exact impl_LastAtMost.mono .. | exact spec_DrawLastAtMost.mono .. | exact spec_LastAtMost.mono .. | exact LeO.refl _ | exact LeO.none _ | refine LeO.ite ?_ ?_ | refine LeO.bind ?_ (fun _ => ?_)
   | exact ih0 .. | exact ih1 .. | exact impl_CountBelow.mono .. | exact impl_FirstAtLeast.mono .. | exact impl_HasNumber.mono .. | exact impl_LastAtMost.mono .. | exact spec_DrawLastAtMost.mono .. | exact spec_LastAtMost.mono .. | exact LeO.none _ | refine LeO.ite ?_ ?_ | refine LeO.bind ?_ (fun _ => ?_)
set_option maxHeartbeats 8000000 in
set_option maxRecDepth 100000 in
theorem laws_FnSparseCounts.calls (k : Nat) (A0 : Option Addr) (c0 : Nat) (l0 : List Int) (A1 : Option Addr) (c1 : Nat) (l1 : List Int) (r : Bool) (w : World) (hr0 : Kd.C (Kd.int .u8) w A0 l0.length l0) (hc0 : l0.length ≤ c0) (hr1 : Kd.C (Kd.int .u8) w A1 l1.length l1) (hc1 : l1.length ≤ c1) (h : laws_FnSparseCounts.f k l0 l1 = some r) :
  Calls Try.prog 3 #[.slice A0 l0.length c0, .slice A1 l1.length c1] w fun e w' => e = .returned (.bool r) ∧ Below w.heap.size w w' := by
 have hu28 := Try.underlying28
 have HR0 := Aside0.mk hr0
 have HC0 := Aside0.mk hc0
 clear hr0 hc0
 have HR1 := Aside0.mk hr1
 have HC1 := Aside0.mk hc1
 clear hr1 hc1
 have HB := Aside0.mk (Below.refl w.heap.size w)
 have H : ((laws_big.f l0 l1).bind fun t554 => (if t554 = true then (some true) else ((spec_DrawLastAtMost.f k l0).bind fun bt555 => ((impl_LastAtMost.f k bt555.1 bt555.2.1 bt555.2.2.1 bt555.2.2.2.1 bt555.2.2.2.2.1 bt555.2.2.2.2.2.1 bt555.2.2.2.2.2.2.1 bt555.2.2.2.2.2.2.2).bind fun bt568 => ((spec_LastAtMost.f k bt555.1 bt555.2.1 bt555.2.2.1 bt555.2.2.2.1 bt555.2.2.2.2.1 bt555.2.2.2.2.2.1 bt555.2.2.2.2.2.2.1 bt555.2.2.2.2.2.2.2).bind fun bt570 => (if (bt568.2 != bt570.2) = true then (laws_FnSparseCounts.j0 k bt555.2.2.2.2.2.2.2 bt568.1 bt568.2 true bt555.1 bt555.2.1 bt555.2.2.1 bt555.2.2.2.1 bt555.2.2.2.2.1 bt555.2.2.2.2.2.1 bt555.2.2.2.2.2.2.1) else (laws_FnSparseCounts.j0 k bt555.2.2.2.2.2.2.2 bt568.1 bt568.2 (bt568.1 != bt570.1) bt555.1 bt555.2.1 bt555.2.2.1 bt555.2.2.2.1 bt555.2.2.2.2.1 bt555.2.2.2.2.2.1 bt555.2.2.2.2.2.2.1))))))) = some r := h
 clear h
 replace H := Option.bind_eq_some_iff.mp H
 obtain ⟨t554, A30, H⟩ := H
 try dsimp only at H
 have A3 := Aside0.mk A30
 clear A30
 by_cases c4 : t554 = true
 ·
  subst c4
  rw [if_pos rfl] at H
  obtain rfl := Option.some.inj H
  go_enter Try.func3, Try.ntmps3
  go_wp2_with (first | ((with_reducible refine gate_callee (f := 5) rfl ?_); refine goesL_ (some 21) rfl rfl Try.func5 Z92 rfl #[.slice A0 l0.length c0, .slice A1 l1.length c1] rfl Z89 ?_; (with_reducible refine (laws_big.calls _ _ l0 _ _ l1 true _ ?side1 ?side2 ?side3 ?side4 A3.out).mono ?_); (case side1 => exact Z54); (case side2 => exact HC0.out); (case side3 => exact Z70); (case side4 => exact HC1.out); rintro e w' ⟨rfl, ⟨nd, rfl⟩⟩; refine ⟨_, rfl, ?_⟩))
  go_ret
  exact ⟨Z90, uN HB⟩
 replace c4 := Bool.eq_false_iff.mpr c4
 subst c4
 rw [if_neg (show ¬ (false = true) from Z19)] at H
 replace H := Option.bind_eq_some_iff.mp H
 obtain ⟨⟨t555, t556, t557, t558, t559, t562, t563, t566⟩, A50, H⟩ := H
 try dsimp only at H
 have A5 := Aside0.mk A50
 clear A50
 replace H := Option.bind_eq_some_iff.mp H
 obtain ⟨⟨t568, t569⟩, A60, H⟩ := H
 try dsimp only at H
 have A6 := Aside0.mk A60
 clear A60
 replace H := Option.bind_eq_some_iff.mp H
 obtain ⟨⟨t570, t571⟩, A70, H⟩ := H
 try dsimp only at H
 have A7 := Aside0.mk A70
 clear A70
 have HC8 := Aside0.mk H
 clear H
 go_enter Try.func3, Try.ntmps3
 go_upto_region 6 with (first | ((with_reducible refine gate_callee (f := 5) rfl ?_); refine goesL_ (some 21) rfl rfl Try.func5 Z92 rfl #[.slice A0 l0.length c0, .slice A1 l1.length c1] rfl Z89 ?_; (with_reducible refine (laws_big.calls _ _ l0 _ _ l1 false _ ?side1 ?side2 ?side3 ?side4 A3.out).mono ?_); (case side1 => exact Z54); (case side2 => exact HC0.out); (case side3 => exact Z70); (case side4 => exact HC1.out); rintro e w' ⟨rfl, ⟨nd, rfl⟩⟩; refine ⟨_, rfl, ?_⟩) | ((with_reducible refine gate_callee (f := 6) rfl ?_); refine goesL_ (some 24) rfl rfl Try.func6 Z92 rfl #[.slice A0 l0.length c0] rfl Z89 ?_; (with_reducible refine (spec_DrawLastAtMost.calls k _ _ l0 t555 t556 t557 t558 t559 t562 t563 t566 _ ?side1 ?side2 A5.out).mono ?_); (case side1 => exact Z54); (case side2 => exact HC0.out); rintro e w9 ⟨v560, v564, rfl, ho0, ho1, hb⟩; refine ⟨_, rfl, ?_⟩; have HO561 := Aside0.mk (Kd.R_lower ho0 (below_size (uN HB))); have HO565 := Aside0.mk (Kd.R_lower ho1 (below_size (uN HB))); replace HB := Aside0.mk (below_step (uN HB) hb); (try clear hb); (try clear hb2); (try clear hk); (try clear hi); (try clear ho0); (try clear ho1)) | ((with_reducible refine gate_dst (N := 5) rfl ?_); refine box_event ?hg (N := 5) ?hd (cs := #[.int .i64 0, .int .i64 0, .int .i64 0, .int .i64 0, .slice none 0 0, .int .i64 0, .slice none 0 0]) (t := 28) ?hr ?_; (case hd => rfl); (case hg => rfl); (case hr => exact Z93); intro gb567 hg w10 hbox hb; replace HO561 := Aside0.mk (Kd.R_below (uR HO561) hb); replace HO565 := Aside0.mk (Kd.R_below (uR HO565) hb); have BK567 := Aside0.mk (hbox); have GW567 := nG HB hg; have GE567 := nG HB hg; have GI567 := gI GE567; replace HB := Aside0.mk (below_step (uN HB) hb); clear hb hbox hg; have hcz11_0 : w10.cell? ⟨gb567, 0, none⟩ = some (.int .i64 0) := bc BK567 0; have hcz11_1 : w10.cell? ⟨gb567, 1, none⟩ = some (.int .i64 0) := bc BK567 1; have hcz11_2 : w10.cell? ⟨gb567, 2, none⟩ = some (.int .i64 0) := bc BK567 2; have hcz11_3 : w10.cell? ⟨gb567, 3, none⟩ = some (.int .i64 0) := bc BK567 3; have hcz11_4 : w10.cell? ⟨gb567, 4, none⟩ = some (.slice none 0 0) := bc BK567 4; have hcz11_5 : w10.cell? ⟨gb567, 5, none⟩ = some (.int .i64 0) := bc BK567 5; have hcz11_6 : w10.cell? ⟨gb567, 6, none⟩ = some (.slice none 0 0) := bc BK567 6; have hfz11_0 := blk_frozen BK567.out 0; have hfz11_1 := blk_frozen BK567.out 1; have hfz11_2 := blk_frozen BK567.out 2; have hfz11_3 := blk_frozen BK567.out 3; have hfz11_4 := blk_frozen BK567.out 4; have hfz11_5 := blk_frozen BK567.out 5; have hfz11_6 := blk_frozen BK567.out 6; obtain ⟨Ao12, co12, eo12⟩ := Kd.R_slice HO561.out; subst eo12; obtain ⟨Ao13, co13, eo13⟩ := Kd.R_slice HO565.out; subst eo13) | ((with_reducible refine gate_callee (f := 7) rfl ?_); refine goesL_ (some 30) rfl rfl Try.func7 Z92 rfl #[.agg #[.int .i64 t555, .int .i64 t556, .int .i64 t557, .int .i64 t558, .slice Ao12 t559.length co12, .int .i64 t562, .slice Ao13 t563.length co13], .int .i64 t566] rfl Z89 ?_; (with_reducible refine (impl_LastAtMost.calls k t555 t556 t557 t558 _ _ t559 t562 _ _ t563 t566 t568 t569 _ ?side1 ?side2 ?side3 ?side4 A6.out).mono ?_); (case side1 => refine (Kd.R_reads' (e := 3) (base := w.heap.size) (ok := fun k_ => some k_ ≠ (.slice Ao13 t563.length co13 : Value).ownBlock) (n := t559.length) (c := co12) ?_).2.2; exact (fS HO561 BK567 Z19)); (case side2 => exact (Kd.R_reads' HO561.out).2.1); (case side3 => refine (Kd.R_reads' (e := 3) (base := w.heap.size) (ok := fun k_ => some k_ ≠ (.slice Ao12 t559.length co12 : Value).ownBlock) (n := t563.length) (c := co13) ?_).2.2; exact (fS HO565 BK567 Z19)); (case side4 => exact (Kd.R_reads' HO565.out).2.1); rintro e w14 ⟨rfl, hb⟩; refine ⟨_, rfl, ?_⟩; replace HO561 := Aside0.mk (Kd.R_below (fS HO561 BK567 Z19) hb); replace HO565 := Aside0.mk (Kd.R_below (fS HO565 BK567 Z19) hb); replace BK567 := Aside0.mk (blk_below (g := gb567) (o := .cells #[.int .i64 t555, .int .i64 t556, .int .i64 t557, .int .i64 t558, .slice Ao12 t559.length co12, .int .i64 t562, .slice Ao13 t563.length co13] 28 (0, 0)) (by refine uW ?_; refine blk_put (cs := #[.int .i64 t555, .int .i64 t556, .int .i64 t557, .int .i64 t558, .slice Ao12 t559.length co12, .int .i64 t562, .slice none 0 0]) ?_ 6 _ rfl; refine uW ?_; refine blk_put (cs := #[.int .i64 t555, .int .i64 t556, .int .i64 t557, .int .i64 t558, .slice Ao12 t559.length co12, .int .i64 0, .slice none 0 0]) ?_ 5 _ rfl; refine uW ?_; refine blk_put (cs := #[.int .i64 t555, .int .i64 t556, .int .i64 t557, .int .i64 t558, .slice none 0 0, .int .i64 0, .slice none 0 0]) ?_ 4 _ rfl; refine uW ?_; refine blk_put (cs := #[.int .i64 t555, .int .i64 t556, .int .i64 t557, .int .i64 0, .slice none 0 0, .int .i64 0, .slice none 0 0]) ?_ 3 _ rfl; refine uW ?_; refine blk_put (cs := #[.int .i64 t555, .int .i64 t556, .int .i64 0, .int .i64 0, .slice none 0 0, .int .i64 0, .slice none 0 0]) ?_ 2 _ rfl; refine uW ?_; refine blk_put (cs := #[.int .i64 t555, .int .i64 0, .int .i64 0, .int .i64 0, .slice none 0 0, .int .i64 0, .slice none 0 0]) ?_ 1 _ rfl; refine uW ?_; refine blk_put (cs := #[.int .i64 0, .int .i64 0, .int .i64 0, .int .i64 0, .slice none 0 0, .int .i64 0, .slice none 0 0]) ?_ 0 _ rfl; refine uW ?_; exact BK567.out) hb); replace HB := Aside0.mk (below_step (uN HB) hb); (try clear hb); (try clear hb2); (try clear hk); (try clear hi); have hcz15_0 : w14.cell? ⟨gb567, 0, none⟩ = some (.int .i64 t555) := bc BK567 0; have hcz15_1 : w14.cell? ⟨gb567, 1, none⟩ = some (.int .i64 t556) := bc BK567 1; have hcz15_2 : w14.cell? ⟨gb567, 2, none⟩ = some (.int .i64 t557) := bc BK567 2; have hcz15_3 : w14.cell? ⟨gb567, 3, none⟩ = some (.int .i64 t558) := bc BK567 3; have hcz15_4 : w14.cell? ⟨gb567, 4, none⟩ = some (.slice Ao12 t559.length co12) := bc BK567 4; have hcz15_5 : w14.cell? ⟨gb567, 5, none⟩ = some (.int .i64 t562) := bc BK567 5; have hcz15_6 : w14.cell? ⟨gb567, 6, none⟩ = some (.slice Ao13 t563.length co13) := bc BK567 6; have hfz15_0 := blk_frozen BK567.out 0; have hfz15_1 := blk_frozen BK567.out 1; have hfz15_2 := blk_frozen BK567.out 2; have hfz15_3 := blk_frozen BK567.out 3; have hfz15_4 := blk_frozen BK567.out 4; have hfz15_5 := blk_frozen BK567.out 5; have hfz15_6 := blk_frozen BK567.out 6) | ((with_reducible refine gate_callee (f := 8) rfl ?_); refine goesL_ (some 36) rfl rfl Try.func8 Z92 rfl #[.agg #[.int .i64 t555, .int .i64 t556, .int .i64 t557, .int .i64 t558, .slice Ao12 t559.length co12, .int .i64 t562, .slice Ao13 t563.length co13], .int .i64 t566] rfl Z89 ?_; (with_reducible refine (spec_LastAtMost.calls k t555 t556 t557 t558 _ _ t559 t562 _ _ t563 t566 t570 t571 _ ?side1 ?side2 ?side3 ?side4 A7.out).mono ?_); (case side1 => exact uD HO561); (case side2 => exact (Kd.R_reads' HO561.out).2.1); (case side3 => exact uD HO565); (case side4 => exact (Kd.R_reads' HO565.out).2.1); rintro e w16 ⟨rfl, hb⟩; refine ⟨_, rfl, ?_⟩; replace HO561 := Aside0.mk (Kd.R_below (uR HO561) hb); replace HO565 := Aside0.mk (Kd.R_below (uR HO565) hb); replace BK567 := kB BK567 hb; replace HB := Aside0.mk (below_step (uN HB) hb); (try clear hb); (try clear hb2); (try clear hk); (try clear hi)))
 (try simp only [Act.put, setIfInBounds_toArray, set_cons_zero, set_cons_succ])
 go_cut [46] (fun v46 wc => ∃ (kq : Nat) (x46_7 : Bool), v46 = .bool x46_7 ∧ Aside0 (laws_FnSparseCounts.j0 kq t566 t568 t569 x46_7 t555 t556 t557 t558 t559 t562 t563 = some r) ∧ Aside0 (kq ≤ k) ∧ Aside0 (Kd.R (Kd.int .i64) 3 wc w.heap.size (fun k_ => some k_ ≠ ((.slice Ao13 t563.length co13) : Value).ownBlock) (.slice Ao12 t559.length co12) t559) ∧ Aside0 (Kd.R (Kd.int .i64) 3 wc w.heap.size (fun k_ => some k_ ≠ ((.slice Ao12 t559.length co12) : Value).ownBlock) (.slice Ao13 t563.length co13) t563) ∧ Aside0 (wc.heap[gb567]? = some (.cells #[.int .i64 t555, .int .i64 t556, .int .i64 t557, .int .i64 t558, (.slice Ao12 t559.length co12), .int .i64 t562, (.slice Ao13 t563.length co13)] 28 (0, 0))) ∧ Aside0 (Below w.heap.size w wc))
 case first =>
  have H := HC8.out
  clear HC8
  by_cases c17 : (t569 != t571) = true
  ·
   rw [if_pos c17] at H
   have c17b0 : (t569 != t571) = true := c17
   (try (have c17b1 : decide (t569 = t571) = false := by simpa using c17))
   (try (have c17b2 : (t569 == t571) = false := by simpa using c17))
   (try (have c17b3 : ¬ (t569 = t571) := by simpa using c17))
   clear c17
   (first | rw [c17b0] | (simp only [i64_w, i32_w]; rw [c17b0]) | skip)
   have H' := Aside0.mk H
   clear H
   go_wp2
   go_meet
   case rel => exact ⟨_, (true), Z91, H', ⟨Z96⟩, ⟨Z85⟩, ⟨Z84⟩, ⟨by refine uW ?_; exact BK567.out⟩, ⟨uN HB⟩⟩
  rw [if_neg c17] at H
  have c17b0 : (t569 != t571) = false := by simpa using c17
  (try (have c17b1 : decide (t569 = t571) = true := by simpa using c17))
  (try (have c17b2 : (t569 == t571) = true := by simpa using c17))
  clear c17
  (first | rw [c17b0] | (simp only [i64_w, i32_w]; rw [c17b0]) | skip)
  have H' := Aside0.mk H
  clear H
  go_wp2
  go_meet
  case rel => exact ⟨_, ((t568 != t570)), Z91, H', ⟨Z96⟩, ⟨Z85⟩, ⟨Z84⟩, ⟨by refine uW ?_; exact BK567.out⟩, ⟨uN HB⟩⟩
 case rest =>
  clear HC8
  try clear c1
  try clear p2
  try clear c3
  try clear c4
  try clear c5
  try clear c6
  try clear c7
  try clear c8
  try clear c17
  try clear c17b0
  try clear c17b1
  try clear c17b2
  try clear hcz11_0
  try clear hcz11_1
  try clear hcz11_2
  try clear hcz11_3
  try clear hcz11_4
  try clear hcz11_5
  try clear hcz11_6
  try clear hcz15_0
  try clear hcz15_1
  try clear hcz15_2
  try clear hcz15_3
  try clear hcz15_4
  try clear hcz15_5
  try clear hcz15_6
  try clear hfz11_0
  try clear hfz11_1
  try clear hfz11_2
  try clear hfz11_3
  try clear hfz11_4
  try clear hfz11_5
  try clear hfz11_6
  try clear hfz15_0
  try clear hfz15_1
  try clear hfz15_2
  try clear hfz15_3
  try clear hfz15_4
  try clear hfz15_5
  try clear hfz15_6
  obtain ⟨kq, x46_7, rfl, HA, HJ7, HO_568004, HO_568006, BK567, HB⟩ := hcut
  cases kq with
  | zero => exact absurd HA.out (by simp [laws_FnSparseCounts.j0])
  | succ kj7 =>
   have H := HA.out
   clear HA
   simp only [laws_FnSparseCounts.j0] at H
   by_cases c18 : x46_7 = true
   ·
    subst c18
    rw [if_pos rfl] at H
    obtain rfl := Option.some.inj H
    go_wp2
    go_ret
    exact ⟨Z90, uN HB⟩
   replace c18 := Bool.eq_false_iff.mpr c18
   subst c18
   rw [if_neg (show ¬ (false = true) from Z19)] at H
   replace H := Option.bind_eq_some_iff.mp H
   obtain ⟨⟨t572, t573⟩, A190, H⟩ := H
   try dsimp only at H
   have A19 := Aside0.mk A190
   clear A190
   replace H := Option.bind_eq_some_iff.mp H
   obtain ⟨⟨t574, t575⟩, A200, H⟩ := H
   try dsimp only at H
   have A20 := Aside0.mk A200
   clear A200
   have HC21 := Aside0.mk H
   clear H
   have hcz22_0 : wc.cell? ⟨gb567, 0, none⟩ = some (.int .i64 t555) := bc BK567 0
   have hcz22_1 : wc.cell? ⟨gb567, 1, none⟩ = some (.int .i64 t556) := bc BK567 1
   have hcz22_2 : wc.cell? ⟨gb567, 2, none⟩ = some (.int .i64 t557) := bc BK567 2
   have hcz22_3 : wc.cell? ⟨gb567, 3, none⟩ = some (.int .i64 t558) := bc BK567 3
   have hcz22_4 : wc.cell? ⟨gb567, 4, none⟩ = some (.slice Ao12 t559.length co12) := bc BK567 4
   have hcz22_5 : wc.cell? ⟨gb567, 5, none⟩ = some (.int .i64 t562) := bc BK567 5
   have hcz22_6 : wc.cell? ⟨gb567, 6, none⟩ = some (.slice Ao13 t563.length co13) := bc BK567 6
   have hfz22_0 := blk_frozen BK567.out 0
   have hfz22_1 := blk_frozen BK567.out 1
   have hfz22_2 := blk_frozen BK567.out 2
   have hfz22_3 := blk_frozen BK567.out 3
   have hfz22_4 := blk_frozen BK567.out 4
   have hfz22_5 := blk_frozen BK567.out 5
   have hfz22_6 := blk_frozen BK567.out 6
   go_upto_region 10 with (first | ((with_reducible refine gate_callee (f := 9) rfl ?_); refine goesL_ (some 50) rfl rfl Try.func9 Z92 rfl #[.agg #[.int .i64 t555, .int .i64 t556, .int .i64 t557, .int .i64 t558, .slice Ao12 t559.length co12, .int .i64 t562, .slice Ao13 t563.length co13], .int .i64 t566] rfl Z89 ?_; (with_reducible refine (impl_CountBelow.calls kj7 t555 t556 t557 t558 _ _ t559 t562 _ _ t563 t566 t572 t573 _ ?side1 ?side2 ?side3 ?side4 A19.out).mono ?_); (case side1 => exact uD HO_568004); (case side2 => exact (Kd.R_reads' HO_568004.out).2.1); (case side3 => exact uD HO_568006); (case side4 => exact (Kd.R_reads' HO_568006.out).2.1); rintro e w23 ⟨rfl, hb⟩; refine ⟨_, rfl, ?_⟩; replace HO_568004 := Aside0.mk (Kd.R_below (uR HO_568004) hb); replace HO_568006 := Aside0.mk (Kd.R_below (uR HO_568006) hb); replace BK567 := kB BK567 hb; replace HB := Aside0.mk (below_step (uN HB) hb); (try clear hb); (try clear hb2); (try clear hk); (try clear hi); have hcz24_0 : w23.cell? ⟨gb567, 0, none⟩ = some (.int .i64 t555) := bc BK567 0; have hcz24_1 : w23.cell? ⟨gb567, 1, none⟩ = some (.int .i64 t556) := bc BK567 1; have hcz24_2 : w23.cell? ⟨gb567, 2, none⟩ = some (.int .i64 t557) := bc BK567 2; have hcz24_3 : w23.cell? ⟨gb567, 3, none⟩ = some (.int .i64 t558) := bc BK567 3; have hcz24_4 : w23.cell? ⟨gb567, 4, none⟩ = some (.slice Ao12 t559.length co12) := bc BK567 4; have hcz24_5 : w23.cell? ⟨gb567, 5, none⟩ = some (.int .i64 t562) := bc BK567 5; have hcz24_6 : w23.cell? ⟨gb567, 6, none⟩ = some (.slice Ao13 t563.length co13) := bc BK567 6; have hfz24_0 := blk_frozen BK567.out 0; have hfz24_1 := blk_frozen BK567.out 1; have hfz24_2 := blk_frozen BK567.out 2; have hfz24_3 := blk_frozen BK567.out 3; have hfz24_4 := blk_frozen BK567.out 4; have hfz24_5 := blk_frozen BK567.out 5; have hfz24_6 := blk_frozen BK567.out 6) | ((with_reducible refine gate_callee (f := 9) rfl ?_); refine goesL_ (some 57) rfl rfl Try.func9 Z92 rfl #[.agg #[.int .i64 t555, .int .i64 t556, .int .i64 t557, .int .i64 t558, .slice Ao12 t559.length co12, .int .i64 t562, .slice Ao13 t563.length co13], .int .i64 (wrap64 (t566 + 1))] rfl Z89 ?_; (with_reducible refine (impl_CountBelow.calls kj7 t555 t556 t557 t558 _ _ t559 t562 _ _ t563 (wrap64 (t566 + 1)) t574 t575 _ ?side1 ?side2 ?side3 ?side4 A20.out).mono ?_); (case side1 => exact uD HO_568004); (case side2 => exact (Kd.R_reads' HO_568004.out).2.1); (case side3 => exact uD HO_568006); (case side4 => exact (Kd.R_reads' HO_568006.out).2.1); rintro e w25 ⟨rfl, hb⟩; refine ⟨_, rfl, ?_⟩; replace HO_568004 := Aside0.mk (Kd.R_below (uR HO_568004) hb); replace HO_568006 := Aside0.mk (Kd.R_below (uR HO_568006) hb); replace BK567 := kB BK567 hb; replace HB := Aside0.mk (below_step (uN HB) hb); (try clear hb); (try clear hb2); (try clear hk); (try clear hi)))
   (try simp only [Act.put, setIfInBounds_toArray, set_cons_zero, set_cons_succ])
   go_cut [65] (fun v65 wc => ∃ (kq : Nat) (x65_20 : Bool), v65 = .bool x65_20 ∧ Aside0 (laws_FnSparseCounts.j1 kq t566 t568 t569 t572 t574 x65_20 t555 t556 t557 t558 t559 t562 t563 = some r) ∧ Aside0 (kq ≤ kj7) ∧ Aside0 (Kd.R (Kd.int .i64) 3 wc w.heap.size (fun k_ => some k_ ≠ ((.slice Ao13 t563.length co13) : Value).ownBlock) (.slice Ao12 t559.length co12) t559) ∧ Aside0 (Kd.R (Kd.int .i64) 3 wc w.heap.size (fun k_ => some k_ ≠ ((.slice Ao12 t559.length co12) : Value).ownBlock) (.slice Ao13 t563.length co13) t563) ∧ Aside0 (wc.heap[gb567]? = some (.cells #[.int .i64 t555, .int .i64 t556, .int .i64 t557, .int .i64 t558, (.slice Ao12 t559.length co12), .int .i64 t562, (.slice Ao13 t563.length co13)] 28 (0, 0))) ∧ Aside0 (Below w.heap.size w wc))
   case first =>
    have H := HC21.out
    clear HC21
    by_cases c26 : t573 = true
    ·
     subst c26
     rw [if_pos rfl] at H
     have H' := Aside0.mk H
     clear H
     go_wp2
     go_meet
     case rel => exact ⟨_, (!t575), Z91, H', ⟨by have := HJ7.out; first | omega | exact Nat.le_refl _⟩, ⟨Z81⟩, ⟨Z80⟩, ⟨by refine uW ?_; exact BK567.out⟩, ⟨uN HB⟩⟩
    replace c26 := Bool.eq_false_iff.mpr c26
    subst c26
    rw [if_neg (show ¬ (false = true) from Z19)] at H
    have H' := Aside0.mk H
    clear H
    go_wp2
    go_meet
    case rel => exact ⟨_, (true), Z91, H', ⟨by have := HJ7.out; first | omega | exact Nat.le_refl _⟩, ⟨Z81⟩, ⟨Z80⟩, ⟨by refine uW ?_; exact BK567.out⟩, ⟨uN HB⟩⟩
   case rest =>
    clear HC21
    try clear c1
    try clear c2
    try clear p2
    try clear c3
    try clear c4
    try clear c5
    try clear c6
    try clear p6
    try clear c7
    try clear c8
    try clear c9
    try clear c17
    try clear c17b0
    try clear c17b1
    try clear c17b2
    try clear c18
    try clear c26
    try clear hcz11_0
    try clear hcz11_1
    try clear hcz11_2
    try clear hcz11_3
    try clear hcz11_4
    try clear hcz11_5
    try clear hcz11_6
    try clear hcz15_0
    try clear hcz15_1
    try clear hcz15_2
    try clear hcz15_3
    try clear hcz15_4
    try clear hcz15_5
    try clear hcz15_6
    try clear hcz22_0
    try clear hcz22_1
    try clear hcz22_2
    try clear hcz22_3
    try clear hcz22_4
    try clear hcz22_5
    try clear hcz22_6
    try clear hcz24_0
    try clear hcz24_1
    try clear hcz24_2
    try clear hcz24_3
    try clear hcz24_4
    try clear hcz24_5
    try clear hcz24_6
    try clear hfz11_0
    try clear hfz11_1
    try clear hfz11_2
    try clear hfz11_3
    try clear hfz11_4
    try clear hfz11_5
    try clear hfz11_6
    try clear hfz15_0
    try clear hfz15_1
    try clear hfz15_2
    try clear hfz15_3
    try clear hfz15_4
    try clear hfz15_5
    try clear hfz15_6
    try clear hfz22_0
    try clear hfz22_1
    try clear hfz22_2
    try clear hfz22_3
    try clear hfz22_4
    try clear hfz22_5
    try clear hfz22_6
    try clear hfz24_0
    try clear hfz24_1
    try clear hfz24_2
    try clear hfz24_3
    try clear hfz24_4
    try clear hfz24_5
    try clear hfz24_6
    try clear p2
    obtain ⟨kq, x65_20, rfl, HA, HJ20, HO_568004, HO_568006, BK567, HB⟩ := hcut
    cases kq with
    | zero => exact absurd HA.out (by simp [laws_FnSparseCounts.j1])
    | succ kj20 =>
     have H := HA.out
     clear HA
     simp only [laws_FnSparseCounts.j1] at H
     by_cases c27 : x65_20 = true
     ·
      subst c27
      rw [if_pos rfl] at H
      obtain rfl := Option.some.inj H
      go_wp2
      go_ret
      exact ⟨Z90, uN HB⟩
     replace c27 := Bool.eq_false_iff.mpr c27
     subst c27
     rw [if_neg (show ¬ (false = true) from Z19)] at H
     by_cases c28 : t566 ≥ t556
     ·
      rw [if_pos c28] at H
      have c28b0 : decide (t556 ≤ t566) = true := decide_eq_true c28
      clear c28
      obtain rfl := Option.some.inj H
      have hcz29_0 : wc.cell? ⟨gb567, 0, none⟩ = some (.int .i64 t555) := bc BK567 0
      have hcz29_1 : wc.cell? ⟨gb567, 1, none⟩ = some (.int .i64 t556) := bc BK567 1
      have hcz29_2 : wc.cell? ⟨gb567, 2, none⟩ = some (.int .i64 t557) := bc BK567 2
      have hcz29_3 : wc.cell? ⟨gb567, 3, none⟩ = some (.int .i64 t558) := bc BK567 3
      have hcz29_4 : wc.cell? ⟨gb567, 4, none⟩ = some (.slice Ao12 t559.length co12) := bc BK567 4
      have hcz29_5 : wc.cell? ⟨gb567, 5, none⟩ = some (.int .i64 t562) := bc BK567 5
      have hcz29_6 : wc.cell? ⟨gb567, 6, none⟩ = some (.slice Ao13 t563.length co13) := bc BK567 6
      have hfz29_0 := blk_frozen BK567.out 0
      have hfz29_1 := blk_frozen BK567.out 1
      have hfz29_2 := blk_frozen BK567.out 2
      have hfz29_3 := blk_frozen BK567.out 3
      have hfz29_4 := blk_frozen BK567.out 4
      have hfz29_5 := blk_frozen BK567.out 5
      have hfz29_6 := blk_frozen BK567.out 6
      go_wp2
      go_ret
      exact ⟨Z90, uN HB⟩
     rw [if_neg c28] at H
     have c28b0 : decide (t556 ≤ t566) = false := decide_eq_false c28
     clear c28
     replace H := Option.bind_eq_some_iff.mp H
     obtain ⟨⟨t576, t577⟩, A300, H⟩ := H
     try dsimp only at H
     have A30 := Aside0.mk A300
     clear A300
     replace H := Option.bind_eq_some_iff.mp H
     obtain ⟨⟨t578, t579⟩, A310, H⟩ := H
     try dsimp only at H
     have A31 := Aside0.mk A310
     clear A310
     by_cases c32 : t579 = true
     ·
      subst c32
      rw [if_pos rfl] at H
      by_cases c33 : (t578 != (decide (t574 > t572))) = true
      ·
       rw [if_pos c33] at H
       have c33b0 : (t578 != (decide (t574 > t572))) = true := c33
       (try (have c33b1 : decide (t578 = (decide (t574 > t572))) = false := by simpa using c33))
       (try (have c33b2 : (t578 == (decide (t574 > t572))) = false := by simpa using c33))
       (try (have c33b3 : ¬ (t578 = (decide (t574 > t572))) := by simpa using c33))
       clear c33
       obtain rfl := Option.some.inj H
       have hcz34_0 : wc.cell? ⟨gb567, 0, none⟩ = some (.int .i64 t555) := bc BK567 0
       have hcz34_1 : wc.cell? ⟨gb567, 1, none⟩ = some (.int .i64 t556) := bc BK567 1
       have hcz34_2 : wc.cell? ⟨gb567, 2, none⟩ = some (.int .i64 t557) := bc BK567 2
       have hcz34_3 : wc.cell? ⟨gb567, 3, none⟩ = some (.int .i64 t558) := bc BK567 3
       have hcz34_4 : wc.cell? ⟨gb567, 4, none⟩ = some (.slice Ao12 t559.length co12) := bc BK567 4
       have hcz34_5 : wc.cell? ⟨gb567, 5, none⟩ = some (.int .i64 t562) := bc BK567 5
       have hcz34_6 : wc.cell? ⟨gb567, 6, none⟩ = some (.slice Ao13 t563.length co13) := bc BK567 6
       have hfz34_0 := blk_frozen BK567.out 0
       have hfz34_1 := blk_frozen BK567.out 1
       have hfz34_2 := blk_frozen BK567.out 2
       have hfz34_3 := blk_frozen BK567.out 3
       have hfz34_4 := blk_frozen BK567.out 4
       have hfz34_5 := blk_frozen BK567.out 5
       have hfz34_6 := blk_frozen BK567.out 6
       go_wp2_with (first | ((with_reducible refine gate_callee (f := 10) rfl ?_); refine goesL_ (some 77) rfl rfl Try.func10 Z92 rfl #[.agg #[.int .i64 t555, .int .i64 t556, .int .i64 t557, .int .i64 t558, .slice Ao12 t559.length co12, .int .i64 t562, .slice Ao13 t563.length co13], .int .i64 t566] rfl Z89 ?_; (with_reducible refine (impl_FirstAtLeast.calls kj20 t555 t556 t557 t558 _ _ t559 t562 _ _ t563 t566 t576 t577 _ ?side1 ?side2 ?side3 ?side4 A30.out).mono ?_); (case side1 => exact uD HO_568004); (case side2 => exact (Kd.R_reads' HO_568004.out).2.1); (case side3 => exact uD HO_568006); (case side4 => exact (Kd.R_reads' HO_568006.out).2.1); rintro e w35 ⟨rfl, hb⟩; refine ⟨_, rfl, ?_⟩; replace HO_568004 := Aside0.mk (Kd.R_below (uR HO_568004) hb); replace HO_568006 := Aside0.mk (Kd.R_below (uR HO_568006) hb); replace BK567 := kB BK567 hb; replace HB := Aside0.mk (below_step (uN HB) hb); (try clear hb); (try clear hb2); (try clear hk); (try clear hi); have hcz36_0 : w35.cell? ⟨gb567, 0, none⟩ = some (.int .i64 t555) := bc BK567 0; have hcz36_1 : w35.cell? ⟨gb567, 1, none⟩ = some (.int .i64 t556) := bc BK567 1; have hcz36_2 : w35.cell? ⟨gb567, 2, none⟩ = some (.int .i64 t557) := bc BK567 2; have hcz36_3 : w35.cell? ⟨gb567, 3, none⟩ = some (.int .i64 t558) := bc BK567 3; have hcz36_4 : w35.cell? ⟨gb567, 4, none⟩ = some (.slice Ao12 t559.length co12) := bc BK567 4; have hcz36_5 : w35.cell? ⟨gb567, 5, none⟩ = some (.int .i64 t562) := bc BK567 5; have hcz36_6 : w35.cell? ⟨gb567, 6, none⟩ = some (.slice Ao13 t563.length co13) := bc BK567 6; have hfz36_0 := blk_frozen BK567.out 0; have hfz36_1 := blk_frozen BK567.out 1; have hfz36_2 := blk_frozen BK567.out 2; have hfz36_3 := blk_frozen BK567.out 3; have hfz36_4 := blk_frozen BK567.out 4; have hfz36_5 := blk_frozen BK567.out 5; have hfz36_6 := blk_frozen BK567.out 6) | ((with_reducible refine gate_callee (f := 11) rfl ?_); refine goesL_ (some 83) rfl rfl Try.func11 Z92 rfl #[.agg #[.int .i64 t555, .int .i64 t556, .int .i64 t557, .int .i64 t558, .slice Ao12 t559.length co12, .int .i64 t562, .slice Ao13 t563.length co13], .int .i64 t566] rfl Z89 ?_; (with_reducible refine (impl_HasNumber.calls kj20 t555 t556 t557 t558 _ _ t559 t562 _ _ t563 t566 t578 true _ ?side1 ?side2 ?side3 ?side4 A31.out).mono ?_); (case side1 => exact uD HO_568004); (case side2 => exact (Kd.R_reads' HO_568004.out).2.1); (case side3 => exact uD HO_568006); (case side4 => exact (Kd.R_reads' HO_568006.out).2.1); rintro e w37 ⟨rfl, hb⟩; refine ⟨_, rfl, ?_⟩; replace HO_568004 := Aside0.mk (Kd.R_below (uR HO_568004) hb); replace HO_568006 := Aside0.mk (Kd.R_below (uR HO_568006) hb); replace BK567 := kB BK567 hb; replace HB := Aside0.mk (below_step (uN HB) hb); (try clear hb); (try clear hb2); (try clear hk); (try clear hi)))
       go_ret
       exact ⟨Z90, uN HB⟩
      rw [if_neg c33] at H
      have c33b0 : (t578 != (decide (t574 > t572))) = false := by simpa using c33
      (try (have c33b1 : decide (t578 = (decide (t574 > t572))) = true := by simpa using c33))
      (try (have c33b2 : (t578 == (decide (t574 > t572))) = true := by simpa using c33))
      clear c33
      by_cases c38 : (t577 != (decide (t572 < t555))) = true
      ·
       rw [if_pos c38] at H
       have c38b0 : (t577 != (decide (t572 < t555))) = true := c38
       (try (have c38b1 : decide (t577 = (decide (t572 < t555))) = false := by simpa using c38))
       (try (have c38b2 : (t577 == (decide (t572 < t555))) = false := by simpa using c38))
       (try (have c38b3 : ¬ (t577 = (decide (t572 < t555))) := by simpa using c38))
       clear c38
       obtain rfl := Option.some.inj H
       have hcz39_0 : wc.cell? ⟨gb567, 0, none⟩ = some (.int .i64 t555) := bc BK567 0
       have hcz39_1 : wc.cell? ⟨gb567, 1, none⟩ = some (.int .i64 t556) := bc BK567 1
       have hcz39_2 : wc.cell? ⟨gb567, 2, none⟩ = some (.int .i64 t557) := bc BK567 2
       have hcz39_3 : wc.cell? ⟨gb567, 3, none⟩ = some (.int .i64 t558) := bc BK567 3
       have hcz39_4 : wc.cell? ⟨gb567, 4, none⟩ = some (.slice Ao12 t559.length co12) := bc BK567 4
       have hcz39_5 : wc.cell? ⟨gb567, 5, none⟩ = some (.int .i64 t562) := bc BK567 5
       have hcz39_6 : wc.cell? ⟨gb567, 6, none⟩ = some (.slice Ao13 t563.length co13) := bc BK567 6
       have hfz39_0 := blk_frozen BK567.out 0
       have hfz39_1 := blk_frozen BK567.out 1
       have hfz39_2 := blk_frozen BK567.out 2
       have hfz39_3 := blk_frozen BK567.out 3
       have hfz39_4 := blk_frozen BK567.out 4
       have hfz39_5 := blk_frozen BK567.out 5
       have hfz39_6 := blk_frozen BK567.out 6
       go_wp2_with (first | ((with_reducible refine gate_callee (f := 10) rfl ?_); refine goesL_ (some 77) rfl rfl Try.func10 Z92 rfl #[.agg #[.int .i64 t555, .int .i64 t556, .int .i64 t557, .int .i64 t558, .slice Ao12 t559.length co12, .int .i64 t562, .slice Ao13 t563.length co13], .int .i64 t566] rfl Z89 ?_; (with_reducible refine (impl_FirstAtLeast.calls kj20 t555 t556 t557 t558 _ _ t559 t562 _ _ t563 t566 t576 t577 _ ?side1 ?side2 ?side3 ?side4 A30.out).mono ?_); (case side1 => exact uD HO_568004); (case side2 => exact (Kd.R_reads' HO_568004.out).2.1); (case side3 => exact uD HO_568006); (case side4 => exact (Kd.R_reads' HO_568006.out).2.1); rintro e w40 ⟨rfl, hb⟩; refine ⟨_, rfl, ?_⟩; replace HO_568004 := Aside0.mk (Kd.R_below (uR HO_568004) hb); replace HO_568006 := Aside0.mk (Kd.R_below (uR HO_568006) hb); replace BK567 := kB BK567 hb; replace HB := Aside0.mk (below_step (uN HB) hb); (try clear hb); (try clear hb2); (try clear hk); (try clear hi); have hcz41_0 : w40.cell? ⟨gb567, 0, none⟩ = some (.int .i64 t555) := bc BK567 0; have hcz41_1 : w40.cell? ⟨gb567, 1, none⟩ = some (.int .i64 t556) := bc BK567 1; have hcz41_2 : w40.cell? ⟨gb567, 2, none⟩ = some (.int .i64 t557) := bc BK567 2; have hcz41_3 : w40.cell? ⟨gb567, 3, none⟩ = some (.int .i64 t558) := bc BK567 3; have hcz41_4 : w40.cell? ⟨gb567, 4, none⟩ = some (.slice Ao12 t559.length co12) := bc BK567 4; have hcz41_5 : w40.cell? ⟨gb567, 5, none⟩ = some (.int .i64 t562) := bc BK567 5; have hcz41_6 : w40.cell? ⟨gb567, 6, none⟩ = some (.slice Ao13 t563.length co13) := bc BK567 6; have hfz41_0 := blk_frozen BK567.out 0; have hfz41_1 := blk_frozen BK567.out 1; have hfz41_2 := blk_frozen BK567.out 2; have hfz41_3 := blk_frozen BK567.out 3; have hfz41_4 := blk_frozen BK567.out 4; have hfz41_5 := blk_frozen BK567.out 5; have hfz41_6 := blk_frozen BK567.out 6) | ((with_reducible refine gate_callee (f := 11) rfl ?_); refine goesL_ (some 83) rfl rfl Try.func11 Z92 rfl #[.agg #[.int .i64 t555, .int .i64 t556, .int .i64 t557, .int .i64 t558, .slice Ao12 t559.length co12, .int .i64 t562, .slice Ao13 t563.length co13], .int .i64 t566] rfl Z89 ?_; (with_reducible refine (impl_HasNumber.calls kj20 t555 t556 t557 t558 _ _ t559 t562 _ _ t563 t566 t578 true _ ?side1 ?side2 ?side3 ?side4 A31.out).mono ?_); (case side1 => exact uD HO_568004); (case side2 => exact (Kd.R_reads' HO_568004.out).2.1); (case side3 => exact uD HO_568006); (case side4 => exact (Kd.R_reads' HO_568006.out).2.1); rintro e w42 ⟨rfl, hb⟩; refine ⟨_, rfl, ?_⟩; replace HO_568004 := Aside0.mk (Kd.R_below (uR HO_568004) hb); replace HO_568006 := Aside0.mk (Kd.R_below (uR HO_568006) hb); replace BK567 := kB BK567 hb; replace HB := Aside0.mk (below_step (uN HB) hb); (try clear hb); (try clear hb2); (try clear hk); (try clear hi); have hcz43_0 : w42.cell? ⟨gb567, 0, none⟩ = some (.int .i64 t555) := bc BK567 0; have hcz43_1 : w42.cell? ⟨gb567, 1, none⟩ = some (.int .i64 t556) := bc BK567 1; have hcz43_2 : w42.cell? ⟨gb567, 2, none⟩ = some (.int .i64 t557) := bc BK567 2; have hcz43_3 : w42.cell? ⟨gb567, 3, none⟩ = some (.int .i64 t558) := bc BK567 3; have hcz43_4 : w42.cell? ⟨gb567, 4, none⟩ = some (.slice Ao12 t559.length co12) := bc BK567 4; have hcz43_5 : w42.cell? ⟨gb567, 5, none⟩ = some (.int .i64 t562) := bc BK567 5; have hcz43_6 : w42.cell? ⟨gb567, 6, none⟩ = some (.slice Ao13 t563.length co13) := bc BK567 6; have hfz43_0 := blk_frozen BK567.out 0; have hfz43_1 := blk_frozen BK567.out 1; have hfz43_2 := blk_frozen BK567.out 2; have hfz43_3 := blk_frozen BK567.out 3; have hfz43_4 := blk_frozen BK567.out 4; have hfz43_5 := blk_frozen BK567.out 5; have hfz43_6 := blk_frozen BK567.out 6))
       go_ret
       exact ⟨Z90, uN HB⟩
      rw [if_neg c38] at H
      have c38b0 : (t577 != (decide (t572 < t555))) = false := by simpa using c38
      (try (have c38b1 : decide (t577 = (decide (t572 < t555))) = true := by simpa using c38))
      (try (have c38b2 : (t577 == (decide (t572 < t555))) = true := by simpa using c38))
      clear c38
      by_cases c44 : (t569 != (decide (t574 > 0))) = true
      ·
       rw [if_pos c44] at H
       have c44b0 : (t569 != (decide (t574 > 0))) = true := c44
       (try (have c44b1 : decide (t569 = (decide (t574 > 0))) = false := by simpa using c44))
       (try (have c44b2 : (t569 == (decide (t574 > 0))) = false := by simpa using c44))
       (try (have c44b3 : ¬ (t569 = (decide (t574 > 0))) := by simpa using c44))
       clear c44
       obtain rfl := Option.some.inj H
       have hcz45_0 : wc.cell? ⟨gb567, 0, none⟩ = some (.int .i64 t555) := bc BK567 0
       have hcz45_1 : wc.cell? ⟨gb567, 1, none⟩ = some (.int .i64 t556) := bc BK567 1
       have hcz45_2 : wc.cell? ⟨gb567, 2, none⟩ = some (.int .i64 t557) := bc BK567 2
       have hcz45_3 : wc.cell? ⟨gb567, 3, none⟩ = some (.int .i64 t558) := bc BK567 3
       have hcz45_4 : wc.cell? ⟨gb567, 4, none⟩ = some (.slice Ao12 t559.length co12) := bc BK567 4
       have hcz45_5 : wc.cell? ⟨gb567, 5, none⟩ = some (.int .i64 t562) := bc BK567 5
       have hcz45_6 : wc.cell? ⟨gb567, 6, none⟩ = some (.slice Ao13 t563.length co13) := bc BK567 6
       have hfz45_0 := blk_frozen BK567.out 0
       have hfz45_1 := blk_frozen BK567.out 1
       have hfz45_2 := blk_frozen BK567.out 2
       have hfz45_3 := blk_frozen BK567.out 3
       have hfz45_4 := blk_frozen BK567.out 4
       have hfz45_5 := blk_frozen BK567.out 5
       have hfz45_6 := blk_frozen BK567.out 6
       go_wp2_with (first | ((with_reducible refine gate_callee (f := 10) rfl ?_); refine goesL_ (some 77) rfl rfl Try.func10 Z92 rfl #[.agg #[.int .i64 t555, .int .i64 t556, .int .i64 t557, .int .i64 t558, .slice Ao12 t559.length co12, .int .i64 t562, .slice Ao13 t563.length co13], .int .i64 t566] rfl Z89 ?_; (with_reducible refine (impl_FirstAtLeast.calls kj20 t555 t556 t557 t558 _ _ t559 t562 _ _ t563 t566 t576 t577 _ ?side1 ?side2 ?side3 ?side4 A30.out).mono ?_); (case side1 => exact uD HO_568004); (case side2 => exact (Kd.R_reads' HO_568004.out).2.1); (case side3 => exact uD HO_568006); (case side4 => exact (Kd.R_reads' HO_568006.out).2.1); rintro e w46 ⟨rfl, hb⟩; refine ⟨_, rfl, ?_⟩; replace HO_568004 := Aside0.mk (Kd.R_below (uR HO_568004) hb); replace HO_568006 := Aside0.mk (Kd.R_below (uR HO_568006) hb); replace BK567 := kB BK567 hb; replace HB := Aside0.mk (below_step (uN HB) hb); (try clear hb); (try clear hb2); (try clear hk); (try clear hi); have hcz47_0 : w46.cell? ⟨gb567, 0, none⟩ = some (.int .i64 t555) := bc BK567 0; have hcz47_1 : w46.cell? ⟨gb567, 1, none⟩ = some (.int .i64 t556) := bc BK567 1; have hcz47_2 : w46.cell? ⟨gb567, 2, none⟩ = some (.int .i64 t557) := bc BK567 2; have hcz47_3 : w46.cell? ⟨gb567, 3, none⟩ = some (.int .i64 t558) := bc BK567 3; have hcz47_4 : w46.cell? ⟨gb567, 4, none⟩ = some (.slice Ao12 t559.length co12) := bc BK567 4; have hcz47_5 : w46.cell? ⟨gb567, 5, none⟩ = some (.int .i64 t562) := bc BK567 5; have hcz47_6 : w46.cell? ⟨gb567, 6, none⟩ = some (.slice Ao13 t563.length co13) := bc BK567 6; have hfz47_0 := blk_frozen BK567.out 0; have hfz47_1 := blk_frozen BK567.out 1; have hfz47_2 := blk_frozen BK567.out 2; have hfz47_3 := blk_frozen BK567.out 3; have hfz47_4 := blk_frozen BK567.out 4; have hfz47_5 := blk_frozen BK567.out 5; have hfz47_6 := blk_frozen BK567.out 6) | ((with_reducible refine gate_callee (f := 11) rfl ?_); refine goesL_ (some 83) rfl rfl Try.func11 Z92 rfl #[.agg #[.int .i64 t555, .int .i64 t556, .int .i64 t557, .int .i64 t558, .slice Ao12 t559.length co12, .int .i64 t562, .slice Ao13 t563.length co13], .int .i64 t566] rfl Z89 ?_; (with_reducible refine (impl_HasNumber.calls kj20 t555 t556 t557 t558 _ _ t559 t562 _ _ t563 t566 t578 true _ ?side1 ?side2 ?side3 ?side4 A31.out).mono ?_); (case side1 => exact uD HO_568004); (case side2 => exact (Kd.R_reads' HO_568004.out).2.1); (case side3 => exact uD HO_568006); (case side4 => exact (Kd.R_reads' HO_568006.out).2.1); rintro e w48 ⟨rfl, hb⟩; refine ⟨_, rfl, ?_⟩; replace HO_568004 := Aside0.mk (Kd.R_below (uR HO_568004) hb); replace HO_568006 := Aside0.mk (Kd.R_below (uR HO_568006) hb); replace BK567 := kB BK567 hb; replace HB := Aside0.mk (below_step (uN HB) hb); (try clear hb); (try clear hb2); (try clear hk); (try clear hi); have hcz49_0 : w48.cell? ⟨gb567, 0, none⟩ = some (.int .i64 t555) := bc BK567 0; have hcz49_1 : w48.cell? ⟨gb567, 1, none⟩ = some (.int .i64 t556) := bc BK567 1; have hcz49_2 : w48.cell? ⟨gb567, 2, none⟩ = some (.int .i64 t557) := bc BK567 2; have hcz49_3 : w48.cell? ⟨gb567, 3, none⟩ = some (.int .i64 t558) := bc BK567 3; have hcz49_4 : w48.cell? ⟨gb567, 4, none⟩ = some (.slice Ao12 t559.length co12) := bc BK567 4; have hcz49_5 : w48.cell? ⟨gb567, 5, none⟩ = some (.int .i64 t562) := bc BK567 5; have hcz49_6 : w48.cell? ⟨gb567, 6, none⟩ = some (.slice Ao13 t563.length co13) := bc BK567 6; have hfz49_0 := blk_frozen BK567.out 0; have hfz49_1 := blk_frozen BK567.out 1; have hfz49_2 := blk_frozen BK567.out 2; have hfz49_3 := blk_frozen BK567.out 3; have hfz49_4 := blk_frozen BK567.out 4; have hfz49_5 := blk_frozen BK567.out 5; have hfz49_6 := blk_frozen BK567.out 6))
       go_ret
       exact ⟨Z90, uN HB⟩
      rw [if_neg c44] at H
      have c44b0 : (t569 != (decide (t574 > 0))) = false := by simpa using c44
      (try (have c44b1 : decide (t569 = (decide (t574 > 0))) = true := by simpa using c44))
      (try (have c44b2 : (t569 == (decide (t574 > 0))) = true := by simpa using c44))
      clear c44
      by_cases c50 : t569 = true
      ·
       subst c50
       rw [if_pos rfl] at H
       by_cases c51 : t568 = (wrap64 (t574 - 1))
       ·
        rw [if_pos c51] at H
        have c51b0 : (t568 == (wrap64 (t574 - 1))) = true := beq_iff_eq.mpr c51
        have c51b1 : (t568 != (wrap64 (t574 - 1))) = false := bne_eq_false_iff_eq.mpr c51
        clear c51
        by_cases c52 : t577 = true
        ·
         subst c52
         rw [if_pos rfl] at H
         obtain rfl := Option.some.inj H
         have hcz53_0 : wc.cell? ⟨gb567, 0, none⟩ = some (.int .i64 t555) := bc BK567 0
         have hcz53_1 : wc.cell? ⟨gb567, 1, none⟩ = some (.int .i64 t556) := bc BK567 1
         have hcz53_2 : wc.cell? ⟨gb567, 2, none⟩ = some (.int .i64 t557) := bc BK567 2
         have hcz53_3 : wc.cell? ⟨gb567, 3, none⟩ = some (.int .i64 t558) := bc BK567 3
         have hcz53_4 : wc.cell? ⟨gb567, 4, none⟩ = some (.slice Ao12 t559.length co12) := bc BK567 4
         have hcz53_5 : wc.cell? ⟨gb567, 5, none⟩ = some (.int .i64 t562) := bc BK567 5
         have hcz53_6 : wc.cell? ⟨gb567, 6, none⟩ = some (.slice Ao13 t563.length co13) := bc BK567 6
         have hfz53_0 := blk_frozen BK567.out 0
         have hfz53_1 := blk_frozen BK567.out 1
         have hfz53_2 := blk_frozen BK567.out 2
         have hfz53_3 := blk_frozen BK567.out 3
         have hfz53_4 := blk_frozen BK567.out 4
         have hfz53_5 := blk_frozen BK567.out 5
         have hfz53_6 := blk_frozen BK567.out 6
         go_wp2_with (first | ((with_reducible refine gate_callee (f := 10) rfl ?_); refine goesL_ (some 77) rfl rfl Try.func10 Z92 rfl #[.agg #[.int .i64 t555, .int .i64 t556, .int .i64 t557, .int .i64 t558, .slice Ao12 t559.length co12, .int .i64 t562, .slice Ao13 t563.length co13], .int .i64 t566] rfl Z89 ?_; (with_reducible refine (impl_FirstAtLeast.calls kj20 t555 t556 t557 t558 _ _ t559 t562 _ _ t563 t566 t576 true _ ?side1 ?side2 ?side3 ?side4 A30.out).mono ?_); (case side1 => exact uD HO_568004); (case side2 => exact (Kd.R_reads' HO_568004.out).2.1); (case side3 => exact uD HO_568006); (case side4 => exact (Kd.R_reads' HO_568006.out).2.1); rintro e w54 ⟨rfl, hb⟩; refine ⟨_, rfl, ?_⟩; replace HO_568004 := Aside0.mk (Kd.R_below (uR HO_568004) hb); replace HO_568006 := Aside0.mk (Kd.R_below (uR HO_568006) hb); replace BK567 := kB BK567 hb; replace HB := Aside0.mk (below_step (uN HB) hb); (try clear hb); (try clear hb2); (try clear hk); (try clear hi); have hcz55_0 : w54.cell? ⟨gb567, 0, none⟩ = some (.int .i64 t555) := bc BK567 0; have hcz55_1 : w54.cell? ⟨gb567, 1, none⟩ = some (.int .i64 t556) := bc BK567 1; have hcz55_2 : w54.cell? ⟨gb567, 2, none⟩ = some (.int .i64 t557) := bc BK567 2; have hcz55_3 : w54.cell? ⟨gb567, 3, none⟩ = some (.int .i64 t558) := bc BK567 3; have hcz55_4 : w54.cell? ⟨gb567, 4, none⟩ = some (.slice Ao12 t559.length co12) := bc BK567 4; have hcz55_5 : w54.cell? ⟨gb567, 5, none⟩ = some (.int .i64 t562) := bc BK567 5; have hcz55_6 : w54.cell? ⟨gb567, 6, none⟩ = some (.slice Ao13 t563.length co13) := bc BK567 6; have hfz55_0 := blk_frozen BK567.out 0; have hfz55_1 := blk_frozen BK567.out 1; have hfz55_2 := blk_frozen BK567.out 2; have hfz55_3 := blk_frozen BK567.out 3; have hfz55_4 := blk_frozen BK567.out 4; have hfz55_5 := blk_frozen BK567.out 5; have hfz55_6 := blk_frozen BK567.out 6) | ((with_reducible refine gate_callee (f := 11) rfl ?_); refine goesL_ (some 83) rfl rfl Try.func11 Z92 rfl #[.agg #[.int .i64 t555, .int .i64 t556, .int .i64 t557, .int .i64 t558, .slice Ao12 t559.length co12, .int .i64 t562, .slice Ao13 t563.length co13], .int .i64 t566] rfl Z89 ?_; (with_reducible refine (impl_HasNumber.calls kj20 t555 t556 t557 t558 _ _ t559 t562 _ _ t563 t566 t578 true _ ?side1 ?side2 ?side3 ?side4 A31.out).mono ?_); (case side1 => exact uD HO_568004); (case side2 => exact (Kd.R_reads' HO_568004.out).2.1); (case side3 => exact uD HO_568006); (case side4 => exact (Kd.R_reads' HO_568006.out).2.1); rintro e w56 ⟨rfl, hb⟩; refine ⟨_, rfl, ?_⟩; replace HO_568004 := Aside0.mk (Kd.R_below (uR HO_568004) hb); replace HO_568006 := Aside0.mk (Kd.R_below (uR HO_568006) hb); replace BK567 := kB BK567 hb; replace HB := Aside0.mk (below_step (uN HB) hb); (try clear hb); (try clear hb2); (try clear hk); (try clear hi); have hcz57_0 : w56.cell? ⟨gb567, 0, none⟩ = some (.int .i64 t555) := bc BK567 0; have hcz57_1 : w56.cell? ⟨gb567, 1, none⟩ = some (.int .i64 t556) := bc BK567 1; have hcz57_2 : w56.cell? ⟨gb567, 2, none⟩ = some (.int .i64 t557) := bc BK567 2; have hcz57_3 : w56.cell? ⟨gb567, 3, none⟩ = some (.int .i64 t558) := bc BK567 3; have hcz57_4 : w56.cell? ⟨gb567, 4, none⟩ = some (.slice Ao12 t559.length co12) := bc BK567 4; have hcz57_5 : w56.cell? ⟨gb567, 5, none⟩ = some (.int .i64 t562) := bc BK567 5; have hcz57_6 : w56.cell? ⟨gb567, 6, none⟩ = some (.slice Ao13 t563.length co13) := bc BK567 6; have hfz57_0 := blk_frozen BK567.out 0; have hfz57_1 := blk_frozen BK567.out 1; have hfz57_2 := blk_frozen BK567.out 2; have hfz57_3 := blk_frozen BK567.out 3; have hfz57_4 := blk_frozen BK567.out 4; have hfz57_5 := blk_frozen BK567.out 5; have hfz57_6 := blk_frozen BK567.out 6))
         go_ret
         exact ⟨Z90, uN HB⟩
        replace c52 := Bool.eq_false_iff.mpr c52
        subst c52
        rw [if_neg (show ¬ (false = true) from Z19)] at H
        obtain rfl := Option.some.inj H
        have hcz58_0 : wc.cell? ⟨gb567, 0, none⟩ = some (.int .i64 t555) := bc BK567 0
        have hcz58_1 : wc.cell? ⟨gb567, 1, none⟩ = some (.int .i64 t556) := bc BK567 1
        have hcz58_2 : wc.cell? ⟨gb567, 2, none⟩ = some (.int .i64 t557) := bc BK567 2
        have hcz58_3 : wc.cell? ⟨gb567, 3, none⟩ = some (.int .i64 t558) := bc BK567 3
        have hcz58_4 : wc.cell? ⟨gb567, 4, none⟩ = some (.slice Ao12 t559.length co12) := bc BK567 4
        have hcz58_5 : wc.cell? ⟨gb567, 5, none⟩ = some (.int .i64 t562) := bc BK567 5
        have hcz58_6 : wc.cell? ⟨gb567, 6, none⟩ = some (.slice Ao13 t563.length co13) := bc BK567 6
        have hfz58_0 := blk_frozen BK567.out 0
        have hfz58_1 := blk_frozen BK567.out 1
        have hfz58_2 := blk_frozen BK567.out 2
        have hfz58_3 := blk_frozen BK567.out 3
        have hfz58_4 := blk_frozen BK567.out 4
        have hfz58_5 := blk_frozen BK567.out 5
        have hfz58_6 := blk_frozen BK567.out 6
        go_wp2_with (first | ((with_reducible refine gate_callee (f := 10) rfl ?_); refine goesL_ (some 77) rfl rfl Try.func10 Z92 rfl #[.agg #[.int .i64 t555, .int .i64 t556, .int .i64 t557, .int .i64 t558, .slice Ao12 t559.length co12, .int .i64 t562, .slice Ao13 t563.length co13], .int .i64 t566] rfl Z89 ?_; (with_reducible refine (impl_FirstAtLeast.calls kj20 t555 t556 t557 t558 _ _ t559 t562 _ _ t563 t566 t576 false _ ?side1 ?side2 ?side3 ?side4 A30.out).mono ?_); (case side1 => exact uD HO_568004); (case side2 => exact (Kd.R_reads' HO_568004.out).2.1); (case side3 => exact uD HO_568006); (case side4 => exact (Kd.R_reads' HO_568006.out).2.1); rintro e w59 ⟨rfl, hb⟩; refine ⟨_, rfl, ?_⟩; replace HO_568004 := Aside0.mk (Kd.R_below (uR HO_568004) hb); replace HO_568006 := Aside0.mk (Kd.R_below (uR HO_568006) hb); replace BK567 := kB BK567 hb; replace HB := Aside0.mk (below_step (uN HB) hb); (try clear hb); (try clear hb2); (try clear hk); (try clear hi); have hcz60_0 : w59.cell? ⟨gb567, 0, none⟩ = some (.int .i64 t555) := bc BK567 0; have hcz60_1 : w59.cell? ⟨gb567, 1, none⟩ = some (.int .i64 t556) := bc BK567 1; have hcz60_2 : w59.cell? ⟨gb567, 2, none⟩ = some (.int .i64 t557) := bc BK567 2; have hcz60_3 : w59.cell? ⟨gb567, 3, none⟩ = some (.int .i64 t558) := bc BK567 3; have hcz60_4 : w59.cell? ⟨gb567, 4, none⟩ = some (.slice Ao12 t559.length co12) := bc BK567 4; have hcz60_5 : w59.cell? ⟨gb567, 5, none⟩ = some (.int .i64 t562) := bc BK567 5; have hcz60_6 : w59.cell? ⟨gb567, 6, none⟩ = some (.slice Ao13 t563.length co13) := bc BK567 6; have hfz60_0 := blk_frozen BK567.out 0; have hfz60_1 := blk_frozen BK567.out 1; have hfz60_2 := blk_frozen BK567.out 2; have hfz60_3 := blk_frozen BK567.out 3; have hfz60_4 := blk_frozen BK567.out 4; have hfz60_5 := blk_frozen BK567.out 5; have hfz60_6 := blk_frozen BK567.out 6) | ((with_reducible refine gate_callee (f := 11) rfl ?_); refine goesL_ (some 83) rfl rfl Try.func11 Z92 rfl #[.agg #[.int .i64 t555, .int .i64 t556, .int .i64 t557, .int .i64 t558, .slice Ao12 t559.length co12, .int .i64 t562, .slice Ao13 t563.length co13], .int .i64 t566] rfl Z89 ?_; (with_reducible refine (impl_HasNumber.calls kj20 t555 t556 t557 t558 _ _ t559 t562 _ _ t563 t566 t578 true _ ?side1 ?side2 ?side3 ?side4 A31.out).mono ?_); (case side1 => exact uD HO_568004); (case side2 => exact (Kd.R_reads' HO_568004.out).2.1); (case side3 => exact uD HO_568006); (case side4 => exact (Kd.R_reads' HO_568006.out).2.1); rintro e w61 ⟨rfl, hb⟩; refine ⟨_, rfl, ?_⟩; replace HO_568004 := Aside0.mk (Kd.R_below (uR HO_568004) hb); replace HO_568006 := Aside0.mk (Kd.R_below (uR HO_568006) hb); replace BK567 := kB BK567 hb; replace HB := Aside0.mk (below_step (uN HB) hb); (try clear hb); (try clear hb2); (try clear hk); (try clear hi); have hcz62_0 : w61.cell? ⟨gb567, 0, none⟩ = some (.int .i64 t555) := bc BK567 0; have hcz62_1 : w61.cell? ⟨gb567, 1, none⟩ = some (.int .i64 t556) := bc BK567 1; have hcz62_2 : w61.cell? ⟨gb567, 2, none⟩ = some (.int .i64 t557) := bc BK567 2; have hcz62_3 : w61.cell? ⟨gb567, 3, none⟩ = some (.int .i64 t558) := bc BK567 3; have hcz62_4 : w61.cell? ⟨gb567, 4, none⟩ = some (.slice Ao12 t559.length co12) := bc BK567 4; have hcz62_5 : w61.cell? ⟨gb567, 5, none⟩ = some (.int .i64 t562) := bc BK567 5; have hcz62_6 : w61.cell? ⟨gb567, 6, none⟩ = some (.slice Ao13 t563.length co13) := bc BK567 6; have hfz62_0 := blk_frozen BK567.out 0; have hfz62_1 := blk_frozen BK567.out 1; have hfz62_2 := blk_frozen BK567.out 2; have hfz62_3 := blk_frozen BK567.out 3; have hfz62_4 := blk_frozen BK567.out 4; have hfz62_5 := blk_frozen BK567.out 5; have hfz62_6 := blk_frozen BK567.out 6))
        go_ret
        exact ⟨Z90, uN HB⟩
       rw [if_neg c51] at H
       have c51b0 : (t568 == (wrap64 (t574 - 1))) = false := beq_eq_false_iff_ne.mpr c51
       have c51b1 : (t568 != (wrap64 (t574 - 1))) = true := bne_iff_ne.mpr c51
       obtain rfl := Option.some.inj H
       have hcz63_0 : wc.cell? ⟨gb567, 0, none⟩ = some (.int .i64 t555) := bc BK567 0
       have hcz63_1 : wc.cell? ⟨gb567, 1, none⟩ = some (.int .i64 t556) := bc BK567 1
       have hcz63_2 : wc.cell? ⟨gb567, 2, none⟩ = some (.int .i64 t557) := bc BK567 2
       have hcz63_3 : wc.cell? ⟨gb567, 3, none⟩ = some (.int .i64 t558) := bc BK567 3
       have hcz63_4 : wc.cell? ⟨gb567, 4, none⟩ = some (.slice Ao12 t559.length co12) := bc BK567 4
       have hcz63_5 : wc.cell? ⟨gb567, 5, none⟩ = some (.int .i64 t562) := bc BK567 5
       have hcz63_6 : wc.cell? ⟨gb567, 6, none⟩ = some (.slice Ao13 t563.length co13) := bc BK567 6
       have hfz63_0 := blk_frozen BK567.out 0
       have hfz63_1 := blk_frozen BK567.out 1
       have hfz63_2 := blk_frozen BK567.out 2
       have hfz63_3 := blk_frozen BK567.out 3
       have hfz63_4 := blk_frozen BK567.out 4
       have hfz63_5 := blk_frozen BK567.out 5
       have hfz63_6 := blk_frozen BK567.out 6
       go_wp2_with (first | ((with_reducible refine gate_callee (f := 10) rfl ?_); refine goesL_ (some 77) rfl rfl Try.func10 Z92 rfl #[.agg #[.int .i64 t555, .int .i64 t556, .int .i64 t557, .int .i64 t558, .slice Ao12 t559.length co12, .int .i64 t562, .slice Ao13 t563.length co13], .int .i64 t566] rfl Z89 ?_; (with_reducible refine (impl_FirstAtLeast.calls kj20 t555 t556 t557 t558 _ _ t559 t562 _ _ t563 t566 t576 t577 _ ?side1 ?side2 ?side3 ?side4 A30.out).mono ?_); (case side1 => exact uD HO_568004); (case side2 => exact (Kd.R_reads' HO_568004.out).2.1); (case side3 => exact uD HO_568006); (case side4 => exact (Kd.R_reads' HO_568006.out).2.1); rintro e w64 ⟨rfl, hb⟩; refine ⟨_, rfl, ?_⟩; replace HO_568004 := Aside0.mk (Kd.R_below (uR HO_568004) hb); replace HO_568006 := Aside0.mk (Kd.R_below (uR HO_568006) hb); replace BK567 := kB BK567 hb; replace HB := Aside0.mk (below_step (uN HB) hb); (try clear hb); (try clear hb2); (try clear hk); (try clear hi); have hcz65_0 : w64.cell? ⟨gb567, 0, none⟩ = some (.int .i64 t555) := bc BK567 0; have hcz65_1 : w64.cell? ⟨gb567, 1, none⟩ = some (.int .i64 t556) := bc BK567 1; have hcz65_2 : w64.cell? ⟨gb567, 2, none⟩ = some (.int .i64 t557) := bc BK567 2; have hcz65_3 : w64.cell? ⟨gb567, 3, none⟩ = some (.int .i64 t558) := bc BK567 3; have hcz65_4 : w64.cell? ⟨gb567, 4, none⟩ = some (.slice Ao12 t559.length co12) := bc BK567 4; have hcz65_5 : w64.cell? ⟨gb567, 5, none⟩ = some (.int .i64 t562) := bc BK567 5; have hcz65_6 : w64.cell? ⟨gb567, 6, none⟩ = some (.slice Ao13 t563.length co13) := bc BK567 6; have hfz65_0 := blk_frozen BK567.out 0; have hfz65_1 := blk_frozen BK567.out 1; have hfz65_2 := blk_frozen BK567.out 2; have hfz65_3 := blk_frozen BK567.out 3; have hfz65_4 := blk_frozen BK567.out 4; have hfz65_5 := blk_frozen BK567.out 5; have hfz65_6 := blk_frozen BK567.out 6) | ((with_reducible refine gate_callee (f := 11) rfl ?_); refine goesL_ (some 83) rfl rfl Try.func11 Z92 rfl #[.agg #[.int .i64 t555, .int .i64 t556, .int .i64 t557, .int .i64 t558, .slice Ao12 t559.length co12, .int .i64 t562, .slice Ao13 t563.length co13], .int .i64 t566] rfl Z89 ?_; (with_reducible refine (impl_HasNumber.calls kj20 t555 t556 t557 t558 _ _ t559 t562 _ _ t563 t566 t578 true _ ?side1 ?side2 ?side3 ?side4 A31.out).mono ?_); (case side1 => exact uD HO_568004); (case side2 => exact (Kd.R_reads' HO_568004.out).2.1); (case side3 => exact uD HO_568006); (case side4 => exact (Kd.R_reads' HO_568006.out).2.1); rintro e w66 ⟨rfl, hb⟩; refine ⟨_, rfl, ?_⟩; replace HO_568004 := Aside0.mk (Kd.R_below (uR HO_568004) hb); replace HO_568006 := Aside0.mk (Kd.R_below (uR HO_568006) hb); replace BK567 := kB BK567 hb; replace HB := Aside0.mk (below_step (uN HB) hb); (try clear hb); (try clear hb2); (try clear hk); (try clear hi); have hcz67_0 : w66.cell? ⟨gb567, 0, none⟩ = some (.int .i64 t555) := bc BK567 0; have hcz67_1 : w66.cell? ⟨gb567, 1, none⟩ = some (.int .i64 t556) := bc BK567 1; have hcz67_2 : w66.cell? ⟨gb567, 2, none⟩ = some (.int .i64 t557) := bc BK567 2; have hcz67_3 : w66.cell? ⟨gb567, 3, none⟩ = some (.int .i64 t558) := bc BK567 3; have hcz67_4 : w66.cell? ⟨gb567, 4, none⟩ = some (.slice Ao12 t559.length co12) := bc BK567 4; have hcz67_5 : w66.cell? ⟨gb567, 5, none⟩ = some (.int .i64 t562) := bc BK567 5; have hcz67_6 : w66.cell? ⟨gb567, 6, none⟩ = some (.slice Ao13 t563.length co13) := bc BK567 6; have hfz67_0 := blk_frozen BK567.out 0; have hfz67_1 := blk_frozen BK567.out 1; have hfz67_2 := blk_frozen BK567.out 2; have hfz67_3 := blk_frozen BK567.out 3; have hfz67_4 := blk_frozen BK567.out 4; have hfz67_5 := blk_frozen BK567.out 5; have hfz67_6 := blk_frozen BK567.out 6))
       go_ret
       exact ⟨Z90, uN HB⟩
      replace c50 := Bool.eq_false_iff.mpr c50
      subst c50
      rw [if_neg (show ¬ (false = true) from Z19)] at H
      by_cases c68 : t577 = true
      ·
       subst c68
       rw [if_pos rfl] at H
       obtain rfl := Option.some.inj H
       have hcz69_0 : wc.cell? ⟨gb567, 0, none⟩ = some (.int .i64 t555) := bc BK567 0
       have hcz69_1 : wc.cell? ⟨gb567, 1, none⟩ = some (.int .i64 t556) := bc BK567 1
       have hcz69_2 : wc.cell? ⟨gb567, 2, none⟩ = some (.int .i64 t557) := bc BK567 2
       have hcz69_3 : wc.cell? ⟨gb567, 3, none⟩ = some (.int .i64 t558) := bc BK567 3
       have hcz69_4 : wc.cell? ⟨gb567, 4, none⟩ = some (.slice Ao12 t559.length co12) := bc BK567 4
       have hcz69_5 : wc.cell? ⟨gb567, 5, none⟩ = some (.int .i64 t562) := bc BK567 5
       have hcz69_6 : wc.cell? ⟨gb567, 6, none⟩ = some (.slice Ao13 t563.length co13) := bc BK567 6
       have hfz69_0 := blk_frozen BK567.out 0
       have hfz69_1 := blk_frozen BK567.out 1
       have hfz69_2 := blk_frozen BK567.out 2
       have hfz69_3 := blk_frozen BK567.out 3
       have hfz69_4 := blk_frozen BK567.out 4
       have hfz69_5 := blk_frozen BK567.out 5
       have hfz69_6 := blk_frozen BK567.out 6
       go_wp2_with (first | ((with_reducible refine gate_callee (f := 10) rfl ?_); refine goesL_ (some 77) rfl rfl Try.func10 Z92 rfl #[.agg #[.int .i64 t555, .int .i64 t556, .int .i64 t557, .int .i64 t558, .slice Ao12 t559.length co12, .int .i64 t562, .slice Ao13 t563.length co13], .int .i64 t566] rfl Z89 ?_; (with_reducible refine (impl_FirstAtLeast.calls kj20 t555 t556 t557 t558 _ _ t559 t562 _ _ t563 t566 t576 true _ ?side1 ?side2 ?side3 ?side4 A30.out).mono ?_); (case side1 => exact uD HO_568004); (case side2 => exact (Kd.R_reads' HO_568004.out).2.1); (case side3 => exact uD HO_568006); (case side4 => exact (Kd.R_reads' HO_568006.out).2.1); rintro e w70 ⟨rfl, hb⟩; refine ⟨_, rfl, ?_⟩; replace HO_568004 := Aside0.mk (Kd.R_below (uR HO_568004) hb); replace HO_568006 := Aside0.mk (Kd.R_below (uR HO_568006) hb); replace BK567 := kB BK567 hb; replace HB := Aside0.mk (below_step (uN HB) hb); (try clear hb); (try clear hb2); (try clear hk); (try clear hi); have hcz71_0 : w70.cell? ⟨gb567, 0, none⟩ = some (.int .i64 t555) := bc BK567 0; have hcz71_1 : w70.cell? ⟨gb567, 1, none⟩ = some (.int .i64 t556) := bc BK567 1; have hcz71_2 : w70.cell? ⟨gb567, 2, none⟩ = some (.int .i64 t557) := bc BK567 2; have hcz71_3 : w70.cell? ⟨gb567, 3, none⟩ = some (.int .i64 t558) := bc BK567 3; have hcz71_4 : w70.cell? ⟨gb567, 4, none⟩ = some (.slice Ao12 t559.length co12) := bc BK567 4; have hcz71_5 : w70.cell? ⟨gb567, 5, none⟩ = some (.int .i64 t562) := bc BK567 5; have hcz71_6 : w70.cell? ⟨gb567, 6, none⟩ = some (.slice Ao13 t563.length co13) := bc BK567 6; have hfz71_0 := blk_frozen BK567.out 0; have hfz71_1 := blk_frozen BK567.out 1; have hfz71_2 := blk_frozen BK567.out 2; have hfz71_3 := blk_frozen BK567.out 3; have hfz71_4 := blk_frozen BK567.out 4; have hfz71_5 := blk_frozen BK567.out 5; have hfz71_6 := blk_frozen BK567.out 6) | ((with_reducible refine gate_callee (f := 11) rfl ?_); refine goesL_ (some 83) rfl rfl Try.func11 Z92 rfl #[.agg #[.int .i64 t555, .int .i64 t556, .int .i64 t557, .int .i64 t558, .slice Ao12 t559.length co12, .int .i64 t562, .slice Ao13 t563.length co13], .int .i64 t566] rfl Z89 ?_; (with_reducible refine (impl_HasNumber.calls kj20 t555 t556 t557 t558 _ _ t559 t562 _ _ t563 t566 t578 true _ ?side1 ?side2 ?side3 ?side4 A31.out).mono ?_); (case side1 => exact uD HO_568004); (case side2 => exact (Kd.R_reads' HO_568004.out).2.1); (case side3 => exact uD HO_568006); (case side4 => exact (Kd.R_reads' HO_568006.out).2.1); rintro e w72 ⟨rfl, hb⟩; refine ⟨_, rfl, ?_⟩; replace HO_568004 := Aside0.mk (Kd.R_below (uR HO_568004) hb); replace HO_568006 := Aside0.mk (Kd.R_below (uR HO_568006) hb); replace BK567 := kB BK567 hb; replace HB := Aside0.mk (below_step (uN HB) hb); (try clear hb); (try clear hb2); (try clear hk); (try clear hi); have hcz73_0 : w72.cell? ⟨gb567, 0, none⟩ = some (.int .i64 t555) := bc BK567 0; have hcz73_1 : w72.cell? ⟨gb567, 1, none⟩ = some (.int .i64 t556) := bc BK567 1; have hcz73_2 : w72.cell? ⟨gb567, 2, none⟩ = some (.int .i64 t557) := bc BK567 2; have hcz73_3 : w72.cell? ⟨gb567, 3, none⟩ = some (.int .i64 t558) := bc BK567 3; have hcz73_4 : w72.cell? ⟨gb567, 4, none⟩ = some (.slice Ao12 t559.length co12) := bc BK567 4; have hcz73_5 : w72.cell? ⟨gb567, 5, none⟩ = some (.int .i64 t562) := bc BK567 5; have hcz73_6 : w72.cell? ⟨gb567, 6, none⟩ = some (.slice Ao13 t563.length co13) := bc BK567 6; have hfz73_0 := blk_frozen BK567.out 0; have hfz73_1 := blk_frozen BK567.out 1; have hfz73_2 := blk_frozen BK567.out 2; have hfz73_3 := blk_frozen BK567.out 3; have hfz73_4 := blk_frozen BK567.out 4; have hfz73_5 := blk_frozen BK567.out 5; have hfz73_6 := blk_frozen BK567.out 6))
       go_ret
       exact ⟨Z90, uN HB⟩
      replace c68 := Bool.eq_false_iff.mpr c68
      subst c68
      rw [if_neg (show ¬ (false = true) from Z19)] at H
      obtain rfl := Option.some.inj H
      have hcz74_0 : wc.cell? ⟨gb567, 0, none⟩ = some (.int .i64 t555) := bc BK567 0
      have hcz74_1 : wc.cell? ⟨gb567, 1, none⟩ = some (.int .i64 t556) := bc BK567 1
      have hcz74_2 : wc.cell? ⟨gb567, 2, none⟩ = some (.int .i64 t557) := bc BK567 2
      have hcz74_3 : wc.cell? ⟨gb567, 3, none⟩ = some (.int .i64 t558) := bc BK567 3
      have hcz74_4 : wc.cell? ⟨gb567, 4, none⟩ = some (.slice Ao12 t559.length co12) := bc BK567 4
      have hcz74_5 : wc.cell? ⟨gb567, 5, none⟩ = some (.int .i64 t562) := bc BK567 5
      have hcz74_6 : wc.cell? ⟨gb567, 6, none⟩ = some (.slice Ao13 t563.length co13) := bc BK567 6
      have hfz74_0 := blk_frozen BK567.out 0
      have hfz74_1 := blk_frozen BK567.out 1
      have hfz74_2 := blk_frozen BK567.out 2
      have hfz74_3 := blk_frozen BK567.out 3
      have hfz74_4 := blk_frozen BK567.out 4
      have hfz74_5 := blk_frozen BK567.out 5
      have hfz74_6 := blk_frozen BK567.out 6
      go_wp2_with (first | ((with_reducible refine gate_callee (f := 10) rfl ?_); refine goesL_ (some 77) rfl rfl Try.func10 Z92 rfl #[.agg #[.int .i64 t555, .int .i64 t556, .int .i64 t557, .int .i64 t558, .slice Ao12 t559.length co12, .int .i64 t562, .slice Ao13 t563.length co13], .int .i64 t566] rfl Z89 ?_; (with_reducible refine (impl_FirstAtLeast.calls kj20 t555 t556 t557 t558 _ _ t559 t562 _ _ t563 t566 t576 false _ ?side1 ?side2 ?side3 ?side4 A30.out).mono ?_); (case side1 => exact uD HO_568004); (case side2 => exact (Kd.R_reads' HO_568004.out).2.1); (case side3 => exact uD HO_568006); (case side4 => exact (Kd.R_reads' HO_568006.out).2.1); rintro e w75 ⟨rfl, hb⟩; refine ⟨_, rfl, ?_⟩; replace HO_568004 := Aside0.mk (Kd.R_below (uR HO_568004) hb); replace HO_568006 := Aside0.mk (Kd.R_below (uR HO_568006) hb); replace BK567 := kB BK567 hb; replace HB := Aside0.mk (below_step (uN HB) hb); (try clear hb); (try clear hb2); (try clear hk); (try clear hi); have hcz76_0 : w75.cell? ⟨gb567, 0, none⟩ = some (.int .i64 t555) := bc BK567 0; have hcz76_1 : w75.cell? ⟨gb567, 1, none⟩ = some (.int .i64 t556) := bc BK567 1; have hcz76_2 : w75.cell? ⟨gb567, 2, none⟩ = some (.int .i64 t557) := bc BK567 2; have hcz76_3 : w75.cell? ⟨gb567, 3, none⟩ = some (.int .i64 t558) := bc BK567 3; have hcz76_4 : w75.cell? ⟨gb567, 4, none⟩ = some (.slice Ao12 t559.length co12) := bc BK567 4; have hcz76_5 : w75.cell? ⟨gb567, 5, none⟩ = some (.int .i64 t562) := bc BK567 5; have hcz76_6 : w75.cell? ⟨gb567, 6, none⟩ = some (.slice Ao13 t563.length co13) := bc BK567 6; have hfz76_0 := blk_frozen BK567.out 0; have hfz76_1 := blk_frozen BK567.out 1; have hfz76_2 := blk_frozen BK567.out 2; have hfz76_3 := blk_frozen BK567.out 3; have hfz76_4 := blk_frozen BK567.out 4; have hfz76_5 := blk_frozen BK567.out 5; have hfz76_6 := blk_frozen BK567.out 6) | ((with_reducible refine gate_callee (f := 11) rfl ?_); refine goesL_ (some 83) rfl rfl Try.func11 Z92 rfl #[.agg #[.int .i64 t555, .int .i64 t556, .int .i64 t557, .int .i64 t558, .slice Ao12 t559.length co12, .int .i64 t562, .slice Ao13 t563.length co13], .int .i64 t566] rfl Z89 ?_; (with_reducible refine (impl_HasNumber.calls kj20 t555 t556 t557 t558 _ _ t559 t562 _ _ t563 t566 t578 true _ ?side1 ?side2 ?side3 ?side4 A31.out).mono ?_); (case side1 => exact uD HO_568004); (case side2 => exact (Kd.R_reads' HO_568004.out).2.1); (case side3 => exact uD HO_568006); (case side4 => exact (Kd.R_reads' HO_568006.out).2.1); rintro e w77 ⟨rfl, hb⟩; refine ⟨_, rfl, ?_⟩; replace HO_568004 := Aside0.mk (Kd.R_below (uR HO_568004) hb); replace HO_568006 := Aside0.mk (Kd.R_below (uR HO_568006) hb); replace BK567 := kB BK567 hb; replace HB := Aside0.mk (below_step (uN HB) hb); (try clear hb); (try clear hb2); (try clear hk); (try clear hi); have hcz78_0 : w77.cell? ⟨gb567, 0, none⟩ = some (.int .i64 t555) := bc BK567 0; have hcz78_1 : w77.cell? ⟨gb567, 1, none⟩ = some (.int .i64 t556) := bc BK567 1; have hcz78_2 : w77.cell? ⟨gb567, 2, none⟩ = some (.int .i64 t557) := bc BK567 2; have hcz78_3 : w77.cell? ⟨gb567, 3, none⟩ = some (.int .i64 t558) := bc BK567 3; have hcz78_4 : w77.cell? ⟨gb567, 4, none⟩ = some (.slice Ao12 t559.length co12) := bc BK567 4; have hcz78_5 : w77.cell? ⟨gb567, 5, none⟩ = some (.int .i64 t562) := bc BK567 5; have hcz78_6 : w77.cell? ⟨gb567, 6, none⟩ = some (.slice Ao13 t563.length co13) := bc BK567 6; have hfz78_0 := blk_frozen BK567.out 0; have hfz78_1 := blk_frozen BK567.out 1; have hfz78_2 := blk_frozen BK567.out 2; have hfz78_3 := blk_frozen BK567.out 3; have hfz78_4 := blk_frozen BK567.out 4; have hfz78_5 := blk_frozen BK567.out 5; have hfz78_6 := blk_frozen BK567.out 6))
      go_ret
      exact ⟨Z90, uN HB⟩
     replace c32 := Bool.eq_false_iff.mpr c32
     subst c32
     rw [if_neg (show ¬ (false = true) from Z19)] at H
     obtain rfl := Option.some.inj H
     have hcz79_0 : wc.cell? ⟨gb567, 0, none⟩ = some (.int .i64 t555) := bc BK567 0
     have hcz79_1 : wc.cell? ⟨gb567, 1, none⟩ = some (.int .i64 t556) := bc BK567 1
     have hcz79_2 : wc.cell? ⟨gb567, 2, none⟩ = some (.int .i64 t557) := bc BK567 2
     have hcz79_3 : wc.cell? ⟨gb567, 3, none⟩ = some (.int .i64 t558) := bc BK567 3
     have hcz79_4 : wc.cell? ⟨gb567, 4, none⟩ = some (.slice Ao12 t559.length co12) := bc BK567 4
     have hcz79_5 : wc.cell? ⟨gb567, 5, none⟩ = some (.int .i64 t562) := bc BK567 5
     have hcz79_6 : wc.cell? ⟨gb567, 6, none⟩ = some (.slice Ao13 t563.length co13) := bc BK567 6
     have hfz79_0 := blk_frozen BK567.out 0
     have hfz79_1 := blk_frozen BK567.out 1
     have hfz79_2 := blk_frozen BK567.out 2
     have hfz79_3 := blk_frozen BK567.out 3
     have hfz79_4 := blk_frozen BK567.out 4
     have hfz79_5 := blk_frozen BK567.out 5
     have hfz79_6 := blk_frozen BK567.out 6
     go_wp2_with (first | ((with_reducible refine gate_callee (f := 10) rfl ?_); refine goesL_ (some 77) rfl rfl Try.func10 Z92 rfl #[.agg #[.int .i64 t555, .int .i64 t556, .int .i64 t557, .int .i64 t558, .slice Ao12 t559.length co12, .int .i64 t562, .slice Ao13 t563.length co13], .int .i64 t566] rfl Z89 ?_; (with_reducible refine (impl_FirstAtLeast.calls kj20 t555 t556 t557 t558 _ _ t559 t562 _ _ t563 t566 t576 t577 _ ?side1 ?side2 ?side3 ?side4 A30.out).mono ?_); (case side1 => exact uD HO_568004); (case side2 => exact (Kd.R_reads' HO_568004.out).2.1); (case side3 => exact uD HO_568006); (case side4 => exact (Kd.R_reads' HO_568006.out).2.1); rintro e w80 ⟨rfl, hb⟩; refine ⟨_, rfl, ?_⟩; replace HO_568004 := Aside0.mk (Kd.R_below (uR HO_568004) hb); replace HO_568006 := Aside0.mk (Kd.R_below (uR HO_568006) hb); replace BK567 := kB BK567 hb; replace HB := Aside0.mk (below_step (uN HB) hb); (try clear hb); (try clear hb2); (try clear hk); (try clear hi); have hcz81_0 : w80.cell? ⟨gb567, 0, none⟩ = some (.int .i64 t555) := bc BK567 0; have hcz81_1 : w80.cell? ⟨gb567, 1, none⟩ = some (.int .i64 t556) := bc BK567 1; have hcz81_2 : w80.cell? ⟨gb567, 2, none⟩ = some (.int .i64 t557) := bc BK567 2; have hcz81_3 : w80.cell? ⟨gb567, 3, none⟩ = some (.int .i64 t558) := bc BK567 3; have hcz81_4 : w80.cell? ⟨gb567, 4, none⟩ = some (.slice Ao12 t559.length co12) := bc BK567 4; have hcz81_5 : w80.cell? ⟨gb567, 5, none⟩ = some (.int .i64 t562) := bc BK567 5; have hcz81_6 : w80.cell? ⟨gb567, 6, none⟩ = some (.slice Ao13 t563.length co13) := bc BK567 6; have hfz81_0 := blk_frozen BK567.out 0; have hfz81_1 := blk_frozen BK567.out 1; have hfz81_2 := blk_frozen BK567.out 2; have hfz81_3 := blk_frozen BK567.out 3; have hfz81_4 := blk_frozen BK567.out 4; have hfz81_5 := blk_frozen BK567.out 5; have hfz81_6 := blk_frozen BK567.out 6) | ((with_reducible refine gate_callee (f := 11) rfl ?_); refine goesL_ (some 83) rfl rfl Try.func11 Z92 rfl #[.agg #[.int .i64 t555, .int .i64 t556, .int .i64 t557, .int .i64 t558, .slice Ao12 t559.length co12, .int .i64 t562, .slice Ao13 t563.length co13], .int .i64 t566] rfl Z89 ?_; (with_reducible refine (impl_HasNumber.calls kj20 t555 t556 t557 t558 _ _ t559 t562 _ _ t563 t566 t578 false _ ?side1 ?side2 ?side3 ?side4 A31.out).mono ?_); (case side1 => exact uD HO_568004); (case side2 => exact (Kd.R_reads' HO_568004.out).2.1); (case side3 => exact uD HO_568006); (case side4 => exact (Kd.R_reads' HO_568006.out).2.1); rintro e w82 ⟨rfl, hb⟩; refine ⟨_, rfl, ?_⟩; replace HO_568004 := Aside0.mk (Kd.R_below (uR HO_568004) hb); replace HO_568006 := Aside0.mk (Kd.R_below (uR HO_568006) hb); replace BK567 := kB BK567 hb; replace HB := Aside0.mk (below_step (uN HB) hb); (try clear hb); (try clear hb2); (try clear hk); (try clear hi)))
     go_ret
     exact ⟨Z90, uN HB⟩

/-- THE ONE PURE STATEMENT of laws_FnSparseCounts: yours. -/
def laws_FnSparseCounts.Pure : Prop := ∀ (l0 : List Int) (l1 : List Int), l0.length ≤ maxLen → l0.length * 1 ≤ 140737488351232 → (∀ x ∈ l0, (Lit.int .u8 x).wf = true) → l1.length ≤ maxLen → l1.length * 1 ≤ 140737488351232 → (∀ x ∈ l1, (Lit.int .u8 x).wf = true) → ∃ k, laws_FnSparseCounts.f k l0 l1 = some true
theorem laws_FnSparseCounts.walk (P : laws_FnSparseCounts.Pure) (a0 : Option Addr) (len0 cap0 : Nat) (z0 : List Int) (a1 : Option Addr) (len1 cap1 : Nat) (z1 : List Int) (w : World) (w0 : (a0 = none ∧ len0 = 0 ∧ cap0 = 0 ∧ z0 = []) ∨ ∃ x, a0 = some x ∧ len0 ≤ cap0 ∧ cap0 ≤ maxLen ∧ z0.length = cap0 ∧ (∀ i, i < z0.length → w.cell? (x.add i) = some (.int .u8 (z0.getD i 0))) ∧ ∀ n ∈ z0, (Lit.int .u8 n).wf = true) (y0 : len0 * 1 ≤ 140737488351232) (w1 : (a1 = none ∧ len1 = 0 ∧ cap1 = 0 ∧ z1 = []) ∨ ∃ x, a1 = some x ∧ len1 ≤ cap1 ∧ cap1 ≤ maxLen ∧ z1.length = cap1 ∧ (∀ i, i < z1.length → w.cell? (x.add i) = some (.int .u8 (z1.getD i 0))) ∧ ∀ n ∈ z1, (Lit.int .u8 n).wf = true) (y1 : len1 * 1 ≤ 140737488351232) :
  Calls Try.prog 3 #[.slice a0 len0 cap0, .slice a1 len1 cap1] w fun e w' => e = .returned (.bool true) ∧ Below w.heap.size w w' := by
 obtain ⟨l0, rfl, hr0, hm0, hw0, hc0⟩ := ReadsInt.ofRowC w0
 obtain ⟨l1, rfl, hr1, hm1, hw1, hc1⟩ := ReadsInt.ofRowC w1
 obtain ⟨k, h⟩ := P l0 l1 hm0 y0 hw0 hm1 y1 hw1
 refine (laws_FnSparseCounts.calls k _ _ l0 _ _ l1 true w (Kd.C_of_reads (d := (0 : Int)) (h1 := fun _ => rfl) hr0) hc0 (Kd.C_of_reads (d := (0 : Int)) (h1 := fun _ => rfl) hr1) hc1 h).mono ?_
 rintro e w' ⟨rfl, hd⟩
 exact ⟨rfl, hd⟩

end Go.Proofs.Ytllaofiopnhdgaa.PFnSparseCounts
