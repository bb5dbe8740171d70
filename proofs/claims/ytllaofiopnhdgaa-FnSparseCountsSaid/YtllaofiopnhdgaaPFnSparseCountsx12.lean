-- made by wip/tools/myprint.py over the kit's print, for this claim
import Derived.Test.YtllaofiopnhdgaaPFnSparseCountsx0
import Derived.Test.YtllaofiopnhdgaaPFnSparseCountsx4
import Derived.Test.YtllaofiopnhdgaaPFnSparseCountsx7
import Derived.Test.YtllaofiopnhdgaaPFnSparseCountsx11
namespace Go.Proofs.Ytllaofiopnhdgaa.PFnSparseCounts
open Go.RowKit Go.Proofs.YtllaofiopnhdgaaW.PrintWords Go.Proofs.YtllaofiopnhdgaaW.PrintLast Go.Proofs.YtllaofiopnhdgaaW.PrintMore
open List (setIfInBounds_toArray set_cons_zero set_cons_succ)
attribute [local go_sem] max2_int min2_int max_two min_two max_three min_three max_four min_four   -- for this text's walks alone
set_option linter.unusedVariables false
set_option linter.unusedSimpArgs false

/-! ### impl_LastAtMost: function 7 -/
def impl_LastAtMost.f (k : Nat) (a0_0 : Int) (a0_1 : Int) (a0_2 : Int) (a0_3 : Int) (l0_4 : List Int) (a0_5 : Int) (l0_6 : List Int) (a1 : Int) : Option (Int × Bool) := (impl_Sparse_numbers_in28_0.f k a0_0 a0_1 a0_2 a0_3 l0_4 a0_5 l0_6).bind fun bt468 => (if bt468.2 = true then ((impl_in.f a1 0 (wrap64 (a0_1 - 1))).bind fun t472 => (if t472 = true then ((impl_below.f k bt468.1 (wrap64 (a1 + 1))).bind fun t473 => (if t473 = 0 then (some (0, false)) else ((impl_below.f k bt468.1 (wrap64 (a1 + 1))).bind fun t474 => (some (wrap64 (t474 - 1), true))))) else (some (0, false)))) else (some (0, false)))
theorem impl_LastAtMost.mono : ∀ a0 a1 a2 a3 a4 a5 a6 a7 k, LeO (impl_LastAtMost.f k a0 a1 a2 a3 a4 a5 a6 a7) (impl_LastAtMost.f (k + 1) a0 a1 a2 a3 a4 a5 a6 a7) := by
 intro a0 a1 a2 a3 a4 a5 a6 a7 k
 unfold impl_LastAtMost.f
 repeat' first
   | with_reducible first | exact impl_Sparse_numbers_in28_0.mono .. | exact impl_below.mono .. | exact LeO.refl _ | exact LeO.none _ | refine LeO.ite ?_ ?_ | refine LeO.bind ?_ (fun _ => ?_)
   | exact impl_Sparse_numbers_in28_0.mono .. | exact impl_below.mono .. | exact LeO.none _ | refine LeO.ite ?_ ?_ | refine LeO.bind ?_ (fun _ => ?_)
set_option maxHeartbeats 8000000 in
set_option maxRecDepth 100000 in
theorem impl_LastAtMost.calls (k : Nat) (a0_0 : Int) (a0_1 : Int) (a0_2 : Int) (a0_3 : Int) (A0_4 : Option Addr) (c0_4 : Nat) (l0_4 : List Int) (a0_5 : Int) (A0_6 : Option Addr) (c0_6 : Nat) (l0_6 : List Int) (a1 : Int) (r1 : Int) (r2 : Bool) (w : World) (hr0_4 : Kd.C (Kd.int .i64) w A0_4 l0_4.length l0_4) (hc0_4 : l0_4.length ≤ c0_4) (hr0_6 : Kd.C (Kd.int .i64) w A0_6 l0_6.length l0_6) (hc0_6 : l0_6.length ≤ c0_6) (h : impl_LastAtMost.f k a0_0 a0_1 a0_2 a0_3 l0_4 a0_5 l0_6 a1 = some (r1, r2)) :
  Calls Try.prog 7 #[.agg #[.int .i64 a0_0, .int .i64 a0_1, .int .i64 a0_2, .int .i64 a0_3, .slice A0_4 l0_4.length c0_4, .int .i64 a0_5, .slice A0_6 l0_6.length c0_6], .int .i64 a1] w fun e w' => e = .returned (.tuple #[.int .i64 r1, .bool r2]) ∧ Below w.heap.size w w' := by
 have hu28 := Try.underlying28
 have HR0_4 := Aside0.mk hr0_4
 have HC0_4 := Aside0.mk hc0_4
 clear hr0_4 hc0_4
 have HR0_6 := Aside0.mk hr0_6
 have HC0_6 := Aside0.mk hc0_6
 clear hr0_6 hc0_6
 have HB := Aside0.mk (Below.refl w.heap.size w)
 have H : ((impl_Sparse_numbers_in28_0.f k a0_0 a0_1 a0_2 a0_3 l0_4 a0_5 l0_6).bind fun bt468 => (if bt468.2 = true then ((impl_in.f a1 0 (wrap64 (a0_1 - 1))).bind fun t472 => (if t472 = true then ((impl_below.f k bt468.1 (wrap64 (a1 + 1))).bind fun t473 => (if t473 = 0 then (some (0, false)) else ((impl_below.f k bt468.1 (wrap64 (a1 + 1))).bind fun t474 => (some (wrap64 (t474 - 1), true))))) else (some (0, false)))) else (some (0, false)))) = some (r1, r2) := h
 clear h
 replace H := Option.bind_eq_some_iff.mp H
 obtain ⟨⟨t468, t471⟩, A30, H⟩ := H
 try dsimp only at H
 have A3 := Aside0.mk A30
 clear A30
 by_cases c4 : t471 = true
 ·
  subst c4
  rw [if_pos rfl] at H
  replace H := Option.bind_eq_some_iff.mp H
  obtain ⟨t472, A50, H⟩ := H
  try dsimp only at H
  have A5 := Aside0.mk A50
  clear A50
  by_cases c6 : t472 = true
  ·
   subst c6
   rw [if_pos rfl] at H
   replace H := Option.bind_eq_some_iff.mp H
   obtain ⟨t473, A70, H⟩ := H
   try dsimp only at H
   have A7 := Aside0.mk A70
   clear A70
   by_cases c8 : t473 = 0
   ·
    rw [if_pos c8] at H
    have c8b0 : (t473 == 0) = true := beq_iff_eq.mpr c8
    have c8b1 : (t473 != 0) = false := bne_eq_false_iff_eq.mpr c8
    clear c8
    simp only [Option.some.injEq, Prod.mk.injEq] at H
    obtain ⟨rfl, rfl⟩ := H
    go_enter Try.func7, Try.ntmps7
    go_wp2_with (first | ((with_reducible refine gate_dst (N := 2) rfl ?_); refine box_event ?hg (N := 2) ?hd (cs := #[.int .i64 a0_0, .int .i64 a0_1, .int .i64 a0_2, .int .i64 a0_3, .slice A0_4 l0_4.length c0_4, .int .i64 a0_5, .slice A0_6 l0_6.length c0_6]) (t := 28) ?hr ?_; (case hd => rfl); (case hg => rfl); (case hr => exact Z93); intro gb467 hg w9 hbox hb; have BK467 := Aside0.mk (hbox); have GW467 := nG HB hg; have GE467 := nG HB hg; have GI467 := gI GE467; replace HB := Aside0.mk (below_step (uN HB) hb); clear hb hbox hg) | ((with_reducible refine gate_callee (f := 22) rfl ?_); refine goesL_ (some 9) rfl rfl Try.func22 Z92 rfl #[.pointer (some ⟨gb467, 0, none⟩)] rfl Z89 ?_; (with_reducible refine (impl_Sparse_numbers_in28_0.calls k gb467 a0_0 a0_1 a0_2 a0_3 A0_4 c0_4 l0_4 a0_5 A0_6 c0_6 l0_6 t468 true _ ?side1 ?side2 ?side3 ?side4 ?side5 A3.out).mono ?_); (case side1 => exact (uK BK467)); (case side2 => exact uC HR0_4 HB); (case side3 => exact HC0_4.out); (case side4 => exact uC HR0_6 HB); (case side5 => exact HC0_6.out); rintro e w10 ⟨v469, rfl, ho0, hb⟩; refine ⟨_, rfl, ?_⟩; have HO470 := Aside0.mk (Kd.R_lower ho0 (below_size Z23)); replace BK467 := kB BK467 hb; replace HB := Aside0.mk (below_step Z23 hb); (try clear hb); (try clear hb2); (try clear hk); (try clear hi); (try clear ho0); have hcz11_0 : w10.cell? ⟨gb467, 0, none⟩ = some (.int .i64 a0_0) := bc BK467 0; have hcz11_1 : w10.cell? ⟨gb467, 1, none⟩ = some (.int .i64 a0_1) := bc BK467 1; have hcz11_2 : w10.cell? ⟨gb467, 2, none⟩ = some (.int .i64 a0_2) := bc BK467 2; have hcz11_3 : w10.cell? ⟨gb467, 3, none⟩ = some (.int .i64 a0_3) := bc BK467 3; have hcz11_4 : w10.cell? ⟨gb467, 4, none⟩ = some (.slice A0_4 l0_4.length c0_4) := bc BK467 4; have hcz11_5 : w10.cell? ⟨gb467, 5, none⟩ = some (.int .i64 a0_5) := bc BK467 5; have hcz11_6 : w10.cell? ⟨gb467, 6, none⟩ = some (.slice A0_6 l0_6.length c0_6) := bc BK467 6; have hfz11_0 := blk_frozen BK467.out 0; have hfz11_1 := blk_frozen BK467.out 1; have hfz11_2 := blk_frozen BK467.out 2; have hfz11_3 := blk_frozen BK467.out 3; have hfz11_4 := blk_frozen BK467.out 4; have hfz11_5 := blk_frozen BK467.out 5; have hfz11_6 := blk_frozen BK467.out 6) | (go_at_call 23; (with_reducible refine (impl_in.calls a1 0 (wrap64 (a0_1 - 1)) true _ A5.out).mono ?_); rintro e w' ⟨rfl, ⟨nd, rfl⟩⟩; obtain ⟨Ao12, co12, eo12⟩ := Kd.R_slice HO470.out; subst eo12) | (go_at_call 24; (with_reducible refine (impl_below.calls k _ _ t468 (wrap64 (a1 + 1)) t473 _ ?side1 ?side2 A7.out).mono ?_); (case side1 => exact uD HO470); (case side2 => exact (Kd.R_reads' HO470.out).2.1); rintro e w' ⟨rfl, ⟨nd, rfl⟩⟩))
    go_ret2
    exact ⟨Z90, Z23⟩
   rw [if_neg c8] at H
   have c8b0 : (t473 == 0) = false := beq_eq_false_iff_ne.mpr c8
   have c8b1 : (t473 != 0) = true := bne_iff_ne.mpr c8
   replace H := Option.bind_eq_some_iff.mp H
   obtain ⟨t474, A130, H⟩ := H
   try dsimp only at H
   have A13 := Aside0.mk A130
   clear A130
   simp only [Option.some.injEq, Prod.mk.injEq] at H
   obtain ⟨rfl, rfl⟩ := H
   go_enter Try.func7, Try.ntmps7
   go_wp2_with (first | ((with_reducible refine gate_dst (N := 2) rfl ?_); refine box_event ?hg (N := 2) ?hd (cs := #[.int .i64 a0_0, .int .i64 a0_1, .int .i64 a0_2, .int .i64 a0_3, .slice A0_4 l0_4.length c0_4, .int .i64 a0_5, .slice A0_6 l0_6.length c0_6]) (t := 28) ?hr ?_; (case hd => rfl); (case hg => rfl); (case hr => exact Z93); intro gb467 hg w14 hbox hb; have BK467 := Aside0.mk (hbox); have GW467 := nG HB hg; have GE467 := nG HB hg; have GI467 := gI GE467; replace HB := Aside0.mk (below_step (uN HB) hb); clear hb hbox hg) | ((with_reducible refine gate_callee (f := 22) rfl ?_); refine goesL_ (some 9) rfl rfl Try.func22 Z92 rfl #[.pointer (some ⟨gb467, 0, none⟩)] rfl Z89 ?_; (with_reducible refine (impl_Sparse_numbers_in28_0.calls k gb467 a0_0 a0_1 a0_2 a0_3 A0_4 c0_4 l0_4 a0_5 A0_6 c0_6 l0_6 t468 true _ ?side1 ?side2 ?side3 ?side4 ?side5 A3.out).mono ?_); (case side1 => exact (uK BK467)); (case side2 => exact uC HR0_4 HB); (case side3 => exact HC0_4.out); (case side4 => exact uC HR0_6 HB); (case side5 => exact HC0_6.out); rintro e w15 ⟨v469, rfl, ho0, hb⟩; refine ⟨_, rfl, ?_⟩; have HO470 := Aside0.mk (Kd.R_lower ho0 (below_size Z23)); replace BK467 := kB BK467 hb; replace HB := Aside0.mk (below_step Z23 hb); (try clear hb); (try clear hb2); (try clear hk); (try clear hi); (try clear ho0); have hcz16_0 : w15.cell? ⟨gb467, 0, none⟩ = some (.int .i64 a0_0) := bc BK467 0; have hcz16_1 : w15.cell? ⟨gb467, 1, none⟩ = some (.int .i64 a0_1) := bc BK467 1; have hcz16_2 : w15.cell? ⟨gb467, 2, none⟩ = some (.int .i64 a0_2) := bc BK467 2; have hcz16_3 : w15.cell? ⟨gb467, 3, none⟩ = some (.int .i64 a0_3) := bc BK467 3; have hcz16_4 : w15.cell? ⟨gb467, 4, none⟩ = some (.slice A0_4 l0_4.length c0_4) := bc BK467 4; have hcz16_5 : w15.cell? ⟨gb467, 5, none⟩ = some (.int .i64 a0_5) := bc BK467 5; have hcz16_6 : w15.cell? ⟨gb467, 6, none⟩ = some (.slice A0_6 l0_6.length c0_6) := bc BK467 6; have hfz16_0 := blk_frozen BK467.out 0; have hfz16_1 := blk_frozen BK467.out 1; have hfz16_2 := blk_frozen BK467.out 2; have hfz16_3 := blk_frozen BK467.out 3; have hfz16_4 := blk_frozen BK467.out 4; have hfz16_5 := blk_frozen BK467.out 5; have hfz16_6 := blk_frozen BK467.out 6) | (go_at_call 23; (with_reducible refine (impl_in.calls a1 0 (wrap64 (a0_1 - 1)) true _ A5.out).mono ?_); rintro e w' ⟨rfl, ⟨nd, rfl⟩⟩; obtain ⟨Ao17, co17, eo17⟩ := Kd.R_slice HO470.out; subst eo17) | (go_at_call 24; (with_reducible refine (impl_below.calls k _ _ t468 (wrap64 (a1 + 1)) t473 _ ?side1 ?side2 A7.out).mono ?_); (case side1 => exact uD HO470); (case side2 => exact (Kd.R_reads' HO470.out).2.1); rintro e w' ⟨rfl, ⟨nd, rfl⟩⟩) | ((with_reducible refine gate_callee (f := 24) rfl ?_); refine goesL_ (some 32) rfl rfl Try.func24 Z92 rfl #[.slice Ao17 t468.length co17, .int .i64 (wrap64 (a1 + 1))] rfl Z89 ?_; (with_reducible refine (impl_below.calls k _ _ t468 (wrap64 (a1 + 1)) t474 _ ?side1 ?side2 A13.out).mono ?_); (case side1 => exact uD HO470); (case side2 => exact (Kd.R_reads' HO470.out).2.1); rintro e w' ⟨rfl, ⟨nd, rfl⟩⟩; refine ⟨_, rfl, ?_⟩))
   go_ret2
   exact ⟨Z90, Z23⟩
  replace c6 := Bool.eq_false_iff.mpr c6
  subst c6
  rw [if_neg (show ¬ (false = true) from Z19)] at H
  simp only [Option.some.injEq, Prod.mk.injEq] at H
  obtain ⟨rfl, rfl⟩ := H
  go_enter Try.func7, Try.ntmps7
  go_wp2_with (first | ((with_reducible refine gate_dst (N := 2) rfl ?_); refine box_event ?hg (N := 2) ?hd (cs := #[.int .i64 a0_0, .int .i64 a0_1, .int .i64 a0_2, .int .i64 a0_3, .slice A0_4 l0_4.length c0_4, .int .i64 a0_5, .slice A0_6 l0_6.length c0_6]) (t := 28) ?hr ?_; (case hd => rfl); (case hg => rfl); (case hr => exact Z93); intro gb467 hg w18 hbox hb; have BK467 := Aside0.mk (hbox); have GW467 := nG HB hg; have GE467 := nG HB hg; have GI467 := gI GE467; replace HB := Aside0.mk (below_step (uN HB) hb); clear hb hbox hg) | ((with_reducible refine gate_callee (f := 22) rfl ?_); refine goesL_ (some 9) rfl rfl Try.func22 Z92 rfl #[.pointer (some ⟨gb467, 0, none⟩)] rfl Z89 ?_; (with_reducible refine (impl_Sparse_numbers_in28_0.calls k gb467 a0_0 a0_1 a0_2 a0_3 A0_4 c0_4 l0_4 a0_5 A0_6 c0_6 l0_6 t468 true _ ?side1 ?side2 ?side3 ?side4 ?side5 A3.out).mono ?_); (case side1 => exact (uK BK467)); (case side2 => exact uC HR0_4 HB); (case side3 => exact HC0_4.out); (case side4 => exact uC HR0_6 HB); (case side5 => exact HC0_6.out); rintro e w19 ⟨v469, rfl, ho0, hb⟩; refine ⟨_, rfl, ?_⟩; have HO470 := Aside0.mk (Kd.R_lower ho0 (below_size Z23)); replace BK467 := kB BK467 hb; replace HB := Aside0.mk (below_step Z23 hb); (try clear hb); (try clear hb2); (try clear hk); (try clear hi); (try clear ho0); have hcz20_0 : w19.cell? ⟨gb467, 0, none⟩ = some (.int .i64 a0_0) := bc BK467 0; have hcz20_1 : w19.cell? ⟨gb467, 1, none⟩ = some (.int .i64 a0_1) := bc BK467 1; have hcz20_2 : w19.cell? ⟨gb467, 2, none⟩ = some (.int .i64 a0_2) := bc BK467 2; have hcz20_3 : w19.cell? ⟨gb467, 3, none⟩ = some (.int .i64 a0_3) := bc BK467 3; have hcz20_4 : w19.cell? ⟨gb467, 4, none⟩ = some (.slice A0_4 l0_4.length c0_4) := bc BK467 4; have hcz20_5 : w19.cell? ⟨gb467, 5, none⟩ = some (.int .i64 a0_5) := bc BK467 5; have hcz20_6 : w19.cell? ⟨gb467, 6, none⟩ = some (.slice A0_6 l0_6.length c0_6) := bc BK467 6; have hfz20_0 := blk_frozen BK467.out 0; have hfz20_1 := blk_frozen BK467.out 1; have hfz20_2 := blk_frozen BK467.out 2; have hfz20_3 := blk_frozen BK467.out 3; have hfz20_4 := blk_frozen BK467.out 4; have hfz20_5 := blk_frozen BK467.out 5; have hfz20_6 := blk_frozen BK467.out 6) | (go_at_call 23; (with_reducible refine (impl_in.calls a1 0 (wrap64 (a0_1 - 1)) false _ A5.out).mono ?_); rintro e w' ⟨rfl, ⟨nd, rfl⟩⟩))
  go_ret2
  exact ⟨Z90, Z23⟩
 replace c4 := Bool.eq_false_iff.mpr c4
 subst c4
 rw [if_neg (show ¬ (false = true) from Z19)] at H
 simp only [Option.some.injEq, Prod.mk.injEq] at H
 obtain ⟨rfl, rfl⟩ := H
 go_enter Try.func7, Try.ntmps7
 go_wp2_with (first | ((with_reducible refine gate_dst (N := 2) rfl ?_); refine box_event ?hg (N := 2) ?hd (cs := #[.int .i64 a0_0, .int .i64 a0_1, .int .i64 a0_2, .int .i64 a0_3, .slice A0_4 l0_4.length c0_4, .int .i64 a0_5, .slice A0_6 l0_6.length c0_6]) (t := 28) ?hr ?_; (case hd => rfl); (case hg => rfl); (case hr => exact Z93); intro gb467 hg w21 hbox hb; have BK467 := Aside0.mk (hbox); have GW467 := nG HB hg; have GE467 := nG HB hg; have GI467 := gI GE467; replace HB := Aside0.mk (below_step (uN HB) hb); clear hb hbox hg) | ((with_reducible refine gate_callee (f := 22) rfl ?_); refine goesL_ (some 9) rfl rfl Try.func22 Z92 rfl #[.pointer (some ⟨gb467, 0, none⟩)] rfl Z89 ?_; (with_reducible refine (impl_Sparse_numbers_in28_0.calls k gb467 a0_0 a0_1 a0_2 a0_3 A0_4 c0_4 l0_4 a0_5 A0_6 c0_6 l0_6 t468 false _ ?side1 ?side2 ?side3 ?side4 ?side5 A3.out).mono ?_); (case side1 => exact (uK BK467)); (case side2 => exact uC HR0_4 HB); (case side3 => exact HC0_4.out); (case side4 => exact uC HR0_6 HB); (case side5 => exact HC0_6.out); rintro e w22 ⟨v469, rfl, ho0, hb⟩; refine ⟨_, rfl, ?_⟩; have HO470 := Aside0.mk (Kd.R_lower ho0 (below_size Z23)); replace BK467 := kB BK467 hb; replace HB := Aside0.mk (below_step Z23 hb); (try clear hb); (try clear hb2); (try clear hk); (try clear hi); (try clear ho0)))
 go_ret2
 exact ⟨Z90, Z23⟩

/-! ### spec_biField: function 66 -/
def spec_biField.l0 : Nat → Int → Int → Int → Int → List Int → Option (Int)
 | 0, _, _, _, _, _ => none
 | k + 1, x1, x7, x8, x476000, x476001 => if x8 ≥ 0 then ((spec_biAt.f x476000 x476001 (wrap64 (x1 + x8))).bind fun t476 => (if t476 = true then (spec_biField.l0 k x1 (wrap64 ((wrap64 (x7 * 2)) + 1)) (wrap64 (x8 - 1)) x476000 x476001) else (spec_biField.l0 k x1 (wrap64 (x7 * 2)) (wrap64 (x8 - 1)) x476000 x476001))) else (some x7)
def spec_biField.f (k : Nat) (a0_0 : Int) (l0_1 : List Int) (a1 : Int) (a2 : Int) : Option (Int) := spec_biField.l0 k a1 0 (wrap64 (a2 - 1)) a0_0 l0_1
theorem spec_biField.mono_l : ∀ k, (∀ y0 y1 y2 y3 y4, LeO (spec_biField.l0 k y0 y1 y2 y3 y4) (spec_biField.l0 (k + 1) y0 y1 y2 y3 y4))
 | 0 => fun _ _ _ _ _ r h => by simp [spec_biField.l0] at h | k + 1 => by
  have ih0 := spec_biField.mono_l k
  ·
   intro y0 y1 y2 y3 y4
   unfold spec_biField.l0
   repeat' first
   | with_reducible first | exact ih0 .. | exact LeO.refl _ | exact LeO.none _ | refine LeO.ite ?_ ?_ | refine LeO.bind ?_ (fun _ => ?_)
   | exact ih0 .. | exact LeO.none _ | refine LeO.ite ?_ ?_ | refine LeO.bind ?_ (fun _ => ?_)
theorem spec_biField.mono : ∀ a0 a1 a2 a3 k, LeO (spec_biField.f k a0 a1 a2 a3) (spec_biField.f (k + 1) a0 a1 a2 a3) := by
 intro a0 a1 a2 a3 k
 have ih0 := spec_biField.mono_l k
 unfold spec_biField.f
 repeat' first
   | with_reducible first | exact ih0 .. | exact LeO.refl _ | exact LeO.none _ | refine LeO.ite ?_ ?_ | refine LeO.bind ?_ (fun _ => ?_)
   | exact ih0 .. | exact LeO.none _ | refine LeO.ite ?_ ?_ | refine LeO.bind ?_ (fun _ => ?_)
set_option maxHeartbeats 8000000 in
set_option maxRecDepth 100000 in
theorem spec_biField.calls (k : Nat) (a0_0 : Int) (A0_1 : Option Addr) (c0_1 : Nat) (l0_1 : List Int) (a1 : Int) (a2 : Int) (r : Int) (w : World) (hr0_1 : Kd.C (Kd.int .i64) w A0_1 l0_1.length l0_1) (hc0_1 : l0_1.length ≤ c0_1) (h : spec_biField.f k a0_0 l0_1 a1 a2 = some r) :
  Calls Try.prog 66 #[.agg #[.int .i64 a0_0, .slice A0_1 l0_1.length c0_1], .int .i64 a1, .int .i64 a2] w fun e w' => e = .returned (.int .i64 r) ∧ Below w.heap.size w w' := by
 have hu26 := Try.underlying26
 have HR0_1 := Aside0.mk hr0_1
 have HC0_1 := Aside0.mk hc0_1
 clear hr0_1 hc0_1
 have HB := Aside0.mk (Below.refl w.heap.size w)
 have H : (spec_biField.l0 k a1 0 (wrap64 (a2 - 1)) a0_0 l0_1) = some r := h
 clear h
 have H' := Aside0.mk H
 clear H
 go_enter Try.func66, Try.ntmps66
 go_wp2_with (first | ((with_reducible refine gate_dst (N := 3) rfl ?_); refine box_event ?hg (N := 3) ?hd (cs := #[.int .i64 a0_0, .slice A0_1 l0_1.length c0_1]) (t := 26) ?hr ?_; (case hd => rfl); (case hg => rfl); (case hr => exact Z93); intro gb475 hg w4 hbox hb; have BK475 := Aside0.mk (hbox); have GW475 := nG HB hg; have GE475 := nG HB hg; have GI475 := gI GE475; replace HB := Aside0.mk (below_step (uN HB) hb); clear hb hbox hg))
 go_loopg [7, 8] k (fun kq v7 v8 w' => ∃ (x7_1 : Int) (x8_1 : Int), v7 = .int .i64 x7_1 ∧ v8 = .int .i64 x8_1 ∧ Aside0 (spec_biField.l0 kq a1 x7_1 x8_1 a0_0 l0_1 = some r) ∧ Aside0 (kq ≤ k) ∧ Aside0 (w'.heap[gb475]? = some (.cells #[.int .i64 a0_0, (.slice A0_1 l0_1.length c0_1)] 26 (0, 0))) ∧ Aside0 (Below w.heap.size w w'))
 case atStart => exact ⟨(0), (wrap64 (a2 - 1)), Z91, Z91, H', ⟨Nat.le_refl _⟩, ⟨by refine uW ?_; exact BK475.out⟩, ⟨Z44⟩⟩
 case round =>
  clear H'
  try clear p2
  obtain ⟨x7_1, x8_1, rfl, rfl, HA, HK1, BK475, HB⟩ := hrel
  cases gk with
  | zero => exact absurd HA.out (by simp [spec_biField.l0])
  | succ k1 =>
   have H := HA.out
   clear HA
   simp only [spec_biField.l0] at H
   by_cases c5 : x8_1 ≥ 0
   ·
    rw [if_pos c5] at H
    have c5b0 : decide (0 ≤ x8_1) = true := decide_eq_true c5
    clear c5
    replace H := Option.bind_eq_some_iff.mp H
    obtain ⟨t476, A60, H⟩ := H
    try dsimp only at H
    have A6 := Aside0.mk A60
    clear A60
    by_cases c7 : t476 = true
    ·
     subst c7
     rw [if_pos rfl] at H
     have H' := Aside0.mk H
     clear H
     obtain ⟨hcz8_0, hcz8_1, hfz8_0, hfz8_1⟩ := ce2 BK475
     go_wp2_with (first | ((with_reducible refine gate_callee (f := 65) rfl ?_); refine goesL_ (some 21) rfl rfl Try.func65 Z92 rfl #[.agg #[.int .i64 a0_0, .slice A0_1 l0_1.length c0_1], .int .i64 (wrap64 (a1 + x8_1))] rfl Z89 ?_; (with_reducible refine (spec_biAt.calls a0_0 _ _ l0_1 (wrap64 (a1 + x8_1)) true _ ?side1 ?side2 A6.out).mono ?_); (case side1 => exact uC HR0_1 HB); (case side2 => exact HC0_1.out); rintro e w9 ⟨rfl, hb⟩; refine ⟨_, rfl, ?_⟩; replace BK475 := kB BK475 hb; replace HB := Aside0.mk (below_step Z44 hb); (try clear hb); (try clear hb2); (try clear hk); (try clear hi)))
     go_roundg k1
     case measure => have := HK1.out; omega
     case rel => exact ⟨(wrap64 ((wrap64 (x7_1 * 2)) + 1)), (wrap64 (x8_1 - 1)), Z91, Z91, H', ⟨by have := HK1.out; omega⟩, ⟨by refine uW ?_; exact BK475.out⟩, ⟨Z44⟩⟩
    replace c7 := Bool.eq_false_iff.mpr c7
    subst c7
    rw [if_neg (show ¬ (false = true) from Z19)] at H
    have H' := Aside0.mk H
    clear H
    obtain ⟨hcz10_0, hcz10_1, hfz10_0, hfz10_1⟩ := ce2 BK475
    go_wp2_with (first | ((with_reducible refine gate_callee (f := 65) rfl ?_); refine goesL_ (some 21) rfl rfl Try.func65 Z92 rfl #[.agg #[.int .i64 a0_0, .slice A0_1 l0_1.length c0_1], .int .i64 (wrap64 (a1 + x8_1))] rfl Z89 ?_; (with_reducible refine (spec_biAt.calls a0_0 _ _ l0_1 (wrap64 (a1 + x8_1)) false _ ?side1 ?side2 A6.out).mono ?_); (case side1 => exact uC HR0_1 HB); (case side2 => exact HC0_1.out); rintro e w11 ⟨rfl, hb⟩; refine ⟨_, rfl, ?_⟩; replace BK475 := kB BK475 hb; replace HB := Aside0.mk (below_step Z44 hb); (try clear hb); (try clear hb2); (try clear hk); (try clear hi)))
    go_roundg k1
    case measure => have := HK1.out; omega
    case rel => exact ⟨(wrap64 (x7_1 * 2)), (wrap64 (x8_1 - 1)), Z91, Z91, H', ⟨by have := HK1.out; omega⟩, ⟨by refine uW ?_; exact BK475.out⟩, ⟨Z44⟩⟩
   rw [if_neg c5] at H
   have c5b0 : decide (0 ≤ x8_1) = false := decide_eq_false c5
   clear c5
   obtain rfl := Option.some.inj H
   go_wp2
   go_ret
   exact ⟨Z90, Z44⟩

/-! ### spec_spList: function 32 -/
mutual
def spec_spList.l0 : Nat → List Int → Int → Int → Int → Int → Int → List Int → Int → List Int → Option (List Int)
 | 0, _, _, _, _, _, _, _, _, _ => none
 | k + 1, x3, x4, x478000, x478001, x478002, x478003, x478004, x478005, x478006 => if x4 < x478005 then (spec_spList.j1 k x3 x4 (decide ((x3.length : Int) < x478000)) x478000 x478001 x478002 x478003 x478004 x478005 x478006) else (spec_spList.j1 k x3 x4 false x478000 x478001 x478002 x478003 x478004 x478005 x478006)
def spec_spList.j1 : Nat → List Int → Int → Bool → Int → Int → Int → Int → List Int → Int → List Int → Option (List Int)
 | 0, _, _, _, _, _, _, _, _, _, _ => none
 | k + 1, x3, x4, x17, x478000, x478001, x478002, x478003, x478004, x478005, x478006 => if x17 = true then ((spec_biAt.f x478005 x478006 x4).bind fun t478 => (if t478 = true then (if 0 ≤ x478002 then ((spec_biField.f k x478003 x478004 (wrap64 ((x3.length : Int) * x478002)) x478002).bind fun t479 => (if x3.length < 17592186044416 then (spec_spList.l0 k (x3 ++ [wrap64 ((shl .i64 (wrap64 (x4 - (x3.length : Int))) x478002) + t479)]) (wrap64 (x4 + 1)) x478000 x478001 x478002 x478003 x478004 x478005 x478006) else (none))) else (none)) else (spec_spList.l0 k x3 (wrap64 (x4 + 1)) x478000 x478001 x478002 x478003 x478004 x478005 x478006))) else (some x3)
end
def spec_spList.f (k : Nat) (a0_0 : Int) (a0_1 : Int) (a0_2 : Int) (a0_3 : Int) (l0_4 : List Int) (a0_5 : Int) (l0_6 : List Int) : Option (List Int) := spec_spList.l0 k ([] : List Int) 0 a0_0 a0_1 a0_2 a0_3 l0_4 a0_5 l0_6
theorem spec_spList.mono_l : ∀ k, (∀ y0 y1 y2 y3 y4 y5 y6 y7 y8, LeO (spec_spList.l0 k y0 y1 y2 y3 y4 y5 y6 y7 y8) (spec_spList.l0 (k + 1) y0 y1 y2 y3 y4 y5 y6 y7 y8)) ∧ (∀ y0 y1 y2 y3 y4 y5 y6 y7 y8 y9, LeO (spec_spList.j1 k y0 y1 y2 y3 y4 y5 y6 y7 y8 y9) (spec_spList.j1 (k + 1) y0 y1 y2 y3 y4 y5 y6 y7 y8 y9))
 | 0 => ⟨fun _ _ _ _ _ _ _ _ _ r h => by simp [spec_spList.l0] at h, fun _ _ _ _ _ _ _ _ _ _ r h => by simp [spec_spList.j1] at h⟩ | k + 1 => by
  obtain ⟨ih0, ih1⟩ := spec_spList.mono_l k
  refine ⟨?_, ?_⟩
  ·
   intro y0 y1 y2 y3 y4 y5 y6 y7 y8
   unfold spec_spList.l0
   repeat' first
   | with_reducible first | exact ih0 .. | exact ih1 .. | exact spec_biField.mono .. | exact LeO.refl _ | exact LeO.none _ | refine LeO.ite ?_ ?_ | refine LeO.bind ?_ (fun _ => ?_)
   | exact ih0 .. | exact ih1 .. | exact spec_biField.mono .. | exact LeO.none _ | refine LeO.ite ?_ ?_ | refine LeO.bind ?_ (fun _ => ?_)
  intro y0 y1 y2 y3 y4 y5 y6 y7 y8 y9
  unfold spec_spList.j1
  repeat' first
  | with_reducible first | exact ih0 .. | exact ih1 .. | exact spec_biField.mono .. | exact LeO.refl _ | exact LeO.none _ | refine LeO.ite ?_ ?_ | refine LeO.bind ?_ (fun _ => ?_)
  | exact ih0 .. | exact ih1 .. | exact spec_biField.mono .. | exact LeO.none _ | refine LeO.ite ?_ ?_ | refine LeO.bind ?_ (fun _ => ?_)
theorem spec_spList.mono : ∀ a0 a1 a2 a3 a4 a5 a6 k, LeO (spec_spList.f k a0 a1 a2 a3 a4 a5 a6) (spec_spList.f (k + 1) a0 a1 a2 a3 a4 a5 a6) := by
 intro a0 a1 a2 a3 a4 a5 a6 k
 obtain ⟨ih0, ih1⟩ := spec_spList.mono_l k
 unfold spec_spList.f
 repeat' first
   | with_reducible first | exact ih0 .. | exact ih1 .. | exact spec_biField.mono .. | exact LeO.refl _ | exact LeO.none _ | refine LeO.ite ?_ ?_ | refine LeO.bind ?_ (fun _ => ?_)
   | exact ih0 .. | exact ih1 .. | exact spec_biField.mono .. | exact LeO.none _ | refine LeO.ite ?_ ?_ | refine LeO.bind ?_ (fun _ => ?_)
def spec_spList.T7 : Bool × List (List Nat × List Nat) := (true, [([], []), ([], []), ([], []), ([1, 2], [1, 2]), ([], []), ([4], [4]), ([3, 5], [3, 5]), ([], []), ([7], [7]), ([], []), ([], []), ([10], [10]), ([9, 11], [9, 11]), ([], []), ([13], [13]), ([8, 12, 14], [8, 12, 14]), ([6, 15], [6, 15]), ([16], [16]), ([0, 17, 15], [0, 17]), ([18, 18, 0, 1, 2, 3, 4, 5, 6, 7, 8, 9, 10, 11, 12, 13, 14, 15, 16, 17, 18], [0, 18])])
def spec_spList.B7 : List Nat := [0, 0, 0, 6, 0, 16, 62, 0, 128, 0, 0, 1024, 3584, 0, 8192, 32640, 65534, 131070, 262143, 524287]
theorem spec_spList.tab7 : rtab .any (opsOf Try.f32 7) = spec_spList.T7 := by kernel_rfl
theorem spec_spList.bits7 : waitsOk spec_spList.T7.2 spec_spList.B7 = true := by kernel_rfl
set_option maxHeartbeats 8000000 in
set_option maxRecDepth 100000 in
theorem spec_spList.calls (k : Nat) (a0_0 : Int) (a0_1 : Int) (a0_2 : Int) (a0_3 : Int) (A0_4 : Option Addr) (c0_4 : Nat) (l0_4 : List Int) (a0_5 : Int) (A0_6 : Option Addr) (c0_6 : Nat) (l0_6 : List Int) (r : List Int) (w : World) (hr0_4 : Kd.C (Kd.int .i64) w A0_4 l0_4.length l0_4) (hc0_4 : l0_4.length ≤ c0_4) (hr0_6 : Kd.C (Kd.int .i64) w A0_6 l0_6.length l0_6) (hc0_6 : l0_6.length ≤ c0_6) (h : spec_spList.f k a0_0 a0_1 a0_2 a0_3 l0_4 a0_5 l0_6 = some r) :
  Calls Try.prog 32 #[.agg #[.int .i64 a0_0, .int .i64 a0_1, .int .i64 a0_2, .int .i64 a0_3, .slice A0_4 l0_4.length c0_4, .int .i64 a0_5, .slice A0_6 l0_6.length c0_6]] w fun e w' => ∃ v0_ : Value, e = .returned (v0_) ∧ Kd.R (Kd.int .i64) 3 w' w.heap.size (fun _ => True) v0_ r ∧ Below w.heap.size w w' := by
 have hu28 := Try.underlying28
 have hu26 := Try.underlying26
 have HR0_4 := Aside0.mk hr0_4
 have HC0_4 := Aside0.mk hc0_4
 clear hr0_4 hc0_4
 have HR0_6 := Aside0.mk hr0_6
 have HC0_6 := Aside0.mk hc0_6
 clear hr0_6 hc0_6
 have HB := Aside0.mk (Below.refl w.heap.size w)
 have H : (spec_spList.l0 k ([] : List Int) 0 a0_0 a0_1 a0_2 a0_3 l0_4 a0_5 l0_6) = some r := h
 clear h
 have H' := Aside0.mk H
 clear H
 go_enter Try.func32, Try.ntmps32
 go_wp2_with (first | ((with_reducible refine gate_dst (N := 1) rfl ?_); (try (refine gate_guard Z63 ?_; dsimp only)); refine box_event ?hg (N := 1) ?hd (cs := #[.int .i64 a0_0, .int .i64 a0_1, .int .i64 a0_2, .int .i64 a0_3, .slice A0_4 l0_4.length c0_4, .int .i64 a0_5, .slice A0_6 l0_6.length c0_6]) (t := 28) ?hr ?_; (case hd => rfl); (case hg => rfl); (case hr => exact Z93); intro gb477 hg w2 hbox hb; have BK477 := Aside0.mk (hbox); have GW477 := nG HB hg; have GE477 := nG HB hg; have GI477 := gI GE477; replace HB := Aside0.mk (below_step (uN HB) hb); clear hb hbox hg))
 go_loopg [3, 4] k (fun kq v3 v4 w' => ∃ (x3_1 : List Int) (x4_1 : Int), v4 = .int .i64 x4_1 ∧ Aside0 (spec_spList.l0 kq x3_1 x4_1 a0_0 a0_1 a0_2 a0_3 l0_4 a0_5 l0_6 = some r) ∧ Aside0 (kq ≤ k) ∧ Aside0 (Kd.R (Kd.int .i64) 3 w' w.heap.size (fun _ => True) v3 x3_1) ∧ Aside0 (w'.heap[gb477]? = some (.cells #[.int .i64 a0_0, .int .i64 a0_1, .int .i64 a0_2, .int .i64 a0_3, (.slice A0_4 l0_4.length c0_4), .int .i64 a0_5, (.slice A0_6 l0_6.length c0_6)] 28 (0, 0))) ∧ Aside0 (Below w.heap.size w w'))
 case atStart => exact ⟨(([] : List Int)), (0), Z91, H', ⟨Nat.le_refl _⟩, ⟨Z40⟩, ⟨by refine uW ?_; exact BK477.out⟩, ⟨Z25⟩⟩
 case round =>
  clear H'
  try clear p2
  try clear HO_3
  obtain ⟨x3_1, x4_1, rfl, HA, HK1, HO_3, BK477, HB⟩ := hrel
  cases gk with
  | zero => exact absurd HA.out (by simp [spec_spList.l0])
  | succ k1 =>
   have H := HA.out
   clear HA
   simp only [spec_spList.l0] at H
   have HC3 := Aside0.mk H
   clear H
   go_upto_region 3 with (fail)
   go_cut [17] (fun v17 wc => ∃ (kq : Nat) (x17_2 : Bool), v17 = .bool x17_2 ∧ Aside0 (spec_spList.j1 kq x3_1 x4_1 x17_2 a0_0 a0_1 a0_2 a0_3 l0_4 a0_5 l0_6 = some r) ∧ Aside0 (kq ≤ k1) ∧ Aside0 (Kd.R (Kd.int .i64) 3 wc w.heap.size (fun _ => True) u3 x3_1) ∧ Aside0 (wc.heap[gb477]? = some (.cells #[.int .i64 a0_0, .int .i64 a0_1, .int .i64 a0_2, .int .i64 a0_3, (.slice A0_4 l0_4.length c0_4), .int .i64 a0_5, (.slice A0_6 l0_6.length c0_6)] 28 (0, 0))) ∧ Aside0 (Below w.heap.size w wc))
   case first =>
    have H := HC3.out
    clear HC3
    by_cases c4 : x4_1 < a0_5
    ·
     rw [if_pos c4] at H
     have c4b0 : decide (x4_1 < a0_5) = true := decide_eq_true c4
     clear c4
     (first | rw [c4b0] | (simp only [i64_w, i32_w]; rw [c4b0]) | skip)
     have H' := Aside0.mk H
     clear H
     have hcz5_0 : wr.cell? ⟨gb477, 0, none⟩ = some (.int .i64 a0_0) := bc BK477 0
     have hcz5_1 : wr.cell? ⟨gb477, 1, none⟩ = some (.int .i64 a0_1) := bc BK477 1
     have hcz5_2 : wr.cell? ⟨gb477, 2, none⟩ = some (.int .i64 a0_2) := bc BK477 2
     have hcz5_3 : wr.cell? ⟨gb477, 3, none⟩ = some (.int .i64 a0_3) := bc BK477 3
     have hcz5_4 : wr.cell? ⟨gb477, 4, none⟩ = some (.slice A0_4 l0_4.length c0_4) := bc BK477 4
     have hcz5_5 : wr.cell? ⟨gb477, 5, none⟩ = some (.int .i64 a0_5) := bc BK477 5
     have hcz5_6 : wr.cell? ⟨gb477, 6, none⟩ = some (.slice A0_6 l0_6.length c0_6) := bc BK477 6
     have hfz5_0 := blk_frozen BK477.out 0
     have hfz5_1 := blk_frozen BK477.out 1
     have hfz5_2 := blk_frozen BK477.out 2
     have hfz5_3 := blk_frozen BK477.out 3
     have hfz5_4 := blk_frozen BK477.out 4
     have hfz5_5 := blk_frozen BK477.out 5
     have hfz5_6 := blk_frozen BK477.out 6
     obtain ⟨Ao6, co6, eo6⟩ := Kd.R_slice HO_3.out
     subst eo6
     go_wp2
     go_meet
     case rel => exact ⟨_, (decide ((x3_1.length : Int) < a0_0)), Z91, H', ⟨by have := HK1.out; first | omega | exact Nat.le_refl _⟩, ⟨Z64⟩, ⟨by refine uW ?_; exact BK477.out⟩, ⟨Z25⟩⟩
    rw [if_neg c4] at H
    have c4b0 : decide (x4_1 < a0_5) = false := decide_eq_false c4
    clear c4
    (first | rw [c4b0] | (simp only [i64_w, i32_w]; rw [c4b0]) | skip)
    have H' := Aside0.mk H
    clear H
    have hcz7_0 : wr.cell? ⟨gb477, 0, none⟩ = some (.int .i64 a0_0) := bc BK477 0
    have hcz7_1 : wr.cell? ⟨gb477, 1, none⟩ = some (.int .i64 a0_1) := bc BK477 1
    have hcz7_2 : wr.cell? ⟨gb477, 2, none⟩ = some (.int .i64 a0_2) := bc BK477 2
    have hcz7_3 : wr.cell? ⟨gb477, 3, none⟩ = some (.int .i64 a0_3) := bc BK477 3
    have hcz7_4 : wr.cell? ⟨gb477, 4, none⟩ = some (.slice A0_4 l0_4.length c0_4) := bc BK477 4
    have hcz7_5 : wr.cell? ⟨gb477, 5, none⟩ = some (.int .i64 a0_5) := bc BK477 5
    have hcz7_6 : wr.cell? ⟨gb477, 6, none⟩ = some (.slice A0_6 l0_6.length c0_6) := bc BK477 6
    have hfz7_0 := blk_frozen BK477.out 0
    have hfz7_1 := blk_frozen BK477.out 1
    have hfz7_2 := blk_frozen BK477.out 2
    have hfz7_3 := blk_frozen BK477.out 3
    have hfz7_4 := blk_frozen BK477.out 4
    have hfz7_5 := blk_frozen BK477.out 5
    have hfz7_6 := blk_frozen BK477.out 6
    go_wp2
    go_meet
    case rel => exact ⟨_, (false), Z91, H', ⟨by have := HK1.out; first | omega | exact Nat.le_refl _⟩, ⟨Z64⟩, ⟨by refine uW ?_; exact BK477.out⟩, ⟨Z25⟩⟩
   case rest =>
    clear HC3
    try clear p2
    try clear c3
    try clear c4
    try clear c4b0
    try clear hcz5_0
    try clear hcz5_1
    try clear hcz5_2
    try clear hcz5_3
    try clear hcz5_4
    try clear hcz5_5
    try clear hcz5_6
    try clear hcz7_0
    try clear hcz7_1
    try clear hcz7_2
    try clear hcz7_3
    try clear hcz7_4
    try clear hcz7_5
    try clear hcz7_6
    try clear hfz5_0
    try clear hfz5_1
    try clear hfz5_2
    try clear hfz5_3
    try clear hfz5_4
    try clear hfz5_5
    try clear hfz5_6
    try clear hfz7_0
    try clear hfz7_1
    try clear hfz7_2
    try clear hfz7_3
    try clear hfz7_4
    try clear hfz7_5
    try clear hfz7_6
    try clear p2
    obtain ⟨kq, x17_2, rfl, HA, HJ2, HO_3, BK477, HB⟩ := hcut
    cases kq with
    | zero => exact absurd HA.out (by simp [spec_spList.j1])
    | succ kj2 =>
     have H := HA.out
     clear HA
     simp only [spec_spList.j1] at H
     by_cases c8 : x17_2 = true
     ·
      subst c8
      rw [if_pos rfl] at H
      replace H := Option.bind_eq_some_iff.mp H
      obtain ⟨t478, A90, H⟩ := H
      try dsimp only at H
      have A9 := Aside0.mk A90
      clear A90
      by_cases c10 : t478 = true
      ·
       subst c10
       rw [if_pos rfl] at H
       by_cases c11 : 0 ≤ a0_2
       ·
        rw [if_pos c11] at H
        have c11b0 := eq_true c11
        have c11b1 : decide (0 ≤ a0_2) = true := decide_eq_true c11
        clear c11
        obtain ⟨ji12, hji12⟩ : ∃ j_ : Int, (shl .i64 (wrap64 (x4_1 - (x3_1.length : Int))) a0_2) = j_ := ⟨_, rfl⟩
        replace H : ((spec_biField.f kj2 a0_3 l0_4 (wrap64 ((x3_1.length : Int) * a0_2)) a0_2).bind fun t479 => (if x3_1.length < 17592186044416 then (spec_spList.l0 kj2 (x3_1 ++ [wrap64 ((ji12) + t479)]) (wrap64 (x4_1 + 1)) a0_0 a0_1 a0_2 a0_3 l0_4 a0_5 l0_6) else (none))) = some r := by first | (rw [hji12] at H; exact H) | (simp only [hji12] at H ⊢; exact H)
        (try rw [hji12] at A9)
        have hji12_ : (IntKind.i64.wrap ((wrap64 (x4_1 - (x3_1.length : Int))) * 2 ^ min a0_2.toNat 64)) = ji12 := hji12
        have hji12z : a0_2 ≤ 64 → (IntKind.i64.wrap ((wrap64 (x4_1 - (x3_1.length : Int))) * 2 ^ a0_2.toNat)) = ji12 := shl_small hji12
        have hji12y : (wrap64 ((wrap64 (x4_1 - (x3_1.length : Int))) * 2 ^ min a0_2.toNat 64)) = ji12 := (i64_w _).symm.trans hji12_
        have hji12x : a0_2 ≤ 64 → (wrap64 ((wrap64 (x4_1 - (x3_1.length : Int))) * 2 ^ a0_2.toNat)) = ji12 := fun h_ => (i64_w _).symm.trans (hji12z h_)
        replace H := Option.bind_eq_some_iff.mp H
        obtain ⟨t479, A130, H⟩ := H
        try dsimp only at H
        have A13 := Aside0.mk A130
        clear A130
        by_cases c14 : x3_1.length < 17592186044416
        ·
         rw [if_pos c14] at H
         have LMc14 := Aside0.mk c14
         clear c14
         obtain ⟨y480, hy480⟩ : ∃ y_ : List Int, y_ = (x3_1 ++ [wrap64 ((ji12) + t479)]) := ⟨_, rfl⟩
         replace H : (spec_spList.l0 kj2 y480 (wrap64 (x4_1 + 1)) a0_0 a0_1 a0_2 a0_3 l0_4 a0_5 l0_6) = some r := by first | (rw [hy480]; with_reducible exact H) | (have H2_ := (Option.bind_some _ _).symm.trans H; rw [hy480]; with_reducible exact H2_) | (have H2_ := (Option.bind_some _ _).symm.trans H; with_reducible exact H2_) | with_reducible exact H | (rw [hy480]; exact H) | exact H
         have Ny480 := Aside0.mk hy480
         clear hy480
         have H' := Aside0.mk H
         clear H
         have hcz15_0 : wc.cell? ⟨gb477, 0, none⟩ = some (.int .i64 a0_0) := bc BK477 0
         have hcz15_1 : wc.cell? ⟨gb477, 1, none⟩ = some (.int .i64 a0_1) := bc BK477 1
         have hcz15_2 : wc.cell? ⟨gb477, 2, none⟩ = some (.int .i64 a0_2) := bc BK477 2
         have hcz15_3 : wc.cell? ⟨gb477, 3, none⟩ = some (.int .i64 a0_3) := bc BK477 3
         have hcz15_4 : wc.cell? ⟨gb477, 4, none⟩ = some (.slice A0_4 l0_4.length c0_4) := bc BK477 4
         have hcz15_5 : wc.cell? ⟨gb477, 5, none⟩ = some (.int .i64 a0_5) := bc BK477 5
         have hcz15_6 : wc.cell? ⟨gb477, 6, none⟩ = some (.slice A0_6 l0_6.length c0_6) := bc BK477 6
         have hfz15_0 := blk_frozen BK477.out 0
         have hfz15_1 := blk_frozen BK477.out 1
         have hfz15_2 := blk_frozen BK477.out 2
         have hfz15_3 := blk_frozen BK477.out 3
         have hfz15_4 := blk_frozen BK477.out 4
         have hfz15_5 := blk_frozen BK477.out 5
         have hfz15_6 := blk_frozen BK477.out 6
         try go_wp2_with (first | ((with_reducible refine gate_callee (f := 65) rfl ?_); refine goesL_ (some 23) rfl rfl Try.func65 Z92 rfl #[.agg #[.int .i64 a0_5, .slice A0_6 l0_6.length c0_6], .int .i64 x4_1] rfl Z89 ?_; (with_reducible refine (spec_biAt.calls a0_5 _ _ l0_6 x4_1 true _ ?side1 ?side2 A9.out).mono ?_); (case side1 => exact uC HR0_6 HB); (case side2 => exact HC0_6.out); rintro e w16 ⟨rfl, hb⟩; refine ⟨_, rfl, ?_⟩; replace HO_3 := Aside0.mk (Kd.R_below (uR HO_3) hb); replace BK477 := kB BK477 hb; replace HB := Aside0.mk (below_step Z25 hb); (try clear hb); (try clear hb2); (try clear hk); (try clear hi); obtain ⟨Ao17, co17, eo17⟩ := Kd.R_slice HO_3.out; subst eo17))
         replace HO_3 := Aside0.mk (Kd.R_drew HO_3.out)
         replace BK477 := Aside0.mk (blk_drew BK477.out)
         replace HB := Aside0.mk (below_drew1 HB.out)
         refine start_ (n := 20) (S := fun w' => w'.cell? ⟨gb477, 0, none⟩ = some (.int .i64 a0_0) ∧ w'.cell? ⟨gb477, 1, none⟩ = some (.int .i64 a0_1) ∧ w'.cell? ⟨gb477, 2, none⟩ = some (.int .i64 a0_2) ∧ w'.cell? ⟨gb477, 3, none⟩ = some (.int .i64 a0_3) ∧ w'.cell? ⟨gb477, 4, none⟩ = some (.slice A0_4 l0_4.length c0_4) ∧ w'.cell? ⟨gb477, 5, none⟩ = some (.int .i64 a0_5) ∧ w'.cell? ⟨gb477, 6, none⟩ = some (.slice A0_6 l0_6.length c0_6)) (ds := []) (bA 20 0) Z92 rfl rfl ⟨bc BK477 0, bc BK477 1, bc BK477 2, bc BK477 3, bc BK477 4, bc BK477 5, bc BK477 6⟩ (fun hHeld => ?_); refine with_tabW spec_spList.tab7 spec_spList.bits7 (fun HT_ HW_ => ?_)
         generalize w16.drew = w18 at HO_3 BK477 HB hHeld ⊢
         refine pS 0 26 (bA 20 1) ?_
         refine pS 1 27 (bA 20 3) ?_
         refine pS 2 28 (bA 20 7) ?_
         refine pS 3 29 (bA 20 15) ?_
         refine pS 4 30 (bA 20 31) ?_
         refine pS 7 33 (bA 20 159) ?_
         refine pS 9 35 (bA 20 671) ?_
         refine pS 10 36 (bA 20 1695) ?_
         refine pS 13 39 (bA 20 9887) ?_
         refine tS7 5 31 (bA 20 9919) hHeld ?_
         refine pS 6 32 (bA 20 9983) ?_
         refine tS7 8 34 (bA 20 10239) hHeld ?_
         refine tS7 11 37 (bA 20 12287) hHeld ?_
         refine pS 12 38 (bA 20 16383) ?_
         refine tS7 14 40 (bA 20 32767) hHeld ?_
         refine one_ (i := 15) (N := some 41) (bA 20 65535) rfl rfl (one_of HT_.out Z92) Z19 (fun K hK => ?_)
         refine goes_ Try.func66 Z92 rfl #[.agg #[.int .i64 a0_3, .slice A0_4 l0_4.length c0_4], .int .i64 (wrap64 ((x3_1.length : Int) * a0_2)), .int .i64 a0_2] Z63 rfl rfl Z89 ?_
         with_reducible refine (spec_biField.calls kj2 a0_3 _ _ l0_4 (wrap64 ((x3_1.length : Int) * a0_2)) a0_2 t479 _ ?side1 ?side2 A13.out).mono ?_
         (case side1 => exact uC HR0_4 HB)
         (case side2 => exact HC0_4.out)
         rintro e w19 ⟨rfl, hb⟩
         refine ⟨_, rfl, ?_⟩
         replace HO_3 := Aside0.mk (Kd.R_below (uR HO_3) hb)
         replace BK477 := kB BK477 hb
         replace HB := Aside0.mk (below_step Z25 hb)
         (try clear hb)
         (try clear hb2)
         (try clear hk)
         (try clear hi)
         refine hK.out _ _ ⟨bc BK477 0, bc BK477 1, bc BK477 2, bc BK477 3, bc BK477 4, bc BK477 5, bc BK477 6⟩ (fun hHeld => ?_)
         clear hK K
         refine norm_ (a' := ?_) ?_ ?_
         rotate_left
         ·
          show Act.put _ (some 41) _ = _
          simp only [Act.put, setIfInBounds_toArray, set_cons_zero, set_cons_succ, i64_w, i32_w]
          rfl
         refine pS 16 42 (bA 20 131071) ?_
         refine one_ (i := 17) (N := some 43) (bA 20 262143) rfl rfl (one_of HT_.out Z92) Z19 (fun K hK => ?_)
         refine value_ (w1 := ?_) (v := ?_) Z63 rfl ?_ ?_
         rotate_left 2
         ·
          go_simp
          constructor
          ·
           rfl
          rfl
         refine hK.out _ _ ⟨(blk_cell (blk_alloc BK477.out _) 0).trans rfl, (blk_cell (blk_alloc BK477.out _) 1).trans rfl, (blk_cell (blk_alloc BK477.out _) 2).trans rfl, (blk_cell (blk_alloc BK477.out _) 3).trans rfl, (blk_cell (blk_alloc BK477.out _) 4).trans rfl, (blk_cell (blk_alloc BK477.out _) 5).trans rfl, (blk_cell (blk_alloc BK477.out _) 6).trans rfl⟩ (fun hHeld => ?_)
         clear hK K
         refine norm_ (a' := ?_) ?_ ?_
         rotate_left
         ·
          show Act.put _ (some 43) _ = _
          simp only [Act.put, setIfInBounds_toArray, set_cons_zero, set_cons_succ, i64_w, i32_w]
          rfl
         refine one_ (i := 18) (N := some 44) (bA 20 524287) rfl rfl (one_of HT_.out Z92) Z19 (fun K hK => ?_)
         refine Kd.R_append_step (Kd.int .i64) (w0 := w) w.heap.size Z63 (.tmp 26) (.tmp 43) 24 3 (.int .i64 0) 8 rfl Try.underlying24 info3 rfl Z19 Z69 (.slice Ao17 x3_1.length co17) x3_1 (wrap64 ((ji12) + t479)) [.int .i64 (wrap64 ((ji12) + t479))] (fun _ => True) (fun _ => False) rfl rfl ?aP (fun _ hk => hk.elim) ?aF ?aO ?aB ?aS ?aL ?_
         (case aP => exact rfl)
         (case aB => exact Z25)
         (case aF => exact (fun _ _ => trivial))
         (case aO => exact (uR HO_3))
         (case aS => exact (below_size Z25))
         (case aL => have := LMc14.out; omega)
         intro v481 w20 ho hb hg hat
         rw [← Ny480.out] at ho
         replace BK477 := Aside0.mk (blk_grown (g := gb477) (o := .cells #[.int .i64 a0_0, .int .i64 a0_1, .int .i64 a0_2, .int .i64 a0_3, .slice A0_4 l0_4.length c0_4, .int .i64 a0_5, .slice A0_6 l0_6.length c0_6] 28 (0, 0)) (uK BK477) hg (Kd.R_ne HO_3.out BK477.out Z19))
         replace HB := Aside0.mk (hb)
         have HO482 := Aside0.mk (ho)
         clear HO_3
         clear ho hb hg hat
         refine hK.out _ _ ⟨bc BK477 0, bc BK477 1, bc BK477 2, bc BK477 3, bc BK477 4, bc BK477 5, bc BK477 6⟩ (fun hHeld => ?_)
         clear hK K
         refine norm_ (a' := ?_) ?_ ?_
         rotate_left
         ·
          show Act.put _ (some 44) _ = _
          simp only [Act.put, setIfInBounds_toArray, set_cons_zero, set_cons_succ, i64_w, i32_w]
          rfl
         refine pS 19 3 (bA 20 1048575) ?_
         refine done_ (done_of HT_.out Z92) ?_
         try go_wp2
         go_roundg kj2
         case measure => have := HK1.out; have := HJ2.out; omega
         case rel => exact ⟨(y480), (wrap64 (x4_1 + 1)), Z91, H', ⟨by have := HK1.out; have := HJ2.out; omega⟩, ⟨by (with_reducible repeat (first | apply Kd.R_alloc | apply Kd.R_drewN | apply Kd.R_drew)); exact HO482.out⟩, ⟨by refine uW ?_; exact BK477.out⟩, ⟨Z25⟩⟩
        rw [if_neg c14] at H
        exact absurd H Z37
       rw [if_neg c11] at H
       exact absurd H Z37
      replace c10 := Bool.eq_false_iff.mpr c10
      subst c10
      rw [if_neg (show ¬ (false = true) from Z19)] at H
      have H' := Aside0.mk H
      clear H
      have hcz21_0 : wc.cell? ⟨gb477, 0, none⟩ = some (.int .i64 a0_0) := bc BK477 0
      have hcz21_1 : wc.cell? ⟨gb477, 1, none⟩ = some (.int .i64 a0_1) := bc BK477 1
      have hcz21_2 : wc.cell? ⟨gb477, 2, none⟩ = some (.int .i64 a0_2) := bc BK477 2
      have hcz21_3 : wc.cell? ⟨gb477, 3, none⟩ = some (.int .i64 a0_3) := bc BK477 3
      have hcz21_4 : wc.cell? ⟨gb477, 4, none⟩ = some (.slice A0_4 l0_4.length c0_4) := bc BK477 4
      have hcz21_5 : wc.cell? ⟨gb477, 5, none⟩ = some (.int .i64 a0_5) := bc BK477 5
      have hcz21_6 : wc.cell? ⟨gb477, 6, none⟩ = some (.slice A0_6 l0_6.length c0_6) := bc BK477 6
      have hfz21_0 := blk_frozen BK477.out 0
      have hfz21_1 := blk_frozen BK477.out 1
      have hfz21_2 := blk_frozen BK477.out 2
      have hfz21_3 := blk_frozen BK477.out 3
      have hfz21_4 := blk_frozen BK477.out 4
      have hfz21_5 := blk_frozen BK477.out 5
      have hfz21_6 := blk_frozen BK477.out 6
      go_wp2_with (first | ((with_reducible refine gate_callee (f := 65) rfl ?_); refine goesL_ (some 23) rfl rfl Try.func65 Z92 rfl #[.agg #[.int .i64 a0_5, .slice A0_6 l0_6.length c0_6], .int .i64 x4_1] rfl Z89 ?_; (with_reducible refine (spec_biAt.calls a0_5 _ _ l0_6 x4_1 false _ ?side1 ?side2 A9.out).mono ?_); (case side1 => exact uC HR0_6 HB); (case side2 => exact HC0_6.out); rintro e w22 ⟨rfl, hb⟩; refine ⟨_, rfl, ?_⟩; replace HO_3 := Aside0.mk (Kd.R_below (uR HO_3) hb); replace BK477 := kB BK477 hb; replace HB := Aside0.mk (below_step Z25 hb); (try clear hb); (try clear hb2); (try clear hk); (try clear hi)))
      go_roundg kj2
      case measure => have := HK1.out; have := HJ2.out; omega
      case rel => exact ⟨(x3_1), (wrap64 (x4_1 + 1)), Z91, H', ⟨by have := HK1.out; have := HJ2.out; omega⟩, ⟨Z64⟩, ⟨by refine uW ?_; exact BK477.out⟩, ⟨Z25⟩⟩
     replace c8 := Bool.eq_false_iff.mpr c8
     subst c8
     rw [if_neg (show ¬ (false = true) from Z19)] at H
     obtain rfl := Option.some.inj H
     go_wp2
     go_ret
     exact ⟨_, Z90, Z64, Z25⟩

end Go.Proofs.Ytllaofiopnhdgaa.PFnSparseCounts
