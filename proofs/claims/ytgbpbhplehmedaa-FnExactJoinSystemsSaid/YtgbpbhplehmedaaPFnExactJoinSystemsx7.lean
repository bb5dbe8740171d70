-- made by wip/tools/myprint.py over the kit's print, for this claim
import Derived.Test.YtgbpbhplehmedaaPFnExactJoinSystemsx0
import Derived.Test.YtgbpbhplehmedaaPFnExactJoinSystemsx5
import Derived.Test.YtgbpbhplehmedaaPFnExactJoinSystemsx6
namespace Go.Proofs.Ytgbpbhplehmedaa.PFnExactJoinSystems
open Go.RowKit Go.Proofs.YtgbpbhplehmedaaW.PrintWords Go.Proofs.YtgbpbhplehmedaaW.PrintLast Go.Proofs.YtgbpbhplehmedaaW.PrintMore
open List (setIfInBounds_toArray set_cons_zero set_cons_succ)
attribute [local go_sem] max2_int min2_int max_two min_two max_three min_three max_four min_four   -- for this text's walks alone
set_option linter.unusedVariables false
set_option linter.unusedSimpArgs false

/-! ### Fb: function 8 -/
mutual
def Fb.j0 : Nat → Bool → Int → List (S53) → List Bool → Int → List (S53) → List Bool → Option (Int × (List (S53)) × List Bool × Bool)
 | 0, _, _, _, _, _, _, _ => none
 | k + 1, x33, x1, x2, x3, x4, x5, x6 => if x33 = true then (some (0, ([] : List (S53)), ([] : List Bool), false)) else ((FJ.f (([x3, x6] : List (List Bool)))).bind fun t7 => ((FM.f (([x2, x5] : List (List (S53))))).bind fun t8 => (Fb.l0 k t8 (t8.length : Int) 0 x1 ([] : List (S53)) t7)))
def Fb.l0 : Nat → List (S53) → Int → Int → Int → List (S53) → List Bool → Option (Int × (List (S53)) × List Bool × Bool)
 | 0, _, _, _, _, _, _ => none
 | k + 1, x49, x50, x51, x2, x3, x4 => if x51 < x50 then (if 0 ≤ x51 then (if x51 < (x49.length : Int) then ((FS.f ((rd_T53 x49 x51).f0) ((rd_T53 x49 x51).f1)).bind fun bt5 => (if x3.length < 4398046511104 then (Fb.l0 k x49 x50 (wrap64 (x51 + 1)) x2 (x3 ++ [(⟨bt5.1, bt5.2⟩ : S53)]) x4) else (none))) else (none)) else (none)) else (some (x2, x3, x4, true))
end
def Fb.f (k : Nat) (a0_0 : Int) (l0_1 : List (S53)) (l0_2 : List Bool) (a1_0 : Int) (l1_1 : List (S53)) (l1_2 : List Bool) : Option (Int × (List (S53)) × List Bool × Bool) := (FC.f k a0_0 l0_1 l0_2).bind fun t3 => (if t3 = true then ((FC.f k a1_0 l1_1 l1_2).bind fun t4 => (if t4 = true then (if a0_0 = a1_0 then (Fb.j0 k (decide ((wrap64 ((l0_1.length : Int) + (l1_1.length : Int))) > 40)) a0_0 l0_1 l0_2 a1_0 l1_1 l1_2) else (Fb.j0 k true a0_0 l0_1 l0_2 a1_0 l1_1 l1_2)) else (Fb.j0 k true a0_0 l0_1 l0_2 a1_0 l1_1 l1_2))) else (Fb.j0 k true a0_0 l0_1 l0_2 a1_0 l1_1 l1_2))
theorem Fb.mono_l : ∀ k, (∀ y0 y1 y2 y3 y4 y5 y6, LeO (Fb.j0 k y0 y1 y2 y3 y4 y5 y6) (Fb.j0 (k + 1) y0 y1 y2 y3 y4 y5 y6)) ∧ (∀ y0 y1 y2 y3 y4 y5, LeO (Fb.l0 k y0 y1 y2 y3 y4 y5) (Fb.l0 (k + 1) y0 y1 y2 y3 y4 y5))
 | 0 => ⟨fun _ _ _ _ _ _ _ r h => by simp [Fb.j0] at h, fun _ _ _ _ _ _ r h => by simp [Fb.l0] at h⟩ | k + 1 => by
  obtain ⟨ih0, ih1⟩ := Fb.mono_l k
  refine ⟨?_, ?_⟩
  ·
   intro y0 y1 y2 y3 y4 y5 y6
   unfold Fb.j0
   exact Mo7
  intro y0 y1 y2 y3 y4 y5
  unfold Fb.l0
  exact Mo7
theorem Fb.mono : ∀ a0 a1 a2 a3 a4 a5 k, LeO (Fb.f k a0 a1 a2 a3 a4 a5) (Fb.f (k + 1) a0 a1 a2 a3 a4 a5) := by
 intro a0 a1 a2 a3 a4 a5 k
 obtain ⟨ih0, ih1⟩ := Fb.mono_l k
 unfold Fb.f
 exact Mo7
def Fb.T3 : Bool × List (List Nat × List Nat) := (true, [([], []), ([0], [0]), ([], []), ([2], [2]), ([], []), ([4], [4]), ([3, 5], [3, 5]), ([6], [6]), ([1, 7], [1, 7]), ([], []), ([9, 8, 7, 0, 1, 2, 3, 4, 5, 6, 7, 8, 9], [8, 9])])
def Fb.B3 : List Nat := [0, 1, 0, 4, 0, 16, 60, 124, 255, 0, 1023]
theorem Fb.tab3 : rtab .any (opsOf Try.f8 3) = Fb.T3 := by kernel_rfl
theorem Fb.bits3 : waitsOk Fb.T3.2 Fb.B3 = true := by kernel_rfl
def Fb.T7 : Bool × List (List Nat × List Nat) := (true, [([], []), ([0], [0]), ([], []), ([2], [2]), ([3], [3]), ([1, 4, 3], [1, 4]), ([0, 1, 2, 3, 4, 5], []), ([6, 5, 5, 0, 1, 2, 3, 4, 5], [5, 6])])
def Fb.B7 : List Nat := [0, 1, 0, 4, 12, 31, 63, 127]
theorem Fb.tab7 : rtab .any (opsOf Try.f8 7) = Fb.T7 := by kernel_rfl
theorem Fb.bits7 : waitsOk Fb.T7.2 Fb.B7 = true := by kernel_rfl
set_option maxHeartbeats 8000000 in
set_option maxRecDepth 100000 in
theorem Fb.calls (k : Nat) (a0_0 : Int) (P0_1_ : Nat → Prop) (A0_1 : Option Addr) (c0_1 : Nat) (l0_1 : List (S53)) (P0_2_ : Nat → Prop) (A0_2 : Option Addr) (c0_2 : Nat) (l0_2 : List Bool) (a1_0 : Int) (P1_1_ : Nat → Prop) (A1_1 : Option Addr) (c1_1 : Nat) (l1_1 : List (S53)) (P1_2_ : Nat → Prop) (A1_2 : Option Addr) (c1_2 : Nat) (l1_2 : List Bool) (r1 : Int) (r2 : List (S53)) (r3 : List Bool) (r4 : Bool) (w : World) (hs0_1 : Kd.V k53 53 w w.heap.size (fun k_ => P0_1_ k_) (.slice A0_1 l0_1.length c0_1) l0_1) (hs0_2 : Kd.V Kd.bool 4 w w.heap.size (fun k_ => P0_2_ k_) (.slice A0_2 l0_2.length c0_2) l0_2) (hs1_1 : Kd.V k53 53 w w.heap.size (fun k_ => P1_1_ k_) (.slice A1_1 l1_1.length c1_1) l1_1) (hs1_2 : Kd.V Kd.bool 4 w w.heap.size (fun k_ => P1_2_ k_) (.slice A1_2 l1_2.length c1_2) l1_2) (h : Fb.f k a0_0 l0_1 l0_2 a1_0 l1_1 l1_2 = some (r1, r2, r3, r4)) :
  Calls Try.prog 8 #[.agg #[.int .i64 a0_0, .slice A0_1 l0_1.length c0_1, .slice A0_2 l0_2.length c0_2], .agg #[.int .i64 a1_0, .slice A1_1 l1_1.length c1_1, .slice A1_2 l1_2.length c1_2]] w fun e w' => ∃ v1_ v2_ : Value, e = .returned (.tuple #[.agg #[.int .i64 r1, v1_, v2_], .bool r4]) ∧ Kd.S k53 53 w' w.heap.size (fun k_ => (w.heap.size ≤ k_)) v1_ r2 ∧ Kd.R Kd.bool 4 w' w.heap.size (fun k_ => (w.heap.size ≤ k_)) v2_ r3 ∧ Below w.heap.size w w' := by
 have hu29 := Try.underlying29
 have hu53 := Try.underlying53
 have HO0_1 := am (show Kd.V k53 53 w w.heap.size (fun k_ => ((P0_1_ k_ ∨ P0_2_ k_ ∨ P1_1_ k_ ∨ P1_2_ k_) ∨ w.heap.size ≤ k_)) (.slice A0_1 l0_1.length c0_1) l0_1 from Kd.V_mono hs0_1 (fun k_ hk => .inl (.inl hk)))
 have HO0_2 := am (show Kd.V Kd.bool 4 w w.heap.size (fun k_ => ((P0_1_ k_ ∨ P0_2_ k_ ∨ P1_1_ k_ ∨ P1_2_ k_) ∨ w.heap.size ≤ k_)) (.slice A0_2 l0_2.length c0_2) l0_2 from Kd.V_mono hs0_2 (fun k_ hk => .inl (.inr (.inl hk))))
 have HO1_1 := am (show Kd.V k53 53 w w.heap.size (fun k_ => ((P0_1_ k_ ∨ P0_2_ k_ ∨ P1_1_ k_ ∨ P1_2_ k_) ∨ w.heap.size ≤ k_)) (.slice A1_1 l1_1.length c1_1) l1_1 from Kd.V_mono hs1_1 (fun k_ hk => .inl (.inr (.inr (.inl hk)))))
 have HO1_2 := am (show Kd.V Kd.bool 4 w w.heap.size (fun k_ => ((P0_1_ k_ ∨ P0_2_ k_ ∨ P1_1_ k_ ∨ P1_2_ k_) ∨ w.heap.size ≤ k_)) (.slice A1_2 l1_2.length c1_2) l1_2 from Kd.V_mono hs1_2 (fun k_ hk => .inl (.inr (.inr (.inr hk)))))
 have HB := am (Below.refl w.heap.size w)
 have H : ((FC.f k a0_0 l0_1 l0_2).bind fun t98 => (if t98 = true then ((FC.f k a1_0 l1_1 l1_2).bind fun t99 => (if t99 = true then (if a0_0 = a1_0 then (Fb.j0 k (decide ((wrap64 ((l0_1.length : Int) + (l1_1.length : Int))) > 40)) a0_0 l0_1 l0_2 a1_0 l1_1 l1_2) else (Fb.j0 k true a0_0 l0_1 l0_2 a1_0 l1_1 l1_2)) else (Fb.j0 k true a0_0 l0_1 l0_2 a1_0 l1_1 l1_2))) else (Fb.j0 k true a0_0 l0_1 l0_2 a1_0 l1_1 l1_2))) = some (r1, r2, r3, r4) := h
 clear h
 have HC3 := am H
 clear H
 go_enter Try.func8, Try.ntmps8
 go_upto_region 1 with (first | ((with_reducible refine gate_dst (N := 2) rfl ?_); (try (refine gate_guard Z62 ?_; dsimp only)); refine box_event ?hg (N := 2) ?hd (cs := #[.int .i64 a0_0, .slice A0_1 l0_1.length c0_1, .slice A0_2 l0_2.length c0_2]) (t := 29) ?hr ?_; (case hd => rfl); (case hg => rfl); (case hr => exact Z88); intro gb100 hg w4 hbox hb; replace HO0_1 := am (Kd.V_below (Kd.V_elderB Z11 gb100 (Nat.le_of_eq hg.symm)) hb); replace HO0_2 := am (Kd.V_below (Kd.V_elderB Z35 gb100 (Nat.le_of_eq hg.symm)) hb); replace HO1_1 := am (Kd.V_below (Kd.V_elderB Z10 gb100 (Nat.le_of_eq hg.symm)) hb); replace HO1_2 := am (Kd.V_below (Kd.V_elderB Z34 gb100 (Nat.le_of_eq hg.symm)) hb); have BK100 := am (hbox); have GW100 := nG HB hg; have GE100 := nG HB hg; have GI100 := gI GE100; replace HB := am (below_step (uN HB) hb); clear hb hbox hg) | ((with_reducible refine gate_dst (N := 3) rfl ?_); (try (refine gate_guard Z62 ?_; dsimp only)); refine box_event ?hg (N := 3) ?hd (cs := #[.int .i64 a1_0, .slice A1_1 l1_1.length c1_1, .slice A1_2 l1_2.length c1_2]) (t := 29) ?hr ?_; (case hd => rfl); (case hg => rfl); (case hr => exact Z88); intro gb101 hg w5 hbox hb; replace HO0_1 := am (Kd.V_below (Kd.V_elderB Z11 gb101 (Nat.le_of_eq hg.symm)) hb); replace HO0_2 := am (Kd.V_below (Kd.V_elderB Z35 gb101 (Nat.le_of_eq hg.symm)) hb); replace HO1_1 := am (Kd.V_below (Kd.V_elderB Z10 gb101 (Nat.le_of_eq hg.symm)) hb); replace HO1_2 := am (Kd.V_below (Kd.V_elderB Z34 gb101 (Nat.le_of_eq hg.symm)) hb); have BK101 := am (hbox); have GW101 := am ((by rw [hg]; exact (below_size Z57) : w.heap.size ≤ gb101)); have GE101 := am ((by rw [hg]; exact (below_size Z57) : w.heap.size ≤ gb101)); replace HB := am (below_step Z57 hb); have NB100_101 := nL BK100 hg; have NB101_100 := nR BK100 hg; replace BK100 := kB BK100 hb; clear hb hbox hg) | ((with_reducible refine gate_dst (N := 4) rfl ?_); (try (refine gate_guard Z62 ?_; dsimp only)); refine box_event ?hg (N := 4) ?hd (cs := #[.int .i64 0, .slice none 0 0, .slice none 0 0]) (t := 29) ?hr ?_; (case hd => rfl); (case hg => rfl); (case hr => exact Z88); intro gb102 hg w6 hbox hb; replace HO0_1 := am (Kd.V_below (Kd.V_elderB Z11 gb102 (Nat.le_of_eq hg.symm)) hb); replace HO0_2 := am (Kd.V_below (Kd.V_elderB Z35 gb102 (Nat.le_of_eq hg.symm)) hb); replace HO1_1 := am (Kd.V_below (Kd.V_elderB Z10 gb102 (Nat.le_of_eq hg.symm)) hb); replace HO1_2 := am (Kd.V_below (Kd.V_elderB Z34 gb102 (Nat.le_of_eq hg.symm)) hb); have BK102 := am (hbox); have GW102 := am ((by rw [hg]; exact (below_size Z48) : w.heap.size ≤ gb102)); have GE102 := am ((by rw [hg]; exact (below_size Z48) : w.heap.size ≤ gb102)); replace HB := am (below_step Z48 hb); have NB100_102 := nL BK100 hg; have NB102_100 := nR BK100 hg; replace BK100 := kB BK100 hb; have NB101_102 := nL BK101 hg; have NB102_101 := nR BK101 hg; replace BK101 := kB BK101 hb; clear hb hbox hg))
 (try simp only [Act.put, setIfInBounds_toArray, set_cons_zero, set_cons_succ])
 go_cut [33] (fun v33 wc => ∃ (kq : Nat) (x33_2 : Bool), v33 = .bool x33_2 ∧ Aside0 (Fb.j0 kq x33_2 a0_0 l0_1 l0_2 a1_0 l1_1 l1_2 = some (r1, r2, r3, r4)) ∧ Aside0 (kq ≤ k) ∧ Aside0 (Kd.V k53 53 wc w.heap.size (fun k_ => ((P0_1_ k_ ∨ P0_2_ k_ ∨ P1_1_ k_ ∨ P1_2_ k_) ∨ w.heap.size ≤ k_) ∧ k_ ≠ gb100 ∧ k_ ≠ gb101 ∧ k_ ≠ gb102) (.slice A0_1 l0_1.length c0_1) l0_1) ∧ Aside0 (Kd.V Kd.bool 4 wc w.heap.size (fun k_ => ((P0_1_ k_ ∨ P0_2_ k_ ∨ P1_1_ k_ ∨ P1_2_ k_) ∨ w.heap.size ≤ k_) ∧ k_ ≠ gb100 ∧ k_ ≠ gb101 ∧ k_ ≠ gb102) (.slice A0_2 l0_2.length c0_2) l0_2) ∧ Aside0 (Kd.V k53 53 wc w.heap.size (fun k_ => ((P0_1_ k_ ∨ P0_2_ k_ ∨ P1_1_ k_ ∨ P1_2_ k_) ∨ w.heap.size ≤ k_) ∧ k_ ≠ gb100 ∧ k_ ≠ gb101 ∧ k_ ≠ gb102) (.slice A1_1 l1_1.length c1_1) l1_1) ∧ Aside0 (Kd.V Kd.bool 4 wc w.heap.size (fun k_ => ((P0_1_ k_ ∨ P0_2_ k_ ∨ P1_1_ k_ ∨ P1_2_ k_) ∨ w.heap.size ≤ k_) ∧ k_ ≠ gb100 ∧ k_ ≠ gb101 ∧ k_ ≠ gb102) (.slice A1_2 l1_2.length c1_2) l1_2) ∧ Aside0 (wc.heap[gb100]? = some (.cells #[.int .i64 a0_0, (.slice A0_1 l0_1.length c0_1), (.slice A0_2 l0_2.length c0_2)] 29 (0, 0))) ∧ Aside0 (wc.heap[gb101]? = some (.cells #[.int .i64 a1_0, (.slice A1_1 l1_1.length c1_1), (.slice A1_2 l1_2.length c1_2)] 29 (0, 0))) ∧ Aside0 (wc.heap[gb102]? = some (.cells #[.int .i64 0, (.slice none 0 0), (.slice none 0 0)] 29 (0, 0))) ∧ Aside0 (Below w.heap.size w wc))
 case first =>
  have H := HC3.out
  clear HC3
  replace H := Option.bind_eq_some_iff.mp H
  obtain ⟨t98, A70, H⟩ := H
  try dsimp only at H
  have A7 := am A70
  clear A70
  by_cases c8 : t98 = true
  ·
   subst c8
   rw [if_pos rfl] at H
   replace H := Option.bind_eq_some_iff.mp H
   obtain ⟨t99, A90, H⟩ := H
   try dsimp only at H
   have A9 := am A90
   clear A90
   by_cases c10 : t99 = true
   ·
    subst c10
    rw [if_pos rfl] at H
    by_cases c11 : a0_0 = a1_0
    ·
     rw [if_pos c11] at H
     have c11b0 : (a0_0 == a1_0) = true := beq_iff_eq.mpr c11
     have c11b1 : (a0_0 != a1_0) = false := bne_eq_false_iff_eq.mpr c11
     clear c11
     (first | rw [c11b0] | (simp only [i64_w, i32_w]; rw [c11b0]) | skip)
     have H' := am H
     clear H
     have hnb12 := NB100_101.out
     have hnc12 := NB101_100.out
     have hnb13 := NB100_102.out
     have hnc13 := NB102_100.out
     obtain ⟨hcz14_0, hcz14_1, hcz14_2, hfz14_0, hfz14_1, hfz14_2⟩ := ce3 BK100
     go_wp2_with (first | ((with_reducible refine gate_callee (f := 26) rfl ?_); refine gL 10 rfl Try.func26 #[.agg #[.int .i64 a0_0, .slice A0_1 l0_1.length c0_1, .slice A0_2 l0_2.length c0_2]] ?_; (with_reducible refine (FC.calls k a0_0 _ _ l0_1 _ _ l0_2 true _ ?side1 ?side2 ?side3 ?side4 A7.out).mono ?_); (case side1 => exact Z22); (case side2 => exact (Kd.V_reads' HO0_1.out).2.1); (case side3 => exact Z42); (case side4 => exact (Kd.V_reads' HO0_2.out).2.1); rintro e w15 ⟨rfl, hb⟩; refine ⟨_, rfl, ?_⟩; replace HO0_1 := am (Kd.V_below Z11 hb); replace HO0_2 := am (Kd.V_below Z35 hb); replace HO1_1 := am (Kd.V_below Z10 hb); replace HO1_2 := am (Kd.V_below Z34 hb); replace BK100 := kB BK100 hb; replace BK101 := kB BK101 hb; replace BK102 := kB BK102 hb; replace HB := am (below_step Z4 hb); (try clear hb); (try clear hb2); (try clear hk); (try clear hi); have hnb16 := NB101_102.out; have hnc16 := NB102_101.out; obtain ⟨hcz17_0, hcz17_1, hcz17_2, hfz17_0, hfz17_1, hfz17_2⟩ := ce3 BK101) | (go_at_call 26; (with_reducible refine (FC.calls k a1_0 _ _ l1_1 _ _ l1_2 true _ ?side1 ?side2 ?side3 ?side4 A9.out).mono ?_); (case side1 => exact Z36); (case side2 => exact (Kd.V_reads' HO1_1.out).2.1); (case side3 => exact Z54); (case side4 => exact (Kd.V_reads' HO1_2.out).2.1); rintro e w18 ⟨rfl, hb⟩; replace HO0_1 := am (Kd.V_below Z11 hb); replace HO0_2 := am (Kd.V_below Z35 hb); replace HO1_1 := am (Kd.V_below Z10 hb); replace HO1_2 := am (Kd.V_below Z34 hb); replace BK100 := kB BK100 hb; replace BK101 := kB BK101 hb; replace BK102 := kB BK102 hb; replace HB := am (below_step Z4 hb); (try clear hb); (try clear hb2); (try clear hk); (try clear hi); obtain ⟨hcz19_0, hcz19_1, hcz19_2, hfz19_0, hfz19_1, hfz19_2⟩ := ce3 BK100; obtain ⟨hcz20_0, hcz20_1, hcz20_2, hfz20_0, hfz20_1, hfz20_2⟩ := ce3 BK101))
     go_meet
     case rel => exact ⟨_, (decide ((wrap64 ((l0_1.length : Int) + (l1_1.length : Int))) > 40)), Z87, H', ⟨Z93⟩, ⟨Z25⟩, ⟨Z44⟩, ⟨Z24⟩, ⟨Z43⟩, ⟨pb BK100⟩, ⟨pb BK101⟩, ⟨pb BK102⟩, ⟨Z4⟩⟩
    rw [if_neg c11] at H
    have c11b0 : (a0_0 == a1_0) = false := beq_eq_false_iff_ne.mpr c11
    have c11b1 : (a0_0 != a1_0) = true := bne_iff_ne.mpr c11
    (first | rw [c11b0] | (simp only [i64_w, i32_w]; rw [c11b0]) | skip)
    have H' := am H
    clear H
    have hnb21 := NB100_101.out
    have hnc21 := NB101_100.out
    have hnb22 := NB100_102.out
    have hnc22 := NB102_100.out
    obtain ⟨hcz23_0, hcz23_1, hcz23_2, hfz23_0, hfz23_1, hfz23_2⟩ := ce3 BK100
    go_wp2_with (first | ((with_reducible refine gate_callee (f := 26) rfl ?_); refine gL 10 rfl Try.func26 #[.agg #[.int .i64 a0_0, .slice A0_1 l0_1.length c0_1, .slice A0_2 l0_2.length c0_2]] ?_; (with_reducible refine (FC.calls k a0_0 _ _ l0_1 _ _ l0_2 true _ ?side1 ?side2 ?side3 ?side4 A7.out).mono ?_); (case side1 => exact Z22); (case side2 => exact (Kd.V_reads' HO0_1.out).2.1); (case side3 => exact Z42); (case side4 => exact (Kd.V_reads' HO0_2.out).2.1); rintro e w24 ⟨rfl, hb⟩; refine ⟨_, rfl, ?_⟩; replace HO0_1 := am (Kd.V_below Z11 hb); replace HO0_2 := am (Kd.V_below Z35 hb); replace HO1_1 := am (Kd.V_below Z10 hb); replace HO1_2 := am (Kd.V_below Z34 hb); replace BK100 := kB BK100 hb; replace BK101 := kB BK101 hb; replace BK102 := kB BK102 hb; replace HB := am (below_step Z4 hb); (try clear hb); (try clear hb2); (try clear hk); (try clear hi); have hnb25 := NB101_102.out; have hnc25 := NB102_101.out; obtain ⟨hcz26_0, hcz26_1, hcz26_2, hfz26_0, hfz26_1, hfz26_2⟩ := ce3 BK101) | (go_at_call 26; (with_reducible refine (FC.calls k a1_0 _ _ l1_1 _ _ l1_2 true _ ?side1 ?side2 ?side3 ?side4 A9.out).mono ?_); (case side1 => exact Z36); (case side2 => exact (Kd.V_reads' HO1_1.out).2.1); (case side3 => exact Z54); (case side4 => exact (Kd.V_reads' HO1_2.out).2.1); rintro e w27 ⟨rfl, hb⟩; replace HO0_1 := am (Kd.V_below Z11 hb); replace HO0_2 := am (Kd.V_below Z35 hb); replace HO1_1 := am (Kd.V_below Z10 hb); replace HO1_2 := am (Kd.V_below Z34 hb); replace BK100 := kB BK100 hb; replace BK101 := kB BK101 hb; replace BK102 := kB BK102 hb; replace HB := am (below_step Z4 hb); (try clear hb); (try clear hb2); (try clear hk); (try clear hi); obtain ⟨hcz28_0, hcz28_1, hcz28_2, hfz28_0, hfz28_1, hfz28_2⟩ := ce3 BK100; obtain ⟨hcz29_0, hcz29_1, hcz29_2, hfz29_0, hfz29_1, hfz29_2⟩ := ce3 BK101))
    go_meet
    case rel => exact ⟨_, (true), Z87, H', ⟨Z93⟩, ⟨Z25⟩, ⟨Z44⟩, ⟨Z24⟩, ⟨Z43⟩, ⟨pb BK100⟩, ⟨pb BK101⟩, ⟨pb BK102⟩, ⟨Z4⟩⟩
   replace c10 := Bool.eq_false_iff.mpr c10
   subst c10
   rw [if_neg (show ¬ (false = true) from Z21)] at H
   have H' := am H
   clear H
   have hnb30 := NB100_101.out
   have hnc30 := NB101_100.out
   have hnb31 := NB100_102.out
   have hnc31 := NB102_100.out
   obtain ⟨hcz32_0, hcz32_1, hcz32_2, hfz32_0, hfz32_1, hfz32_2⟩ := ce3 BK100
   go_wp2_with (first | ((with_reducible refine gate_callee (f := 26) rfl ?_); refine gL 10 rfl Try.func26 #[.agg #[.int .i64 a0_0, .slice A0_1 l0_1.length c0_1, .slice A0_2 l0_2.length c0_2]] ?_; (with_reducible refine (FC.calls k a0_0 _ _ l0_1 _ _ l0_2 true _ ?side1 ?side2 ?side3 ?side4 A7.out).mono ?_); (case side1 => exact Z22); (case side2 => exact (Kd.V_reads' HO0_1.out).2.1); (case side3 => exact Z42); (case side4 => exact (Kd.V_reads' HO0_2.out).2.1); rintro e w33 ⟨rfl, hb⟩; refine ⟨_, rfl, ?_⟩; replace HO0_1 := am (Kd.V_below Z11 hb); replace HO0_2 := am (Kd.V_below Z35 hb); replace HO1_1 := am (Kd.V_below Z10 hb); replace HO1_2 := am (Kd.V_below Z34 hb); replace BK100 := kB BK100 hb; replace BK101 := kB BK101 hb; replace BK102 := kB BK102 hb; replace HB := am (below_step Z4 hb); (try clear hb); (try clear hb2); (try clear hk); (try clear hi); have hnb34 := NB101_102.out; have hnc34 := NB102_101.out; obtain ⟨hcz35_0, hcz35_1, hcz35_2, hfz35_0, hfz35_1, hfz35_2⟩ := ce3 BK101) | (go_at_call 26; (with_reducible refine (FC.calls k a1_0 _ _ l1_1 _ _ l1_2 false _ ?side1 ?side2 ?side3 ?side4 A9.out).mono ?_); (case side1 => exact Z36); (case side2 => exact (Kd.V_reads' HO1_1.out).2.1); (case side3 => exact Z54); (case side4 => exact (Kd.V_reads' HO1_2.out).2.1); rintro e w36 ⟨rfl, hb⟩; replace HO0_1 := am (Kd.V_below Z11 hb); replace HO0_2 := am (Kd.V_below Z35 hb); replace HO1_1 := am (Kd.V_below Z10 hb); replace HO1_2 := am (Kd.V_below Z34 hb); replace BK100 := kB BK100 hb; replace BK101 := kB BK101 hb; replace BK102 := kB BK102 hb; replace HB := am (below_step Z4 hb); (try clear hb); (try clear hb2); (try clear hk); (try clear hi)))
   go_meet
   case rel => exact ⟨_, (true), Z87, H', ⟨Z93⟩, ⟨Z25⟩, ⟨Z44⟩, ⟨Z24⟩, ⟨Z43⟩, ⟨pb BK100⟩, ⟨pb BK101⟩, ⟨pb BK102⟩, ⟨Z4⟩⟩
  replace c8 := Bool.eq_false_iff.mpr c8
  subst c8
  rw [if_neg (show ¬ (false = true) from Z21)] at H
  have H' := am H
  clear H
  have hnb37 := NB100_101.out
  have hnc37 := NB101_100.out
  have hnb38 := NB100_102.out
  have hnc38 := NB102_100.out
  obtain ⟨hcz39_0, hcz39_1, hcz39_2, hfz39_0, hfz39_1, hfz39_2⟩ := ce3 BK100
  go_wp2_with (first | ((with_reducible refine gate_callee (f := 26) rfl ?_); refine gL 10 rfl Try.func26 #[.agg #[.int .i64 a0_0, .slice A0_1 l0_1.length c0_1, .slice A0_2 l0_2.length c0_2]] ?_; (with_reducible refine (FC.calls k a0_0 _ _ l0_1 _ _ l0_2 false _ ?side1 ?side2 ?side3 ?side4 A7.out).mono ?_); (case side1 => exact Z22); (case side2 => exact (Kd.V_reads' HO0_1.out).2.1); (case side3 => exact Z42); (case side4 => exact (Kd.V_reads' HO0_2.out).2.1); rintro e w40 ⟨rfl, hb⟩; refine ⟨_, rfl, ?_⟩; replace HO0_1 := am (Kd.V_below Z11 hb); replace HO0_2 := am (Kd.V_below Z35 hb); replace HO1_1 := am (Kd.V_below Z10 hb); replace HO1_2 := am (Kd.V_below Z34 hb); replace BK100 := kB BK100 hb; replace BK101 := kB BK101 hb; replace BK102 := kB BK102 hb; replace HB := am (below_step Z4 hb); (try clear hb); (try clear hb2); (try clear hk); (try clear hi)))
  go_meet
  case rel => exact ⟨_, (true), Z87, H', ⟨Z93⟩, ⟨Z25⟩, ⟨Z44⟩, ⟨Z24⟩, ⟨Z43⟩, ⟨pb BK100⟩, ⟨pb BK101⟩, ⟨pb BK102⟩, ⟨Z4⟩⟩
 case rest =>
  clear HC3
  try clear c1
  try clear c2
  try clear p2
  try clear c3
  try clear p6
  try clear c8
  try clear c10
  try clear c11
  try clear c11b0
  try clear c11b1
  try clear c12
  try clear c13
  try clear c16
  try clear c21
  try clear c22
  try clear c25
  try clear c26
  try clear c30
  try clear c31
  try clear c34
  try clear c37
  try clear c38
  try clear hcz14_0 hcz14_1 hcz14_2 hcz17_0 hcz17_1 hcz17_2 hcz19_0 hcz19_1 hcz19_2 hcz20_0 hcz20_1 hcz20_2 hcz23_0 hcz23_1 hcz23_2 hcz26_0 hcz26_1 hcz26_2 hcz28_0 hcz28_1 hcz28_2 hcz29_0 hcz29_1 hcz29_2 hcz32_0 hcz32_1 hcz32_2 hcz35_0 hcz35_1 hcz35_2 hcz39_0 hcz39_1 hcz39_2
  try clear hfz14_0 hfz14_1 hfz14_2 hfz17_0 hfz17_1 hfz17_2 hfz19_0 hfz19_1 hfz19_2 hfz20_0 hfz20_1 hfz20_2 hfz23_0 hfz23_1 hfz23_2 hfz26_0 hfz26_1 hfz26_2 hfz28_0 hfz28_1 hfz28_2 hfz29_0 hfz29_1 hfz29_2 hfz32_0 hfz32_1 hfz32_2 hfz35_0 hfz35_1 hfz35_2 hfz39_0 hfz39_1 hfz39_2
  obtain ⟨kq, x33_2, rfl, HA, HJ2, HO_103, HO_104, HO_105, HO_106, BK100, BK101, BK102, HB⟩ := hcut
  cases kq with
  | zero => exact absurd HA.out (by simp [Fb.j0])
  | succ kj2 =>
   have H := HA.out
   clear HA
   simp only [Fb.j0] at H
   by_cases c41 : x33_2 = true
   ·
    subst c41
    rw [if_pos rfl] at H
    simp only [Option.some.injEq, Prod.mk.injEq] at H
    obtain ⟨rfl, rfl, rfl, rfl⟩ := H
    have hnb42 := NB102_100.out
    have hnc42 := NB100_102.out
    have hnb43 := NB102_101.out
    have hnc43 := NB101_102.out
    obtain ⟨hcz44_0, hcz44_1, hcz44_2, hfz44_0, hfz44_1, hfz44_2⟩ := ce3 BK102
    go_wp2
    refine bodyPost_ret (results_ct rfl _ _ gb102 29 #[.int .i64 0, .slice none 0 0, .slice none 0 0] (0, 0) _ rfl (pT (pp 2 (pp 1 (pp 0 (pb BK102))))) Try.underlying29 rfl Z90) rfl ?_
    exact ⟨_, _, Z86, Z53, Z80, Z4⟩
   replace c41 := Bool.eq_false_iff.mpr c41
   subst c41
   rw [if_neg (show ¬ (false = true) from Z21)] at H
   obtain ⟨y109, hy109⟩ : ∃ y_ : List (List Bool), y_ = (([l0_2, l1_2] : List (List Bool))) := ⟨_, rfl⟩
   replace H : ((FJ.f y109).bind fun t107 => ((FM.f (([l0_1, l1_1] : List (List (S53))))).bind fun t108 => (Fb.l0 kj2 t108 (t108.length : Int) 0 a0_0 ([] : List (S53)) t107))) = some (r1, r2, r3, r4) := by first | (rw [hy109]; with_reducible exact H) | (have H2_ := (Option.bind_some _ _).symm.trans H; rw [hy109]; with_reducible exact H2_) | (have H2_ := (Option.bind_some _ _).symm.trans H; with_reducible exact H2_) | with_reducible exact H | (rw [hy109]; exact H) | exact H
   have Ny109 := am hy109
   clear hy109
   replace H := Option.bind_eq_some_iff.mp H
   obtain ⟨t107, A110, H⟩ := H
   try dsimp only at H
   have A45 := am A110
   clear A110
   obtain ⟨y111, hy111⟩ : ∃ y_ : List (List (S53)), y_ = (([l0_1, l1_1] : List (List (S53)))) := ⟨_, rfl⟩
   replace H : ((FM.f y111).bind fun t108 => (Fb.l0 kj2 t108 (t108.length : Int) 0 a0_0 ([] : List (S53)) t107)) = some (r1, r2, r3, r4) := by first | (rw [hy111]; with_reducible exact H) | (have H2_ := (Option.bind_some _ _).symm.trans H; rw [hy111]; with_reducible exact H2_) | (have H2_ := (Option.bind_some _ _).symm.trans H; with_reducible exact H2_) | with_reducible exact H | (rw [hy111]; exact H) | exact H
   have Ny111 := am hy111
   clear hy111
   replace H := Option.bind_eq_some_iff.mp H
   obtain ⟨t108, A112, H⟩ := H
   try dsimp only at H
   have A46 := am A112
   clear A112
   have H' := am H
   clear H
   try go_wp2
   replace HO_103 := am (Kd.V_drew HO_103.out)
   replace HO_104 := am (Kd.V_drew HO_104.out)
   replace HO_105 := am (Kd.V_drew HO_105.out)
   replace HO_106 := am (Kd.V_drew HO_106.out)
   replace BK100 := am (blk_drew BK100.out)
   replace BK101 := am (blk_drew BK101.out)
   replace BK102 := am (blk_drew BK102.out)
   replace HB := am (below_drew1 HB.out)
   refine start_ (n := 11) (S := fun w' => w'.cell? ⟨gb100, 0, none⟩ = some (.int .i64 a0_0) ∧ w'.cell? ⟨gb100, 1, none⟩ = some (.slice A0_1 l0_1.length c0_1) ∧ w'.cell? ⟨gb100, 2, none⟩ = some (.slice A0_2 l0_2.length c0_2) ∧ w'.cell? ⟨gb101, 0, none⟩ = some (.int .i64 a1_0) ∧ w'.cell? ⟨gb101, 1, none⟩ = some (.slice A1_1 l1_1.length c1_1) ∧ w'.cell? ⟨gb101, 2, none⟩ = some (.slice A1_2 l1_2.length c1_2)) (ds := []) (bA 11 0) Z90 rfl rfl ⟨bc BK100 0, bc BK100 1, bc BK100 2, bc BK101 0, bc BK101 1, bc BK101 2⟩ (fun hHeld => ?_); refine with_tabW Fb.tab3 Fb.bits3 (fun HT_ HW_ => ?_)
   generalize wc.drew = w47 at HO_103 HO_104 HO_105 HO_106 BK100 BK101 BK102 HB hHeld ⊢
   refine pS 0 35 (bA 11 1) ?_
   refine pS 2 37 (bA 11 5) ?_
   refine pS 4 39 (bA 11 21) ?_
   refine tS6 1 36 (bA 11 23) hHeld ?_
   refine tS6 3 38 (bA 11 31) hHeld ?_
   refine tS6 5 40 (bA 11 63) hHeld ?_
   refine join_ (σ := Value × Value × Nat) 1 (bA 11 1023) (fun s_ => [(41, s_.1), (42, s_.2.1), (6, .pointer (some ⟨s_.2.2, 0, none⟩)), (43, .agg #[.int .i64 a0_0, .slice none 0 0, s_.2.1])]) (fun s_ w' => (w'.cell? ⟨gb100, 0, none⟩ = some (.int .i64 a0_0) ∧ w'.cell? ⟨gb100, 1, none⟩ = some (.slice A0_1 l0_1.length c0_1) ∧ w'.cell? ⟨gb100, 2, none⟩ = some (.slice A0_2 l0_2.length c0_2) ∧ w'.cell? ⟨gb101, 0, none⟩ = some (.int .i64 a1_0) ∧ w'.cell? ⟨gb101, 1, none⟩ = some (.slice A1_1 l1_1.length c1_1) ∧ w'.cell? ⟨gb101, 2, none⟩ = some (.slice A1_2 l1_2.length c1_2)) ∧ (Kd.N (Kd.slice 4 Kd.bool) 23 w' w.heap.size (fun k_ => ((P0_1_ k_ ∨ P0_2_ k_ ∨ P1_1_ k_ ∨ P1_2_ k_) ∨ w.heap.size ≤ k_) ∧ some k_ ≠ (s_.2.1 : Value).ownBlock ∧ k_ ≠ gb100 ∧ k_ ≠ gb101 ∧ k_ ≠ gb102 ∧ k_ ≠ s_.2.2) s_.1 y109) ∧ (Kd.R Kd.bool 4 w' w.heap.size (fun k_ => (w.heap.size ≤ k_)) s_.2.1 t107) ∧ (Kd.V k53 53 w' w.heap.size (fun k_ => ((P0_1_ k_ ∨ P0_2_ k_ ∨ P1_1_ k_ ∨ P1_2_ k_) ∨ w.heap.size ≤ k_) ∧ some k_ ≠ (s_.1 : Value).ownBlock ∧ some k_ ≠ (s_.2.1 : Value).ownBlock ∧ k_ ≠ gb100 ∧ k_ ≠ gb101 ∧ k_ ≠ gb102 ∧ k_ ≠ s_.2.2) (.slice A0_1 l0_1.length c0_1) l0_1) ∧ (Kd.V Kd.bool 4 w' w.heap.size (fun k_ => ((P0_1_ k_ ∨ P0_2_ k_ ∨ P1_1_ k_ ∨ P1_2_ k_) ∨ w.heap.size ≤ k_) ∧ some k_ ≠ (s_.1 : Value).ownBlock ∧ some k_ ≠ (s_.2.1 : Value).ownBlock ∧ k_ ≠ gb100 ∧ k_ ≠ gb101 ∧ k_ ≠ gb102 ∧ k_ ≠ s_.2.2) (.slice A0_2 l0_2.length c0_2) l0_2) ∧ (Kd.V k53 53 w' w.heap.size (fun k_ => ((P0_1_ k_ ∨ P0_2_ k_ ∨ P1_1_ k_ ∨ P1_2_ k_) ∨ w.heap.size ≤ k_) ∧ some k_ ≠ (s_.1 : Value).ownBlock ∧ some k_ ≠ (s_.2.1 : Value).ownBlock ∧ k_ ≠ gb100 ∧ k_ ≠ gb101 ∧ k_ ≠ gb102 ∧ k_ ≠ s_.2.2) (.slice A1_1 l1_1.length c1_1) l1_1) ∧ (Kd.V Kd.bool 4 w' w.heap.size (fun k_ => ((P0_1_ k_ ∨ P0_2_ k_ ∨ P1_1_ k_ ∨ P1_2_ k_) ∨ w.heap.size ≤ k_) ∧ some k_ ≠ (s_.1 : Value).ownBlock ∧ some k_ ≠ (s_.2.1 : Value).ownBlock ∧ k_ ≠ gb100 ∧ k_ ≠ gb101 ∧ k_ ≠ gb102 ∧ k_ ≠ s_.2.2) (.slice A1_2 l1_2.length c1_2) l1_2) ∧ (w'.heap[gb100]? = some (.cells #[.int .i64 a0_0, .slice A0_1 l0_1.length c0_1, .slice A0_2 l0_2.length c0_2] 29 (0, 0))) ∧ (w'.heap[gb101]? = some (.cells #[.int .i64 a1_0, .slice A1_1 l1_1.length c1_1, .slice A1_2 l1_2.length c1_2] 29 (0, 0))) ∧ (w'.heap[gb102]? = some (.cells #[.int .i64 0, .slice none 0 0, .slice none 0 0] 29 (0, 0))) ∧ (w'.heap[s_.2.2]? = some (.cells #[.int .i64 0, .slice none 0 0, .slice none 0 0] 29 (0, 0))) ∧ (w.heap.size ≤ s_.2.2) ∧ (w.heap.size ≤ s_.2.2) ∧ (gb100 ≠ s_.2.2) ∧ (s_.2.2 ≠ gb100) ∧ (gb101 ≠ s_.2.2) ∧ (s_.2.2 ≠ gb101) ∧ (gb102 ≠ s_.2.2) ∧ (s_.2.2 ≠ gb102) ∧ (Below w.heap.size w w')) ?_ ?_
   rotate_left
   ·
    intro hCont
    refine two_ (i := 6) (j := 9) (Ni := some 41) (Nj := some 6) (bA 11 127) (bA 11 575) rfl rfl rfl rfl (two_of HT_.out Z90) Z21 Z21 (fun K hK => ?_) (fun K hK => ?_)
    ·
     skip
     refine Kd.N_lit_step (Kd.slice 4 Kd.bool) _ 23 ?hg (N' := 41) ?hd (xs := ([l0_2, l1_2] : List (List Bool))) (inner := [.slice A0_2 l0_2.length c0_2, .slice A1_2 l1_2.length c1_2]) (ok := (fun k_ => ((P0_1_ k_ ∨ P0_2_ k_ ∨ P1_1_ k_ ∨ P1_2_ k_) ∨ w.heap.size ≤ k_) ∧ k_ ≠ gb100 ∧ k_ ≠ gb101 ∧ k_ ≠ gb102)) (okp := (fun k_ => ((P0_1_ k_ ∨ P0_2_ k_ ∨ P1_1_ k_ ∨ P1_2_ k_) ∨ w.heap.size ≤ k_) ∧ k_ ≠ gb100 ∧ k_ ≠ gb101 ∧ k_ ≠ gb102)) ?hr ?hp (fun _ hk => hk) ((show ∀ k_, w47.heap.size ≤ k_ → (fun k_ => ((P0_1_ k_ ∨ P0_2_ k_ ∨ P1_1_ k_ ∨ P1_2_ k_) ∨ w.heap.size ≤ k_) ∧ k_ ≠ gb100 ∧ k_ ≠ gb101 ∧ k_ ≠ gb102) k_ from fun k_ hk => ⟨(.inr (Nat.le_trans (below_size Z4) hk)), Kd.freshB (g := gb100) (o := .cells #[.int .i64 a0_0, .slice A0_1 l0_1.length c0_1, .slice A0_2 l0_2.length c0_2] 29 (0, 0)) (uK BK100) k_ hk, Kd.freshB (g := gb101) (o := .cells #[.int .i64 a1_0, .slice A1_1 l1_1.length c1_1, .slice A1_2 l1_2.length c1_2] 29 (0, 0)) (uK BK101) k_ hk, Kd.freshB (g := gb102) (o := .cells #[.int .i64 0, .slice none 0 0, .slice none 0 0] 29 (0, 0)) (uK BK102) k_ hk⟩) _ (Nat.le_refl _)) (Below.refl _ _) (Nat.le_refl _) Z65 ?_; (case hd => rfl); (case hg => rfl); (case hr => exact Z88); (case hp => exact (Reps.one (show Kd.FK (Kd.slice 4 Kd.bool) _ _ l0_2 [.slice A0_2 l0_2.length c0_2] from (Kd.FK_slice_mk (Kd.V_reads' (Kd.V_mono (ok' := (fun k_ => ((P0_1_ k_ ∨ P0_2_ k_ ∨ P1_1_ k_ ∨ P1_2_ k_) ∨ w.heap.size ≤ k_) ∧ k_ ≠ gb100 ∧ k_ ≠ gb101 ∧ k_ ≠ gb102)) (HO_104.out) (fun k_ hk => ⟨hk.1, ⟨hk.2.1, ⟨hk.2.2.1, hk.2.2.2⟩⟩⟩))).2.1 (Kd.V_F (Kd.V_mono (ok' := (fun k_ => ((P0_1_ k_ ∨ P0_2_ k_ ∨ P1_1_ k_ ∨ P1_2_ k_) ∨ w.heap.size ≤ k_) ∧ k_ ≠ gb100 ∧ k_ ≠ gb101 ∧ k_ ≠ gb102)) (HO_104.out) (fun k_ hk => ⟨hk.1, ⟨hk.2.1, ⟨hk.2.2.1, hk.2.2.2⟩⟩⟩))))) (Reps.one (show Kd.FK (Kd.slice 4 Kd.bool) _ _ l1_2 [.slice A1_2 l1_2.length c1_2] from (Kd.FK_slice_mk (Kd.V_reads' (Kd.V_mono (ok' := (fun k_ => ((P0_1_ k_ ∨ P0_2_ k_ ∨ P1_1_ k_ ∨ P1_2_ k_) ∨ w.heap.size ≤ k_) ∧ k_ ≠ gb100 ∧ k_ ≠ gb101 ∧ k_ ≠ gb102)) (HO_106.out) (fun k_ hk => ⟨hk.1, ⟨hk.2.1, ⟨hk.2.2.1, hk.2.2.2⟩⟩⟩))).2.1 (Kd.V_F (Kd.V_mono (ok' := (fun k_ => ((P0_1_ k_ ∨ P0_2_ k_ ∨ P1_1_ k_ ∨ P1_2_ k_) ∨ w.heap.size ≤ k_) ∧ k_ ≠ gb100 ∧ k_ ≠ gb101 ∧ k_ ≠ gb102)) (HO_106.out) (fun k_ hk => ⟨hk.1, ⟨hk.2.1, ⟨hk.2.2.1, hk.2.2.2⟩⟩⟩))))) (Reps.none _ _))))
     intro v113 w48 ho49 hb hg_ hnew_
     clear hg_ hnew_
     (first | rw [← Ny109.out] at ho49 | (simp only [Int.reduceToNat] at ho49; rw [← Ny109.out] at ho49))
     replace HO_103 := am (Kd.V_elder' Z32 (Kd.N_base ho49) hb)
     replace HO_104 := am (Kd.V_elder' Z31 (Kd.N_base ho49) hb)
     replace HO_105 := am (Kd.V_elder' Z30 (Kd.N_base ho49) hb)
     replace HO_106 := am (Kd.V_elder' Z29 (Kd.N_base ho49) hb)
     have HO114 := am (Kd.N_lower ho49 (below_size Z4))
     replace BK100 := kB BK100 hb
     replace BK101 := kB BK101 hb
     replace BK102 := kB BK102 hb
     replace HB := am (below_step Z4 hb)
     clear hb ho49
     obtain ⟨Ao50, co50, eo50⟩ := Kd.N_slice HO114.out
     (first | subst eo50 | (injection eo50 with f1_ f2_ f3_; have f4_ := f1_.symm; have f5_ := f3_.symm; clear f1_ f2_ f3_; subst f4_; subst f5_))
     refine hK.out _ _ ⟨bc BK100 0, bc BK100 1, bc BK100 2, bc BK101 0, bc BK101 1, bc BK101 2⟩ (fun hHeld => ?_)
     clear hK K
     refine norm_ (a' := ?_) ?_ ?_
     rotate_left
     ·
      show Act.put _ (some 41) _ = _
      simp only [Act.put, setIfInBounds_toArray, set_cons_zero, set_cons_succ, i64_w, i32_w]
      rfl
     refine two_ (i := 7) (j := 9) (Ni := some 42) (Nj := some 6) (bA 11 255) (bA 11 639) rfl rfl rfl rfl (two_of HT_.out Z90) Z21 Z21 (fun K hK => ?_) (fun K hK => ?_)
     ·
      skip
      refine goes_ Try.func27 Z90 rfl #[.slice Ao50 y109.length co50] Z62 rfl rfl Z91 ?_
      with_reducible refine (FJ.calls _ _ y109 t107 _ ?side1 ?side2 A45.out).mono ?_
      (case side1 => exact Z55)
      (case side2 => exact (Kd.N_reads' HO114.out).2.1)
      rintro e w51 ⟨v115, rfl, ho0, hb⟩
      refine ⟨_, rfl, ?_⟩
      replace HO_103 := am (Kd.V_elder' Z32 (Kd.R_base ho0) hb)
      replace HO_104 := am (Kd.V_elder' Z31 (Kd.R_base ho0) hb)
      replace HO_105 := am (Kd.V_elder' Z30 (Kd.R_base ho0) hb)
      replace HO_106 := am (Kd.V_elder' Z29 (Kd.R_base ho0) hb)
      replace HO114 := am (Kd.N_elder' Z39 (Kd.R_base ho0) hb)
      have HO116 := am (Kd.R_lower (Kd.R_newM (M := fun k_ => (w.heap.size ≤ k_)) ho0 (below_size Z4) (fun k_ h_ => h_)) (below_size Z4))
      replace BK100 := kB BK100 hb
      replace BK101 := kB BK101 hb
      replace BK102 := kB BK102 hb
      replace HB := am (below_step Z4 hb)
      (try clear hb)
      (try clear hb2)
      (try clear hk)
      (try clear hi)
      (try clear ho0)
      obtain ⟨Ao52, co52, eo52⟩ := Kd.R_slice HO116.out
      (first | subst eo52 | (injection eo52 with f1_ f2_ f3_; have f4_ := f1_.symm; have f5_ := f3_.symm; clear f1_ f2_ f3_; subst f4_; subst f5_))
      refine hK.out _ _ ⟨bc BK100 0, bc BK100 1, bc BK100 2, bc BK101 0, bc BK101 1, bc BK101 2⟩ (fun hHeld => ?_)
      clear hK K
      refine norm_ (a' := ?_) ?_ ?_
      rotate_left
      ·
       show Act.put _ (some 42) _ = _
       simp only [Act.put, setIfInBounds_toArray, set_cons_zero, set_cons_succ, i64_w, i32_w]
       rfl
      refine pS 8 43 (bA 11 511) ?_
      refine one_ (i := 9) (N := some 6) (bA 11 1023) rfl rfl (one_of HT_.out Z90) Z21 (fun K hK => ?_)
      refine box_step ?hg (N := 6) ?hd (cs := #[.int .i64 0, .slice none 0 0, .slice none 0 0]) (t := 29) ?hr ?_; (case hd => rfl); (case hg => rfl); (case hr => exact Z88)
      intro gb117 hg w53 hbox hb
      replace HO_103 := am (Kd.V_below (Kd.V_elderB Z32 gb117 (Nat.le_of_eq hg.symm)) hb)
      replace HO_104 := am (Kd.V_below (Kd.V_elderB Z31 gb117 (Nat.le_of_eq hg.symm)) hb)
      replace HO_105 := am (Kd.V_below (Kd.V_elderB Z30 gb117 (Nat.le_of_eq hg.symm)) hb)
      replace HO_106 := am (Kd.V_below (Kd.V_elderB Z29 gb117 (Nat.le_of_eq hg.symm)) hb)
      replace HO114 := am (Kd.N_below (Kd.N_elderB Z39 gb117 (Nat.le_of_eq hg.symm)) hb)
      replace HO116 := rB HO116 hb
      have BK117 := am (hbox)
      have GW117 := am ((by rw [hg]; exact (below_size Z4) : w.heap.size ≤ gb117))
      have GE117 := am ((by rw [hg]; exact (below_size Z4) : w.heap.size ≤ gb117))
      replace HB := am (below_step Z4 hb)
      have NB100_117 := nL BK100 hg
      have NB117_100 := nR BK100 hg
      replace BK100 := kB BK100 hb
      have NB101_117 := nL BK101 hg
      have NB117_101 := nR BK101 hg
      replace BK101 := kB BK101 hb
      have NB102_117 := nL BK102 hg
      have NB117_102 := nR BK102 hg
      replace BK102 := kB BK102 hb
      clear hb hbox hg
      refine hK.out _ _ ⟨bc BK100 0, bc BK100 1, bc BK100 2, bc BK101 0, bc BK101 1, bc BK101 2⟩ (fun hHeld => ?_)
      clear hK K
      refine norm_ (a' := ?_) ?_ ?_
      rotate_left
      ·
       show Act.put _ (some 6) _ = _
       simp only [Act.put, setIfInBounds_toArray, set_cons_zero, set_cons_succ, i64_w, i32_w]
       rfl
      exact norm_ Z92 (hCont (.slice Ao50 y109.length co50, .slice Ao52 t107.length co52, gb117) _ ⟨hHeld, (by (with_reducible repeat (first | apply Kd.N_alloc | apply Kd.N_drewN | apply Kd.N_drew)); exact Kd.N_mono HO114.out (fun _ hk => ⟨hk.1.1.1, ⟨hk.1.2, ⟨hk.1.1.2.1, ⟨hk.1.1.2.2.1, ⟨hk.1.1.2.2.2, hk.2⟩⟩⟩⟩⟩)), Z68, (by (with_reducible repeat (first | apply Kd.V_alloc | apply Kd.V_drewN | apply Kd.V_drew)); exact Kd.V_mono HO_103.out (fun _ hk => ⟨hk.1.1.1.1, ⟨hk.1.1.2, ⟨hk.1.2, ⟨hk.1.1.1.2.1, ⟨hk.1.1.1.2.2.1, ⟨hk.1.1.1.2.2.2, hk.2⟩⟩⟩⟩⟩⟩)), (by (with_reducible repeat (first | apply Kd.V_alloc | apply Kd.V_drewN | apply Kd.V_drew)); exact Kd.V_mono HO_104.out (fun _ hk => ⟨hk.1.1.1.1, ⟨hk.1.1.2, ⟨hk.1.2, ⟨hk.1.1.1.2.1, ⟨hk.1.1.1.2.2.1, ⟨hk.1.1.1.2.2.2, hk.2⟩⟩⟩⟩⟩⟩)), (by (with_reducible repeat (first | apply Kd.V_alloc | apply Kd.V_drewN | apply Kd.V_drew)); exact Kd.V_mono HO_105.out (fun _ hk => ⟨hk.1.1.1.1, ⟨hk.1.1.2, ⟨hk.1.2, ⟨hk.1.1.1.2.1, ⟨hk.1.1.1.2.2.1, ⟨hk.1.1.1.2.2.2, hk.2⟩⟩⟩⟩⟩⟩)), (by (with_reducible repeat (first | apply Kd.V_alloc | apply Kd.V_drewN | apply Kd.V_drew)); exact Kd.V_mono HO_106.out (fun _ hk => ⟨hk.1.1.1.1, ⟨hk.1.1.2, ⟨hk.1.2, ⟨hk.1.1.1.2.1, ⟨hk.1.1.1.2.2.1, ⟨hk.1.1.1.2.2.2, hk.2⟩⟩⟩⟩⟩⟩)), (uK BK100), (uK BK101), (uK BK102), (uK BK117), GW117.out, GE117.out, NB100_117.out, NB117_100.out, NB101_117.out, NB117_101.out, NB102_117.out, NB117_102.out, Z3⟩)
     skip
     refine box_step ?hg (N := 6) ?hd (cs := #[.int .i64 0, .slice none 0 0, .slice none 0 0]) (t := 29) ?hr ?_; (case hd => rfl); (case hg => rfl); (case hr => exact Z88)
     intro gb117 hg w50 hbox hb
     replace HO_103 := am (Kd.V_below (Kd.V_elderB Z32 gb117 (Nat.le_of_eq hg.symm)) hb)
     replace HO_104 := am (Kd.V_below (Kd.V_elderB Z31 gb117 (Nat.le_of_eq hg.symm)) hb)
     replace HO_105 := am (Kd.V_below (Kd.V_elderB Z30 gb117 (Nat.le_of_eq hg.symm)) hb)
     replace HO_106 := am (Kd.V_below (Kd.V_elderB Z29 gb117 (Nat.le_of_eq hg.symm)) hb)
     replace HO114 := am (Kd.N_below (Kd.N_elderB Z39 gb117 (Nat.le_of_eq hg.symm)) hb)
     have BK117 := am (hbox)
     have GW117 := am ((by rw [hg]; exact (below_size Z4) : w.heap.size ≤ gb117))
     have GE117 := am ((by rw [hg]; exact (below_size Z4) : w.heap.size ≤ gb117))
     replace HB := am (below_step Z4 hb)
     have NB100_117 := nL BK100 hg
     have NB117_100 := nR BK100 hg
     replace BK100 := kB BK100 hb
     have NB101_117 := nL BK101 hg
     have NB117_101 := nR BK101 hg
     replace BK101 := kB BK101 hb
     have NB102_117 := nL BK102 hg
     have NB117_102 := nR BK102 hg
     replace BK102 := kB BK102 hb
     clear hb hbox hg
     obtain ⟨Ao51, co51, eo51⟩ := Kd.N_slice HO114.out
     (first | subst eo51 | (injection eo51 with f1_ f2_ f3_; have f4_ := f1_.symm; have f5_ := f3_.symm; clear f1_ f2_ f3_; subst f4_; subst f5_))
     refine hK.out _ _ ⟨bc BK100 0, bc BK100 1, bc BK100 2, bc BK101 0, bc BK101 1, bc BK101 2⟩ (fun hHeld => ?_)
     clear hK K
     refine norm_ (a' := ?_) ?_ ?_
     rotate_left
     ·
      show Act.put _ (some 6) _ = _
      simp only [Act.put, setIfInBounds_toArray, set_cons_zero, set_cons_succ, i64_w, i32_w]
      rfl
     refine one_ (i := 7) (N := some 42) (bA 11 767) rfl rfl (one_of HT_.out Z90) Z21 (fun K hK => ?_)
     refine goes_ Try.func27 Z90 rfl #[.slice Ao51 y109.length co51] Z62 rfl rfl Z91 ?_
     with_reducible refine (FJ.calls _ _ y109 t107 _ ?side1 ?side2 A45.out).mono ?_
     (case side1 => exact Z55)
     (case side2 => exact (Kd.N_reads' HO114.out).2.1)
     rintro e w52 ⟨v115, rfl, ho0, hb⟩
     refine ⟨_, rfl, ?_⟩
     replace HO_103 := am (Kd.V_elder' Z32 (Kd.R_base ho0) hb)
     replace HO_104 := am (Kd.V_elder' Z31 (Kd.R_base ho0) hb)
     replace HO_105 := am (Kd.V_elder' Z30 (Kd.R_base ho0) hb)
     replace HO_106 := am (Kd.V_elder' Z29 (Kd.R_base ho0) hb)
     replace HO114 := am (Kd.N_elder' Z39 (Kd.R_base ho0) hb)
     have HO116 := am (Kd.R_lower (Kd.R_newM (M := fun k_ => (w.heap.size ≤ k_)) ho0 (below_size Z3) (fun k_ h_ => h_)) (below_size Z3))
     replace BK100 := kB BK100 hb
     replace BK101 := kB BK101 hb
     replace BK102 := kB BK102 hb
     replace BK117 := kB BK117 hb
     replace HB := am (below_step Z3 hb)
     (try clear hb)
     (try clear hb2)
     (try clear hk)
     (try clear hi)
     (try clear ho0)
     obtain ⟨Ao53, co53, eo53⟩ := Kd.R_slice HO116.out
     (first | subst eo53 | (injection eo53 with f1_ f2_ f3_; have f4_ := f1_.symm; have f5_ := f3_.symm; clear f1_ f2_ f3_; subst f4_; subst f5_))
     refine hK.out _ _ ⟨bc BK100 0, bc BK100 1, bc BK100 2, bc BK101 0, bc BK101 1, bc BK101 2⟩ (fun hHeld => ?_)
     clear hK K
     refine norm_ (a' := ?_) ?_ ?_
     rotate_left
     ·
      show Act.put _ (some 42) _ = _
      simp only [Act.put, setIfInBounds_toArray, set_cons_zero, set_cons_succ, i64_w, i32_w]
      rfl
     refine pS 8 43 (bA 11 1023) ?_
     exact norm_ Z92 (hCont (.slice Ao51 y109.length co51, .slice Ao53 t107.length co53, gb117) _ ⟨hHeld, (by (with_reducible repeat (first | apply Kd.N_alloc | apply Kd.N_drewN | apply Kd.N_drew)); exact Kd.N_mono HO114.out (fun _ hk => ⟨hk.1.1.1, ⟨hk.2, ⟨hk.1.1.2.1, ⟨hk.1.1.2.2.1, ⟨hk.1.1.2.2.2, hk.1.2⟩⟩⟩⟩⟩)), Z68, (by (with_reducible repeat (first | apply Kd.V_alloc | apply Kd.V_drewN | apply Kd.V_drew)); exact Kd.V_mono HO_103.out (fun _ hk => ⟨hk.1.1.1.1, ⟨hk.1.1.2, ⟨hk.2, ⟨hk.1.1.1.2.1, ⟨hk.1.1.1.2.2.1, ⟨hk.1.1.1.2.2.2, hk.1.2⟩⟩⟩⟩⟩⟩)), (by (with_reducible repeat (first | apply Kd.V_alloc | apply Kd.V_drewN | apply Kd.V_drew)); exact Kd.V_mono HO_104.out (fun _ hk => ⟨hk.1.1.1.1, ⟨hk.1.1.2, ⟨hk.2, ⟨hk.1.1.1.2.1, ⟨hk.1.1.1.2.2.1, ⟨hk.1.1.1.2.2.2, hk.1.2⟩⟩⟩⟩⟩⟩)), (by (with_reducible repeat (first | apply Kd.V_alloc | apply Kd.V_drewN | apply Kd.V_drew)); exact Kd.V_mono HO_105.out (fun _ hk => ⟨hk.1.1.1.1, ⟨hk.1.1.2, ⟨hk.2, ⟨hk.1.1.1.2.1, ⟨hk.1.1.1.2.2.1, ⟨hk.1.1.1.2.2.2, hk.1.2⟩⟩⟩⟩⟩⟩)), (by (with_reducible repeat (first | apply Kd.V_alloc | apply Kd.V_drewN | apply Kd.V_drew)); exact Kd.V_mono HO_106.out (fun _ hk => ⟨hk.1.1.1.1, ⟨hk.1.1.2, ⟨hk.2, ⟨hk.1.1.1.2.1, ⟨hk.1.1.1.2.2.1, ⟨hk.1.1.1.2.2.2, hk.1.2⟩⟩⟩⟩⟩⟩)), (uK BK100), (uK BK101), (uK BK102), (uK BK117), GW117.out, GE117.out, NB100_117.out, NB117_100.out, NB101_117.out, NB117_101.out, NB102_117.out, NB117_102.out, Z3⟩)
    skip
    refine box_step ?hg (N := 6) ?hd (cs := #[.int .i64 0, .slice none 0 0, .slice none 0 0]) (t := 29) ?hr ?_; (case hd => rfl); (case hg => rfl); (case hr => exact Z88)
    intro gb117 hg w48 hbox hb
    replace HO_103 := am (Kd.V_below (Kd.V_elderB Z32 gb117 (Nat.le_of_eq hg.symm)) hb)
    replace HO_104 := am (Kd.V_below (Kd.V_elderB Z31 gb117 (Nat.le_of_eq hg.symm)) hb)
    replace HO_105 := am (Kd.V_below (Kd.V_elderB Z30 gb117 (Nat.le_of_eq hg.symm)) hb)
    replace HO_106 := am (Kd.V_below (Kd.V_elderB Z29 gb117 (Nat.le_of_eq hg.symm)) hb)
    have BK117 := am (hbox)
    have GW117 := am ((by rw [hg]; exact (below_size Z4) : w.heap.size ≤ gb117))
    have GE117 := am ((by rw [hg]; exact (below_size Z4) : w.heap.size ≤ gb117))
    replace HB := am (below_step Z4 hb)
    have NB100_117 := nL BK100 hg
    have NB117_100 := nR BK100 hg
    replace BK100 := kB BK100 hb
    have NB101_117 := nL BK101 hg
    have NB117_101 := nR BK101 hg
    replace BK101 := kB BK101 hb
    have NB102_117 := nL BK102 hg
    have NB117_102 := nR BK102 hg
    replace BK102 := kB BK102 hb
    clear hb hbox hg
    refine hK.out _ _ ⟨bc BK100 0, bc BK100 1, bc BK100 2, bc BK101 0, bc BK101 1, bc BK101 2⟩ (fun hHeld => ?_)
    clear hK K
    refine norm_ (a' := ?_) ?_ ?_
    rotate_left
    ·
     show Act.put _ (some 6) _ = _
     simp only [Act.put, setIfInBounds_toArray, set_cons_zero, set_cons_succ, i64_w, i32_w]
     rfl
    refine one_ (i := 6) (N := some 41) (bA 11 639) rfl rfl (one_of HT_.out Z90) Z21 (fun K hK => ?_)
    refine Kd.N_lit_step (Kd.slice 4 Kd.bool) _ 23 ?hg (N' := 41) ?hd (xs := ([l0_2, l1_2] : List (List Bool))) (inner := [.slice A0_2 l0_2.length c0_2, .slice A1_2 l1_2.length c1_2]) (ok := (fun k_ => ((P0_1_ k_ ∨ P0_2_ k_ ∨ P1_1_ k_ ∨ P1_2_ k_) ∨ w.heap.size ≤ k_) ∧ k_ ≠ gb100 ∧ k_ ≠ gb101 ∧ k_ ≠ gb102 ∧ k_ ≠ gb117)) (okp := (fun k_ => ((P0_1_ k_ ∨ P0_2_ k_ ∨ P1_1_ k_ ∨ P1_2_ k_) ∨ w.heap.size ≤ k_) ∧ k_ ≠ gb100 ∧ k_ ≠ gb101 ∧ k_ ≠ gb102 ∧ k_ ≠ gb117)) ?hr ?hp (fun _ hk => hk) ((show ∀ k_, w48.heap.size ≤ k_ → (fun k_ => ((P0_1_ k_ ∨ P0_2_ k_ ∨ P1_1_ k_ ∨ P1_2_ k_) ∨ w.heap.size ≤ k_) ∧ k_ ≠ gb100 ∧ k_ ≠ gb101 ∧ k_ ≠ gb102 ∧ k_ ≠ gb117) k_ from fun k_ hk => ⟨(.inr (Nat.le_trans (below_size Z3) hk)), Kd.freshB (g := gb100) (o := .cells #[.int .i64 a0_0, .slice A0_1 l0_1.length c0_1, .slice A0_2 l0_2.length c0_2] 29 (0, 0)) (uK BK100) k_ hk, Kd.freshB (g := gb101) (o := .cells #[.int .i64 a1_0, .slice A1_1 l1_1.length c1_1, .slice A1_2 l1_2.length c1_2] 29 (0, 0)) (uK BK101) k_ hk, Kd.freshB (g := gb102) (o := .cells #[.int .i64 0, .slice none 0 0, .slice none 0 0] 29 (0, 0)) (uK BK102) k_ hk, Kd.freshB (g := gb117) (o := .cells #[.int .i64 0, .slice none 0 0, .slice none 0 0] 29 (0, 0)) (uK BK117) k_ hk⟩) _ (Nat.le_refl _)) (Below.refl _ _) (Nat.le_refl _) Z65 ?_; (case hd => rfl); (case hg => rfl); (case hr => exact Z88); (case hp => exact (Reps.one (show Kd.FK (Kd.slice 4 Kd.bool) _ _ l0_2 [.slice A0_2 l0_2.length c0_2] from (Kd.FK_slice_mk (Kd.V_reads' (Kd.V_mono (ok' := (fun k_ => ((P0_1_ k_ ∨ P0_2_ k_ ∨ P1_1_ k_ ∨ P1_2_ k_) ∨ w.heap.size ≤ k_) ∧ k_ ≠ gb100 ∧ k_ ≠ gb101 ∧ k_ ≠ gb102 ∧ k_ ≠ gb117)) (HO_104.out) (fun k_ hk => ⟨hk.1.1, ⟨hk.1.2.1, ⟨hk.1.2.2.1, ⟨hk.1.2.2.2, hk.2⟩⟩⟩⟩))).2.1 (Kd.V_F (Kd.V_mono (ok' := (fun k_ => ((P0_1_ k_ ∨ P0_2_ k_ ∨ P1_1_ k_ ∨ P1_2_ k_) ∨ w.heap.size ≤ k_) ∧ k_ ≠ gb100 ∧ k_ ≠ gb101 ∧ k_ ≠ gb102 ∧ k_ ≠ gb117)) (HO_104.out) (fun k_ hk => ⟨hk.1.1, ⟨hk.1.2.1, ⟨hk.1.2.2.1, ⟨hk.1.2.2.2, hk.2⟩⟩⟩⟩))))) (Reps.one (show Kd.FK (Kd.slice 4 Kd.bool) _ _ l1_2 [.slice A1_2 l1_2.length c1_2] from (Kd.FK_slice_mk (Kd.V_reads' (Kd.V_mono (ok' := (fun k_ => ((P0_1_ k_ ∨ P0_2_ k_ ∨ P1_1_ k_ ∨ P1_2_ k_) ∨ w.heap.size ≤ k_) ∧ k_ ≠ gb100 ∧ k_ ≠ gb101 ∧ k_ ≠ gb102 ∧ k_ ≠ gb117)) (HO_106.out) (fun k_ hk => ⟨hk.1.1, ⟨hk.1.2.1, ⟨hk.1.2.2.1, ⟨hk.1.2.2.2, hk.2⟩⟩⟩⟩))).2.1 (Kd.V_F (Kd.V_mono (ok' := (fun k_ => ((P0_1_ k_ ∨ P0_2_ k_ ∨ P1_1_ k_ ∨ P1_2_ k_) ∨ w.heap.size ≤ k_) ∧ k_ ≠ gb100 ∧ k_ ≠ gb101 ∧ k_ ≠ gb102 ∧ k_ ≠ gb117)) (HO_106.out) (fun k_ hk => ⟨hk.1.1, ⟨hk.1.2.1, ⟨hk.1.2.2.1, ⟨hk.1.2.2.2, hk.2⟩⟩⟩⟩))))) (Reps.none _ _))))
    intro v113 w49 ho50 hb hg_ hnew_
    clear hg_ hnew_
    (first | rw [← Ny109.out] at ho50 | (simp only [Int.reduceToNat] at ho50; rw [← Ny109.out] at ho50))
    replace HO_103 := am (Kd.V_elder' Z32 (Kd.N_base ho50) hb)
    replace HO_104 := am (Kd.V_elder' Z31 (Kd.N_base ho50) hb)
    replace HO_105 := am (Kd.V_elder' Z30 (Kd.N_base ho50) hb)
    replace HO_106 := am (Kd.V_elder' Z29 (Kd.N_base ho50) hb)
    have HO114 := am (Kd.N_lower ho50 (below_size Z3))
    replace BK100 := kB BK100 hb
    replace BK101 := kB BK101 hb
    replace BK102 := kB BK102 hb
    replace BK117 := kB BK117 hb
    replace HB := am (below_step Z3 hb)
    clear hb ho50
    obtain ⟨Ao51, co51, eo51⟩ := Kd.N_slice HO114.out
    (first | subst eo51 | (injection eo51 with f1_ f2_ f3_; have f4_ := f1_.symm; have f5_ := f3_.symm; clear f1_ f2_ f3_; subst f4_; subst f5_))
    refine hK.out _ _ ⟨bc BK100 0, bc BK100 1, bc BK100 2, bc BK101 0, bc BK101 1, bc BK101 2⟩ (fun hHeld => ?_)
    clear hK K
    refine norm_ (a' := ?_) ?_ ?_
    rotate_left
    ·
     show Act.put _ (some 41) _ = _
     simp only [Act.put, setIfInBounds_toArray, set_cons_zero, set_cons_succ, i64_w, i32_w]
     rfl
    refine one_ (i := 7) (N := some 42) (bA 11 767) rfl rfl (one_of HT_.out Z90) Z21 (fun K hK => ?_)
    refine goes_ Try.func27 Z90 rfl #[.slice Ao51 y109.length co51] Z62 rfl rfl Z91 ?_
    with_reducible refine (FJ.calls _ _ y109 t107 _ ?side1 ?side2 A45.out).mono ?_
    (case side1 => exact Z55)
    (case side2 => exact (Kd.N_reads' HO114.out).2.1)
    rintro e w52 ⟨v115, rfl, ho0, hb⟩
    refine ⟨_, rfl, ?_⟩
    replace HO_103 := am (Kd.V_elder' Z32 (Kd.R_base ho0) hb)
    replace HO_104 := am (Kd.V_elder' Z31 (Kd.R_base ho0) hb)
    replace HO_105 := am (Kd.V_elder' Z30 (Kd.R_base ho0) hb)
    replace HO_106 := am (Kd.V_elder' Z29 (Kd.R_base ho0) hb)
    replace HO114 := am (Kd.N_elder' Z39 (Kd.R_base ho0) hb)
    have HO116 := am (Kd.R_lower (Kd.R_newM (M := fun k_ => (w.heap.size ≤ k_)) ho0 (below_size Z3) (fun k_ h_ => h_)) (below_size Z3))
    replace BK100 := kB BK100 hb
    replace BK101 := kB BK101 hb
    replace BK102 := kB BK102 hb
    replace BK117 := kB BK117 hb
    replace HB := am (below_step Z3 hb)
    (try clear hb)
    (try clear hb2)
    (try clear hk)
    (try clear hi)
    (try clear ho0)
    obtain ⟨Ao53, co53, eo53⟩ := Kd.R_slice HO116.out
    (first | subst eo53 | (injection eo53 with f1_ f2_ f3_; have f4_ := f1_.symm; have f5_ := f3_.symm; clear f1_ f2_ f3_; subst f4_; subst f5_))
    refine hK.out _ _ ⟨bc BK100 0, bc BK100 1, bc BK100 2, bc BK101 0, bc BK101 1, bc BK101 2⟩ (fun hHeld => ?_)
    clear hK K
    refine norm_ (a' := ?_) ?_ ?_
    rotate_left
    ·
     show Act.put _ (some 42) _ = _
     simp only [Act.put, setIfInBounds_toArray, set_cons_zero, set_cons_succ, i64_w, i32_w]
     rfl
    refine pS 8 43 (bA 11 1023) ?_
    exact norm_ Z92 (hCont (.slice Ao51 y109.length co51, .slice Ao53 t107.length co53, gb117) _ ⟨hHeld, (by (with_reducible repeat (first | apply Kd.N_alloc | apply Kd.N_drewN | apply Kd.N_drew)); exact Kd.N_mono HO114.out (fun _ hk => ⟨hk.1.1, ⟨hk.2, ⟨hk.1.2.1, ⟨hk.1.2.2.1, ⟨hk.1.2.2.2.1, hk.1.2.2.2.2⟩⟩⟩⟩⟩)), Z68, (by (with_reducible repeat (first | apply Kd.V_alloc | apply Kd.V_drewN | apply Kd.V_drew)); exact Kd.V_mono HO_103.out (fun _ hk => ⟨hk.1.1.1.1, ⟨hk.1.2, ⟨hk.2, ⟨hk.1.1.1.2.1, ⟨hk.1.1.1.2.2.1, ⟨hk.1.1.1.2.2.2, hk.1.1.2⟩⟩⟩⟩⟩⟩)), (by (with_reducible repeat (first | apply Kd.V_alloc | apply Kd.V_drewN | apply Kd.V_drew)); exact Kd.V_mono HO_104.out (fun _ hk => ⟨hk.1.1.1.1, ⟨hk.1.2, ⟨hk.2, ⟨hk.1.1.1.2.1, ⟨hk.1.1.1.2.2.1, ⟨hk.1.1.1.2.2.2, hk.1.1.2⟩⟩⟩⟩⟩⟩)), (by (with_reducible repeat (first | apply Kd.V_alloc | apply Kd.V_drewN | apply Kd.V_drew)); exact Kd.V_mono HO_105.out (fun _ hk => ⟨hk.1.1.1.1, ⟨hk.1.2, ⟨hk.2, ⟨hk.1.1.1.2.1, ⟨hk.1.1.1.2.2.1, ⟨hk.1.1.1.2.2.2, hk.1.1.2⟩⟩⟩⟩⟩⟩)), (by (with_reducible repeat (first | apply Kd.V_alloc | apply Kd.V_drewN | apply Kd.V_drew)); exact Kd.V_mono HO_106.out (fun _ hk => ⟨hk.1.1.1.1, ⟨hk.1.2, ⟨hk.2, ⟨hk.1.1.1.2.1, ⟨hk.1.1.1.2.2.1, ⟨hk.1.1.1.2.2.2, hk.1.1.2⟩⟩⟩⟩⟩⟩)), (uK BK100), (uK BK101), (uK BK102), (uK BK117), GW117.out, GE117.out, NB100_117.out, NB117_100.out, NB101_117.out, NB117_101.out, NB102_117.out, NB117_102.out, Z3⟩)
   rintro ⟨v113, v115, gb117⟩ w54 ⟨hS_, h0_, h1_, h2_, h3_, h4_, h5_, h6_, h7_, h8_, h9_, h10_, h11_, h12_, h13_, h14_, h15_, h16_, h17_, h18_⟩
   have n0_ : Aside0 (Kd.N (Kd.slice 4 Kd.bool) 23 w54 w.heap.size (fun k_ => ((P0_1_ k_ ∨ P0_2_ k_ ∨ P1_1_ k_ ∨ P1_2_ k_) ∨ w.heap.size ≤ k_) ∧ some k_ ≠ (v115 : Value).ownBlock ∧ k_ ≠ gb100 ∧ k_ ≠ gb101 ∧ k_ ≠ gb102 ∧ k_ ≠ gb117) v113 y109) := ⟨h0_⟩
   have n1_ : Aside0 (Kd.R Kd.bool 4 w54 w.heap.size (fun k_ => (w.heap.size ≤ k_)) v115 t107) := ⟨h1_⟩
   have n2_ : Aside0 (Kd.V k53 53 w54 w.heap.size (fun k_ => ((P0_1_ k_ ∨ P0_2_ k_ ∨ P1_1_ k_ ∨ P1_2_ k_) ∨ w.heap.size ≤ k_) ∧ some k_ ≠ (v113 : Value).ownBlock ∧ some k_ ≠ (v115 : Value).ownBlock ∧ k_ ≠ gb100 ∧ k_ ≠ gb101 ∧ k_ ≠ gb102 ∧ k_ ≠ gb117) (.slice A0_1 l0_1.length c0_1) l0_1) := ⟨h2_⟩
   have n3_ : Aside0 (Kd.V Kd.bool 4 w54 w.heap.size (fun k_ => ((P0_1_ k_ ∨ P0_2_ k_ ∨ P1_1_ k_ ∨ P1_2_ k_) ∨ w.heap.size ≤ k_) ∧ some k_ ≠ (v113 : Value).ownBlock ∧ some k_ ≠ (v115 : Value).ownBlock ∧ k_ ≠ gb100 ∧ k_ ≠ gb101 ∧ k_ ≠ gb102 ∧ k_ ≠ gb117) (.slice A0_2 l0_2.length c0_2) l0_2) := ⟨h3_⟩
   have n4_ : Aside0 (Kd.V k53 53 w54 w.heap.size (fun k_ => ((P0_1_ k_ ∨ P0_2_ k_ ∨ P1_1_ k_ ∨ P1_2_ k_) ∨ w.heap.size ≤ k_) ∧ some k_ ≠ (v113 : Value).ownBlock ∧ some k_ ≠ (v115 : Value).ownBlock ∧ k_ ≠ gb100 ∧ k_ ≠ gb101 ∧ k_ ≠ gb102 ∧ k_ ≠ gb117) (.slice A1_1 l1_1.length c1_1) l1_1) := ⟨h4_⟩
   have n5_ : Aside0 (Kd.V Kd.bool 4 w54 w.heap.size (fun k_ => ((P0_1_ k_ ∨ P0_2_ k_ ∨ P1_1_ k_ ∨ P1_2_ k_) ∨ w.heap.size ≤ k_) ∧ some k_ ≠ (v113 : Value).ownBlock ∧ some k_ ≠ (v115 : Value).ownBlock ∧ k_ ≠ gb100 ∧ k_ ≠ gb101 ∧ k_ ≠ gb102 ∧ k_ ≠ gb117) (.slice A1_2 l1_2.length c1_2) l1_2) := ⟨h5_⟩
   have n6_ : Aside0 (w54.heap[gb100]? = some (.cells #[.int .i64 a0_0, .slice A0_1 l0_1.length c0_1, .slice A0_2 l0_2.length c0_2] 29 (0, 0))) := ⟨h6_⟩
   have n7_ : Aside0 (w54.heap[gb101]? = some (.cells #[.int .i64 a1_0, .slice A1_1 l1_1.length c1_1, .slice A1_2 l1_2.length c1_2] 29 (0, 0))) := ⟨h7_⟩
   have n8_ : Aside0 (w54.heap[gb102]? = some (.cells #[.int .i64 0, .slice none 0 0, .slice none 0 0] 29 (0, 0))) := ⟨h8_⟩
   have n9_ : Aside0 (w54.heap[gb117]? = some (.cells #[.int .i64 0, .slice none 0 0, .slice none 0 0] 29 (0, 0))) := ⟨h9_⟩
   have n10_ : Aside0 (w.heap.size ≤ gb117) := ⟨h10_⟩
   have n11_ : Aside0 (w.heap.size ≤ gb117) := ⟨h11_⟩
   have n12_ : Aside0 (gb100 ≠ gb117) := ⟨h12_⟩
   have n13_ : Aside0 (gb117 ≠ gb100) := ⟨h13_⟩
   have n14_ : Aside0 (gb101 ≠ gb117) := ⟨h14_⟩
   have n15_ : Aside0 (gb117 ≠ gb101) := ⟨h15_⟩
   have n16_ : Aside0 (gb102 ≠ gb117) := ⟨h16_⟩
   have n17_ : Aside0 (gb117 ≠ gb102) := ⟨h17_⟩
   have n18_ : Aside0 (Below w.heap.size w w54) := ⟨h18_⟩
   clear HO_103
   clear HO_104
   clear HO_105
   clear HO_106
   clear BK100
   clear BK101
   clear BK102
   clear HB
   clear h0_ h1_ h2_ h3_ h4_ h5_ h6_ h7_ h8_ h9_ h10_ h11_ h12_ h13_ h14_ h15_ h16_ h17_ h18_
   have HO114 := n0_
   have HO116 := n1_
   have HO_103 := n2_
   have HO_104 := n3_
   have HO_105 := n4_
   have HO_106 := n5_
   have BK100 := n6_
   have BK101 := n7_
   have BK102 := n8_
   have BK117 := n9_
   have GW117 := n10_
   have GE117 := n11_
   have GI117 := gI GE117
   have NB100_117 := n12_
   have NB117_100 := n13_
   have NB101_117 := n14_
   have NB117_101 := n15_
   have NB102_117 := n16_
   have NB117_102 := n17_
   have HB := n18_
   clear n0_ n1_ n2_ n3_ n4_ n5_ n6_ n7_ n8_ n9_ n10_ n11_ n12_ n13_ n14_ n15_ n16_ n17_ n18_
   have hHeld : w54.cell? ⟨gb100, 0, none⟩ = some (.int .i64 a0_0) ∧ w54.cell? ⟨gb100, 1, none⟩ = some (.slice A0_1 l0_1.length c0_1) ∧ w54.cell? ⟨gb100, 2, none⟩ = some (.slice A0_2 l0_2.length c0_2) ∧ w54.cell? ⟨gb101, 0, none⟩ = some (.int .i64 a1_0) ∧ w54.cell? ⟨gb101, 1, none⟩ = some (.slice A1_1 l1_1.length c1_1) ∧ w54.cell? ⟨gb101, 2, none⟩ = some (.slice A1_2 l1_2.length c1_2) := hS_
   obtain ⟨Ao55, co55, eo55⟩ := Kd.R_slice HO116.out
   (first | subst eo55 | (injection eo55 with f1_ f2_ f3_; have f4_ := f1_.symm; have f5_ := f3_.symm; clear f1_ f2_ f3_; subst f4_; subst f5_))
   refine norm_ (a' := ?_) ?_ ?_
   rotate_left
   ·
    simp only [putAll, Act.put, setIfInBounds_toArray, set_cons_zero, set_cons_succ]
    rfl
   refine one_ (i := 10) (N := none) (bA 11 2047) rfl rfl (one_of HT_.out Z90) Z21 (fun K hK => ?_)
   have hs56 : w54.cell? ⟨gb117, 0, none⟩ = some (.int .i64 0) := bc BK117 0
   have hfs56 := blk_frozen BK117.out 0
   have hns56_0 := NB100_117.out
   have hns56_1 := NB101_117.out
   have hns56_2 := NB102_117.out
   have hms56_0 := NB117_100.out
   have hms56_1 := NB117_101.out
   have hms56_2 := NB117_102.out
   have hs57 : w54.cell? ⟨gb117, 1, none⟩ = some (.slice none 0 0) := bc BK117 1
   have hfs57 := blk_frozen BK117.out 1
   have hns57_0 := NB100_117.out
   have hns57_1 := NB101_117.out
   have hns57_2 := NB102_117.out
   have hms57_0 := NB117_100.out
   have hms57_1 := NB117_101.out
   have hms57_2 := NB117_102.out
   have hs58 : w54.cell? ⟨gb117, 2, none⟩ = some (.slice none 0 0) := bc BK117 2
   have hfs58 := blk_frozen BK117.out 2
   have hns58_0 := NB100_117.out
   have hns58_1 := NB101_117.out
   have hns58_2 := NB102_117.out
   have hms58_0 := NB117_100.out
   have hms58_1 := NB117_101.out
   have hms58_2 := NB117_102.out
   refine skip_ (w1 := ?_) Z62 rfl ?_ ?_
   rotate_left
   ·
    go_simp
    rfl
   refine hK.out _ _ ⟨((cell_far (p := ⟨gb117, _, none⟩) NB100_117.out _).trans (((cell_far (p := ⟨gb117, _, none⟩) NB100_117.out _).trans (((cell_far (p := ⟨gb117, _, none⟩) NB100_117.out _).trans (hHeld.1)))))), ((cell_far (p := ⟨gb117, _, none⟩) NB100_117.out _).trans (((cell_far (p := ⟨gb117, _, none⟩) NB100_117.out _).trans (((cell_far (p := ⟨gb117, _, none⟩) NB100_117.out _).trans (hHeld.2.1)))))), ((cell_far (p := ⟨gb117, _, none⟩) NB100_117.out _).trans (((cell_far (p := ⟨gb117, _, none⟩) NB100_117.out _).trans (((cell_far (p := ⟨gb117, _, none⟩) NB100_117.out _).trans (hHeld.2.2.1)))))), ((cell_far (p := ⟨gb117, _, none⟩) NB101_117.out _).trans (((cell_far (p := ⟨gb117, _, none⟩) NB101_117.out _).trans (((cell_far (p := ⟨gb117, _, none⟩) NB101_117.out _).trans (hHeld.2.2.2.1)))))), ((cell_far (p := ⟨gb117, _, none⟩) NB101_117.out _).trans (((cell_far (p := ⟨gb117, _, none⟩) NB101_117.out _).trans (((cell_far (p := ⟨gb117, _, none⟩) NB101_117.out _).trans (hHeld.2.2.2.2.1)))))), ((cell_far (p := ⟨gb117, _, none⟩) NB101_117.out _).trans (((cell_far (p := ⟨gb117, _, none⟩) NB101_117.out _).trans (((cell_far (p := ⟨gb117, _, none⟩) NB101_117.out _).trans (hHeld.2.2.2.2.2))))))⟩ (fun hHeld => ?_)
   clear hK K
   refine done_ (done_of HT_.out Z90) ?_
   have n0_ : Aside0 (Kd.V k53 53 (((w54.setCell ⟨gb117, 0, none⟩ (.int .i64 a0_0)).setCell ⟨gb117, 1, none⟩ (.slice none 0 0)).setCell ⟨gb117, 2, none⟩ (.slice Ao55 t107.length co55)) w.heap.size (fun k_ => ((P0_1_ k_ ∨ P0_2_ k_ ∨ P1_1_ k_ ∨ P1_2_ k_) ∨ w.heap.size ≤ k_) ∧ some k_ ≠ (v113 : Value).ownBlock ∧ some k_ ≠ (.slice Ao55 t107.length co55 : Value).ownBlock ∧ k_ ≠ gb100 ∧ k_ ≠ gb101 ∧ k_ ≠ gb102 ∧ k_ ≠ gb117) (.slice A0_1 l0_1.length c0_1) l0_1) := ⟨by (with_reducible repeat (first | apply Kd.V_alloc | apply Kd.V_drewN | apply Kd.V_drew)); exact Kd.V_mono (Kd.V_far (p := ⟨gb117, 2, none⟩) (Kd.V_far (p := ⟨gb117, 1, none⟩) (Kd.V_far (p := ⟨gb117, 0, none⟩) (Kd.V_mono HO_103.out (fun k_ hk => (⟨hk, hk.2.2.2.2.2.2⟩ : _ ∧ k_ ≠ gb117))) (fun _ hk => hk.2) (.int .i64 a0_0)) (fun _ hk => hk.2) (.slice none 0 0)) (fun _ hk => hk.2) (.slice Ao55 t107.length co55)) (fun _ hk => ⟨hk.1.1, ⟨hk.1.2.1, ⟨hk.1.2.2.1, ⟨hk.1.2.2.2.1, ⟨hk.1.2.2.2.2.1, ⟨hk.1.2.2.2.2.2.1, hk.1.2.2.2.2.2.2⟩⟩⟩⟩⟩⟩)⟩
   have n1_ : Aside0 (Kd.V Kd.bool 4 (((w54.setCell ⟨gb117, 0, none⟩ (.int .i64 a0_0)).setCell ⟨gb117, 1, none⟩ (.slice none 0 0)).setCell ⟨gb117, 2, none⟩ (.slice Ao55 t107.length co55)) w.heap.size (fun k_ => ((P0_1_ k_ ∨ P0_2_ k_ ∨ P1_1_ k_ ∨ P1_2_ k_) ∨ w.heap.size ≤ k_) ∧ some k_ ≠ (v113 : Value).ownBlock ∧ some k_ ≠ (.slice Ao55 t107.length co55 : Value).ownBlock ∧ k_ ≠ gb100 ∧ k_ ≠ gb101 ∧ k_ ≠ gb102 ∧ k_ ≠ gb117) (.slice A0_2 l0_2.length c0_2) l0_2) := ⟨by (with_reducible repeat (first | apply Kd.V_alloc | apply Kd.V_drewN | apply Kd.V_drew)); exact Kd.V_mono (Kd.V_far (p := ⟨gb117, 2, none⟩) (Kd.V_far (p := ⟨gb117, 1, none⟩) (Kd.V_far (p := ⟨gb117, 0, none⟩) (Kd.V_mono HO_104.out (fun k_ hk => (⟨hk, hk.2.2.2.2.2.2⟩ : _ ∧ k_ ≠ gb117))) (fun _ hk => hk.2) (.int .i64 a0_0)) (fun _ hk => hk.2) (.slice none 0 0)) (fun _ hk => hk.2) (.slice Ao55 t107.length co55)) (fun _ hk => ⟨hk.1.1, ⟨hk.1.2.1, ⟨hk.1.2.2.1, ⟨hk.1.2.2.2.1, ⟨hk.1.2.2.2.2.1, ⟨hk.1.2.2.2.2.2.1, hk.1.2.2.2.2.2.2⟩⟩⟩⟩⟩⟩)⟩
   have n2_ : Aside0 (Kd.V k53 53 (((w54.setCell ⟨gb117, 0, none⟩ (.int .i64 a0_0)).setCell ⟨gb117, 1, none⟩ (.slice none 0 0)).setCell ⟨gb117, 2, none⟩ (.slice Ao55 t107.length co55)) w.heap.size (fun k_ => ((P0_1_ k_ ∨ P0_2_ k_ ∨ P1_1_ k_ ∨ P1_2_ k_) ∨ w.heap.size ≤ k_) ∧ some k_ ≠ (v113 : Value).ownBlock ∧ some k_ ≠ (.slice Ao55 t107.length co55 : Value).ownBlock ∧ k_ ≠ gb100 ∧ k_ ≠ gb101 ∧ k_ ≠ gb102 ∧ k_ ≠ gb117) (.slice A1_1 l1_1.length c1_1) l1_1) := ⟨by (with_reducible repeat (first | apply Kd.V_alloc | apply Kd.V_drewN | apply Kd.V_drew)); exact Kd.V_mono (Kd.V_far (p := ⟨gb117, 2, none⟩) (Kd.V_far (p := ⟨gb117, 1, none⟩) (Kd.V_far (p := ⟨gb117, 0, none⟩) (Kd.V_mono HO_105.out (fun k_ hk => (⟨hk, hk.2.2.2.2.2.2⟩ : _ ∧ k_ ≠ gb117))) (fun _ hk => hk.2) (.int .i64 a0_0)) (fun _ hk => hk.2) (.slice none 0 0)) (fun _ hk => hk.2) (.slice Ao55 t107.length co55)) (fun _ hk => ⟨hk.1.1, ⟨hk.1.2.1, ⟨hk.1.2.2.1, ⟨hk.1.2.2.2.1, ⟨hk.1.2.2.2.2.1, ⟨hk.1.2.2.2.2.2.1, hk.1.2.2.2.2.2.2⟩⟩⟩⟩⟩⟩)⟩
   have n3_ : Aside0 (Kd.V Kd.bool 4 (((w54.setCell ⟨gb117, 0, none⟩ (.int .i64 a0_0)).setCell ⟨gb117, 1, none⟩ (.slice none 0 0)).setCell ⟨gb117, 2, none⟩ (.slice Ao55 t107.length co55)) w.heap.size (fun k_ => ((P0_1_ k_ ∨ P0_2_ k_ ∨ P1_1_ k_ ∨ P1_2_ k_) ∨ w.heap.size ≤ k_) ∧ some k_ ≠ (v113 : Value).ownBlock ∧ some k_ ≠ (.slice Ao55 t107.length co55 : Value).ownBlock ∧ k_ ≠ gb100 ∧ k_ ≠ gb101 ∧ k_ ≠ gb102 ∧ k_ ≠ gb117) (.slice A1_2 l1_2.length c1_2) l1_2) := ⟨by (with_reducible repeat (first | apply Kd.V_alloc | apply Kd.V_drewN | apply Kd.V_drew)); exact Kd.V_mono (Kd.V_far (p := ⟨gb117, 2, none⟩) (Kd.V_far (p := ⟨gb117, 1, none⟩) (Kd.V_far (p := ⟨gb117, 0, none⟩) (Kd.V_mono HO_106.out (fun k_ hk => (⟨hk, hk.2.2.2.2.2.2⟩ : _ ∧ k_ ≠ gb117))) (fun _ hk => hk.2) (.int .i64 a0_0)) (fun _ hk => hk.2) (.slice none 0 0)) (fun _ hk => hk.2) (.slice Ao55 t107.length co55)) (fun _ hk => ⟨hk.1.1, ⟨hk.1.2.1, ⟨hk.1.2.2.1, ⟨hk.1.2.2.2.1, ⟨hk.1.2.2.2.2.1, ⟨hk.1.2.2.2.2.2.1, hk.1.2.2.2.2.2.2⟩⟩⟩⟩⟩⟩)⟩
   have n4_ : Aside0 (Kd.N (Kd.slice 4 Kd.bool) 23 (((w54.setCell ⟨gb117, 0, none⟩ (.int .i64 a0_0)).setCell ⟨gb117, 1, none⟩ (.slice none 0 0)).setCell ⟨gb117, 2, none⟩ (.slice Ao55 t107.length co55)) w.heap.size (fun k_ => ((P0_1_ k_ ∨ P0_2_ k_ ∨ P1_1_ k_ ∨ P1_2_ k_) ∨ w.heap.size ≤ k_) ∧ some k_ ≠ (.slice Ao55 t107.length co55 : Value).ownBlock ∧ k_ ≠ gb100 ∧ k_ ≠ gb101 ∧ k_ ≠ gb102 ∧ k_ ≠ gb117) v113 y109) := ⟨by (with_reducible repeat (first | apply Kd.N_alloc | apply Kd.N_drewN | apply Kd.N_drew)); exact Kd.N_mono (Kd.N_far (p := ⟨gb117, 2, none⟩) (Kd.N_far (p := ⟨gb117, 1, none⟩) (Kd.N_far (p := ⟨gb117, 0, none⟩) (Kd.N_mono HO114.out (fun k_ hk => (⟨hk, hk.2.2.2.2.2⟩ : _ ∧ k_ ≠ gb117))) (fun _ hk => hk.2) (.int .i64 a0_0)) (fun _ hk => hk.2) (.slice none 0 0)) (fun _ hk => hk.2) (.slice Ao55 t107.length co55)) (fun _ hk => ⟨hk.1.1, ⟨hk.1.2.1, ⟨hk.1.2.2.1, ⟨hk.1.2.2.2.1, ⟨hk.1.2.2.2.2.1, hk.1.2.2.2.2.2⟩⟩⟩⟩⟩)⟩
   have n5_ : Aside0 (Kd.R Kd.bool 4 (((w54.setCell ⟨gb117, 0, none⟩ (.int .i64 a0_0)).setCell ⟨gb117, 1, none⟩ (.slice none 0 0)).setCell ⟨gb117, 2, none⟩ (.slice Ao55 t107.length co55)) w.heap.size (fun k_ => (w.heap.size ≤ k_)) (.slice Ao55 t107.length co55) t107) := ⟨by (with_reducible repeat (first | apply Kd.R_alloc | apply Kd.R_drewN | apply Kd.R_drew)); exact Kd.R_mono (fT HO116 BK117 Z21) (fun _ hk => hk.1)⟩
   have n6_ : Aside0 ((((w54.setCell ⟨gb117, 0, none⟩ (.int .i64 a0_0)).setCell ⟨gb117, 1, none⟩ (.slice none 0 0)).setCell ⟨gb117, 2, none⟩ (.slice Ao55 t107.length co55)).heap[gb100]? = some (.cells #[.int .i64 a0_0, .slice A0_1 l0_1.length c0_1, .slice A0_2 l0_2.length c0_2] 29 (0, 0))) := ⟨pf NB100_117 (pf NB100_117 (pf NB100_117 (pb BK100)))⟩
   have n7_ : Aside0 ((((w54.setCell ⟨gb117, 0, none⟩ (.int .i64 a0_0)).setCell ⟨gb117, 1, none⟩ (.slice none 0 0)).setCell ⟨gb117, 2, none⟩ (.slice Ao55 t107.length co55)).heap[gb101]? = some (.cells #[.int .i64 a1_0, .slice A1_1 l1_1.length c1_1, .slice A1_2 l1_2.length c1_2] 29 (0, 0))) := ⟨pf NB101_117 (pf NB101_117 (pf NB101_117 (pb BK101)))⟩
   have n8_ : Aside0 ((((w54.setCell ⟨gb117, 0, none⟩ (.int .i64 a0_0)).setCell ⟨gb117, 1, none⟩ (.slice none 0 0)).setCell ⟨gb117, 2, none⟩ (.slice Ao55 t107.length co55)).heap[gb102]? = some (.cells #[.int .i64 0, .slice none 0 0, .slice none 0 0] 29 (0, 0))) := ⟨pf NB102_117 (pf NB102_117 (pf NB102_117 (pb BK102)))⟩
   have n9_ : Aside0 ((((w54.setCell ⟨gb117, 0, none⟩ (.int .i64 a0_0)).setCell ⟨gb117, 1, none⟩ (.slice none 0 0)).setCell ⟨gb117, 2, none⟩ (.slice Ao55 t107.length co55)).heap[gb117]? = some (.cells #[.int .i64 a0_0, .slice none 0 0, .slice Ao55 t107.length co55] 29 (0, 0))) := ⟨pT (pp 2 (pp 1 (pp 0 (pb BK117))))⟩
   have n10_ : Aside0 (Below w.heap.size w (((w54.setCell ⟨gb117, 0, none⟩ (.int .i64 a0_0)).setCell ⟨gb117, 1, none⟩ (.slice none 0 0)).setCell ⟨gb117, 2, none⟩ (.slice Ao55 t107.length co55))) := ⟨Z3⟩
   (try clear HO_103)
   (try clear HO_104)
   (try clear HO_105)
   (try clear HO_106)
   (try clear HO114)
   (try clear HO116)
   (try clear BK100)
   (try clear BK101)
   (try clear BK102)
   (try clear BK117)
   (try clear HB)
   generalize (((w54.setCell ⟨gb117, 0, none⟩ (.int .i64 a0_0)).setCell ⟨gb117, 1, none⟩ (.slice none 0 0)).setCell ⟨gb117, 2, none⟩ (.slice Ao55 t107.length co55)) = w59 at n0_ n1_ n2_ n3_ n4_ n5_ n6_ n7_ n8_ n9_ n10_ ⊢
   have HO_103 := n0_
   have HO_104 := n1_
   have HO_105 := n2_
   have HO_106 := n3_
   have HO114 := n4_
   have HO116 := n5_
   have BK100 := n6_
   have BK101 := n7_
   have BK102 := n8_
   have BK117 := n9_
   have HB := n10_
   clear n0_ n1_ n2_ n3_ n4_ n5_ n6_ n7_ n8_ n9_ n10_
   have hnb60 := NB100_101.out
   have hnc60 := NB101_100.out
   have hnb61 := NB100_102.out
   have hnc61 := NB102_100.out
   have hnb62 := NB100_117.out
   have hnc62 := NB117_100.out
   obtain ⟨hcz63_0, hcz63_1, hcz63_2, hfz63_0, hfz63_1, hfz63_2⟩ := ce3 BK100
   have hnb64 := NB101_102.out
   have hnc64 := NB102_101.out
   have hnb65 := NB101_117.out
   have hnc65 := NB117_101.out
   obtain ⟨hcz66_0, hcz66_1, hcz66_2, hfz66_0, hfz66_1, hfz66_2⟩ := ce3 BK101
   try go_wp2_with (first | ((with_reducible refine gate_dst (N := 48) rfl ?_); (try (refine gate_guard Z62 ?_; dsimp only)); refine Kd.N_lit (Kd.slice 53 k53) _ 27 ?hg (N' := 48) ?hd (xs := ([l0_1, l1_1] : List (List (S53)))) (inner := [.slice A0_1 l0_1.length c0_1, .slice A1_1 l1_1.length c1_1]) (ok := (fun k_ => ((P0_1_ k_ ∨ P0_2_ k_ ∨ P1_1_ k_ ∨ P1_2_ k_) ∨ w.heap.size ≤ k_) ∧ some k_ ≠ (v113 : Value).ownBlock ∧ some k_ ≠ (.slice Ao55 t107.length co55 : Value).ownBlock ∧ k_ ≠ gb100 ∧ k_ ≠ gb101 ∧ k_ ≠ gb102 ∧ k_ ≠ gb117)) (okp := (fun k_ => ((P0_1_ k_ ∨ P0_2_ k_ ∨ P1_1_ k_ ∨ P1_2_ k_) ∨ w.heap.size ≤ k_) ∧ some k_ ≠ (v113 : Value).ownBlock ∧ some k_ ≠ (.slice Ao55 t107.length co55 : Value).ownBlock ∧ k_ ≠ gb100 ∧ k_ ≠ gb101 ∧ k_ ≠ gb102 ∧ k_ ≠ gb117)) ?hr ?hp (fun _ hk => hk) ((show ∀ k_, w59.heap.size ≤ k_ → (fun k_ => ((P0_1_ k_ ∨ P0_2_ k_ ∨ P1_1_ k_ ∨ P1_2_ k_) ∨ w.heap.size ≤ k_) ∧ some k_ ≠ (v113 : Value).ownBlock ∧ some k_ ≠ (.slice Ao55 t107.length co55 : Value).ownBlock ∧ k_ ≠ gb100 ∧ k_ ≠ gb101 ∧ k_ ≠ gb102 ∧ k_ ≠ gb117) k_ from fun k_ hk => ⟨(.inr (Nat.le_trans (below_size Z3) hk)), Kd.fresh' (Kd.N_lt Z39) k_ hk, Kd.fresh' (Kd.R_lt (uR HO116)) k_ hk, Kd.freshB (g := gb100) (o := .cells #[.int .i64 a0_0, .slice A0_1 l0_1.length c0_1, .slice A0_2 l0_2.length c0_2] 29 (0, 0)) (uK BK100) k_ hk, Kd.freshB (g := gb101) (o := .cells #[.int .i64 a1_0, .slice A1_1 l1_1.length c1_1, .slice A1_2 l1_2.length c1_2] 29 (0, 0)) (uK BK101) k_ hk, Kd.freshB (g := gb102) (o := .cells #[.int .i64 0, .slice none 0 0, .slice none 0 0] 29 (0, 0)) (uK BK102) k_ hk, Kd.freshB (g := gb117) (o := .cells #[.int .i64 a0_0, .slice none 0 0, .slice Ao55 t107.length co55] 29 (0, 0)) (uK BK117) k_ hk⟩) _ (Nat.le_refl _)) (Below.refl _ _) (Nat.le_refl _) Z65 ?_; (case hd => rfl); (case hg => rfl); (case hr => exact Z88); (case hp => exact (Reps.one (show Kd.FK (Kd.slice 53 k53) _ _ l0_1 [.slice A0_1 l0_1.length c0_1] from (Kd.FK_slice_mk (Kd.V_reads' (Kd.V_mono (ok' := (fun k_ => ((P0_1_ k_ ∨ P0_2_ k_ ∨ P1_1_ k_ ∨ P1_2_ k_) ∨ w.heap.size ≤ k_) ∧ some k_ ≠ (v113 : Value).ownBlock ∧ some k_ ≠ (.slice Ao55 t107.length co55 : Value).ownBlock ∧ k_ ≠ gb100 ∧ k_ ≠ gb101 ∧ k_ ≠ gb102 ∧ k_ ≠ gb117)) (HO_103.out) (fun k_ hk => ⟨hk.1, ⟨hk.2.1, ⟨hk.2.2.1, ⟨hk.2.2.2.1, ⟨hk.2.2.2.2.1, ⟨hk.2.2.2.2.2.1, hk.2.2.2.2.2.2⟩⟩⟩⟩⟩⟩))).2.1 (Kd.V_F (Kd.V_mono (ok' := (fun k_ => ((P0_1_ k_ ∨ P0_2_ k_ ∨ P1_1_ k_ ∨ P1_2_ k_) ∨ w.heap.size ≤ k_) ∧ some k_ ≠ (v113 : Value).ownBlock ∧ some k_ ≠ (.slice Ao55 t107.length co55 : Value).ownBlock ∧ k_ ≠ gb100 ∧ k_ ≠ gb101 ∧ k_ ≠ gb102 ∧ k_ ≠ gb117)) (HO_103.out) (fun k_ hk => ⟨hk.1, ⟨hk.2.1, ⟨hk.2.2.1, ⟨hk.2.2.2.1, ⟨hk.2.2.2.2.1, ⟨hk.2.2.2.2.2.1, hk.2.2.2.2.2.2⟩⟩⟩⟩⟩⟩))))) (Reps.one (show Kd.FK (Kd.slice 53 k53) _ _ l1_1 [.slice A1_1 l1_1.length c1_1] from (Kd.FK_slice_mk (Kd.V_reads' (Kd.V_mono (ok' := (fun k_ => ((P0_1_ k_ ∨ P0_2_ k_ ∨ P1_1_ k_ ∨ P1_2_ k_) ∨ w.heap.size ≤ k_) ∧ some k_ ≠ (v113 : Value).ownBlock ∧ some k_ ≠ (.slice Ao55 t107.length co55 : Value).ownBlock ∧ k_ ≠ gb100 ∧ k_ ≠ gb101 ∧ k_ ≠ gb102 ∧ k_ ≠ gb117)) (HO_105.out) (fun k_ hk => ⟨hk.1, ⟨hk.2.1, ⟨hk.2.2.1, ⟨hk.2.2.2.1, ⟨hk.2.2.2.2.1, ⟨hk.2.2.2.2.2.1, hk.2.2.2.2.2.2⟩⟩⟩⟩⟩⟩))).2.1 (Kd.V_F (Kd.V_mono (ok' := (fun k_ => ((P0_1_ k_ ∨ P0_2_ k_ ∨ P1_1_ k_ ∨ P1_2_ k_) ∨ w.heap.size ≤ k_) ∧ some k_ ≠ (v113 : Value).ownBlock ∧ some k_ ≠ (.slice Ao55 t107.length co55 : Value).ownBlock ∧ k_ ≠ gb100 ∧ k_ ≠ gb101 ∧ k_ ≠ gb102 ∧ k_ ≠ gb117)) (HO_105.out) (fun k_ hk => ⟨hk.1, ⟨hk.2.1, ⟨hk.2.2.1, ⟨hk.2.2.2.1, ⟨hk.2.2.2.2.1, ⟨hk.2.2.2.2.2.1, hk.2.2.2.2.2.2⟩⟩⟩⟩⟩⟩))))) (Reps.none _ _)))); intro v118 w67 ho68 hb hg_ hnew_; clear hg_ hnew_; (first | rw [← Ny111.out] at ho68 | (simp only [Int.reduceToNat] at ho68; rw [← Ny111.out] at ho68)); replace HO_103 := am (Kd.V_elder' Z32 (Kd.N_base ho68) hb); replace HO_104 := am (Kd.V_elder' Z31 (Kd.N_base ho68) hb); replace HO_105 := am (Kd.V_elder' Z30 (Kd.N_base ho68) hb); replace HO_106 := am (Kd.V_elder' Z29 (Kd.N_base ho68) hb); replace HO114 := am (Kd.N_elder' Z39 (Kd.N_base ho68) hb); replace HO116 := rB HO116 hb; have HO119 := am (Kd.N_lower ho68 (below_size Z3)); replace BK100 := kB BK100 hb; replace BK101 := kB BK101 hb; replace BK102 := kB BK102 hb; replace BK117 := kB BK117 hb; replace HB := am (below_step Z3 hb); clear hb ho68; obtain ⟨Ao69, co69, eo69⟩ := Kd.N_slice HO119.out; subst eo69) | ((with_reducible refine gate_callee (f := 28) rfl ?_); refine gL 49 rfl Try.func28 #[.slice Ao69 y111.length co69] ?_; (with_reducible refine (FM.calls (fun k_ => (((P0_1_ k_ ∨ P0_2_ k_ ∨ P1_1_ k_ ∨ P1_2_ k_) ∨ w.heap.size ≤ k_) ∧ (some k_ ≠ (v113 : Value).ownBlock ∧ (some k_ ≠ (.slice Ao55 t107.length co55 : Value).ownBlock ∧ (k_ ≠ gb100 ∧ (k_ ≠ gb101 ∧ (k_ ≠ gb102 ∧ k_ ≠ gb117))))))) _ _ y111 t108 _ ?side1 A46.out).mono ?_); (case side1 => exact Kd.N_V (HO119.out)); rintro e w70 ⟨v120, rfl, ho0, hb⟩; refine ⟨_, rfl, ?_⟩; replace HO_103 := am (Kd.V_below Z32 hb); replace HO_104 := am (Kd.V_below Z31 hb); replace HO_105 := am (Kd.V_below Z30 hb); replace HO_106 := am (Kd.V_below Z29 hb); replace HO119 := am (Kd.N_below (by (with_reducible repeat (first | apply Kd.N_alloc | apply Kd.N_drewN | apply Kd.N_drew)); exact HO119.out) hb); have HO121 := am (Kd.V_lower (Kd.V_mono (ok' := fun k_ => ((P0_1_ k_ ∨ P0_2_ k_ ∨ P1_1_ k_ ∨ P1_2_ k_) ∨ w.heap.size ≤ k_) ∧ some k_ ≠ (v113 : Value).ownBlock ∧ some k_ ≠ (.slice Ao55 t107.length co55 : Value).ownBlock ∧ k_ ≠ gb100 ∧ k_ ≠ gb101 ∧ k_ ≠ gb102 ∧ k_ ≠ gb117) ho0 (fun k_ hk_ => ⟨Or.elim hk_ (fun hs_ => hs_.1) (fun hn_ => (.inr (Nat.le_trans (below_size Z3) hn_))), Or.elim hk_ (fun hs_ => hs_.2.1) (fun hn_ => (Kd.fresh' (Kd.N_lt Z39) k_ hn_)), Or.elim hk_ (fun hs_ => hs_.2.2.1) (fun hn_ => (Kd.fresh' (Kd.R_lt (uR HO116)) k_ hn_)), Or.elim hk_ (fun hs_ => hs_.2.2.2.1) (fun hn_ => (Kd.freshB (g := gb100) (o := .cells #[.int .i64 a0_0, .slice A0_1 l0_1.length c0_1, .slice A0_2 l0_2.length c0_2] 29 (0, 0)) (uK BK100) k_ hn_)), Or.elim hk_ (fun hs_ => hs_.2.2.2.2.1) (fun hn_ => (Kd.freshB (g := gb101) (o := .cells #[.int .i64 a1_0, .slice A1_1 l1_1.length c1_1, .slice A1_2 l1_2.length c1_2] 29 (0, 0)) (uK BK101) k_ hn_)), Or.elim hk_ (fun hs_ => hs_.2.2.2.2.2.1) (fun hn_ => (Kd.freshB (g := gb102) (o := .cells #[.int .i64 0, .slice none 0 0, .slice none 0 0] 29 (0, 0)) (uK BK102) k_ hn_)), Or.elim hk_ (fun hs_ => hs_.2.2.2.2.2.2) (fun hn_ => (Kd.freshB (g := gb117) (o := .cells #[.int .i64 a0_0, .slice none 0 0, .slice Ao55 t107.length co55] 29 (0, 0)) (uK BK117) k_ hn_))⟩)) (below_size Z3)); replace HO114 := am (Kd.N_below Z39 hb); replace HO116 := rB HO116 hb; replace BK100 := kB BK100 hb; replace BK101 := kB BK101 hb; replace BK102 := kB BK102 hb; replace BK117 := kB BK117 hb; replace HB := am (below_step Z3 hb); (try clear hb); (try clear hb2); (try clear hk); (try clear hi); (try clear ho0); obtain ⟨Ao71, co71, eo71⟩ := Kd.V_slice HO121.out; subst eo71))
   go_loopg [51] kj2 (fun kq v51 w' => ∃ (x51_2 : Int) (x122_2 : List (S53)) (u122 : Value), v51 = .int .i64 x51_2 ∧ Aside0 (Fb.l0 kq t108 (t108.length : Int) x51_2 a0_0 x122_2 t107 = some (r1, r2, r3, r4)) ∧ Aside0 (kq ≤ kj2) ∧ Aside0 (Kd.V k53 53 w' w.heap.size (fun k_ => ((P0_1_ k_ ∨ P0_2_ k_ ∨ P1_1_ k_ ∨ P1_2_ k_) ∨ w.heap.size ≤ k_) ∧ some k_ ≠ (u122 : Value).ownBlock ∧ nb k_ Ao55 t107.length co55 ∧ k_ ≠ gb100 ∧ k_ ≠ gb101 ∧ k_ ≠ gb102 ∧ k_ ≠ gb117) (.slice Ao71 t108.length co71) t108) ∧ Aside0 (Kd.V k53 53 w' w.heap.size (fun k_ => ((P0_1_ k_ ∨ P0_2_ k_ ∨ P1_1_ k_ ∨ P1_2_ k_) ∨ w.heap.size ≤ k_) ∧ some k_ ≠ (u122 : Value).ownBlock ∧ nb k_ Ao55 t107.length co55 ∧ k_ ≠ gb100 ∧ k_ ≠ gb101 ∧ k_ ≠ gb102 ∧ k_ ≠ gb117) (.slice A0_1 l0_1.length c0_1) l0_1) ∧ Aside0 (Kd.V Kd.bool 4 w' w.heap.size (fun k_ => ((P0_1_ k_ ∨ P0_2_ k_ ∨ P1_1_ k_ ∨ P1_2_ k_) ∨ w.heap.size ≤ k_) ∧ some k_ ≠ (u122 : Value).ownBlock ∧ nb k_ Ao55 t107.length co55 ∧ k_ ≠ gb100 ∧ k_ ≠ gb101 ∧ k_ ≠ gb102 ∧ k_ ≠ gb117) (.slice A0_2 l0_2.length c0_2) l0_2) ∧ Aside0 (Kd.V k53 53 w' w.heap.size (fun k_ => ((P0_1_ k_ ∨ P0_2_ k_ ∨ P1_1_ k_ ∨ P1_2_ k_) ∨ w.heap.size ≤ k_) ∧ some k_ ≠ (u122 : Value).ownBlock ∧ nb k_ Ao55 t107.length co55 ∧ k_ ≠ gb100 ∧ k_ ≠ gb101 ∧ k_ ≠ gb102 ∧ k_ ≠ gb117) (.slice A1_1 l1_1.length c1_1) l1_1) ∧ Aside0 (Kd.V Kd.bool 4 w' w.heap.size (fun k_ => ((P0_1_ k_ ∨ P0_2_ k_ ∨ P1_1_ k_ ∨ P1_2_ k_) ∨ w.heap.size ≤ k_) ∧ some k_ ≠ (u122 : Value).ownBlock ∧ nb k_ Ao55 t107.length co55 ∧ k_ ≠ gb100 ∧ k_ ≠ gb101 ∧ k_ ≠ gb102 ∧ k_ ≠ gb117) (.slice A1_2 l1_2.length c1_2) l1_2) ∧ Aside0 (Kd.S k53 53 w' w.heap.size (fun k_ => (w.heap.size ≤ k_)) u122 x122_2) ∧ Aside0 (Kd.R Kd.bool 4 w' w.heap.size (fun k_ => (w.heap.size ≤ k_)) (.slice Ao55 t107.length co55) t107) ∧ Aside0 (w'.heap[gb100]? = some (.cells #[.int .i64 a0_0, (.slice A0_1 l0_1.length c0_1), (.slice A0_2 l0_2.length c0_2)] 29 (0, 0))) ∧ Aside0 (w'.heap[gb101]? = some (.cells #[.int .i64 a1_0, (.slice A1_1 l1_1.length c1_1), (.slice A1_2 l1_2.length c1_2)] 29 (0, 0))) ∧ Aside0 (w'.heap[gb102]? = some (.cells #[.int .i64 0, (.slice none 0 0), (.slice none 0 0)] 29 (0, 0))) ∧ Aside0 (w'.heap[gb117]? = some (.cells #[.int .i64 a0_0, u122, (.slice Ao55 t107.length co55)] 29 (0, 0))) ∧ Aside0 (Below w.heap.size w w'))
   case atStart => exact ⟨(0), (([] : List (S53))), (.slice none 0 0), Z87, H', ⟨Nat.le_refl _⟩, ⟨by (with_reducible repeat (first | apply Kd.V_alloc | apply Kd.V_drewN | apply Kd.V_drew)); exact Kd.V_mono HO121.out (fun _ hk => ⟨hk.1, ⟨Z96, ⟨hk.2.2.1, ⟨hk.2.2.2.1, ⟨hk.2.2.2.2.1, ⟨hk.2.2.2.2.2.1, hk.2.2.2.2.2.2⟩⟩⟩⟩⟩⟩)⟩, ⟨by (with_reducible repeat (first | apply Kd.V_alloc | apply Kd.V_drewN | apply Kd.V_drew)); exact Kd.V_mono HO_103.out (fun _ hk => ⟨hk.1.1, ⟨Z96, ⟨hk.1.2.2.1, ⟨hk.1.2.2.2.1, ⟨hk.1.2.2.2.2.1, ⟨hk.1.2.2.2.2.2.1, hk.1.2.2.2.2.2.2⟩⟩⟩⟩⟩⟩)⟩, ⟨by (with_reducible repeat (first | apply Kd.V_alloc | apply Kd.V_drewN | apply Kd.V_drew)); exact Kd.V_mono HO_104.out (fun _ hk => ⟨hk.1.1, ⟨Z96, ⟨hk.1.2.2.1, ⟨hk.1.2.2.2.1, ⟨hk.1.2.2.2.2.1, ⟨hk.1.2.2.2.2.2.1, hk.1.2.2.2.2.2.2⟩⟩⟩⟩⟩⟩)⟩, ⟨by (with_reducible repeat (first | apply Kd.V_alloc | apply Kd.V_drewN | apply Kd.V_drew)); exact Kd.V_mono HO_105.out (fun _ hk => ⟨hk.1.1, ⟨Z96, ⟨hk.1.2.2.1, ⟨hk.1.2.2.2.1, ⟨hk.1.2.2.2.2.1, ⟨hk.1.2.2.2.2.2.1, hk.1.2.2.2.2.2.2⟩⟩⟩⟩⟩⟩)⟩, ⟨by (with_reducible repeat (first | apply Kd.V_alloc | apply Kd.V_drewN | apply Kd.V_drew)); exact Kd.V_mono HO_106.out (fun _ hk => ⟨hk.1.1, ⟨Z96, ⟨hk.1.2.2.1, ⟨hk.1.2.2.2.1, ⟨hk.1.2.2.2.2.1, ⟨hk.1.2.2.2.2.2.1, hk.1.2.2.2.2.2.2⟩⟩⟩⟩⟩⟩)⟩, ⟨Z53⟩, ⟨by (with_reducible repeat (first | apply Kd.R_alloc | apply Kd.R_drewN | apply Kd.R_drew)); exact HO116.out⟩, ⟨pb BK100⟩, ⟨pb BK101⟩, ⟨pb BK102⟩, ⟨pb BK117⟩, ⟨Z3⟩⟩
   case round =>
    clear H'
    try clear c1
    try clear c2
    try clear p2
    try clear c6
    try clear c27
    try clear c28
    try clear c60
    try clear c61
    try clear c62
    try clear c64
    try clear c65
    try clear hcz63_0 hcz63_1 hcz63_2 hcz66_0 hcz66_1 hcz66_2
    try clear hfz63_0 hfz63_1 hfz63_2 hfz66_0 hfz66_1 hfz66_2
    try clear HO_49
    try clear HO_103
    try clear HO_104
    try clear HO_105
    try clear HO_106
    try clear HO_122
    try clear HO_123
    obtain ⟨x51_2, x122_2, u122, rfl, HA, HK2, HO_49, HO_103, HO_104, HO_105, HO_106, HO_122, HO_123, BK100, BK101, BK102, BK117, HB⟩ := hrel
    cases gk with
    | zero => exact absurd HA.out (by simp [Fb.l0])
    | succ k2 =>
     have H := HA.out
     clear HA
     simp only [Fb.l0] at H
     by_cases c72 : x51_2 < (t108.length : Int)
     rotate_left
     ·
      rw [if_neg c72] at H
      have c72b0 := decide_eq_false c72
      clear c72
      simp only [Option.some.injEq, Prod.mk.injEq] at H
      obtain ⟨rfl, rfl, rfl, rfl⟩ := H
      have hnb90 := NB117_100.out
      have hnc90 := NB100_117.out
      have hnb91 := NB117_101.out
      have hnc91 := NB101_117.out
      have hnb92 := NB117_102.out
      have hnc92 := NB102_117.out
      obtain ⟨hcz93_0, hcz93_1, hcz93_2, hfz93_0, hfz93_1, hfz93_2⟩ := ce3 BK117
      have hnb94 := NB102_100.out
      have hnc94 := NB100_102.out
      have hnb95 := NB102_101.out
      have hnc95 := NB101_102.out
      obtain ⟨hcz96_0, hcz96_1, hcz96_2, hfz96_0, hfz96_1, hfz96_2⟩ := ce3 BK102
      obtain ⟨Ao97, co97, eo97⟩ := Kd.S_slice HO_122.out
      subst eo97
      go_wp2
      refine bodyPost_ret (results_ct rfl _ _ gb102 29 #[.int .i64 a0_0, .slice Ao97 x122_2.length co97, .slice Ao55 t107.length co55] (0, 0) _ rfl (pT (pp 2 (pp 1 (pp 0 (pb BK102))))) Try.underlying29 rfl Z90) rfl ?_
      exact ⟨_, _, Z86, by (with_reducible repeat (first | apply Kd.S_alloc | apply Kd.S_drewN | apply Kd.S_drew)); exact Kd.S_mono (Kd.S_far (p := ⟨gb102, 2, none⟩) (Kd.S_far (p := ⟨gb102, 1, none⟩) (Kd.S_far (p := ⟨gb102, 0, none⟩) (Kd.S_types HO_122.out BK102.out Z21) (fun _ hk => hk.2) (.int .i64 a0_0)) (fun _ hk => hk.2) (.slice Ao97 x122_2.length co97)) (fun _ hk => hk.2) (.slice Ao55 t107.length co55)) (fun _ hk => hk.1), by (with_reducible repeat (first | apply Kd.R_alloc | apply Kd.R_drewN | apply Kd.R_drew)); exact Kd.R_mono (fT HO_123 BK102 Z21) (fun _ hk => hk.1), Z3⟩
     rw [if_pos c72] at H
     have c72b0 := decide_eq_true c72
     clear c72
     by_cases c73 : 0 ≤ x51_2
     rotate_left
     ·
      rw [if_neg c73] at H
      exact absurd H Z65
     rw [if_pos c73] at H
     have c73b0 := decide_eq_true c73
     clear c73
     by_cases c74 : x51_2 < (t108.length : Int)
     rotate_left
     ·
      rw [if_neg c74] at H
      exact absurd H Z65
     rw [if_pos c74] at H
     have c74b0 := decide_eq_true c74
     clear c74
     replace H := Option.bind_eq_some_iff.mp H
     obtain ⟨⟨t124, t125⟩, A126, H⟩ := H
     try dsimp only at H
     have A75 := am A126
     clear A126
     by_cases c76 : x122_2.length < 4398046511104
     rotate_left
     ·
      rw [if_neg c76] at H
      exact absurd H Z65
     rw [if_pos c76] at H
     have LMc76 := am c76
     clear c76
     obtain ⟨y127, hy127⟩ : ∃ y_ : List (S53), y_ = (x122_2 ++ [(⟨t124, t125⟩ : S53)]) := ⟨_, rfl⟩
     replace H : (Fb.l0 k2 t108 (t108.length : Int) (wrap64 (x51_2 + 1)) a0_0 y127 t107) = some (r1, r2, r3, r4) := by first | (rw [hy127]; with_reducible exact H) | (have H2_ := (Option.bind_some _ _).symm.trans H; rw [hy127]; with_reducible exact H2_) | (have H2_ := (Option.bind_some _ _).symm.trans H; with_reducible exact H2_) | with_reducible exact H | (rw [hy127]; exact H) | exact H
     have Ny127 := am hy127
     clear hy127
     have H' := am H
     clear H
     have p128 : 0 ≤ (x51_2 : Int) := of_decide_eq_true Z5
     have q128 : x51_2 < (t108.length : Int) := of_decide_eq_true Z5
     obtain ⟨ad128, A128_1, c128_1, e128, hx128_0, hx128_1, hl237_1, hi128_1⟩ := at_T53 (Kd.V_reads' HO_49.out).2.2 x51_2 p128 q128
     cases e128
     obtain ⟨ce237, hce237, hMe237, hcc237⟩ := Kd.V_get HO_49.out z53 x51_2 p128 (by first | exact q128 | exact of_decide_eq_true Z5 | (have e_ := (Kd.V_reads' HO_49.out).1; omega))
     obtain ⟨ua237_1, uc237_1, rfl, ul237_1, ge237_1⟩ := k53_openF hMe237
     have hv237_1 := hcc237 1 _ rfl
     rw [add_field _ _ 1 Z70] at hv237_1
     replace hv237_1 := Option.some.inj (hv237_1.symm.trans hx128_1)
     injection hv237_1 with hva_ hvn_ hvc_
     rw [hva_] at ge237_1
     rw [hvc_] at ul237_1
     have HL237_1 := am (show Kd.V (Kd.int .i64) 3 _ w.heap.size _ _ ((rd_T53 t108 x51_2).f1) from Kd.V_mk ul237_1 ge237_1)
     clear hva_ hvn_ hvc_ ge237_1 ul237_1
     clear hcc237 hce237
     have HR128_1 := am hi128_1
     have HC128_1 := am hl237_1
     clear hi128_1 hl237_1
     replace p128 := eq_true p128
     replace q128 := eq_true q128
     try go_wp2_with (first | ((with_reducible refine gate_dst (N := 8) rfl ?_); (try (refine gate_guard Z62 ?_; dsimp only)); refine box_event ?hg (N := 8) ?hd (cs := #[.int .i64 0, .slice none 0 0]) (t := 53) ?hr ?_; (case hd => rfl); (case hg => rfl); (case hr => exact Z88); intro gb129 hg w77 hbox hb; replace HO_49 := am (Kd.V_below (Kd.V_elderB Z81 gb129 (Nat.le_of_eq hg.symm)) hb); replace HO_103 := am (Kd.V_below (Kd.V_elderB Z32 gb129 (Nat.le_of_eq hg.symm)) hb); replace HO_104 := am (Kd.V_below (Kd.V_elderB Z31 gb129 (Nat.le_of_eq hg.symm)) hb); replace HO_105 := am (Kd.V_below (Kd.V_elderB Z30 gb129 (Nat.le_of_eq hg.symm)) hb); replace HO_106 := am (Kd.V_below (Kd.V_elderB Z29 gb129 (Nat.le_of_eq hg.symm)) hb); replace HO_122 := am (Kd.S_below (Kd.S_elderB Z74 gb129 (Nat.le_of_eq hg.symm)) hb); replace HO_123 := rB HO_123 hb; replace HL237_1 := am (Kd.V_below (Kd.V_elderB Z72 gb129 (Nat.le_of_eq hg.symm)) hb); replace HR128_1 := am (Kd.C_below (by repeat (first | (with_reducible exact HR128_1.out) | (with_reducible refine Kd.C_alloc ?_ _) | (with_reducible refine Kd.C_drewN ?_ _) | (with_reducible refine Kd.C_drew ?_) | exact HR128_1.out)) hb); have BK129 := am (hbox); have GW129 := am ((by rw [hg]; exact (below_size Z3) : w.heap.size ≤ gb129)); have GE129 := am ((by rw [hg]; exact (below_size Z3) : w.heap.size ≤ gb129)); replace HB := am (below_step Z3 hb); have NB100_129 := nL BK100 hg; have NB129_100 := nR BK100 hg; replace BK100 := kB BK100 hb; have NB101_129 := nL BK101 hg; have NB129_101 := nR BK101 hg; replace BK101 := kB BK101 hb; have NB102_129 := nL BK102 hg; have NB129_102 := nR BK102 hg; replace BK102 := kB BK102 hb; have NB117_129 := nL BK117 hg; have NB129_117 := nR BK117 hg; replace BK117 := kB BK117 hb; clear hb hbox hg; have hnb78 := NB129_100.out; have hnc78 := NB100_129.out; have hnb79 := NB129_101.out; have hnc79 := NB101_129.out; have hnb80 := NB129_102.out; have hnc80 := NB102_129.out; have hnb81 := NB129_117.out; have hnc81 := NB117_129.out; obtain ⟨hcz82_0, hcz82_1, hfz82_0, hfz82_1⟩ := ce2 BK129))
     have n0_ : Aside0 (Kd.V k53 53 ((w77.setCell ⟨gb129, 0, none⟩ (.int .i64 ((rd_T53 t108 x51_2).f0))).setCell ⟨gb129, 1, none⟩ (.slice A128_1 ((rd_T53 t108 x51_2).f1).length c128_1)) w.heap.size (fun k_ => ((P0_1_ k_ ∨ P0_2_ k_ ∨ P1_1_ k_ ∨ P1_2_ k_) ∨ w.heap.size ≤ k_) ∧ some k_ ≠ (u122 : Value).ownBlock ∧ some k_ ≠ (.slice Ao55 t107.length co55 : Value).ownBlock ∧ k_ ≠ gb100 ∧ k_ ≠ gb101 ∧ k_ ≠ gb102 ∧ k_ ≠ gb117 ∧ k_ ≠ gb129) (.slice (some ad128) t108.length co71) t108) := ⟨by (with_reducible repeat (first | apply Kd.V_alloc | apply Kd.V_drewN | apply Kd.V_drew)); exact Kd.V_mono (Kd.V_far (p := ⟨gb129, 1, none⟩) (Kd.V_far (p := ⟨gb129, 0, none⟩) (Kd.V_mono HO_49.out (fun k_ hk => (⟨hk, hk.2⟩ : _ ∧ k_ ≠ gb129))) (fun _ hk => hk.2) (.int .i64 ((rd_T53 t108 x51_2).f0))) (fun _ hk => hk.2) (.slice A128_1 ((rd_T53 t108 x51_2).f1).length c128_1)) (fun _ hk => ⟨hk.1.1.1, ⟨hk.1.1.2.1, ⟨hk.1.1.2.2.1, ⟨hk.1.1.2.2.2.1, ⟨hk.1.1.2.2.2.2.1, ⟨hk.1.1.2.2.2.2.2.1, ⟨hk.1.1.2.2.2.2.2.2, hk.1.2⟩⟩⟩⟩⟩⟩⟩)⟩
     have n1_ : Aside0 (Kd.V k53 53 ((w77.setCell ⟨gb129, 0, none⟩ (.int .i64 ((rd_T53 t108 x51_2).f0))).setCell ⟨gb129, 1, none⟩ (.slice A128_1 ((rd_T53 t108 x51_2).f1).length c128_1)) w.heap.size (fun k_ => ((P0_1_ k_ ∨ P0_2_ k_ ∨ P1_1_ k_ ∨ P1_2_ k_) ∨ w.heap.size ≤ k_) ∧ some k_ ≠ (u122 : Value).ownBlock ∧ some k_ ≠ (.slice Ao55 t107.length co55 : Value).ownBlock ∧ k_ ≠ gb100 ∧ k_ ≠ gb101 ∧ k_ ≠ gb102 ∧ k_ ≠ gb117 ∧ k_ ≠ gb129) (.slice A0_1 l0_1.length c0_1) l0_1) := ⟨by (with_reducible repeat (first | apply Kd.V_alloc | apply Kd.V_drewN | apply Kd.V_drew)); exact Kd.V_mono (Kd.V_far (p := ⟨gb129, 1, none⟩) (Kd.V_far (p := ⟨gb129, 0, none⟩) (Kd.V_mono HO_103.out (fun k_ hk => (⟨hk, hk.2⟩ : _ ∧ k_ ≠ gb129))) (fun _ hk => hk.2) (.int .i64 ((rd_T53 t108 x51_2).f0))) (fun _ hk => hk.2) (.slice A128_1 ((rd_T53 t108 x51_2).f1).length c128_1)) (fun _ hk => ⟨hk.1.1.1, ⟨hk.1.1.2.1, ⟨hk.1.1.2.2.1, ⟨hk.1.1.2.2.2.1, ⟨hk.1.1.2.2.2.2.1, ⟨hk.1.1.2.2.2.2.2.1, ⟨hk.1.1.2.2.2.2.2.2, hk.1.2⟩⟩⟩⟩⟩⟩⟩)⟩
     have n2_ : Aside0 (Kd.V Kd.bool 4 ((w77.setCell ⟨gb129, 0, none⟩ (.int .i64 ((rd_T53 t108 x51_2).f0))).setCell ⟨gb129, 1, none⟩ (.slice A128_1 ((rd_T53 t108 x51_2).f1).length c128_1)) w.heap.size (fun k_ => ((P0_1_ k_ ∨ P0_2_ k_ ∨ P1_1_ k_ ∨ P1_2_ k_) ∨ w.heap.size ≤ k_) ∧ some k_ ≠ (u122 : Value).ownBlock ∧ some k_ ≠ (.slice Ao55 t107.length co55 : Value).ownBlock ∧ k_ ≠ gb100 ∧ k_ ≠ gb101 ∧ k_ ≠ gb102 ∧ k_ ≠ gb117 ∧ k_ ≠ gb129) (.slice A0_2 l0_2.length c0_2) l0_2) := ⟨by (with_reducible repeat (first | apply Kd.V_alloc | apply Kd.V_drewN | apply Kd.V_drew)); exact Kd.V_mono (Kd.V_far (p := ⟨gb129, 1, none⟩) (Kd.V_far (p := ⟨gb129, 0, none⟩) (Kd.V_mono HO_104.out (fun k_ hk => (⟨hk, hk.2⟩ : _ ∧ k_ ≠ gb129))) (fun _ hk => hk.2) (.int .i64 ((rd_T53 t108 x51_2).f0))) (fun _ hk => hk.2) (.slice A128_1 ((rd_T53 t108 x51_2).f1).length c128_1)) (fun _ hk => ⟨hk.1.1.1, ⟨hk.1.1.2.1, ⟨hk.1.1.2.2.1, ⟨hk.1.1.2.2.2.1, ⟨hk.1.1.2.2.2.2.1, ⟨hk.1.1.2.2.2.2.2.1, ⟨hk.1.1.2.2.2.2.2.2, hk.1.2⟩⟩⟩⟩⟩⟩⟩)⟩
     have n3_ : Aside0 (Kd.V k53 53 ((w77.setCell ⟨gb129, 0, none⟩ (.int .i64 ((rd_T53 t108 x51_2).f0))).setCell ⟨gb129, 1, none⟩ (.slice A128_1 ((rd_T53 t108 x51_2).f1).length c128_1)) w.heap.size (fun k_ => ((P0_1_ k_ ∨ P0_2_ k_ ∨ P1_1_ k_ ∨ P1_2_ k_) ∨ w.heap.size ≤ k_) ∧ some k_ ≠ (u122 : Value).ownBlock ∧ some k_ ≠ (.slice Ao55 t107.length co55 : Value).ownBlock ∧ k_ ≠ gb100 ∧ k_ ≠ gb101 ∧ k_ ≠ gb102 ∧ k_ ≠ gb117 ∧ k_ ≠ gb129) (.slice A1_1 l1_1.length c1_1) l1_1) := ⟨by (with_reducible repeat (first | apply Kd.V_alloc | apply Kd.V_drewN | apply Kd.V_drew)); exact Kd.V_mono (Kd.V_far (p := ⟨gb129, 1, none⟩) (Kd.V_far (p := ⟨gb129, 0, none⟩) (Kd.V_mono HO_105.out (fun k_ hk => (⟨hk, hk.2⟩ : _ ∧ k_ ≠ gb129))) (fun _ hk => hk.2) (.int .i64 ((rd_T53 t108 x51_2).f0))) (fun _ hk => hk.2) (.slice A128_1 ((rd_T53 t108 x51_2).f1).length c128_1)) (fun _ hk => ⟨hk.1.1.1, ⟨hk.1.1.2.1, ⟨hk.1.1.2.2.1, ⟨hk.1.1.2.2.2.1, ⟨hk.1.1.2.2.2.2.1, ⟨hk.1.1.2.2.2.2.2.1, ⟨hk.1.1.2.2.2.2.2.2, hk.1.2⟩⟩⟩⟩⟩⟩⟩)⟩
     have n4_ : Aside0 (Kd.V Kd.bool 4 ((w77.setCell ⟨gb129, 0, none⟩ (.int .i64 ((rd_T53 t108 x51_2).f0))).setCell ⟨gb129, 1, none⟩ (.slice A128_1 ((rd_T53 t108 x51_2).f1).length c128_1)) w.heap.size (fun k_ => ((P0_1_ k_ ∨ P0_2_ k_ ∨ P1_1_ k_ ∨ P1_2_ k_) ∨ w.heap.size ≤ k_) ∧ some k_ ≠ (u122 : Value).ownBlock ∧ some k_ ≠ (.slice Ao55 t107.length co55 : Value).ownBlock ∧ k_ ≠ gb100 ∧ k_ ≠ gb101 ∧ k_ ≠ gb102 ∧ k_ ≠ gb117 ∧ k_ ≠ gb129) (.slice A1_2 l1_2.length c1_2) l1_2) := ⟨by (with_reducible repeat (first | apply Kd.V_alloc | apply Kd.V_drewN | apply Kd.V_drew)); exact Kd.V_mono (Kd.V_far (p := ⟨gb129, 1, none⟩) (Kd.V_far (p := ⟨gb129, 0, none⟩) (Kd.V_mono HO_106.out (fun k_ hk => (⟨hk, hk.2⟩ : _ ∧ k_ ≠ gb129))) (fun _ hk => hk.2) (.int .i64 ((rd_T53 t108 x51_2).f0))) (fun _ hk => hk.2) (.slice A128_1 ((rd_T53 t108 x51_2).f1).length c128_1)) (fun _ hk => ⟨hk.1.1.1, ⟨hk.1.1.2.1, ⟨hk.1.1.2.2.1, ⟨hk.1.1.2.2.2.1, ⟨hk.1.1.2.2.2.2.1, ⟨hk.1.1.2.2.2.2.2.1, ⟨hk.1.1.2.2.2.2.2.2, hk.1.2⟩⟩⟩⟩⟩⟩⟩)⟩
     have n5_ : Aside0 (Kd.S k53 53 ((w77.setCell ⟨gb129, 0, none⟩ (.int .i64 ((rd_T53 t108 x51_2).f0))).setCell ⟨gb129, 1, none⟩ (.slice A128_1 ((rd_T53 t108 x51_2).f1).length c128_1)) w.heap.size (fun k_ => (w.heap.size ≤ k_) ∧ k_ ≠ gb129) u122 x122_2) := ⟨by (with_reducible repeat (first | apply Kd.S_alloc | apply Kd.S_drewN | apply Kd.S_drew)); exact Kd.S_mono (Kd.S_far (p := ⟨gb129, 1, none⟩) (Kd.S_far (p := ⟨gb129, 0, none⟩) (Kd.S_mono HO_122.out (fun k_ hk => (⟨hk, hk.2⟩ : _ ∧ k_ ≠ gb129))) (fun _ hk => hk.2) (.int .i64 ((rd_T53 t108 x51_2).f0))) (fun _ hk => hk.2) (.slice A128_1 ((rd_T53 t108 x51_2).f1).length c128_1)) (fun _ hk => ⟨hk.1.1, hk.1.2⟩)⟩
     have n6_ : Aside0 (Kd.R Kd.bool 4 ((w77.setCell ⟨gb129, 0, none⟩ (.int .i64 ((rd_T53 t108 x51_2).f0))).setCell ⟨gb129, 1, none⟩ (.slice A128_1 ((rd_T53 t108 x51_2).f1).length c128_1)) w.heap.size (fun k_ => (w.heap.size ≤ k_)) (.slice Ao55 t107.length co55) t107) := ⟨by (with_reducible repeat (first | apply Kd.R_alloc | apply Kd.R_drewN | apply Kd.R_drew)); exact Kd.R_mono (Kd.R_far (p := ⟨gb129, 1, none⟩) (Kd.R_far (p := ⟨gb129, 0, none⟩) (Kd.R_types HO_123.out BK129.out Z21) (fun _ hk => hk.2) (.int .i64 ((rd_T53 t108 x51_2).f0))) (fun _ hk => hk.2) (.slice A128_1 ((rd_T53 t108 x51_2).f1).length c128_1)) (fun _ hk => hk.1)⟩
     have n7_ : Aside0 (Kd.V (Kd.int .i64) 3 ((w77.setCell ⟨gb129, 0, none⟩ (.int .i64 ((rd_T53 t108 x51_2).f0))).setCell ⟨gb129, 1, none⟩ (.slice A128_1 ((rd_T53 t108 x51_2).f1).length c128_1)) w.heap.size (fun k_ => ((P0_1_ k_ ∨ P0_2_ k_ ∨ P1_1_ k_ ∨ P1_2_ k_) ∨ w.heap.size ≤ k_) ∧ some k_ ≠ (u122 : Value).ownBlock ∧ some k_ ≠ (.slice Ao55 t107.length co55 : Value).ownBlock ∧ k_ ≠ gb100 ∧ k_ ≠ gb101 ∧ k_ ≠ gb102 ∧ k_ ≠ gb117 ∧ k_ ≠ gb129) (.slice A128_1 ((rd_T53 t108 x51_2).f1).length c128_1) ((rd_T53 t108 x51_2).f1)) := ⟨by (with_reducible repeat (first | apply Kd.V_alloc | apply Kd.V_drewN | apply Kd.V_drew)); exact Kd.V_mono (Kd.V_far (p := ⟨gb129, 1, none⟩) (Kd.V_far (p := ⟨gb129, 0, none⟩) (Kd.V_mono HL237_1.out (fun k_ hk => (⟨hk, hk.2⟩ : _ ∧ k_ ≠ gb129))) (fun _ hk => hk.2) (.int .i64 ((rd_T53 t108 x51_2).f0))) (fun _ hk => hk.2) (.slice A128_1 ((rd_T53 t108 x51_2).f1).length c128_1)) (fun _ hk => ⟨hk.1.1.1, ⟨hk.1.1.2.1, ⟨hk.1.1.2.2.1, ⟨hk.1.1.2.2.2.1, ⟨hk.1.1.2.2.2.2.1, ⟨hk.1.1.2.2.2.2.2.1, ⟨hk.1.1.2.2.2.2.2.2, hk.1.2⟩⟩⟩⟩⟩⟩⟩)⟩
     have n8_ : Aside0 (((w77.setCell ⟨gb129, 0, none⟩ (.int .i64 ((rd_T53 t108 x51_2).f0))).setCell ⟨gb129, 1, none⟩ (.slice A128_1 ((rd_T53 t108 x51_2).f1).length c128_1)).heap[gb100]? = some (.cells #[.int .i64 a0_0, .slice A0_1 l0_1.length c0_1, .slice A0_2 l0_2.length c0_2] 29 (0, 0))) := ⟨pf NB100_129 (pf NB100_129 (pb BK100))⟩
     have n9_ : Aside0 (((w77.setCell ⟨gb129, 0, none⟩ (.int .i64 ((rd_T53 t108 x51_2).f0))).setCell ⟨gb129, 1, none⟩ (.slice A128_1 ((rd_T53 t108 x51_2).f1).length c128_1)).heap[gb101]? = some (.cells #[.int .i64 a1_0, .slice A1_1 l1_1.length c1_1, .slice A1_2 l1_2.length c1_2] 29 (0, 0))) := ⟨pf NB101_129 (pf NB101_129 (pb BK101))⟩
     have n10_ : Aside0 (((w77.setCell ⟨gb129, 0, none⟩ (.int .i64 ((rd_T53 t108 x51_2).f0))).setCell ⟨gb129, 1, none⟩ (.slice A128_1 ((rd_T53 t108 x51_2).f1).length c128_1)).heap[gb102]? = some (.cells #[.int .i64 0, .slice none 0 0, .slice none 0 0] 29 (0, 0))) := ⟨pf NB102_129 (pf NB102_129 (pb BK102))⟩
     have n11_ : Aside0 (((w77.setCell ⟨gb129, 0, none⟩ (.int .i64 ((rd_T53 t108 x51_2).f0))).setCell ⟨gb129, 1, none⟩ (.slice A128_1 ((rd_T53 t108 x51_2).f1).length c128_1)).heap[gb117]? = some (.cells #[.int .i64 a0_0, u122, .slice Ao55 t107.length co55] 29 (0, 0))) := ⟨pf NB117_129 (pf NB117_129 (pb BK117))⟩
     have n12_ : Aside0 (((w77.setCell ⟨gb129, 0, none⟩ (.int .i64 ((rd_T53 t108 x51_2).f0))).setCell ⟨gb129, 1, none⟩ (.slice A128_1 ((rd_T53 t108 x51_2).f1).length c128_1)).heap[gb129]? = some (.cells #[.int .i64 ((rd_T53 t108 x51_2).f0), .slice A128_1 ((rd_T53 t108 x51_2).f1).length c128_1] 53 (0, 0))) := ⟨pT (pp 1 (pp 0 (pb BK129)))⟩
     have n13_ : Aside0 (Below w.heap.size w ((w77.setCell ⟨gb129, 0, none⟩ (.int .i64 ((rd_T53 t108 x51_2).f0))).setCell ⟨gb129, 1, none⟩ (.slice A128_1 ((rd_T53 t108 x51_2).f1).length c128_1))) := ⟨Z7⟩
     (try clear HO_49)
     (try clear HO_103)
     (try clear HO_104)
     (try clear HO_105)
     (try clear HO_106)
     (try clear HO_122)
     (try clear HO_123)
     (try clear HL237_1)
     (try clear BK100)
     (try clear BK101)
     (try clear BK102)
     (try clear BK117)
     (try clear BK129)
     (try clear HB)
     generalize ((w77.setCell ⟨gb129, 0, none⟩ (.int .i64 ((rd_T53 t108 x51_2).f0))).setCell ⟨gb129, 1, none⟩ (.slice A128_1 ((rd_T53 t108 x51_2).f1).length c128_1)) = w83 at n0_ n1_ n2_ n3_ n4_ n5_ n6_ n7_ n8_ n9_ n10_ n11_ n12_ n13_ ⊢
     have HO_49 := n0_
     have HO_103 := n1_
     have HO_104 := n2_
     have HO_105 := n3_
     have HO_106 := n4_
     have HO_122 := n5_
     have HO_123 := n6_
     have HL237_1 := n7_
     have BK100 := n8_
     have BK101 := n9_
     have BK102 := n10_
     have BK117 := n11_
     have BK129 := n12_
     have HB := n13_
     clear n0_ n1_ n2_ n3_ n4_ n5_ n6_ n7_ n8_ n9_ n10_ n11_ n12_ n13_
     replace HO_49 := am (Kd.V_drew HO_49.out)
     replace HO_103 := am (Kd.V_drew HO_103.out)
     replace HO_104 := am (Kd.V_drew HO_104.out)
     replace HO_105 := am (Kd.V_drew HO_105.out)
     replace HO_106 := am (Kd.V_drew HO_106.out)
     replace HO_122 := am (Kd.S_drew HO_122.out)
     replace HO_123 := am (Kd.R_drew HO_123.out)
     replace HL237_1 := am (Kd.V_drew HL237_1.out)
     replace BK100 := am (blk_drew BK100.out)
     replace BK101 := am (blk_drew BK101.out)
     replace BK102 := am (blk_drew BK102.out)
     replace BK117 := am (blk_drew BK117.out)
     replace BK129 := am (blk_drew BK129.out)
     replace HB := am (below_drew1 HB.out)
     refine start_ (n := 8) (S := fun w' => w'.cell? ⟨gb117, 0, none⟩ = some (.int .i64 a0_0) ∧ w'.cell? ⟨gb117, 1, none⟩ = some (u122) ∧ w'.cell? ⟨gb117, 2, none⟩ = some (.slice Ao55 t107.length co55) ∧ w'.cell? ⟨gb129, 0, none⟩ = some (.int .i64 ((rd_T53 t108 x51_2).f0)) ∧ w'.cell? ⟨gb129, 1, none⟩ = some (.slice A128_1 ((rd_T53 t108 x51_2).f1).length c128_1)) (ds := [7]) (bA 8 0) Z90 rfl rfl ⟨bc BK117 0, bc BK117 1, bc BK117 2, bc BK129 0, bc BK129 1⟩ (fun hHeld => ?_); refine with_tabW Fb.tab7 Fb.bits7 (fun HT_ HW_ => ?_)
     generalize w83.drew = w84 at HO_49 HO_103 HO_104 HO_105 HO_106 HO_122 HO_123 HL237_1 BK100 BK101 BK102 BK117 BK129 HB hHeld ⊢
     refine pS 0 55 (bA 8 1) ?_
     refine tS5 1 56 (bA 8 3) hHeld ?_
     refine tS5 2 57 (bA 8 7) hHeld ?_
     refine one_ (i := 3) (N := some 58) (bA 8 15) rfl rfl (one_of HT_.out Z90) Z21 (fun K hK => ?_)
     refine goes_ Try.func29 Z90 rfl #[.agg #[.int .i64 ((rd_T53 t108 x51_2).f0), .slice A128_1 ((rd_T53 t108 x51_2).f1).length c128_1]] Z62 rfl rfl Z91 ?_
     with_reducible refine (FS.calls ((rd_T53 t108 x51_2).f0) _ _ ((rd_T53 t108 x51_2).f1) t124 t125 _ ?side1 ?side2 A75.out).mono ?_
     (case side1 => repeat (first | exact ((Kd.V_reads' Z72).2.2) | (with_reducible refine Kd.C_alloc ?_ _) | (with_reducible refine Kd.C_drewN ?_ _) | (with_reducible refine Kd.C_drew ?_)))
     (case side2 => exact HC128_1.out)
     rintro e w85 ⟨v130, rfl, ho0, hb⟩
     refine ⟨_, rfl, ?_⟩
     replace HO_49 := am (Kd.V_elder' Z81 (Kd.R_base ho0) hb)
     replace HO_103 := am (Kd.V_elder' Z32 (Kd.R_base ho0) hb)
     replace HO_104 := am (Kd.V_elder' Z31 (Kd.R_base ho0) hb)
     replace HO_105 := am (Kd.V_elder' Z30 (Kd.R_base ho0) hb)
     replace HO_106 := am (Kd.V_elder' Z29 (Kd.R_base ho0) hb)
     replace HO_122 := am (Kd.S_elder' Z74 (Kd.R_base ho0) hb)
     replace HO_123 := rB HO_123 hb
     replace HL237_1 := am (Kd.V_elder' Z72 (Kd.R_base ho0) hb)
     have HO131 := am (Kd.R_lower (Kd.R_newM (M := fun k_ => (w.heap.size ≤ k_)) ho0 (below_size Z7) (fun k_ h_ => h_)) (below_size Z7))
     replace BK100 := kB BK100 hb
     replace BK101 := kB BK101 hb
     replace BK102 := kB BK102 hb
     replace BK117 := kB BK117 hb
     replace BK129 := kB BK129 hb
     replace HB := am (below_step Z7 hb)
     (try clear hb)
     (try clear hb2)
     (try clear hk)
     (try clear hi)
     (try clear ho0)
     obtain ⟨Ao87, co87, eo87⟩ := Kd.R_slice HO131.out
     (first | subst eo87 | (injection eo87 with f1_ f2_ f3_; have f4_ := f1_.symm; have f5_ := f3_.symm; clear f1_ f2_ f3_; subst f4_; subst f5_))
     refine hK.out _ _ ⟨bc BK117 0, bc BK117 1, bc BK117 2, bc BK129 0, bc BK129 1⟩ (fun hHeld => ?_)
     clear hK K
     refine norm_ (a' := ?_) ?_ ?_
     rotate_left
     ·
      show Act.put _ (some 58) _ = _
      simp only [Act.put, setIfInBounds_toArray, set_cons_zero, set_cons_succ, i64_w, i32_w]
      rfl
     refine one_ (i := 4) (N := some 59) (bA 8 31) rfl rfl (one_of HT_.out Z90) Z21 (fun K hK => ?_)
     refine value_ (w1 := ?_) (v := ?_) Z62 rfl ?_ ?_
     rotate_left 2
     ·
      go_simp
      constructor
      ·
       rfl
      rfl
     refine hK.out _ _ ⟨(blk_cell (blk_alloc BK117.out _) 0).trans rfl, (blk_cell (blk_alloc BK117.out _) 1).trans rfl, (blk_cell (blk_alloc BK117.out _) 2).trans rfl, (blk_cell (blk_alloc BK129.out _) 0).trans rfl, (blk_cell (blk_alloc BK129.out _) 1).trans rfl⟩ (fun hHeld => ?_)
     clear hK K
     refine norm_ (a' := ?_) ?_ ?_
     rotate_left
     ·
      show Act.put _ (some 59) _ = _
      simp only [Act.put, setIfInBounds_toArray, set_cons_zero, set_cons_succ, i64_w, i32_w]
      rfl
     refine one_ (i := 5) (N := some 60) (bA 8 63) rfl rfl (one_of HT_.out Z90) Z21 (fun K hK => ?_)
     refine Kd.S_append_step k53 (w0 := w) w.heap.size Z62 (.tmp 56) (.tmp 59) 27 53 (.agg #[(.int .i64 0), (.slice none 0 0)]) 32 rfl Try.underlying27 info53 rfl Z21 Z70 u122 x122_2 (⟨t124, t125⟩ : S53) [.int .i64 t124, .slice Ao87 t125.length co87] (fun k_ => (w.heap.size ≤ k_) ∧ k_ ≠ gb129) (fun k_ => some k_ = (.slice Ao87 t125.length co87 : Value).ownBlock) rfl rfl ?aP (fun k_ hk_ => ((Kd.R_mono (ok' := fun k_ => ((fun k_ => (w.heap.size ≤ k_) ∧ k_ ≠ gb129)) k_ ∧ some k_ ≠ (u122 : Value).ownBlock) (Kd.R_types (Kd.R_apart' (HO131.out) (Kd.S_typed HO_122.out) Z21) BK129.out Z21) (fun k_ hk => ⟨⟨hk.1.1.1, hk.2⟩, hk.1.2⟩))).1 k_ hk_.symm) ?aF ?aO ?aB ?aS ?aL ?_
     (case aP => exact k53_mkM _ _ _ (⟨t124, t125⟩ : S53) (Kd.R_mono (Kd.R_tight rfl (Kd.R_mono (ok' := fun k_ => ((fun k_ => (w.heap.size ≤ k_) ∧ k_ ≠ gb129)) k_ ∧ some k_ ≠ (u122 : Value).ownBlock) (Kd.R_types (Kd.R_apart' (HO131.out) (Kd.S_typed HO_122.out) Z21) BK129.out Z21) (fun k_ hk => ⟨⟨hk.1.1.1, hk.2⟩, hk.1.2⟩))) (fun _ h_ => h_)))
     (case aB => exact Z7)
     (case aF => exact (fun k_ hk => ⟨(Nat.le_trans (below_size Z7) hk), Kd.freshB (g := gb129) (o := .cells #[.int .i64 ((rd_T53 t108 x51_2).f0), .slice A128_1 ((rd_T53 t108 x51_2).f1).length c128_1] 53 (0, 0)) (uK BK129) k_ hk⟩))
     (case aO => exact (by (with_reducible repeat (first | apply Kd.S_alloc | apply Kd.S_drewN | apply Kd.S_drew)); exact Kd.S_mono HO_122.out (fun k_ hk => ⟨⟨hk.1.1, hk.1.2⟩, fun e_ => hk.2 e_⟩)))
     (case aS => exact (below_size Z7))
     (case aL => have := LMc76.out; omega)
     intro v132 w86 ho hb hg hat
     rw [← Ny127.out] at ho
     replace HO_49 := am (Kd.V_afterv (ok := (fun k_ => ((P0_1_ k_ ∨ P0_2_ k_ ∨ P1_1_ k_ ∨ P1_2_ k_) ∨ w.heap.size ≤ k_) ∧ some k_ ≠ (.slice Ao55 t107.length co55 : Value).ownBlock ∧ some k_ ≠ (.slice Ao87 t125.length co87 : Value).ownBlock ∧ k_ ≠ gb100 ∧ k_ ≠ gb101 ∧ k_ ≠ gb102 ∧ k_ ≠ gb117 ∧ k_ ≠ gb129)) (by (with_reducible repeat (first | apply Kd.V_alloc | apply Kd.V_drewN | apply Kd.V_drew)); exact Kd.V_mono HO_49.out (fun _ hk => ⟨⟨hk.1.1, ⟨hk.1.2.2.1, ⟨hk.2, ⟨hk.1.2.2.2.1, ⟨hk.1.2.2.2.2.1, ⟨hk.1.2.2.2.2.2.1, ⟨hk.1.2.2.2.2.2.2.1, hk.1.2.2.2.2.2.2.2⟩⟩⟩⟩⟩⟩⟩, hk.1.2.1⟩)) hg hat)
     replace HO_103 := am (Kd.V_afterv (ok := (fun k_ => ((P0_1_ k_ ∨ P0_2_ k_ ∨ P1_1_ k_ ∨ P1_2_ k_) ∨ w.heap.size ≤ k_) ∧ some k_ ≠ (.slice Ao55 t107.length co55 : Value).ownBlock ∧ some k_ ≠ (.slice Ao87 t125.length co87 : Value).ownBlock ∧ k_ ≠ gb100 ∧ k_ ≠ gb101 ∧ k_ ≠ gb102 ∧ k_ ≠ gb117 ∧ k_ ≠ gb129)) (by (with_reducible repeat (first | apply Kd.V_alloc | apply Kd.V_drewN | apply Kd.V_drew)); exact Kd.V_mono HO_103.out (fun _ hk => ⟨⟨hk.1.1, ⟨hk.1.2.2.1, ⟨hk.2, ⟨hk.1.2.2.2.1, ⟨hk.1.2.2.2.2.1, ⟨hk.1.2.2.2.2.2.1, ⟨hk.1.2.2.2.2.2.2.1, hk.1.2.2.2.2.2.2.2⟩⟩⟩⟩⟩⟩⟩, hk.1.2.1⟩)) hg hat)
     replace HO_104 := am (Kd.V_afterv (ok := (fun k_ => ((P0_1_ k_ ∨ P0_2_ k_ ∨ P1_1_ k_ ∨ P1_2_ k_) ∨ w.heap.size ≤ k_) ∧ some k_ ≠ (.slice Ao55 t107.length co55 : Value).ownBlock ∧ some k_ ≠ (.slice Ao87 t125.length co87 : Value).ownBlock ∧ k_ ≠ gb100 ∧ k_ ≠ gb101 ∧ k_ ≠ gb102 ∧ k_ ≠ gb117 ∧ k_ ≠ gb129)) (by (with_reducible repeat (first | apply Kd.V_alloc | apply Kd.V_drewN | apply Kd.V_drew)); exact Kd.V_mono HO_104.out (fun _ hk => ⟨⟨hk.1.1, ⟨hk.1.2.2.1, ⟨hk.2, ⟨hk.1.2.2.2.1, ⟨hk.1.2.2.2.2.1, ⟨hk.1.2.2.2.2.2.1, ⟨hk.1.2.2.2.2.2.2.1, hk.1.2.2.2.2.2.2.2⟩⟩⟩⟩⟩⟩⟩, hk.1.2.1⟩)) hg hat)
     replace HO_105 := am (Kd.V_afterv (ok := (fun k_ => ((P0_1_ k_ ∨ P0_2_ k_ ∨ P1_1_ k_ ∨ P1_2_ k_) ∨ w.heap.size ≤ k_) ∧ some k_ ≠ (.slice Ao55 t107.length co55 : Value).ownBlock ∧ some k_ ≠ (.slice Ao87 t125.length co87 : Value).ownBlock ∧ k_ ≠ gb100 ∧ k_ ≠ gb101 ∧ k_ ≠ gb102 ∧ k_ ≠ gb117 ∧ k_ ≠ gb129)) (by (with_reducible repeat (first | apply Kd.V_alloc | apply Kd.V_drewN | apply Kd.V_drew)); exact Kd.V_mono HO_105.out (fun _ hk => ⟨⟨hk.1.1, ⟨hk.1.2.2.1, ⟨hk.2, ⟨hk.1.2.2.2.1, ⟨hk.1.2.2.2.2.1, ⟨hk.1.2.2.2.2.2.1, ⟨hk.1.2.2.2.2.2.2.1, hk.1.2.2.2.2.2.2.2⟩⟩⟩⟩⟩⟩⟩, hk.1.2.1⟩)) hg hat)
     replace HO_106 := am (Kd.V_afterv (ok := (fun k_ => ((P0_1_ k_ ∨ P0_2_ k_ ∨ P1_1_ k_ ∨ P1_2_ k_) ∨ w.heap.size ≤ k_) ∧ some k_ ≠ (.slice Ao55 t107.length co55 : Value).ownBlock ∧ some k_ ≠ (.slice Ao87 t125.length co87 : Value).ownBlock ∧ k_ ≠ gb100 ∧ k_ ≠ gb101 ∧ k_ ≠ gb102 ∧ k_ ≠ gb117 ∧ k_ ≠ gb129)) (by (with_reducible repeat (first | apply Kd.V_alloc | apply Kd.V_drewN | apply Kd.V_drew)); exact Kd.V_mono HO_106.out (fun _ hk => ⟨⟨hk.1.1, ⟨hk.1.2.2.1, ⟨hk.2, ⟨hk.1.2.2.2.1, ⟨hk.1.2.2.2.2.1, ⟨hk.1.2.2.2.2.2.1, ⟨hk.1.2.2.2.2.2.2.1, hk.1.2.2.2.2.2.2.2⟩⟩⟩⟩⟩⟩⟩, hk.1.2.1⟩)) hg hat)
     replace HO_123 := am (Kd.R_over' (uR HO_123) (Kd.S_typed Z74) Z21 hg)
     replace BK100 := am (blk_grown (g := gb100) (o := .cells #[.int .i64 a0_0, .slice A0_1 l0_1.length c0_1, .slice A0_2 l0_2.length c0_2] 29 (0, 0)) (uK BK100) hg (Kd.S_ne HO_122.out BK100.out Z21))
     replace BK101 := am (blk_grown (g := gb101) (o := .cells #[.int .i64 a1_0, .slice A1_1 l1_1.length c1_1, .slice A1_2 l1_2.length c1_2] 29 (0, 0)) (uK BK101) hg (Kd.S_ne HO_122.out BK101.out Z21))
     replace BK102 := am (blk_grown (g := gb102) (o := .cells #[.int .i64 0, .slice none 0 0, .slice none 0 0] 29 (0, 0)) (uK BK102) hg (Kd.S_ne HO_122.out BK102.out Z21))
     replace BK117 := am (blk_grown (g := gb117) (o := .cells #[.int .i64 a0_0, u122, .slice Ao55 t107.length co55] 29 (0, 0)) (uK BK117) hg (Kd.S_ne HO_122.out BK117.out Z21))
     replace HL237_1 := am (Kd.V_afterv (ok := (fun k_ => ((P0_1_ k_ ∨ P0_2_ k_ ∨ P1_1_ k_ ∨ P1_2_ k_) ∨ w.heap.size ≤ k_) ∧ some k_ ≠ (.slice Ao55 t107.length co55 : Value).ownBlock ∧ some k_ ≠ (.slice Ao87 t125.length co87 : Value).ownBlock ∧ k_ ≠ gb100 ∧ k_ ≠ gb101 ∧ k_ ≠ gb102 ∧ k_ ≠ gb117 ∧ k_ ≠ gb129)) (by (with_reducible repeat (first | apply Kd.V_alloc | apply Kd.V_drewN | apply Kd.V_drew)); exact Kd.V_mono HL237_1.out (fun _ hk => ⟨⟨hk.1.1, ⟨hk.1.2.2.1, ⟨hk.2, ⟨hk.1.2.2.2.1, ⟨hk.1.2.2.2.2.1, ⟨hk.1.2.2.2.2.2.1, ⟨hk.1.2.2.2.2.2.2.1, hk.1.2.2.2.2.2.2.2⟩⟩⟩⟩⟩⟩⟩, hk.1.2.1⟩)) hg hat)
     replace BK129 := am (blk_grown (g := gb129) (o := .cells #[.int .i64 ((rd_T53 t108 x51_2).f0), .slice A128_1 ((rd_T53 t108 x51_2).f1).length c128_1] 53 (0, 0)) (uK BK129) hg (Kd.S_away HO_122.out (fun _ hk => hk.1.2)))
     replace HB := am (hb)
     have HO133 := am (ho)
     clear HO_122 HO131
     clear ho hb hg hat
     obtain ⟨Ao88, co88, eo88⟩ := Kd.S_slice HO133.out
     (first | subst eo88 | (injection eo88 with f1_ f2_ f3_; have f4_ := f1_.symm; have f5_ := f3_.symm; clear f1_ f2_ f3_; subst f4_; subst f5_))
     refine hK.out _ _ ⟨bc BK117 0, bc BK117 1, bc BK117 2, bc BK129 0, bc BK129 1⟩ (fun hHeld => ?_)
     clear hK K
     refine norm_ (a' := ?_) ?_ ?_
     rotate_left
     ·
      show Act.put _ (some 60) _ = _
      simp only [Act.put, setIfInBounds_toArray, set_cons_zero, set_cons_succ, i64_w, i32_w]
      rfl
     refine pS 6 61 (bA 8 127) ?_
     refine last_ (i := 7) (N := none) (bA 8 255) rfl rfl (one_of HT_.out Z90) Z21 (fun K hK => ?_)
     have hs89 : w86.cell? ⟨gb117, 1, none⟩ = some (u122) := bc BK117 1
     have hfs89 := blk_frozen BK117.out 1
     have hns89_0 := NB100_117.out
     have hns89_1 := NB101_117.out
     have hns89_2 := NB102_117.out
     have hns89_4 := NB129_117.out
     have hms89_0 := NB117_100.out
     have hms89_1 := NB117_101.out
     have hms89_2 := NB117_102.out
     have hms89_4 := NB117_129.out
     refine skip_ (w1 := ?_) Z62 rfl ?_ ?_
     rotate_left
     ·
      go_simp
      rfl
     refine hK.out _ _ ?_
     clear hK K
     refine done_ (done_of HT_.out Z90) ?_
     try go_wp2
     go_roundg k2
     case measure => have := HJ2.out; have := HK2.out; omega
     case rel => exact ⟨(wrap64 (x51_2 + 1)), (y127), (.slice Ao88 y127.length co88), Z87, H', ⟨by have := HJ2.out; have := HK2.out; omega⟩, ⟨by (with_reducible repeat (first | apply Kd.V_alloc | apply Kd.V_drewN | apply Kd.V_drew)); exact Kd.V_mono (Kd.V_far (p := ⟨gb117, 1, none⟩) (Kd.V_mono HO_49.out (fun k_ hk => (⟨hk, hk.1.2.2.2.2.2.2.1⟩ : _ ∧ k_ ≠ gb117))) (fun _ hk => hk.2) (.slice Ao88 y127.length co88)) (fun _ hk => ⟨hk.1.1.1, ⟨hk.1.2, ⟨hk.1.1.2.1, ⟨hk.1.1.2.2.2.1, ⟨hk.1.1.2.2.2.2.1, ⟨hk.1.1.2.2.2.2.2.1, hk.1.1.2.2.2.2.2.2.1⟩⟩⟩⟩⟩⟩)⟩, ⟨by (with_reducible repeat (first | apply Kd.V_alloc | apply Kd.V_drewN | apply Kd.V_drew)); exact Kd.V_mono (Kd.V_far (p := ⟨gb117, 1, none⟩) (Kd.V_mono HO_103.out (fun k_ hk => (⟨hk, hk.1.2.2.2.2.2.2.1⟩ : _ ∧ k_ ≠ gb117))) (fun _ hk => hk.2) (.slice Ao88 y127.length co88)) (fun _ hk => ⟨hk.1.1.1, ⟨hk.1.2, ⟨hk.1.1.2.1, ⟨hk.1.1.2.2.2.1, ⟨hk.1.1.2.2.2.2.1, ⟨hk.1.1.2.2.2.2.2.1, hk.1.1.2.2.2.2.2.2.1⟩⟩⟩⟩⟩⟩)⟩, ⟨by (with_reducible repeat (first | apply Kd.V_alloc | apply Kd.V_drewN | apply Kd.V_drew)); exact Kd.V_mono (Kd.V_far (p := ⟨gb117, 1, none⟩) (Kd.V_mono HO_104.out (fun k_ hk => (⟨hk, hk.1.2.2.2.2.2.2.1⟩ : _ ∧ k_ ≠ gb117))) (fun _ hk => hk.2) (.slice Ao88 y127.length co88)) (fun _ hk => ⟨hk.1.1.1, ⟨hk.1.2, ⟨hk.1.1.2.1, ⟨hk.1.1.2.2.2.1, ⟨hk.1.1.2.2.2.2.1, ⟨hk.1.1.2.2.2.2.2.1, hk.1.1.2.2.2.2.2.2.1⟩⟩⟩⟩⟩⟩)⟩, ⟨by (with_reducible repeat (first | apply Kd.V_alloc | apply Kd.V_drewN | apply Kd.V_drew)); exact Kd.V_mono (Kd.V_far (p := ⟨gb117, 1, none⟩) (Kd.V_mono HO_105.out (fun k_ hk => (⟨hk, hk.1.2.2.2.2.2.2.1⟩ : _ ∧ k_ ≠ gb117))) (fun _ hk => hk.2) (.slice Ao88 y127.length co88)) (fun _ hk => ⟨hk.1.1.1, ⟨hk.1.2, ⟨hk.1.1.2.1, ⟨hk.1.1.2.2.2.1, ⟨hk.1.1.2.2.2.2.1, ⟨hk.1.1.2.2.2.2.2.1, hk.1.1.2.2.2.2.2.2.1⟩⟩⟩⟩⟩⟩)⟩, ⟨by (with_reducible repeat (first | apply Kd.V_alloc | apply Kd.V_drewN | apply Kd.V_drew)); exact Kd.V_mono (Kd.V_far (p := ⟨gb117, 1, none⟩) (Kd.V_mono HO_106.out (fun k_ hk => (⟨hk, hk.1.2.2.2.2.2.2.1⟩ : _ ∧ k_ ≠ gb117))) (fun _ hk => hk.2) (.slice Ao88 y127.length co88)) (fun _ hk => ⟨hk.1.1.1, ⟨hk.1.2, ⟨hk.1.1.2.1, ⟨hk.1.1.2.2.2.1, ⟨hk.1.1.2.2.2.2.1, ⟨hk.1.1.2.2.2.2.2.1, hk.1.1.2.2.2.2.2.2.1⟩⟩⟩⟩⟩⟩)⟩, ⟨by (with_reducible repeat (first | apply Kd.S_alloc | apply Kd.S_drewN | apply Kd.S_drew)); exact Kd.S_mono (Kd.S_far (p := ⟨gb117, 1, none⟩) (Kd.S_types HO133.out BK117.out Z21) (fun _ hk => hk.2) (.slice Ao88 y127.length co88)) (fun _ hk => hk.1.1)⟩, ⟨by (with_reducible repeat (first | apply Kd.R_alloc | apply Kd.R_drewN | apply Kd.R_drew)); exact Kd.R_mono (fT HO_123 BK117 Z21) (fun _ hk => hk.1)⟩, ⟨pf NB100_117 (pb BK100)⟩, ⟨pf NB101_117 (pb BK101)⟩, ⟨pf NB102_117 (pb BK102)⟩, ⟨pT (pp 1 (pb BK117))⟩, ⟨Z7⟩⟩

end Go.Proofs.Ytgbpbhplehmedaa.PFnExactJoinSystems
