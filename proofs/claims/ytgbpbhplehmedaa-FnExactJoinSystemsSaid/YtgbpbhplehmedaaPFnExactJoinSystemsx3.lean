-- made by wip/tools/myprint.py over the kit's print, for this claim
import Derived.Test.YtgbpbhplehmedaaPFnExactJoinSystemsx0
import Derived.Test.YtgbpbhplehmedaaPFnExactJoinSystemsx2
namespace Go.Proofs.Ytgbpbhplehmedaa.PFnExactJoinSystems
open Go.RowKit Go.Proofs.YtgbpbhplehmedaaW.PrintWords Go.Proofs.YtgbpbhplehmedaaW.PrintLast Go.Proofs.YtgbpbhplehmedaaW.PrintMore
open List (setIfInBounds_toArray set_cons_zero set_cons_succ)
attribute [local go_sem] max2_int min2_int max_two min_two max_three min_three max_four min_four   -- for this text's walks alone
set_option linter.unusedVariables false
set_option linter.unusedSimpArgs false

/-! ### Fa: function 6 -/
mutual
def Fa.j0 : Nat → Bool → Int → List (S53) → List Bool → Int → List (S53) → List Bool → Option (Int × (List (S53)) × List Bool × Bool)
 | 0, _, _, _, _, _, _, _ => none
 | k + 1, x33, x1, x2, x3, x4, x5, x6 => if x33 = true then (some (0, ([] : List (S53)), ([] : List Bool), false)) else ((some (([] : List Bool) : List Bool)).bind fun y7 => (if y7.length + x3.length < 140737488355328 then ((some (y7 ++ x3 : List Bool)).bind fun y8 => (if y8.length + x6.length < 140737488355328 then ((some (([] : List (S53)) : List (S53))).bind fun y9 => (if y9.length + x2.length < 4398046511104 then ((some (y9 ++ x2 : List (S53))).bind fun y10 => (if y10.length + x5.length < 4398046511104 then ((some (y10 ++ x5 : List (S53))).bind fun y11 => (Fa.l0 k y11 (y11.length : Int) 0 x1 ([] : List (S53)) (y8 ++ x6))) else (none))) else (none))) else (none))) else (none)))
def Fa.l0 : Nat → List (S53) → Int → Int → Int → List (S53) → List Bool → Option (Int × (List (S53)) × List Bool × Bool)
 | 0, _, _, _, _, _, _ => none
 | k + 1, x51, x52, x53, x2, x3, x4 => if x53 < x52 then (if 0 ≤ x53 then (if x53 < (x51.length : Int) then ((FR.f ((rd_T53 x51 x53).f0) ((rd_T53 x51 x53).f1)).bind fun bt5 => (if x3.length < 4398046511104 then (Fa.l0 k x51 x52 (wrap64 (x53 + 1)) x2 (x3 ++ [(⟨bt5.1, bt5.2⟩ : S53)]) x4) else (none))) else (none)) else (none)) else (some (x2, x3, x4, true))
end
def Fa.f (k : Nat) (a0_0 : Int) (l0_1 : List (S53)) (l0_2 : List Bool) (a1_0 : Int) (l1_1 : List (S53)) (l1_2 : List Bool) : Option (Int × (List (S53)) × List Bool × Bool) := (Fd.f k a0_0 l0_1 l0_2).bind fun t3 => (if t3 = true then ((Fd.f k a1_0 l1_1 l1_2).bind fun t4 => (if t4 = true then (if a0_0 = a1_0 then (Fa.j0 k (decide ((wrap64 ((l0_1.length : Int) + (l1_1.length : Int))) > 40)) a0_0 l0_1 l0_2 a1_0 l1_1 l1_2) else (Fa.j0 k true a0_0 l0_1 l0_2 a1_0 l1_1 l1_2)) else (Fa.j0 k true a0_0 l0_1 l0_2 a1_0 l1_1 l1_2))) else (Fa.j0 k true a0_0 l0_1 l0_2 a1_0 l1_1 l1_2))
theorem Fa.mono_l : ∀ k, (∀ y0 y1 y2 y3 y4 y5 y6, LeO (Fa.j0 k y0 y1 y2 y3 y4 y5 y6) (Fa.j0 (k + 1) y0 y1 y2 y3 y4 y5 y6)) ∧ (∀ y0 y1 y2 y3 y4 y5, LeO (Fa.l0 k y0 y1 y2 y3 y4 y5) (Fa.l0 (k + 1) y0 y1 y2 y3 y4 y5))
 | 0 => ⟨fun _ _ _ _ _ _ _ r h => by simp [Fa.j0] at h, fun _ _ _ _ _ _ r h => by simp [Fa.l0] at h⟩ | k + 1 => by
  obtain ⟨ih0, ih1⟩ := Fa.mono_l k
  refine ⟨?_, ?_⟩
  ·
   intro y0 y1 y2 y3 y4 y5 y6
   unfold Fa.j0
   exact Mo3
  intro y0 y1 y2 y3 y4 y5
  unfold Fa.l0
  exact Mo3
theorem Fa.mono : ∀ a0 a1 a2 a3 a4 a5 k, LeO (Fa.f k a0 a1 a2 a3 a4 a5) (Fa.f (k + 1) a0 a1 a2 a3 a4 a5) := by
 intro a0 a1 a2 a3 a4 a5 k
 obtain ⟨ih0, ih1⟩ := Fa.mono_l k
 unfold Fa.f
 exact Mo3
def Fa.T3 : Bool × List (List Nat × List Nat) := (true, [([], []), ([0], [0]), ([], []), ([], []), ([3], [3]), ([2, 4], [2, 4]), ([], []), ([6], [6]), ([5, 7, 5], [5, 7]), ([1, 8], [1, 8]), ([], []), ([10, 9, 8, 0, 1, 2, 3, 4, 5, 6, 7, 8, 9, 10], [9, 10])])
def Fa.B3 : List Nat := [0, 1, 0, 0, 8, 28, 0, 64, 252, 511, 0, 2047]
theorem Fa.tab3 : rtab .any (opsOf Try.f6 3) = Fa.T3 := by kernel_rfl
theorem Fa.bits3 : waitsOk Fa.T3.2 Fa.B3 = true := by kernel_rfl
def Fa.T4 : Bool × List (List Nat × List Nat) := (true, [([], []), ([], []), ([1], [1]), ([0, 2], [0, 2]), ([], []), ([4], [4]), ([3, 5, 3], [3, 5]), ([6], [6]), ([], [])])
def Fa.B4 : List Nat := [0, 0, 2, 7, 0, 16, 63, 127, 0]
theorem Fa.tab4 : rtab .any (opsOf Try.f6 4) = Fa.T4 := by kernel_rfl
theorem Fa.bits4 : waitsOk Fa.T4.2 Fa.B4 = true := by kernel_rfl
def Fa.T7 : Bool × List (List Nat × List Nat) := (true, [([], []), ([0], [0]), ([], []), ([2], [2]), ([3], [3]), ([1, 4, 3], [1, 4]), ([0, 1, 2, 3, 4, 5], []), ([6, 5, 5, 0, 1, 2, 3, 4, 5], [5, 6])])
def Fa.B7 : List Nat := [0, 1, 0, 4, 12, 31, 63, 127]
theorem Fa.tab7 : rtab .any (opsOf Try.f6 7) = Fa.T7 := by kernel_rfl
theorem Fa.bits7 : waitsOk Fa.T7.2 Fa.B7 = true := by kernel_rfl
set_option maxHeartbeats 8000000 in
set_option maxRecDepth 100000 in
theorem Fa.calls (k : Nat) (a0_0 : Int) (P0_1_ : Nat → Prop) (A0_1 : Option Addr) (c0_1 : Nat) (l0_1 : List (S53)) (A0_2 : Option Addr) (c0_2 : Nat) (l0_2 : List Bool) (a1_0 : Int) (P1_1_ : Nat → Prop) (A1_1 : Option Addr) (c1_1 : Nat) (l1_1 : List (S53)) (A1_2 : Option Addr) (c1_2 : Nat) (l1_2 : List Bool) (r1 : Int) (r2 : List (S53)) (r3 : List Bool) (r4 : Bool) (w : World) (hs0_1 : Kd.V k53 53 w w.heap.size (fun k_ => P0_1_ k_) (.slice A0_1 l0_1.length c0_1) l0_1) (hr0_2 : Kd.C Kd.bool w A0_2 l0_2.length l0_2) (hc0_2 : l0_2.length ≤ c0_2) (hs1_1 : Kd.V k53 53 w w.heap.size (fun k_ => P1_1_ k_) (.slice A1_1 l1_1.length c1_1) l1_1) (hr1_2 : Kd.C Kd.bool w A1_2 l1_2.length l1_2) (hc1_2 : l1_2.length ≤ c1_2) (h : Fa.f k a0_0 l0_1 l0_2 a1_0 l1_1 l1_2 = some (r1, r2, r3, r4)) :
  Calls Try.prog 6 #[.agg #[.int .i64 a0_0, .slice A0_1 l0_1.length c0_1, .slice A0_2 l0_2.length c0_2], .agg #[.int .i64 a1_0, .slice A1_1 l1_1.length c1_1, .slice A1_2 l1_2.length c1_2]] w fun e w' => ∃ v1_ v2_ : Value, e = .returned (.tuple #[.agg #[.int .i64 r1, v1_, v2_], .bool r4]) ∧ Kd.S k53 53 w' w.heap.size (fun k_ => (w.heap.size ≤ k_)) v1_ r2 ∧ Kd.R Kd.bool 4 w' w.heap.size (fun k_ => (w.heap.size ≤ k_)) v2_ r3 ∧ Below w.heap.size w w' := by
 have hu29 := Try.underlying29
 have hu53 := Try.underlying53
 have HO0_1 := am (show Kd.V k53 53 w w.heap.size (fun k_ => ((P0_1_ k_ ∨ P1_1_ k_) ∨ w.heap.size ≤ k_)) (.slice A0_1 l0_1.length c0_1) l0_1 from Kd.V_mono hs0_1 (fun k_ hk => .inl (.inl hk)))
 have HR0_2 := am hr0_2
 have HC0_2 := am hc0_2
 clear hr0_2 hc0_2
 have HO1_1 := am (show Kd.V k53 53 w w.heap.size (fun k_ => ((P0_1_ k_ ∨ P1_1_ k_) ∨ w.heap.size ≤ k_)) (.slice A1_1 l1_1.length c1_1) l1_1 from Kd.V_mono hs1_1 (fun k_ hk => .inl (.inr hk)))
 have HR1_2 := am hr1_2
 have HC1_2 := am hc1_2
 clear hr1_2 hc1_2
 have HB := am (Below.refl w.heap.size w)
 have H : ((Fd.f k a0_0 l0_1 l0_2).bind fun t94 => (if t94 = true then ((Fd.f k a1_0 l1_1 l1_2).bind fun t95 => (if t95 = true then (if a0_0 = a1_0 then (Fa.j0 k (decide ((wrap64 ((l0_1.length : Int) + (l1_1.length : Int))) > 40)) a0_0 l0_1 l0_2 a1_0 l1_1 l1_2) else (Fa.j0 k true a0_0 l0_1 l0_2 a1_0 l1_1 l1_2)) else (Fa.j0 k true a0_0 l0_1 l0_2 a1_0 l1_1 l1_2))) else (Fa.j0 k true a0_0 l0_1 l0_2 a1_0 l1_1 l1_2))) = some (r1, r2, r3, r4) := h
 clear h
 have HC3 := am H
 clear H
 go_enter Try.func6, Try.ntmps6
 go_upto_region 1 with (first | ((with_reducible refine gate_dst (N := 2) rfl ?_); (try (refine gate_guard Z62 ?_; dsimp only)); refine box_event ?hg (N := 2) ?hd (cs := #[.int .i64 a0_0, .slice A0_1 l0_1.length c0_1, .slice A0_2 l0_2.length c0_2]) (t := 29) ?hr ?_; (case hd => rfl); (case hg => rfl); (case hr => exact Z88); intro gb96 hg w4 hbox hb; replace HO0_1 := am (Kd.V_below (Kd.V_elderB Z11 gb96 (Nat.le_of_eq hg.symm)) hb); replace HO1_1 := am (Kd.V_below (Kd.V_elderB Z10 gb96 (Nat.le_of_eq hg.symm)) hb); have BK96 := am (hbox); have GW96 := nG HB hg; have GE96 := nG HB hg; have GI96 := gI GE96; replace HB := am (below_step (uN HB) hb); clear hb hbox hg) | ((with_reducible refine gate_dst (N := 3) rfl ?_); (try (refine gate_guard Z62 ?_; dsimp only)); refine box_event ?hg (N := 3) ?hd (cs := #[.int .i64 a1_0, .slice A1_1 l1_1.length c1_1, .slice A1_2 l1_2.length c1_2]) (t := 29) ?hr ?_; (case hd => rfl); (case hg => rfl); (case hr => exact Z88); intro gb97 hg w5 hbox hb; replace HO0_1 := am (Kd.V_below (Kd.V_elderB Z11 gb97 (Nat.le_of_eq hg.symm)) hb); replace HO1_1 := am (Kd.V_below (Kd.V_elderB Z10 gb97 (Nat.le_of_eq hg.symm)) hb); have BK97 := am (hbox); have GW97 := am ((by rw [hg]; exact (below_size Z58) : w.heap.size ≤ gb97)); have GE97 := am ((by rw [hg]; exact (below_size Z58) : w.heap.size ≤ gb97)); replace HB := am (below_step Z58 hb); have NB96_97 := nL BK96 hg; have NB97_96 := nR BK96 hg; replace BK96 := kB BK96 hb; clear hb hbox hg) | ((with_reducible refine gate_dst (N := 4) rfl ?_); (try (refine gate_guard Z62 ?_; dsimp only)); refine box_event ?hg (N := 4) ?hd (cs := #[.int .i64 0, .slice none 0 0, .slice none 0 0]) (t := 29) ?hr ?_; (case hd => rfl); (case hg => rfl); (case hr => exact Z88); intro gb98 hg w6 hbox hb; replace HO0_1 := am (Kd.V_below (Kd.V_elderB Z11 gb98 (Nat.le_of_eq hg.symm)) hb); replace HO1_1 := am (Kd.V_below (Kd.V_elderB Z10 gb98 (Nat.le_of_eq hg.symm)) hb); have BK98 := am (hbox); have GW98 := am ((by rw [hg]; exact (below_size Z49) : w.heap.size ≤ gb98)); have GE98 := am ((by rw [hg]; exact (below_size Z49) : w.heap.size ≤ gb98)); replace HB := am (below_step Z49 hb); have NB96_98 := nL BK96 hg; have NB98_96 := nR BK96 hg; replace BK96 := kB BK96 hb; have NB97_98 := nL BK97 hg; have NB98_97 := nR BK97 hg; replace BK97 := kB BK97 hb; clear hb hbox hg))
 (try simp only [Act.put, setIfInBounds_toArray, set_cons_zero, set_cons_succ])
 go_cut [33] (fun v33 wc => ∃ (kq : Nat) (x33_2 : Bool), v33 = .bool x33_2 ∧ Aside0 (Fa.j0 kq x33_2 a0_0 l0_1 l0_2 a1_0 l1_1 l1_2 = some (r1, r2, r3, r4)) ∧ Aside0 (kq ≤ k) ∧ Aside0 (Kd.V k53 53 wc w.heap.size (fun k_ => ((P0_1_ k_ ∨ P1_1_ k_) ∨ w.heap.size ≤ k_) ∧ k_ ≠ gb96 ∧ k_ ≠ gb97 ∧ k_ ≠ gb98) (.slice A0_1 l0_1.length c0_1) l0_1) ∧ Aside0 (Kd.V k53 53 wc w.heap.size (fun k_ => ((P0_1_ k_ ∨ P1_1_ k_) ∨ w.heap.size ≤ k_) ∧ k_ ≠ gb96 ∧ k_ ≠ gb97 ∧ k_ ≠ gb98) (.slice A1_1 l1_1.length c1_1) l1_1) ∧ Aside0 (wc.heap[gb96]? = some (.cells #[.int .i64 a0_0, (.slice A0_1 l0_1.length c0_1), (.slice A0_2 l0_2.length c0_2)] 29 (0, 0))) ∧ Aside0 (wc.heap[gb97]? = some (.cells #[.int .i64 a1_0, (.slice A1_1 l1_1.length c1_1), (.slice A1_2 l1_2.length c1_2)] 29 (0, 0))) ∧ Aside0 (wc.heap[gb98]? = some (.cells #[.int .i64 0, (.slice none 0 0), (.slice none 0 0)] 29 (0, 0))) ∧ Aside0 (Below w.heap.size w wc))
 case first =>
  have H := HC3.out
  clear HC3
  replace H := Option.bind_eq_some_iff.mp H
  obtain ⟨t94, A70, H⟩ := H
  try dsimp only at H
  have A7 := am A70
  clear A70
  by_cases c8 : t94 = true
  rotate_left
  ·
   replace c8 := Bool.eq_false_iff.mpr c8
   subst c8
   rw [if_neg (show ¬ (false = true) from Z21)] at H
   have H' := am H
   clear H
   have hnb37 := NB96_97.out
   have hnc37 := NB97_96.out
   have hnb38 := NB96_98.out
   have hnc38 := NB98_96.out
   obtain ⟨hcz39_0, hcz39_1, hcz39_2, hfz39_0, hfz39_1, hfz39_2⟩ := ce3 BK96
   go_wp2_with (first | ((with_reducible refine gate_callee (f := 23) rfl ?_); refine gL 10 rfl Try.func23 #[.agg #[.int .i64 a0_0, .slice A0_1 l0_1.length c0_1, .slice A0_2 l0_2.length c0_2]] ?_; (with_reducible refine (Fd.calls k a0_0 _ _ l0_1 _ _ l0_2 false _ ?side1 ?side2 ?side3 ?side4 A7.out).mono ?_); (case side1 => exact Z22); (case side2 => exact (Kd.V_reads' HO0_1.out).2.1); (case side3 => exact uC HR0_2 HB); (case side4 => exact HC0_2.out); rintro e w40 ⟨rfl, hb⟩; refine ⟨_, rfl, ?_⟩; replace HO0_1 := am (Kd.V_below Z11 hb); replace HO1_1 := am (Kd.V_below Z10 hb); replace BK96 := kB BK96 hb; replace BK97 := kB BK97 hb; replace BK98 := kB BK98 hb; replace HB := am (below_step Z2 hb); (try clear hb); (try clear hb2); (try clear hk); (try clear hi)))
   go_meet
   case rel => exact ⟨_, (true), Z87, H', ⟨Z93⟩, ⟨Z25⟩, ⟨Z24⟩, ⟨pb BK96⟩, ⟨pb BK97⟩, ⟨pb BK98⟩, ⟨Z2⟩⟩
  subst c8
  rw [if_pos rfl] at H
  replace H := Option.bind_eq_some_iff.mp H
  obtain ⟨t95, A90, H⟩ := H
  try dsimp only at H
  have A9 := am A90
  clear A90
  by_cases c10 : t95 = true
  ·
   subst c10
   rw [if_pos rfl] at H
   by_cases c11 : a0_0 = a1_0
   ·
    rw [if_pos c11] at H
    have c11b0 : (a0_0 == a1_0) = true := beq_iff_eq.mpr c11
    have c11b1 : (a0_0 != a1_0) = false := bne_eq_false_iff_eq.mpr c11
    clear c11
    (first | rw [c11b0] | (simp only [i64_w, i32_w]; rw [c11b0]) | skip)
    have H' := am H
    clear H
    have hnb12 := NB96_97.out
    have hnc12 := NB97_96.out
    have hnb13 := NB96_98.out
    have hnc13 := NB98_96.out
    obtain ⟨hcz14_0, hcz14_1, hcz14_2, hfz14_0, hfz14_1, hfz14_2⟩ := ce3 BK96
    go_wp2_with (first | ((with_reducible refine gate_callee (f := 23) rfl ?_); refine gL 10 rfl Try.func23 #[.agg #[.int .i64 a0_0, .slice A0_1 l0_1.length c0_1, .slice A0_2 l0_2.length c0_2]] ?_; (with_reducible refine (Fd.calls k a0_0 _ _ l0_1 _ _ l0_2 true _ ?side1 ?side2 ?side3 ?side4 A7.out).mono ?_); (case side1 => exact Z22); (case side2 => exact (Kd.V_reads' HO0_1.out).2.1); (case side3 => exact uC HR0_2 HB); (case side4 => exact HC0_2.out); rintro e w15 ⟨rfl, hb⟩; refine ⟨_, rfl, ?_⟩; replace HO0_1 := am (Kd.V_below Z11 hb); replace HO1_1 := am (Kd.V_below Z10 hb); replace BK96 := kB BK96 hb; replace BK97 := kB BK97 hb; replace BK98 := kB BK98 hb; replace HB := am (below_step Z2 hb); (try clear hb); (try clear hb2); (try clear hk); (try clear hi); have hnb16 := NB97_98.out; have hnc16 := NB98_97.out; obtain ⟨hcz17_0, hcz17_1, hcz17_2, hfz17_0, hfz17_1, hfz17_2⟩ := ce3 BK97) | (go_at_call 23; (with_reducible refine (Fd.calls k a1_0 _ _ l1_1 _ _ l1_2 true _ ?side1 ?side2 ?side3 ?side4 A9.out).mono ?_); (case side1 => exact Z36); (case side2 => exact (Kd.V_reads' HO1_1.out).2.1); (case side3 => exact uC HR1_2 HB); (case side4 => exact HC1_2.out); rintro e w18 ⟨rfl, hb⟩; replace HO0_1 := am (Kd.V_below Z11 hb); replace HO1_1 := am (Kd.V_below Z10 hb); replace BK96 := kB BK96 hb; replace BK97 := kB BK97 hb; replace BK98 := kB BK98 hb; replace HB := am (below_step Z2 hb); (try clear hb); (try clear hb2); (try clear hk); (try clear hi); obtain ⟨hcz19_0, hcz19_1, hcz19_2, hfz19_0, hfz19_1, hfz19_2⟩ := ce3 BK96; obtain ⟨hcz20_0, hcz20_1, hcz20_2, hfz20_0, hfz20_1, hfz20_2⟩ := ce3 BK97))
    go_meet
    case rel => exact ⟨_, (decide ((wrap64 ((l0_1.length : Int) + (l1_1.length : Int))) > 40)), Z87, H', ⟨Z93⟩, ⟨Z25⟩, ⟨Z24⟩, ⟨pb BK96⟩, ⟨pb BK97⟩, ⟨pb BK98⟩, ⟨Z2⟩⟩
   rw [if_neg c11] at H
   have c11b0 : (a0_0 == a1_0) = false := beq_eq_false_iff_ne.mpr c11
   have c11b1 : (a0_0 != a1_0) = true := bne_iff_ne.mpr c11
   (first | rw [c11b0] | (simp only [i64_w, i32_w]; rw [c11b0]) | skip)
   have H' := am H
   clear H
   have hnb21 := NB96_97.out
   have hnc21 := NB97_96.out
   have hnb22 := NB96_98.out
   have hnc22 := NB98_96.out
   obtain ⟨hcz23_0, hcz23_1, hcz23_2, hfz23_0, hfz23_1, hfz23_2⟩ := ce3 BK96
   go_wp2_with (first | ((with_reducible refine gate_callee (f := 23) rfl ?_); refine gL 10 rfl Try.func23 #[.agg #[.int .i64 a0_0, .slice A0_1 l0_1.length c0_1, .slice A0_2 l0_2.length c0_2]] ?_; (with_reducible refine (Fd.calls k a0_0 _ _ l0_1 _ _ l0_2 true _ ?side1 ?side2 ?side3 ?side4 A7.out).mono ?_); (case side1 => exact Z22); (case side2 => exact (Kd.V_reads' HO0_1.out).2.1); (case side3 => exact uC HR0_2 HB); (case side4 => exact HC0_2.out); rintro e w24 ⟨rfl, hb⟩; refine ⟨_, rfl, ?_⟩; replace HO0_1 := am (Kd.V_below Z11 hb); replace HO1_1 := am (Kd.V_below Z10 hb); replace BK96 := kB BK96 hb; replace BK97 := kB BK97 hb; replace BK98 := kB BK98 hb; replace HB := am (below_step Z2 hb); (try clear hb); (try clear hb2); (try clear hk); (try clear hi); have hnb25 := NB97_98.out; have hnc25 := NB98_97.out; obtain ⟨hcz26_0, hcz26_1, hcz26_2, hfz26_0, hfz26_1, hfz26_2⟩ := ce3 BK97) | (go_at_call 23; (with_reducible refine (Fd.calls k a1_0 _ _ l1_1 _ _ l1_2 true _ ?side1 ?side2 ?side3 ?side4 A9.out).mono ?_); (case side1 => exact Z36); (case side2 => exact (Kd.V_reads' HO1_1.out).2.1); (case side3 => exact uC HR1_2 HB); (case side4 => exact HC1_2.out); rintro e w27 ⟨rfl, hb⟩; replace HO0_1 := am (Kd.V_below Z11 hb); replace HO1_1 := am (Kd.V_below Z10 hb); replace BK96 := kB BK96 hb; replace BK97 := kB BK97 hb; replace BK98 := kB BK98 hb; replace HB := am (below_step Z2 hb); (try clear hb); (try clear hb2); (try clear hk); (try clear hi); obtain ⟨hcz28_0, hcz28_1, hcz28_2, hfz28_0, hfz28_1, hfz28_2⟩ := ce3 BK96; obtain ⟨hcz29_0, hcz29_1, hcz29_2, hfz29_0, hfz29_1, hfz29_2⟩ := ce3 BK97))
   go_meet
   case rel => exact ⟨_, (true), Z87, H', ⟨Z93⟩, ⟨Z25⟩, ⟨Z24⟩, ⟨pb BK96⟩, ⟨pb BK97⟩, ⟨pb BK98⟩, ⟨Z2⟩⟩
  replace c10 := Bool.eq_false_iff.mpr c10
  subst c10
  rw [if_neg (show ¬ (false = true) from Z21)] at H
  have H' := am H
  clear H
  have hnb30 := NB96_97.out
  have hnc30 := NB97_96.out
  have hnb31 := NB96_98.out
  have hnc31 := NB98_96.out
  obtain ⟨hcz32_0, hcz32_1, hcz32_2, hfz32_0, hfz32_1, hfz32_2⟩ := ce3 BK96
  go_wp2_with (first | ((with_reducible refine gate_callee (f := 23) rfl ?_); refine gL 10 rfl Try.func23 #[.agg #[.int .i64 a0_0, .slice A0_1 l0_1.length c0_1, .slice A0_2 l0_2.length c0_2]] ?_; (with_reducible refine (Fd.calls k a0_0 _ _ l0_1 _ _ l0_2 true _ ?side1 ?side2 ?side3 ?side4 A7.out).mono ?_); (case side1 => exact Z22); (case side2 => exact (Kd.V_reads' HO0_1.out).2.1); (case side3 => exact uC HR0_2 HB); (case side4 => exact HC0_2.out); rintro e w33 ⟨rfl, hb⟩; refine ⟨_, rfl, ?_⟩; replace HO0_1 := am (Kd.V_below Z11 hb); replace HO1_1 := am (Kd.V_below Z10 hb); replace BK96 := kB BK96 hb; replace BK97 := kB BK97 hb; replace BK98 := kB BK98 hb; replace HB := am (below_step Z2 hb); (try clear hb); (try clear hb2); (try clear hk); (try clear hi); have hnb34 := NB97_98.out; have hnc34 := NB98_97.out; obtain ⟨hcz35_0, hcz35_1, hcz35_2, hfz35_0, hfz35_1, hfz35_2⟩ := ce3 BK97) | (go_at_call 23; (with_reducible refine (Fd.calls k a1_0 _ _ l1_1 _ _ l1_2 false _ ?side1 ?side2 ?side3 ?side4 A9.out).mono ?_); (case side1 => exact Z36); (case side2 => exact (Kd.V_reads' HO1_1.out).2.1); (case side3 => exact uC HR1_2 HB); (case side4 => exact HC1_2.out); rintro e w36 ⟨rfl, hb⟩; replace HO0_1 := am (Kd.V_below Z11 hb); replace HO1_1 := am (Kd.V_below Z10 hb); replace BK96 := kB BK96 hb; replace BK97 := kB BK97 hb; replace BK98 := kB BK98 hb; replace HB := am (below_step Z2 hb); (try clear hb); (try clear hb2); (try clear hk); (try clear hi)))
  go_meet
  case rel => exact ⟨_, (true), Z87, H', ⟨Z93⟩, ⟨Z25⟩, ⟨Z24⟩, ⟨pb BK96⟩, ⟨pb BK97⟩, ⟨pb BK98⟩, ⟨Z2⟩⟩
 case rest =>
  clear HC3
  try clear c1
  try clear c2
  try clear p2
  try clear c3
  try clear c6
  try clear p6
  try clear c8
  try clear c10
  try clear c11
  try clear c11b0
  try clear c11b1
  try clear c12
  try clear c13
  try clear c16
  try clear c21
  try clear c22
  try clear c23
  try clear c25
  try clear c30
  try clear c31
  try clear c34
  try clear c37
  try clear c38
  try clear hcz14_0 hcz14_1 hcz14_2 hcz17_0 hcz17_1 hcz17_2 hcz19_0 hcz19_1 hcz19_2 hcz20_0 hcz20_1 hcz20_2 hcz23_0 hcz23_1 hcz23_2 hcz26_0 hcz26_1 hcz26_2 hcz28_0 hcz28_1 hcz28_2 hcz29_0 hcz29_1 hcz29_2 hcz32_0 hcz32_1 hcz32_2 hcz35_0 hcz35_1 hcz35_2 hcz39_0 hcz39_1 hcz39_2
  try clear hfz14_0 hfz14_1 hfz14_2 hfz17_0 hfz17_1 hfz17_2 hfz19_0 hfz19_1 hfz19_2 hfz20_0 hfz20_1 hfz20_2 hfz23_0 hfz23_1 hfz23_2 hfz26_0 hfz26_1 hfz26_2 hfz28_0 hfz28_1 hfz28_2 hfz29_0 hfz29_1 hfz29_2 hfz32_0 hfz32_1 hfz32_2 hfz35_0 hfz35_1 hfz35_2 hfz39_0 hfz39_1 hfz39_2
  obtain ⟨kq, x33_2, rfl, HA, HJ2, HO_99, HO_100, BK96, BK97, BK98, HB⟩ := hcut
  cases kq with
  | zero => exact absurd HA.out (by simp [Fa.j0])
  | succ kj2 =>
   have H := HA.out
   clear HA
   simp only [Fa.j0] at H
   by_cases c41 : x33_2 = true
   ·
    subst c41
    rw [if_pos rfl] at H
    simp only [Option.some.injEq, Prod.mk.injEq] at H
    obtain ⟨rfl, rfl, rfl, rfl⟩ := H
    have hnb42 := NB98_96.out
    have hnc42 := NB96_98.out
    have hnb43 := NB98_97.out
    have hnc43 := NB97_98.out
    obtain ⟨hcz44_0, hcz44_1, hcz44_2, hfz44_0, hfz44_1, hfz44_2⟩ := ce3 BK98
    go_wp2
    refine bodyPost_ret (results_ct rfl _ _ gb98 29 #[.int .i64 0, .slice none 0 0, .slice none 0 0] (0, 0) _ rfl (pT (pp 2 (pp 1 (pp 0 (pb BK98))))) Try.underlying29 rfl Z90) rfl ?_
    exact ⟨_, _, Z86, Z53, Z80, Z2⟩
   replace c41 := Bool.eq_false_iff.mpr c41
   subst c41
   rw [if_neg (show ¬ (false = true) from Z21)] at H
   obtain ⟨y101, hy101⟩ : ∃ y_ : List Bool, y_ = (([] : List Bool)) := ⟨_, rfl⟩
   replace H : (if y101.length + l0_2.length < 140737488355328 then ((some (y101 ++ l0_2 : List Bool)).bind fun y102 => (if y102.length + l1_2.length < 140737488355328 then ((some (([] : List (S53)) : List (S53))).bind fun y103 => (if y103.length + l0_1.length < 4398046511104 then ((some (y103 ++ l0_1 : List (S53))).bind fun y104 => (if y104.length + l1_1.length < 4398046511104 then ((some (y104 ++ l1_1 : List (S53))).bind fun y105 => (Fa.l0 kj2 y105 (y105.length : Int) 0 a0_0 ([] : List (S53)) (y102 ++ l1_2))) else (none))) else (none))) else (none))) else (none)) = some (r1, r2, r3, r4) := by first | (rw [hy101]; with_reducible exact H) | (have H2_ := (Option.bind_some _ _).symm.trans H; rw [hy101]; with_reducible exact H2_) | (have H2_ := (Option.bind_some _ _).symm.trans H; with_reducible exact H2_) | with_reducible exact H | (rw [hy101]; exact H) | exact H
   have Ny101 := am hy101
   clear hy101
   by_cases c45 : y101.length + l0_2.length < 140737488355328
   rotate_left
   ·
    rw [if_neg c45] at H
    exact absurd H Z65
   rw [if_pos c45] at H
   have LMc45 := am c45
   clear c45
   obtain ⟨y102, hy102⟩ : ∃ y_ : List Bool, y_ = (y101 ++ l0_2) := ⟨_, rfl⟩
   replace H : (if y102.length + l1_2.length < 140737488355328 then ((some (([] : List (S53)) : List (S53))).bind fun y103 => (if y103.length + l0_1.length < 4398046511104 then ((some (y103 ++ l0_1 : List (S53))).bind fun y104 => (if y104.length + l1_1.length < 4398046511104 then ((some (y104 ++ l1_1 : List (S53))).bind fun y105 => (Fa.l0 kj2 y105 (y105.length : Int) 0 a0_0 ([] : List (S53)) (y102 ++ l1_2))) else (none))) else (none))) else (none)) = some (r1, r2, r3, r4) := by first | (rw [hy102]; with_reducible exact H) | (have H2_ := (Option.bind_some _ _).symm.trans H; rw [hy102]; with_reducible exact H2_) | (have H2_ := (Option.bind_some _ _).symm.trans H; with_reducible exact H2_) | with_reducible exact H | (rw [hy102]; exact H) | exact H
   have Ny102 := am hy102
   clear hy102
   by_cases c46 : y102.length + l1_2.length < 140737488355328
   rotate_left
   ·
    rw [if_neg c46] at H
    exact absurd H Z65
   rw [if_pos c46] at H
   have LMc46 := am c46
   clear c46
   obtain ⟨y106, hy106⟩ : ∃ y_ : List Bool, y_ = (y102 ++ l1_2) := ⟨_, rfl⟩
   replace H : ((some (([] : List (S53)) : List (S53))).bind fun y103 => (if y103.length + l0_1.length < 4398046511104 then ((some (y103 ++ l0_1 : List (S53))).bind fun y104 => (if y104.length + l1_1.length < 4398046511104 then ((some (y104 ++ l1_1 : List (S53))).bind fun y105 => (Fa.l0 kj2 y105 (y105.length : Int) 0 a0_0 ([] : List (S53)) y106)) else (none))) else (none))) = some (r1, r2, r3, r4) := by first | (rw [hy106]; with_reducible exact H) | (have H2_ := (Option.bind_some _ _).symm.trans H; rw [hy106]; with_reducible exact H2_) | (have H2_ := (Option.bind_some _ _).symm.trans H; with_reducible exact H2_) | with_reducible exact H | (rw [hy106]; exact H) | exact H
   have Ny106 := am hy106
   clear hy106
   obtain ⟨y103, hy103⟩ : ∃ y_ : List (S53), y_ = (([] : List (S53))) := ⟨_, rfl⟩
   replace H : (if y103.length + l0_1.length < 4398046511104 then ((some (y103 ++ l0_1 : List (S53))).bind fun y104 => (if y104.length + l1_1.length < 4398046511104 then ((some (y104 ++ l1_1 : List (S53))).bind fun y105 => (Fa.l0 kj2 y105 (y105.length : Int) 0 a0_0 ([] : List (S53)) y106)) else (none))) else (none)) = some (r1, r2, r3, r4) := by first | (rw [hy103]; with_reducible exact H) | (have H2_ := (Option.bind_some _ _).symm.trans H; rw [hy103]; with_reducible exact H2_) | (have H2_ := (Option.bind_some _ _).symm.trans H; with_reducible exact H2_) | with_reducible exact H | (rw [hy103]; exact H) | exact H
   have Ny103 := am hy103
   clear hy103
   by_cases c47 : y103.length + l0_1.length < 4398046511104
   rotate_left
   ·
    rw [if_neg c47] at H
    exact absurd H Z65
   rw [if_pos c47] at H
   have LMc47 := am c47
   clear c47
   obtain ⟨y104, hy104⟩ : ∃ y_ : List (S53), y_ = (y103 ++ l0_1) := ⟨_, rfl⟩
   replace H : (if y104.length + l1_1.length < 4398046511104 then ((some (y104 ++ l1_1 : List (S53))).bind fun y105 => (Fa.l0 kj2 y105 (y105.length : Int) 0 a0_0 ([] : List (S53)) y106)) else (none)) = some (r1, r2, r3, r4) := by first | (rw [hy104]; with_reducible exact H) | (have H2_ := (Option.bind_some _ _).symm.trans H; rw [hy104]; with_reducible exact H2_) | (have H2_ := (Option.bind_some _ _).symm.trans H; with_reducible exact H2_) | with_reducible exact H | (rw [hy104]; exact H) | exact H
   have Ny104 := am hy104
   clear hy104
   by_cases c48 : y104.length + l1_1.length < 4398046511104
   rotate_left
   ·
    rw [if_neg c48] at H
    exact absurd H Z65
   rw [if_pos c48] at H
   have LMc48 := am c48
   clear c48
   obtain ⟨y105, hy105⟩ : ∃ y_ : List (S53), y_ = (y104 ++ l1_1) := ⟨_, rfl⟩
   replace H : (Fa.l0 kj2 y105 (y105.length : Int) 0 a0_0 ([] : List (S53)) y106) = some (r1, r2, r3, r4) := by first | (rw [hy105]; with_reducible exact H) | (have H2_ := (Option.bind_some _ _).symm.trans H; rw [hy105]; with_reducible exact H2_) | (have H2_ := (Option.bind_some _ _).symm.trans H; with_reducible exact H2_) | with_reducible exact H | (rw [hy105]; exact H) | exact H
   have Ny105 := am hy105
   clear hy105
   have H' := am H
   clear H
   try go_wp2
   replace HO_99 := am (Kd.V_drew HO_99.out)
   replace HO_100 := am (Kd.V_drew HO_100.out)
   replace BK96 := am (blk_drew BK96.out)
   replace BK97 := am (blk_drew BK97.out)
   replace BK98 := am (blk_drew BK98.out)
   replace HB := am (below_drew1 HB.out)
   refine start_ (n := 12) (S := fun w' => w'.cell? ⟨gb96, 0, none⟩ = some (.int .i64 a0_0) ∧ w'.cell? ⟨gb96, 1, none⟩ = some (.slice A0_1 l0_1.length c0_1) ∧ w'.cell? ⟨gb96, 2, none⟩ = some (.slice A0_2 l0_2.length c0_2) ∧ w'.cell? ⟨gb97, 0, none⟩ = some (.int .i64 a1_0) ∧ w'.cell? ⟨gb97, 1, none⟩ = some (.slice A1_1 l1_1.length c1_1) ∧ w'.cell? ⟨gb97, 2, none⟩ = some (.slice A1_2 l1_2.length c1_2)) (ds := []) (bA 12 0) Z90 rfl rfl ⟨bc BK96 0, bc BK96 1, bc BK96 2, bc BK97 0, bc BK97 1, bc BK97 2⟩ (fun hHeld => ?_); refine with_tabW Fa.tab3 Fa.bits3 (fun HT_ HW_ => ?_)
   generalize wc.drew = w49 at HO_99 HO_100 BK96 BK97 BK98 HB hHeld ⊢
   refine pS 0 35 (bA 12 1) ?_
   refine pS 3 38 (bA 12 9) ?_
   refine pS 6 41 (bA 12 73) ?_
   refine tS6 1 36 (bA 12 75) hHeld ?_
   refine tS6 4 39 (bA 12 91) hHeld ?_
   refine tS6 7 42 (bA 12 219) hHeld ?_
   refine join_ (σ := Value × Value × Value × Nat) 1 (bA 12 2047) (fun s_ => [(37, s_.1), (40, s_.2.1), (43, s_.2.2.1), (6, .pointer (some ⟨s_.2.2.2, 0, none⟩)), (44, .agg #[.int .i64 a0_0, .slice none 0 0, s_.2.2.1])]) (fun s_ w' => (w'.cell? ⟨gb96, 0, none⟩ = some (.int .i64 a0_0) ∧ w'.cell? ⟨gb96, 1, none⟩ = some (.slice A0_1 l0_1.length c0_1) ∧ w'.cell? ⟨gb96, 2, none⟩ = some (.slice A0_2 l0_2.length c0_2) ∧ w'.cell? ⟨gb97, 0, none⟩ = some (.int .i64 a1_0) ∧ w'.cell? ⟨gb97, 1, none⟩ = some (.slice A1_1 l1_1.length c1_1) ∧ w'.cell? ⟨gb97, 2, none⟩ = some (.slice A1_2 l1_2.length c1_2)) ∧ (Kd.R Kd.bool 4 w' w.heap.size (fun k_ => (w.heap.size ≤ k_)) s_.2.2.1 y106) ∧ (Kd.V k53 53 w' w.heap.size (fun k_ => ((P0_1_ k_ ∨ P1_1_ k_) ∨ w.heap.size ≤ k_) ∧ some k_ ≠ (s_.2.2.1 : Value).ownBlock ∧ k_ ≠ gb96 ∧ k_ ≠ gb97 ∧ k_ ≠ gb98 ∧ k_ ≠ s_.2.2.2) (.slice A0_1 l0_1.length c0_1) l0_1) ∧ (Kd.V k53 53 w' w.heap.size (fun k_ => ((P0_1_ k_ ∨ P1_1_ k_) ∨ w.heap.size ≤ k_) ∧ some k_ ≠ (s_.2.2.1 : Value).ownBlock ∧ k_ ≠ gb96 ∧ k_ ≠ gb97 ∧ k_ ≠ gb98 ∧ k_ ≠ s_.2.2.2) (.slice A1_1 l1_1.length c1_1) l1_1) ∧ (w'.heap[gb96]? = some (.cells #[.int .i64 a0_0, .slice A0_1 l0_1.length c0_1, .slice A0_2 l0_2.length c0_2] 29 (0, 0))) ∧ (w'.heap[gb97]? = some (.cells #[.int .i64 a1_0, .slice A1_1 l1_1.length c1_1, .slice A1_2 l1_2.length c1_2] 29 (0, 0))) ∧ (w'.heap[gb98]? = some (.cells #[.int .i64 0, .slice none 0 0, .slice none 0 0] 29 (0, 0))) ∧ (w'.heap[s_.2.2.2]? = some (.cells #[.int .i64 0, .slice none 0 0, .slice none 0 0] 29 (0, 0))) ∧ (w.heap.size ≤ s_.2.2.2) ∧ (w.heap.size ≤ s_.2.2.2) ∧ (gb96 ≠ s_.2.2.2) ∧ (s_.2.2.2 ≠ gb96) ∧ (gb97 ≠ s_.2.2.2) ∧ (s_.2.2.2 ≠ gb97) ∧ (gb98 ≠ s_.2.2.2) ∧ (s_.2.2.2 ≠ gb98) ∧ (Below w.heap.size w w')) ?_ ?_
   rotate_left
   ·
    intro hCont
    refine two_ (i := 2) (j := 10) (Ni := some 37) (Nj := some 6) (bA 12 223) (bA 12 1243) rfl rfl rfl rfl (two_of HT_.out Z90) Z21 Z21 (fun K hK => ?_) (fun K hK => ?_)
    ·
     skip
     refine Kd.R_lit_step Kd.bool _ 4 ?hg (N := 37) ?hd (xs := ([] : List Bool)) (inner := []) (ok := fun _ => True) (okp := fun _ => True) ?hr ?hp (fun _ hk => hk) trivial (Below.refl _ _) (Nat.le_refl _) Z65 ?_; (case hd => rfl); (case hg => rfl); (case hr => exact Z88); (case hp => exact (Reps.none _ _))
     intro v107 w50 ho51 hb hg_ hnew_
     clear hg_ hnew_
     (first | rw [← Ny101.out] at ho51 | (simp only [Int.reduceToNat] at ho51; rw [← Ny101.out] at ho51))
     replace HO_99 := am (Kd.V_elder' Z18 (Kd.R_base ho51) hb)
     replace HO_100 := am (Kd.V_elder' Z17 (Kd.R_base ho51) hb)
     have HO108 := am (Kd.R_lower (Kd.R_newM (M := fun k_ => (w.heap.size ≤ k_)) ho51 (below_size Z2) (fun k_ h_ => h_)) (below_size Z2))
     replace BK96 := kB BK96 hb
     replace BK97 := kB BK97 hb
     replace BK98 := kB BK98 hb
     replace HB := am (below_step Z2 hb)
     clear hb ho51
     refine hK.out _ _ ⟨bc BK96 0, bc BK96 1, bc BK96 2, bc BK97 0, bc BK97 1, bc BK97 2⟩ (fun hHeld => ?_)
     clear hK K
     refine norm_ (a' := ?_) ?_ ?_
     rotate_left
     ·
      show Act.put _ (some 37) _ = _
      simp only [Act.put, setIfInBounds_toArray, set_cons_zero, set_cons_succ, i64_w, i32_w]
      rfl
     refine two_ (i := 5) (j := 10) (Ni := some 40) (Nj := some 6) (bA 12 255) (bA 12 1247) rfl rfl rfl rfl (two_of HT_.out Z90) Z21 Z21 (fun K hK => ?_) (fun K hK => ?_)
     ·
      skip
      refine Kd.R_append_rows_step Kd.bool (w0 := w) w.heap.size Z62 (.tmp 37) (.tmp 39) 23 4 (.bool false) 1 rfl Try.underlying23 info4 rfl Z21 Z70 v107 y101 l0_2 _ _ _ (fun k_ => (w.heap.size ≤ k_)) (fun _ => False) rfl rfl ?aO ?aR (fun _ _ h => h) (fun _ h => h.elim) ?aF ?aB ?aS ?aL ?_
      (case aR => exact uC HR0_2 HB)
      (case aB => exact Z2)
      (case aF => exact (fun k_ hk => (Nat.le_trans (below_size Z2) hk)))
      (case aO => exact Z69)
      (case aS => exact (below_size Z2))
      (case aL => have := LMc45.out; omega)
      intro v109 w52 ho hb hg hat
      rw [← Ny102.out] at ho
      replace HO_99 := am (Kd.V_afterv (ok := (fun k_ => ((P0_1_ k_ ∨ P1_1_ k_) ∨ w.heap.size ≤ k_) ∧ k_ ≠ gb96 ∧ k_ ≠ gb97 ∧ k_ ≠ gb98)) Z18 hg hat)
      replace HO_100 := am (Kd.V_afterv (ok := (fun k_ => ((P0_1_ k_ ∨ P1_1_ k_) ∨ w.heap.size ≤ k_) ∧ k_ ≠ gb96 ∧ k_ ≠ gb97 ∧ k_ ≠ gb98)) Z17 hg hat)
      replace BK96 := am (blk_grown (g := gb96) (o := .cells #[.int .i64 a0_0, .slice A0_1 l0_1.length c0_1, .slice A0_2 l0_2.length c0_2] 29 (0, 0)) (uK BK96) hg (Kd.R_ne HO108.out BK96.out Z21))
      replace BK97 := am (blk_grown (g := gb97) (o := .cells #[.int .i64 a1_0, .slice A1_1 l1_1.length c1_1, .slice A1_2 l1_2.length c1_2] 29 (0, 0)) (uK BK97) hg (Kd.R_ne HO108.out BK97.out Z21))
      replace BK98 := am (blk_grown (g := gb98) (o := .cells #[.int .i64 0, .slice none 0 0, .slice none 0 0] 29 (0, 0)) (uK BK98) hg (Kd.R_ne HO108.out BK98.out Z21))
      replace HB := am (hb)
      have HO110 := am (ho)
      clear HO108
      clear ho hb hg hat
      refine hK.out _ _ ⟨bc BK96 0, bc BK96 1, bc BK96 2, bc BK97 0, bc BK97 1, bc BK97 2⟩ (fun hHeld => ?_)
      clear hK K
      refine norm_ (a' := ?_) ?_ ?_
      rotate_left
      ·
       show Act.put _ (some 40) _ = _
       simp only [Act.put, setIfInBounds_toArray, set_cons_zero, set_cons_succ, i64_w, i32_w]
       rfl
      refine two_ (i := 8) (j := 10) (Ni := some 43) (Nj := some 6) (bA 12 511) (bA 12 1279) rfl rfl rfl rfl (two_of HT_.out Z90) Z21 Z21 (fun K hK => ?_) (fun K hK => ?_)
      ·
       skip
       refine Kd.R_append_rows_step Kd.bool (w0 := w) w.heap.size Z62 (.tmp 40) (.tmp 42) 23 4 (.bool false) 1 rfl Try.underlying23 info4 rfl Z21 Z70 v109 y102 l1_2 _ _ _ (fun k_ => (w.heap.size ≤ k_)) (fun _ => False) rfl rfl ?aO ?aR (fun _ _ h => h) (fun _ h => h.elim) ?aF ?aB ?aS ?aL ?_
       (case aR => exact uC HR1_2 HB)
       (case aB => exact Z2)
       (case aF => exact (fun k_ hk => (Nat.le_trans (below_size Z2) hk)))
       (case aO => exact (uR HO110))
       (case aS => exact (below_size Z2))
       (case aL => have := LMc46.out; omega)
       intro v111 w53 ho hb hg hat
       rw [← Ny106.out] at ho
       replace HO_99 := am (Kd.V_afterv (ok := (fun k_ => ((P0_1_ k_ ∨ P1_1_ k_) ∨ w.heap.size ≤ k_) ∧ k_ ≠ gb96 ∧ k_ ≠ gb97 ∧ k_ ≠ gb98)) Z18 hg hat)
       replace HO_100 := am (Kd.V_afterv (ok := (fun k_ => ((P0_1_ k_ ∨ P1_1_ k_) ∨ w.heap.size ≤ k_) ∧ k_ ≠ gb96 ∧ k_ ≠ gb97 ∧ k_ ≠ gb98)) Z17 hg hat)
       replace BK96 := am (blk_grown (g := gb96) (o := .cells #[.int .i64 a0_0, .slice A0_1 l0_1.length c0_1, .slice A0_2 l0_2.length c0_2] 29 (0, 0)) (uK BK96) hg (Kd.R_ne HO110.out BK96.out Z21))
       replace BK97 := am (blk_grown (g := gb97) (o := .cells #[.int .i64 a1_0, .slice A1_1 l1_1.length c1_1, .slice A1_2 l1_2.length c1_2] 29 (0, 0)) (uK BK97) hg (Kd.R_ne HO110.out BK97.out Z21))
       replace BK98 := am (blk_grown (g := gb98) (o := .cells #[.int .i64 0, .slice none 0 0, .slice none 0 0] 29 (0, 0)) (uK BK98) hg (Kd.R_ne HO110.out BK98.out Z21))
       replace HB := am (hb)
       have HO112 := am (ho)
       clear HO110
       clear ho hb hg hat
       obtain ⟨Ao54, co54, eo54⟩ := Kd.R_slice HO112.out
       (first | subst eo54 | (injection eo54 with f1_ f2_ f3_; have f4_ := f1_.symm; have f5_ := f3_.symm; clear f1_ f2_ f3_; subst f4_; subst f5_))
       refine hK.out _ _ ⟨bc BK96 0, bc BK96 1, bc BK96 2, bc BK97 0, bc BK97 1, bc BK97 2⟩ (fun hHeld => ?_)
       clear hK K
       refine norm_ (a' := ?_) ?_ ?_
       rotate_left
       ·
        show Act.put _ (some 43) _ = _
        simp only [Act.put, setIfInBounds_toArray, set_cons_zero, set_cons_succ, i64_w, i32_w]
        rfl
       refine pS 9 44 (bA 12 1023) ?_
       refine one_ (i := 10) (N := some 6) (bA 12 2047) rfl rfl (one_of HT_.out Z90) Z21 (fun K hK => ?_)
       refine box_step ?hg (N := 6) ?hd (cs := #[.int .i64 0, .slice none 0 0, .slice none 0 0]) (t := 29) ?hr ?_; (case hd => rfl); (case hg => rfl); (case hr => exact Z88)
       intro gb113 hg w55 hbox hb
       replace HO_99 := am (Kd.V_below (Kd.V_elderB Z18 gb113 (Nat.le_of_eq hg.symm)) hb)
       replace HO_100 := am (Kd.V_below (Kd.V_elderB Z17 gb113 (Nat.le_of_eq hg.symm)) hb)
       replace HO112 := rB HO112 hb
       have BK113 := am (hbox)
       have GW113 := am ((by rw [hg]; exact (below_size Z2) : w.heap.size ≤ gb113))
       have GE113 := am ((by rw [hg]; exact (below_size Z2) : w.heap.size ≤ gb113))
       replace HB := am (below_step Z2 hb)
       have NB96_113 := nL BK96 hg
       have NB113_96 := nR BK96 hg
       replace BK96 := kB BK96 hb
       have NB97_113 := nL BK97 hg
       have NB113_97 := nR BK97 hg
       replace BK97 := kB BK97 hb
       have NB98_113 := nL BK98 hg
       have NB113_98 := nR BK98 hg
       replace BK98 := kB BK98 hb
       clear hb hbox hg
       refine hK.out _ _ ⟨bc BK96 0, bc BK96 1, bc BK96 2, bc BK97 0, bc BK97 1, bc BK97 2⟩ (fun hHeld => ?_)
       clear hK K
       refine norm_ (a' := ?_) ?_ ?_
       rotate_left
       ·
        show Act.put _ (some 6) _ = _
        simp only [Act.put, setIfInBounds_toArray, set_cons_zero, set_cons_succ, i64_w, i32_w]
        rfl
       exact norm_ Z92 (hCont (v107, v109, .slice Ao54 y106.length co54, gb113) _ ⟨hHeld, (uR HO112), (by (with_reducible repeat (first | apply Kd.V_alloc | apply Kd.V_drewN | apply Kd.V_drew)); exact Kd.V_mono HO_99.out (fun _ hk => ⟨hk.1.1.1, ⟨hk.1.2, ⟨hk.1.1.2.1, ⟨hk.1.1.2.2.1, ⟨hk.1.1.2.2.2, hk.2⟩⟩⟩⟩⟩)), (by (with_reducible repeat (first | apply Kd.V_alloc | apply Kd.V_drewN | apply Kd.V_drew)); exact Kd.V_mono HO_100.out (fun _ hk => ⟨hk.1.1.1, ⟨hk.1.2, ⟨hk.1.1.2.1, ⟨hk.1.1.2.2.1, ⟨hk.1.1.2.2.2, hk.2⟩⟩⟩⟩⟩)), (uK BK96), (uK BK97), (uK BK98), (uK BK113), GW113.out, GE113.out, NB96_113.out, NB113_96.out, NB97_113.out, NB113_97.out, NB98_113.out, NB113_98.out, Z1⟩)
      skip
      refine box_step ?hg (N := 6) ?hd (cs := #[.int .i64 0, .slice none 0 0, .slice none 0 0]) (t := 29) ?hr ?_; (case hd => rfl); (case hg => rfl); (case hr => exact Z88)
      intro gb113 hg w53 hbox hb
      replace HO_99 := am (Kd.V_below (Kd.V_elderB Z18 gb113 (Nat.le_of_eq hg.symm)) hb)
      replace HO_100 := am (Kd.V_below (Kd.V_elderB Z17 gb113 (Nat.le_of_eq hg.symm)) hb)
      replace HO110 := rB HO110 hb
      have BK113 := am (hbox)
      have GW113 := am ((by rw [hg]; exact (below_size Z2) : w.heap.size ≤ gb113))
      have GE113 := am ((by rw [hg]; exact (below_size Z2) : w.heap.size ≤ gb113))
      replace HB := am (below_step Z2 hb)
      have NB96_113 := nL BK96 hg
      have NB113_96 := nR BK96 hg
      replace BK96 := kB BK96 hb
      have NB97_113 := nL BK97 hg
      have NB113_97 := nR BK97 hg
      replace BK97 := kB BK97 hb
      have NB98_113 := nL BK98 hg
      have NB113_98 := nR BK98 hg
      replace BK98 := kB BK98 hb
      clear hb hbox hg
      refine hK.out _ _ ⟨bc BK96 0, bc BK96 1, bc BK96 2, bc BK97 0, bc BK97 1, bc BK97 2⟩ (fun hHeld => ?_)
      clear hK K
      refine norm_ (a' := ?_) ?_ ?_
      rotate_left
      ·
       show Act.put _ (some 6) _ = _
       simp only [Act.put, setIfInBounds_toArray, set_cons_zero, set_cons_succ, i64_w, i32_w]
       rfl
      refine one_ (i := 8) (N := some 43) (bA 12 1535) rfl rfl (one_of HT_.out Z90) Z21 (fun K hK => ?_)
      refine Kd.R_append_rows_step Kd.bool (w0 := w) w.heap.size Z62 (.tmp 40) (.tmp 42) 23 4 (.bool false) 1 rfl Try.underlying23 info4 rfl Z21 Z70 v109 y102 l1_2 _ _ _ (fun k_ => (w.heap.size ≤ k_)) (fun _ => False) rfl rfl ?aO ?aR (fun _ _ h => h) (fun _ h => h.elim) ?aF ?aB ?aS ?aL ?_
      (case aR => exact uC HR1_2 HB)
      (case aB => exact Z1)
      (case aF => exact (fun k_ hk => (Nat.le_trans (below_size Z1) hk)))
      (case aO => exact (uR HO110))
      (case aS => exact (below_size Z1))
      (case aL => have := LMc46.out; omega)
      intro v111 w54 ho hb hg hat
      rw [← Ny106.out] at ho
      replace HO_99 := am (Kd.V_afterv (ok := (fun k_ => ((P0_1_ k_ ∨ P1_1_ k_) ∨ w.heap.size ≤ k_) ∧ k_ ≠ gb96 ∧ k_ ≠ gb97 ∧ k_ ≠ gb98 ∧ k_ ≠ gb113)) Z67 hg hat)
      replace HO_100 := am (Kd.V_afterv (ok := (fun k_ => ((P0_1_ k_ ∨ P1_1_ k_) ∨ w.heap.size ≤ k_) ∧ k_ ≠ gb96 ∧ k_ ≠ gb97 ∧ k_ ≠ gb98 ∧ k_ ≠ gb113)) Z66 hg hat)
      replace BK96 := am (blk_grown (g := gb96) (o := .cells #[.int .i64 a0_0, .slice A0_1 l0_1.length c0_1, .slice A0_2 l0_2.length c0_2] 29 (0, 0)) (uK BK96) hg (Kd.R_ne HO110.out BK96.out Z21))
      replace BK97 := am (blk_grown (g := gb97) (o := .cells #[.int .i64 a1_0, .slice A1_1 l1_1.length c1_1, .slice A1_2 l1_2.length c1_2] 29 (0, 0)) (uK BK97) hg (Kd.R_ne HO110.out BK97.out Z21))
      replace BK98 := am (blk_grown (g := gb98) (o := .cells #[.int .i64 0, .slice none 0 0, .slice none 0 0] 29 (0, 0)) (uK BK98) hg (Kd.R_ne HO110.out BK98.out Z21))
      replace BK113 := am (blk_grown (g := gb113) (o := .cells #[.int .i64 0, .slice none 0 0, .slice none 0 0] 29 (0, 0)) (uK BK113) hg (Kd.R_ne HO110.out BK113.out Z21))
      replace HB := am (hb)
      have HO112 := am (ho)
      clear HO110
      clear ho hb hg hat
      obtain ⟨Ao55, co55, eo55⟩ := Kd.R_slice HO112.out
      (first | subst eo55 | (injection eo55 with f1_ f2_ f3_; have f4_ := f1_.symm; have f5_ := f3_.symm; clear f1_ f2_ f3_; subst f4_; subst f5_))
      refine hK.out _ _ ⟨bc BK96 0, bc BK96 1, bc BK96 2, bc BK97 0, bc BK97 1, bc BK97 2⟩ (fun hHeld => ?_)
      clear hK K
      refine norm_ (a' := ?_) ?_ ?_
      rotate_left
      ·
       show Act.put _ (some 43) _ = _
       simp only [Act.put, setIfInBounds_toArray, set_cons_zero, set_cons_succ, i64_w, i32_w]
       rfl
      refine pS 9 44 (bA 12 2047) ?_
      exact norm_ Z92 (hCont (v107, v109, .slice Ao55 y106.length co55, gb113) _ ⟨hHeld, (uR HO112), Z47, Z46, (uK BK96), (uK BK97), (uK BK98), (uK BK113), GW113.out, GE113.out, NB96_113.out, NB113_96.out, NB97_113.out, NB113_97.out, NB98_113.out, NB113_98.out, Z1⟩)
     skip
     refine box_step ?hg (N := 6) ?hd (cs := #[.int .i64 0, .slice none 0 0, .slice none 0 0]) (t := 29) ?hr ?_; (case hd => rfl); (case hg => rfl); (case hr => exact Z88)
     intro gb113 hg w52 hbox hb
     replace HO_99 := am (Kd.V_below (Kd.V_elderB Z18 gb113 (Nat.le_of_eq hg.symm)) hb)
     replace HO_100 := am (Kd.V_below (Kd.V_elderB Z17 gb113 (Nat.le_of_eq hg.symm)) hb)
     replace HO108 := rB HO108 hb
     have BK113 := am (hbox)
     have GW113 := am ((by rw [hg]; exact (below_size Z2) : w.heap.size ≤ gb113))
     have GE113 := am ((by rw [hg]; exact (below_size Z2) : w.heap.size ≤ gb113))
     replace HB := am (below_step Z2 hb)
     have NB96_113 := nL BK96 hg
     have NB113_96 := nR BK96 hg
     replace BK96 := kB BK96 hb
     have NB97_113 := nL BK97 hg
     have NB113_97 := nR BK97 hg
     replace BK97 := kB BK97 hb
     have NB98_113 := nL BK98 hg
     have NB113_98 := nR BK98 hg
     replace BK98 := kB BK98 hb
     clear hb hbox hg
     refine hK.out _ _ ⟨bc BK96 0, bc BK96 1, bc BK96 2, bc BK97 0, bc BK97 1, bc BK97 2⟩ (fun hHeld => ?_)
     clear hK K
     refine norm_ (a' := ?_) ?_ ?_
     rotate_left
     ·
      show Act.put _ (some 6) _ = _
      simp only [Act.put, setIfInBounds_toArray, set_cons_zero, set_cons_succ, i64_w, i32_w]
      rfl
     refine one_ (i := 5) (N := some 40) (bA 12 1279) rfl rfl (one_of HT_.out Z90) Z21 (fun K hK => ?_)
     refine Kd.R_append_rows_step Kd.bool (w0 := w) w.heap.size Z62 (.tmp 37) (.tmp 39) 23 4 (.bool false) 1 rfl Try.underlying23 info4 rfl Z21 Z70 v107 y101 l0_2 _ _ _ (fun k_ => (w.heap.size ≤ k_)) (fun _ => False) rfl rfl ?aO ?aR (fun _ _ h => h) (fun _ h => h.elim) ?aF ?aB ?aS ?aL ?_
     (case aR => exact uC HR0_2 HB)
     (case aB => exact Z1)
     (case aF => exact (fun k_ hk => (Nat.le_trans (below_size Z1) hk)))
     (case aO => exact Z69)
     (case aS => exact (below_size Z1))
     (case aL => have := LMc45.out; omega)
     intro v109 w53 ho hb hg hat
     rw [← Ny102.out] at ho
     replace HO_99 := am (Kd.V_afterv (ok := (fun k_ => ((P0_1_ k_ ∨ P1_1_ k_) ∨ w.heap.size ≤ k_) ∧ k_ ≠ gb96 ∧ k_ ≠ gb97 ∧ k_ ≠ gb98 ∧ k_ ≠ gb113)) Z67 hg hat)
     replace HO_100 := am (Kd.V_afterv (ok := (fun k_ => ((P0_1_ k_ ∨ P1_1_ k_) ∨ w.heap.size ≤ k_) ∧ k_ ≠ gb96 ∧ k_ ≠ gb97 ∧ k_ ≠ gb98 ∧ k_ ≠ gb113)) Z66 hg hat)
     replace BK96 := am (blk_grown (g := gb96) (o := .cells #[.int .i64 a0_0, .slice A0_1 l0_1.length c0_1, .slice A0_2 l0_2.length c0_2] 29 (0, 0)) (uK BK96) hg (Kd.R_ne HO108.out BK96.out Z21))
     replace BK97 := am (blk_grown (g := gb97) (o := .cells #[.int .i64 a1_0, .slice A1_1 l1_1.length c1_1, .slice A1_2 l1_2.length c1_2] 29 (0, 0)) (uK BK97) hg (Kd.R_ne HO108.out BK97.out Z21))
     replace BK98 := am (blk_grown (g := gb98) (o := .cells #[.int .i64 0, .slice none 0 0, .slice none 0 0] 29 (0, 0)) (uK BK98) hg (Kd.R_ne HO108.out BK98.out Z21))
     replace BK113 := am (blk_grown (g := gb113) (o := .cells #[.int .i64 0, .slice none 0 0, .slice none 0 0] 29 (0, 0)) (uK BK113) hg (Kd.R_ne HO108.out BK113.out Z21))
     replace HB := am (hb)
     have HO110 := am (ho)
     clear HO108
     clear ho hb hg hat
     refine hK.out _ _ ⟨bc BK96 0, bc BK96 1, bc BK96 2, bc BK97 0, bc BK97 1, bc BK97 2⟩ (fun hHeld => ?_)
     clear hK K
     refine norm_ (a' := ?_) ?_ ?_
     rotate_left
     ·
      show Act.put _ (some 40) _ = _
      simp only [Act.put, setIfInBounds_toArray, set_cons_zero, set_cons_succ, i64_w, i32_w]
      rfl
     refine one_ (i := 8) (N := some 43) (bA 12 1535) rfl rfl (one_of HT_.out Z90) Z21 (fun K hK => ?_)
     refine Kd.R_append_rows_step Kd.bool (w0 := w) w.heap.size Z62 (.tmp 40) (.tmp 42) 23 4 (.bool false) 1 rfl Try.underlying23 info4 rfl Z21 Z70 v109 y102 l1_2 _ _ _ (fun k_ => (w.heap.size ≤ k_)) (fun _ => False) rfl rfl ?aO ?aR (fun _ _ h => h) (fun _ h => h.elim) ?aF ?aB ?aS ?aL ?_
     (case aR => exact uC HR1_2 HB)
     (case aB => exact Z1)
     (case aF => exact (fun k_ hk => (Nat.le_trans (below_size Z1) hk)))
     (case aO => exact (uR HO110))
     (case aS => exact (below_size Z1))
     (case aL => have := LMc46.out; omega)
     intro v111 w54 ho hb hg hat
     rw [← Ny106.out] at ho
     replace HO_99 := am (Kd.V_afterv (ok := (fun k_ => ((P0_1_ k_ ∨ P1_1_ k_) ∨ w.heap.size ≤ k_) ∧ k_ ≠ gb96 ∧ k_ ≠ gb97 ∧ k_ ≠ gb98 ∧ k_ ≠ gb113)) Z18 hg hat)
     replace HO_100 := am (Kd.V_afterv (ok := (fun k_ => ((P0_1_ k_ ∨ P1_1_ k_) ∨ w.heap.size ≤ k_) ∧ k_ ≠ gb96 ∧ k_ ≠ gb97 ∧ k_ ≠ gb98 ∧ k_ ≠ gb113)) Z17 hg hat)
     replace BK96 := am (blk_grown (g := gb96) (o := .cells #[.int .i64 a0_0, .slice A0_1 l0_1.length c0_1, .slice A0_2 l0_2.length c0_2] 29 (0, 0)) (uK BK96) hg (Kd.R_ne HO110.out BK96.out Z21))
     replace BK97 := am (blk_grown (g := gb97) (o := .cells #[.int .i64 a1_0, .slice A1_1 l1_1.length c1_1, .slice A1_2 l1_2.length c1_2] 29 (0, 0)) (uK BK97) hg (Kd.R_ne HO110.out BK97.out Z21))
     replace BK98 := am (blk_grown (g := gb98) (o := .cells #[.int .i64 0, .slice none 0 0, .slice none 0 0] 29 (0, 0)) (uK BK98) hg (Kd.R_ne HO110.out BK98.out Z21))
     replace BK113 := am (blk_grown (g := gb113) (o := .cells #[.int .i64 0, .slice none 0 0, .slice none 0 0] 29 (0, 0)) (uK BK113) hg (Kd.R_ne HO110.out BK113.out Z21))
     replace HB := am (hb)
     have HO112 := am (ho)
     clear HO110
     clear ho hb hg hat
     obtain ⟨Ao55, co55, eo55⟩ := Kd.R_slice HO112.out
     (first | subst eo55 | (injection eo55 with f1_ f2_ f3_; have f4_ := f1_.symm; have f5_ := f3_.symm; clear f1_ f2_ f3_; subst f4_; subst f5_))
     refine hK.out _ _ ⟨bc BK96 0, bc BK96 1, bc BK96 2, bc BK97 0, bc BK97 1, bc BK97 2⟩ (fun hHeld => ?_)
     clear hK K
     refine norm_ (a' := ?_) ?_ ?_
     rotate_left
     ·
      show Act.put _ (some 43) _ = _
      simp only [Act.put, setIfInBounds_toArray, set_cons_zero, set_cons_succ, i64_w, i32_w]
      rfl
     refine pS 9 44 (bA 12 2047) ?_
     exact norm_ Z92 (hCont (v107, v109, .slice Ao55 y106.length co55, gb113) _ ⟨hHeld, (uR HO112), Z47, Z46, (uK BK96), (uK BK97), (uK BK98), (uK BK113), GW113.out, GE113.out, NB96_113.out, NB113_96.out, NB97_113.out, NB113_97.out, NB98_113.out, NB113_98.out, Z1⟩)
    skip
    refine box_step ?hg (N := 6) ?hd (cs := #[.int .i64 0, .slice none 0 0, .slice none 0 0]) (t := 29) ?hr ?_; (case hd => rfl); (case hg => rfl); (case hr => exact Z88)
    intro gb113 hg w50 hbox hb
    replace HO_99 := am (Kd.V_below (Kd.V_elderB Z18 gb113 (Nat.le_of_eq hg.symm)) hb)
    replace HO_100 := am (Kd.V_below (Kd.V_elderB Z17 gb113 (Nat.le_of_eq hg.symm)) hb)
    have BK113 := am (hbox)
    have GW113 := am ((by rw [hg]; exact (below_size Z2) : w.heap.size ≤ gb113))
    have GE113 := am ((by rw [hg]; exact (below_size Z2) : w.heap.size ≤ gb113))
    replace HB := am (below_step Z2 hb)
    have NB96_113 := nL BK96 hg
    have NB113_96 := nR BK96 hg
    replace BK96 := kB BK96 hb
    have NB97_113 := nL BK97 hg
    have NB113_97 := nR BK97 hg
    replace BK97 := kB BK97 hb
    have NB98_113 := nL BK98 hg
    have NB113_98 := nR BK98 hg
    replace BK98 := kB BK98 hb
    clear hb hbox hg
    refine hK.out _ _ ⟨bc BK96 0, bc BK96 1, bc BK96 2, bc BK97 0, bc BK97 1, bc BK97 2⟩ (fun hHeld => ?_)
    clear hK K
    refine norm_ (a' := ?_) ?_ ?_
    rotate_left
    ·
     show Act.put _ (some 6) _ = _
     simp only [Act.put, setIfInBounds_toArray, set_cons_zero, set_cons_succ, i64_w, i32_w]
     rfl
    refine one_ (i := 2) (N := some 37) (bA 12 1247) rfl rfl (one_of HT_.out Z90) Z21 (fun K hK => ?_)
    refine Kd.R_lit_step Kd.bool _ 4 ?hg (N := 37) ?hd (xs := ([] : List Bool)) (inner := []) (ok := fun _ => True) (okp := fun _ => True) ?hr ?hp (fun _ hk => hk) trivial (Below.refl _ _) (Nat.le_refl _) Z65 ?_; (case hd => rfl); (case hg => rfl); (case hr => exact Z88); (case hp => exact (Reps.none _ _))
    intro v107 w51 ho52 hb hg_ hnew_
    clear hg_ hnew_
    (first | rw [← Ny101.out] at ho52 | (simp only [Int.reduceToNat] at ho52; rw [← Ny101.out] at ho52))
    replace HO_99 := am (Kd.V_elder' Z18 (Kd.R_base ho52) hb)
    replace HO_100 := am (Kd.V_elder' Z17 (Kd.R_base ho52) hb)
    have HO108 := am (Kd.R_lower (Kd.R_newM (M := fun k_ => (w.heap.size ≤ k_)) ho52 (below_size Z1) (fun k_ h_ => h_)) (below_size Z1))
    replace BK96 := kB BK96 hb
    replace BK97 := kB BK97 hb
    replace BK98 := kB BK98 hb
    replace BK113 := kB BK113 hb
    replace HB := am (below_step Z1 hb)
    clear hb ho52
    refine hK.out _ _ ⟨bc BK96 0, bc BK96 1, bc BK96 2, bc BK97 0, bc BK97 1, bc BK97 2⟩ (fun hHeld => ?_)
    clear hK K
    refine norm_ (a' := ?_) ?_ ?_
    rotate_left
    ·
     show Act.put _ (some 37) _ = _
     simp only [Act.put, setIfInBounds_toArray, set_cons_zero, set_cons_succ, i64_w, i32_w]
     rfl
    refine one_ (i := 5) (N := some 40) (bA 12 1279) rfl rfl (one_of HT_.out Z90) Z21 (fun K hK => ?_)
    refine Kd.R_append_rows_step Kd.bool (w0 := w) w.heap.size Z62 (.tmp 37) (.tmp 39) 23 4 (.bool false) 1 rfl Try.underlying23 info4 rfl Z21 Z70 v107 y101 l0_2 _ _ _ (fun k_ => (w.heap.size ≤ k_)) (fun _ => False) rfl rfl ?aO ?aR (fun _ _ h => h) (fun _ h => h.elim) ?aF ?aB ?aS ?aL ?_
    (case aR => exact uC HR0_2 HB)
    (case aB => exact Z1)
    (case aF => exact (fun k_ hk => (Nat.le_trans (below_size Z1) hk)))
    (case aO => exact Z69)
    (case aS => exact (below_size Z1))
    (case aL => have := LMc45.out; omega)
    intro v109 w53 ho hb hg hat
    rw [← Ny102.out] at ho
    replace HO_99 := am (Kd.V_afterv (ok := (fun k_ => ((P0_1_ k_ ∨ P1_1_ k_) ∨ w.heap.size ≤ k_) ∧ k_ ≠ gb96 ∧ k_ ≠ gb97 ∧ k_ ≠ gb98 ∧ k_ ≠ gb113)) (by (with_reducible repeat (first | apply Kd.V_alloc | apply Kd.V_drewN | apply Kd.V_drew)); exact Kd.V_mono HO_99.out (fun _ hk => ⟨⟨hk.1.1.1, ⟨hk.1.1.2.1, ⟨hk.1.1.2.2.1, ⟨hk.1.1.2.2.2, hk.1.2⟩⟩⟩⟩, hk.2⟩)) hg hat)
    replace HO_100 := am (Kd.V_afterv (ok := (fun k_ => ((P0_1_ k_ ∨ P1_1_ k_) ∨ w.heap.size ≤ k_) ∧ k_ ≠ gb96 ∧ k_ ≠ gb97 ∧ k_ ≠ gb98 ∧ k_ ≠ gb113)) (by (with_reducible repeat (first | apply Kd.V_alloc | apply Kd.V_drewN | apply Kd.V_drew)); exact Kd.V_mono HO_100.out (fun _ hk => ⟨⟨hk.1.1.1, ⟨hk.1.1.2.1, ⟨hk.1.1.2.2.1, ⟨hk.1.1.2.2.2, hk.1.2⟩⟩⟩⟩, hk.2⟩)) hg hat)
    replace BK96 := am (blk_grown (g := gb96) (o := .cells #[.int .i64 a0_0, .slice A0_1 l0_1.length c0_1, .slice A0_2 l0_2.length c0_2] 29 (0, 0)) (uK BK96) hg (Kd.R_ne HO108.out BK96.out Z21))
    replace BK97 := am (blk_grown (g := gb97) (o := .cells #[.int .i64 a1_0, .slice A1_1 l1_1.length c1_1, .slice A1_2 l1_2.length c1_2] 29 (0, 0)) (uK BK97) hg (Kd.R_ne HO108.out BK97.out Z21))
    replace BK98 := am (blk_grown (g := gb98) (o := .cells #[.int .i64 0, .slice none 0 0, .slice none 0 0] 29 (0, 0)) (uK BK98) hg (Kd.R_ne HO108.out BK98.out Z21))
    replace BK113 := am (blk_grown (g := gb113) (o := .cells #[.int .i64 0, .slice none 0 0, .slice none 0 0] 29 (0, 0)) (uK BK113) hg (Kd.R_ne HO108.out BK113.out Z21))
    replace HB := am (hb)
    have HO110 := am (ho)
    clear HO108
    clear ho hb hg hat
    refine hK.out _ _ ⟨bc BK96 0, bc BK96 1, bc BK96 2, bc BK97 0, bc BK97 1, bc BK97 2⟩ (fun hHeld => ?_)
    clear hK K
    refine norm_ (a' := ?_) ?_ ?_
    rotate_left
    ·
     show Act.put _ (some 40) _ = _
     simp only [Act.put, setIfInBounds_toArray, set_cons_zero, set_cons_succ, i64_w, i32_w]
     rfl
    refine one_ (i := 8) (N := some 43) (bA 12 1535) rfl rfl (one_of HT_.out Z90) Z21 (fun K hK => ?_)
    refine Kd.R_append_rows_step Kd.bool (w0 := w) w.heap.size Z62 (.tmp 40) (.tmp 42) 23 4 (.bool false) 1 rfl Try.underlying23 info4 rfl Z21 Z70 v109 y102 l1_2 _ _ _ (fun k_ => (w.heap.size ≤ k_)) (fun _ => False) rfl rfl ?aO ?aR (fun _ _ h => h) (fun _ h => h.elim) ?aF ?aB ?aS ?aL ?_
    (case aR => exact uC HR1_2 HB)
    (case aB => exact Z1)
    (case aF => exact (fun k_ hk => (Nat.le_trans (below_size Z1) hk)))
    (case aO => exact (uR HO110))
    (case aS => exact (below_size Z1))
    (case aL => have := LMc46.out; omega)
    intro v111 w54 ho hb hg hat
    rw [← Ny106.out] at ho
    replace HO_99 := am (Kd.V_afterv (ok := (fun k_ => ((P0_1_ k_ ∨ P1_1_ k_) ∨ w.heap.size ≤ k_) ∧ k_ ≠ gb96 ∧ k_ ≠ gb97 ∧ k_ ≠ gb98 ∧ k_ ≠ gb113)) Z18 hg hat)
    replace HO_100 := am (Kd.V_afterv (ok := (fun k_ => ((P0_1_ k_ ∨ P1_1_ k_) ∨ w.heap.size ≤ k_) ∧ k_ ≠ gb96 ∧ k_ ≠ gb97 ∧ k_ ≠ gb98 ∧ k_ ≠ gb113)) Z17 hg hat)
    replace BK96 := am (blk_grown (g := gb96) (o := .cells #[.int .i64 a0_0, .slice A0_1 l0_1.length c0_1, .slice A0_2 l0_2.length c0_2] 29 (0, 0)) (uK BK96) hg (Kd.R_ne HO110.out BK96.out Z21))
    replace BK97 := am (blk_grown (g := gb97) (o := .cells #[.int .i64 a1_0, .slice A1_1 l1_1.length c1_1, .slice A1_2 l1_2.length c1_2] 29 (0, 0)) (uK BK97) hg (Kd.R_ne HO110.out BK97.out Z21))
    replace BK98 := am (blk_grown (g := gb98) (o := .cells #[.int .i64 0, .slice none 0 0, .slice none 0 0] 29 (0, 0)) (uK BK98) hg (Kd.R_ne HO110.out BK98.out Z21))
    replace BK113 := am (blk_grown (g := gb113) (o := .cells #[.int .i64 0, .slice none 0 0, .slice none 0 0] 29 (0, 0)) (uK BK113) hg (Kd.R_ne HO110.out BK113.out Z21))
    replace HB := am (hb)
    have HO112 := am (ho)
    clear HO110
    clear ho hb hg hat
    obtain ⟨Ao55, co55, eo55⟩ := Kd.R_slice HO112.out
    (first | subst eo55 | (injection eo55 with f1_ f2_ f3_; have f4_ := f1_.symm; have f5_ := f3_.symm; clear f1_ f2_ f3_; subst f4_; subst f5_))
    refine hK.out _ _ ⟨bc BK96 0, bc BK96 1, bc BK96 2, bc BK97 0, bc BK97 1, bc BK97 2⟩ (fun hHeld => ?_)
    clear hK K
    refine norm_ (a' := ?_) ?_ ?_
    rotate_left
    ·
     show Act.put _ (some 43) _ = _
     simp only [Act.put, setIfInBounds_toArray, set_cons_zero, set_cons_succ, i64_w, i32_w]
     rfl
    refine pS 9 44 (bA 12 2047) ?_
    exact norm_ Z92 (hCont (v107, v109, .slice Ao55 y106.length co55, gb113) _ ⟨hHeld, (uR HO112), Z47, Z46, (uK BK96), (uK BK97), (uK BK98), (uK BK113), GW113.out, GE113.out, NB96_113.out, NB113_96.out, NB97_113.out, NB113_97.out, NB98_113.out, NB113_98.out, Z1⟩)
   rintro ⟨v107, v109, v111, gb113⟩ w56 ⟨hS_, h0_, h1_, h2_, h3_, h4_, h5_, h6_, h7_, h8_, h9_, h10_, h11_, h12_, h13_, h14_, h15_⟩
   have n0_ : Aside0 (Kd.R Kd.bool 4 w56 w.heap.size (fun k_ => (w.heap.size ≤ k_)) v111 y106) := ⟨h0_⟩
   have n1_ : Aside0 (Kd.V k53 53 w56 w.heap.size (fun k_ => ((P0_1_ k_ ∨ P1_1_ k_) ∨ w.heap.size ≤ k_) ∧ some k_ ≠ (v111 : Value).ownBlock ∧ k_ ≠ gb96 ∧ k_ ≠ gb97 ∧ k_ ≠ gb98 ∧ k_ ≠ gb113) (.slice A0_1 l0_1.length c0_1) l0_1) := ⟨h1_⟩
   have n2_ : Aside0 (Kd.V k53 53 w56 w.heap.size (fun k_ => ((P0_1_ k_ ∨ P1_1_ k_) ∨ w.heap.size ≤ k_) ∧ some k_ ≠ (v111 : Value).ownBlock ∧ k_ ≠ gb96 ∧ k_ ≠ gb97 ∧ k_ ≠ gb98 ∧ k_ ≠ gb113) (.slice A1_1 l1_1.length c1_1) l1_1) := ⟨h2_⟩
   have n3_ : Aside0 (w56.heap[gb96]? = some (.cells #[.int .i64 a0_0, .slice A0_1 l0_1.length c0_1, .slice A0_2 l0_2.length c0_2] 29 (0, 0))) := ⟨h3_⟩
   have n4_ : Aside0 (w56.heap[gb97]? = some (.cells #[.int .i64 a1_0, .slice A1_1 l1_1.length c1_1, .slice A1_2 l1_2.length c1_2] 29 (0, 0))) := ⟨h4_⟩
   have n5_ : Aside0 (w56.heap[gb98]? = some (.cells #[.int .i64 0, .slice none 0 0, .slice none 0 0] 29 (0, 0))) := ⟨h5_⟩
   have n6_ : Aside0 (w56.heap[gb113]? = some (.cells #[.int .i64 0, .slice none 0 0, .slice none 0 0] 29 (0, 0))) := ⟨h6_⟩
   have n7_ : Aside0 (w.heap.size ≤ gb113) := ⟨h7_⟩
   have n8_ : Aside0 (w.heap.size ≤ gb113) := ⟨h8_⟩
   have n9_ : Aside0 (gb96 ≠ gb113) := ⟨h9_⟩
   have n10_ : Aside0 (gb113 ≠ gb96) := ⟨h10_⟩
   have n11_ : Aside0 (gb97 ≠ gb113) := ⟨h11_⟩
   have n12_ : Aside0 (gb113 ≠ gb97) := ⟨h12_⟩
   have n13_ : Aside0 (gb98 ≠ gb113) := ⟨h13_⟩
   have n14_ : Aside0 (gb113 ≠ gb98) := ⟨h14_⟩
   have n15_ : Aside0 (Below w.heap.size w w56) := ⟨h15_⟩
   clear HO_99
   clear HO_100
   clear BK96
   clear BK97
   clear BK98
   clear HB
   clear h0_ h1_ h2_ h3_ h4_ h5_ h6_ h7_ h8_ h9_ h10_ h11_ h12_ h13_ h14_ h15_
   have HO112 := n0_
   have HO_99 := n1_
   have HO_100 := n2_
   have BK96 := n3_
   have BK97 := n4_
   have BK98 := n5_
   have BK113 := n6_
   have GW113 := n7_
   have GE113 := n8_
   have GI113 := gI GE113
   have NB96_113 := n9_
   have NB113_96 := n10_
   have NB97_113 := n11_
   have NB113_97 := n12_
   have NB98_113 := n13_
   have NB113_98 := n14_
   have HB := n15_
   clear n0_ n1_ n2_ n3_ n4_ n5_ n6_ n7_ n8_ n9_ n10_ n11_ n12_ n13_ n14_ n15_
   have hHeld : w56.cell? ⟨gb96, 0, none⟩ = some (.int .i64 a0_0) ∧ w56.cell? ⟨gb96, 1, none⟩ = some (.slice A0_1 l0_1.length c0_1) ∧ w56.cell? ⟨gb96, 2, none⟩ = some (.slice A0_2 l0_2.length c0_2) ∧ w56.cell? ⟨gb97, 0, none⟩ = some (.int .i64 a1_0) ∧ w56.cell? ⟨gb97, 1, none⟩ = some (.slice A1_1 l1_1.length c1_1) ∧ w56.cell? ⟨gb97, 2, none⟩ = some (.slice A1_2 l1_2.length c1_2) := hS_
   obtain ⟨Ao57, co57, eo57⟩ := Kd.R_slice HO112.out
   (first | subst eo57 | (injection eo57 with f1_ f2_ f3_; have f4_ := f1_.symm; have f5_ := f3_.symm; clear f1_ f2_ f3_; subst f4_; subst f5_))
   refine norm_ (a' := ?_) ?_ ?_
   rotate_left
   ·
    simp only [putAll, Act.put, setIfInBounds_toArray, set_cons_zero, set_cons_succ]
    rfl
   refine one_ (i := 11) (N := none) (bA 12 4095) rfl rfl (one_of HT_.out Z90) Z21 (fun K hK => ?_)
   have hs58 : w56.cell? ⟨gb113, 0, none⟩ = some (.int .i64 0) := bc BK113 0
   have hfs58 := blk_frozen BK113.out 0
   have hns58_0 := NB96_113.out
   have hns58_1 := NB97_113.out
   have hns58_2 := NB98_113.out
   have hms58_0 := NB113_96.out
   have hms58_1 := NB113_97.out
   have hms58_2 := NB113_98.out
   have hs59 : w56.cell? ⟨gb113, 1, none⟩ = some (.slice none 0 0) := bc BK113 1
   have hfs59 := blk_frozen BK113.out 1
   have hns59_0 := NB96_113.out
   have hns59_1 := NB97_113.out
   have hns59_2 := NB98_113.out
   have hms59_0 := NB113_96.out
   have hms59_1 := NB113_97.out
   have hms59_2 := NB113_98.out
   have hs60 : w56.cell? ⟨gb113, 2, none⟩ = some (.slice none 0 0) := bc BK113 2
   have hfs60 := blk_frozen BK113.out 2
   have hns60_0 := NB96_113.out
   have hns60_1 := NB97_113.out
   have hns60_2 := NB98_113.out
   have hms60_0 := NB113_96.out
   have hms60_1 := NB113_97.out
   have hms60_2 := NB113_98.out
   refine skip_ (w1 := ?_) Z62 rfl ?_ ?_
   rotate_left
   ·
    go_simp
    rfl
   refine hK.out _ _ ⟨((cell_far (p := ⟨gb113, _, none⟩) NB96_113.out _).trans (((cell_far (p := ⟨gb113, _, none⟩) NB96_113.out _).trans (((cell_far (p := ⟨gb113, _, none⟩) NB96_113.out _).trans (hHeld.1)))))), ((cell_far (p := ⟨gb113, _, none⟩) NB96_113.out _).trans (((cell_far (p := ⟨gb113, _, none⟩) NB96_113.out _).trans (((cell_far (p := ⟨gb113, _, none⟩) NB96_113.out _).trans (hHeld.2.1)))))), ((cell_far (p := ⟨gb113, _, none⟩) NB96_113.out _).trans (((cell_far (p := ⟨gb113, _, none⟩) NB96_113.out _).trans (((cell_far (p := ⟨gb113, _, none⟩) NB96_113.out _).trans (hHeld.2.2.1)))))), ((cell_far (p := ⟨gb113, _, none⟩) NB97_113.out _).trans (((cell_far (p := ⟨gb113, _, none⟩) NB97_113.out _).trans (((cell_far (p := ⟨gb113, _, none⟩) NB97_113.out _).trans (hHeld.2.2.2.1)))))), ((cell_far (p := ⟨gb113, _, none⟩) NB97_113.out _).trans (((cell_far (p := ⟨gb113, _, none⟩) NB97_113.out _).trans (((cell_far (p := ⟨gb113, _, none⟩) NB97_113.out _).trans (hHeld.2.2.2.2.1)))))), ((cell_far (p := ⟨gb113, _, none⟩) NB97_113.out _).trans (((cell_far (p := ⟨gb113, _, none⟩) NB97_113.out _).trans (((cell_far (p := ⟨gb113, _, none⟩) NB97_113.out _).trans (hHeld.2.2.2.2.2))))))⟩ (fun hHeld => ?_)
   clear hK K
   refine done_ (done_of HT_.out Z90) ?_
   try go_wp2
   have n0_ : Aside0 (Kd.V k53 53 (((w56.setCell ⟨gb113, 0, none⟩ (.int .i64 a0_0)).setCell ⟨gb113, 1, none⟩ (.slice none 0 0)).setCell ⟨gb113, 2, none⟩ (.slice Ao57 y106.length co57)) w.heap.size (fun k_ => ((P0_1_ k_ ∨ P1_1_ k_) ∨ w.heap.size ≤ k_) ∧ some k_ ≠ (.slice Ao57 y106.length co57 : Value).ownBlock ∧ k_ ≠ gb96 ∧ k_ ≠ gb97 ∧ k_ ≠ gb98 ∧ k_ ≠ gb113) (.slice A0_1 l0_1.length c0_1) l0_1) := ⟨by (with_reducible repeat (first | apply Kd.V_alloc | apply Kd.V_drewN | apply Kd.V_drew)); exact Kd.V_mono (Kd.V_far (p := ⟨gb113, 2, none⟩) (Kd.V_far (p := ⟨gb113, 1, none⟩) (Kd.V_far (p := ⟨gb113, 0, none⟩) (Kd.V_mono HO_99.out (fun k_ hk => (⟨hk, hk.2.2.2.2.2⟩ : _ ∧ k_ ≠ gb113))) (fun _ hk => hk.2) (.int .i64 a0_0)) (fun _ hk => hk.2) (.slice none 0 0)) (fun _ hk => hk.2) (.slice Ao57 y106.length co57)) (fun _ hk => ⟨hk.1.1, ⟨hk.1.2.1, ⟨hk.1.2.2.1, ⟨hk.1.2.2.2.1, ⟨hk.1.2.2.2.2.1, hk.1.2.2.2.2.2⟩⟩⟩⟩⟩)⟩
   have n1_ : Aside0 (Kd.V k53 53 (((w56.setCell ⟨gb113, 0, none⟩ (.int .i64 a0_0)).setCell ⟨gb113, 1, none⟩ (.slice none 0 0)).setCell ⟨gb113, 2, none⟩ (.slice Ao57 y106.length co57)) w.heap.size (fun k_ => ((P0_1_ k_ ∨ P1_1_ k_) ∨ w.heap.size ≤ k_) ∧ some k_ ≠ (.slice Ao57 y106.length co57 : Value).ownBlock ∧ k_ ≠ gb96 ∧ k_ ≠ gb97 ∧ k_ ≠ gb98 ∧ k_ ≠ gb113) (.slice A1_1 l1_1.length c1_1) l1_1) := ⟨by (with_reducible repeat (first | apply Kd.V_alloc | apply Kd.V_drewN | apply Kd.V_drew)); exact Kd.V_mono (Kd.V_far (p := ⟨gb113, 2, none⟩) (Kd.V_far (p := ⟨gb113, 1, none⟩) (Kd.V_far (p := ⟨gb113, 0, none⟩) (Kd.V_mono HO_100.out (fun k_ hk => (⟨hk, hk.2.2.2.2.2⟩ : _ ∧ k_ ≠ gb113))) (fun _ hk => hk.2) (.int .i64 a0_0)) (fun _ hk => hk.2) (.slice none 0 0)) (fun _ hk => hk.2) (.slice Ao57 y106.length co57)) (fun _ hk => ⟨hk.1.1, ⟨hk.1.2.1, ⟨hk.1.2.2.1, ⟨hk.1.2.2.2.1, ⟨hk.1.2.2.2.2.1, hk.1.2.2.2.2.2⟩⟩⟩⟩⟩)⟩
   have n2_ : Aside0 (Kd.R Kd.bool 4 (((w56.setCell ⟨gb113, 0, none⟩ (.int .i64 a0_0)).setCell ⟨gb113, 1, none⟩ (.slice none 0 0)).setCell ⟨gb113, 2, none⟩ (.slice Ao57 y106.length co57)) w.heap.size (fun k_ => (w.heap.size ≤ k_)) (.slice Ao57 y106.length co57) y106) := ⟨by (with_reducible repeat (first | apply Kd.R_alloc | apply Kd.R_drewN | apply Kd.R_drew)); exact Kd.R_mono (fT HO112 BK113 Z21) (fun _ hk => hk.1)⟩
   have n3_ : Aside0 ((((w56.setCell ⟨gb113, 0, none⟩ (.int .i64 a0_0)).setCell ⟨gb113, 1, none⟩ (.slice none 0 0)).setCell ⟨gb113, 2, none⟩ (.slice Ao57 y106.length co57)).heap[gb96]? = some (.cells #[.int .i64 a0_0, .slice A0_1 l0_1.length c0_1, .slice A0_2 l0_2.length c0_2] 29 (0, 0))) := ⟨pf NB96_113 (pf NB96_113 (pf NB96_113 (pb BK96)))⟩
   have n4_ : Aside0 ((((w56.setCell ⟨gb113, 0, none⟩ (.int .i64 a0_0)).setCell ⟨gb113, 1, none⟩ (.slice none 0 0)).setCell ⟨gb113, 2, none⟩ (.slice Ao57 y106.length co57)).heap[gb97]? = some (.cells #[.int .i64 a1_0, .slice A1_1 l1_1.length c1_1, .slice A1_2 l1_2.length c1_2] 29 (0, 0))) := ⟨pf NB97_113 (pf NB97_113 (pf NB97_113 (pb BK97)))⟩
   have n5_ : Aside0 ((((w56.setCell ⟨gb113, 0, none⟩ (.int .i64 a0_0)).setCell ⟨gb113, 1, none⟩ (.slice none 0 0)).setCell ⟨gb113, 2, none⟩ (.slice Ao57 y106.length co57)).heap[gb98]? = some (.cells #[.int .i64 0, .slice none 0 0, .slice none 0 0] 29 (0, 0))) := ⟨pf NB98_113 (pf NB98_113 (pf NB98_113 (pb BK98)))⟩
   have n6_ : Aside0 ((((w56.setCell ⟨gb113, 0, none⟩ (.int .i64 a0_0)).setCell ⟨gb113, 1, none⟩ (.slice none 0 0)).setCell ⟨gb113, 2, none⟩ (.slice Ao57 y106.length co57)).heap[gb113]? = some (.cells #[.int .i64 a0_0, .slice none 0 0, .slice Ao57 y106.length co57] 29 (0, 0))) := ⟨pT (pp 2 (pp 1 (pp 0 (pb BK113))))⟩
   have n7_ : Aside0 (Below w.heap.size w (((w56.setCell ⟨gb113, 0, none⟩ (.int .i64 a0_0)).setCell ⟨gb113, 1, none⟩ (.slice none 0 0)).setCell ⟨gb113, 2, none⟩ (.slice Ao57 y106.length co57))) := ⟨Z1⟩
   (try clear HO_99)
   (try clear HO_100)
   (try clear HO112)
   (try clear BK96)
   (try clear BK97)
   (try clear BK98)
   (try clear BK113)
   (try clear HB)
   generalize (((w56.setCell ⟨gb113, 0, none⟩ (.int .i64 a0_0)).setCell ⟨gb113, 1, none⟩ (.slice none 0 0)).setCell ⟨gb113, 2, none⟩ (.slice Ao57 y106.length co57)) = w61 at n0_ n1_ n2_ n3_ n4_ n5_ n6_ n7_ ⊢
   have HO_99 := n0_
   have HO_100 := n1_
   have HO112 := n2_
   have BK96 := n3_
   have BK97 := n4_
   have BK98 := n5_
   have BK113 := n6_
   have HB := n7_
   clear n0_ n1_ n2_ n3_ n4_ n5_ n6_ n7_
   replace HO_99 := am (Kd.V_drew HO_99.out)
   replace HO_100 := am (Kd.V_drew HO_100.out)
   replace HO112 := am (Kd.R_drew HO112.out)
   replace BK96 := am (blk_drew BK96.out)
   replace BK97 := am (blk_drew BK97.out)
   replace BK98 := am (blk_drew BK98.out)
   replace BK113 := am (blk_drew BK113.out)
   replace HB := am (below_drew1 HB.out)
   refine start_ (n := 9) (S := fun w' => w'.cell? ⟨gb96, 0, none⟩ = some (.int .i64 a0_0) ∧ w'.cell? ⟨gb96, 1, none⟩ = some (.slice A0_1 l0_1.length c0_1) ∧ w'.cell? ⟨gb96, 2, none⟩ = some (.slice A0_2 l0_2.length c0_2) ∧ w'.cell? ⟨gb97, 0, none⟩ = some (.int .i64 a1_0) ∧ w'.cell? ⟨gb97, 1, none⟩ = some (.slice A1_1 l1_1.length c1_1) ∧ w'.cell? ⟨gb97, 2, none⟩ = some (.slice A1_2 l1_2.length c1_2)) (ds := []) (bA 9 0) Z90 rfl rfl ⟨bc BK96 0, bc BK96 1, bc BK96 2, bc BK97 0, bc BK97 1, bc BK97 2⟩ (fun hHeld => ?_); refine with_tabW Fa.tab4 Fa.bits4 (fun HT_ HW_ => ?_)
   generalize w61.drew = w62 at HO_99 HO_100 HO112 BK96 BK97 BK98 BK113 HB hHeld ⊢
   refine pS 1 46 (bA 9 2) ?_
   refine pS 4 49 (bA 9 18) ?_
   refine pS 8 53 (bA 9 274) ?_
   refine tS6 2 47 (bA 9 278) hHeld ?_
   refine tS6 5 50 (bA 9 310) hHeld ?_
   refine one_ (i := 0) (N := some 45) (bA 9 311) rfl rfl (one_of HT_.out Z90) Z21 (fun K hK => ?_)
   refine Kd.N_lit_step k53 _ 53 ?hg (N' := 45) ?hd (xs := ([] : List (S53))) (inner := []) (ok := (fun k_ => ((P0_1_ k_ ∨ P1_1_ k_) ∨ w.heap.size ≤ k_) ∧ some k_ ≠ (.slice Ao57 y106.length co57 : Value).ownBlock ∧ k_ ≠ gb96 ∧ k_ ≠ gb97 ∧ k_ ≠ gb98 ∧ k_ ≠ gb113)) (okp := (fun k_ => ((P0_1_ k_ ∨ P1_1_ k_) ∨ w.heap.size ≤ k_) ∧ some k_ ≠ (.slice Ao57 y106.length co57 : Value).ownBlock ∧ k_ ≠ gb96 ∧ k_ ≠ gb97 ∧ k_ ≠ gb98 ∧ k_ ≠ gb113)) ?hr ?hp (fun _ hk => hk) ((show ∀ k_, w62.heap.size ≤ k_ → (fun k_ => ((P0_1_ k_ ∨ P1_1_ k_) ∨ w.heap.size ≤ k_) ∧ some k_ ≠ (.slice Ao57 y106.length co57 : Value).ownBlock ∧ k_ ≠ gb96 ∧ k_ ≠ gb97 ∧ k_ ≠ gb98 ∧ k_ ≠ gb113) k_ from fun k_ hk => ⟨(.inr (Nat.le_trans (below_size Z1) hk)), Kd.fresh' (Kd.R_lt (uR HO112)) k_ hk, Kd.freshB (g := gb96) (o := .cells #[.int .i64 a0_0, .slice A0_1 l0_1.length c0_1, .slice A0_2 l0_2.length c0_2] 29 (0, 0)) (uK BK96) k_ hk, Kd.freshB (g := gb97) (o := .cells #[.int .i64 a1_0, .slice A1_1 l1_1.length c1_1, .slice A1_2 l1_2.length c1_2] 29 (0, 0)) (uK BK97) k_ hk, Kd.freshB (g := gb98) (o := .cells #[.int .i64 0, .slice none 0 0, .slice none 0 0] 29 (0, 0)) (uK BK98) k_ hk, Kd.freshB (g := gb113) (o := .cells #[.int .i64 a0_0, .slice none 0 0, .slice Ao57 y106.length co57] 29 (0, 0)) (uK BK113) k_ hk⟩) _ (Nat.le_refl _)) (Below.refl _ _) (Nat.le_refl _) Z65 ?_; (case hd => rfl); (case hg => rfl); (case hr => exact Z88); (case hp => exact (Reps.none _ _))
   intro v114 w63 ho64 hb hg_ hnew_
   clear hg_ hnew_
   (first | rw [← Ny103.out] at ho64 | (simp only [Int.reduceToNat] at ho64; rw [← Ny103.out] at ho64))
   replace HO_99 := am (Kd.V_elder' Z18 (Kd.N_base ho64) hb)
   replace HO_100 := am (Kd.V_elder' Z17 (Kd.N_base ho64) hb)
   replace HO112 := rB HO112 hb
   have HO115 := am (Kd.N_lower ho64 (below_size Z1))
   replace BK96 := kB BK96 hb
   replace BK97 := kB BK97 hb
   replace BK98 := kB BK98 hb
   replace BK113 := kB BK113 hb
   replace HB := am (below_step Z1 hb)
   clear hb ho64
   refine hK.out _ _ ⟨bc BK96 0, bc BK96 1, bc BK96 2, bc BK97 0, bc BK97 1, bc BK97 2⟩ (fun hHeld => ?_)
   clear hK K
   refine norm_ (a' := ?_) ?_ ?_
   rotate_left
   ·
    show Act.put _ (some 45) _ = _
    simp only [Act.put, setIfInBounds_toArray, set_cons_zero, set_cons_succ, i64_w, i32_w]
    rfl
   refine one_ (i := 3) (N := some 48) (bA 9 319) rfl rfl (one_of HT_.out Z90) Z21 (fun K hK => ?_)
   refine Kd.N_append_rows_step k53 (w0 := w) w.heap.size Z62 (.tmp 45) (.tmp 47) 27 53 (.agg #[(.int .i64 0), (.slice none 0 0)]) 32 rfl Try.underlying27 info53 rfl Z21 Z70 v114 y103 l0_1 _ _ _ (fun k_ => ((P0_1_ k_ ∨ P1_1_ k_) ∨ w.heap.size ≤ k_) ∧ some k_ ≠ (.slice Ao57 y106.length co57 : Value).ownBlock ∧ k_ ≠ gb96 ∧ k_ ≠ gb97 ∧ k_ ≠ gb98 ∧ k_ ≠ gb113) (fun k_ => ((fun k_ => ((P0_1_ k_ ∨ P1_1_ k_) ∨ w.heap.size ≤ k_) ∧ some k_ ≠ (.slice Ao57 y106.length co57 : Value).ownBlock ∧ k_ ≠ gb96 ∧ k_ ≠ gb97 ∧ k_ ≠ gb98 ∧ k_ ≠ gb113)) k_ ∧ some k_ ≠ (v114 : Value).ownBlock) rfl rfl ?aO ?aR (fun _ hk => hk) ?aF ?aB ?aS ?aL ?_
   (case aR => exact (by skip; exact Kd.V_F (Kd.V_mono (ok' := (fun k_ => ((fun k_ => ((P0_1_ k_ ∨ P1_1_ k_) ∨ w.heap.size ≤ k_) ∧ some k_ ≠ (.slice Ao57 y106.length co57 : Value).ownBlock ∧ k_ ≠ gb96 ∧ k_ ≠ gb97 ∧ k_ ≠ gb98 ∧ k_ ≠ gb113)) k_ ∧ some k_ ≠ (v114 : Value).ownBlock)) (HO_99.out) (fun k_ hk => ⟨⟨hk.1.1, ⟨hk.1.2.1, ⟨hk.1.2.2.1, ⟨hk.1.2.2.2.1, ⟨hk.1.2.2.2.2.1, hk.1.2.2.2.2.2⟩⟩⟩⟩⟩, hk.2⟩))))
   (case aB => exact Z1)
   (case aF => exact (fun k_ hk => ⟨(.inr (Nat.le_trans (below_size Z1) hk)), Kd.fresh' (Kd.R_lt (uR HO112)) k_ hk, Kd.freshB (g := gb96) (o := .cells #[.int .i64 a0_0, .slice A0_1 l0_1.length c0_1, .slice A0_2 l0_2.length c0_2] 29 (0, 0)) (uK BK96) k_ hk, Kd.freshB (g := gb97) (o := .cells #[.int .i64 a1_0, .slice A1_1 l1_1.length c1_1, .slice A1_2 l1_2.length c1_2] 29 (0, 0)) (uK BK97) k_ hk, Kd.freshB (g := gb98) (o := .cells #[.int .i64 0, .slice none 0 0, .slice none 0 0] 29 (0, 0)) (uK BK98) k_ hk, Kd.freshB (g := gb113) (o := .cells #[.int .i64 a0_0, .slice none 0 0, .slice Ao57 y106.length co57] 29 (0, 0)) (uK BK113) k_ hk⟩))
   (case aO => exact Z83)
   (case aS => exact (below_size Z1))
   (case aL => have := LMc47.out; omega)
   intro v116 w65 ho hb hg hat
   rw [← Ny104.out] at ho
   replace HO_99 := am (Kd.V_afterv (ok := (fun k_ => ((P0_1_ k_ ∨ P1_1_ k_) ∨ w.heap.size ≤ k_) ∧ some k_ ≠ (.slice Ao57 y106.length co57 : Value).ownBlock ∧ k_ ≠ gb96 ∧ k_ ≠ gb97 ∧ k_ ≠ gb98 ∧ k_ ≠ gb113)) Z18 hg hat)
   replace HO_100 := am (Kd.V_afterv (ok := (fun k_ => ((P0_1_ k_ ∨ P1_1_ k_) ∨ w.heap.size ≤ k_) ∧ some k_ ≠ (.slice Ao57 y106.length co57 : Value).ownBlock ∧ k_ ≠ gb96 ∧ k_ ≠ gb97 ∧ k_ ≠ gb98 ∧ k_ ≠ gb113)) Z17 hg hat)
   replace BK96 := am (blk_grown (g := gb96) (o := .cells #[.int .i64 a0_0, .slice A0_1 l0_1.length c0_1, .slice A0_2 l0_2.length c0_2] 29 (0, 0)) (uK BK96) hg (Kd.N_ne HO115.out BK96.out Z21))
   replace BK97 := am (blk_grown (g := gb97) (o := .cells #[.int .i64 a1_0, .slice A1_1 l1_1.length c1_1, .slice A1_2 l1_2.length c1_2] 29 (0, 0)) (uK BK97) hg (Kd.N_ne HO115.out BK97.out Z21))
   replace BK98 := am (blk_grown (g := gb98) (o := .cells #[.int .i64 0, .slice none 0 0, .slice none 0 0] 29 (0, 0)) (uK BK98) hg (Kd.N_ne HO115.out BK98.out Z21))
   replace HO112 := am (Kd.R_over' (uR HO112) (Kd.N_typed Z83) Z21 hg)
   replace BK113 := am (blk_grown (g := gb113) (o := .cells #[.int .i64 a0_0, .slice none 0 0, .slice Ao57 y106.length co57] 29 (0, 0)) (uK BK113) hg (Kd.N_ne HO115.out BK113.out Z21))
   replace HB := am (hb)
   have HO117 := am (ho)
   clear HO115
   clear ho hb hg hat
   refine hK.out _ _ ⟨bc BK96 0, bc BK96 1, bc BK96 2, bc BK97 0, bc BK97 1, bc BK97 2⟩ (fun hHeld => ?_)
   clear hK K
   refine norm_ (a' := ?_) ?_ ?_
   rotate_left
   ·
    show Act.put _ (some 48) _ = _
    simp only [Act.put, setIfInBounds_toArray, set_cons_zero, set_cons_succ, i64_w, i32_w]
    rfl
   refine one_ (i := 6) (N := some 51) (bA 9 383) rfl rfl (one_of HT_.out Z90) Z21 (fun K hK => ?_)
   refine Kd.N_append_rows_step k53 (w0 := w) w.heap.size Z62 (.tmp 48) (.tmp 50) 27 53 (.agg #[(.int .i64 0), (.slice none 0 0)]) 32 rfl Try.underlying27 info53 rfl Z21 Z70 v116 y104 l1_1 _ _ _ (fun k_ => ((P0_1_ k_ ∨ P1_1_ k_) ∨ w.heap.size ≤ k_) ∧ some k_ ≠ (.slice Ao57 y106.length co57 : Value).ownBlock ∧ k_ ≠ gb96 ∧ k_ ≠ gb97 ∧ k_ ≠ gb98 ∧ k_ ≠ gb113) (fun k_ => ((fun k_ => ((P0_1_ k_ ∨ P1_1_ k_) ∨ w.heap.size ≤ k_) ∧ some k_ ≠ (.slice Ao57 y106.length co57 : Value).ownBlock ∧ k_ ≠ gb96 ∧ k_ ≠ gb97 ∧ k_ ≠ gb98 ∧ k_ ≠ gb113)) k_ ∧ some k_ ≠ (v116 : Value).ownBlock) rfl rfl ?aO ?aR (fun _ hk => hk) ?aF ?aB ?aS ?aL ?_
   (case aR => exact (by skip; exact Kd.V_F (Kd.V_mono (ok' := (fun k_ => ((fun k_ => ((P0_1_ k_ ∨ P1_1_ k_) ∨ w.heap.size ≤ k_) ∧ some k_ ≠ (.slice Ao57 y106.length co57 : Value).ownBlock ∧ k_ ≠ gb96 ∧ k_ ≠ gb97 ∧ k_ ≠ gb98 ∧ k_ ≠ gb113)) k_ ∧ some k_ ≠ (v116 : Value).ownBlock)) (HO_100.out) (fun k_ hk => ⟨⟨hk.1.1, ⟨hk.1.2.1, ⟨hk.1.2.2.1, ⟨hk.1.2.2.2.1, ⟨hk.1.2.2.2.2.1, hk.1.2.2.2.2.2⟩⟩⟩⟩⟩, hk.2⟩))))
   (case aB => exact Z1)
   (case aF => exact (fun k_ hk => ⟨(.inr (Nat.le_trans (below_size Z1) hk)), Kd.fresh' (Kd.R_lt (uR HO112)) k_ hk, Kd.freshB (g := gb96) (o := .cells #[.int .i64 a0_0, .slice A0_1 l0_1.length c0_1, .slice A0_2 l0_2.length c0_2] 29 (0, 0)) (uK BK96) k_ hk, Kd.freshB (g := gb97) (o := .cells #[.int .i64 a1_0, .slice A1_1 l1_1.length c1_1, .slice A1_2 l1_2.length c1_2] 29 (0, 0)) (uK BK97) k_ hk, Kd.freshB (g := gb98) (o := .cells #[.int .i64 0, .slice none 0 0, .slice none 0 0] 29 (0, 0)) (uK BK98) k_ hk, Kd.freshB (g := gb113) (o := .cells #[.int .i64 a0_0, .slice none 0 0, .slice Ao57 y106.length co57] 29 (0, 0)) (uK BK113) k_ hk⟩))
   (case aO => exact Z82)
   (case aS => exact (below_size Z1))
   (case aL => have := LMc48.out; omega)
   intro v118 w66 ho hb hg hat
   rw [← Ny105.out] at ho
   replace HO_99 := am (Kd.V_afterv (ok := (fun k_ => ((P0_1_ k_ ∨ P1_1_ k_) ∨ w.heap.size ≤ k_) ∧ some k_ ≠ (.slice Ao57 y106.length co57 : Value).ownBlock ∧ k_ ≠ gb96 ∧ k_ ≠ gb97 ∧ k_ ≠ gb98 ∧ k_ ≠ gb113)) Z18 hg hat)
   replace HO_100 := am (Kd.V_afterv (ok := (fun k_ => ((P0_1_ k_ ∨ P1_1_ k_) ∨ w.heap.size ≤ k_) ∧ some k_ ≠ (.slice Ao57 y106.length co57 : Value).ownBlock ∧ k_ ≠ gb96 ∧ k_ ≠ gb97 ∧ k_ ≠ gb98 ∧ k_ ≠ gb113)) Z17 hg hat)
   replace BK96 := am (blk_grown (g := gb96) (o := .cells #[.int .i64 a0_0, .slice A0_1 l0_1.length c0_1, .slice A0_2 l0_2.length c0_2] 29 (0, 0)) (uK BK96) hg (Kd.N_ne HO117.out BK96.out Z21))
   replace BK97 := am (blk_grown (g := gb97) (o := .cells #[.int .i64 a1_0, .slice A1_1 l1_1.length c1_1, .slice A1_2 l1_2.length c1_2] 29 (0, 0)) (uK BK97) hg (Kd.N_ne HO117.out BK97.out Z21))
   replace BK98 := am (blk_grown (g := gb98) (o := .cells #[.int .i64 0, .slice none 0 0, .slice none 0 0] 29 (0, 0)) (uK BK98) hg (Kd.N_ne HO117.out BK98.out Z21))
   replace HO112 := am (Kd.R_over' (uR HO112) (Kd.N_typed Z82) Z21 hg)
   replace BK113 := am (blk_grown (g := gb113) (o := .cells #[.int .i64 a0_0, .slice none 0 0, .slice Ao57 y106.length co57] 29 (0, 0)) (uK BK113) hg (Kd.N_ne HO117.out BK113.out Z21))
   replace HB := am (hb)
   have HO119 := am (ho)
   clear HO117
   clear ho hb hg hat
   obtain ⟨Ao67, co67, eo67⟩ := Kd.N_slice HO119.out
   (first | subst eo67 | (injection eo67 with f1_ f2_ f3_; have f4_ := f1_.symm; have f5_ := f3_.symm; clear f1_ f2_ f3_; subst f4_; subst f5_))
   refine hK.out _ _ ⟨bc BK96 0, bc BK96 1, bc BK96 2, bc BK97 0, bc BK97 1, bc BK97 2⟩ (fun hHeld => ?_)
   clear hK K
   refine norm_ (a' := ?_) ?_ ?_
   rotate_left
   ·
    show Act.put _ (some 51) _ = _
    simp only [Act.put, setIfInBounds_toArray, set_cons_zero, set_cons_succ, i64_w, i32_w]
    rfl
   refine pS 7 52 (bA 9 511) ?_
   refine done_ (done_of HT_.out Z90) ?_
   try go_wp2
   go_loopg [53] kj2 (fun kq v53 w' => ∃ (x53_2 : Int) (x120_2 : List (S53)) (u120 : Value), v53 = .int .i64 x53_2 ∧ Aside0 (Fa.l0 kq y105 (y105.length : Int) x53_2 a0_0 x120_2 y106 = some (r1, r2, r3, r4)) ∧ Aside0 (kq ≤ kj2) ∧ Aside0 (Kd.N k53 53 w' w.heap.size (fun k_ => ((P0_1_ k_ ∨ P1_1_ k_) ∨ w.heap.size ≤ k_) ∧ some k_ ≠ (u120 : Value).ownBlock ∧ nb k_ Ao57 y106.length co57 ∧ k_ ≠ gb96 ∧ k_ ≠ gb97 ∧ k_ ≠ gb98 ∧ k_ ≠ gb113) (.slice Ao67 y105.length co67) y105) ∧ Aside0 (Kd.V k53 53 w' w.heap.size (fun k_ => ((P0_1_ k_ ∨ P1_1_ k_) ∨ w.heap.size ≤ k_) ∧ nb k_ Ao67 y105.length co67 ∧ some k_ ≠ (u120 : Value).ownBlock ∧ nb k_ Ao57 y106.length co57 ∧ k_ ≠ gb96 ∧ k_ ≠ gb97 ∧ k_ ≠ gb98 ∧ k_ ≠ gb113) (.slice A0_1 l0_1.length c0_1) l0_1) ∧ Aside0 (Kd.V k53 53 w' w.heap.size (fun k_ => ((P0_1_ k_ ∨ P1_1_ k_) ∨ w.heap.size ≤ k_) ∧ nb k_ Ao67 y105.length co67 ∧ some k_ ≠ (u120 : Value).ownBlock ∧ nb k_ Ao57 y106.length co57 ∧ k_ ≠ gb96 ∧ k_ ≠ gb97 ∧ k_ ≠ gb98 ∧ k_ ≠ gb113) (.slice A1_1 l1_1.length c1_1) l1_1) ∧ Aside0 (Kd.S k53 53 w' w.heap.size (fun k_ => (w.heap.size ≤ k_) ∧ some k_ ≠ ((.slice Ao67 y105.length co67) : Value).ownBlock) u120 x120_2) ∧ Aside0 (Kd.R Kd.bool 4 w' w.heap.size (fun k_ => (w.heap.size ≤ k_)) (.slice Ao57 y106.length co57) y106) ∧ Aside0 (w'.heap[gb96]? = some (.cells #[.int .i64 a0_0, (.slice A0_1 l0_1.length c0_1), (.slice A0_2 l0_2.length c0_2)] 29 (0, 0))) ∧ Aside0 (w'.heap[gb97]? = some (.cells #[.int .i64 a1_0, (.slice A1_1 l1_1.length c1_1), (.slice A1_2 l1_2.length c1_2)] 29 (0, 0))) ∧ Aside0 (w'.heap[gb98]? = some (.cells #[.int .i64 0, (.slice none 0 0), (.slice none 0 0)] 29 (0, 0))) ∧ Aside0 (w'.heap[gb113]? = some (.cells #[.int .i64 a0_0, u120, (.slice Ao57 y106.length co57)] 29 (0, 0))) ∧ Aside0 (Below w.heap.size w w'))
   case atStart => exact ⟨(0), (([] : List (S53))), (.slice none 0 0), Z87, H', ⟨Nat.le_refl _⟩, ⟨by (with_reducible repeat (first | apply Kd.N_alloc | apply Kd.N_drewN | apply Kd.N_drew)); exact Kd.N_mono HO119.out (fun _ hk => ⟨hk.1, ⟨Z96, ⟨hk.2.1, ⟨hk.2.2.1, ⟨hk.2.2.2.1, ⟨hk.2.2.2.2.1, hk.2.2.2.2.2⟩⟩⟩⟩⟩⟩)⟩, ⟨by (with_reducible repeat (first | apply Kd.V_alloc | apply Kd.V_drewN | apply Kd.V_drew)); exact Kd.V_mono HO_99.out (fun _ hk => ⟨hk.1.1, ⟨hk.2, ⟨Z96, ⟨hk.1.2.1, ⟨hk.1.2.2.1, ⟨hk.1.2.2.2.1, ⟨hk.1.2.2.2.2.1, hk.1.2.2.2.2.2⟩⟩⟩⟩⟩⟩⟩)⟩, ⟨by (with_reducible repeat (first | apply Kd.V_alloc | apply Kd.V_drewN | apply Kd.V_drew)); exact Kd.V_mono HO_100.out (fun _ hk => ⟨hk.1.1, ⟨hk.2, ⟨Z96, ⟨hk.1.2.1, ⟨hk.1.2.2.1, ⟨hk.1.2.2.2.1, ⟨hk.1.2.2.2.2.1, hk.1.2.2.2.2.2⟩⟩⟩⟩⟩⟩⟩)⟩, ⟨Z53⟩, ⟨by (with_reducible repeat (first | apply Kd.R_alloc | apply Kd.R_drewN | apply Kd.R_drew)); exact HO112.out⟩, ⟨pb BK96⟩, ⟨pb BK97⟩, ⟨pb BK98⟩, ⟨pb BK113⟩, ⟨Z1⟩⟩
   case round =>
    clear H'
    try clear c1
    try clear p2
    try clear c4
    try clear c45
    try clear c46
    try clear c47
    try clear c48
    try clear HO_51
    try clear HO_99
    try clear HO_100
    try clear HO_120
    try clear HO_121
    obtain ⟨x53_2, x120_2, u120, rfl, HA, HK2, HO_51, HO_99, HO_100, HO_120, HO_121, BK96, BK97, BK98, BK113, HB⟩ := hrel
    cases gk with
    | zero => exact absurd HA.out (by simp [Fa.l0])
    | succ k2 =>
     have H := HA.out
     clear HA
     simp only [Fa.l0] at H
     by_cases c68 : x53_2 < (y105.length : Int)
     rotate_left
     ·
      rw [if_neg c68] at H
      have c68b0 := decide_eq_false c68
      clear c68
      simp only [Option.some.injEq, Prod.mk.injEq] at H
      obtain ⟨rfl, rfl, rfl, rfl⟩ := H
      have hnb86 := NB113_96.out
      have hnc86 := NB96_113.out
      have hnb87 := NB113_97.out
      have hnc87 := NB97_113.out
      have hnb88 := NB113_98.out
      have hnc88 := NB98_113.out
      obtain ⟨hcz89_0, hcz89_1, hcz89_2, hfz89_0, hfz89_1, hfz89_2⟩ := ce3 BK113
      have hnb90 := NB98_96.out
      have hnc90 := NB96_98.out
      have hnb91 := NB98_97.out
      have hnc91 := NB97_98.out
      obtain ⟨hcz92_0, hcz92_1, hcz92_2, hfz92_0, hfz92_1, hfz92_2⟩ := ce3 BK98
      obtain ⟨Ao93, co93, eo93⟩ := Kd.S_slice HO_120.out
      subst eo93
      go_wp2
      refine bodyPost_ret (results_ct rfl _ _ gb98 29 #[.int .i64 a0_0, .slice Ao93 x120_2.length co93, .slice Ao57 y106.length co57] (0, 0) _ rfl (pT (pp 2 (pp 1 (pp 0 (pb BK98))))) Try.underlying29 rfl Z90) rfl ?_
      exact ⟨_, _, Z86, by (with_reducible repeat (first | apply Kd.S_alloc | apply Kd.S_drewN | apply Kd.S_drew)); exact Kd.S_mono (Kd.S_far (p := ⟨gb98, 2, none⟩) (Kd.S_far (p := ⟨gb98, 1, none⟩) (Kd.S_far (p := ⟨gb98, 0, none⟩) (Kd.S_types HO_120.out BK98.out Z21) (fun _ hk => hk.2) (.int .i64 a0_0)) (fun _ hk => hk.2) (.slice Ao93 x120_2.length co93)) (fun _ hk => hk.2) (.slice Ao57 y106.length co57)) (fun _ hk => hk.1.1), by (with_reducible repeat (first | apply Kd.R_alloc | apply Kd.R_drewN | apply Kd.R_drew)); exact Kd.R_mono (fT HO_121 BK98 Z21) (fun _ hk => hk.1), Z1⟩
     rw [if_pos c68] at H
     have c68b0 := decide_eq_true c68
     clear c68
     by_cases c69 : 0 ≤ x53_2
     rotate_left
     ·
      rw [if_neg c69] at H
      exact absurd H Z65
     rw [if_pos c69] at H
     have c69b0 := decide_eq_true c69
     clear c69
     by_cases c70 : x53_2 < (y105.length : Int)
     rotate_left
     ·
      rw [if_neg c70] at H
      exact absurd H Z65
     rw [if_pos c70] at H
     have c70b0 := decide_eq_true c70
     clear c70
     replace H := Option.bind_eq_some_iff.mp H
     obtain ⟨⟨t122, t123⟩, A124, H⟩ := H
     try dsimp only at H
     have A71 := am A124
     clear A124
     by_cases c72 : x120_2.length < 4398046511104
     rotate_left
     ·
      rw [if_neg c72] at H
      exact absurd H Z65
     rw [if_pos c72] at H
     have LMc72 := am c72
     clear c72
     obtain ⟨y125, hy125⟩ : ∃ y_ : List (S53), y_ = (x120_2 ++ [(⟨t122, t123⟩ : S53)]) := ⟨_, rfl⟩
     replace H : (Fa.l0 k2 y105 (y105.length : Int) (wrap64 (x53_2 + 1)) a0_0 y125 y106) = some (r1, r2, r3, r4) := by first | (rw [hy125]; with_reducible exact H) | (have H2_ := (Option.bind_some _ _).symm.trans H; rw [hy125]; with_reducible exact H2_) | (have H2_ := (Option.bind_some _ _).symm.trans H; with_reducible exact H2_) | with_reducible exact H | (rw [hy125]; exact H) | exact H
     have Ny125 := am hy125
     clear hy125
     have H' := am H
     clear H
     have p126 : 0 ≤ (x53_2 : Int) := of_decide_eq_true Z5
     have q126 : x53_2 < (y105.length : Int) := of_decide_eq_true Z5
     obtain ⟨ad126, A126_1, c126_1, e126, hx126_0, hx126_1, hl154_1, hi126_1⟩ := at_T53 (Kd.N_reads' HO_51.out).2.2 x53_2 p126 q126
     cases e126
     obtain ⟨ce154, hce154, hMe154, hcc154⟩ := Kd.N_get HO_51.out z53 x53_2 p126 (by first | exact q126 | exact of_decide_eq_true Z5 | (have e_ := (Kd.N_reads' HO_51.out).1; omega))
     obtain ⟨ua154_1, uc154_1, rfl, ul154_1, ge154_1⟩ := k53_openF hMe154
     have hv154_1 := hcc154 1 _ rfl
     rw [add_field _ _ 1 Z70] at hv154_1
     replace hv154_1 := Option.some.inj (hv154_1.symm.trans hx126_1)
     injection hv154_1 with hva_ hvn_ hvc_
     rw [hva_] at ge154_1
     rw [hvc_] at ul154_1
     have HL154_1 := am (show Kd.V (Kd.int .i64) 3 _ w.heap.size _ _ ((rd_T53 y105 x53_2).f1) from Kd.V_mk ul154_1 ge154_1)
     clear hva_ hvn_ hvc_ ge154_1 ul154_1
     clear hcc154 hce154
     have HR126_1 := am hi126_1
     have HC126_1 := am hl154_1
     clear hi126_1 hl154_1
     replace p126 := eq_true p126
     replace q126 := eq_true q126
     try go_wp2_with (first | ((with_reducible refine gate_dst (N := 8) rfl ?_); (try (refine gate_guard Z62 ?_; dsimp only)); refine box_event ?hg (N := 8) ?hd (cs := #[.int .i64 0, .slice none 0 0]) (t := 53) ?hr ?_; (case hd => rfl); (case hg => rfl); (case hr => exact Z88); intro gb127 hg w73 hbox hb; replace HO_51 := am (Kd.N_below (Kd.N_elderB Z76 gb127 (Nat.le_of_eq hg.symm)) hb); replace HO_99 := am (Kd.V_below (Kd.V_elderB Z18 gb127 (Nat.le_of_eq hg.symm)) hb); replace HO_100 := am (Kd.V_below (Kd.V_elderB Z17 gb127 (Nat.le_of_eq hg.symm)) hb); replace HO_120 := am (Kd.S_below (Kd.S_elderB Z75 gb127 (Nat.le_of_eq hg.symm)) hb); replace HO_121 := rB HO_121 hb; replace HL154_1 := am (Kd.V_below (Kd.V_elderB Z73 gb127 (Nat.le_of_eq hg.symm)) hb); replace HR126_1 := am (Kd.C_below (by repeat (first | (with_reducible exact HR126_1.out) | (with_reducible refine Kd.C_alloc ?_ _) | (with_reducible refine Kd.C_drewN ?_ _) | (with_reducible refine Kd.C_drew ?_) | exact HR126_1.out)) hb); have BK127 := am (hbox); have GW127 := am ((by rw [hg]; exact (below_size Z1) : w.heap.size ≤ gb127)); have GE127 := am ((by rw [hg]; exact (below_size Z1) : w.heap.size ≤ gb127)); replace HB := am (below_step Z1 hb); have NB96_127 := nL BK96 hg; have NB127_96 := nR BK96 hg; replace BK96 := kB BK96 hb; have NB97_127 := nL BK97 hg; have NB127_97 := nR BK97 hg; replace BK97 := kB BK97 hb; have NB98_127 := nL BK98 hg; have NB127_98 := nR BK98 hg; replace BK98 := kB BK98 hb; have NB113_127 := nL BK113 hg; have NB127_113 := nR BK113 hg; replace BK113 := kB BK113 hb; clear hb hbox hg; have hnb74 := NB127_96.out; have hnc74 := NB96_127.out; have hnb75 := NB127_97.out; have hnc75 := NB97_127.out; have hnb76 := NB127_98.out; have hnc76 := NB98_127.out; have hnb77 := NB127_113.out; have hnc77 := NB113_127.out; obtain ⟨hcz78_0, hcz78_1, hfz78_0, hfz78_1⟩ := ce2 BK127))
     have n0_ : Aside0 (Kd.N k53 53 ((w73.setCell ⟨gb127, 0, none⟩ (.int .i64 ((rd_T53 y105 x53_2).f0))).setCell ⟨gb127, 1, none⟩ (.slice A126_1 ((rd_T53 y105 x53_2).f1).length c126_1)) w.heap.size (fun k_ => ((P0_1_ k_ ∨ P1_1_ k_) ∨ w.heap.size ≤ k_) ∧ some k_ ≠ (u120 : Value).ownBlock ∧ some k_ ≠ (.slice Ao57 y106.length co57 : Value).ownBlock ∧ k_ ≠ gb96 ∧ k_ ≠ gb97 ∧ k_ ≠ gb98 ∧ k_ ≠ gb113 ∧ k_ ≠ gb127) (.slice (some ad126) y105.length co67) y105) := ⟨by (with_reducible repeat (first | apply Kd.N_alloc | apply Kd.N_drewN | apply Kd.N_drew)); exact Kd.N_mono (Kd.N_far (p := ⟨gb127, 1, none⟩) (Kd.N_far (p := ⟨gb127, 0, none⟩) (Kd.N_mono HO_51.out (fun k_ hk => (⟨hk, hk.2⟩ : _ ∧ k_ ≠ gb127))) (fun _ hk => hk.2) (.int .i64 ((rd_T53 y105 x53_2).f0))) (fun _ hk => hk.2) (.slice A126_1 ((rd_T53 y105 x53_2).f1).length c126_1)) (fun _ hk => ⟨hk.1.1.1, ⟨hk.1.1.2.1, ⟨hk.1.1.2.2.1, ⟨hk.1.1.2.2.2.1, ⟨hk.1.1.2.2.2.2.1, ⟨hk.1.1.2.2.2.2.2.1, ⟨hk.1.1.2.2.2.2.2.2, hk.1.2⟩⟩⟩⟩⟩⟩⟩)⟩
     have n1_ : Aside0 (Kd.V k53 53 ((w73.setCell ⟨gb127, 0, none⟩ (.int .i64 ((rd_T53 y105 x53_2).f0))).setCell ⟨gb127, 1, none⟩ (.slice A126_1 ((rd_T53 y105 x53_2).f1).length c126_1)) w.heap.size (fun k_ => ((P0_1_ k_ ∨ P1_1_ k_) ∨ w.heap.size ≤ k_) ∧ some k_ ≠ (.slice (some ad126) y105.length co67 : Value).ownBlock ∧ some k_ ≠ (u120 : Value).ownBlock ∧ some k_ ≠ (.slice Ao57 y106.length co57 : Value).ownBlock ∧ k_ ≠ gb96 ∧ k_ ≠ gb97 ∧ k_ ≠ gb98 ∧ k_ ≠ gb113 ∧ k_ ≠ gb127) (.slice A0_1 l0_1.length c0_1) l0_1) := ⟨by (with_reducible repeat (first | apply Kd.V_alloc | apply Kd.V_drewN | apply Kd.V_drew)); exact Kd.V_mono (Kd.V_far (p := ⟨gb127, 1, none⟩) (Kd.V_far (p := ⟨gb127, 0, none⟩) (Kd.V_mono HO_99.out (fun k_ hk => (⟨hk, hk.2⟩ : _ ∧ k_ ≠ gb127))) (fun _ hk => hk.2) (.int .i64 ((rd_T53 y105 x53_2).f0))) (fun _ hk => hk.2) (.slice A126_1 ((rd_T53 y105 x53_2).f1).length c126_1)) (fun _ hk => ⟨hk.1.1.1, ⟨hk.1.1.2.1, ⟨hk.1.1.2.2.1, ⟨hk.1.1.2.2.2.1, ⟨hk.1.1.2.2.2.2.1, ⟨hk.1.1.2.2.2.2.2.1, ⟨hk.1.1.2.2.2.2.2.2.1, ⟨hk.1.1.2.2.2.2.2.2.2, hk.1.2⟩⟩⟩⟩⟩⟩⟩⟩)⟩
     have n2_ : Aside0 (Kd.V k53 53 ((w73.setCell ⟨gb127, 0, none⟩ (.int .i64 ((rd_T53 y105 x53_2).f0))).setCell ⟨gb127, 1, none⟩ (.slice A126_1 ((rd_T53 y105 x53_2).f1).length c126_1)) w.heap.size (fun k_ => ((P0_1_ k_ ∨ P1_1_ k_) ∨ w.heap.size ≤ k_) ∧ some k_ ≠ (.slice (some ad126) y105.length co67 : Value).ownBlock ∧ some k_ ≠ (u120 : Value).ownBlock ∧ some k_ ≠ (.slice Ao57 y106.length co57 : Value).ownBlock ∧ k_ ≠ gb96 ∧ k_ ≠ gb97 ∧ k_ ≠ gb98 ∧ k_ ≠ gb113 ∧ k_ ≠ gb127) (.slice A1_1 l1_1.length c1_1) l1_1) := ⟨by (with_reducible repeat (first | apply Kd.V_alloc | apply Kd.V_drewN | apply Kd.V_drew)); exact Kd.V_mono (Kd.V_far (p := ⟨gb127, 1, none⟩) (Kd.V_far (p := ⟨gb127, 0, none⟩) (Kd.V_mono HO_100.out (fun k_ hk => (⟨hk, hk.2⟩ : _ ∧ k_ ≠ gb127))) (fun _ hk => hk.2) (.int .i64 ((rd_T53 y105 x53_2).f0))) (fun _ hk => hk.2) (.slice A126_1 ((rd_T53 y105 x53_2).f1).length c126_1)) (fun _ hk => ⟨hk.1.1.1, ⟨hk.1.1.2.1, ⟨hk.1.1.2.2.1, ⟨hk.1.1.2.2.2.1, ⟨hk.1.1.2.2.2.2.1, ⟨hk.1.1.2.2.2.2.2.1, ⟨hk.1.1.2.2.2.2.2.2.1, ⟨hk.1.1.2.2.2.2.2.2.2, hk.1.2⟩⟩⟩⟩⟩⟩⟩⟩)⟩
     have n3_ : Aside0 (Kd.S k53 53 ((w73.setCell ⟨gb127, 0, none⟩ (.int .i64 ((rd_T53 y105 x53_2).f0))).setCell ⟨gb127, 1, none⟩ (.slice A126_1 ((rd_T53 y105 x53_2).f1).length c126_1)) w.heap.size (fun k_ => (w.heap.size ≤ k_) ∧ some k_ ≠ (.slice (some ad126) y105.length co67 : Value).ownBlock ∧ k_ ≠ gb127) u120 x120_2) := ⟨by (with_reducible repeat (first | apply Kd.S_alloc | apply Kd.S_drewN | apply Kd.S_drew)); exact Kd.S_mono (Kd.S_far (p := ⟨gb127, 1, none⟩) (Kd.S_far (p := ⟨gb127, 0, none⟩) (Kd.S_mono HO_120.out (fun k_ hk => (⟨hk, hk.2⟩ : _ ∧ k_ ≠ gb127))) (fun _ hk => hk.2) (.int .i64 ((rd_T53 y105 x53_2).f0))) (fun _ hk => hk.2) (.slice A126_1 ((rd_T53 y105 x53_2).f1).length c126_1)) (fun _ hk => ⟨hk.1.1.1, ⟨hk.1.1.2, hk.1.2⟩⟩)⟩
     have n4_ : Aside0 (Kd.R Kd.bool 4 ((w73.setCell ⟨gb127, 0, none⟩ (.int .i64 ((rd_T53 y105 x53_2).f0))).setCell ⟨gb127, 1, none⟩ (.slice A126_1 ((rd_T53 y105 x53_2).f1).length c126_1)) w.heap.size (fun k_ => (w.heap.size ≤ k_)) (.slice Ao57 y106.length co57) y106) := ⟨by (with_reducible repeat (first | apply Kd.R_alloc | apply Kd.R_drewN | apply Kd.R_drew)); exact Kd.R_mono (Kd.R_far (p := ⟨gb127, 1, none⟩) (Kd.R_far (p := ⟨gb127, 0, none⟩) (Kd.R_types HO_121.out BK127.out Z21) (fun _ hk => hk.2) (.int .i64 ((rd_T53 y105 x53_2).f0))) (fun _ hk => hk.2) (.slice A126_1 ((rd_T53 y105 x53_2).f1).length c126_1)) (fun _ hk => hk.1)⟩
     have n5_ : Aside0 (Kd.V (Kd.int .i64) 3 ((w73.setCell ⟨gb127, 0, none⟩ (.int .i64 ((rd_T53 y105 x53_2).f0))).setCell ⟨gb127, 1, none⟩ (.slice A126_1 ((rd_T53 y105 x53_2).f1).length c126_1)) w.heap.size (fun k_ => ((P0_1_ k_ ∨ P1_1_ k_) ∨ w.heap.size ≤ k_) ∧ some k_ ≠ (.slice (some ad126) y105.length co67 : Value).ownBlock ∧ some k_ ≠ (u120 : Value).ownBlock ∧ some k_ ≠ (.slice Ao57 y106.length co57 : Value).ownBlock ∧ k_ ≠ gb96 ∧ k_ ≠ gb97 ∧ k_ ≠ gb98 ∧ k_ ≠ gb113 ∧ k_ ≠ gb127) (.slice A126_1 ((rd_T53 y105 x53_2).f1).length c126_1) ((rd_T53 y105 x53_2).f1)) := ⟨by (with_reducible repeat (first | apply Kd.V_alloc | apply Kd.V_drewN | apply Kd.V_drew)); exact Kd.V_mono (Kd.V_far (p := ⟨gb127, 1, none⟩) (Kd.V_far (p := ⟨gb127, 0, none⟩) (Kd.V_mono HL154_1.out (fun k_ hk => (⟨hk, hk.2⟩ : _ ∧ k_ ≠ gb127))) (fun _ hk => hk.2) (.int .i64 ((rd_T53 y105 x53_2).f0))) (fun _ hk => hk.2) (.slice A126_1 ((rd_T53 y105 x53_2).f1).length c126_1)) (fun _ hk => ⟨hk.1.1.1.1, ⟨hk.1.1.2, ⟨hk.1.1.1.2.1, ⟨hk.1.1.1.2.2.1, ⟨hk.1.1.1.2.2.2.1, ⟨hk.1.1.1.2.2.2.2.1, ⟨hk.1.1.1.2.2.2.2.2.1, ⟨hk.1.1.1.2.2.2.2.2.2, hk.1.2⟩⟩⟩⟩⟩⟩⟩⟩)⟩
     have n6_ : Aside0 (((w73.setCell ⟨gb127, 0, none⟩ (.int .i64 ((rd_T53 y105 x53_2).f0))).setCell ⟨gb127, 1, none⟩ (.slice A126_1 ((rd_T53 y105 x53_2).f1).length c126_1)).heap[gb96]? = some (.cells #[.int .i64 a0_0, .slice A0_1 l0_1.length c0_1, .slice A0_2 l0_2.length c0_2] 29 (0, 0))) := ⟨pf NB96_127 (pf NB96_127 (pb BK96))⟩
     have n7_ : Aside0 (((w73.setCell ⟨gb127, 0, none⟩ (.int .i64 ((rd_T53 y105 x53_2).f0))).setCell ⟨gb127, 1, none⟩ (.slice A126_1 ((rd_T53 y105 x53_2).f1).length c126_1)).heap[gb97]? = some (.cells #[.int .i64 a1_0, .slice A1_1 l1_1.length c1_1, .slice A1_2 l1_2.length c1_2] 29 (0, 0))) := ⟨pf NB97_127 (pf NB97_127 (pb BK97))⟩
     have n8_ : Aside0 (((w73.setCell ⟨gb127, 0, none⟩ (.int .i64 ((rd_T53 y105 x53_2).f0))).setCell ⟨gb127, 1, none⟩ (.slice A126_1 ((rd_T53 y105 x53_2).f1).length c126_1)).heap[gb98]? = some (.cells #[.int .i64 0, .slice none 0 0, .slice none 0 0] 29 (0, 0))) := ⟨pf NB98_127 (pf NB98_127 (pb BK98))⟩
     have n9_ : Aside0 (((w73.setCell ⟨gb127, 0, none⟩ (.int .i64 ((rd_T53 y105 x53_2).f0))).setCell ⟨gb127, 1, none⟩ (.slice A126_1 ((rd_T53 y105 x53_2).f1).length c126_1)).heap[gb113]? = some (.cells #[.int .i64 a0_0, u120, .slice Ao57 y106.length co57] 29 (0, 0))) := ⟨pf NB113_127 (pf NB113_127 (pb BK113))⟩
     have n10_ : Aside0 (((w73.setCell ⟨gb127, 0, none⟩ (.int .i64 ((rd_T53 y105 x53_2).f0))).setCell ⟨gb127, 1, none⟩ (.slice A126_1 ((rd_T53 y105 x53_2).f1).length c126_1)).heap[gb127]? = some (.cells #[.int .i64 ((rd_T53 y105 x53_2).f0), .slice A126_1 ((rd_T53 y105 x53_2).f1).length c126_1] 53 (0, 0))) := ⟨pT (pp 1 (pp 0 (pb BK127)))⟩
     have n11_ : Aside0 (Below w.heap.size w ((w73.setCell ⟨gb127, 0, none⟩ (.int .i64 ((rd_T53 y105 x53_2).f0))).setCell ⟨gb127, 1, none⟩ (.slice A126_1 ((rd_T53 y105 x53_2).f1).length c126_1))) := ⟨Z8⟩
     (try clear HO_51)
     (try clear HO_99)
     (try clear HO_100)
     (try clear HO_120)
     (try clear HO_121)
     (try clear HL154_1)
     (try clear BK96)
     (try clear BK97)
     (try clear BK98)
     (try clear BK113)
     (try clear BK127)
     (try clear HB)
     generalize ((w73.setCell ⟨gb127, 0, none⟩ (.int .i64 ((rd_T53 y105 x53_2).f0))).setCell ⟨gb127, 1, none⟩ (.slice A126_1 ((rd_T53 y105 x53_2).f1).length c126_1)) = w79 at n0_ n1_ n2_ n3_ n4_ n5_ n6_ n7_ n8_ n9_ n10_ n11_ ⊢
     have HO_51 := n0_
     have HO_99 := n1_
     have HO_100 := n2_
     have HO_120 := n3_
     have HO_121 := n4_
     have HL154_1 := n5_
     have BK96 := n6_
     have BK97 := n7_
     have BK98 := n8_
     have BK113 := n9_
     have BK127 := n10_
     have HB := n11_
     clear n0_ n1_ n2_ n3_ n4_ n5_ n6_ n7_ n8_ n9_ n10_ n11_
     replace HO_51 := am (Kd.N_drew HO_51.out)
     replace HO_99 := am (Kd.V_drew HO_99.out)
     replace HO_100 := am (Kd.V_drew HO_100.out)
     replace HO_120 := am (Kd.S_drew HO_120.out)
     replace HO_121 := am (Kd.R_drew HO_121.out)
     replace HL154_1 := am (Kd.V_drew HL154_1.out)
     replace BK96 := am (blk_drew BK96.out)
     replace BK97 := am (blk_drew BK97.out)
     replace BK98 := am (blk_drew BK98.out)
     replace BK113 := am (blk_drew BK113.out)
     replace BK127 := am (blk_drew BK127.out)
     replace HB := am (below_drew1 HB.out)
     refine start_ (n := 8) (S := fun w' => w'.cell? ⟨gb113, 0, none⟩ = some (.int .i64 a0_0) ∧ w'.cell? ⟨gb113, 1, none⟩ = some (u120) ∧ w'.cell? ⟨gb113, 2, none⟩ = some (.slice Ao57 y106.length co57) ∧ w'.cell? ⟨gb127, 0, none⟩ = some (.int .i64 ((rd_T53 y105 x53_2).f0)) ∧ w'.cell? ⟨gb127, 1, none⟩ = some (.slice A126_1 ((rd_T53 y105 x53_2).f1).length c126_1)) (ds := [7]) (bA 8 0) Z90 rfl rfl ⟨bc BK113 0, bc BK113 1, bc BK113 2, bc BK127 0, bc BK127 1⟩ (fun hHeld => ?_); refine with_tabW Fa.tab7 Fa.bits7 (fun HT_ HW_ => ?_)
     generalize w79.drew = w80 at HO_51 HO_99 HO_100 HO_120 HO_121 HL154_1 BK96 BK97 BK98 BK113 BK127 HB hHeld ⊢
     refine pS 0 57 (bA 8 1) ?_
     refine tS5 1 58 (bA 8 3) hHeld ?_
     refine tS5 2 59 (bA 8 7) hHeld ?_
     refine one_ (i := 3) (N := some 60) (bA 8 15) rfl rfl (one_of HT_.out Z90) Z21 (fun K hK => ?_)
     refine goes_ Try.func24 Z90 rfl #[.agg #[.int .i64 ((rd_T53 y105 x53_2).f0), .slice A126_1 ((rd_T53 y105 x53_2).f1).length c126_1]] Z62 rfl rfl Z91 ?_
     with_reducible refine (FR.calls ((rd_T53 y105 x53_2).f0) _ _ ((rd_T53 y105 x53_2).f1) t122 t123 _ ?side1 ?side2 A71.out).mono ?_
     (case side1 => repeat (first | exact ((Kd.V_reads' Z73).2.2) | (with_reducible refine Kd.C_alloc ?_ _) | (with_reducible refine Kd.C_drewN ?_ _) | (with_reducible refine Kd.C_drew ?_)))
     (case side2 => exact HC126_1.out)
     rintro e w81 ⟨v128, rfl, ho0, hb⟩
     refine ⟨_, rfl, ?_⟩
     replace HO_51 := am (Kd.N_elder' Z76 (Kd.R_base ho0) hb)
     replace HO_99 := am (Kd.V_elder' Z18 (Kd.R_base ho0) hb)
     replace HO_100 := am (Kd.V_elder' Z17 (Kd.R_base ho0) hb)
     replace HO_120 := am (Kd.S_elder' Z75 (Kd.R_base ho0) hb)
     replace HO_121 := rB HO_121 hb
     replace HL154_1 := am (Kd.V_elder' Z73 (Kd.R_base ho0) hb)
     have HO129 := am (Kd.R_lower (Kd.R_newM (M := fun k_ => (w.heap.size ≤ k_)) ho0 (below_size Z8) (fun k_ h_ => h_)) (below_size Z8))
     replace BK96 := kB BK96 hb
     replace BK97 := kB BK97 hb
     replace BK98 := kB BK98 hb
     replace BK113 := kB BK113 hb
     replace BK127 := kB BK127 hb
     replace HB := am (below_step Z8 hb)
     (try clear hb)
     (try clear hb2)
     (try clear hk)
     (try clear hi)
     (try clear ho0)
     obtain ⟨Ao83, co83, eo83⟩ := Kd.R_slice HO129.out
     (first | subst eo83 | (injection eo83 with f1_ f2_ f3_; have f4_ := f1_.symm; have f5_ := f3_.symm; clear f1_ f2_ f3_; subst f4_; subst f5_))
     refine hK.out _ _ ⟨bc BK113 0, bc BK113 1, bc BK113 2, bc BK127 0, bc BK127 1⟩ (fun hHeld => ?_)
     clear hK K
     refine norm_ (a' := ?_) ?_ ?_
     rotate_left
     ·
      show Act.put _ (some 60) _ = _
      simp only [Act.put, setIfInBounds_toArray, set_cons_zero, set_cons_succ, i64_w, i32_w]
      rfl
     refine one_ (i := 4) (N := some 61) (bA 8 31) rfl rfl (one_of HT_.out Z90) Z21 (fun K hK => ?_)
     refine value_ (w1 := ?_) (v := ?_) Z62 rfl ?_ ?_
     rotate_left 2
     ·
      go_simp
      constructor
      ·
       rfl
      rfl
     refine hK.out _ _ ⟨(blk_cell (blk_alloc BK113.out _) 0).trans rfl, (blk_cell (blk_alloc BK113.out _) 1).trans rfl, (blk_cell (blk_alloc BK113.out _) 2).trans rfl, (blk_cell (blk_alloc BK127.out _) 0).trans rfl, (blk_cell (blk_alloc BK127.out _) 1).trans rfl⟩ (fun hHeld => ?_)
     clear hK K
     refine norm_ (a' := ?_) ?_ ?_
     rotate_left
     ·
      show Act.put _ (some 61) _ = _
      simp only [Act.put, setIfInBounds_toArray, set_cons_zero, set_cons_succ, i64_w, i32_w]
      rfl
     refine one_ (i := 5) (N := some 62) (bA 8 63) rfl rfl (one_of HT_.out Z90) Z21 (fun K hK => ?_)
     refine Kd.S_append_step k53 (w0 := w) w.heap.size Z62 (.tmp 58) (.tmp 61) 27 53 (.agg #[(.int .i64 0), (.slice none 0 0)]) 32 rfl Try.underlying27 info53 rfl Z21 Z70 u120 x120_2 (⟨t122, t123⟩ : S53) [.int .i64 t122, .slice Ao83 t123.length co83] (fun k_ => (w.heap.size ≤ k_) ∧ some k_ ≠ (.slice (some ad126) y105.length co67 : Value).ownBlock ∧ k_ ≠ gb127) (fun k_ => some k_ = (.slice Ao83 t123.length co83 : Value).ownBlock) rfl rfl ?aP (fun k_ hk_ => ((Kd.R_mono (ok' := fun k_ => ((fun k_ => (w.heap.size ≤ k_) ∧ some k_ ≠ (.slice (some ad126) y105.length co67 : Value).ownBlock ∧ k_ ≠ gb127)) k_ ∧ some k_ ≠ (u120 : Value).ownBlock) (Kd.R_types (Kd.R_apart' (Kd.R_apart' (HO129.out) (Kd.N_typed HO_51.out) Z21) (Kd.S_typed HO_120.out) Z21) BK127.out Z21) (fun k_ hk => ⟨⟨hk.1.1.1.1, ⟨hk.1.1.2, hk.2⟩⟩, hk.1.2⟩))).1 k_ hk_.symm) ?aF ?aO ?aB ?aS ?aL ?_
     (case aP => exact k53_mkM _ _ _ (⟨t122, t123⟩ : S53) (Kd.R_mono (Kd.R_tight rfl (Kd.R_mono (ok' := fun k_ => ((fun k_ => (w.heap.size ≤ k_) ∧ some k_ ≠ (.slice (some ad126) y105.length co67 : Value).ownBlock ∧ k_ ≠ gb127)) k_ ∧ some k_ ≠ (u120 : Value).ownBlock) (Kd.R_types (Kd.R_apart' (Kd.R_apart' (HO129.out) (Kd.N_typed HO_51.out) Z21) (Kd.S_typed HO_120.out) Z21) BK127.out Z21) (fun k_ hk => ⟨⟨hk.1.1.1.1, ⟨hk.1.1.2, hk.2⟩⟩, hk.1.2⟩))) (fun _ h_ => h_)))
     (case aB => exact Z8)
     (case aF => exact (fun k_ hk => ⟨(Nat.le_trans (below_size Z8) hk), Kd.fresh' (Kd.N_lt Z76) k_ hk, Kd.freshB (g := gb127) (o := .cells #[.int .i64 ((rd_T53 y105 x53_2).f0), .slice A126_1 ((rd_T53 y105 x53_2).f1).length c126_1] 53 (0, 0)) (uK BK127) k_ hk⟩))
     (case aO => exact (by (with_reducible repeat (first | apply Kd.S_alloc | apply Kd.S_drewN | apply Kd.S_drew)); exact Kd.S_mono HO_120.out (fun k_ hk => ⟨⟨hk.1.1, ⟨hk.1.2.1, hk.1.2.2⟩⟩, fun e_ => hk.2 e_⟩)))
     (case aS => exact (below_size Z8))
     (case aL => have := LMc72.out; omega)
     intro v163 w82 ho hb hg hat
     rw [← Ny125.out] at ho
     replace HO_51 := am (Kd.N_afterv (ok := (fun k_ => ((P0_1_ k_ ∨ P1_1_ k_) ∨ w.heap.size ≤ k_) ∧ some k_ ≠ (.slice Ao57 y106.length co57 : Value).ownBlock ∧ some k_ ≠ (.slice Ao83 t123.length co83 : Value).ownBlock ∧ k_ ≠ gb96 ∧ k_ ≠ gb97 ∧ k_ ≠ gb98 ∧ k_ ≠ gb113 ∧ k_ ≠ gb127)) (by (with_reducible repeat (first | apply Kd.N_alloc | apply Kd.N_drewN | apply Kd.N_drew)); exact Kd.N_mono HO_51.out (fun _ hk => ⟨⟨hk.1.1, ⟨hk.1.2.2.1, ⟨hk.2, ⟨hk.1.2.2.2.1, ⟨hk.1.2.2.2.2.1, ⟨hk.1.2.2.2.2.2.1, ⟨hk.1.2.2.2.2.2.2.1, hk.1.2.2.2.2.2.2.2⟩⟩⟩⟩⟩⟩⟩, hk.1.2.1⟩)) hg hat)
     replace HO_99 := am (Kd.V_afterv (ok := (fun k_ => ((P0_1_ k_ ∨ P1_1_ k_) ∨ w.heap.size ≤ k_) ∧ some k_ ≠ (.slice (some ad126) y105.length co67 : Value).ownBlock ∧ some k_ ≠ (.slice Ao57 y106.length co57 : Value).ownBlock ∧ some k_ ≠ (.slice Ao83 t123.length co83 : Value).ownBlock ∧ k_ ≠ gb96 ∧ k_ ≠ gb97 ∧ k_ ≠ gb98 ∧ k_ ≠ gb113 ∧ k_ ≠ gb127)) (by (with_reducible repeat (first | apply Kd.V_alloc | apply Kd.V_drewN | apply Kd.V_drew)); exact Kd.V_mono HO_99.out (fun _ hk => ⟨⟨hk.1.1, ⟨hk.1.2.1, ⟨hk.1.2.2.2.1, ⟨hk.2, ⟨hk.1.2.2.2.2.1, ⟨hk.1.2.2.2.2.2.1, ⟨hk.1.2.2.2.2.2.2.1, ⟨hk.1.2.2.2.2.2.2.2.1, hk.1.2.2.2.2.2.2.2.2⟩⟩⟩⟩⟩⟩⟩⟩, hk.1.2.2.1⟩)) hg hat)
     replace HO_100 := am (Kd.V_afterv (ok := (fun k_ => ((P0_1_ k_ ∨ P1_1_ k_) ∨ w.heap.size ≤ k_) ∧ some k_ ≠ (.slice (some ad126) y105.length co67 : Value).ownBlock ∧ some k_ ≠ (.slice Ao57 y106.length co57 : Value).ownBlock ∧ some k_ ≠ (.slice Ao83 t123.length co83 : Value).ownBlock ∧ k_ ≠ gb96 ∧ k_ ≠ gb97 ∧ k_ ≠ gb98 ∧ k_ ≠ gb113 ∧ k_ ≠ gb127)) (by (with_reducible repeat (first | apply Kd.V_alloc | apply Kd.V_drewN | apply Kd.V_drew)); exact Kd.V_mono HO_100.out (fun _ hk => ⟨⟨hk.1.1, ⟨hk.1.2.1, ⟨hk.1.2.2.2.1, ⟨hk.2, ⟨hk.1.2.2.2.2.1, ⟨hk.1.2.2.2.2.2.1, ⟨hk.1.2.2.2.2.2.2.1, ⟨hk.1.2.2.2.2.2.2.2.1, hk.1.2.2.2.2.2.2.2.2⟩⟩⟩⟩⟩⟩⟩⟩, hk.1.2.2.1⟩)) hg hat)
     replace HO_121 := am (Kd.R_over' (uR HO_121) (Kd.S_typed Z75) Z21 hg)
     replace BK96 := am (blk_grown (g := gb96) (o := .cells #[.int .i64 a0_0, .slice A0_1 l0_1.length c0_1, .slice A0_2 l0_2.length c0_2] 29 (0, 0)) (uK BK96) hg (Kd.S_ne HO_120.out BK96.out Z21))
     replace BK97 := am (blk_grown (g := gb97) (o := .cells #[.int .i64 a1_0, .slice A1_1 l1_1.length c1_1, .slice A1_2 l1_2.length c1_2] 29 (0, 0)) (uK BK97) hg (Kd.S_ne HO_120.out BK97.out Z21))
     replace BK98 := am (blk_grown (g := gb98) (o := .cells #[.int .i64 0, .slice none 0 0, .slice none 0 0] 29 (0, 0)) (uK BK98) hg (Kd.S_ne HO_120.out BK98.out Z21))
     replace BK113 := am (blk_grown (g := gb113) (o := .cells #[.int .i64 a0_0, u120, .slice Ao57 y106.length co57] 29 (0, 0)) (uK BK113) hg (Kd.S_ne HO_120.out BK113.out Z21))
     replace HL154_1 := am (Kd.V_afterv (ok := (fun k_ => ((P0_1_ k_ ∨ P1_1_ k_) ∨ w.heap.size ≤ k_) ∧ some k_ ≠ (.slice (some ad126) y105.length co67 : Value).ownBlock ∧ some k_ ≠ (.slice Ao57 y106.length co57 : Value).ownBlock ∧ some k_ ≠ (.slice Ao83 t123.length co83 : Value).ownBlock ∧ k_ ≠ gb96 ∧ k_ ≠ gb97 ∧ k_ ≠ gb98 ∧ k_ ≠ gb113 ∧ k_ ≠ gb127)) (by (with_reducible repeat (first | apply Kd.V_alloc | apply Kd.V_drewN | apply Kd.V_drew)); exact Kd.V_mono HL154_1.out (fun _ hk => ⟨⟨hk.1.1, ⟨hk.1.2.1, ⟨hk.1.2.2.2.1, ⟨hk.2, ⟨hk.1.2.2.2.2.1, ⟨hk.1.2.2.2.2.2.1, ⟨hk.1.2.2.2.2.2.2.1, ⟨hk.1.2.2.2.2.2.2.2.1, hk.1.2.2.2.2.2.2.2.2⟩⟩⟩⟩⟩⟩⟩⟩, hk.1.2.2.1⟩)) hg hat)
     replace BK127 := am (blk_grown (g := gb127) (o := .cells #[.int .i64 ((rd_T53 y105 x53_2).f0), .slice A126_1 ((rd_T53 y105 x53_2).f1).length c126_1] 53 (0, 0)) (uK BK127) hg (Kd.S_away HO_120.out (fun _ hk => hk.1.2.2)))
     replace HB := am (hb)
     have HO164 := am (ho)
     clear HO_120 HO129
     clear ho hb hg hat
     obtain ⟨Ao84, co84, eo84⟩ := Kd.S_slice HO164.out
     (first | subst eo84 | (injection eo84 with f1_ f2_ f3_; have f4_ := f1_.symm; have f5_ := f3_.symm; clear f1_ f2_ f3_; subst f4_; subst f5_))
     refine hK.out _ _ ⟨bc BK113 0, bc BK113 1, bc BK113 2, bc BK127 0, bc BK127 1⟩ (fun hHeld => ?_)
     clear hK K
     refine norm_ (a' := ?_) ?_ ?_
     rotate_left
     ·
      show Act.put _ (some 62) _ = _
      simp only [Act.put, setIfInBounds_toArray, set_cons_zero, set_cons_succ, i64_w, i32_w]
      rfl
     refine pS 6 63 (bA 8 127) ?_
     refine last_ (i := 7) (N := none) (bA 8 255) rfl rfl (one_of HT_.out Z90) Z21 (fun K hK => ?_)
     have hs85 : w82.cell? ⟨gb113, 1, none⟩ = some (u120) := bc BK113 1
     have hfs85 := blk_frozen BK113.out 1
     have hns85_0 := NB96_113.out
     have hns85_1 := NB97_113.out
     have hns85_2 := NB98_113.out
     have hns85_4 := NB127_113.out
     have hms85_0 := NB113_96.out
     have hms85_1 := NB113_97.out
     have hms85_2 := NB113_98.out
     have hms85_4 := NB113_127.out
     refine skip_ (w1 := ?_) Z62 rfl ?_ ?_
     rotate_left
     ·
      go_simp
      rfl
     refine hK.out _ _ ?_
     clear hK K
     refine done_ (done_of HT_.out Z90) ?_
     try go_wp2
     go_roundg k2
     case measure => have := HJ2.out; have := HK2.out; omega
     case rel => exact ⟨(wrap64 (x53_2 + 1)), (y125), (.slice Ao84 y125.length co84), Z87, H', ⟨by have := HJ2.out; have := HK2.out; omega⟩, ⟨by (with_reducible repeat (first | apply Kd.N_alloc | apply Kd.N_drewN | apply Kd.N_drew)); exact Kd.N_mono (Kd.N_far (p := ⟨gb113, 1, none⟩) (Kd.N_mono HO_51.out (fun k_ hk => (⟨hk, hk.1.2.2.2.2.2.2.1⟩ : _ ∧ k_ ≠ gb113))) (fun _ hk => hk.2) (.slice Ao84 y125.length co84)) (fun _ hk => ⟨hk.1.1.1, ⟨hk.1.2, ⟨hk.1.1.2.1, ⟨hk.1.1.2.2.2.1, ⟨hk.1.1.2.2.2.2.1, ⟨hk.1.1.2.2.2.2.2.1, hk.1.1.2.2.2.2.2.2.1⟩⟩⟩⟩⟩⟩)⟩, ⟨by (with_reducible repeat (first | apply Kd.V_alloc | apply Kd.V_drewN | apply Kd.V_drew)); exact Kd.V_mono (Kd.V_far (p := ⟨gb113, 1, none⟩) (Kd.V_mono HO_99.out (fun k_ hk => (⟨hk, hk.1.2.2.2.2.2.2.2.1⟩ : _ ∧ k_ ≠ gb113))) (fun _ hk => hk.2) (.slice Ao84 y125.length co84)) (fun _ hk => ⟨hk.1.1.1, ⟨hk.1.1.2.1, ⟨hk.1.2, ⟨hk.1.1.2.2.1, ⟨hk.1.1.2.2.2.2.1, ⟨hk.1.1.2.2.2.2.2.1, ⟨hk.1.1.2.2.2.2.2.2.1, hk.1.1.2.2.2.2.2.2.2.1⟩⟩⟩⟩⟩⟩⟩)⟩, ⟨by (with_reducible repeat (first | apply Kd.V_alloc | apply Kd.V_drewN | apply Kd.V_drew)); exact Kd.V_mono (Kd.V_far (p := ⟨gb113, 1, none⟩) (Kd.V_mono HO_100.out (fun k_ hk => (⟨hk, hk.1.2.2.2.2.2.2.2.1⟩ : _ ∧ k_ ≠ gb113))) (fun _ hk => hk.2) (.slice Ao84 y125.length co84)) (fun _ hk => ⟨hk.1.1.1, ⟨hk.1.1.2.1, ⟨hk.1.2, ⟨hk.1.1.2.2.1, ⟨hk.1.1.2.2.2.2.1, ⟨hk.1.1.2.2.2.2.2.1, ⟨hk.1.1.2.2.2.2.2.2.1, hk.1.1.2.2.2.2.2.2.2.1⟩⟩⟩⟩⟩⟩⟩)⟩, ⟨by (with_reducible repeat (first | apply Kd.S_alloc | apply Kd.S_drewN | apply Kd.S_drew)); exact Kd.S_mono (Kd.S_far (p := ⟨gb113, 1, none⟩) (Kd.S_types HO164.out BK113.out Z21) (fun _ hk => hk.2) (.slice Ao84 y125.length co84)) (fun _ hk => ⟨hk.1.1, hk.1.2.1⟩)⟩, ⟨by (with_reducible repeat (first | apply Kd.R_alloc | apply Kd.R_drewN | apply Kd.R_drew)); exact Kd.R_mono (fT HO_121 BK113 Z21) (fun _ hk => hk.1)⟩, ⟨pf NB96_113 (pb BK96)⟩, ⟨pf NB97_113 (pb BK97)⟩, ⟨pf NB98_113 (pb BK98)⟩, ⟨pT (pp 1 (pb BK113))⟩, ⟨Z8⟩⟩

end Go.Proofs.Ytgbpbhplehmedaa.PFnExactJoinSystems
