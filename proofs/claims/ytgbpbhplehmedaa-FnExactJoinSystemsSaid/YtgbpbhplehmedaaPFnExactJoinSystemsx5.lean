-- made by wip/tools/myprint.py over the kit's print, for this claim
import Derived.Test.YtgbpbhplehmedaaPFnExactJoinSystemsx0
import Derived.Test.YtgbpbhplehmedaaPFnExactJoinSystemsx4
namespace Go.Proofs.Ytgbpbhplehmedaa.PFnExactJoinSystems
open Go.RowKit Go.Proofs.YtgbpbhplehmedaaW.PrintWords Go.Proofs.YtgbpbhplehmedaaW.PrintLast Go.Proofs.YtgbpbhplehmedaaW.PrintMore
open List (setIfInBounds_toArray set_cons_zero set_cons_succ)
attribute [local go_sem] max2_int min2_int max_two min_two max_three min_three max_four min_four   -- for this text's walks alone
set_option linter.unusedVariables false
set_option linter.unusedSimpArgs false

set_option maxHeartbeats 8000000
set_option maxRecDepth 100000
/-! ### Fe: function 49 -/
mutual
def Fe.j0 : Nat → Bool → Int → List Int → Option (Bool)
 | 0, _, _, _ => none
 | k + 1, x18, x1, x2 => if x18 = true then (some false) else (Fe.l0 k x2 (x2.length : Int) 0 x1 x2)
def Fe.l0 : Nat → List Int → Int → Int → Int → List Int → Option (Bool)
 | 0, _, _, _, _, _ => none
 | k + 1, x20, x21, x22, x1, x2 => if x22 < x21 then (if 0 ≤ x22 then (if x22 < (x20.length : Int) then ((FA.f (rd x20 x22) 0 65535).bind fun t3 => (if t3 = true then (Fe.l0 k x20 x21 (wrap64 (x22 + 1)) x1 x2) else (some false))) else (none)) else (none)) else (if (Int.tmod x1 16) = 0 then (some true) else (if 0 ≤ (wrap64 ((x2.length : Int) - 1)) then (if (wrap64 ((x2.length : Int) - 1)) < (x2.length : Int) then (if 0 ≤ (Int.tmod x1 16) then (some ((shr .i64 (rd x2 (wrap64 ((x2.length : Int) - 1))) (Int.tmod x1 16)) == 0)) else (none)) else (none)) else (none)))
end
def Fe.f (k : Nat) (a0_0 : Int) (l0_1 : List Int) : Option (Bool) := (FA.f a0_0 0 4096).bind fun t2 => (if t2 = true then ((FI.f a0_0).bind fun t3 => (Fe.j0 k ((l0_1.length : Int) != t3) a0_0 l0_1)) else (Fe.j0 k true a0_0 l0_1))
theorem Fe.mono_l : ∀ k, (∀ y0 y1 y2, LeO (Fe.j0 k y0 y1 y2) (Fe.j0 (k + 1) y0 y1 y2)) ∧ (∀ y0 y1 y2 y3 y4, LeO (Fe.l0 k y0 y1 y2 y3 y4) (Fe.l0 (k + 1) y0 y1 y2 y3 y4))
 | 0 => ⟨fun _ _ _ r h => by simp [Fe.j0] at h, fun _ _ _ _ _ r h => by simp [Fe.l0] at h⟩ | k + 1 => by
  obtain ⟨ih0, ih1⟩ := Fe.mono_l k
  refine ⟨?_, ?_⟩
  ·
   intro y0 y1 y2
   unfold Fe.j0
   exact Mo5
  intro y0 y1 y2 y3 y4
  unfold Fe.l0
  exact Mo5
theorem Fe.mono : ∀ a0 a1 k, LeO (Fe.f k a0 a1) (Fe.f (k + 1) a0 a1) := by
 intro a0 a1 k
 obtain ⟨ih0, ih1⟩ := Fe.mono_l k
 unfold Fe.f
 exact Mo5
theorem Fe.calls (k : Nat) (a0_0 : Int) (A0_1 : Option Addr) (c0_1 : Nat) (l0_1 : List Int) (r : Bool) (w : World) (hr0_1 : Kd.C (Kd.int .i64) w A0_1 l0_1.length l0_1) (hc0_1 : l0_1.length ≤ c0_1) (h : Fe.f k a0_0 l0_1 = some r) :
  Calls Try.prog 49 #[.agg #[.int .i64 a0_0, .slice A0_1 l0_1.length c0_1]] w fun e w' => e = .returned (.bool r) ∧ Below w.heap.size w w' := by
 have hu53 := Try.underlying53
 have HR0_1 := am hr0_1
 have HC0_1 := am hc0_1
 clear hr0_1 hc0_1
 have HB := am (Below.refl w.heap.size w)
 have H : ((FA.f a0_0 0 4096).bind fun t25 => (if t25 = true then ((FI.f a0_0).bind fun t26 => (Fe.j0 k ((l0_1.length : Int) != t26) a0_0 l0_1)) else (Fe.j0 k true a0_0 l0_1))) = some r := h
 clear h
 have HC2 := am H
 clear H
 go_enter Try.func49, Try.ntmps49
 go_upto_region 1 with (first | ((with_reducible refine gate_dst (N := 1) rfl ?_); (try (refine gate_guard Z62 ?_; dsimp only)); refine box_event ?hg (N := 1) ?hd (cs := #[.int .i64 a0_0, .slice A0_1 l0_1.length c0_1]) (t := 53) ?hr ?_; (case hd => rfl); (case hg => rfl); (case hr => exact Z88); intro gb27 hg w3 hbox hb; have BK27 := am (hbox); have GW27 := nG HB hg; have GE27 := nG HB hg; have GI27 := gI GE27; replace HB := am (below_step (uN HB) hb); clear hb hbox hg))
 repeat (go_quiet (first | ((with_reducible refine gate_dst (N := 1) rfl ?_); (try (refine gate_guard Z62 ?_; dsimp only)); refine box_event ?hg (N := 1) ?hd (cs := #[.int .i64 a0_0, .slice A0_1 l0_1.length c0_1]) (t := 53) ?hr ?_; (case hd => rfl); (case hg => rfl); (case hr => exact Z88); intro gb27 hg w3 hbox hb; have BK27 := am (hbox); have GW27 := nG HB hg; have GE27 := nG HB hg; have GI27 := gI GE27; replace HB := am (below_step (uN HB) hb); clear hb hbox hg)); go_upto_region 1 with (first | ((with_reducible refine gate_dst (N := 1) rfl ?_); (try (refine gate_guard Z62 ?_; dsimp only)); refine box_event ?hg (N := 1) ?hd (cs := #[.int .i64 a0_0, .slice A0_1 l0_1.length c0_1]) (t := 53) ?hr ?_; (case hd => rfl); (case hg => rfl); (case hr => exact Z88); intro gb27 hg w3 hbox hb; have BK27 := am (hbox); have GW27 := nG HB hg; have GE27 := nG HB hg; have GI27 := gI GE27; replace HB := am (below_step (uN HB) hb); clear hb hbox hg)))
 (try simp only [Act.put, setIfInBounds_toArray, set_cons_zero, set_cons_succ])
 go_cut [18] (fun v18 wc => ∃ (kq : Nat) (x18_1 : Bool), v18 = .bool x18_1 ∧ Aside0 (Fe.j0 kq x18_1 a0_0 l0_1 = some r) ∧ Aside0 (kq ≤ k) ∧ Aside0 (wc.heap[gb27]? = some (.cells #[.int .i64 a0_0, (.slice A0_1 l0_1.length c0_1)] 53 (0, 0))) ∧ Aside0 (Below w.heap.size w wc))
 case first =>
  have H := HC2.out
  clear HC2
  replace H := Option.bind_eq_some_iff.mp H
  obtain ⟨t25, A40, H⟩ := H
  try dsimp only at H
  have A4 := am A40
  clear A40
  by_cases c5 : t25 = true
  rotate_left
  ·
   replace c5 := Bool.eq_false_iff.mpr c5
   subst c5
   rw [if_neg (show ¬ (false = true) from Z21)] at H
   have H' := am H
   clear H
   obtain ⟨hcz8_0, hcz8_1, hfz8_0, hfz8_1⟩ := ce2 BK27
   go_wp2_with (first | (go_at_call 50; (with_reducible refine (FA.calls a0_0 0 4096 false _ A4.out).mono ?_); rintro e w' ⟨rfl, ⟨nd, rfl⟩⟩; (try first | exact ⟨rfl, _, World.drewN_drewN _ _ _⟩ | exact ⟨rfl, _, Eq.trans (World.drewN_drewN _ _ _) (congrArg (World.drewN _) (Nat.add_assoc _ _ _))⟩)))
   repeat (go_quiet (first | (go_at_call 50; (with_reducible refine (FA.calls a0_0 0 4096 false _ A4.out).mono ?_); rintro e w' ⟨rfl, ⟨nd, rfl⟩⟩; (try first | exact ⟨rfl, _, World.drewN_drewN _ _ _⟩ | exact ⟨rfl, _, Eq.trans (World.drewN_drewN _ _ _) (congrArg (World.drewN _) (Nat.add_assoc _ _ _))⟩))); try go_wp2_with (first | (go_at_call 50; (with_reducible refine (FA.calls a0_0 0 4096 false _ A4.out).mono ?_); rintro e w' ⟨rfl, ⟨nd, rfl⟩⟩; (try first | exact ⟨rfl, _, World.drewN_drewN _ _ _⟩ | exact ⟨rfl, _, Eq.trans (World.drewN_drewN _ _ _) (congrArg (World.drewN _) (Nat.add_assoc _ _ _))⟩))))
   go_meet
   case rel => exact ⟨_, (true), Z87, H', ⟨Z93⟩, ⟨pb BK27⟩, ⟨Z26⟩⟩
  subst c5
  rw [if_pos rfl] at H
  replace H := Option.bind_eq_some_iff.mp H
  obtain ⟨t26, A60, H⟩ := H
  try dsimp only at H
  have A6 := am A60
  clear A60
  have H' := am H
  clear H
  obtain ⟨hcz7_0, hcz7_1, hfz7_0, hfz7_1⟩ := ce2 BK27
  go_wp2_with (first | (go_at_call 50; (with_reducible refine (FA.calls a0_0 0 4096 true _ A4.out).mono ?_); rintro e w' ⟨rfl, ⟨nd, rfl⟩⟩; (try first | exact ⟨rfl, _, World.drewN_drewN _ _ _⟩ | exact ⟨rfl, _, Eq.trans (World.drewN_drewN _ _ _) (congrArg (World.drewN _) (Nat.add_assoc _ _ _))⟩)) | (go_at_call 72; (with_reducible refine (FI.calls a0_0 t26 _ A6.out).mono ?_); rintro e w' ⟨rfl, ⟨nd, rfl⟩⟩; (try first | exact ⟨rfl, _, World.drewN_drewN _ _ _⟩ | exact ⟨rfl, _, Eq.trans (World.drewN_drewN _ _ _) (congrArg (World.drewN _) (Nat.add_assoc _ _ _))⟩)))
  repeat (go_quiet (first | (go_at_call 50; (with_reducible refine (FA.calls a0_0 0 4096 true _ A4.out).mono ?_); rintro e w' ⟨rfl, ⟨nd, rfl⟩⟩; (try first | exact ⟨rfl, _, World.drewN_drewN _ _ _⟩ | exact ⟨rfl, _, Eq.trans (World.drewN_drewN _ _ _) (congrArg (World.drewN _) (Nat.add_assoc _ _ _))⟩)) | (go_at_call 72; (with_reducible refine (FI.calls a0_0 t26 _ A6.out).mono ?_); rintro e w' ⟨rfl, ⟨nd, rfl⟩⟩; (try first | exact ⟨rfl, _, World.drewN_drewN _ _ _⟩ | exact ⟨rfl, _, Eq.trans (World.drewN_drewN _ _ _) (congrArg (World.drewN _) (Nat.add_assoc _ _ _))⟩))); try go_wp2_with (first | (go_at_call 50; (with_reducible refine (FA.calls a0_0 0 4096 true _ A4.out).mono ?_); rintro e w' ⟨rfl, ⟨nd, rfl⟩⟩; (try first | exact ⟨rfl, _, World.drewN_drewN _ _ _⟩ | exact ⟨rfl, _, Eq.trans (World.drewN_drewN _ _ _) (congrArg (World.drewN _) (Nat.add_assoc _ _ _))⟩)) | (go_at_call 72; (with_reducible refine (FI.calls a0_0 t26 _ A6.out).mono ?_); rintro e w' ⟨rfl, ⟨nd, rfl⟩⟩; (try first | exact ⟨rfl, _, World.drewN_drewN _ _ _⟩ | exact ⟨rfl, _, Eq.trans (World.drewN_drewN _ _ _) (congrArg (World.drewN _) (Nat.add_assoc _ _ _))⟩))))
  go_meet
  case rel => exact ⟨_, (((l0_1.length : Int) != t26)), Z87, H', ⟨Z93⟩, ⟨pb BK27⟩, ⟨Z26⟩⟩
 case rest =>
  clear HC2
  try clear p2
  try clear c4
  try clear c5
  try clear hcz7_0 hcz7_1 hcz8_0 hcz8_1
  try clear hfz7_0 hfz7_1 hfz8_0 hfz8_1
  obtain ⟨kq, x18_1, rfl, HA, HJ1, BK27, HB⟩ := hcut
  cases kq with
  | zero => exact absurd HA.out (by simp [Fe.j0])
  | succ kj1 =>
   have H := HA.out
   clear HA
   simp only [Fe.j0] at H
   by_cases c9 : x18_1 = true
   ·
    subst c9
    rw [if_pos rfl] at H
    obtain rfl := Option.some.inj H
    go_wp2
    repeat (go_quiet (fail); try go_wp2)
    go_ret
    exact ⟨Z86, Z26⟩
   replace c9 := Bool.eq_false_iff.mpr c9
   subst c9
   rw [if_neg (show ¬ (false = true) from Z21)] at H
   have H' := am H
   clear H
   obtain ⟨hcz10_0, hcz10_1, hfz10_0, hfz10_1⟩ := ce2 BK27
   go_wp2
   repeat (go_quiet (fail); try go_wp2)
   go_loopg [22] kj1 (fun kq v22 w' => ∃ (x22_2 : Int), v22 = .int .i64 x22_2 ∧ Aside0 (Fe.l0 kq l0_1 (l0_1.length : Int) x22_2 a0_0 l0_1 = some r) ∧ Aside0 (kq ≤ kj1) ∧ Aside0 (w'.heap[gb27]? = some (.cells #[.int .i64 a0_0, (.slice A0_1 l0_1.length c0_1)] 53 (0, 0))) ∧ Aside0 (Below w.heap.size w w'))
   case atStart => exact ⟨(0), Z87, H', ⟨Nat.le_refl _⟩, ⟨pb BK27⟩, ⟨Z26⟩⟩
   case round =>
    clear H'
    try clear p2
    try clear c4
    try clear c5
    try clear c9
    try clear hcz10_0 hcz10_1 hcz7_0 hcz7_1 hcz8_0 hcz8_1
    try clear hfz10_0 hfz10_1 hfz7_0 hfz7_1 hfz8_0 hfz8_1
    try clear p2
    obtain ⟨x22_2, rfl, HA, HK2, BK27, HB⟩ := hrel
    cases gk with
    | zero => exact absurd HA.out (by simp [Fe.l0])
    | succ k2 =>
     have H := HA.out
     clear HA
     simp only [Fe.l0] at H
     by_cases c11 : x22_2 < (l0_1.length : Int)
     ·
      rw [if_pos c11] at H
      have c11b0 := decide_eq_true c11
      clear c11
      by_cases c12 : 0 ≤ x22_2
      rotate_left
      ·
       rw [if_neg c12] at H
       exact absurd H Z65
      rw [if_pos c12] at H
      have c12b0 := decide_eq_true c12
      clear c12
      by_cases c13 : x22_2 < (l0_1.length : Int)
      rotate_left
      ·
       rw [if_neg c13] at H
       exact absurd H Z65
      rw [if_pos c13] at H
      have c13b0 := decide_eq_true c13
      clear c13
      replace H := Option.bind_eq_some_iff.mp H
      obtain ⟨t28, A29, H⟩ := H
      try dsimp only at H
      have A14 := am A29
      clear A29
      by_cases c15 : t28 = true
      rotate_left
      ·
       replace c15 := Bool.eq_false_iff.mpr c15
       subst c15
       rw [if_neg (show ¬ (false = true) from Z21)] at H
       obtain rfl := Option.some.inj H
       have p30 : 0 ≤ (x22_2 : Int) := of_decide_eq_true Z5
       have q30 : x22_2 < (l0_1.length : Int) := of_decide_eq_true Z5
       obtain ⟨ad30, e30, hx30_0⟩ := Kd.at_int HR0_1.out x22_2 p30 q30
       cases e30
       replace hx30_0 := (HB.out.cell (World.block_lt_of_cell? w _ hx30_0)).trans hx30_0
       replace p30 := eq_true p30
       replace q30 := eq_true q30
       go_wp2_with (first | (go_at_call 50; (with_reducible refine (FA.calls (rd l0_1 x22_2) 0 65535 false _ A14.out).mono ?_); rintro e w' ⟨rfl, ⟨nd, rfl⟩⟩; (try first | exact ⟨rfl, _, World.drewN_drewN _ _ _⟩ | exact ⟨rfl, _, Eq.trans (World.drewN_drewN _ _ _) (congrArg (World.drewN _) (Nat.add_assoc _ _ _))⟩)))
       repeat (go_quiet (first | (go_at_call 50; (with_reducible refine (FA.calls (rd l0_1 x22_2) 0 65535 false _ A14.out).mono ?_); rintro e w' ⟨rfl, ⟨nd, rfl⟩⟩; (try first | exact ⟨rfl, _, World.drewN_drewN _ _ _⟩ | exact ⟨rfl, _, Eq.trans (World.drewN_drewN _ _ _) (congrArg (World.drewN _) (Nat.add_assoc _ _ _))⟩))); try go_wp2_with (first | (go_at_call 50; (with_reducible refine (FA.calls (rd l0_1 x22_2) 0 65535 false _ A14.out).mono ?_); rintro e w' ⟨rfl, ⟨nd, rfl⟩⟩; (try first | exact ⟨rfl, _, World.drewN_drewN _ _ _⟩ | exact ⟨rfl, _, Eq.trans (World.drewN_drewN _ _ _) (congrArg (World.drewN _) (Nat.add_assoc _ _ _))⟩))))
       go_ret
       exact ⟨Z86, Z26⟩
      subst c15
      rw [if_pos rfl] at H
      have H' := am H
      clear H
      have p30 : 0 ≤ (x22_2 : Int) := of_decide_eq_true Z5
      have q30 : x22_2 < (l0_1.length : Int) := of_decide_eq_true Z5
      obtain ⟨ad30, e30, hx30_0⟩ := Kd.at_int HR0_1.out x22_2 p30 q30
      cases e30
      replace hx30_0 := (HB.out.cell (World.block_lt_of_cell? w _ hx30_0)).trans hx30_0
      replace p30 := eq_true p30
      replace q30 := eq_true q30
      go_wp2_with (first | (go_at_call 50; (with_reducible refine (FA.calls (rd l0_1 x22_2) 0 65535 true _ A14.out).mono ?_); rintro e w' ⟨rfl, ⟨nd, rfl⟩⟩; (try first | exact ⟨rfl, _, World.drewN_drewN _ _ _⟩ | exact ⟨rfl, _, Eq.trans (World.drewN_drewN _ _ _) (congrArg (World.drewN _) (Nat.add_assoc _ _ _))⟩)))
      repeat (go_quiet (first | (go_at_call 50; (with_reducible refine (FA.calls (rd l0_1 x22_2) 0 65535 true _ A14.out).mono ?_); rintro e w' ⟨rfl, ⟨nd, rfl⟩⟩; (try first | exact ⟨rfl, _, World.drewN_drewN _ _ _⟩ | exact ⟨rfl, _, Eq.trans (World.drewN_drewN _ _ _) (congrArg (World.drewN _) (Nat.add_assoc _ _ _))⟩))); try go_wp2_with (first | (go_at_call 50; (with_reducible refine (FA.calls (rd l0_1 x22_2) 0 65535 true _ A14.out).mono ?_); rintro e w' ⟨rfl, ⟨nd, rfl⟩⟩; (try first | exact ⟨rfl, _, World.drewN_drewN _ _ _⟩ | exact ⟨rfl, _, Eq.trans (World.drewN_drewN _ _ _) (congrArg (World.drewN _) (Nat.add_assoc _ _ _))⟩))))
      go_roundg k2
      case measure => have := HJ1.out; have := HK2.out; omega
      case rel => exact ⟨(wrap64 (x22_2 + 1)), Z87, H', ⟨by have := HJ1.out; have := HK2.out; omega⟩, ⟨pb BK27⟩, ⟨Z26⟩⟩
     rw [if_neg c11] at H
     have c11b0 := decide_eq_false c11
     clear c11
     by_cases c16 : (Int.tmod a0_0 16) = 0
     ·
      rw [if_pos c16] at H
      have c16b0 : ((Int.tmod a0_0 16) == 0) = true := beq_iff_eq.mpr c16
      have c16b1 : ((Int.tmod a0_0 16) != 0) = false := bne_eq_false_iff_eq.mpr c16
      clear c16
      obtain rfl := Option.some.inj H
      obtain ⟨hcz17_0, hcz17_1, hfz17_0, hfz17_1⟩ := ce2 BK27
      go_wp2
      repeat (go_quiet (fail); try go_wp2)
      go_ret
      exact ⟨Z86, Z26⟩
     rw [if_neg c16] at H
     have c16b0 : ((Int.tmod a0_0 16) == 0) = false := beq_eq_false_iff_ne.mpr c16
     have c16b1 : ((Int.tmod a0_0 16) != 0) = true := bne_iff_ne.mpr c16
     obtain ⟨ji18, hji18⟩ : ∃ j_ : Int, (wrap64 ((l0_1.length : Int) - 1)) = j_ := ⟨_, rfl⟩
     replace H : (if 0 ≤ (ji18) then (if (ji18) < (l0_1.length : Int) then (if 0 ≤ (Int.tmod a0_0 16) then (some ((shr .i64 (rd l0_1 (ji18)) (Int.tmod a0_0 16)) == 0)) else (none)) else (none)) else (none)) = some r := by first | (rw [hji18] at H; exact H) | (simp only [hji18] at H ⊢; exact H)
     have hji18w : (IntKind.i64.wrap ((l0_1.length : Int) - 1)) = ji18 := (i64_w _).trans hji18
     by_cases c19 : 0 ≤ (ji18)
     rotate_left
     ·
      rw [if_neg c19] at H
      exact absurd H Z65
     rw [if_pos c19] at H
     have c19b0 := decide_eq_true c19
     clear c19
     by_cases c20 : (ji18) < (l0_1.length : Int)
     rotate_left
     ·
      rw [if_neg c20] at H
      exact absurd H Z65
     rw [if_pos c20] at H
     have c20b0 := decide_eq_true c20
     clear c20
     obtain ⟨ji21, hji21⟩ : ∃ j_ : Int, (Int.tmod a0_0 16) = j_ := ⟨_, rfl⟩
     replace H : (if 0 ≤ (ji21) then (some ((shr .i64 (rd l0_1 (ji18)) (ji21)) == 0)) else (none)) = some r := by first | (rw [hji21] at H; exact H) | (simp only [hji21] at H ⊢; exact H)
     (try rw [hji21] at c16b0)
     (try rw [hji21] at c16b1)
     by_cases c22 : 0 ≤ (ji21)
     rotate_left
     ·
      rw [if_neg c22] at H
      exact absurd H Z65
     rw [if_pos c22] at H
     have c22b0 := eq_true c22
     have c22b1 := decide_eq_true c22
     clear c22
     obtain ⟨ji23, hji23⟩ : ∃ j_ : Int, (shr .i64 (rd l0_1 (ji18)) (ji21)) = j_ := ⟨_, rfl⟩
     replace H : (some ((ji23) == 0)) = some r := by first | (rw [hji23] at H; exact H) | (simp only [hji23] at H ⊢; exact H)
     have hji23_ : ((rd l0_1 (ji18)) / 2 ^ min (ji21).toNat 64) = ji23 := hji23
     have hji23z : (ji21) ≤ 64 → ((rd l0_1 (ji18)) / 2 ^ (ji21).toNat) = ji23 := shr_small hji23
     obtain rfl := Option.some.inj H
     obtain ⟨hcz24_0, hcz24_1, hfz24_0, hfz24_1⟩ := ce2 BK27
     have p31 : 0 ≤ ((ji18) : Int) := of_decide_eq_true Z5
     have q31 : (ji18) < (l0_1.length : Int) := of_decide_eq_true Z5
     obtain ⟨ad31, e31, hx31_0⟩ := Kd.at_int HR0_1.out (ji18) p31 q31
     cases e31
     replace hx31_0 := (HB.out.cell (World.block_lt_of_cell? w _ hx31_0)).trans hx31_0
     replace p31 := eq_true p31
     replace q31 := eq_true q31
     go_wp2
     repeat (go_quiet (fail); try go_wp2)
     go_ret
     exact ⟨by first | rfl | (simp [errW_none, errW_some] <;> rfl) | (simp only [← hji18, ← hji21, ← hji23]; first | rfl | (simp [errW_none, errW_some] <;> rfl)) | (simp [*, errW_none, errW_some] <;> rfl), Z26⟩

/-! ### FF: function 48 -/
def FF.f (k : Nat) (a0_0 : Int) (l0_1 : List Int) (a1_0 : Int) (l1_1 : List (S53)) (l1_2 : List Bool) : Option (Bool) := (Fe.f k a0_0 l0_1).bind fun t3 => (if t3 = true then (some (a0_0 != a1_0)) else (some true))
theorem FF.mono : ∀ a0 a1 a2 a3 a4 k, LeO (FF.f k a0 a1 a2 a3 a4) (FF.f (k + 1) a0 a1 a2 a3 a4) := by
 intro a0 a1 a2 a3 a4 k
 unfold FF.f
 repeat' first
   | with_reducible first | exact Fe.mono .. | exact LeO.refl _ | exact LeO.none _ | refine LeO.ite ?_ ?_ | refine LeO.bind ?_ (fun _ => ?_)
   | exact Fe.mono .. | exact LeO.none _ | refine LeO.ite ?_ ?_ | refine LeO.bind ?_ (fun _ => ?_)
theorem FF.calls (k : Nat) (a0_0 : Int) (A0_1 : Option Addr) (c0_1 : Nat) (l0_1 : List Int) (g1_0 : Nat) (a1_0 : Int) (A1_1 : Option Addr) (c1_1 : Nat) (l1_1 : List (S53)) (A1_2 : Option Addr) (c1_2 : Nat) (l1_2 : List Bool) (r : Bool) (w : World) (hb1_0 : w.heap[g1_0]? = some (.cells #[.int .i64 a1_0, .slice A1_1 l1_1.length c1_1, .slice A1_2 l1_2.length c1_2] 29 (0, 0))) (hr0_1 : Kd.C (Kd.int .i64) w A0_1 l0_1.length l0_1) (hc0_1 : l0_1.length ≤ c0_1) (hr1_1 : Kd.C k53 w A1_1 l1_1.length l1_1) (hc1_1 : l1_1.length ≤ c1_1) (hr1_2 : Kd.C Kd.bool w A1_2 l1_2.length l1_2) (hc1_2 : l1_2.length ≤ c1_2) (h : FF.f k a0_0 l0_1 a1_0 l1_1 l1_2 = some r) :
  Calls Try.prog 48 #[.agg #[.int .i64 a0_0, .slice A0_1 l0_1.length c0_1], .pointer (some ⟨g1_0, 0, none⟩)] w fun e w' => e = .returned (.bool r) ∧ Below w.heap.size w w' := by
 have hu53 := Try.underlying53
 have HR0_1 := am hr0_1
 have HC0_1 := am hc0_1
 clear hr0_1 hc0_1
 have HR1_1 := am hr1_1
 have HC1_1 := am hc1_1
 clear hr1_1 hc1_1
 have HR1_2 := am hr1_2
 have HC1_2 := am hc1_2
 clear hr1_2 hc1_2
 have BK15 := am hb1_0
 clear hb1_0
 have HB := am (Below.refl w.heap.size w)
 have H : ((Fe.f k a0_0 l0_1).bind fun t16 => (if t16 = true then (some (a0_0 != a1_0)) else (some true))) = some r := h
 clear h
 replace H := Option.bind_eq_some_iff.mp H
 obtain ⟨t16, A30, H⟩ := H
 try dsimp only at H
 have A3 := am A30
 clear A30
 by_cases c4 : t16 = true
 ·
  subst c4
  rw [if_pos rfl] at H
  obtain rfl := Option.some.inj H
  go_enter Try.func48, Try.ntmps48
  go_wp2_with (first | ((with_reducible refine gate_dst (N := 2) rfl ?_); refine box_event ?hg (N := 2) ?hd (cs := #[.int .i64 a0_0, .slice A0_1 l0_1.length c0_1]) (t := 53) ?hr ?_; (case hd => rfl); (case hg => rfl); (case hr => exact Z88); intro gb17 hg w5 hbox hb; have BK17 := am (hbox); have GW17 := am ((by rw [hg]; exact (below_size Z14) : w.heap.size ≤ gb17)); have GE17 := am ((by rw [hg]; exact (below_size Z14) : w.heap.size ≤ gb17)); replace HB := am (below_step Z14 hb); have NB15_17 := nL BK15 hg; have NB17_15 := nR BK15 hg; replace BK15 := kB BK15 hb; clear hb hbox hg; have hnb6 := NB17_15.out; have hnc6 := NB15_17.out; obtain ⟨hcz7_0, hcz7_1, hfz7_0, hfz7_1⟩ := ce2 BK17) | ((with_reducible refine gate_callee (f := 49) rfl ?_); refine goesL_ (some 5) rfl rfl Try.func49 Z90 rfl #[.agg #[.int .i64 a0_0, .slice A0_1 l0_1.length c0_1]] rfl Z97 ?_; (with_reducible refine (Fe.calls k a0_0 _ _ l0_1 true _ ?side1 ?side2 A3.out).mono ?_); (case side1 => exact uC HR0_1 HB); (case side2 => exact HC0_1.out); rintro e w8 ⟨rfl, hb⟩; refine ⟨_, rfl, ?_⟩; replace BK15 := kB BK15 hb; replace BK17 := kB BK17 hb; replace HB := am (below_step Z41 hb); (try clear hb); (try clear hb2); (try clear hk); (try clear hi); obtain ⟨hcz9_0, hcz9_1, hfz9_0, hfz9_1⟩ := ce2 BK17; obtain ⟨hcz10_0, hcz10_1, hcz10_2, hfz10_0, hfz10_1, hfz10_2⟩ := ce3 BK15))
  go_ret
  exact ⟨Z86, Z41⟩
 replace c4 := Bool.eq_false_iff.mpr c4
 subst c4
 rw [if_neg (show ¬ (false = true) from Z21)] at H
 obtain rfl := Option.some.inj H
 go_enter Try.func48, Try.ntmps48
 go_wp2_with (first | ((with_reducible refine gate_dst (N := 2) rfl ?_); refine box_event ?hg (N := 2) ?hd (cs := #[.int .i64 a0_0, .slice A0_1 l0_1.length c0_1]) (t := 53) ?hr ?_; (case hd => rfl); (case hg => rfl); (case hr => exact Z88); intro gb17 hg w11 hbox hb; have BK17 := am (hbox); have GW17 := am ((by rw [hg]; exact (below_size Z14) : w.heap.size ≤ gb17)); have GE17 := am ((by rw [hg]; exact (below_size Z14) : w.heap.size ≤ gb17)); replace HB := am (below_step Z14 hb); have NB15_17 := nL BK15 hg; have NB17_15 := nR BK15 hg; replace BK15 := kB BK15 hb; clear hb hbox hg; have hnb12 := NB17_15.out; have hnc12 := NB15_17.out; obtain ⟨hcz13_0, hcz13_1, hfz13_0, hfz13_1⟩ := ce2 BK17) | ((with_reducible refine gate_callee (f := 49) rfl ?_); refine goesL_ (some 5) rfl rfl Try.func49 Z90 rfl #[.agg #[.int .i64 a0_0, .slice A0_1 l0_1.length c0_1]] rfl Z97 ?_; (with_reducible refine (Fe.calls k a0_0 _ _ l0_1 false _ ?side1 ?side2 A3.out).mono ?_); (case side1 => exact uC HR0_1 HB); (case side2 => exact HC0_1.out); rintro e w14 ⟨rfl, hb⟩; refine ⟨_, rfl, ?_⟩; replace BK15 := kB BK15 hb; replace BK17 := kB BK17 hb; replace HB := am (below_step Z41 hb); (try clear hb); (try clear hb2); (try clear hk); (try clear hi)))
 go_ret
 exact ⟨Z86, Z41⟩

/-! ### Fx: function 71 -/
def Fx.l0 : Nat → List (S53) → Int → Int → Int → List (S53) → List Bool → Option (Int)
 | 0, _, _, _, _, _, _ => none
 | k + 1, x0, x7, x8, x2, x3, x4 => if x8 < x7 then (if 0 ≤ x8 then (if x8 < (x0.length : Int) then ((FF.f k ((rd_T53 x0 x8).f0) ((rd_T53 x0 x8).f1) x2 x3 x4).bind fun t5 => (if t5 = true then (some x8) else (Fx.l0 k x0 x7 (wrap64 (x8 + 1)) x2 x3 x4))) else (none)) else (none)) else (some (-1))
def Fx.f (k : Nat) (l0 : List (S53)) (a1_0 : Int) (l1_1 : List (S53)) (l1_2 : List Bool) : Option (Int) := Fx.l0 k l0 (l0.length : Int) 0 a1_0 l1_1 l1_2
theorem Fx.mono_l : ∀ k, (∀ y0 y1 y2 y3 y4 y5, LeO (Fx.l0 k y0 y1 y2 y3 y4 y5) (Fx.l0 (k + 1) y0 y1 y2 y3 y4 y5))
 | 0 => fun _ _ _ _ _ _ r h => by simp [Fx.l0] at h | k + 1 => by
  have ih0 := Fx.mono_l k
  ·
   intro y0 y1 y2 y3 y4 y5
   unfold Fx.l0
   exact Mo6
theorem Fx.mono : ∀ a0 a1 a2 a3 k, LeO (Fx.f k a0 a1 a2 a3) (Fx.f (k + 1) a0 a1 a2 a3) := by
 intro a0 a1 a2 a3 k
 have ih0 := Fx.mono_l k
 unfold Fx.f
 exact Mo6
theorem Fx.calls (k : Nat) (A0 : Option Addr) (c0 : Nat) (l0 : List (S53)) (g1_0 : Nat) (a1_0 : Int) (A1_1 : Option Addr) (c1_1 : Nat) (l1_1 : List (S53)) (A1_2 : Option Addr) (c1_2 : Nat) (l1_2 : List Bool) (r : Int) (w : World) (hb1_0 : w.heap[g1_0]? = some (.cells #[.int .i64 a1_0, .slice A1_1 l1_1.length c1_1, .slice A1_2 l1_2.length c1_2] 29 (0, 0))) (hr0 : Kd.C k53 w A0 l0.length l0) (hc0 : l0.length ≤ c0) (hr1_1 : Kd.C k53 w A1_1 l1_1.length l1_1) (hc1_1 : l1_1.length ≤ c1_1) (hr1_2 : Kd.C Kd.bool w A1_2 l1_2.length l1_2) (hc1_2 : l1_2.length ≤ c1_2) (h : Fx.f k l0 a1_0 l1_1 l1_2 = some r) :
  Calls Try.prog 71 #[.slice A0 l0.length c0, .func (.func 48) #[] #[.pointer (some ⟨g1_0, 0, none⟩)]] w fun e w' => e = .returned (.int .i64 r) ∧ Below w.heap.size w w' := by
 have hu53 := Try.underlying53
 have HR0 := am hr0
 have HC0 := am hc0
 clear hr0 hc0
 have HR1_1 := am hr1_1
 have HC1_1 := am hc1_1
 clear hr1_1 hc1_1
 have HR1_2 := am hr1_2
 have HC1_2 := am hc1_2
 clear hr1_2 hc1_2
 have BK10 := am hb1_0
 clear hb1_0
 have HB := am (Below.refl w.heap.size w)
 have H : (Fx.l0 k l0 (l0.length : Int) 0 a1_0 l1_1 l1_2) = some r := h
 clear h
 have H' := am H
 clear H
 go_enter Try.func71, Try.ntmps71
 go_wp2
 go_loopg [8] k (fun kq v8 w' => ∃ (x8_1 : Int), v8 = .int .i64 x8_1 ∧ Aside0 (Fx.l0 kq l0 (l0.length : Int) x8_1 a1_0 l1_1 l1_2 = some r) ∧ Aside0 (kq ≤ k) ∧ Aside0 (w'.heap[g1_0]? = some (.cells #[.int .i64 a1_0, (.slice A1_1 l1_1.length c1_1), (.slice A1_2 l1_2.length c1_2)] 29 (0, 0))) ∧ Aside0 (Below w.heap.size w w'))
 case atStart => exact ⟨(0), Z87, H', ⟨Nat.le_refl _⟩, ⟨pb BK10⟩, ⟨Z28⟩⟩
 case round =>
  clear H'
  try clear c1
  try clear p2
  obtain ⟨x8_1, rfl, HA, HK1, BK10, HB⟩ := hrel
  cases gk with
  | zero => exact absurd HA.out (by simp [Fx.l0])
  | succ k1 =>
   have H := HA.out
   clear HA
   simp only [Fx.l0] at H
   by_cases c3 : x8_1 < (l0.length : Int)
   rotate_left
   ·
    rw [if_neg c3] at H
    have c3b0 := decide_eq_false c3
    clear c3
    obtain rfl := Option.some.inj H
    go_wp2
    go_ret
    exact ⟨Z86, Z28⟩
   rw [if_pos c3] at H
   have c3b0 := decide_eq_true c3
   clear c3
   by_cases c4 : 0 ≤ x8_1
   rotate_left
   ·
    rw [if_neg c4] at H
    exact absurd H Z65
   rw [if_pos c4] at H
   have c4b0 := decide_eq_true c4
   clear c4
   by_cases c5 : x8_1 < (l0.length : Int)
   rotate_left
   ·
    rw [if_neg c5] at H
    exact absurd H Z65
   rw [if_pos c5] at H
   have c5b0 := decide_eq_true c5
   clear c5
   replace H := Option.bind_eq_some_iff.mp H
   obtain ⟨t11, A60, H⟩ := H
   try dsimp only at H
   have A6 := am A60
   clear A60
   by_cases c7 : t11 = true
   ·
    subst c7
    rw [if_pos rfl] at H
    obtain rfl := Option.some.inj H
    have p12 : 0 ≤ (x8_1 : Int) := of_decide_eq_true Z5
    have q12 : x8_1 < (l0.length : Int) := of_decide_eq_true Z5
    obtain ⟨ad12, A12_1, c12_1, e12, hx12_0, hx12_1, hl207_1, hi12_1⟩ := at_T53 HR0.out x8_1 p12 q12
    cases e12
    replace hx12_0 := (HB.out.cell (World.block_lt_of_cell? w _ hx12_0)).trans hx12_0
    replace hx12_1 := (HB.out.cell (World.block_lt_of_cell? w _ hx12_1)).trans hx12_1
    have HR12_1 := am hi12_1
    have HC12_1 := am hl207_1
    clear hi12_1 hl207_1
    replace p12 := eq_true p12
    replace q12 := eq_true q12
    go_wp2_with (first | ((with_reducible refine gate_via (t := 11) rfl ?_); refine goesC_ (some 16) rfl rfl (t := 11) Try.func48 Z90 rfl #[.agg #[.int .i64 ((rd_T53 l0 x8_1).f0), .slice A12_1 ((rd_T53 l0 x8_1).f1).length c12_1], .pointer (some ⟨g1_0, 0, none⟩)] rfl rfl Z91 ?_; (with_reducible refine (FF.calls k1 ((rd_T53 l0 x8_1).f0) _ _ ((rd_T53 l0 x8_1).f1) g1_0 a1_0 A1_1 c1_1 l1_1 A1_2 c1_2 l1_2 true _ ?side1 ?side2 ?side3 ?side4 ?side5 ?side6 ?side7 A6.out).mono ?_); (case side1 => exact (uK BK10)); (case side2 => exact uC HR12_1 HB); (case side3 => exact HC12_1.out); (case side4 => exact uC HR1_1 HB); (case side5 => exact HC1_1.out); (case side6 => exact uC HR1_2 HB); (case side7 => exact HC1_2.out); rintro e w8 ⟨rfl, hb⟩; refine ⟨_, rfl, ?_⟩; replace BK10 := kB BK10 hb; replace HB := am (below_step Z28 hb); (try clear hb); (try clear hb2); (try clear hk); (try clear hi)))
    go_ret
    exact ⟨Z86, Z28⟩
   replace c7 := Bool.eq_false_iff.mpr c7
   subst c7
   rw [if_neg (show ¬ (false = true) from Z21)] at H
   have H' := am H
   clear H
   have p12 : 0 ≤ (x8_1 : Int) := of_decide_eq_true Z5
   have q12 : x8_1 < (l0.length : Int) := of_decide_eq_true Z5
   obtain ⟨ad12, A12_1, c12_1, e12, hx12_0, hx12_1, hl207_1, hi12_1⟩ := at_T53 HR0.out x8_1 p12 q12
   cases e12
   replace hx12_0 := (HB.out.cell (World.block_lt_of_cell? w _ hx12_0)).trans hx12_0
   replace hx12_1 := (HB.out.cell (World.block_lt_of_cell? w _ hx12_1)).trans hx12_1
   have HR12_1 := am hi12_1
   have HC12_1 := am hl207_1
   clear hi12_1 hl207_1
   replace p12 := eq_true p12
   replace q12 := eq_true q12
   go_wp2_with (first | ((with_reducible refine gate_via (t := 11) rfl ?_); refine goesC_ (some 16) rfl rfl (t := 11) Try.func48 Z90 rfl #[.agg #[.int .i64 ((rd_T53 l0 x8_1).f0), .slice A12_1 ((rd_T53 l0 x8_1).f1).length c12_1], .pointer (some ⟨g1_0, 0, none⟩)] rfl rfl Z91 ?_; (with_reducible refine (FF.calls k1 ((rd_T53 l0 x8_1).f0) _ _ ((rd_T53 l0 x8_1).f1) g1_0 a1_0 A1_1 c1_1 l1_1 A1_2 c1_2 l1_2 false _ ?side1 ?side2 ?side3 ?side4 ?side5 ?side6 ?side7 A6.out).mono ?_); (case side1 => exact (uK BK10)); (case side2 => exact uC HR12_1 HB); (case side3 => exact HC12_1.out); (case side4 => exact uC HR1_1 HB); (case side5 => exact HC1_1.out); (case side6 => exact uC HR1_2 HB); (case side7 => exact HC1_2.out); rintro e w9 ⟨rfl, hb⟩; refine ⟨_, rfl, ?_⟩; replace BK10 := kB BK10 hb; replace HB := am (below_step Z28 hb); (try clear hb); (try clear hb2); (try clear hk); (try clear hi)))
   go_roundg k1
   case measure => have := HK1.out; omega
   case rel => exact ⟨(wrap64 (x8_1 + 1)), Z87, H', ⟨by have := HK1.out; omega⟩, ⟨pb BK10⟩, ⟨Z28⟩⟩

/-! ### FD: function 47 -/
def FD.f (k : Nat) (l0 : List (S53)) (a1_0 : Int) (l1_1 : List (S53)) (l1_2 : List Bool) : Option (Bool) := (Fx.f k l0 a1_0 l1_1 l1_2).bind fun t3 => (some (decide (t3 ≥ 0)))
theorem FD.mono : ∀ a0 a1 a2 a3 k, LeO (FD.f k a0 a1 a2 a3) (FD.f (k + 1) a0 a1 a2 a3) := by
 intro a0 a1 a2 a3 k
 unfold FD.f
 repeat' first
   | with_reducible first | exact Fx.mono .. | exact LeO.refl _ | exact LeO.none _ | refine LeO.ite ?_ ?_ | refine LeO.bind ?_ (fun _ => ?_)
   | exact Fx.mono .. | exact LeO.none _ | refine LeO.ite ?_ ?_ | refine LeO.bind ?_ (fun _ => ?_)
theorem FD.calls (k : Nat) (A0 : Option Addr) (c0 : Nat) (l0 : List (S53)) (g1_0 : Nat) (a1_0 : Int) (A1_1 : Option Addr) (c1_1 : Nat) (l1_1 : List (S53)) (A1_2 : Option Addr) (c1_2 : Nat) (l1_2 : List Bool) (r : Bool) (w : World) (hb1_0 : w.heap[g1_0]? = some (.cells #[.int .i64 a1_0, .slice A1_1 l1_1.length c1_1, .slice A1_2 l1_2.length c1_2] 29 (0, 0))) (hr0 : Kd.C k53 w A0 l0.length l0) (hc0 : l0.length ≤ c0) (hr1_1 : Kd.C k53 w A1_1 l1_1.length l1_1) (hc1_1 : l1_1.length ≤ c1_1) (hr1_2 : Kd.C Kd.bool w A1_2 l1_2.length l1_2) (hc1_2 : l1_2.length ≤ c1_2) (h : FD.f k l0 a1_0 l1_1 l1_2 = some r) :
  Calls Try.prog 47 #[.slice A0 l0.length c0, .func (.func 48) #[] #[.pointer (some ⟨g1_0, 0, none⟩)]] w fun e w' => e = .returned (.bool r) ∧ Below w.heap.size w w' := by
 have HR0 := am hr0
 have HC0 := am hc0
 clear hr0 hc0
 have HR1_1 := am hr1_1
 have HC1_1 := am hc1_1
 clear hr1_1 hc1_1
 have HR1_2 := am hr1_2
 have HC1_2 := am hc1_2
 clear hr1_2 hc1_2
 have BK8 := am hb1_0
 clear hb1_0
 have HB := am (Below.refl w.heap.size w)
 have H : ((Fx.f k l0 a1_0 l1_1 l1_2).bind fun t9 => (some (decide (t9 ≥ 0)))) = some r := h
 clear h
 replace H := Option.bind_eq_some_iff.mp H
 obtain ⟨t9, A30, H⟩ := H
 try dsimp only at H
 have A3 := am A30
 clear A30
 obtain rfl := Option.some.inj H
 go_enter Try.func47, Try.ntmps47
 go_wp2_with (first | ((with_reducible refine gate_callee (f := 71) rfl ?_); refine goesL_ (some 7) rfl rfl Try.func71 Z90 rfl #[.slice A0 l0.length c0, .func (.func 48) #[] #[.pointer (some ⟨g1_0, 0, none⟩)]] rfl Z97 ?_; (with_reducible refine (Fx.calls k _ _ l0 g1_0 a1_0 A1_1 c1_1 l1_1 A1_2 c1_2 l1_2 t9 _ ?side1 ?side2 ?side3 ?side4 ?side5 ?side6 ?side7 A3.out).mono ?_); (case side1 => exact (uK BK8)); (case side2 => repeat (first | exact HR0.out | (with_reducible refine Kd.C_alloc ?_ _) | (with_reducible refine Kd.C_drewN ?_ _) | (with_reducible refine Kd.C_drew ?_))); (case side3 => exact HC0.out); (case side4 => repeat (first | exact HR1_1.out | (with_reducible refine Kd.C_alloc ?_ _) | (with_reducible refine Kd.C_drewN ?_ _) | (with_reducible refine Kd.C_drew ?_))); (case side5 => exact HC1_1.out); (case side6 => repeat (first | exact HR1_2.out | (with_reducible refine Kd.C_alloc ?_ _) | (with_reducible refine Kd.C_drewN ?_ _) | (with_reducible refine Kd.C_drew ?_))); (case side7 => exact HC1_2.out); rintro e w4 ⟨rfl, hb⟩; refine ⟨_, rfl, ?_⟩; replace BK8 := kB BK8 hb; replace HB := am (below_step Z71 hb); (try clear hb); (try clear hb2); (try clear hk); (try clear hi)))
 go_ret
 exact ⟨Z86, Z71⟩

/-! ### FC: function 26 -/
def FC.f (k : Nat) (a0_0 : Int) (l0_1 : List (S53)) (l0_2 : List Bool) : Option (Bool) := (FD.f k l0_1 a0_0 l0_1 l0_2).bind fun t3 => (if t3 = true then (some false) else ((FA.f a0_0 1 72).bind fun t4 => (if t4 = true then (if (l0_1.length : Int) ≤ 40 then (some ((l0_2.length : Int) == (l0_1.length : Int))) else (some false)) else (some false))))
theorem FC.mono : ∀ a0 a1 a2 k, LeO (FC.f k a0 a1 a2) (FC.f (k + 1) a0 a1 a2) := by
 intro a0 a1 a2 k
 unfold FC.f
 repeat' first
   | with_reducible first | exact FD.mono .. | exact LeO.refl _ | exact LeO.none _ | refine LeO.ite ?_ ?_ | refine LeO.bind ?_ (fun _ => ?_)
   | exact FD.mono .. | exact LeO.none _ | refine LeO.ite ?_ ?_ | refine LeO.bind ?_ (fun _ => ?_)
theorem FC.calls (k : Nat) (a0_0 : Int) (A0_1 : Option Addr) (c0_1 : Nat) (l0_1 : List (S53)) (A0_2 : Option Addr) (c0_2 : Nat) (l0_2 : List Bool) (r : Bool) (w : World) (hr0_1 : Kd.C k53 w A0_1 l0_1.length l0_1) (hc0_1 : l0_1.length ≤ c0_1) (hr0_2 : Kd.C Kd.bool w A0_2 l0_2.length l0_2) (hc0_2 : l0_2.length ≤ c0_2) (h : FC.f k a0_0 l0_1 l0_2 = some r) :
  Calls Try.prog 26 #[.agg #[.int .i64 a0_0, .slice A0_1 l0_1.length c0_1, .slice A0_2 l0_2.length c0_2]] w fun e w' => e = .returned (.bool r) ∧ Below w.heap.size w w' := by
 have hu29 := Try.underlying29
 have hmf : ∀ (fn : Fn) (first cap : Array Value) (w : World), (Instr.makeFunc fn first cap).run Try.prog w = .ok (.func fn first cap) w := fun _ _ _ _ => rfl
 have HR0_1 := am hr0_1
 have HC0_1 := am hc0_1
 clear hr0_1 hc0_1
 have HR0_2 := am hr0_2
 have HC0_2 := am hc0_2
 clear hr0_2 hc0_2
 have HB := am (Below.refl w.heap.size w)
 have H : ((FD.f k l0_1 a0_0 l0_1 l0_2).bind fun t22 => (if t22 = true then (some false) else ((FA.f a0_0 1 72).bind fun t23 => (if t23 = true then (if (l0_1.length : Int) ≤ 40 then (some ((l0_2.length : Int) == (l0_1.length : Int))) else (some false)) else (some false))))) = some r := h
 clear h
 replace H := Option.bind_eq_some_iff.mp H
 obtain ⟨t22, A20, H⟩ := H
 try dsimp only at H
 have A2 := am A20
 clear A20
 by_cases c3 : t22 = true
 ·
  subst c3
  rw [if_pos rfl] at H
  obtain rfl := Option.some.inj H
  go_enter Try.func26, Try.ntmps26
  go_wp2_with (first | ((with_reducible refine gate_dst (N := 1) rfl ?_); (try (refine gate_guard Z62 ?_; dsimp only)); refine box_event ?hg (N := 1) ?hd (cs := #[.int .i64 a0_0, .slice A0_1 l0_1.length c0_1, .slice A0_2 l0_2.length c0_2]) (t := 29) ?hr ?_; (case hd => rfl); (case hg => rfl); (case hr => exact Z88); intro gb24 hg w4 hbox hb; have BK24 := am (hbox); have GW24 := nG HB hg; have GE24 := nG HB hg; have GI24 := gI GE24; replace HB := am (below_step (uN HB) hb); clear hb hbox hg; obtain ⟨hcz5_0, hcz5_1, hcz5_2, hfz5_0, hfz5_1, hfz5_2⟩ := ce3 BK24) | ((with_reducible refine gate_callee (f := 47) rfl ?_); refine goesL_ (some 7) rfl rfl Try.func47 Z90 rfl #[.slice A0_1 l0_1.length c0_1, .func (.func 48) #[] #[.pointer (some ⟨gb24, 0, none⟩)]] rfl Z97 ?_; (with_reducible refine (FD.calls k _ _ l0_1 gb24 a0_0 A0_1 c0_1 l0_1 A0_2 c0_2 l0_2 true _ ?side1 ?side2 ?side3 ?side4 ?side5 ?side6 ?side7 A2.out).mono ?_); (case side1 => exact (uK BK24)); (case side2 => exact uC HR0_1 HB); (case side3 => exact HC0_1.out); (case side4 => exact uC HR0_1 HB); (case side5 => exact HC0_1.out); (case side6 => exact uC HR0_2 HB); (case side7 => exact HC0_2.out); rintro e w6 ⟨rfl, hb⟩; refine ⟨_, rfl, ?_⟩; replace BK24 := kB BK24 hb; replace HB := am (below_step Z27 hb); (try clear hb); (try clear hb2); (try clear hk); (try clear hi)))
  go_ret
  exact ⟨Z86, Z27⟩
 replace c3 := Bool.eq_false_iff.mpr c3
 subst c3
 rw [if_neg (show ¬ (false = true) from Z21)] at H
 replace H := Option.bind_eq_some_iff.mp H
 obtain ⟨t23, A70, H⟩ := H
 try dsimp only at H
 have A7 := am A70
 clear A70
 by_cases c8 : t23 = true
 rotate_left
 ·
  replace c8 := Bool.eq_false_iff.mpr c8
  subst c8
  rw [if_neg (show ¬ (false = true) from Z21)] at H
  obtain rfl := Option.some.inj H
  go_enter Try.func26, Try.ntmps26
  go_wp2_with (first | ((with_reducible refine gate_dst (N := 1) rfl ?_); (try (refine gate_guard Z62 ?_; dsimp only)); refine box_event ?hg (N := 1) ?hd (cs := #[.int .i64 a0_0, .slice A0_1 l0_1.length c0_1, .slice A0_2 l0_2.length c0_2]) (t := 29) ?hr ?_; (case hd => rfl); (case hg => rfl); (case hr => exact Z88); intro gb24 hg w18 hbox hb; have BK24 := am (hbox); have GW24 := nG HB hg; have GE24 := nG HB hg; have GI24 := gI GE24; replace HB := am (below_step (uN HB) hb); clear hb hbox hg; obtain ⟨hcz19_0, hcz19_1, hcz19_2, hfz19_0, hfz19_1, hfz19_2⟩ := ce3 BK24) | ((with_reducible refine gate_callee (f := 47) rfl ?_); refine goesL_ (some 7) rfl rfl Try.func47 Z90 rfl #[.slice A0_1 l0_1.length c0_1, .func (.func 48) #[] #[.pointer (some ⟨gb24, 0, none⟩)]] rfl Z97 ?_; (with_reducible refine (FD.calls k _ _ l0_1 gb24 a0_0 A0_1 c0_1 l0_1 A0_2 c0_2 l0_2 false _ ?side1 ?side2 ?side3 ?side4 ?side5 ?side6 ?side7 A2.out).mono ?_); (case side1 => exact (uK BK24)); (case side2 => exact uC HR0_1 HB); (case side3 => exact HC0_1.out); (case side4 => exact uC HR0_1 HB); (case side5 => exact HC0_1.out); (case side6 => exact uC HR0_2 HB); (case side7 => exact HC0_2.out); rintro e w20 ⟨rfl, hb⟩; refine ⟨_, rfl, ?_⟩; replace BK24 := kB BK24 hb; replace HB := am (below_step Z27 hb); (try clear hb); (try clear hb2); (try clear hk); (try clear hi); obtain ⟨hcz21_0, hcz21_1, hcz21_2, hfz21_0, hfz21_1, hfz21_2⟩ := ce3 BK24) | (go_at_call 50; (with_reducible refine (FA.calls a0_0 1 72 false _ A7.out).mono ?_); rintro e w' ⟨rfl, ⟨nd, rfl⟩⟩))
  go_ret
  exact ⟨Z86, Z27⟩
 subst c8
 rw [if_pos rfl] at H
 by_cases c9 : (l0_1.length : Int) ≤ 40
 ·
  rw [if_pos c9] at H
  have c9b0 := decide_eq_true c9
  have c9b1 : decide (l0_1.length ≤ 40) = true := decide_eq_true Z70
  clear c9
  obtain rfl := Option.some.inj H
  go_enter Try.func26, Try.ntmps26
  go_wp2_with (first | ((with_reducible refine gate_dst (N := 1) rfl ?_); (try (refine gate_guard Z62 ?_; dsimp only)); refine box_event ?hg (N := 1) ?hd (cs := #[.int .i64 a0_0, .slice A0_1 l0_1.length c0_1, .slice A0_2 l0_2.length c0_2]) (t := 29) ?hr ?_; (case hd => rfl); (case hg => rfl); (case hr => exact Z88); intro gb24 hg w10 hbox hb; have BK24 := am (hbox); have GW24 := nG HB hg; have GE24 := nG HB hg; have GI24 := gI GE24; replace HB := am (below_step (uN HB) hb); clear hb hbox hg; obtain ⟨hcz11_0, hcz11_1, hcz11_2, hfz11_0, hfz11_1, hfz11_2⟩ := ce3 BK24) | ((with_reducible refine gate_callee (f := 47) rfl ?_); refine goesL_ (some 7) rfl rfl Try.func47 Z90 rfl #[.slice A0_1 l0_1.length c0_1, .func (.func 48) #[] #[.pointer (some ⟨gb24, 0, none⟩)]] rfl Z97 ?_; (with_reducible refine (FD.calls k _ _ l0_1 gb24 a0_0 A0_1 c0_1 l0_1 A0_2 c0_2 l0_2 false _ ?side1 ?side2 ?side3 ?side4 ?side5 ?side6 ?side7 A2.out).mono ?_); (case side1 => exact (uK BK24)); (case side2 => exact uC HR0_1 HB); (case side3 => exact HC0_1.out); (case side4 => exact uC HR0_1 HB); (case side5 => exact HC0_1.out); (case side6 => exact uC HR0_2 HB); (case side7 => exact HC0_2.out); rintro e w12 ⟨rfl, hb⟩; refine ⟨_, rfl, ?_⟩; replace BK24 := kB BK24 hb; replace HB := am (below_step Z27 hb); (try clear hb); (try clear hb2); (try clear hk); (try clear hi); obtain ⟨hcz13_0, hcz13_1, hcz13_2, hfz13_0, hfz13_1, hfz13_2⟩ := ce3 BK24) | (go_at_call 50; (with_reducible refine (FA.calls a0_0 1 72 true _ A7.out).mono ?_); rintro e w' ⟨rfl, ⟨nd, rfl⟩⟩))
  go_ret
  exact ⟨Z86, Z27⟩
 rw [if_neg c9] at H
 have c9b0 := decide_eq_false c9
 have c9b1 : decide (l0_1.length ≤ 40) = false := decide_eq_false Z70
 clear c9
 obtain rfl := Option.some.inj H
 go_enter Try.func26, Try.ntmps26
 go_wp2_with (first | ((with_reducible refine gate_dst (N := 1) rfl ?_); (try (refine gate_guard Z62 ?_; dsimp only)); refine box_event ?hg (N := 1) ?hd (cs := #[.int .i64 a0_0, .slice A0_1 l0_1.length c0_1, .slice A0_2 l0_2.length c0_2]) (t := 29) ?hr ?_; (case hd => rfl); (case hg => rfl); (case hr => exact Z88); intro gb24 hg w14 hbox hb; have BK24 := am (hbox); have GW24 := nG HB hg; have GE24 := nG HB hg; have GI24 := gI GE24; replace HB := am (below_step (uN HB) hb); clear hb hbox hg; obtain ⟨hcz15_0, hcz15_1, hcz15_2, hfz15_0, hfz15_1, hfz15_2⟩ := ce3 BK24) | ((with_reducible refine gate_callee (f := 47) rfl ?_); refine goesL_ (some 7) rfl rfl Try.func47 Z90 rfl #[.slice A0_1 l0_1.length c0_1, .func (.func 48) #[] #[.pointer (some ⟨gb24, 0, none⟩)]] rfl Z97 ?_; (with_reducible refine (FD.calls k _ _ l0_1 gb24 a0_0 A0_1 c0_1 l0_1 A0_2 c0_2 l0_2 false _ ?side1 ?side2 ?side3 ?side4 ?side5 ?side6 ?side7 A2.out).mono ?_); (case side1 => exact (uK BK24)); (case side2 => exact uC HR0_1 HB); (case side3 => exact HC0_1.out); (case side4 => exact uC HR0_1 HB); (case side5 => exact HC0_1.out); (case side6 => exact uC HR0_2 HB); (case side7 => exact HC0_2.out); rintro e w16 ⟨rfl, hb⟩; refine ⟨_, rfl, ?_⟩; replace BK24 := kB BK24 hb; replace HB := am (below_step Z27 hb); (try clear hb); (try clear hb2); (try clear hk); (try clear hi); obtain ⟨hcz17_0, hcz17_1, hcz17_2, hfz17_0, hfz17_1, hfz17_2⟩ := ce3 BK24) | (go_at_call 50; (with_reducible refine (FA.calls a0_0 1 72 true _ A7.out).mono ?_); rintro e w' ⟨rfl, ⟨nd, rfl⟩⟩))
 go_ret
 exact ⟨Z86, Z27⟩

/-! ### FJ: function 27 -/
theorem FGa.rFK {α : Type} {d : Kd α} {e e' base : Nat} {ok : Nat → Prop} {W : World} {v : Value} {xs : List α} (h : d.R e W base ok v xs) : Kd.FK (Kd.slice e' d) W ok xs [v] := by
  obtain ⟨A, c, rfl⟩ := Kd.R_slice h
  exact Kd.FK_slice_mk (Kd.R_reads' h).2.1 (Kd.R_F h)
def FJ.f (l0 : List (List Bool)) : Option (List Bool) := if l0.flatten.length < 1000000 ∧ l0.length < 1000000 then some l0.flatten else none
shelf_lay_g Lays8.n4 Nm8 4 at Try 51 as growLays_bool
theorem Fca.calls (n : Nat) (hn : n < 1000000) (w0 w : World) (hB : Below w0.heap.size w0 w) : Calls Try.prog 51 #[.slice none 0 0, .int .i64 (n : Int)] w fun e w' => ∃ v0_ : Value, e = .returned v0_ ∧ Kd.R Kd.bool 4 w' w0.heap.size (fun _ => True) v0_ [] ∧ Below w0.heap.size w0 w' := by
  obtain ⟨i0, hi0, hz⟩ := Option.map_eq_some_iff.mp (show (Try.prog.info? 4).map (fun i => (i.zero, i.size, i.bytes)) = some (some (.bool false), 1, 1) from Z90)
  exact Go.Proofs.Ytgbpbhplehmedaa.Grows.grow_none growLays_bool Kd.bool i0 _ hi0 (by simpa using congrArg Prod.fst hz) (by have := congrArg (fun z => z.2.1) hz; exact this) (by have := congrArg (fun z => z.2.2) hz; simp at this; omega) rfl n Z70 w0 w hB
theorem FJ.calls (A0 : Option Addr) (c0 : Nat) (l0 : List (List Bool)) (r : List Bool) (w : World) (hr0 : Kd.C (Kd.slice 4 Kd.bool) w A0 l0.length l0) (hc0 : l0.length ≤ c0) (h : FJ.f l0 = some r) :
    Calls Try.prog 27 #[.slice A0 l0.length c0] w fun e w' => ∃ v0_ : Value, e = .returned (v0_) ∧ Kd.R Kd.bool 4 w' w.heap.size (fun _ => True) v0_ r ∧ Below w.heap.size w w' := by
  unfold FJ.f at h
  by_cases c : l0.flatten.length < 1000000 ∧ l0.length < 1000000
  case neg => rw [if_neg c] at h; cases h
  rw [if_pos c] at h
  have hN := c.2
  replace c := c.1
  obtain rfl := Option.some.inj h
  have HR0 := am hr0
  have HT := am c
  obtain ⟨tot, h0, hstep, hend, hle⟩ : ∃ tot : Nat → Nat, tot 0 = 0 ∧ (∀ n (h : n < l0.length), tot (n + 1) = tot n + l0[n].length) ∧ tot l0.length < 1000000 ∧ ∀ n, tot n ≤ tot l0.length :=
    ⟨fun n => (l0.take n).flatten.length, rfl, fun n h => Go.Proofs.Ytgbpbhplehmedaa.Grows.take_flat l0 n h, by show (l0.take l0.length).flatten.length < 1000000; rw [List.take_length]; exact c, fun n => by show (l0.take n).flatten.length ≤ (l0.take l0.length).flatten.length; rw [List.take_length]; exact Go.Proofs.Ytgbpbhplehmedaa.Grows.take_flat_le l0 n⟩
  have H0 := am h0
  have HS := am hstep
  have HE := am hend
  have HL := am hle
  clear h hr0 c hc0 h0 hstep hend hle
  have HB0 := am (Below.refl w.heap.size w)
  go_enter Try.func27, Try.ntmps27
  go_wp2
  go_loopw [3, 11] (fun sz i wr => ∃ n : Nat, Aside0 (n ≤ l0.length) ∧ sz = .int .i64 ((tot n : Nat) : Int) ∧ i = .int .i64 (n : Int) ∧ Aside0 (Below w.heap.size w wr)) (fun _ i _ => l0.length - (intOf i).toNat)
  case atStart => exact ⟨0, ⟨Nat.zero_le _⟩, by rw [H0.out]; rfl, rfl, HB0⟩
  case round =>
    obtain ⟨n, hn, rfl, rfl, hB⟩ := hrel
    by_cases c : n < l0.length
    · obtain ⟨ad, A', c', eA, hx, hl', hC⟩ := Go.Proofs.Ytgbpbhplehmedaa.Grows.at_rows HR0.out n c
      cases eA
      replace hx := (hB.out.cell (World.block_lt_of_cell? w _ hx)).trans hx
      clear hC hl'
      have e1 := HS.out n c
      have e2 := HL.out (n + 1)
      have e3 := HE.out
      have hs : wrap64 (((tot n : Nat) : Int) + ((l0[n].length : Nat) : Int)) = ((tot (n + 1) : Nat) : Int) := Go.Proofs.Ytgbpbhplehmedaa.Grows.add_w e1 Z70
      have c1 : decide (((tot (n + 1) : Nat) : Int) < 0) = false := decide_eq_false Z70
      have c2 := eq_true c
      clear e1 e2 e3
      generalize l0[n].length = q at *
      go_wp2
      go_roundw
      case rel => exact ⟨n + 1, ⟨c⟩, congrArg (Value.int .i64) hs, by go_num, hB⟩
      case measure => simp [intOf]; omega
    · obtain rfl : n = l0.length := by have := hn.out; omega
      have c3 := eq_false c
      clear c
      go_wp2_with (go_at_call 51; refine (Fca.calls (tot l0.length) HE.out w _ hB.out).mono ?_; rintro e w1 ⟨v, rfl, ho, hb⟩; have HO := am ho; have HB1 := am hb; clear ho hb)
      clear hB hn
      go_loopw [6, 27] (fun v i wr => ∃ n : Nat, Aside0 (n ≤ l0.length) ∧ i = .int .i64 (n : Int) ∧ Aside0 (Kd.R Kd.bool 4 wr w.heap.size (fun _ => True) v (l0.take n).flatten) ∧ Aside0 (Below w.heap.size w wr)) (fun _ i _ => l0.length - (intOf i).toNat)
      case atStart => exact ⟨0, ⟨Nat.zero_le _⟩, rfl, ⟨HO.out⟩, HB1⟩
      case round =>
        obtain ⟨n, hn, rfl, HV, HB2⟩ := hrel
        by_cases c : n < l0.length
        · obtain ⟨ad, A', c', eA, hx, hl', hC⟩ := Go.Proofs.Ytgbpbhplehmedaa.Grows.at_rows HR0.out n c
          cases eA
          replace hx := (HB2.out.cell (World.block_lt_of_cell? w _ hx)).trans hx
          have HC := am (Kd.C_below hC HB2.out)
          have HLen := am (Go.Proofs.Ytgbpbhplehmedaa.Grows.flat_fits l0 n c HT.out 1)
          have HF := am (Go.Proofs.Ytgbpbhplehmedaa.Grows.take_flat_eq l0 n c)
          have c2 := eq_true c
          clear hC hl'
          rename_i v
          generalize l0[n] = row at *
          generalize (l0.take n).flatten = xs at *
          go_wp2_with ((with_reducible refine gate_builtin (b := .append) (xs := #[.tmp 31, .tmp 32]) rfl ?_); at_builtin; refine Kd.R_append_rows Kd.bool (w0 := w) w.heap.size rfl (.tmp 31) (.tmp 32) 23 4 (.bool false) 1 rfl Try.underlying23 info4 rfl Z21 Z70 _ xs row A' _ c' (fun _ => True) (fun _ => False) rfl rfl ?aO ?aR (fun _ _ h => h) (fun _ h => h.elim) ?aF ?aB ?aS ?aL ?_; (case aO => exact HV.out); (case aR => exact HC.out); (case aF => exact (fun _ _ => trivial)); (case aB => exact HB2.out); (case aS => exact HB2.out.size); (case aL => exact HLen.out); intro v1 w5 ho hb hg hat; have HV1 := am ho; have HB3 := am hb; clear ho hb hg hat)
          go_roundw
          case rel => exact ⟨n + 1, ⟨c⟩, by go_num, ⟨by rw [HF.out]; exact HV1.out⟩, HB3⟩
          case measure => simp [intOf]; omega
        · obtain rfl : n = l0.length := by have := hn.out; omega
          have c4 := eq_false c
          clear c
          go_wp2
          go_ret
          exact ⟨_, rfl, by have := HV.out; rw [List.take_length] at this; exact this, HB2.out⟩


/-! ### FM: function 28 -/
def FM.f (l0 : List (List S53)) : Option (List S53) := if l0.flatten.length < 1000000 ∧ l0.length < 1000000 then some l0.flatten else none
def growRen_Bits : Go.Shelf.Ren := ⟨fun n => if n = 4 then 52 else n, fun n => if n = 22 then 27 else if n = 25 then 53 else n, fun n => n⟩
theorem growLays_Bits : Go.Proofs.Lays8.n4 Try.prog growRen_Bits :=
  { mixed := Z90, f4 := ⟨"slices.Grow[[]loop.example/g01097/impl.Bits,loop.example/g01097/impl.Bits]", Z62, Try.func52.trans Z90⟩, t0 := Try.underlying0, a0 := Try.isAgg0, z0 := Try.sizeOf0, v0 := Try.zeroValue0, t3 := Try.underlying3, a3 := Try.isAgg3, z3 := Try.sizeOf3, v3 := Try.zeroValue3, t4 := Try.underlying4, a4 := Try.isAgg4, z4 := Try.sizeOf4, v4 := Try.zeroValue4, t9 := Try.underlying9, a9 := Try.isAgg9, z9 := Try.sizeOf9, v9 := Try.zeroValue9, t20 := Try.underlying20, a20 := Try.isAgg20, z20 := Try.sizeOf20, v20 := Try.zeroValue20, t22 := Try.underlying27, a22 := Try.isAgg27, z22 := Try.sizeOf27, v22 := Try.zeroValue27 }
theorem Fda.calls (n : Nat) (hn : n < 1000000) (w0 w : World) (hB : Below w0.heap.size w0 w) : Calls Try.prog 52 #[.slice none 0 0, .int .i64 (n : Int)] w fun e w' => ∃ v0_ : Value, e = .returned v0_ ∧ Kd.R k53 53 w' w0.heap.size (fun _ => True) v0_ [] ∧ Below w0.heap.size w0 w' := by
  obtain ⟨i0, hi0, hz⟩ := Option.map_eq_some_iff.mp (show (Try.prog.info? 53).map (fun i => (i.zero, i.size, i.bytes)) = some (some (.agg #[.int .i64 0, .slice none 0 0]), 2, 32) from Z90)
  exact Go.Proofs.Ytgbpbhplehmedaa.Grows.grow_none growLays_Bits k53 i0 _ hi0 (by simpa using congrArg Prod.fst hz) (by have := congrArg (fun z => z.2.1) hz; exact this) (by have := congrArg (fun z => z.2.2) hz; simp at this; omega) rfl n Z70 w0 w hB
theorem FM.calls (P0_ : Nat → Prop) (A0 : Option Addr) (c0 : Nat) (l0 : List (List (S53))) (r : List (S53)) (w : World) (hs0 : Kd.V (Kd.slice 53 k53) 27 w w.heap.size (fun k_ => P0_ k_) (.slice A0 l0.length c0) l0) (h : FM.f l0 = some r) :
    Calls Try.prog 28 #[.slice A0 l0.length c0] w fun e w' => ∃ v0_ : Value, e = .returned (v0_) ∧ Kd.V k53 53 w' w.heap.size (fun k_ => (P0_ k_ ∨ w.heap.size ≤ k_)) v0_ r ∧ Below w.heap.size w w' := by
  unfold FM.f at h
  by_cases c : l0.flatten.length < 1000000 ∧ l0.length < 1000000
  case neg => rw [if_neg c] at h; cases h
  rw [if_pos c] at h
  have hN := c.2
  replace c := c.1
  obtain rfl := Option.some.inj h
  have HF := am (Kd.F_bound (Kd.V_at hs0).2.2)
  have HT := am c
  obtain ⟨tot, h0, hstep, hend, hle⟩ : ∃ tot : Nat → Nat, tot 0 = 0 ∧ (∀ n (h : n < l0.length), tot (n + 1) = tot n + l0[n].length) ∧ tot l0.length < 1000000 ∧ ∀ n, tot n ≤ tot l0.length :=
    ⟨fun n => (l0.take n).flatten.length, rfl, fun n h => Go.Proofs.Ytgbpbhplehmedaa.Grows.take_flat l0 n h, by show (l0.take l0.length).flatten.length < 1000000; rw [List.take_length]; exact c, fun n => by show (l0.take n).flatten.length ≤ (l0.take l0.length).flatten.length; rw [List.take_length]; exact Go.Proofs.Ytgbpbhplehmedaa.Grows.take_flat_le l0 n⟩
  have H0 := am h0
  have HS := am hstep
  have HE := am hend
  have HL := am hle
  clear h hs0 c h0 hstep hend hle
  have HB0 := am (Below.refl w.heap.size w)
  go_enter Try.func28, Try.ntmps28
  go_wp2
  go_loopw [3, 11] (fun sz i wr => ∃ n : Nat, Aside0 (n ≤ l0.length) ∧ sz = .int .i64 ((tot n : Nat) : Int) ∧ i = .int .i64 (n : Int) ∧ Aside0 (Below w.heap.size w wr)) (fun _ i _ => l0.length - (intOf i).toNat)
  case atStart => exact ⟨0, ⟨Nat.zero_le _⟩, by rw [H0.out]; rfl, rfl, HB0⟩
  case round =>
    obtain ⟨n, hn, rfl, rfl, hB⟩ := hrel
    by_cases c : n < l0.length
    · obtain ⟨ad, A', c', eA, hx, hl', hC⟩ := Go.Proofs.Ytgbpbhplehmedaa.Grows.at_rowsF HF.out n c
      cases eA
      replace hx := (hB.out.cell (World.block_lt_of_cell? w _ hx)).trans hx
      clear hC hl'
      have e1 := HS.out n c
      have e2 := HL.out (n + 1)
      have e3 := HE.out
      have hs : wrap64 (((tot n : Nat) : Int) + ((l0[n].length : Nat) : Int)) = ((tot (n + 1) : Nat) : Int) := Go.Proofs.Ytgbpbhplehmedaa.Grows.add_w e1 Z70
      have c1 : decide (((tot (n + 1) : Nat) : Int) < 0) = false := decide_eq_false Z70
      have c2 := eq_true c
      clear e1 e2 e3
      generalize l0[n].length = q at *
      go_wp2
      go_roundw
      case rel => exact ⟨n + 1, ⟨c⟩, congrArg (Value.int .i64) hs, by go_num, hB⟩
      case measure => simp [intOf]; omega
    · obtain rfl : n = l0.length := by have := hn.out; omega
      have c3 := eq_false c
      clear c
      go_wp2_with (go_at_call 52; refine (Fda.calls (tot l0.length) HE.out w _ hB.out).mono ?_; rintro e w1 ⟨v, rfl, ho, hb⟩; have HO := am ho; have HB1 := am hb; clear ho hb)
      clear hB hn
      go_loopw [6, 27] (fun v i wr => ∃ n : Nat, Aside0 (n ≤ l0.length) ∧ i = .int .i64 (n : Int) ∧ Aside0 (Kd.N k53 53 wr w.heap.size (fun k_ => P0_ k_ ∨ w.heap.size ≤ k_) v (l0.take n).flatten) ∧ Aside0 (Below w.heap.size w wr)) (fun _ i _ => l0.length - (intOf i).toNat)
      case atStart => exact ⟨0, ⟨Nat.zero_le _⟩, rfl, ⟨Kd.N_mono (Kd.R_N (Kd.R_mono (Kd.R_bound HO.out) (fun k hk => (.inr hk.2.1 : P0_ k ∨ w.heap.size ≤ k)))) (fun _ hk => hk)⟩, HB1⟩
      case round =>
        obtain ⟨n, hn, rfl, HV, HB2⟩ := hrel
        by_cases c : n < l0.length
        · obtain ⟨ad, A', c', eA, hx, hl', hC⟩ := Go.Proofs.Ytgbpbhplehmedaa.Grows.at_rowsF HF.out n c
          cases eA
          replace hx := (HB2.out.cell (World.block_lt_of_cell? w _ hx)).trans hx
          have HC := am (Kd.F_below hC HB2.out)
          have HLen := am (Go.Proofs.Ytgbpbhplehmedaa.Grows.flat_fits l0 n c HT.out 32)
          have HF := am (Go.Proofs.Ytgbpbhplehmedaa.Grows.take_flat_eq l0 n c)
          have c2 := eq_true c
          clear hC hl'
          rename_i v
          generalize l0[n] = row at *
          generalize (l0.take n).flatten = xs at *
          go_wp2_with ((with_reducible refine gate_builtin (b := .append) (xs := #[.tmp 31, .tmp 32]) rfl ?_); at_builtin; refine Kd.N_append_rows k53 (w0 := w) w.heap.size rfl (.tmp 31) (.tmp 32) 27 53 (.agg #[.int .i64 0, .slice none 0 0]) 32 rfl Try.underlying27 info53 rfl Z21 Z70 _ xs row A' _ c' (fun k_ => P0_ k_ ∨ w.heap.size ≤ k_) (fun k_ => P0_ k_ ∧ k_ < w.heap.size) rfl rfl ?aO ?aR ?aK ?aF ?aB ?aS ?aL ?_; (case aK => exact (fun k hk => ⟨.inl hk.1, fun he => by have := Kd.N_base HV.out k he.symm; have := hk.2; omega⟩)); (case aO => exact HV.out); (case aR => exact HC.out); (case aF => exact (fun k hk => .inr (Nat.le_trans HB2.out.size hk))); (case aB => exact HB2.out); (case aS => exact HB2.out.size); (case aL => exact HLen.out); intro v1 w5 ho hb hg hat; have HV1 := am ho; have HB3 := am hb; clear ho hb hg hat)
          go_roundw
          case rel => exact ⟨n + 1, ⟨c⟩, by go_num, ⟨by rw [HF.out]; exact HV1.out⟩, HB3⟩
          case measure => simp [intOf]; omega
        · obtain rfl : n = l0.length := by have := hn.out; omega
          have c4 := eq_false c
          clear c
          go_wp2
          go_ret
          have hv := HV.out
          rw [List.take_length] at hv
          obtain ⟨A9, c9, rfl⟩ := Kd.N_slice hv
          exact ⟨_, rfl, Kd.V_mk (Kd.N_reads' hv).2.1 (Kd.N_F hv), HB2.out⟩


end Go.Proofs.Ytgbpbhplehmedaa.PFnExactJoinSystems
