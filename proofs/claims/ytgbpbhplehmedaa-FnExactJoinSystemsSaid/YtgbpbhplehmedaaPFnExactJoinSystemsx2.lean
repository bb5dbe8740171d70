-- made by wip/tools/myprint.py over the kit's print, for this claim
import Derived.Test.YtgbpbhplehmedaaPFnExactJoinSystemsx0
import Derived.Test.YtgbpbhplehmedaaPFnExactJoinSystemsx1
namespace Go.Proofs.Ytgbpbhplehmedaa.PFnExactJoinSystems
open Go.RowKit Go.Proofs.YtgbpbhplehmedaaW.PrintWords Go.Proofs.YtgbpbhplehmedaaW.PrintLast Go.Proofs.YtgbpbhplehmedaaW.PrintMore
open List (setIfInBounds_toArray set_cons_zero set_cons_succ)
attribute [local go_sem] max2_int min2_int max_two min_two max_three min_three max_four min_four   -- for this text's walks alone
set_option linter.unusedVariables false
set_option linter.unusedSimpArgs false

set_option maxHeartbeats 8000000
set_option maxRecDepth 100000
/-! ### Fd: function 23 -/
mutual
def Fd.j0 : Nat → Bool → Int → List (S53) → List Bool → Option (Bool)
 | 0, _, _, _, _ => none
 | k + 1, x23, x1, x2, x3 => if x23 = true then (some false) else (Fd.l0 k x2 (x2.length : Int) 0 x1 x2 x3)
def Fd.l0 : Nat → List (S53) → Int → Int → Int → List (S53) → List Bool → Option (Bool)
 | 0, _, _, _, _, _, _ => none
 | k + 1, x25, x26, x27, x2, x3, x4 => if x27 < x26 then (if 0 ≤ x27 then (if x27 < (x25.length : Int) then ((FE.f k ((rd_T53 x25 x27).f0) ((rd_T53 x25 x27).f1)).bind fun t5 => (if t5 = true then (if ((rd_T53 x25 x27).f0) = x2 then (Fd.l0 k x25 x26 (wrap64 (x27 + 1)) x2 x3 x4) else (some false)) else (some false))) else (none)) else (none)) else (some true)
end
def Fd.f (k : Nat) (a0_0 : Int) (l0_1 : List (S53)) (l0_2 : List Bool) : Option (Bool) := (Fw.f a0_0 1 72).bind fun t3 => (if t3 = true then (if (l0_1.length : Int) > 40 then (Fd.j0 k true a0_0 l0_1 l0_2) else (Fd.j0 k ((l0_2.length : Int) != (l0_1.length : Int)) a0_0 l0_1 l0_2)) else (Fd.j0 k true a0_0 l0_1 l0_2))
theorem Fd.mono_l : ∀ k, (∀ y0 y1 y2 y3, LeO (Fd.j0 k y0 y1 y2 y3) (Fd.j0 (k + 1) y0 y1 y2 y3)) ∧ (∀ y0 y1 y2 y3 y4 y5, LeO (Fd.l0 k y0 y1 y2 y3 y4 y5) (Fd.l0 (k + 1) y0 y1 y2 y3 y4 y5))
 | 0 => ⟨fun _ _ _ _ r h => by simp [Fd.j0] at h, fun _ _ _ _ _ _ r h => by simp [Fd.l0] at h⟩ | k + 1 => by
  obtain ⟨ih0, ih1⟩ := Fd.mono_l k
  refine ⟨?_, ?_⟩
  ·
   intro y0 y1 y2 y3
   unfold Fd.j0
   exact Mo2
  intro y0 y1 y2 y3 y4 y5
  unfold Fd.l0
  exact Mo2
theorem Fd.mono : ∀ a0 a1 a2 k, LeO (Fd.f k a0 a1 a2) (Fd.f (k + 1) a0 a1 a2) := by
 intro a0 a1 a2 k
 obtain ⟨ih0, ih1⟩ := Fd.mono_l k
 unfold Fd.f
 exact Mo2
theorem Fd.calls (k : Nat) (a0_0 : Int) (A0_1 : Option Addr) (c0_1 : Nat) (l0_1 : List (S53)) (A0_2 : Option Addr) (c0_2 : Nat) (l0_2 : List Bool) (r : Bool) (w : World) (hr0_1 : Kd.C k53 w A0_1 l0_1.length l0_1) (hc0_1 : l0_1.length ≤ c0_1) (hr0_2 : Kd.C Kd.bool w A0_2 l0_2.length l0_2) (hc0_2 : l0_2.length ≤ c0_2) (h : Fd.f k a0_0 l0_1 l0_2 = some r) :
  Calls Try.prog 23 #[.agg #[.int .i64 a0_0, .slice A0_1 l0_1.length c0_1, .slice A0_2 l0_2.length c0_2]] w fun e w' => e = .returned (.bool r) ∧ Below w.heap.size w w' := by
 have hu29 := Try.underlying29
 have hu53 := Try.underlying53
 have HR0_1 := am hr0_1
 have HC0_1 := am hc0_1
 clear hr0_1 hc0_1
 have HR0_2 := am hr0_2
 have HC0_2 := am hc0_2
 clear hr0_2 hc0_2
 have HB := am (Below.refl w.heap.size w)
 have H : ((Fw.f a0_0 1 72).bind fun t34 => (if t34 = true then (if (l0_1.length : Int) > 40 then (Fd.j0 k true a0_0 l0_1 l0_2) else (Fd.j0 k ((l0_2.length : Int) != (l0_1.length : Int)) a0_0 l0_1 l0_2)) else (Fd.j0 k true a0_0 l0_1 l0_2))) = some r := h
 clear h
 have HC2 := am H
 clear H
 go_enter Try.func23, Try.ntmps23
 go_upto_region 1 with (first | ((with_reducible refine gate_dst (N := 1) rfl ?_); (try (refine gate_guard Z62 ?_; dsimp only)); refine box_event ?hg (N := 1) ?hd (cs := #[.int .i64 a0_0, .slice A0_1 l0_1.length c0_1, .slice A0_2 l0_2.length c0_2]) (t := 29) ?hr ?_; (case hd => rfl); (case hg => rfl); (case hr => exact Z88); intro gb35 hg w3 hbox hb; have BK35 := am (hbox); have GW35 := nG HB hg; have GE35 := nG HB hg; have GI35 := gI GE35; replace HB := am (below_step (uN HB) hb); clear hb hbox hg))
 (try simp only [Act.put, setIfInBounds_toArray, set_cons_zero, set_cons_succ])
 go_cut [23] (fun v23 wc => ∃ (kq : Nat) (x23_1 : Bool), v23 = .bool x23_1 ∧ Aside0 (Fd.j0 kq x23_1 a0_0 l0_1 l0_2 = some r) ∧ Aside0 (kq ≤ k) ∧ Aside0 (wc.heap[gb35]? = some (.cells #[.int .i64 a0_0, (.slice A0_1 l0_1.length c0_1), (.slice A0_2 l0_2.length c0_2)] 29 (0, 0))) ∧ Aside0 (Below w.heap.size w wc))
 case first =>
  have H := HC2.out
  clear HC2
  replace H := Option.bind_eq_some_iff.mp H
  obtain ⟨t34, A40, H⟩ := H
  try dsimp only at H
  have A4 := am A40
  clear A40
  by_cases c5 : t34 = true
  rotate_left
  ·
   replace c5 := Bool.eq_false_iff.mpr c5
   subst c5
   rw [if_neg (show ¬ (false = true) from Z21)] at H
   have H' := am H
   clear H
   obtain ⟨hcz9_0, hcz9_1, hcz9_2, hfz9_0, hfz9_1, hfz9_2⟩ := ce3 BK35
   go_wp2_with (first | ((with_reducible refine gate_callee (f := 43) rfl ?_); refine gL 7 rfl Try.func43 #[.int .i64 a0_0, .int .i64 1, .int .i64 72] ?_; (with_reducible refine (Fw.calls a0_0 1 72 false _ A4.out).mono ?_); rintro e w' ⟨rfl, ⟨nd, rfl⟩⟩; refine ⟨_, rfl, ?_⟩))
   go_meet
   case rel => exact ⟨_, (true), Z87, H', ⟨Z93⟩, ⟨pb BK35⟩, ⟨Z6⟩⟩
  subst c5
  rw [if_pos rfl] at H
  by_cases c6 : (l0_1.length : Int) > 40
  ·
   rw [if_pos c6] at H
   have c6b0 := decide_eq_true c6
   have c6b1 : decide (40 < l0_1.length) = true := decide_eq_true Z70
   clear c6
   (first | rw [c6b0] | (simp only [i64_w, i32_w]; rw [c6b0]) | skip)
   have H' := am H
   clear H
   obtain ⟨hcz7_0, hcz7_1, hcz7_2, hfz7_0, hfz7_1, hfz7_2⟩ := ce3 BK35
   go_wp2_with (first | ((with_reducible refine gate_callee (f := 43) rfl ?_); refine gL 7 rfl Try.func43 #[.int .i64 a0_0, .int .i64 1, .int .i64 72] ?_; (with_reducible refine (Fw.calls a0_0 1 72 true _ A4.out).mono ?_); rintro e w' ⟨rfl, ⟨nd, rfl⟩⟩; refine ⟨_, rfl, ?_⟩))
   go_meet
   case rel => exact ⟨_, (true), Z87, H', ⟨Z93⟩, ⟨pb BK35⟩, ⟨Z6⟩⟩
  rw [if_neg c6] at H
  have c6b0 := decide_eq_false c6
  have c6b1 : decide (40 < l0_1.length) = false := decide_eq_false Z70
  clear c6
  (first | rw [c6b0] | (simp only [i64_w, i32_w]; rw [c6b0]) | skip)
  have H' := am H
  clear H
  obtain ⟨hcz8_0, hcz8_1, hcz8_2, hfz8_0, hfz8_1, hfz8_2⟩ := ce3 BK35
  go_wp2_with (first | ((with_reducible refine gate_callee (f := 43) rfl ?_); refine gL 7 rfl Try.func43 #[.int .i64 a0_0, .int .i64 1, .int .i64 72] ?_; (with_reducible refine (Fw.calls a0_0 1 72 true _ A4.out).mono ?_); rintro e w' ⟨rfl, ⟨nd, rfl⟩⟩; refine ⟨_, rfl, ?_⟩))
  go_meet
  case rel => exact ⟨_, (((l0_2.length : Int) != (l0_1.length : Int))), Z87, H', ⟨Z93⟩, ⟨pb BK35⟩, ⟨Z6⟩⟩
 case rest =>
  clear HC2
  try clear c2
  try clear p2
  try clear c4
  try clear c5
  try clear c6
  try clear c6b0
  try clear c6b1
  try clear hcz7_0 hcz7_1 hcz7_2 hcz8_0 hcz8_1 hcz8_2 hcz9_0 hcz9_1 hcz9_2
  try clear hfz7_0 hfz7_1 hfz7_2 hfz8_0 hfz8_1 hfz8_2 hfz9_0 hfz9_1 hfz9_2
  obtain ⟨kq, x23_1, rfl, HA, HJ1, BK35, HB⟩ := hcut
  cases kq with
  | zero => exact absurd HA.out (by simp [Fd.j0])
  | succ kj1 =>
   have H := HA.out
   clear HA
   simp only [Fd.j0] at H
   by_cases c10 : x23_1 = true
   ·
    subst c10
    rw [if_pos rfl] at H
    obtain rfl := Option.some.inj H
    go_wp2
    go_ret
    exact ⟨Z86, Z6⟩
   replace c10 := Bool.eq_false_iff.mpr c10
   subst c10
   rw [if_neg (show ¬ (false = true) from Z21)] at H
   have H' := am H
   clear H
   obtain ⟨hcz11_0, hcz11_1, hcz11_2, hfz11_0, hfz11_1, hfz11_2⟩ := ce3 BK35
   go_wp2
   go_loopg [27] kj1 (fun kq v27 w' => ∃ (x27_2 : Int), v27 = .int .i64 x27_2 ∧ Aside0 (Fd.l0 kq l0_1 (l0_1.length : Int) x27_2 a0_0 l0_1 l0_2 = some r) ∧ Aside0 (kq ≤ kj1) ∧ Aside0 (w'.heap[gb35]? = some (.cells #[.int .i64 a0_0, (.slice A0_1 l0_1.length c0_1), (.slice A0_2 l0_2.length c0_2)] 29 (0, 0))) ∧ Aside0 (Below w.heap.size w w'))
   case atStart => exact ⟨(0), Z87, H', ⟨Nat.le_refl _⟩, ⟨pb BK35⟩, ⟨Z6⟩⟩
   case round =>
    clear H'
    try clear c1
    try clear c2
    try clear p2
    try clear c4
    try clear c5
    try clear c6
    try clear c6b0
    try clear c6b1
    try clear c10
    try clear hcz11_0 hcz11_1 hcz11_2 hcz7_0 hcz7_1 hcz7_2 hcz8_0 hcz8_1 hcz8_2 hcz9_0 hcz9_1 hcz9_2
    try clear hfz11_0 hfz11_1 hfz11_2 hfz7_0 hfz7_1 hfz7_2 hfz8_0 hfz8_1 hfz8_2 hfz9_0 hfz9_1 hfz9_2
    try clear p2
    obtain ⟨x27_2, rfl, HA, HK2, BK35, HB⟩ := hrel
    cases gk with
    | zero => exact absurd HA.out (by simp [Fd.l0])
    | succ k2 =>
     have H := HA.out
     clear HA
     simp only [Fd.l0] at H
     by_cases c12 : x27_2 < (l0_1.length : Int)
     rotate_left
     ·
      rw [if_neg c12] at H
      have c12b0 := decide_eq_false c12
      clear c12
      obtain rfl := Option.some.inj H
      go_wp2
      go_ret
      exact ⟨Z86, Z6⟩
     rw [if_pos c12] at H
     have c12b0 := decide_eq_true c12
     clear c12
     by_cases c13 : 0 ≤ x27_2
     rotate_left
     ·
      rw [if_neg c13] at H
      exact absurd H Z65
     rw [if_pos c13] at H
     have c13b0 := decide_eq_true c13
     clear c13
     by_cases c14 : x27_2 < (l0_1.length : Int)
     rotate_left
     ·
      rw [if_neg c14] at H
      exact absurd H Z65
     rw [if_pos c14] at H
     have c14b0 := decide_eq_true c14
     clear c14
     replace H := Option.bind_eq_some_iff.mp H
     obtain ⟨t36, A37, H⟩ := H
     try dsimp only at H
     have A15 := am A37
     clear A37
     by_cases c16 : t36 = true
     ·
      subst c16
      rw [if_pos rfl] at H
      by_cases c17 : ((rd_T53 l0_1 x27_2).f0) = a0_0
      ·
       rw [if_pos c17] at H
       have c17b0 : (((rd_T53 l0_1 x27_2).f0) == a0_0) = true := beq_iff_eq.mpr c17
       have c17b1 : (((rd_T53 l0_1 x27_2).f0) != a0_0) = false := bne_eq_false_iff_eq.mpr c17
       clear c17
       have H' := am H
       clear H
       have p38 : 0 ≤ (x27_2 : Int) := of_decide_eq_true Z5
       have q38 : x27_2 < (l0_1.length : Int) := of_decide_eq_true Z5
       obtain ⟨ad38, A38_1, c38_1, e38, hx38_0, hx38_1, hl116_1, hi38_1⟩ := at_T53 HR0_1.out x27_2 p38 q38
       cases e38
       replace hx38_0 := (HB.out.cell (World.block_lt_of_cell? w _ hx38_0)).trans hx38_0
       replace hx38_1 := (HB.out.cell (World.block_lt_of_cell? w _ hx38_1)).trans hx38_1
       have HR38_1 := am hi38_1
       have HC38_1 := am hl116_1
       clear hi38_1 hl116_1
       replace p38 := eq_true p38
       replace q38 := eq_true q38
       go_wp2_with (first | ((with_reducible refine gate_dst (N := 4) rfl ?_); (try (refine gate_guard Z62 ?_; dsimp only)); refine box_event ?hg (N := 4) ?hd (cs := #[.int .i64 0, .slice none 0 0]) (t := 53) ?hr ?_; (case hd => rfl); (case hg => rfl); (case hr => exact Z88); intro gb39 hg w18 hbox hb; have BK39 := am (hbox); have GW39 := am ((by rw [hg]; exact (below_size Z6) : w.heap.size ≤ gb39)); have GE39 := am ((by rw [hg]; exact (below_size Z6) : w.heap.size ≤ gb39)); replace HB := am (below_step Z6 hb); have NB35_39 := nL BK35 hg; have NB39_35 := nR BK35 hg; replace BK35 := kB BK35 hb; clear hb hbox hg; have hnb19 := NB39_35.out; have hnc19 := NB35_39.out; obtain ⟨hcz20_0, hcz20_1, hfz20_0, hfz20_1⟩ := ce2 BK39) | ((with_reducible refine gate_callee (f := 44) rfl ?_); refine gL 32 rfl Try.func44 #[.agg #[.int .i64 ((rd_T53 l0_1 x27_2).f0), .slice A38_1 ((rd_T53 l0_1 x27_2).f1).length c38_1]] ?_; (with_reducible refine (FE.calls k2 ((rd_T53 l0_1 x27_2).f0) _ _ ((rd_T53 l0_1 x27_2).f1) true _ ?side1 ?side2 A15.out).mono ?_); (case side1 => exact Kd.C_below HR38_1.out Z15); (case side2 => exact HC38_1.out); rintro e w21 ⟨rfl, hb⟩; refine ⟨_, rfl, ?_⟩; replace BK35 := am (blk_below (g := gb35) (o := .cells #[.int .i64 a0_0, .slice (some ad38) l0_1.length c0_1, .slice A0_2 l0_2.length c0_2] 29 (0, 0)) (pf NB35_39 (pf NB35_39 (pb BK35))) hb); replace BK39 := am (blk_below (g := gb39) (o := .cells #[.int .i64 ((rd_T53 l0_1 x27_2).f0), .slice A38_1 ((rd_T53 l0_1 x27_2).f1).length c38_1] 53 (0, 0)) (pT (pp 1 (pp 0 (pb BK39)))) hb); replace HB := am (below_step Z15 hb); (try clear hb); (try clear hb2); (try clear hk); (try clear hi); obtain ⟨hcz22_0, hcz22_1, hfz22_0, hfz22_1⟩ := ce2 BK39; obtain ⟨hcz23_0, hcz23_1, hcz23_2, hfz23_0, hfz23_1, hfz23_2⟩ := ce3 BK35))
       go_roundg k2
       case measure => have := HJ1.out; have := HK2.out; omega
       case rel => exact ⟨(wrap64 (x27_2 + 1)), Z87, H', ⟨by have := HJ1.out; have := HK2.out; omega⟩, ⟨pb BK35⟩, ⟨Z15⟩⟩
      rw [if_neg c17] at H
      have c17b0 : (((rd_T53 l0_1 x27_2).f0) == a0_0) = false := beq_eq_false_iff_ne.mpr c17
      have c17b1 : (((rd_T53 l0_1 x27_2).f0) != a0_0) = true := bne_iff_ne.mpr c17
      obtain rfl := Option.some.inj H
      have p38 : 0 ≤ (x27_2 : Int) := of_decide_eq_true Z5
      have q38 : x27_2 < (l0_1.length : Int) := of_decide_eq_true Z5
      obtain ⟨ad38, A38_1, c38_1, e38, hx38_0, hx38_1, hl116_1, hi38_1⟩ := at_T53 HR0_1.out x27_2 p38 q38
      cases e38
      replace hx38_0 := (HB.out.cell (World.block_lt_of_cell? w _ hx38_0)).trans hx38_0
      replace hx38_1 := (HB.out.cell (World.block_lt_of_cell? w _ hx38_1)).trans hx38_1
      have HR38_1 := am hi38_1
      have HC38_1 := am hl116_1
      clear hi38_1 hl116_1
      replace p38 := eq_true p38
      replace q38 := eq_true q38
      go_wp2_with (first | ((with_reducible refine gate_dst (N := 4) rfl ?_); (try (refine gate_guard Z62 ?_; dsimp only)); refine box_event ?hg (N := 4) ?hd (cs := #[.int .i64 0, .slice none 0 0]) (t := 53) ?hr ?_; (case hd => rfl); (case hg => rfl); (case hr => exact Z88); intro gb39 hg w24 hbox hb; have BK39 := am (hbox); have GW39 := am ((by rw [hg]; exact (below_size Z6) : w.heap.size ≤ gb39)); have GE39 := am ((by rw [hg]; exact (below_size Z6) : w.heap.size ≤ gb39)); replace HB := am (below_step Z6 hb); have NB35_39 := nL BK35 hg; have NB39_35 := nR BK35 hg; replace BK35 := kB BK35 hb; clear hb hbox hg; have hnb25 := NB39_35.out; have hnc25 := NB35_39.out; obtain ⟨hcz26_0, hcz26_1, hfz26_0, hfz26_1⟩ := ce2 BK39) | ((with_reducible refine gate_callee (f := 44) rfl ?_); refine gL 32 rfl Try.func44 #[.agg #[.int .i64 ((rd_T53 l0_1 x27_2).f0), .slice A38_1 ((rd_T53 l0_1 x27_2).f1).length c38_1]] ?_; (with_reducible refine (FE.calls k2 ((rd_T53 l0_1 x27_2).f0) _ _ ((rd_T53 l0_1 x27_2).f1) true _ ?side1 ?side2 A15.out).mono ?_); (case side1 => exact Kd.C_below HR38_1.out Z15); (case side2 => exact HC38_1.out); rintro e w27 ⟨rfl, hb⟩; refine ⟨_, rfl, ?_⟩; replace BK35 := am (blk_below (g := gb35) (o := .cells #[.int .i64 a0_0, .slice (some ad38) l0_1.length c0_1, .slice A0_2 l0_2.length c0_2] 29 (0, 0)) (pf NB35_39 (pf NB35_39 (pb BK35))) hb); replace BK39 := am (blk_below (g := gb39) (o := .cells #[.int .i64 ((rd_T53 l0_1 x27_2).f0), .slice A38_1 ((rd_T53 l0_1 x27_2).f1).length c38_1] 53 (0, 0)) (pT (pp 1 (pp 0 (pb BK39)))) hb); replace HB := am (below_step Z15 hb); (try clear hb); (try clear hb2); (try clear hk); (try clear hi); obtain ⟨hcz28_0, hcz28_1, hfz28_0, hfz28_1⟩ := ce2 BK39; obtain ⟨hcz29_0, hcz29_1, hcz29_2, hfz29_0, hfz29_1, hfz29_2⟩ := ce3 BK35))
      go_ret
      exact ⟨Z86, Z15⟩
     replace c16 := Bool.eq_false_iff.mpr c16
     subst c16
     rw [if_neg (show ¬ (false = true) from Z21)] at H
     obtain rfl := Option.some.inj H
     have p38 : 0 ≤ (x27_2 : Int) := of_decide_eq_true Z5
     have q38 : x27_2 < (l0_1.length : Int) := of_decide_eq_true Z5
     obtain ⟨ad38, A38_1, c38_1, e38, hx38_0, hx38_1, hl116_1, hi38_1⟩ := at_T53 HR0_1.out x27_2 p38 q38
     cases e38
     replace hx38_0 := (HB.out.cell (World.block_lt_of_cell? w _ hx38_0)).trans hx38_0
     replace hx38_1 := (HB.out.cell (World.block_lt_of_cell? w _ hx38_1)).trans hx38_1
     have HR38_1 := am hi38_1
     have HC38_1 := am hl116_1
     clear hi38_1 hl116_1
     replace p38 := eq_true p38
     replace q38 := eq_true q38
     go_wp2_with (first | ((with_reducible refine gate_dst (N := 4) rfl ?_); (try (refine gate_guard Z62 ?_; dsimp only)); refine box_event ?hg (N := 4) ?hd (cs := #[.int .i64 0, .slice none 0 0]) (t := 53) ?hr ?_; (case hd => rfl); (case hg => rfl); (case hr => exact Z88); intro gb39 hg w30 hbox hb; have BK39 := am (hbox); have GW39 := am ((by rw [hg]; exact (below_size Z6) : w.heap.size ≤ gb39)); have GE39 := am ((by rw [hg]; exact (below_size Z6) : w.heap.size ≤ gb39)); replace HB := am (below_step Z6 hb); have NB35_39 := nL BK35 hg; have NB39_35 := nR BK35 hg; replace BK35 := kB BK35 hb; clear hb hbox hg; have hnb31 := NB39_35.out; have hnc31 := NB35_39.out; obtain ⟨hcz32_0, hcz32_1, hfz32_0, hfz32_1⟩ := ce2 BK39) | ((with_reducible refine gate_callee (f := 44) rfl ?_); refine gL 32 rfl Try.func44 #[.agg #[.int .i64 ((rd_T53 l0_1 x27_2).f0), .slice A38_1 ((rd_T53 l0_1 x27_2).f1).length c38_1]] ?_; (with_reducible refine (FE.calls k2 ((rd_T53 l0_1 x27_2).f0) _ _ ((rd_T53 l0_1 x27_2).f1) false _ ?side1 ?side2 A15.out).mono ?_); (case side1 => exact Kd.C_below HR38_1.out Z15); (case side2 => exact HC38_1.out); rintro e w33 ⟨rfl, hb⟩; refine ⟨_, rfl, ?_⟩; replace BK35 := am (blk_below (g := gb35) (o := .cells #[.int .i64 a0_0, .slice (some ad38) l0_1.length c0_1, .slice A0_2 l0_2.length c0_2] 29 (0, 0)) (pf NB35_39 (pf NB35_39 (pb BK35))) hb); replace BK39 := am (blk_below (g := gb39) (o := .cells #[.int .i64 ((rd_T53 l0_1 x27_2).f0), .slice A38_1 ((rd_T53 l0_1 x27_2).f1).length c38_1] 53 (0, 0)) (pT (pp 1 (pp 0 (pb BK39)))) hb); replace HB := am (below_step Z15 hb); (try clear hb); (try clear hb2); (try clear hk); (try clear hi)))
     go_ret
     exact ⟨Z86, Z15⟩

/-! ### FQ: function 45 -/
def FQ.f (l0 : List Int) : Option (List Int) := (some (([] : List Int) : List Int)).bind fun y2 => (if y2.length + l0.length < 17592186044416 then (some (y2 ++ l0)) else (none))
theorem FQ.calls (A0 : Option Addr) (c0 : Nat) (l0 : List Int) (r : List Int) (w : World) (hr0 : Kd.C (Kd.int .i64) w A0 l0.length l0) (hc0 : l0.length ≤ c0) (h : FQ.f l0 = some r) :
  Calls Try.prog 45 #[.slice A0 l0.length c0] w fun e w' => ∃ v0_ : Value, e = .returned (v0_) ∧ Kd.R (Kd.int .i64) 3 w' w.heap.size (fun _ => True) v0_ r ∧ Below w.heap.size w w' := by
 have HR0 := am hr0
 have HC0 := am hc0
 clear hr0 hc0
 have HB := am (Below.refl w.heap.size w)
 have H : ((some (([] : List Int) : List Int)).bind fun y6 => (if y6.length + l0.length < 17592186044416 then (some (y6 ++ l0)) else (none))) = some r := h
 clear h
 obtain ⟨y6, hy6⟩ : ∃ y_ : List Int, y_ = (([] : List Int)) := ⟨_, rfl⟩
 replace H : (if y6.length + l0.length < 17592186044416 then (some (y6 ++ l0)) else (none)) = some r := by first | (rw [hy6]; with_reducible exact H) | (have H2_ := (Option.bind_some _ _).symm.trans H; rw [hy6]; with_reducible exact H2_) | (have H2_ := (Option.bind_some _ _).symm.trans H; with_reducible exact H2_) | with_reducible exact H | (rw [hy6]; exact H) | exact H
 have Ny6 := am hy6
 clear hy6
 by_cases c2 : y6.length + l0.length < 17592186044416
 rotate_left
 ·
  rw [if_neg c2] at H
  exact absurd H Z65
 rw [if_pos c2] at H
 have LMc2 := am c2
 clear c2
 obtain ⟨y7, hy7⟩ : ∃ y_ : List Int, y_ = (y6 ++ l0) := ⟨_, rfl⟩
 replace H : (some y7) = some r := by first | (rw [hy7]; with_reducible exact H) | (have H2_ := (Option.bind_some _ _).symm.trans H; rw [hy7]; with_reducible exact H2_) | (have H2_ := (Option.bind_some _ _).symm.trans H; with_reducible exact H2_) | with_reducible exact H | (rw [hy7]; exact H) | exact H
 have Ny7 := am hy7
 clear hy7
 obtain rfl := Option.some.inj H
 go_enter Try.func45, Try.ntmps45
 go_wp2_with (first | ((with_reducible refine gate_dst (N := 3) rfl ?_); refine Kd.R_lit (Kd.int .i64) _ 3 ?hg (N := 3) ?hd (xs := ([] : List Int)) (inner := []) (ok := fun _ => True) (okp := fun _ => True) ?hr ?hp (fun _ hk => hk) trivial (Below.refl _ _) (Nat.le_refl _) Z65 ?_; (case hd => rfl); (case hg => rfl); (case hr => exact Z88); (case hp => exact (Reps.none _ _)); intro v8 w3 ho4 hb hg_ hnew_; clear hg_ hnew_; (first | rw [← Ny6.out] at ho4 | (simp only [Int.reduceToNat] at ho4; rw [← Ny6.out] at ho4)); have HO9 := am (Kd.R_lower ho4 (below_size (uN HB))); replace HB := am (below_step (uN HB) hb); clear hb ho4) | ((with_reducible refine gate_builtin (b := .append) (xs := #[.tmp 3, .tmp 4]) rfl ?_); at_builtin; refine Kd.R_append_rows (Kd.int .i64) (w0 := w) w.heap.size rfl (.tmp 3) (.tmp 4) 51 3 (.int .i64 0) 8 rfl Try.underlying51 info3 rfl Z21 Z70 v8 y6 l0 _ _ _ (fun _ => True) (fun _ => False) rfl rfl ?aO ?aR (fun _ _ h => h) (fun _ h => h.elim) ?aF ?aB ?aS ?aL ?_; (case aR => exact uC HR0 HB); (case aB => exact (uN HB)); (case aF => exact (fun _ _ => trivial)); (case aO => exact (uR HO9)); (case aS => exact (below_size (uN HB))); (case aL => have := LMc2.out; omega); intro v10 w5 ho hb hg hat; rw [← Ny7.out] at ho; replace HB := am (hb); have HO11 := am (ho); clear HO9; clear ho hb hg hat))
 go_ret
 exact ⟨_, Z86, Z85, uN HB⟩

/-! ### FR: function 24 -/
def FR.f (a0_0 : Int) (l0_1 : List Int) : Option (Int × List Int) := (FQ.f l0_1).bind fun t2 => (some (a0_0, t2))
theorem FR.calls (a0_0 : Int) (A0_1 : Option Addr) (c0_1 : Nat) (l0_1 : List Int) (r1 : Int) (r2 : List Int) (w : World) (hr0_1 : Kd.C (Kd.int .i64) w A0_1 l0_1.length l0_1) (hc0_1 : l0_1.length ≤ c0_1) (h : FR.f a0_0 l0_1 = some (r1, r2)) :
  Calls Try.prog 24 #[.agg #[.int .i64 a0_0, .slice A0_1 l0_1.length c0_1]] w fun e w' => ∃ v1_ : Value, e = .returned (.agg #[.int .i64 r1, v1_]) ∧ Kd.R (Kd.int .i64) 3 w' w.heap.size (fun _ => True) v1_ r2 ∧ Below w.heap.size w w' := by
 have hu53 := Try.underlying53
 have HR0_1 := am hr0_1
 have HC0_1 := am hc0_1
 clear hr0_1 hc0_1
 have HB := am (Below.refl w.heap.size w)
 have H : ((FQ.f l0_1).bind fun t10 => (some (a0_0, t10))) = some (r1, r2) := h
 clear h
 replace H := Option.bind_eq_some_iff.mp H
 obtain ⟨t10, A20, H⟩ := H
 try dsimp only at H
 have A2 := am A20
 clear A20
 simp only [Option.some.injEq, Prod.mk.injEq] at H
 obtain ⟨rfl, rfl⟩ := H
 go_enter Try.func24, Try.ntmps24
 try go_wp2_with (first | ((with_reducible refine gate_dst (N := 1) rfl ?_); refine box_event ?hg (N := 1) ?hd (cs := #[.int .i64 a0_0, .slice A0_1 l0_1.length c0_1]) (t := 53) ?hr ?_; (case hd => rfl); (case hg => rfl); (case hr => exact Z88); intro gb11 hg w3 hbox hb; have BK11 := am (hbox); have GW11 := nG HB hg; have GE11 := nG HB hg; have GI11 := gI GE11; replace HB := am (below_step (uN HB) hb); clear hb hbox hg) | ((with_reducible refine gate_dst (N := 2) rfl ?_); refine box_event ?hg (N := 2) ?hd (cs := #[.int .i64 0, .slice none 0 0]) (t := 53) ?hr ?_; (case hd => rfl); (case hg => rfl); (case hr => exact Z88); intro gb12 hg w4 hbox hb; have BK12 := am (hbox); have GW12 := am ((by rw [hg]; exact (below_size Z38) : w.heap.size ≤ gb12)); have GE12 := am ((by rw [hg]; exact (below_size Z38) : w.heap.size ≤ gb12)); replace HB := am (below_step Z38 hb); have NB11_12 := nL BK11 hg; have NB12_11 := nR BK11 hg; replace BK11 := kB BK11 hb; clear hb hbox hg))
 replace BK11 := am (blk_drew BK11.out)
 replace BK12 := am (blk_drew BK12.out)
 replace HB := am (below_drew1 HB.out)
 refine start_ (n := 7) (S := fun w' => w'.cell? ⟨gb11, 0, none⟩ = some (.int .i64 a0_0) ∧ w'.cell? ⟨gb11, 1, none⟩ = some (.slice A0_1 l0_1.length c0_1)) (ds := []) (bA 7 0) Z90 rfl rfl ⟨bc BK11 0, bc BK11 1⟩ (fun hHeld => ?_)
 generalize w4.drew = w5 at BK11 BK12 HB hHeld ⊢
 refine pure_ (i := 0) (N := some 3) (v := ?_) (a' := ?_) (bA 7 1) rfl rfl Z90 (fun _ _ _ h => h) (Or.inl ⟨Z62, ?_⟩) ?_ ?_
 rotate_left
 ·
  intro w'
  go_simp
  with_reducible rfl
 rotate_left
 ·
  simp only [Act.put, setIfInBounds_toArray, set_cons_zero, set_cons_succ, i64_w, i32_w]
  rfl
 refine pure_ (i := 2) (N := some 5) (v := ?_) (a' := ?_) (bA 7 5) rfl rfl Z90 (fun _ _ _ h => h) (Or.inl ⟨Z62, ?_⟩) ?_ ?_
 rotate_left
 ·
  intro w'
  go_simp
  with_reducible rfl
 rotate_left
 ·
  simp only [Act.put, setIfInBounds_toArray, set_cons_zero, set_cons_succ, i64_w, i32_w]
  rfl
 refine take_ (i := 1) (N := some 4) (v := ?_) (a' := ?_) (bA 7 7) rfl rfl Z90 (fun _ _ _ h => h) (Or.inl ⟨Z62, ?_⟩) hHeld ?_ ?_
 rotate_left
 ·
  rintro w' ⟨s0, s1⟩
  go_simp
  with_reducible rfl
 rotate_left
 ·
  simp only [Act.put, setIfInBounds_toArray, set_cons_zero, set_cons_succ, i64_w, i32_w]
  rfl
 refine take_ (i := 3) (N := some 6) (v := ?_) (a' := ?_) (bA 7 15) rfl rfl Z90 (fun _ _ _ h => h) (Or.inl ⟨Z62, ?_⟩) hHeld ?_ ?_
 rotate_left
 ·
  rintro w' ⟨s0, s1⟩
  go_simp
  with_reducible rfl
 rotate_left
 ·
  simp only [Act.put, setIfInBounds_toArray, set_cons_zero, set_cons_succ, i64_w, i32_w]
  rfl
 refine one_ (i := 4) (N := some 7) (bA 7 31) rfl rfl Z90 Z21 (fun K hK => ?_)
 refine goes_ Try.func45 Z90 rfl #[.slice A0_1 l0_1.length c0_1] Z62 rfl rfl Z91 ?_
 with_reducible refine (FQ.calls _ _ l0_1 t10 _ ?side1 ?side2 A2.out).mono ?_
 (case side1 => exact uC HR0_1 HB)
 (case side2 => exact HC0_1.out)
 rintro e w6 ⟨v13, rfl, ho0, hb⟩
 refine ⟨_, rfl, ?_⟩
 have HO14 := am (Kd.R_lower ho0 (below_size Z33))
 replace BK11 := kB BK11 hb
 replace BK12 := kB BK12 hb
 replace HB := am (below_step Z33 hb)
 (try clear hb)
 (try clear hb2)
 (try clear hk)
 (try clear hi)
 (try clear ho0)
 obtain ⟨Ao7, co7, eo7⟩ := Kd.R_slice HO14.out
 (first | subst eo7 | (injection eo7 with f1_ f2_ f3_; have f4_ := f1_.symm; have f5_ := f3_.symm; clear f1_ f2_ f3_; subst f4_; subst f5_))
 refine hK.out _ _ ⟨bc BK11 0, bc BK11 1⟩ (fun hHeld => ?_)
 clear hK K
 refine norm_ (a' := ?_) ?_ ?_
 rotate_left
 ·
  show Act.put _ (some 7) _ = _
  simp only [Act.put, setIfInBounds_toArray, set_cons_zero, set_cons_succ, i64_w, i32_w]
  rfl
 refine pure_ (i := 5) (N := some 8) (v := ?_) (a' := ?_) (bA 7 63) rfl rfl Z90 (fun _ _ _ h => h) (Or.inl ⟨Z62, ?_⟩) ?_ ?_
 rotate_left
 ·
  intro w'
  go_simp
  with_reducible rfl
 rotate_left
 ·
  simp only [Act.put, setIfInBounds_toArray, set_cons_zero, set_cons_succ, i64_w, i32_w]
  rfl
 refine one_ (i := 6) (N := none) (bA 7 127) rfl rfl Z90 Z21 (fun K hK => ?_)
 have hs8 : w6.cell? ⟨gb12, 0, none⟩ = some (.int .i64 0) := bc BK12 0
 have hfs8 := blk_frozen BK12.out 0
 have hns8_0 := NB11_12.out
 have hms8_0 := NB12_11.out
 have hs9 : w6.cell? ⟨gb12, 1, none⟩ = some (.slice none 0 0) := bc BK12 1
 have hfs9 := blk_frozen BK12.out 1
 have hns9_0 := NB11_12.out
 have hms9_0 := NB12_11.out
 refine skip_ (w1 := ?_) Z62 rfl ?_ ?_
 rotate_left
 ·
  go_simp
  rfl
 refine hK.out _ _ ⟨((cell_far (p := ⟨gb12, _, none⟩) NB11_12.out _).trans (((cell_far (p := ⟨gb12, _, none⟩) NB11_12.out _).trans (hHeld.1)))), ((cell_far (p := ⟨gb12, _, none⟩) NB11_12.out _).trans (((cell_far (p := ⟨gb12, _, none⟩) NB11_12.out _).trans (hHeld.2))))⟩ (fun hHeld => ?_)
 clear hK K
 refine done_ Z90 ?_
 try go_wp2
 refine bodyPost_ret (results_cell_row rfl _ _ gb12 53 #[.int .i64 a0_0, .slice Ao7 t10.length co7] (0, 0) _ rfl (pT (pp 1 (pp 0 (pb BK12)))) Try.underlying53 rfl Z90) rfl ?_
 exact ⟨_, Z86, Z95, Z33⟩

end Go.Proofs.Ytgbpbhplehmedaa.PFnExactJoinSystems
