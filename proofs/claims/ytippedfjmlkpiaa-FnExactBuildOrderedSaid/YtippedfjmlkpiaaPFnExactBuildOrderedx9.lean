-- made by wip/tools/myprint.py over the kit's print, for this claim
import Derived.Test.YtippedfjmlkpiaaPFnExactBuildOrderedx0
import Derived.Test.YtippedfjmlkpiaaPFnExactBuildOrderedx8
namespace Go.Proofs.Ytippedfjmlkpiaa.PFnExactBuildOrdered
open Go.RowKit Go.Proofs.YtippedfjmlkpiaaW.PrintWords Go.Proofs.YtippedfjmlkpiaaW.PrintLast Go.Proofs.YtippedfjmlkpiaaW.PrintMore
attribute [local go_sem] max2_int min2_int max_two min_two max_three min_three max_four min_four   -- for this text's walks alone
set_option linter.unusedVariables false
set_option linter.unusedSimpArgs false

/-! ### impl_Hyper_singles_in59_0: function 98 -/
def impl_Hyper_singles_in59_0.l0 : Nat → List Int → List Int → Int → Int → Option (List Int)
 | 0, _, _, _, _ => none
 | k + 1, x5, x11, x12, x13 => if x13 < x12 then (if 0 ≤ x13 then (if x13 < (x11.length : Int) then (if (rd x11 x13) = 1 then (if x5.length < 17592186044416 then (impl_Hyper_singles_in59_0.l0 k (x5 ++ [x13]) x11 x12 (wrap64 (x13 + 1))) else (none)) else (impl_Hyper_singles_in59_0.l0 k x5 x11 x12 (wrap64 (x13 + 1)))) else (none)) else (none)) else (some x5)
def impl_Hyper_singles_in59_0.f (k : Nat) (a0_0 : Int) (l0_1 : List (List Int)) (l1 : List Bool) : Option (List Int) := (impl_Hyper_degrees_in59_0.f k a0_0 l0_1 l1).bind fun t280 => (impl_Hyper_singles_in59_0.l0 k (([] : List Int)) t280 (t280.length : Int) 0)
theorem impl_Hyper_singles_in59_0.mono_l : ∀ k, (∀ y0 y1 y2 y3, LeO (impl_Hyper_singles_in59_0.l0 k y0 y1 y2 y3) (impl_Hyper_singles_in59_0.l0 (k + 1) y0 y1 y2 y3))
 | 0 => fun _ _ _ _ r h => by simp [impl_Hyper_singles_in59_0.l0] at h
 | k + 1 => by
  have ih0 := impl_Hyper_singles_in59_0.mono_l k
  ·
   intro y0 y1 y2 y3
   unfold impl_Hyper_singles_in59_0.l0
   repeat' first
   | (with_reducible exact ih0 _ _ _ _)
   | (with_reducible exact impl_Hyper_degrees_in59_0.mono _ _ _ _)
   | (with_reducible exact LeO.refl _)
   | (with_reducible exact LeO.none _)
   | (with_reducible refine LeO.ite ?_ ?_)
   | (with_reducible refine LeO.bind ?_ (fun _ => ?_))
   | exact ih0 _ _ _ _
   | exact impl_Hyper_degrees_in59_0.mono _ _ _ _
   | exact LeO.none _
   | refine LeO.ite ?_ ?_
   | refine LeO.bind ?_ (fun _ => ?_)
theorem impl_Hyper_singles_in59_0.mono : ∀ a0 a1 a2 k, LeO (impl_Hyper_singles_in59_0.f k a0 a1 a2) (impl_Hyper_singles_in59_0.f (k + 1) a0 a1 a2) := by
 intro a0 a1 a2 k
 have ih0 := impl_Hyper_singles_in59_0.mono_l k
 unfold impl_Hyper_singles_in59_0.f
 repeat' first
   | (with_reducible exact ih0 _ _ _ _)
   | (with_reducible exact impl_Hyper_degrees_in59_0.mono _ _ _ _)
   | (with_reducible exact LeO.refl _)
   | (with_reducible exact LeO.none _)
   | (with_reducible refine LeO.ite ?_ ?_)
   | (with_reducible refine LeO.bind ?_ (fun _ => ?_))
   | exact ih0 _ _ _ _
   | exact impl_Hyper_degrees_in59_0.mono _ _ _ _
   | exact LeO.none _
   | refine LeO.ite ?_ ?_
   | refine LeO.bind ?_ (fun _ => ?_)
set_option maxHeartbeats 8000000 in
set_option maxRecDepth 100000 in
theorem impl_Hyper_singles_in59_0.calls (k : Nat) (g0_0 : Nat) (a0_0 : Int) (A0_1 : Option Addr) (c0_1 : Nat) (l0_1 : List (List Int)) (A1 : Option Addr) (c1 : Nat) (l1 : List Bool) (r : List Int) (w : World) (hb0_0 : w.heap[g0_0]? = some (.cells #[.int .i64 a0_0, .slice A0_1 l0_1.length c0_1] 59 (0, 0))) (hr0_1 : Kd.C (Kd.slice 3 (Kd.int .i64)) w A0_1 l0_1.length l0_1) (hc0_1 : l0_1.length ≤ c0_1) (hr1 : Kd.C Kd.bool w A1 l1.length l1) (hc1 : l1.length ≤ c1) (h : impl_Hyper_singles_in59_0.f k a0_0 l0_1 l1 = some r) :
  Calls Try.prog 98 #[.pointer (some ⟨g0_0, 0, none⟩), .slice A1 l1.length c1] w fun e w' => ∃ v0_ : Value, e = .returned (v0_) ∧ Kd.R (Kd.int .i64) 3 w' w.heap.size (fun _ => True) v0_ r ∧ Below w.heap.size w w' := by
 have HR0_1 := Aside0.mk hr0_1
 have HC0_1 := Aside0.mk hc0_1
 clear hr0_1 hc0_1
 have HR1 := Aside0.mk hr1
 have HC1 := Aside0.mk hc1
 clear hr1 hc1
 have BK276 := Aside0.mk hb0_0
 clear hb0_0
 have HB := Aside0.mk (Below.refl w.heap.size w)
 have H : ((impl_Hyper_degrees_in59_0.f k a0_0 l0_1 l1).bind fun t280 => (impl_Hyper_singles_in59_0.l0 k (([] : List Int)) t280 (t280.length : Int) 0)) = some r := h
 clear h
 obtain ⟨y277, hy277⟩ : ∃ y_ : List Int, y_ = (([] : List Int)) := ⟨_, rfl⟩
 replace H : ((impl_Hyper_degrees_in59_0.f k a0_0 l0_1 l1).bind fun t280 => (impl_Hyper_singles_in59_0.l0 k y277 t280 (t280.length : Int) 0)) = some r := by first | (rw [hy277]; with_reducible exact H) | (have H2_ := (Option.bind_some _ _).symm.trans H; rw [hy277]; with_reducible exact H2_) | (have H2_ := (Option.bind_some _ _).symm.trans H; with_reducible exact H2_) | with_reducible exact H | (rw [hy277]; exact H) | exact H
 have Ny277 := Aside0.mk hy277
 clear hy277
 replace H := Option.bind_eq_some_iff.mp H
 obtain ⟨t280, A30, H⟩ := H
 replace H : (impl_Hyper_singles_in59_0.l0 k y277 t280 (t280.length : Int) 0) = some r := H
 have A3 := Aside0.mk A30
 clear A30
 have H' := Aside0.mk H
 clear H
 go_enter Try.func98, Try.ntmps98
 go_wp2_with (first | ((with_reducible refine gate_dst (N := 8) rfl ?_); refine Kd.R_lit (Kd.int .i64) _ 3 ?hg (N := 8) ?hd (xs := ([] : List Int)) (inner := []) (ok := fun _ => True) (okp := fun _ => True) ?hr ?hp (fun _ hk => hk) trivial (Below.refl _ _) (Nat.le_refl _) (by simp) ?_; (case hd => rfl); (case hg => rfl); (case hr => first | (go_simp; done) | (go_simp; rfl)); (case hp => exact (Reps.none _ _)); intro v278 w4 ho5 hb hg_ hnew_; clear hg_ hnew_; (first | rw [← Ny277.out] at ho5 | (simp only [Int.reduceToNat] at ho5; rw [← Ny277.out] at ho5)); have n0_ := Aside0.mk (Kd.R_lower ho5 (below_size (by repeat (first | (with_reducible first | exact HB.out | apply below_alloc | apply pw_below_drewN | apply below_drew1 | refine below_set ?_ GE276.out) | exact HB.out)))); have n1_ := Aside0.mk (blk_below (g := g0_0) (o := .cells #[.int .i64 a0_0, .slice A0_1 l0_1.length c0_1] 59 (0, 0)) (uK BK276) hb); have n2_ := Aside0.mk (below_step (by repeat (first | (with_reducible first | exact HB.out | apply below_alloc | apply pw_below_drewN | apply below_drew1 | refine below_set ?_ GE276.out) | exact HB.out)) hb); clear BK276 HB; have HO279 := n0_; have BK276 := n1_; have HB := n2_; clear n0_ n1_ n2_; clear hb ho5) | ((with_reducible refine gate_callee (f := 108) rfl ?_); refine goesL_ (some 11) rfl rfl Try.func108 (by kernel_rfl) rfl #[.pointer (some ⟨g0_0, 0, none⟩), .slice A1 l1.length c1] rfl (by (try simp only [List.map_toArray, List.map_cons, List.map_nil]); first | done | rfl | (simp only [List.length_drop, List.length_take]; rfl)) ?_; (with_reducible refine (impl_Hyper_degrees_in59_0.calls k g0_0 a0_0 A0_1 c0_1 l0_1 _ _ l1 t280 _ ?side1 ?side2 ?side3 ?side4 ?side5 A3.out).mono ?_); (case side1 => exact (uK BK276)); (case side2 => exact uC HR0_1 HB); (case side3 => exact HC0_1.out); (case side4 => exact uC HR1 HB); (case side5 => exact HC1.out); rintro e w6 ⟨v281, rfl, ho0, hb⟩; refine ⟨_, rfl, ?_⟩; have n0_ := Aside0.mk (Kd.R_elder' (uR HO279) (Kd.R_base ho0) hb); have n1_ := Aside0.mk (Kd.R_lower (Kd.R_new' ho0 (Kd.R_lt (uR HO279))) (below_size (by repeat (first | (with_reducible first | exact HB.out | apply below_alloc | apply pw_below_drewN | apply below_drew1 | refine below_set ?_ GE276.out) | exact HB.out)))); have n2_ := Aside0.mk (blk_below (g := g0_0) (o := .cells #[.int .i64 a0_0, .slice A0_1 l0_1.length c0_1] 59 (0, 0)) (uK BK276) hb); have n3_ := Aside0.mk (below_step (by repeat (first | (with_reducible first | exact HB.out | apply below_alloc | apply pw_below_drewN | apply below_drew1 | refine below_set ?_ GE276.out) | exact HB.out)) hb); clear HO279 BK276 HB; have HO279 := n0_; have HO282 := n1_; have BK276 := n2_; have HB := n3_; clear n0_ n1_ n2_ n3_; (try clear hb); (try clear hb2); (try clear hk); (try clear hi); (try clear ho0); obtain ⟨Ao7, co7, eo7⟩ := Kd.R_slice HO282.out; subst eo7))
 go_loopg [5, 13] k (fun kq v5 v13 w' => ∃ (x5_1 : List Int) (x13_1 : Int), v13 = .int .i64 x13_1 ∧ Aside0 (impl_Hyper_singles_in59_0.l0 kq x5_1 t280 (t280.length : Int) x13_1 = some r) ∧ Aside0 (kq ≤ k) ∧ Aside0 (Kd.R (Kd.int .i64) 3 w' w.heap.size (fun k_ => some k_ ≠ ((.slice Ao7 t280.length co7) : Value).ownBlock) v5 x5_1) ∧ Aside0 (Kd.R (Kd.int .i64) 3 w' w.heap.size (fun k_ => some k_ ≠ (v5 : Value).ownBlock) (.slice Ao7 t280.length co7) t280) ∧ Aside0 (w'.heap[g0_0]? = some (.cells #[.int .i64 a0_0, (.slice A0_1 l0_1.length c0_1)] 59 (0, 0))) ∧ Aside0 (Below w.heap.size w w'))
 case atStart => exact ⟨(y277), (0), (by first | rfl | (simp; done) | (simp [*]; done)), H', ⟨Nat.le_refl _⟩, ⟨by (with_reducible repeat (first | apply Kd.R_alloc | apply Kd.R_drewN | apply Kd.R_drew)); exact Kd.R_mono HO279.out (fun _ hk => hk.2)⟩, ⟨by (with_reducible repeat (first | apply Kd.R_alloc | apply Kd.R_drewN | apply Kd.R_drew)); exact Kd.R_mono HO282.out (fun _ hk => hk.2)⟩, ⟨by refine uW ?_; exact BK276.out⟩, ⟨by repeat (first | (with_reducible first | exact HB.out | apply below_alloc | apply pw_below_drewN | apply below_drew1 | refine below_set ?_ GE276.out) | exact HB.out)⟩⟩
 case round =>
  clear H'
  try clear c1
  try clear p2
  try clear HO_5
  try clear HO_11
  obtain ⟨x5_1, x13_1, rfl, HA, HK1, HO_5, HO_11, BK276, HB⟩ := hrel
  cases gk with
  | zero => exact absurd HA.out (by simp [impl_Hyper_singles_in59_0.l0])
  | succ k1 =>
   have H := HA.out
   clear HA
   simp only [impl_Hyper_singles_in59_0.l0] at H
   by_cases c8 : x13_1 < (t280.length : Int)
   ·
    rw [if_pos c8] at H
    have c8b0 : decide (x13_1 < (t280.length : Int)) = true := decide_eq_true c8
    clear c8
    by_cases c9 : 0 ≤ x13_1
    ·
     rw [if_pos c9] at H
     have c9b0 : decide (0 ≤ x13_1) = true := decide_eq_true c9
     clear c9
     by_cases c10 : x13_1 < (t280.length : Int)
     ·
      rw [if_pos c10] at H
      have c10b0 : decide (x13_1 < (t280.length : Int)) = true := decide_eq_true c10
      clear c10
      by_cases c11 : (rd t280 x13_1) = 1
      ·
       rw [if_pos c11] at H
       have c11b0 : ((rd t280 x13_1) == 1) = true := beq_iff_eq.mpr c11
       have c11b1 : ((rd t280 x13_1) != 1) = false := bne_eq_false_iff_eq.mpr c11
       clear c11
       by_cases c12 : x5_1.length < 17592186044416
       ·
        rw [if_pos c12] at H
        have LMc12 := Aside0.mk c12
        clear c12
        obtain ⟨y284, hy284⟩ : ∃ y_ : List Int, y_ = (x5_1 ++ [x13_1]) := ⟨_, rfl⟩
        replace H : (impl_Hyper_singles_in59_0.l0 k1 y284 t280 (t280.length : Int) (wrap64 (x13_1 + 1))) = some r := by first | (rw [hy284]; with_reducible exact H) | (have H2_ := (Option.bind_some _ _).symm.trans H; rw [hy284]; with_reducible exact H2_) | (have H2_ := (Option.bind_some _ _).symm.trans H; with_reducible exact H2_) | with_reducible exact H | (rw [hy284]; exact H) | exact H
        have Ny284 := Aside0.mk hy284
        clear hy284
        have H' := Aside0.mk H
        clear H
        have p283 : 0 ≤ (x13_1 : Int) := of_decide_eq_true (by first | (with_reducible assumption) | assumption)
        have q283 : x13_1 < (t280.length : Int) := of_decide_eq_true (by first | (with_reducible assumption) | assumption)
        obtain ⟨ad283, e283, hx283_0⟩ := Kd.at_int (Kd.R_reads' HO_11.out).2.2 x13_1 p283 q283
        cases e283
        replace p283 := eq_true p283
        replace q283 := eq_true q283
        go_wp2_with (first | ((with_reducible refine gate_builtin (b := .append) (xs := #[.tmp 20, .tmp 22]) rfl ?_); at_builtin; refine Kd.R_append (Kd.int .i64) (w0 := w) w.heap.size rfl (.tmp 20) (.tmp 22) 24 3 (.int .i64 0) 8 rfl Try.underlying24 info3 rfl (by decide) (by omega) u5 x5_1 x13_1 [.int .i64 x13_1] (fun k_ => some k_ ≠ (.slice (some ad283) t280.length co7 : Value).ownBlock) (fun _ => False) rfl rfl ?aP (fun _ hk => hk.elim) ?aF ?aO ?aB ?aS ?aL ?_; (case aP => exact rfl); (case aB => exact (by repeat (first | (with_reducible first | exact HB.out | apply below_alloc | apply pw_below_drewN | apply below_drew1 | refine below_set ?_ GE276.out) | exact HB.out))); (case aF => exact (fun k_ hk => Kd.fresh' (Kd.R_lt (uR HO_11)) k_ hk)); (case aO => exact (uR HO_5)); (case aS => exact (below_size (by repeat (first | (with_reducible first | exact HB.out | apply below_alloc | apply pw_below_drewN | apply below_drew1 | refine below_set ?_ GE276.out) | exact HB.out)))); (case aL => have := LMc12.out; omega); intro v285 w13 ho hb hg hat; rw [← Ny284.out] at ho; have n0_ := Aside0.mk (Kd.R_after (ok := (fun _ => True)) (by (with_reducible repeat (first | apply Kd.R_alloc | apply Kd.R_drewN | apply Kd.R_drew)); exact Kd.R_mono HO_11.out (fun _ hk => ⟨trivial, hk⟩)) hg hat); have n1_ := Aside0.mk (blk_grown (g := g0_0) (o := .cells #[.int .i64 a0_0, .slice A0_1 l0_1.length c0_1] 59 (0, 0)) (uK BK276) hg (Kd.R_ne HO_5.out BK276.out (by decide))); have n2_ := Aside0.mk (hb); have n3_ := Aside0.mk (ho); clear HO_11 BK276 HB HO_5; have HO_11 := n0_; have BK276 := n1_; have HB := n2_; have HO286 := n3_; clear n0_ n1_ n2_ n3_; clear ho hb hg hat))
        go_roundg k1
        case measure => have := HK1.out; omega
        case rel => exact ⟨(y284), (wrap64 (x13_1 + 1)), (by first | rfl | (simp; done) | (simp [*]; done)), H', ⟨by have := HK1.out; omega⟩, ⟨by (with_reducible repeat (first | apply Kd.R_alloc | apply Kd.R_drewN | apply Kd.R_drew)); exact HO286.out⟩, ⟨by (with_reducible repeat (first | apply Kd.R_alloc | apply Kd.R_drewN | apply Kd.R_drew)); exact Kd.R_mono HO_11.out (fun _ hk => hk.2)⟩, ⟨by refine uW ?_; exact BK276.out⟩, ⟨by repeat (first | (with_reducible first | exact HB.out | apply below_alloc | apply pw_below_drewN | apply below_drew1 | refine below_set ?_ GE276.out) | exact HB.out)⟩⟩
       ·
        rw [if_neg c12] at H
        exact absurd H (by simp)
      ·
       rw [if_neg c11] at H
       have c11b0 : ((rd t280 x13_1) == 1) = false := beq_eq_false_iff_ne.mpr c11
       have c11b1 : ((rd t280 x13_1) != 1) = true := bne_iff_ne.mpr c11
       have H' := Aside0.mk H
       clear H
       have p283 : 0 ≤ (x13_1 : Int) := of_decide_eq_true (by first | (with_reducible assumption) | assumption)
       have q283 : x13_1 < (t280.length : Int) := of_decide_eq_true (by first | (with_reducible assumption) | assumption)
       obtain ⟨ad283, e283, hx283_0⟩ := Kd.at_int (Kd.R_reads' HO_11.out).2.2 x13_1 p283 q283
       cases e283
       replace p283 := eq_true p283
       replace q283 := eq_true q283
       go_wp2
       go_roundg k1
       case measure => have := HK1.out; omega
       case rel => exact ⟨(x5_1), (wrap64 (x13_1 + 1)), (by first | rfl | (simp; done) | (simp [*]; done)), H', ⟨by have := HK1.out; omega⟩, ⟨by (with_reducible repeat (first | apply Kd.R_alloc | apply Kd.R_drewN | apply Kd.R_drew)); exact HO_5.out⟩, ⟨by (with_reducible repeat (first | apply Kd.R_alloc | apply Kd.R_drewN | apply Kd.R_drew)); exact HO_11.out⟩, ⟨by refine uW ?_; exact BK276.out⟩, ⟨by repeat (first | (with_reducible first | exact HB.out | apply below_alloc | apply pw_below_drewN | apply below_drew1 | refine below_set ?_ GE276.out) | exact HB.out)⟩⟩
     ·
      rw [if_neg c10] at H
      exact absurd H (by simp)
    ·
     rw [if_neg c9] at H
     exact absurd H (by simp)
   ·
    rw [if_neg c8] at H
    have c8b0 : decide (x13_1 < (t280.length : Int)) = false := decide_eq_false c8
    clear c8
    obtain rfl := Option.some.inj H
    go_wp2
    go_ret
    exact ⟨_, by first | rfl | (simp [errW_none, errW_some] <;> rfl) | (simp [*, errW_none, errW_some] <;> rfl), by (with_reducible repeat (first | apply Kd.R_alloc | apply Kd.R_drewN | apply Kd.R_drew)); exact Kd.R_mono HO_5.out (fun _ hk => trivial), by repeat (first | (with_reducible first | exact HB.out | apply below_alloc | apply pw_below_drewN | apply below_drew1 | refine below_set ?_ GE276.out) | exact HB.out)⟩

/-! ### slices_Index_int_int: function 65 -/
def slices_Index_int_int.l0 : Nat → List Int → Int → Int → Int → Option (Int)
 | 0, _, _, _, _ => none
 | k + 1, x0, x1, x7, x8 => if x8 < x7 then (if 0 ≤ x8 then (if x8 < (x0.length : Int) then (if x1 = (rd x0 x8) then (some x8) else (slices_Index_int_int.l0 k x0 x1 x7 (wrap64 (x8 + 1)))) else (none)) else (none)) else (some (-1))
def slices_Index_int_int.f (k : Nat) (l0 : List Int) (a1 : Int) : Option (Int) := slices_Index_int_int.l0 k l0 a1 (l0.length : Int) 0
theorem slices_Index_int_int.mono_l : ∀ k, (∀ y0 y1 y2 y3, LeO (slices_Index_int_int.l0 k y0 y1 y2 y3) (slices_Index_int_int.l0 (k + 1) y0 y1 y2 y3))
 | 0 => fun _ _ _ _ r h => by simp [slices_Index_int_int.l0] at h
 | k + 1 => by
  have ih0 := slices_Index_int_int.mono_l k
  ·
   intro y0 y1 y2 y3
   unfold slices_Index_int_int.l0
   repeat' first
   | (with_reducible exact ih0 _ _ _ _)
   | (with_reducible exact LeO.refl _)
   | (with_reducible exact LeO.none _)
   | (with_reducible refine LeO.ite ?_ ?_)
   | (with_reducible refine LeO.bind ?_ (fun _ => ?_))
   | exact ih0 _ _ _ _
   | exact LeO.none _
   | refine LeO.ite ?_ ?_
   | refine LeO.bind ?_ (fun _ => ?_)
theorem slices_Index_int_int.mono : ∀ a0 a1 k, LeO (slices_Index_int_int.f k a0 a1) (slices_Index_int_int.f (k + 1) a0 a1) := by
 intro a0 a1 k
 have ih0 := slices_Index_int_int.mono_l k
 unfold slices_Index_int_int.f
 repeat' first
   | (with_reducible exact ih0 _ _ _ _)
   | (with_reducible exact LeO.refl _)
   | (with_reducible exact LeO.none _)
   | (with_reducible refine LeO.ite ?_ ?_)
   | (with_reducible refine LeO.bind ?_ (fun _ => ?_))
   | exact ih0 _ _ _ _
   | exact LeO.none _
   | refine LeO.ite ?_ ?_
   | refine LeO.bind ?_ (fun _ => ?_)
set_option maxHeartbeats 8000000 in
set_option maxRecDepth 100000 in
theorem slices_Index_int_int.calls (k : Nat) (A0 : Option Addr) (c0 : Nat) (l0 : List Int) (a1 : Int) (r : Int) (w : World) (hr0 : Kd.C (Kd.int .i64) w A0 l0.length l0) (hc0 : l0.length ≤ c0) (h : slices_Index_int_int.f k l0 a1 = some r) :
  Calls Try.prog 65 #[.slice A0 l0.length c0, .int .i64 a1] w fun e w' => e = .returned (.int .i64 r) ∧ Drawn0 w w' := by
 have HR0 := Aside0.mk hr0
 have HC0 := Aside0.mk hc0
 clear hr0 hc0
 have H : (slices_Index_int_int.l0 k l0 a1 (l0.length : Int) 0) = some r := h
 clear h
 have H' := Aside0.mk H
 clear H
 go_enter Try.func65, Try.ntmps65
 go_wp2
 go_loopg [8] k (fun kq v8 w' => ∃ (x8_1 : Int), v8 = .int .i64 x8_1 ∧ Aside0 (slices_Index_int_int.l0 kq l0 a1 (l0.length : Int) x8_1 = some r) ∧ Aside0 (kq ≤ k) ∧ Drawn0 w w')
 case atStart => exact ⟨(0), (by first | rfl | (simp; done) | (simp [*]; done)), H', ⟨Nat.le_refl _⟩, by repeat (first | exact Drawn0.refl _ | apply Drawn0.step)⟩
 case round =>
  clear H'
  try clear p2
  obtain ⟨x8_1, rfl, HA, HK1, ⟨m1, rfl⟩⟩ := hrel
  cases gk with
  | zero => exact absurd HA.out (by simp [slices_Index_int_int.l0])
  | succ k1 =>
   have H := HA.out
   clear HA
   simp only [slices_Index_int_int.l0] at H
   by_cases c3 : x8_1 < (l0.length : Int)
   ·
    rw [if_pos c3] at H
    have c3b0 : decide (x8_1 < (l0.length : Int)) = true := decide_eq_true c3
    clear c3
    by_cases c4 : 0 ≤ x8_1
    ·
     rw [if_pos c4] at H
     have c4b0 : decide (0 ≤ x8_1) = true := decide_eq_true c4
     clear c4
     by_cases c5 : x8_1 < (l0.length : Int)
     ·
      rw [if_pos c5] at H
      have c5b0 : decide (x8_1 < (l0.length : Int)) = true := decide_eq_true c5
      clear c5
      by_cases c6 : a1 = (rd l0 x8_1)
      ·
       rw [if_pos c6] at H
       have c6b0 : (a1 == (rd l0 x8_1)) = true := beq_iff_eq.mpr c6
       have c6b1 : (a1 != (rd l0 x8_1)) = false := bne_eq_false_iff_eq.mpr c6
       clear c6
       obtain rfl := Option.some.inj H
       have p287 : 0 ≤ (x8_1 : Int) := of_decide_eq_true (by first | (with_reducible assumption) | assumption)
       have q287 : x8_1 < (l0.length : Int) := of_decide_eq_true (by first | (with_reducible assumption) | assumption)
       obtain ⟨ad287, e287, hx287_0⟩ := Kd.at_int HR0.out x8_1 p287 q287
       cases e287
       replace p287 := eq_true p287
       replace q287 := eq_true q287
       go_wp2
       go_ret
       exact ⟨by first | rfl | (simp; done) | (simp [*]; done), by repeat (first | exact Drawn0.refl _ | apply Drawn0.step)⟩
      ·
       rw [if_neg c6] at H
       have c6b0 : (a1 == (rd l0 x8_1)) = false := beq_eq_false_iff_ne.mpr c6
       have c6b1 : (a1 != (rd l0 x8_1)) = true := bne_iff_ne.mpr c6
       have H' := Aside0.mk H
       clear H
       have p287 : 0 ≤ (x8_1 : Int) := of_decide_eq_true (by first | (with_reducible assumption) | assumption)
       have q287 : x8_1 < (l0.length : Int) := of_decide_eq_true (by first | (with_reducible assumption) | assumption)
       obtain ⟨ad287, e287, hx287_0⟩ := Kd.at_int HR0.out x8_1 p287 q287
       cases e287
       replace p287 := eq_true p287
       replace q287 := eq_true q287
       go_wp2
       go_roundg k1
       case measure => have := HK1.out; omega
       case rel => exact ⟨(wrap64 (x8_1 + 1)), (by first | rfl | (simp; done) | (simp [*]; done)), H', ⟨by have := HK1.out; omega⟩, by repeat (first | exact Drawn0.refl _ | apply Drawn0.step)⟩
     ·
      rw [if_neg c5] at H
      exact absurd H (by simp)
    ·
     rw [if_neg c4] at H
     exact absurd H (by simp)
   ·
    rw [if_neg c3] at H
    have c3b0 : decide (x8_1 < (l0.length : Int)) = false := decide_eq_false c3
    clear c3
    obtain rfl := Option.some.inj H
    go_wp2
    go_ret
    exact ⟨by first | rfl | (simp; done) | (simp [*]; done), by repeat (first | exact Drawn0.refl _ | apply Drawn0.step)⟩

/-! ### slices_Contains_int_int: function 109 -/
def slices_Contains_int_int.f (k : Nat) (l0 : List Int) (a1 : Int) : Option (Bool) := (slices_Index_int_int.f k l0 a1).bind fun t288 => (some (decide (t288 ≥ 0)))
theorem slices_Contains_int_int.mono : ∀ a0 a1 k, LeO (slices_Contains_int_int.f k a0 a1) (slices_Contains_int_int.f (k + 1) a0 a1) := by
  intro a0 a1 k
  unfold slices_Contains_int_int.f
  repeat' first
      | (with_reducible exact slices_Index_int_int.mono _ _ _)
      | (with_reducible exact LeO.refl _)
      | (with_reducible exact LeO.none _)
      | (with_reducible refine LeO.ite ?_ ?_)
      | (with_reducible refine LeO.bind ?_ (fun _ => ?_))
      | exact slices_Index_int_int.mono _ _ _
      | exact LeO.none _
      | refine LeO.ite ?_ ?_
      | refine LeO.bind ?_ (fun _ => ?_)
set_option maxHeartbeats 8000000 in
set_option maxRecDepth 100000 in
theorem slices_Contains_int_int.calls (k : Nat) (A0 : Option Addr) (c0 : Nat) (l0 : List Int) (a1 : Int) (r : Bool) (w : World) (hr0 : Kd.C (Kd.int .i64) w A0 l0.length l0) (hc0 : l0.length ≤ c0) (h : slices_Contains_int_int.f k l0 a1 = some r) :
    Calls Try.prog 109 #[.slice A0 l0.length c0, .int .i64 a1] w fun e w' => e = .returned (.bool r) ∧ Drawn0 w w' := by
  have HR0 := Aside0.mk hr0
  have HC0 := Aside0.mk hc0
  clear hr0 hc0
  have H : ((slices_Index_int_int.f k l0 a1).bind fun t288 => (some (decide (t288 ≥ 0)))) = some r := h
  clear h
  replace H := Option.bind_eq_some_iff.mp H
  obtain ⟨t288, A30, H⟩ := H
  replace H : (some (decide (t288 ≥ 0))) = some r := H
  have A3 := Aside0.mk A30
  clear A30
  obtain rfl := Option.some.inj H
  go_enter Try.func109, Try.ntmps109
  go_wp2_with (first | ((with_reducible refine gate_callee (f := 65) rfl ?_); refine goesL_ (some 7) rfl rfl Try.func65 (by kernel_rfl) rfl #[.slice A0 l0.length c0, .int .i64 a1] rfl (by (try simp only [List.map_toArray, List.map_cons, List.map_nil]); first | done | rfl | (simp only [List.length_drop, List.length_take]; rfl)) ?_; (with_reducible refine (slices_Index_int_int.calls k _ _ l0 a1 t288 _ ?side1 ?side2 A3.out).mono ?_); (case side1 => repeat (first | exact HR0.out | (with_reducible refine Kd.C_alloc ?_ _) | (with_reducible refine Kd.C_drewN ?_ _) | (with_reducible refine Kd.C_drew ?_))); (case side2 => exact HC0.out); rintro e w' ⟨rfl, ⟨nd, rfl⟩⟩; refine ⟨_, rfl, ?_⟩))
  go_ret
  exact ⟨by first | rfl | (simp; done) | (simp [*]; done), by repeat (first | exact Drawn0.refl _ | apply Drawn0.step)⟩

/-! ### impl_Hyper_edgeAt_in59_0: function 100 -/
def impl_Hyper_edgeAt_in59_0.l0 : Nat → List Bool → Int → Int → Int → List (List Int) → Option (Int)
 | 0, _, _, _, _, _ => none
 | k + 1, x1, x2, x7, x290000, x290001 => if 0 ≤ x7 then (if x7 < (x1.length : Int) then (if rdOf false x1 x7 = true then (impl_Hyper_edgeAt_in59_0.l0 k x1 x2 (wrap64 (x7 + 1)) x290000 x290001) else (if x7 < (x290001.length : Int) then ((slices_Contains_int_int.f k (rd_L2 x290001 x7) x2).bind fun t292 => (if t292 = true then (some x7) else (impl_Hyper_edgeAt_in59_0.l0 k x1 x2 (wrap64 (x7 + 1)) x290000 x290001))) else (none))) else (none)) else (none)
def impl_Hyper_edgeAt_in59_0.f (k : Nat) (a0_0 : Int) (l0_1 : List (List Int)) (l1 : List Bool) (a2 : Int) : Option (Int) := impl_Hyper_edgeAt_in59_0.l0 k l1 a2 0 a0_0 l0_1
theorem impl_Hyper_edgeAt_in59_0.mono_l : ∀ k, (∀ y0 y1 y2 y3 y4, LeO (impl_Hyper_edgeAt_in59_0.l0 k y0 y1 y2 y3 y4) (impl_Hyper_edgeAt_in59_0.l0 (k + 1) y0 y1 y2 y3 y4))
 | 0 => fun _ _ _ _ _ r h => by simp [impl_Hyper_edgeAt_in59_0.l0] at h
 | k + 1 => by
  have ih0 := impl_Hyper_edgeAt_in59_0.mono_l k
  ·
   intro y0 y1 y2 y3 y4
   unfold impl_Hyper_edgeAt_in59_0.l0
   repeat' first
   | (with_reducible exact ih0 _ _ _ _ _)
   | (with_reducible exact slices_Contains_int_int.mono _ _ _)
   | (with_reducible exact LeO.refl _)
   | (with_reducible exact LeO.none _)
   | (with_reducible refine LeO.ite ?_ ?_)
   | (with_reducible refine LeO.bind ?_ (fun _ => ?_))
   | exact ih0 _ _ _ _ _
   | exact slices_Contains_int_int.mono _ _ _
   | exact LeO.none _
   | refine LeO.ite ?_ ?_
   | refine LeO.bind ?_ (fun _ => ?_)
theorem impl_Hyper_edgeAt_in59_0.mono : ∀ a0 a1 a2 a3 k, LeO (impl_Hyper_edgeAt_in59_0.f k a0 a1 a2 a3) (impl_Hyper_edgeAt_in59_0.f (k + 1) a0 a1 a2 a3) := by
 intro a0 a1 a2 a3 k
 have ih0 := impl_Hyper_edgeAt_in59_0.mono_l k
 unfold impl_Hyper_edgeAt_in59_0.f
 repeat' first
   | (with_reducible exact ih0 _ _ _ _ _)
   | (with_reducible exact slices_Contains_int_int.mono _ _ _)
   | (with_reducible exact LeO.refl _)
   | (with_reducible exact LeO.none _)
   | (with_reducible refine LeO.ite ?_ ?_)
   | (with_reducible refine LeO.bind ?_ (fun _ => ?_))
   | exact ih0 _ _ _ _ _
   | exact slices_Contains_int_int.mono _ _ _
   | exact LeO.none _
   | refine LeO.ite ?_ ?_
   | refine LeO.bind ?_ (fun _ => ?_)
set_option maxHeartbeats 8000000 in
set_option maxRecDepth 100000 in
theorem impl_Hyper_edgeAt_in59_0.calls (k : Nat) (g0_0 : Nat) (a0_0 : Int) (A0_1 : Option Addr) (c0_1 : Nat) (l0_1 : List (List Int)) (A1 : Option Addr) (c1 : Nat) (l1 : List Bool) (a2 : Int) (r : Int) (w : World) (hb0_0 : w.heap[g0_0]? = some (.cells #[.int .i64 a0_0, .slice A0_1 l0_1.length c0_1] 59 (0, 0))) (hr0_1 : Kd.C (Kd.slice 3 (Kd.int .i64)) w A0_1 l0_1.length l0_1) (hc0_1 : l0_1.length ≤ c0_1) (hr1 : Kd.C Kd.bool w A1 l1.length l1) (hc1 : l1.length ≤ c1) (h : impl_Hyper_edgeAt_in59_0.f k a0_0 l0_1 l1 a2 = some r) :
  Calls Try.prog 100 #[.pointer (some ⟨g0_0, 0, none⟩), .slice A1 l1.length c1, .int .i64 a2] w fun e w' => e = .returned (.int .i64 r) ∧ Below w.heap.size w w' := by
 have HR0_1 := Aside0.mk hr0_1
 have HC0_1 := Aside0.mk hc0_1
 clear hr0_1 hc0_1
 have HR1 := Aside0.mk hr1
 have HC1 := Aside0.mk hc1
 clear hr1 hc1
 have BK289 := Aside0.mk hb0_0
 clear hb0_0
 have HB := Aside0.mk (Below.refl w.heap.size w)
 have H : (impl_Hyper_edgeAt_in59_0.l0 k l1 a2 0 a0_0 l0_1) = some r := h
 clear h
 have H' := Aside0.mk H
 clear H
 go_enter Try.func100, Try.ntmps100
 go_wp2
 go_loopg [7] k (fun kq v7 w' => ∃ (x7_1 : Int), v7 = .int .i64 x7_1 ∧ Aside0 (impl_Hyper_edgeAt_in59_0.l0 kq l1 a2 x7_1 a0_0 l0_1 = some r) ∧ Aside0 (kq ≤ k) ∧ Aside0 (w'.heap[g0_0]? = some (.cells #[.int .i64 a0_0, (.slice A0_1 l0_1.length c0_1)] 59 (0, 0))) ∧ Aside0 (Below w.heap.size w w'))
 case atStart => exact ⟨(0), (by first | rfl | (simp; done) | (simp [*]; done)), H', ⟨Nat.le_refl _⟩, ⟨by refine uW ?_; exact BK289.out⟩, ⟨by repeat (first | (with_reducible first | exact HB.out | apply below_alloc | apply pw_below_drewN | apply below_drew1 | refine below_set ?_ GE289.out) | exact HB.out)⟩⟩
 case round =>
  clear H'
  try clear c1
  try clear p2
  obtain ⟨x7_1, rfl, HA, HK1, BK289, HB⟩ := hrel
  cases gk with
  | zero => exact absurd HA.out (by simp [impl_Hyper_edgeAt_in59_0.l0])
  | succ k1 =>
   have H := HA.out
   clear HA
   simp only [impl_Hyper_edgeAt_in59_0.l0] at H
   by_cases c4 : 0 ≤ x7_1
   ·
    rw [if_pos c4] at H
    have c4b0 : decide (0 ≤ x7_1) = true := decide_eq_true c4
    clear c4
    by_cases c5 : x7_1 < (l1.length : Int)
    ·
     rw [if_pos c5] at H
     have c5b0 : decide (x7_1 < (l1.length : Int)) = true := decide_eq_true c5
     clear c5
     obtain ⟨bq6, hbq6⟩ : ∃ b_ : Bool, b_ = (rdOf false l1 x7_1) := ⟨_, rfl⟩
     replace H : (if bq6 = true then (impl_Hyper_edgeAt_in59_0.l0 k1 l1 a2 (wrap64 (x7_1 + 1)) a0_0 l0_1) else (if x7_1 < (l0_1.length : Int) then ((slices_Contains_int_int.f k1 (rd_L2 l0_1 x7_1) a2).bind fun t292 => (if t292 = true then (some x7_1) else (impl_Hyper_edgeAt_in59_0.l0 k1 l1 a2 (wrap64 (x7_1 + 1)) a0_0 l0_1))) else (none))) = some r := by rw [← hbq6] at H; exact H
     have Nbq6 := Aside0.mk hbq6
     clear hbq6
     by_cases c7 : bq6 = true
     ·
      subst c7
      have H1 : (impl_Hyper_edgeAt_in59_0.l0 k1 l1 a2 (wrap64 (x7_1 + 1)) a0_0 l0_1) = some r := by rw [if_pos rfl] at H; exact H
      clear H
      have H := H1
      clear H1
      have H' := Aside0.mk H
      clear H
      have p290 : 0 ≤ (x7_1 : Int) := of_decide_eq_true (by first | (with_reducible assumption) | assumption)
      have q290 : x7_1 < (l1.length : Int) := of_decide_eq_true (by first | (with_reducible assumption) | assumption)
      obtain ⟨ad290, e290, hx290_0⟩ := Kd.at_bool HR1.out x7_1 p290 q290
      (try rw [← Nbq6.out] at hx290_0)
      cases e290
      replace hx290_0 := (HB.out.cell (World.block_lt_of_cell? w _ hx290_0)).trans hx290_0
      replace p290 := eq_true p290
      replace q290 := eq_true q290
      go_wp2
      go_roundg k1
      case measure => have := HK1.out; omega
      case rel => exact ⟨(wrap64 (x7_1 + 1)), (by first | rfl | (simp; done) | (simp [*]; done)), H', ⟨by have := HK1.out; omega⟩, ⟨by refine uW ?_; exact BK289.out⟩, ⟨by repeat (first | (with_reducible first | exact HB.out | apply below_alloc | apply pw_below_drewN | apply below_drew1 | refine below_set ?_ GE289.out) | exact HB.out)⟩⟩
     ·
      replace c7 := Bool.eq_false_iff.mpr c7
      subst c7
      have H1 : (if x7_1 < (l0_1.length : Int) then ((slices_Contains_int_int.f k1 (rd_L2 l0_1 x7_1) a2).bind fun t292 => (if t292 = true then (some x7_1) else (impl_Hyper_edgeAt_in59_0.l0 k1 l1 a2 (wrap64 (x7_1 + 1)) a0_0 l0_1))) else (none)) = some r := by rw [if_neg (show ¬ (false = true) by decide)] at H; exact H
      clear H
      have H := H1
      clear H1
      by_cases c8 : x7_1 < (l0_1.length : Int)
      ·
       rw [if_pos c8] at H
       have c8b0 : decide (x7_1 < (l0_1.length : Int)) = true := decide_eq_true c8
       clear c8
       replace H := Option.bind_eq_some_iff.mp H
       obtain ⟨t292, A90, H⟩ := H
       replace H : (if t292 = true then (some x7_1) else (impl_Hyper_edgeAt_in59_0.l0 k1 l1 a2 (wrap64 (x7_1 + 1)) a0_0 l0_1)) = some r := H
       have A9 := Aside0.mk A90
       clear A90
       by_cases c10 : t292 = true
       ·
        subst c10
        have H1 : (some x7_1) = some r := by rw [if_pos rfl] at H; exact H
        clear H
        have H := H1
        clear H1
        obtain rfl := Option.some.inj H
        have p290 : 0 ≤ (x7_1 : Int) := of_decide_eq_true (by first | (with_reducible assumption) | assumption)
        have q290 : x7_1 < (l1.length : Int) := of_decide_eq_true (by first | (with_reducible assumption) | assumption)
        obtain ⟨ad290, e290, hx290_0⟩ := Kd.at_bool HR1.out x7_1 p290 q290
        (try rw [← Nbq6.out] at hx290_0)
        cases e290
        replace hx290_0 := (HB.out.cell (World.block_lt_of_cell? w _ hx290_0)).trans hx290_0
        replace p290 := eq_true p290
        replace q290 := eq_true q290
        have hcz11_0 : wr.cell? ⟨g0_0, 0, none⟩ = some (.int .i64 a0_0) := (blk_cell BK289.out 0).trans rfl
        have hcz11_1 : wr.cell? ⟨g0_0, 1, none⟩ = some (.slice A0_1 l0_1.length c0_1) := (blk_cell BK289.out 1).trans rfl
        have hfz11_0 := blk_frozen BK289.out 0
        have hfz11_1 := blk_frozen BK289.out 1
        have p291 : 0 ≤ (x7_1 : Int) := of_decide_eq_true (by first | (with_reducible assumption) | assumption)
        have q291 : x7_1 < (l0_1.length : Int) := of_decide_eq_true (by first | (with_reducible assumption) | assumption)
        obtain ⟨ad291, A291_0, c291_0, e291, hx291_0, hl291_0, hi291_0⟩ := at_L2 HR0_1.out x7_1 p291 q291
        cases e291
        replace hx291_0 := (HB.out.cell (World.block_lt_of_cell? w _ hx291_0)).trans hx291_0
        have HR291_0 := Aside0.mk hi291_0
        have HC291_0 := Aside0.mk hl291_0
        clear hi291_0 hl291_0
        replace p291 := eq_true p291
        replace q291 := eq_true q291
        go_wp2_with (first | (go_at_call 109; (with_reducible refine (slices_Contains_int_int.calls k1 _ _ (rd_L2 l0_1 x7_1) a2 true _ ?side1 ?side2 A9.out).mono ?_); (case side1 => exact uC HR291_0 HB); (case side2 => exact HC291_0.out); rintro e w' ⟨rfl, ⟨nd, rfl⟩⟩))
        go_ret
        exact ⟨by first | rfl | (simp [errW_none, errW_some] <;> rfl) | (simp [*, errW_none, errW_some] <;> rfl), by repeat (first | (with_reducible first | exact HB.out | apply below_alloc | apply pw_below_drewN | apply below_drew1 | refine below_set ?_ GE289.out) | exact HB.out)⟩
       ·
        replace c10 := Bool.eq_false_iff.mpr c10
        subst c10
        have H1 : (impl_Hyper_edgeAt_in59_0.l0 k1 l1 a2 (wrap64 (x7_1 + 1)) a0_0 l0_1) = some r := by rw [if_neg (show ¬ (false = true) by decide)] at H; exact H
        clear H
        have H := H1
        clear H1
        have H' := Aside0.mk H
        clear H
        have p290 : 0 ≤ (x7_1 : Int) := of_decide_eq_true (by first | (with_reducible assumption) | assumption)
        have q290 : x7_1 < (l1.length : Int) := of_decide_eq_true (by first | (with_reducible assumption) | assumption)
        obtain ⟨ad290, e290, hx290_0⟩ := Kd.at_bool HR1.out x7_1 p290 q290
        (try rw [← Nbq6.out] at hx290_0)
        cases e290
        replace hx290_0 := (HB.out.cell (World.block_lt_of_cell? w _ hx290_0)).trans hx290_0
        replace p290 := eq_true p290
        replace q290 := eq_true q290
        have hcz12_0 : wr.cell? ⟨g0_0, 0, none⟩ = some (.int .i64 a0_0) := (blk_cell BK289.out 0).trans rfl
        have hcz12_1 : wr.cell? ⟨g0_0, 1, none⟩ = some (.slice A0_1 l0_1.length c0_1) := (blk_cell BK289.out 1).trans rfl
        have hfz12_0 := blk_frozen BK289.out 0
        have hfz12_1 := blk_frozen BK289.out 1
        have p291 : 0 ≤ (x7_1 : Int) := of_decide_eq_true (by first | (with_reducible assumption) | assumption)
        have q291 : x7_1 < (l0_1.length : Int) := of_decide_eq_true (by first | (with_reducible assumption) | assumption)
        obtain ⟨ad291, A291_0, c291_0, e291, hx291_0, hl291_0, hi291_0⟩ := at_L2 HR0_1.out x7_1 p291 q291
        cases e291
        replace hx291_0 := (HB.out.cell (World.block_lt_of_cell? w _ hx291_0)).trans hx291_0
        have HR291_0 := Aside0.mk hi291_0
        have HC291_0 := Aside0.mk hl291_0
        clear hi291_0 hl291_0
        replace p291 := eq_true p291
        replace q291 := eq_true q291
        go_wp2_with (first | (go_at_call 109; (with_reducible refine (slices_Contains_int_int.calls k1 _ _ (rd_L2 l0_1 x7_1) a2 false _ ?side1 ?side2 A9.out).mono ?_); (case side1 => exact uC HR291_0 HB); (case side2 => exact HC291_0.out); rintro e w' ⟨rfl, ⟨nd, rfl⟩⟩))
        go_roundg k1
        case measure => have := HK1.out; omega
        case rel => exact ⟨(wrap64 (x7_1 + 1)), (by first | rfl | (simp; done) | (simp [*]; done)), H', ⟨by have := HK1.out; omega⟩, ⟨by refine uW ?_; exact BK289.out⟩, ⟨by repeat (first | (with_reducible first | exact HB.out | apply below_alloc | apply pw_below_drewN | apply below_drew1 | refine below_set ?_ GE289.out) | exact HB.out)⟩⟩
      ·
       rw [if_neg c8] at H
       exact absurd H (by simp)
    ·
     rw [if_neg c5] at H
     exact absurd H (by simp)
   ·
    rw [if_neg c4] at H
    exact absurd H (by simp)

/-! ### impl_Hyper_peel_in59_0: function 74 -/
def impl_Hyper_peel_in59_0.l0 : Nat → List (S65) → List Bool → Int → List (List Int) → Option ((List (S65)) × List Int)
 | 0, _, _, _, _ => none
 | k + 1, x4, x5, x294000, x294001 => (impl_Hyper_singles_in59_0.f k x294000 x294001 x5).bind fun t300 => (if (t300.length : Int) = 0 then ((impl_left.f k x5).bind fun t303 => (some (x4, t303))) else (if 0 < (t300.length : Int) then ((impl_Hyper_edgeAt_in59_0.f k x294000 x294001 x5 (rd t300 0)).bind fun t307 => (if 0 ≤ t307 then (if t307 < (x5.length : Int) then (if x4.length < 8796093022208 then (impl_Hyper_peel_in59_0.l0 k (x4 ++ [(⟨t307, rd t300 0⟩ : S65)]) (x5.set (t307 : Int).toNat true) x294000 x294001) else (none)) else (none)) else (none))) else (none)))
def impl_Hyper_peel_in59_0.f (k : Nat) (a0_0 : Int) (l0_1 : List (List Int)) : Option ((List (S65)) × List Int) := (impl_Hyper_none_in59_0.f a0_0 l0_1).bind fun t297 => (impl_Hyper_peel_in59_0.l0 k (([] : List (S65))) t297 a0_0 l0_1)
theorem impl_Hyper_peel_in59_0.mono_l : ∀ k, (∀ y0 y1 y2 y3, LeO (impl_Hyper_peel_in59_0.l0 k y0 y1 y2 y3) (impl_Hyper_peel_in59_0.l0 (k + 1) y0 y1 y2 y3))
 | 0 => fun _ _ _ _ r h => by simp [impl_Hyper_peel_in59_0.l0] at h
 | k + 1 => by
  have ih0 := impl_Hyper_peel_in59_0.mono_l k
  ·
   intro y0 y1 y2 y3
   unfold impl_Hyper_peel_in59_0.l0
   repeat' first
   | (with_reducible exact ih0 _ _ _ _)
   | (with_reducible exact impl_Hyper_edgeAt_in59_0.mono _ _ _ _ _)
   | (with_reducible exact impl_Hyper_singles_in59_0.mono _ _ _ _)
   | (with_reducible exact impl_left.mono _ _)
   | (with_reducible exact LeO.refl _)
   | (with_reducible exact LeO.none _)
   | (with_reducible refine LeO.ite ?_ ?_)
   | (with_reducible refine LeO.bind ?_ (fun _ => ?_))
   | exact ih0 _ _ _ _
   | exact impl_Hyper_edgeAt_in59_0.mono _ _ _ _ _
   | exact impl_Hyper_singles_in59_0.mono _ _ _ _
   | exact impl_left.mono _ _
   | exact LeO.none _
   | refine LeO.ite ?_ ?_
   | refine LeO.bind ?_ (fun _ => ?_)
theorem impl_Hyper_peel_in59_0.mono : ∀ a0 a1 k, LeO (impl_Hyper_peel_in59_0.f k a0 a1) (impl_Hyper_peel_in59_0.f (k + 1) a0 a1) := by
 intro a0 a1 k
 have ih0 := impl_Hyper_peel_in59_0.mono_l k
 unfold impl_Hyper_peel_in59_0.f
 repeat' first
   | (with_reducible exact ih0 _ _ _ _)
   | (with_reducible exact impl_Hyper_edgeAt_in59_0.mono _ _ _ _ _)
   | (with_reducible exact impl_Hyper_singles_in59_0.mono _ _ _ _)
   | (with_reducible exact impl_left.mono _ _)
   | (with_reducible exact LeO.refl _)
   | (with_reducible exact LeO.none _)
   | (with_reducible refine LeO.ite ?_ ?_)
   | (with_reducible refine LeO.bind ?_ (fun _ => ?_))
   | exact ih0 _ _ _ _
   | exact impl_Hyper_edgeAt_in59_0.mono _ _ _ _ _
   | exact impl_Hyper_singles_in59_0.mono _ _ _ _
   | exact impl_left.mono _ _
   | exact LeO.none _
   | refine LeO.ite ?_ ?_
   | refine LeO.bind ?_ (fun _ => ?_)
set_option maxHeartbeats 8000000 in
set_option maxRecDepth 100000 in
theorem impl_Hyper_peel_in59_0.calls (k : Nat) (g0_0 : Nat) (a0_0 : Int) (A0_1 : Option Addr) (c0_1 : Nat) (l0_1 : List (List Int)) (r1 : List (S65)) (r2 : List Int) (w : World) (hb0_0 : w.heap[g0_0]? = some (.cells #[.int .i64 a0_0, .slice A0_1 l0_1.length c0_1] 59 (0, 0))) (hr0_1 : Kd.C (Kd.slice 3 (Kd.int .i64)) w A0_1 l0_1.length l0_1) (hc0_1 : l0_1.length ≤ c0_1) (h : impl_Hyper_peel_in59_0.f k a0_0 l0_1 = some (r1, r2)) :
  Calls Try.prog 74 #[.pointer (some ⟨g0_0, 0, none⟩)] w fun e w' => ∃ v0_ v1_ : Value, e = .returned (.tuple #[v0_, v1_]) ∧ Kd.R k65 65 w' w.heap.size (fun _ => True) v0_ r1 ∧ Kd.R (Kd.int .i64) 3 w' w.heap.size (fun _ => True) v1_ r2 ∧ Below w.heap.size w w' := by
 have hu65 := Try.underlying65
 have HR0_1 := Aside0.mk hr0_1
 have HC0_1 := Aside0.mk hc0_1
 clear hr0_1 hc0_1
 have BK293 := Aside0.mk hb0_0
 clear hb0_0
 have HB := Aside0.mk (Below.refl w.heap.size w)
 have H : ((impl_Hyper_none_in59_0.f a0_0 l0_1).bind fun t297 => (impl_Hyper_peel_in59_0.l0 k (([] : List (S65))) t297 a0_0 l0_1)) = some (r1, r2) := h
 clear h
 obtain ⟨y294, hy294⟩ : ∃ y_ : List (S65), y_ = (([] : List (S65))) := ⟨_, rfl⟩
 replace H : ((impl_Hyper_none_in59_0.f a0_0 l0_1).bind fun t297 => (impl_Hyper_peel_in59_0.l0 k y294 t297 a0_0 l0_1)) = some (r1, r2) := by first | (rw [hy294]; with_reducible exact H) | (have H2_ := (Option.bind_some _ _).symm.trans H; rw [hy294]; with_reducible exact H2_) | (have H2_ := (Option.bind_some _ _).symm.trans H; with_reducible exact H2_) | with_reducible exact H | (rw [hy294]; exact H) | exact H
 have Ny294 := Aside0.mk hy294
 clear hy294
 replace H := Option.bind_eq_some_iff.mp H
 obtain ⟨t297, A20, H⟩ := H
 replace H : (impl_Hyper_peel_in59_0.l0 k y294 t297 a0_0 l0_1) = some (r1, r2) := H
 have A2 := Aside0.mk A20
 clear A20
 have H' := Aside0.mk H
 clear H
 go_enter Try.func74, Try.ntmps74
 go_wp2_with (first | ((with_reducible refine gate_dst (N := 8) rfl ?_); refine Kd.R_lit k65 _ 65 ?hg (N := 8) ?hd (xs := ([] : List (S65))) (inner := []) (ok := fun _ => True) (okp := fun _ => True) ?hr ?hp (fun _ hk => hk) trivial (Below.refl _ _) (Nat.le_refl _) (by simp) ?_; (case hd => rfl); (case hg => rfl); (case hr => first | (go_simp; done) | (go_simp; rfl)); (case hp => exact (Reps.none _ _)); intro v295 w3 ho4 hb hg_ hnew_; clear hg_ hnew_; (first | rw [← Ny294.out] at ho4 | (simp only [Int.reduceToNat] at ho4; rw [← Ny294.out] at ho4)); have n0_ := Aside0.mk (Kd.R_lower ho4 (below_size (by repeat (first | (with_reducible first | exact HB.out | apply below_alloc | apply pw_below_drewN | apply below_drew1 | refine below_set ?_ GE293.out) | exact HB.out)))); have n1_ := Aside0.mk (blk_below (g := g0_0) (o := .cells #[.int .i64 a0_0, .slice A0_1 l0_1.length c0_1] 59 (0, 0)) (uK BK293) hb); have n2_ := Aside0.mk (below_step (by repeat (first | (with_reducible first | exact HB.out | apply below_alloc | apply pw_below_drewN | apply below_drew1 | refine below_set ?_ GE293.out) | exact HB.out)) hb); clear BK293 HB; have HO296 := n0_; have BK293 := n1_; have HB := n2_; clear n0_ n1_ n2_; clear hb ho4) | ((with_reducible refine gate_callee (f := 97) rfl ?_); refine goesL_ (some 10) rfl rfl Try.func97 (by kernel_rfl) rfl #[.pointer (some ⟨g0_0, 0, none⟩)] rfl (by (try simp only [List.map_toArray, List.map_cons, List.map_nil]); first | done | rfl | (simp only [List.length_drop, List.length_take]; rfl)) ?_; (with_reducible refine (impl_Hyper_none_in59_0.calls g0_0 a0_0 A0_1 c0_1 l0_1 t297 _ ?side1 ?side2 ?side3 A2.out).mono ?_); (case side1 => exact (uK BK293)); (case side2 => exact uC HR0_1 HB); (case side3 => exact HC0_1.out); rintro e w5 ⟨v298, rfl, ho0, hb⟩; refine ⟨_, rfl, ?_⟩; have n0_ := Aside0.mk (Kd.R_below (uR HO296) hb); have n1_ := Aside0.mk (Kd.R_lower ho0 (below_size (by repeat (first | (with_reducible first | exact HB.out | apply below_alloc | apply pw_below_drewN | apply below_drew1 | refine below_set ?_ GE293.out) | exact HB.out)))); have n2_ := Aside0.mk (blk_below (g := g0_0) (o := .cells #[.int .i64 a0_0, .slice A0_1 l0_1.length c0_1] 59 (0, 0)) (uK BK293) hb); have n3_ := Aside0.mk (below_step (by repeat (first | (with_reducible first | exact HB.out | apply below_alloc | apply pw_below_drewN | apply below_drew1 | refine below_set ?_ GE293.out) | exact HB.out)) hb); clear HO296 BK293 HB; have HO296 := n0_; have HO299 := n1_; have BK293 := n2_; have HB := n3_; clear n0_ n1_ n2_ n3_; (try clear hb); (try clear hb2); (try clear hk); (try clear hi); (try clear ho0)))
 go_loopg [4] k (fun kq v4 w' => ∃ (x4_1 : List (S65)) (x5_1 : List Bool) (x294000_1 : Int), Aside0 (impl_Hyper_peel_in59_0.l0 kq x4_1 x5_1 x294000_1 l0_1 = some (r1, r2)) ∧ Aside0 (kq ≤ k) ∧ Aside0 (Kd.R k65 65 w' w.heap.size (fun _ => True) v4 x4_1) ∧ Aside0 (Kd.R Kd.bool 4 w' w.heap.size (fun _ => True) v298 x5_1) ∧ Aside0 (w'.heap[g0_0]? = some (.cells #[.int .i64 x294000_1, (.slice A0_1 l0_1.length c0_1)] 59 (0, 0))) ∧ Aside0 (Below w.heap.size w w'))
 case atStart => exact ⟨(y294), (t297), (a0_0), H', ⟨Nat.le_refl _⟩, ⟨by (with_reducible repeat (first | apply Kd.R_alloc | apply Kd.R_drewN | apply Kd.R_drew)); exact HO296.out⟩, ⟨by (with_reducible repeat (first | apply Kd.R_alloc | apply Kd.R_drewN | apply Kd.R_drew)); exact HO299.out⟩, ⟨by refine uW ?_; exact BK293.out⟩, ⟨by repeat (first | (with_reducible first | exact HB.out | apply below_alloc | apply pw_below_drewN | apply below_drew1 | refine below_set ?_ GE293.out) | exact HB.out)⟩⟩
 case round =>
  clear H'
  try clear p2
  try clear HO_4
  try clear HO_5
  obtain ⟨x4_1, x5_1, x294000_1, HA, HK1, HO_4, HO_5, BK293, HB⟩ := hrel
  cases gk with
  | zero => exact absurd HA.out (by simp [impl_Hyper_peel_in59_0.l0])
  | succ k1 =>
   have H := HA.out
   clear HA
   simp only [impl_Hyper_peel_in59_0.l0] at H
   replace H := Option.bind_eq_some_iff.mp H
   obtain ⟨t300, A60, H⟩ := H
   replace H : (if (t300.length : Int) = 0 then ((impl_left.f k1 x5_1).bind fun t303 => (some (x4_1, t303))) else (if 0 < (t300.length : Int) then ((impl_Hyper_edgeAt_in59_0.f k1 x294000_1 l0_1 x5_1 (rd t300 0)).bind fun t307 => (if 0 ≤ t307 then (if t307 < (x5_1.length : Int) then (if x4_1.length < 8796093022208 then (impl_Hyper_peel_in59_0.l0 k1 (x4_1 ++ [(⟨t307, rd t300 0⟩ : S65)]) (x5_1.set (t307 : Int).toNat true) x294000_1 l0_1) else (none)) else (none)) else (none))) else (none))) = some (r1, r2) := H
   have A6 := Aside0.mk A60
   clear A60
   by_cases c7 : (t300.length : Int) = 0
   ·
    rw [if_pos c7] at H
    have c7b0 : ((t300.length : Int) == 0) = true := beq_iff_eq.mpr c7
    have c7b1 : ((t300.length : Int) != 0) = false := bne_eq_false_iff_eq.mpr c7
    clear c7
    replace H := Option.bind_eq_some_iff.mp H
    obtain ⟨t303, A80, H⟩ := H
    replace H : (some (x4_1, t303)) = some (r1, r2) := H
    have A8 := Aside0.mk A80
    clear A80
    simp only [Option.some.injEq, Prod.mk.injEq] at H
    obtain ⟨rfl, rfl⟩ := H
    obtain ⟨Ao9, co9, eo9⟩ := Kd.R_slice HO_5.out
    subst eo9
    go_wp2_with (first | ((with_reducible refine gate_callee (f := 98) rfl ?_); refine goesL_ (some 13) rfl rfl Try.func98 (by kernel_rfl) rfl #[.pointer (some ⟨g0_0, 0, none⟩), .slice Ao9 x5_1.length co9] rfl (by (try simp only [List.map_toArray, List.map_cons, List.map_nil]); first | done | rfl | (simp only [List.length_drop, List.length_take]; rfl)) ?_; (with_reducible refine (impl_Hyper_singles_in59_0.calls k1 g0_0 x294000_1 A0_1 c0_1 l0_1 _ _ x5_1 t300 _ ?side1 ?side2 ?side3 ?side4 ?side5 A6.out).mono ?_); (case side1 => exact (uK BK293)); (case side2 => exact uC HR0_1 HB); (case side3 => exact HC0_1.out); (case side4 => exact uD HO_5); (case side5 => exact (Kd.R_reads' HO_5.out).2.1); rintro e w10 ⟨v301, rfl, ho0, hb⟩; refine ⟨_, rfl, ?_⟩; have n0_ := Aside0.mk (Kd.R_below (uR HO_4) hb); have n1_ := Aside0.mk (Kd.R_below (uR HO_5) hb); have n2_ := Aside0.mk (Kd.R_lower ho0 (below_size (by repeat (first | (with_reducible first | exact HB.out | apply below_alloc | apply pw_below_drewN | apply below_drew1 | refine below_set ?_ GE293.out) | exact HB.out)))); have n3_ := Aside0.mk (blk_below (g := g0_0) (o := .cells #[.int .i64 x294000_1, .slice A0_1 l0_1.length c0_1] 59 (0, 0)) (uK BK293) hb); have n4_ := Aside0.mk (below_step (by repeat (first | (with_reducible first | exact HB.out | apply below_alloc | apply pw_below_drewN | apply below_drew1 | refine below_set ?_ GE293.out) | exact HB.out)) hb); clear HO_4 HO_5 BK293 HB; have HO_4 := n0_; have HO_5 := n1_; have HO302 := n2_; have BK293 := n3_; have HB := n4_; clear n0_ n1_ n2_ n3_ n4_; (try clear hb); (try clear hb2); (try clear hk); (try clear hi); (try clear ho0); obtain ⟨Ao11, co11, eo11⟩ := Kd.R_slice HO302.out; subst eo11) | ((with_reducible refine gate_callee (f := 99) rfl ?_); refine goesL_ (some 19) rfl rfl Try.func99 (by kernel_rfl) rfl #[.slice Ao9 x5_1.length co9] rfl (by (try simp only [List.map_toArray, List.map_cons, List.map_nil]); first | done | rfl | (simp only [List.length_drop, List.length_take]; rfl)) ?_; (with_reducible refine (impl_left.calls k1 _ _ x5_1 t303 _ ?side1 ?side2 A8.out).mono ?_); (case side1 => exact uD HO_5); (case side2 => exact (Kd.R_reads' HO_5.out).2.1); rintro e w12 ⟨v304, rfl, ho0, hb⟩; refine ⟨_, rfl, ?_⟩; have n0_ := Aside0.mk (Kd.R_below (uR HO_4) hb); have n1_ := Aside0.mk (Kd.R_below (uR HO_5) hb); have n2_ := Aside0.mk (Kd.R_elder' (uR HO302) (Kd.R_base ho0) hb); have n3_ := Aside0.mk (Kd.R_lower (Kd.R_new' ho0 (Kd.R_lt (uR HO302))) (below_size (by repeat (first | (with_reducible first | exact HB.out | apply below_alloc | apply pw_below_drewN | apply below_drew1 | refine below_set ?_ GE293.out) | exact HB.out)))); have n4_ := Aside0.mk (blk_below (g := g0_0) (o := .cells #[.int .i64 x294000_1, .slice A0_1 l0_1.length c0_1] 59 (0, 0)) (uK BK293) hb); have n5_ := Aside0.mk (below_step (by repeat (first | (with_reducible first | exact HB.out | apply below_alloc | apply pw_below_drewN | apply below_drew1 | refine below_set ?_ GE293.out) | exact HB.out)) hb); clear HO_4 HO_5 HO302 BK293 HB; have HO_4 := n0_; have HO_5 := n1_; have HO302 := n2_; have HO305 := n3_; have BK293 := n4_; have HB := n5_; clear n0_ n1_ n2_ n3_ n4_ n5_; (try clear hb); (try clear hb2); (try clear hk); (try clear hi); (try clear ho0)))
    go_ret2
    exact ⟨_, _, by first | rfl | (simp [errW_none, errW_some] <;> rfl) | (simp [*, errW_none, errW_some] <;> rfl), by (with_reducible repeat (first | apply Kd.R_alloc | apply Kd.R_drewN | apply Kd.R_drew)); exact HO_4.out, by (with_reducible repeat (first | apply Kd.R_alloc | apply Kd.R_drewN | apply Kd.R_drew)); exact Kd.R_mono HO305.out (fun _ hk => trivial), by repeat (first | (with_reducible first | exact HB.out | apply below_alloc | apply pw_below_drewN | apply below_drew1 | refine below_set ?_ GE293.out) | exact HB.out)⟩
   ·
    rw [if_neg c7] at H
    have c7b0 : ((t300.length : Int) == 0) = false := beq_eq_false_iff_ne.mpr c7
    have c7b1 : ((t300.length : Int) != 0) = true := bne_iff_ne.mpr c7
    have c7b2 : ¬ (t300 = []) := fun h_ => c7 (by rw [h_]; rfl)
    by_cases c13 : 0 < (t300.length : Int)
    ·
     rw [if_pos c13] at H
     have c13b0 : decide (0 < (t300.length : Int)) = true := decide_eq_true c13
     have c13b1 : decide (0 < t300.length) = true := decide_eq_true (by omega)
     clear c13
     replace H := Option.bind_eq_some_iff.mp H
     obtain ⟨t307, A140, H⟩ := H
     replace H : (if 0 ≤ t307 then (if t307 < (x5_1.length : Int) then (if x4_1.length < 8796093022208 then (impl_Hyper_peel_in59_0.l0 k1 (x4_1 ++ [(⟨t307, rd t300 0⟩ : S65)]) (x5_1.set (t307 : Int).toNat true) x294000_1 l0_1) else (none)) else (none)) else (none)) = some (r1, r2) := H
     have A14 := Aside0.mk A140
     clear A140
     by_cases c15 : 0 ≤ t307
     ·
      rw [if_pos c15] at H
      have c15b0 : decide (0 ≤ t307) = true := decide_eq_true c15
      clear c15
      by_cases c16 : t307 < (x5_1.length : Int)
      ·
       rw [if_pos c16] at H
       have c16b0 : decide (t307 < (x5_1.length : Int)) = true := decide_eq_true c16
       clear c16
       obtain ⟨y308, hy308⟩ : ∃ y_ : List Bool, y_ = (x5_1.set (t307 : Int).toNat true) := ⟨_, rfl⟩
       replace H : (if x4_1.length < 8796093022208 then (impl_Hyper_peel_in59_0.l0 k1 (x4_1 ++ [(⟨t307, rd t300 0⟩ : S65)]) y308 x294000_1 l0_1) else (none)) = some (r1, r2) := by first | (rw [hy308]; with_reducible exact H) | (have H2_ := (Option.bind_some _ _).symm.trans H; rw [hy308]; with_reducible exact H2_) | (have H2_ := (Option.bind_some _ _).symm.trans H; with_reducible exact H2_) | with_reducible exact H | (rw [hy308]; exact H) | exact H
       have Ny308 := Aside0.mk hy308
       clear hy308
       by_cases c18 : x4_1.length < 8796093022208
       ·
        rw [if_pos c18] at H
        have LMc18 := Aside0.mk c18
        clear c18
        obtain ⟨y310, hy310⟩ : ∃ y_ : List (S65), y_ = (x4_1 ++ [(⟨t307, rd t300 0⟩ : S65)]) := ⟨_, rfl⟩
        replace H : (impl_Hyper_peel_in59_0.l0 k1 y310 y308 x294000_1 l0_1) = some (r1, r2) := by first | (rw [hy310]; with_reducible exact H) | (have H2_ := (Option.bind_some _ _).symm.trans H; rw [hy310]; with_reducible exact H2_) | (have H2_ := (Option.bind_some _ _).symm.trans H; with_reducible exact H2_) | with_reducible exact H | (rw [hy310]; exact H) | exact H
        have Ny310 := Aside0.mk hy310
        clear hy310
        have H' := Aside0.mk H
        clear H
        obtain ⟨Ao19, co19, eo19⟩ := Kd.R_slice HO_5.out
        subst eo19
        go_wp2_with (first | ((with_reducible refine gate_callee (f := 98) rfl ?_); refine goesL_ (some 13) rfl rfl Try.func98 (by kernel_rfl) rfl #[.pointer (some ⟨g0_0, 0, none⟩), .slice Ao19 x5_1.length co19] rfl (by (try simp only [List.map_toArray, List.map_cons, List.map_nil]); first | done | rfl | (simp only [List.length_drop, List.length_take]; rfl)) ?_; (with_reducible refine (impl_Hyper_singles_in59_0.calls k1 g0_0 x294000_1 A0_1 c0_1 l0_1 _ _ x5_1 t300 _ ?side1 ?side2 ?side3 ?side4 ?side5 A6.out).mono ?_); (case side1 => exact (uK BK293)); (case side2 => exact uC HR0_1 HB); (case side3 => exact HC0_1.out); (case side4 => exact uD HO_5); (case side5 => exact (Kd.R_reads' HO_5.out).2.1); rintro e w20 ⟨v301, rfl, ho0, hb⟩; refine ⟨_, rfl, ?_⟩; have n0_ := Aside0.mk (Kd.R_below (uR HO_4) hb); have n1_ := Aside0.mk (Kd.R_below (uR HO_5) hb); have n2_ := Aside0.mk (Kd.R_lower ho0 (below_size (by repeat (first | (with_reducible first | exact HB.out | apply below_alloc | apply pw_below_drewN | apply below_drew1 | refine below_set ?_ GE293.out) | exact HB.out)))); have n3_ := Aside0.mk (blk_below (g := g0_0) (o := .cells #[.int .i64 x294000_1, .slice A0_1 l0_1.length c0_1] 59 (0, 0)) (uK BK293) hb); have n4_ := Aside0.mk (below_step (by repeat (first | (with_reducible first | exact HB.out | apply below_alloc | apply pw_below_drewN | apply below_drew1 | refine below_set ?_ GE293.out) | exact HB.out)) hb); clear HO_4 HO_5 BK293 HB; have HO_4 := n0_; have HO_5 := n1_; have HO302 := n2_; have BK293 := n3_; have HB := n4_; clear n0_ n1_ n2_ n3_ n4_; (try clear hb); (try clear hb2); (try clear hk); (try clear hi); (try clear ho0); obtain ⟨Ao21, co21, eo21⟩ := Kd.R_slice HO302.out; subst eo21; have p306 : 0 ≤ (0 : Int) := (by omega); have q306 : 0 < (t300.length : Int) := of_decide_eq_true (by first | (with_reducible assumption) | assumption); obtain ⟨ad306, e306, hx306_0⟩ := Kd.at_int (Kd.R_reads' HO302.out).2.2 0 p306 q306; cases e306; have qi306 : (0 < t300.length) = True := eq_true (by omega); (try rw [show ((0 : Int)).toNat = 0 from rfl] at hx306_0); (try rw [Addr.add_zero'] at hx306_0); replace p306 := eq_true p306; replace q306 := eq_true q306) | ((with_reducible refine gate_callee (f := 100) rfl ?_); refine goesL_ (some 25) rfl rfl Try.func100 (by kernel_rfl) rfl #[.pointer (some ⟨g0_0, 0, none⟩), .slice Ao19 x5_1.length co19, .int .i64 (rd t300 0)] rfl (by (try simp only [List.map_toArray, List.map_cons, List.map_nil]); first | done | rfl | (simp only [List.length_drop, List.length_take]; rfl)) ?_; (with_reducible refine (impl_Hyper_edgeAt_in59_0.calls k1 g0_0 x294000_1 A0_1 c0_1 l0_1 _ _ x5_1 (rd t300 0) t307 _ ?side1 ?side2 ?side3 ?side4 ?side5 A14.out).mono ?_); (case side1 => exact (uK BK293)); (case side2 => exact uC HR0_1 HB); (case side3 => exact HC0_1.out); (case side4 => exact uD HO_5); (case side5 => exact (Kd.R_reads' HO_5.out).2.1); rintro e w22 ⟨rfl, hb⟩; refine ⟨_, rfl, ?_⟩; have n0_ := Aside0.mk (Kd.R_below (uR HO_4) hb); have n1_ := Aside0.mk (Kd.R_below (uR HO_5) hb); have n2_ := Aside0.mk (Kd.R_below (uR HO302) hb); have n3_ := Aside0.mk (blk_below (g := g0_0) (o := .cells #[.int .i64 x294000_1, .slice A0_1 l0_1.length c0_1] 59 (0, 0)) (uK BK293) hb); have n4_ := Aside0.mk (below_step (by repeat (first | (with_reducible first | exact HB.out | apply below_alloc | apply pw_below_drewN | apply below_drew1 | refine below_set ?_ GE293.out) | exact HB.out)) hb); clear HO_4 HO_5 HO302 BK293 HB; have HO_4 := n0_; have HO_5 := n1_; have HO302 := n2_; have BK293 := n3_; have HB := n4_; clear n0_ n1_ n2_ n3_ n4_; (try clear hb); (try clear hb2); (try clear hk); (try clear hi); have p17 : 0 ≤ (t307 : Int) := of_decide_eq_true (by first | (with_reducible assumption) | assumption); have q17 : (t307 : Int) < ((x5_1.length : Int) : Int) := of_decide_eq_true (by first | (with_reducible assumption) | assumption); obtain ⟨go17, co17, eo17, gb17, gl17, cl17, HG17⟩ := Kd.R_form HO_5.out (by omega); (first | cases eo17 | (injection eo17 with ea_ en_ ec_; (first | subst ea_ | (injection ea_ with ea_; subst ea_)); subst ec_; clear en_)); have GB17 := Aside0.mk gb17; have GG17 := Aside0.mk HG17; clear gb17 gl17 HG17; obtain ⟨hx17_0, hf17_0⟩ := Kd.R_celln false HO_5.out (t307 : Int) p17 q17; replace p17 := eq_true p17; replace q17 := eq_true q17; obtain ⟨hy23_, hz23_⟩ := Kd.R_celln false HO_5.out (t307 : Int) (of_decide_eq_true (by first | (with_reducible assumption) | assumption)) (of_decide_eq_true (by first | (with_reducible assumption) | assumption)); have HP23 := Kd.R_putg HO_5.out (t307 : Int) true) | ((with_reducible refine gate_store (t := 4) (p := 28) rfl ?_); refine store_event (t := 4) (p := 28) (v := ?vo_w24) (w1 := (w22.setCell ⟨go17, (t307 : Int).toNat, none⟩ (.bool true))) ?hg ?ho ?hn ?hr ?_; (case ho => rfl); (case hg => rfl); (case hn => rfl); (case hr => first | (go_simp; done) | (go_simp; rfl)); intro w24 hw; have hg : w22.grownBy w24 (some go17) := (by rw [hw]; exact HP23.2); have hp_ : Kd.R Kd.bool 4 w24 w.heap.size (fun _ => True) (.slice (some ⟨go17, 0, none⟩) x5_1.length co19) y308 := (by rw [hw, Ny308.out]; exact HP23.1); clear HP23; have n0_ := Aside0.mk (Kd.R_over' (v := (.slice (some ⟨go17, 0, none⟩) x5_1.length co19)) (uR HO_4) (Kd.R_typed HO_5.out) (by decide) hg); have n1_ := Aside0.mk (hp_); have n2_ := Aside0.mk (blk_grown (g := g0_0) (o := .cells #[.int .i64 x294000_1, .slice A0_1 l0_1.length c0_1] 59 (0, 0)) (uK BK293) hg (Kd.R_ne HO_5.out BK293.out (by decide))); have n3_ := Aside0.mk (Kd.R_over' (v := (.slice (some ⟨go17, 0, none⟩) x5_1.length co19)) (uR HO302) (Kd.R_typed HO_5.out) (by decide) hg); have n4_ := Aside0.mk ((by rw [hw]; exact below_set (HB.out) GB17.out : Below w.heap.size w w24)); clear HO_4 HO_5 BK293 HO302 HB; have HO_4 := n0_; have HO_5 := n1_; have BK293 := n2_; have HO302 := n3_; have HB := n4_; clear n0_ n1_ n2_ n3_ n4_ hg hw hp_; have p309 : 0 ≤ (0 : Int) := (by omega); have q309 : 0 < (t300.length : Int) := of_decide_eq_true (by first | (with_reducible assumption) | assumption); obtain ⟨ad309, e309, hx309_0⟩ := Kd.at_int (Kd.R_reads' HO302.out).2.2 0 p309 q309; obtain rfl : ad306 = ad309 := (by injection e309); have qi309 : (0 < t300.length) = True := eq_true (by omega); (try rw [show ((0 : Int)).toNat = 0 from rfl] at hx309_0); (try rw [Addr.add_zero'] at hx309_0); replace p309 := eq_true p309; replace q309 := eq_true q309) | ((with_reducible refine gate_builtin (b := .append) (xs := #[.tmp 29, .tmp 35]) rfl ?_); at_builtin; refine Kd.R_append k65 (w0 := w) w.heap.size rfl (.tmp 29) (.tmp 35) 61 65 (.agg #[(.int .i64 0), (.int .i64 0)]) 16 rfl Try.underlying61 info65 rfl (by decide) (by omega) u4 x4_1 (⟨t307, rd t300 0⟩ : S65) [.int .i64 t307, .int .i64 (rd t300 0)] (fun _ => True) (fun _ => False) rfl rfl ?aP (fun _ hk => hk.elim) ?aF ?aO ?aB ?aS ?aL ?_; (case aP => exact k65_mkM _ _ _ (⟨t307, rd t300 0⟩ : S65)); (case aB => exact (by repeat (first | (with_reducible first | exact HB.out | apply below_alloc | apply pw_below_drewN | apply below_drew1 | refine below_set ?_ GE293.out) | exact HB.out))); (case aF => exact (fun _ _ => trivial)); (case aO => exact (uR HO_4)); (case aS => exact (below_size (by repeat (first | (with_reducible first | exact HB.out | apply below_alloc | apply pw_below_drewN | apply below_drew1 | refine below_set ?_ GE293.out) | exact HB.out)))); (case aL => have := LMc18.out; omega); intro v311 w25 ho hb hg hat; rw [← Ny310.out] at ho; have n0_ := Aside0.mk (Kd.R_over' (uR HO_5) (Kd.R_typed (uR HO_4)) (by decide) hg); have n1_ := Aside0.mk (blk_grown (g := g0_0) (o := .cells #[.int .i64 x294000_1, .slice A0_1 l0_1.length c0_1] 59 (0, 0)) (uK BK293) hg (Kd.R_ne HO_4.out BK293.out (by decide))); have n2_ := Aside0.mk (Kd.R_over' (uR HO302) (Kd.R_typed (uR HO_4)) (by decide) hg); have n3_ := Aside0.mk (hb); have n4_ := Aside0.mk (ho); clear HO_5 BK293 HO302 HB HO_4; have HO_5 := n0_; have BK293 := n1_; have HO302 := n2_; have HB := n3_; have HO312 := n4_; clear n0_ n1_ n2_ n3_ n4_; clear ho hb hg hat))
        go_roundg k1
        case measure => have := HK1.out; omega
        case rel => exact ⟨(y310), (y308), (x294000_1), H', ⟨by have := HK1.out; omega⟩, ⟨by (with_reducible repeat (first | apply Kd.R_alloc | apply Kd.R_drewN | apply Kd.R_drew)); exact HO312.out⟩, ⟨by (with_reducible repeat (first | apply Kd.R_alloc | apply Kd.R_drewN | apply Kd.R_drew)); exact HO_5.out⟩, ⟨by refine uW ?_; exact BK293.out⟩, ⟨by repeat (first | (with_reducible first | exact HB.out | apply below_alloc | apply pw_below_drewN | apply below_drew1 | refine below_set ?_ GE293.out) | exact HB.out)⟩⟩
       ·
        rw [if_neg c18] at H
        exact absurd H (by simp)
      ·
       rw [if_neg c16] at H
       exact absurd H (by simp)
     ·
      rw [if_neg c15] at H
      exact absurd H (by simp)
    ·
     rw [if_neg c13] at H
     exact absurd H (by simp)

/-! ### impl_Hyper_order_in59_0: function 40 -/
def impl_Hyper_order_in59_0.f (k : Nat) (a0_0 : Int) (l0_1 : List (List Int)) : Option ((List (S65)) × Bool) := (impl_Hyper_peel_in59_0.f k a0_0 l0_1).bind fun bt314 => (some (bt314.1, ((bt314.2.length : Int) == 0)))
theorem impl_Hyper_order_in59_0.mono : ∀ a0 a1 k, LeO (impl_Hyper_order_in59_0.f k a0 a1) (impl_Hyper_order_in59_0.f (k + 1) a0 a1) := by
 intro a0 a1 k
 unfold impl_Hyper_order_in59_0.f
 repeat' first
   | (with_reducible exact impl_Hyper_peel_in59_0.mono _ _ _)
   | (with_reducible exact LeO.refl _)
   | (with_reducible exact LeO.none _)
   | (with_reducible refine LeO.ite ?_ ?_)
   | (with_reducible refine LeO.bind ?_ (fun _ => ?_))
   | exact impl_Hyper_peel_in59_0.mono _ _ _
   | exact LeO.none _
   | refine LeO.ite ?_ ?_
   | refine LeO.bind ?_ (fun _ => ?_)
set_option maxHeartbeats 8000000 in
set_option maxRecDepth 100000 in
theorem impl_Hyper_order_in59_0.calls (k : Nat) (g0_0 : Nat) (a0_0 : Int) (A0_1 : Option Addr) (c0_1 : Nat) (l0_1 : List (List Int)) (r1 : List (S65)) (r2 : Bool) (w : World) (hb0_0 : w.heap[g0_0]? = some (.cells #[.int .i64 a0_0, .slice A0_1 l0_1.length c0_1] 59 (0, 0))) (hr0_1 : Kd.C (Kd.slice 3 (Kd.int .i64)) w A0_1 l0_1.length l0_1) (hc0_1 : l0_1.length ≤ c0_1) (h : impl_Hyper_order_in59_0.f k a0_0 l0_1 = some (r1, r2)) :
  Calls Try.prog 40 #[.pointer (some ⟨g0_0, 0, none⟩)] w fun e w' => ∃ v0_ : Value, e = .returned (.tuple #[v0_, .bool r2]) ∧ Kd.R k65 65 w' w.heap.size (fun _ => True) v0_ r1 ∧ Below w.heap.size w w' := by
 have HR0_1 := Aside0.mk hr0_1
 have HC0_1 := Aside0.mk hc0_1
 clear hr0_1 hc0_1
 have BK313 := Aside0.mk hb0_0
 clear hb0_0
 have HB := Aside0.mk (Below.refl w.heap.size w)
 have H : ((impl_Hyper_peel_in59_0.f k a0_0 l0_1).bind fun bt314 => (some (bt314.1, ((bt314.2.length : Int) == 0)))) = some (r1, r2) := h
 clear h
 replace H := Option.bind_eq_some_iff.mp H
 obtain ⟨⟨t314, t317⟩, A20, H⟩ := H
 replace H : (some (t314, ((t317.length : Int) == 0))) = some (r1, r2) := H
 have A2 := Aside0.mk A20
 clear A20
 simp only [Option.some.injEq, Prod.mk.injEq] at H
 obtain ⟨rfl, rfl⟩ := H
 go_enter Try.func40, Try.ntmps40
 go_wp2_with (first | ((with_reducible refine gate_callee (f := 74) rfl ?_); refine goesL_ (some 8) rfl rfl Try.func74 (by kernel_rfl) rfl #[.pointer (some ⟨g0_0, 0, none⟩)] rfl (by (try simp only [List.map_toArray, List.map_cons, List.map_nil]); first | done | rfl | (simp only [List.length_drop, List.length_take]; rfl)) ?_; (with_reducible refine (impl_Hyper_peel_in59_0.calls k g0_0 a0_0 A0_1 c0_1 l0_1 t314 t317 _ ?side1 ?side2 ?side3 A2.out).mono ?_); (case side1 => exact (uK BK313)); (case side2 => repeat (first | exact HR0_1.out | (with_reducible refine Kd.C_alloc ?_ _) | (with_reducible refine Kd.C_drewN ?_ _) | (with_reducible refine Kd.C_drew ?_))); (case side3 => exact HC0_1.out); rintro e w3 ⟨v315, v318, rfl, ho0, ho1, hb⟩; refine ⟨_, rfl, ?_⟩; have n0_ := Aside0.mk (Kd.R_lower ho0 (below_size (by repeat (first | (with_reducible first | exact HB.out | apply below_alloc | apply pw_below_drewN | apply below_drew1 | refine below_set ?_ GE313.out) | exact HB.out)))); have n1_ := Aside0.mk (Kd.R_lower ho1 (below_size (by repeat (first | (with_reducible first | exact HB.out | apply below_alloc | apply pw_below_drewN | apply below_drew1 | refine below_set ?_ GE313.out) | exact HB.out)))); have n2_ := Aside0.mk (blk_below (g := g0_0) (o := .cells #[.int .i64 a0_0, .slice A0_1 l0_1.length c0_1] 59 (0, 0)) (uK BK313) hb); have n3_ := Aside0.mk (below_step (by repeat (first | (with_reducible first | exact HB.out | apply below_alloc | apply pw_below_drewN | apply below_drew1 | refine below_set ?_ GE313.out) | exact HB.out)) hb); clear BK313 HB; have HO316 := n0_; have HO319 := n1_; have BK313 := n2_; have HB := n3_; clear n0_ n1_ n2_ n3_; (try clear hb); (try clear hb2); (try clear hk); (try clear hi); (try clear ho0); (try clear ho1); obtain ⟨Ao4, co4, eo4⟩ := Kd.R_slice HO319.out; subst eo4))
 go_ret2
 exact ⟨_, by first | rfl | (simp [errW_none, errW_some] <;> rfl) | (simp [*, errW_none, errW_some] <;> rfl), by (with_reducible repeat (first | apply Kd.R_alloc | apply Kd.R_drewN | apply Kd.R_drew)); exact HO316.out, by repeat (first | (with_reducible first | exact HB.out | apply below_alloc | apply pw_below_drewN | apply below_drew1 | refine below_set ?_ GE313.out) | exact HB.out)⟩

/-! ### impl_Ordered_ordinal_in26_0: function 42 -/
def impl_Ordered_ordinal_in26_0.f (a0_0 : Int) (a0_1 : Int) (a0_2 : Int) (l0_3 : List Int) (l1 : List Int) : Option (Int) := if 0 < (l1.length : Int) then (if 0 ≤ (rd l1 0) then (if (rd l1 0) < (l0_3.length : Int) then (if 1 < (l1.length : Int) then (if 0 ≤ (rd l1 1) then (if (rd l1 1) < (l0_3.length : Int) then (if 2 < (l1.length : Int) then (if 0 ≤ (rd l1 2) then (if (rd l1 2) < (l0_3.length : Int) then (if a0_2 = 0 then (none) else (some (Int.tmod (wrap64 ((wrap64 ((rd l0_3 (rd l1 0)) + (rd l0_3 (rd l1 1)))) + (rd l0_3 (rd l1 2)))) a0_2))) else (none)) else (none)) else (none)) else (none)) else (none)) else (none)) else (none)) else (none)) else (none)
set_option maxHeartbeats 8000000 in
set_option maxRecDepth 100000 in
theorem impl_Ordered_ordinal_in26_0.calls (g0_0 : Nat) (a0_0 : Int) (a0_1 : Int) (a0_2 : Int) (A0_3 : Option Addr) (c0_3 : Nat) (l0_3 : List Int) (A1 : Option Addr) (c1 : Nat) (l1 : List Int) (r : Int) (w : World) (hb0_0 : w.heap[g0_0]? = some (.cells #[.int .i64 a0_0, .int .i64 a0_1, .int .i64 a0_2, .slice A0_3 l0_3.length c0_3] 26 (0, 0))) (hr0_3 : Kd.C (Kd.int .i64) w A0_3 l0_3.length l0_3) (hc0_3 : l0_3.length ≤ c0_3) (hr1 : Kd.C (Kd.int .i64) w A1 l1.length l1) (hc1 : l1.length ≤ c1) (h : impl_Ordered_ordinal_in26_0.f a0_0 a0_1 a0_2 l0_3 l1 = some r) :
  Calls Try.prog 42 #[.pointer (some ⟨g0_0, 0, none⟩), .slice A1 l1.length c1] w fun e w' => e = .returned (.int .i64 r) ∧ Below w.heap.size w w' := by
 have HR0_3 := Aside0.mk hr0_3
 have HC0_3 := Aside0.mk hc0_3
 clear hr0_3 hc0_3
 have HR1 := Aside0.mk hr1
 have HC1 := Aside0.mk hc1
 clear hr1 hc1
 have BK320 := Aside0.mk hb0_0
 clear hb0_0
 have HB := Aside0.mk (Below.refl w.heap.size w)
 have H : (if 0 < (l1.length : Int) then (if 0 ≤ (rd l1 0) then (if (rd l1 0) < (l0_3.length : Int) then (if 1 < (l1.length : Int) then (if 0 ≤ (rd l1 1) then (if (rd l1 1) < (l0_3.length : Int) then (if 2 < (l1.length : Int) then (if 0 ≤ (rd l1 2) then (if (rd l1 2) < (l0_3.length : Int) then (if a0_2 = 0 then (none) else (some (Int.tmod (wrap64 ((wrap64 ((rd l0_3 (rd l1 0)) + (rd l0_3 (rd l1 1)))) + (rd l0_3 (rd l1 2)))) a0_2))) else (none)) else (none)) else (none)) else (none)) else (none)) else (none)) else (none)) else (none)) else (none)) = some r := h
 clear h
 by_cases c3 : 0 < (l1.length : Int)
 ·
  rw [if_pos c3] at H
  have c3b0 : decide (0 < (l1.length : Int)) = true := decide_eq_true c3
  have c3b1 : decide (0 < l1.length) = true := decide_eq_true (by omega)
  clear c3
  by_cases c4 : 0 ≤ (rd l1 0)
  ·
   rw [if_pos c4] at H
   have c4b0 : decide (0 ≤ (rd l1 0)) = true := decide_eq_true c4
   clear c4
   by_cases c5 : (rd l1 0) < (l0_3.length : Int)
   ·
    rw [if_pos c5] at H
    have c5b0 : decide ((rd l1 0) < (l0_3.length : Int)) = true := decide_eq_true c5
    clear c5
    by_cases c6 : 1 < (l1.length : Int)
    ·
     rw [if_pos c6] at H
     have c6b0 : decide (1 < (l1.length : Int)) = true := decide_eq_true c6
     have c6b1 : decide (1 < l1.length) = true := decide_eq_true (by omega)
     clear c6
     by_cases c7 : 0 ≤ (rd l1 1)
     ·
      rw [if_pos c7] at H
      have c7b0 : decide (0 ≤ (rd l1 1)) = true := decide_eq_true c7
      clear c7
      by_cases c8 : (rd l1 1) < (l0_3.length : Int)
      ·
       rw [if_pos c8] at H
       have c8b0 : decide ((rd l1 1) < (l0_3.length : Int)) = true := decide_eq_true c8
       clear c8
       by_cases c9 : 2 < (l1.length : Int)
       ·
        rw [if_pos c9] at H
        have c9b0 : decide (2 < (l1.length : Int)) = true := decide_eq_true c9
        have c9b1 : decide (2 < l1.length) = true := decide_eq_true (by omega)
        clear c9
        by_cases c10 : 0 ≤ (rd l1 2)
        ·
         rw [if_pos c10] at H
         have c10b0 : decide (0 ≤ (rd l1 2)) = true := decide_eq_true c10
         clear c10
         by_cases c11 : (rd l1 2) < (l0_3.length : Int)
         ·
          rw [if_pos c11] at H
          have c11b0 : decide ((rd l1 2) < (l0_3.length : Int)) = true := decide_eq_true c11
          clear c11
          by_cases c12 : a0_2 = 0
          ·
           rw [if_pos c12] at H
           exact absurd H (by simp)
          ·
           rw [if_neg c12] at H
           have c12b0 : (a0_2 == 0) = false := beq_eq_false_iff_ne.mpr c12
           have c12b1 : (a0_2 != 0) = true := bne_iff_ne.mpr c12
           obtain rfl := Option.some.inj H
           have hcz13_0 : w.cell? ⟨g0_0, 0, none⟩ = some (.int .i64 a0_0) := (blk_cell BK320.out 0).trans rfl
           have hcz13_1 : w.cell? ⟨g0_0, 1, none⟩ = some (.int .i64 a0_1) := (blk_cell BK320.out 1).trans rfl
           have hcz13_2 : w.cell? ⟨g0_0, 2, none⟩ = some (.int .i64 a0_2) := (blk_cell BK320.out 2).trans rfl
           have hcz13_3 : w.cell? ⟨g0_0, 3, none⟩ = some (.slice A0_3 l0_3.length c0_3) := (blk_cell BK320.out 3).trans rfl
           have hfz13_0 := blk_frozen BK320.out 0
           have hfz13_1 := blk_frozen BK320.out 1
           have hfz13_2 := blk_frozen BK320.out 2
           have hfz13_3 := blk_frozen BK320.out 3
           have p321 : 0 ≤ (0 : Int) := (by omega)
           have q321 : 0 < (l1.length : Int) := of_decide_eq_true (by first | (with_reducible assumption) | assumption)
           obtain ⟨ad321, e321, hx321_0⟩ := Kd.at_int HR1.out 0 p321 q321
           cases e321
           have qi321 : (0 < l1.length) = True := eq_true (by omega)
           (try rw [show ((0 : Int)).toNat = 0 from rfl] at hx321_0)
           (try rw [Addr.add_zero'] at hx321_0)
           replace p321 := eq_true p321
           replace q321 := eq_true q321
           have p322 : 0 ≤ ((rd l1 0) : Int) := of_decide_eq_true (by first | (with_reducible assumption) | assumption)
           have q322 : (rd l1 0) < (l0_3.length : Int) := of_decide_eq_true (by first | (with_reducible assumption) | assumption)
           obtain ⟨ad322, e322, hx322_0⟩ := Kd.at_int HR0_3.out (rd l1 0) p322 q322
           cases e322
           replace p322 := eq_true p322
           replace q322 := eq_true q322
           have p323 : 0 ≤ (1 : Int) := (by omega)
           have q323 : 1 < (l1.length : Int) := of_decide_eq_true (by first | (with_reducible assumption) | assumption)
           obtain ⟨ad323, e323, hx323_0⟩ := Kd.at_int HR1.out 1 p323 q323
           obtain rfl : ad321 = ad323 := (by injection e323)
           (try simp only [show (1 : Int).toNat = 1 from rfl, Nat.reduceMul, Nat.reduceEqDiff, Go.Addr.add, ↓reduceIte] at hx323_0)
           have qi323 : (1 < l1.length) = True := eq_true (by omega)
           (try rw [show ((1 : Int)).toNat = 1 from rfl] at hx323_0)
           replace p323 := eq_true p323
           replace q323 := eq_true q323
           have p324 : 0 ≤ ((rd l1 1) : Int) := of_decide_eq_true (by first | (with_reducible assumption) | assumption)
           have q324 : (rd l1 1) < (l0_3.length : Int) := of_decide_eq_true (by first | (with_reducible assumption) | assumption)
           obtain ⟨ad324, e324, hx324_0⟩ := Kd.at_int HR0_3.out (rd l1 1) p324 q324
           obtain rfl : ad322 = ad324 := (by injection e324)
           replace p324 := eq_true p324
           replace q324 := eq_true q324
           have p325 : 0 ≤ (2 : Int) := (by omega)
           have q325 : 2 < (l1.length : Int) := of_decide_eq_true (by first | (with_reducible assumption) | assumption)
           obtain ⟨ad325, e325, hx325_0⟩ := Kd.at_int HR1.out 2 p325 q325
           obtain rfl : ad321 = ad325 := (by injection e325)
           (try simp only [show (2 : Int).toNat = 2 from rfl, Nat.reduceMul, Nat.reduceEqDiff, Go.Addr.add, ↓reduceIte] at hx325_0)
           have qi325 : (2 < l1.length) = True := eq_true (by omega)
           (try rw [show ((2 : Int)).toNat = 2 from rfl] at hx325_0)
           replace p325 := eq_true p325
           replace q325 := eq_true q325
           have p326 : 0 ≤ ((rd l1 2) : Int) := of_decide_eq_true (by first | (with_reducible assumption) | assumption)
           have q326 : (rd l1 2) < (l0_3.length : Int) := of_decide_eq_true (by first | (with_reducible assumption) | assumption)
           obtain ⟨ad326, e326, hx326_0⟩ := Kd.at_int HR0_3.out (rd l1 2) p326 q326
           obtain rfl : ad322 = ad326 := (by injection e326)
           replace p326 := eq_true p326
           replace q326 := eq_true q326
           go_enter Try.func42, Try.ntmps42
           go_wp2
           repeat (go_quiet (fail); try go_wp2)
           go_ret
           exact ⟨by first | rfl | (simp [errW_none, errW_some] <;> rfl) | (simp [*, errW_none, errW_some] <;> rfl), by repeat (first | (with_reducible first | exact HB.out | apply below_alloc | apply pw_below_drewN | apply below_drew1 | refine below_set ?_ GE320.out) | exact HB.out)⟩
         ·
          rw [if_neg c11] at H
          exact absurd H (by simp)
        ·
         rw [if_neg c10] at H
         exact absurd H (by simp)
       ·
        rw [if_neg c9] at H
        exact absurd H (by simp)
      ·
       rw [if_neg c8] at H
       exact absurd H (by simp)
     ·
      rw [if_neg c7] at H
      exact absurd H (by simp)
    ·
     rw [if_neg c6] at H
     exact absurd H (by simp)
   ·
    rw [if_neg c5] at H
    exact absurd H (by simp)
  ·
   rw [if_neg c4] at H
   exact absurd H (by simp)
 ·
  rw [if_neg c3] at H
  exact absurd H (by simp)

end Go.Proofs.Ytippedfjmlkpiaa.PFnExactBuildOrdered
