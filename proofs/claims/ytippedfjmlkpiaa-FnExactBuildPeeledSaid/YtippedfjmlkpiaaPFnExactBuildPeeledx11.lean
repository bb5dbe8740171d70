-- made by wip/tools/myprint.py over the kit's print, for this claim
import Derived.Test.YtippedfjmlkpiaaPFnExactBuildPeeledx0
import Derived.Test.YtippedfjmlkpiaaPFnExactBuildPeeledx9
import Derived.Test.YtippedfjmlkpiaaPFnExactBuildPeeledx10
import Derived.Test.YtippedfjmlkpiaaTBack
namespace Go.Proofs.Ytippedfjmlkpiaa.PFnExactBuildPeeled
open Go.RowKit Go.Proofs.YtippedfjmlkpiaaW.PrintWords Go.Proofs.YtippedfjmlkpiaaW.PrintLast Go.Proofs.YtippedfjmlkpiaaW.PrintMore
attribute [local go_sem] max2_int min2_int max_two min_two max_three min_three max_four min_four   -- for this text's walks alone
set_option linter.unusedVariables false
set_option linter.unusedSimpArgs false

/-! ### impl_Hyper_edgeAt_in59_0: function 100 -/
def impl_Hyper_edgeAt_in59_0.l0 : Nat → List Bool → Int → Int → Int → List (List Int) → Option (Int)
 | 0, _, _, _, _, _ => none
 | k + 1, x1, x2, x7, x308000, x308001 => if 0 ≤ x7 then (if x7 < (x1.length : Int) then (if rdOf false x1 x7 = true then (impl_Hyper_edgeAt_in59_0.l0 k x1 x2 (wrap64 (x7 + 1)) x308000 x308001) else (if x7 < (x308001.length : Int) then ((slices_Contains_int_int.f k (rd_L3 x308001 x7) x2).bind fun t310 => (if t310 = true then (some x7) else (impl_Hyper_edgeAt_in59_0.l0 k x1 x2 (wrap64 (x7 + 1)) x308000 x308001))) else (none))) else (none)) else (none)
def impl_Hyper_edgeAt_in59_0.f (k : Nat) (a0_0 : Int) (l0_1 : List (List Int)) (l1 : List Bool) (a2 : Int) : Option (Int) := impl_Hyper_edgeAt_in59_0.l0 k l1 a2 0 a0_0 l0_1
theorem impl_Hyper_edgeAt_in59_0.mono_l : ∀ k, (∀ y0 y1 y2 y3 y4, LeO (impl_Hyper_edgeAt_in59_0.l0 k y0 y1 y2 y3 y4) (impl_Hyper_edgeAt_in59_0.l0 (k + 1) y0 y1 y2 y3 y4))
 | 0 => fun _ _ _ _ _ r h => by simp [impl_Hyper_edgeAt_in59_0.l0] at h
 | k + 1 => by
  have ih0 := impl_Hyper_edgeAt_in59_0.mono_l k
  ·
   intro y0 y1 y2 y3 y4
   unfold impl_Hyper_edgeAt_in59_0.l0
   repeat' first
   | (with_reducible exact ih0 _ _ _ _ _)
   | (with_reducible exact slices_Contains_int_int.mono _ _ _)
   | (with_reducible exact LeO.refl _)
   | (with_reducible exact LeO.none _)
   | (with_reducible refine LeO.ite ?_ ?_)
   | (with_reducible refine LeO.bind ?_ (fun _ => ?_))
   | exact ih0 _ _ _ _ _
   | exact slices_Contains_int_int.mono _ _ _
   | exact LeO.none _
   | refine LeO.ite ?_ ?_
   | refine LeO.bind ?_ (fun _ => ?_)
theorem impl_Hyper_edgeAt_in59_0.mono : ∀ a0 a1 a2 a3 k, LeO (impl_Hyper_edgeAt_in59_0.f k a0 a1 a2 a3) (impl_Hyper_edgeAt_in59_0.f (k + 1) a0 a1 a2 a3) := by
 intro a0 a1 a2 a3 k
 have ih0 := impl_Hyper_edgeAt_in59_0.mono_l k
 unfold impl_Hyper_edgeAt_in59_0.f
 repeat' first
   | (with_reducible exact ih0 _ _ _ _ _)
   | (with_reducible exact slices_Contains_int_int.mono _ _ _)
   | (with_reducible exact LeO.refl _)
   | (with_reducible exact LeO.none _)
   | (with_reducible refine LeO.ite ?_ ?_)
   | (with_reducible refine LeO.bind ?_ (fun _ => ?_))
   | exact ih0 _ _ _ _ _
   | exact slices_Contains_int_int.mono _ _ _
   | exact LeO.none _
   | refine LeO.ite ?_ ?_
   | refine LeO.bind ?_ (fun _ => ?_)
set_option maxHeartbeats 8000000 in
set_option maxRecDepth 100000 in
theorem impl_Hyper_edgeAt_in59_0.calls (k : Nat) (g0_0 : Nat) (a0_0 : Int) (A0_1 : Option Addr) (c0_1 : Nat) (l0_1 : List (List Int)) (A1 : Option Addr) (c1 : Nat) (l1 : List Bool) (a2 : Int) (r : Int) (w : World) (hb0_0 : w.heap[g0_0]? = some (.cells #[.int .i64 a0_0, .slice A0_1 l0_1.length c0_1] 59 (0, 0))) (hr0_1 : Kd.C (Kd.slice 3 (Kd.int .i64)) w A0_1 l0_1.length l0_1) (hc0_1 : l0_1.length ≤ c0_1) (hr1 : Kd.C Kd.bool w A1 l1.length l1) (hc1 : l1.length ≤ c1) (h : impl_Hyper_edgeAt_in59_0.f k a0_0 l0_1 l1 a2 = some r) :
  Calls Try.prog 100 #[.pointer (some ⟨g0_0, 0, none⟩), .slice A1 l1.length c1, .int .i64 a2] w fun e w' => e = .returned (.int .i64 r) ∧ Below w.heap.size w w' := by
 have HR0_1 := Aside0.mk hr0_1
 have HC0_1 := Aside0.mk hc0_1
 clear hr0_1 hc0_1
 have HR1 := Aside0.mk hr1
 have HC1 := Aside0.mk hc1
 clear hr1 hc1
 have BK307 := Aside0.mk hb0_0
 clear hb0_0
 have HB := Aside0.mk (Below.refl w.heap.size w)
 have H : (impl_Hyper_edgeAt_in59_0.l0 k l1 a2 0 a0_0 l0_1) = some r := h
 clear h
 have H' := Aside0.mk H
 clear H
 go_enter Try.func100, Try.ntmps100
 go_wp2
 go_loopg [7] k (fun kq v7 w' => ∃ (x7_1 : Int), v7 = .int .i64 x7_1 ∧ Aside0 (impl_Hyper_edgeAt_in59_0.l0 kq l1 a2 x7_1 a0_0 l0_1 = some r) ∧ Aside0 (kq ≤ k) ∧ Aside0 (w'.heap[g0_0]? = some (.cells #[.int .i64 a0_0, (.slice A0_1 l0_1.length c0_1)] 59 (0, 0))) ∧ Aside0 (Below w.heap.size w w'))
 case atStart => exact ⟨(0), (by first | rfl | (simp; done) | (simp [*]; done)), H', ⟨Nat.le_refl _⟩, ⟨by refine uW ?_; exact BK307.out⟩, ⟨by repeat (first | (with_reducible first | exact HB.out | apply below_alloc | apply pw_below_drewN | apply below_drew1 | refine below_set ?_ GE307.out) | exact HB.out)⟩⟩
 case round =>
  clear H'
  try clear c1
  try clear p2
  obtain ⟨x7_1, rfl, HA, HK1, BK307, HB⟩ := hrel
  cases gk with
  | zero => exact absurd HA.out (by simp [impl_Hyper_edgeAt_in59_0.l0])
  | succ k1 =>
   have H := HA.out
   clear HA
   simp only [impl_Hyper_edgeAt_in59_0.l0] at H
   by_cases c4 : 0 ≤ x7_1
   ·
    rw [if_pos c4] at H
    have c4b0 : decide (0 ≤ x7_1) = true := decide_eq_true c4
    clear c4
    by_cases c5 : x7_1 < (l1.length : Int)
    ·
     rw [if_pos c5] at H
     have c5b0 : decide (x7_1 < (l1.length : Int)) = true := decide_eq_true c5
     clear c5
     obtain ⟨bq6, hbq6⟩ : ∃ b_ : Bool, b_ = (rdOf false l1 x7_1) := ⟨_, rfl⟩
     replace H : (if bq6 = true then (impl_Hyper_edgeAt_in59_0.l0 k1 l1 a2 (wrap64 (x7_1 + 1)) a0_0 l0_1) else (if x7_1 < (l0_1.length : Int) then ((slices_Contains_int_int.f k1 (rd_L3 l0_1 x7_1) a2).bind fun t310 => (if t310 = true then (some x7_1) else (impl_Hyper_edgeAt_in59_0.l0 k1 l1 a2 (wrap64 (x7_1 + 1)) a0_0 l0_1))) else (none))) = some r := by rw [← hbq6] at H; exact H
     have Nbq6 := Aside0.mk hbq6
     clear hbq6
     by_cases c7 : bq6 = true
     ·
      subst c7
      have H1 : (impl_Hyper_edgeAt_in59_0.l0 k1 l1 a2 (wrap64 (x7_1 + 1)) a0_0 l0_1) = some r := by rw [if_pos rfl] at H; exact H
      clear H
      have H := H1
      clear H1
      have H' := Aside0.mk H
      clear H
      have p308 : 0 ≤ (x7_1 : Int) := of_decide_eq_true (by first | (with_reducible assumption) | assumption)
      have q308 : x7_1 < (l1.length : Int) := of_decide_eq_true (by first | (with_reducible assumption) | assumption)
      obtain ⟨ad308, e308, hx308_0⟩ := Kd.at_bool HR1.out x7_1 p308 q308
      (try rw [← Nbq6.out] at hx308_0)
      cases e308
      replace hx308_0 := (HB.out.cell (World.block_lt_of_cell? w _ hx308_0)).trans hx308_0
      replace p308 := eq_true p308
      replace q308 := eq_true q308
      go_wp2
      go_roundg k1
      case measure => have := HK1.out; omega
      case rel => exact ⟨(wrap64 (x7_1 + 1)), (by first | rfl | (simp; done) | (simp [*]; done)), H', ⟨by have := HK1.out; omega⟩, ⟨by refine uW ?_; exact BK307.out⟩, ⟨by repeat (first | (with_reducible first | exact HB.out | apply below_alloc | apply pw_below_drewN | apply below_drew1 | refine below_set ?_ GE307.out) | exact HB.out)⟩⟩
     ·
      replace c7 := Bool.eq_false_iff.mpr c7
      subst c7
      have H1 : (if x7_1 < (l0_1.length : Int) then ((slices_Contains_int_int.f k1 (rd_L3 l0_1 x7_1) a2).bind fun t310 => (if t310 = true then (some x7_1) else (impl_Hyper_edgeAt_in59_0.l0 k1 l1 a2 (wrap64 (x7_1 + 1)) a0_0 l0_1))) else (none)) = some r := by rw [if_neg (show ¬ (false = true) by decide)] at H; exact H
      clear H
      have H := H1
      clear H1
      by_cases c8 : x7_1 < (l0_1.length : Int)
      ·
       rw [if_pos c8] at H
       have c8b0 : decide (x7_1 < (l0_1.length : Int)) = true := decide_eq_true c8
       clear c8
       replace H := Option.bind_eq_some_iff.mp H
       obtain ⟨t310, A90, H⟩ := H
       replace H : (if t310 = true then (some x7_1) else (impl_Hyper_edgeAt_in59_0.l0 k1 l1 a2 (wrap64 (x7_1 + 1)) a0_0 l0_1)) = some r := H
       have A9 := Aside0.mk A90
       clear A90
       by_cases c10 : t310 = true
       ·
        subst c10
        have H1 : (some x7_1) = some r := by rw [if_pos rfl] at H; exact H
        clear H
        have H := H1
        clear H1
        obtain rfl := Option.some.inj H
        have p308 : 0 ≤ (x7_1 : Int) := of_decide_eq_true (by first | (with_reducible assumption) | assumption)
        have q308 : x7_1 < (l1.length : Int) := of_decide_eq_true (by first | (with_reducible assumption) | assumption)
        obtain ⟨ad308, e308, hx308_0⟩ := Kd.at_bool HR1.out x7_1 p308 q308
        (try rw [← Nbq6.out] at hx308_0)
        cases e308
        replace hx308_0 := (HB.out.cell (World.block_lt_of_cell? w _ hx308_0)).trans hx308_0
        replace p308 := eq_true p308
        replace q308 := eq_true q308
        have hcz11_0 : wr.cell? ⟨g0_0, 0, none⟩ = some (.int .i64 a0_0) := (blk_cell BK307.out 0).trans rfl
        have hcz11_1 : wr.cell? ⟨g0_0, 1, none⟩ = some (.slice A0_1 l0_1.length c0_1) := (blk_cell BK307.out 1).trans rfl
        have hfz11_0 := blk_frozen BK307.out 0
        have hfz11_1 := blk_frozen BK307.out 1
        have p309 : 0 ≤ (x7_1 : Int) := of_decide_eq_true (by first | (with_reducible assumption) | assumption)
        have q309 : x7_1 < (l0_1.length : Int) := of_decide_eq_true (by first | (with_reducible assumption) | assumption)
        obtain ⟨ad309, A309_0, c309_0, e309, hx309_0, hl309_0, hi309_0⟩ := at_L3 HR0_1.out x7_1 p309 q309
        cases e309
        replace hx309_0 := (HB.out.cell (World.block_lt_of_cell? w _ hx309_0)).trans hx309_0
        have HR309_0 := Aside0.mk hi309_0
        have HC309_0 := Aside0.mk hl309_0
        clear hi309_0 hl309_0
        replace p309 := eq_true p309
        replace q309 := eq_true q309
        go_wp2_with (first | (go_at_call 109; (with_reducible refine (slices_Contains_int_int.calls k1 _ _ (rd_L3 l0_1 x7_1) a2 true _ ?side1 ?side2 A9.out).mono ?_); (case side1 => exact uC HR309_0 HB); (case side2 => exact HC309_0.out); rintro e w' ⟨rfl, ⟨nd, rfl⟩⟩))
        go_ret
        exact ⟨by first | rfl | (simp [errW_none, errW_some] <;> rfl) | (simp [*, errW_none, errW_some] <;> rfl), by repeat (first | (with_reducible first | exact HB.out | apply below_alloc | apply pw_below_drewN | apply below_drew1 | refine below_set ?_ GE307.out) | exact HB.out)⟩
       ·
        replace c10 := Bool.eq_false_iff.mpr c10
        subst c10
        have H1 : (impl_Hyper_edgeAt_in59_0.l0 k1 l1 a2 (wrap64 (x7_1 + 1)) a0_0 l0_1) = some r := by rw [if_neg (show ¬ (false = true) by decide)] at H; exact H
        clear H
        have H := H1
        clear H1
        have H' := Aside0.mk H
        clear H
        have p308 : 0 ≤ (x7_1 : Int) := of_decide_eq_true (by first | (with_reducible assumption) | assumption)
        have q308 : x7_1 < (l1.length : Int) := of_decide_eq_true (by first | (with_reducible assumption) | assumption)
        obtain ⟨ad308, e308, hx308_0⟩ := Kd.at_bool HR1.out x7_1 p308 q308
        (try rw [← Nbq6.out] at hx308_0)
        cases e308
        replace hx308_0 := (HB.out.cell (World.block_lt_of_cell? w _ hx308_0)).trans hx308_0
        replace p308 := eq_true p308
        replace q308 := eq_true q308
        have hcz12_0 : wr.cell? ⟨g0_0, 0, none⟩ = some (.int .i64 a0_0) := (blk_cell BK307.out 0).trans rfl
        have hcz12_1 : wr.cell? ⟨g0_0, 1, none⟩ = some (.slice A0_1 l0_1.length c0_1) := (blk_cell BK307.out 1).trans rfl
        have hfz12_0 := blk_frozen BK307.out 0
        have hfz12_1 := blk_frozen BK307.out 1
        have p309 : 0 ≤ (x7_1 : Int) := of_decide_eq_true (by first | (with_reducible assumption) | assumption)
        have q309 : x7_1 < (l0_1.length : Int) := of_decide_eq_true (by first | (with_reducible assumption) | assumption)
        obtain ⟨ad309, A309_0, c309_0, e309, hx309_0, hl309_0, hi309_0⟩ := at_L3 HR0_1.out x7_1 p309 q309
        cases e309
        replace hx309_0 := (HB.out.cell (World.block_lt_of_cell? w _ hx309_0)).trans hx309_0
        have HR309_0 := Aside0.mk hi309_0
        have HC309_0 := Aside0.mk hl309_0
        clear hi309_0 hl309_0
        replace p309 := eq_true p309
        replace q309 := eq_true q309
        go_wp2_with (first | (go_at_call 109; (with_reducible refine (slices_Contains_int_int.calls k1 _ _ (rd_L3 l0_1 x7_1) a2 false _ ?side1 ?side2 A9.out).mono ?_); (case side1 => exact uC HR309_0 HB); (case side2 => exact HC309_0.out); rintro e w' ⟨rfl, ⟨nd, rfl⟩⟩))
        go_roundg k1
        case measure => have := HK1.out; omega
        case rel => exact ⟨(wrap64 (x7_1 + 1)), (by first | rfl | (simp; done) | (simp [*]; done)), H', ⟨by have := HK1.out; omega⟩, ⟨by refine uW ?_; exact BK307.out⟩, ⟨by repeat (first | (with_reducible first | exact HB.out | apply below_alloc | apply pw_below_drewN | apply below_drew1 | refine below_set ?_ GE307.out) | exact HB.out)⟩⟩
      ·
       rw [if_neg c8] at H
       exact absurd H (by simp)
    ·
     rw [if_neg c5] at H
     exact absurd H (by simp)
   ·
    rw [if_neg c4] at H
    exact absurd H (by simp)

/-! ### impl_Hyper_peel_in59_0: function 74 -/
def impl_Hyper_peel_in59_0.l0 : Nat → List (S65) → List Bool → Int → List (List Int) → Option ((List (S65)) × List Int)
 | 0, _, _, _, _ => none
 | k + 1, x4, x5, x312000, x312001 => (impl_Hyper_singles_in59_0.f k x312000 x312001 x5).bind fun t318 => (if (t318.length : Int) = 0 then ((impl_left.f k x5).bind fun t321 => (some (x4, t321))) else (if 0 < (t318.length : Int) then ((impl_Hyper_edgeAt_in59_0.f k x312000 x312001 x5 (rd t318 0)).bind fun t325 => (if 0 ≤ t325 then (if t325 < (x5.length : Int) then (if x4.length < 8796093022208 then (impl_Hyper_peel_in59_0.l0 k (x4 ++ [(⟨t325, rd t318 0⟩ : S65)]) (x5.set (t325 : Int).toNat true) x312000 x312001) else (none)) else (none)) else (none))) else (none)))
def impl_Hyper_peel_in59_0.f (k : Nat) (a0_0 : Int) (l0_1 : List (List Int)) : Option ((List (S65)) × List Int) := (impl_Hyper_none_in59_0.f a0_0 l0_1).bind fun t315 => (impl_Hyper_peel_in59_0.l0 k (([] : List (S65))) t315 a0_0 l0_1)
theorem impl_Hyper_peel_in59_0.mono_l : ∀ k, (∀ y0 y1 y2 y3, LeO (impl_Hyper_peel_in59_0.l0 k y0 y1 y2 y3) (impl_Hyper_peel_in59_0.l0 (k + 1) y0 y1 y2 y3))
 | 0 => fun _ _ _ _ r h => by simp [impl_Hyper_peel_in59_0.l0] at h
 | k + 1 => by
  have ih0 := impl_Hyper_peel_in59_0.mono_l k
  ·
   intro y0 y1 y2 y3
   unfold impl_Hyper_peel_in59_0.l0
   repeat' first
   | (with_reducible exact ih0 _ _ _ _)
   | (with_reducible exact impl_Hyper_edgeAt_in59_0.mono _ _ _ _ _)
   | (with_reducible exact impl_Hyper_singles_in59_0.mono _ _ _ _)
   | (with_reducible exact impl_left.mono _ _)
   | (with_reducible exact LeO.refl _)
   | (with_reducible exact LeO.none _)
   | (with_reducible refine LeO.ite ?_ ?_)
   | (with_reducible refine LeO.bind ?_ (fun _ => ?_))
   | exact ih0 _ _ _ _
   | exact impl_Hyper_edgeAt_in59_0.mono _ _ _ _ _
   | exact impl_Hyper_singles_in59_0.mono _ _ _ _
   | exact impl_left.mono _ _
   | exact LeO.none _
   | refine LeO.ite ?_ ?_
   | refine LeO.bind ?_ (fun _ => ?_)
theorem impl_Hyper_peel_in59_0.mono : ∀ a0 a1 k, LeO (impl_Hyper_peel_in59_0.f k a0 a1) (impl_Hyper_peel_in59_0.f (k + 1) a0 a1) := by
 intro a0 a1 k
 have ih0 := impl_Hyper_peel_in59_0.mono_l k
 unfold impl_Hyper_peel_in59_0.f
 repeat' first
   | (with_reducible exact ih0 _ _ _ _)
   | (with_reducible exact impl_Hyper_edgeAt_in59_0.mono _ _ _ _ _)
   | (with_reducible exact impl_Hyper_singles_in59_0.mono _ _ _ _)
   | (with_reducible exact impl_left.mono _ _)
   | (with_reducible exact LeO.refl _)
   | (with_reducible exact LeO.none _)
   | (with_reducible refine LeO.ite ?_ ?_)
   | (with_reducible refine LeO.bind ?_ (fun _ => ?_))
   | exact ih0 _ _ _ _
   | exact impl_Hyper_edgeAt_in59_0.mono _ _ _ _ _
   | exact impl_Hyper_singles_in59_0.mono _ _ _ _
   | exact impl_left.mono _ _
   | exact LeO.none _
   | refine LeO.ite ?_ ?_
   | refine LeO.bind ?_ (fun _ => ?_)
set_option maxHeartbeats 8000000 in
set_option maxRecDepth 100000 in
theorem impl_Hyper_peel_in59_0.calls (k : Nat) (g0_0 : Nat) (a0_0 : Int) (A0_1 : Option Addr) (c0_1 : Nat) (l0_1 : List (List Int)) (r1 : List (S65)) (r2 : List Int) (w : World) (hb0_0 : w.heap[g0_0]? = some (.cells #[.int .i64 a0_0, .slice A0_1 l0_1.length c0_1] 59 (0, 0))) (hr0_1 : Kd.C (Kd.slice 3 (Kd.int .i64)) w A0_1 l0_1.length l0_1) (hc0_1 : l0_1.length ≤ c0_1) (h : impl_Hyper_peel_in59_0.f k a0_0 l0_1 = some (r1, r2)) :
  Calls Try.prog 74 #[.pointer (some ⟨g0_0, 0, none⟩)] w fun e w' => ∃ v0_ v1_ : Value, e = .returned (.tuple #[v0_, v1_]) ∧ Kd.R k65 65 w' w.heap.size (fun _ => True) v0_ r1 ∧ Kd.R (Kd.int .i64) 3 w' w.heap.size (fun _ => True) v1_ r2 ∧ Below w.heap.size w w' := by
 have hu65 := Try.underlying65
 have HR0_1 := Aside0.mk hr0_1
 have HC0_1 := Aside0.mk hc0_1
 clear hr0_1 hc0_1
 have BK311 := Aside0.mk hb0_0
 clear hb0_0
 have HB := Aside0.mk (Below.refl w.heap.size w)
 have H : ((impl_Hyper_none_in59_0.f a0_0 l0_1).bind fun t315 => (impl_Hyper_peel_in59_0.l0 k (([] : List (S65))) t315 a0_0 l0_1)) = some (r1, r2) := h
 clear h
 obtain ⟨y312, hy312⟩ : ∃ y_ : List (S65), y_ = (([] : List (S65))) := ⟨_, rfl⟩
 replace H : ((impl_Hyper_none_in59_0.f a0_0 l0_1).bind fun t315 => (impl_Hyper_peel_in59_0.l0 k y312 t315 a0_0 l0_1)) = some (r1, r2) := by first | (rw [hy312]; with_reducible exact H) | (have H2_ := (Option.bind_some _ _).symm.trans H; rw [hy312]; with_reducible exact H2_) | (have H2_ := (Option.bind_some _ _).symm.trans H; with_reducible exact H2_) | with_reducible exact H | (rw [hy312]; exact H) | exact H
 have Ny312 := Aside0.mk hy312
 clear hy312
 replace H := Option.bind_eq_some_iff.mp H
 obtain ⟨t315, A20, H⟩ := H
 replace H : (impl_Hyper_peel_in59_0.l0 k y312 t315 a0_0 l0_1) = some (r1, r2) := H
 have A2 := Aside0.mk A20
 clear A20
 have H' := Aside0.mk H
 clear H
 go_enter Try.func74, Try.ntmps74
 go_wp2_with (first | ((with_reducible refine gate_dst (N := 8) rfl ?_); refine Kd.R_lit k65 _ 65 ?hg (N := 8) ?hd (xs := ([] : List (S65))) (inner := []) (ok := fun _ => True) (okp := fun _ => True) ?hr ?hp (fun _ hk => hk) trivial (Below.refl _ _) (Nat.le_refl _) (by simp) ?_; (case hd => rfl); (case hg => rfl); (case hr => first | (go_simp; done) | (go_simp; rfl)); (case hp => exact (Reps.none _ _)); intro v313 w3 ho4 hb hg_ hnew_; clear hg_ hnew_; (first | rw [← Ny312.out] at ho4 | (simp only [Int.reduceToNat] at ho4; rw [← Ny312.out] at ho4)); have n0_ := Aside0.mk (Kd.R_lower ho4 (below_size (by repeat (first | (with_reducible first | exact HB.out | apply below_alloc | apply pw_below_drewN | apply below_drew1 | refine below_set ?_ GE311.out) | exact HB.out)))); have n1_ := Aside0.mk (blk_below (g := g0_0) (o := .cells #[.int .i64 a0_0, .slice A0_1 l0_1.length c0_1] 59 (0, 0)) (uK BK311) hb); have n2_ := Aside0.mk (below_step (by repeat (first | (with_reducible first | exact HB.out | apply below_alloc | apply pw_below_drewN | apply below_drew1 | refine below_set ?_ GE311.out) | exact HB.out)) hb); clear BK311 HB; have HO314 := n0_; have BK311 := n1_; have HB := n2_; clear n0_ n1_ n2_; clear hb ho4) | ((with_reducible refine gate_callee (f := 97) rfl ?_); refine goesL_ (some 10) rfl rfl Try.func97 (by kernel_rfl) rfl #[.pointer (some ⟨g0_0, 0, none⟩)] rfl (by (try simp only [List.map_toArray, List.map_cons, List.map_nil]); first | done | rfl | (simp only [List.length_drop, List.length_take]; rfl)) ?_; (with_reducible refine (impl_Hyper_none_in59_0.calls g0_0 a0_0 A0_1 c0_1 l0_1 t315 _ ?side1 ?side2 ?side3 A2.out).mono ?_); (case side1 => exact (uK BK311)); (case side2 => exact uC HR0_1 HB); (case side3 => exact HC0_1.out); rintro e w5 ⟨v316, rfl, ho0, hb⟩; refine ⟨_, rfl, ?_⟩; have n0_ := Aside0.mk (Kd.R_below (uR HO314) hb); have n1_ := Aside0.mk (Kd.R_lower ho0 (below_size (by repeat (first | (with_reducible first | exact HB.out | apply below_alloc | apply pw_below_drewN | apply below_drew1 | refine below_set ?_ GE311.out) | exact HB.out)))); have n2_ := Aside0.mk (blk_below (g := g0_0) (o := .cells #[.int .i64 a0_0, .slice A0_1 l0_1.length c0_1] 59 (0, 0)) (uK BK311) hb); have n3_ := Aside0.mk (below_step (by repeat (first | (with_reducible first | exact HB.out | apply below_alloc | apply pw_below_drewN | apply below_drew1 | refine below_set ?_ GE311.out) | exact HB.out)) hb); clear HO314 BK311 HB; have HO314 := n0_; have HO317 := n1_; have BK311 := n2_; have HB := n3_; clear n0_ n1_ n2_ n3_; (try clear hb); (try clear hb2); (try clear hk); (try clear hi); (try clear ho0)))
 go_loopg [4] k (fun kq v4 w' => ∃ (x4_1 : List (S65)) (x5_1 : List Bool) (x312000_1 : Int), Aside0 (impl_Hyper_peel_in59_0.l0 kq x4_1 x5_1 x312000_1 l0_1 = some (r1, r2)) ∧ Aside0 (kq ≤ k) ∧ Aside0 (Kd.R k65 65 w' w.heap.size (fun _ => True) v4 x4_1) ∧ Aside0 (Kd.R Kd.bool 4 w' w.heap.size (fun _ => True) v316 x5_1) ∧ Aside0 (w'.heap[g0_0]? = some (.cells #[.int .i64 x312000_1, (.slice A0_1 l0_1.length c0_1)] 59 (0, 0))) ∧ Aside0 (Below w.heap.size w w'))
 case atStart => exact ⟨(y312), (t315), (a0_0), H', ⟨Nat.le_refl _⟩, ⟨by (with_reducible repeat (first | apply Kd.R_alloc | apply Kd.R_drewN | apply Kd.R_drew)); exact HO314.out⟩, ⟨by (with_reducible repeat (first | apply Kd.R_alloc | apply Kd.R_drewN | apply Kd.R_drew)); exact HO317.out⟩, ⟨by refine uW ?_; exact BK311.out⟩, ⟨by repeat (first | (with_reducible first | exact HB.out | apply below_alloc | apply pw_below_drewN | apply below_drew1 | refine below_set ?_ GE311.out) | exact HB.out)⟩⟩
 case round =>
  clear H'
  try clear p2
  try clear HO_4
  try clear HO_5
  obtain ⟨x4_1, x5_1, x312000_1, HA, HK1, HO_4, HO_5, BK311, HB⟩ := hrel
  cases gk with
  | zero => exact absurd HA.out (by simp [impl_Hyper_peel_in59_0.l0])
  | succ k1 =>
   have H := HA.out
   clear HA
   simp only [impl_Hyper_peel_in59_0.l0] at H
   replace H := Option.bind_eq_some_iff.mp H
   obtain ⟨t318, A60, H⟩ := H
   replace H : (if (t318.length : Int) = 0 then ((impl_left.f k1 x5_1).bind fun t321 => (some (x4_1, t321))) else (if 0 < (t318.length : Int) then ((impl_Hyper_edgeAt_in59_0.f k1 x312000_1 l0_1 x5_1 (rd t318 0)).bind fun t325 => (if 0 ≤ t325 then (if t325 < (x5_1.length : Int) then (if x4_1.length < 8796093022208 then (impl_Hyper_peel_in59_0.l0 k1 (x4_1 ++ [(⟨t325, rd t318 0⟩ : S65)]) (x5_1.set (t325 : Int).toNat true) x312000_1 l0_1) else (none)) else (none)) else (none))) else (none))) = some (r1, r2) := H
   have A6 := Aside0.mk A60
   clear A60
   by_cases c7 : (t318.length : Int) = 0
   ·
    rw [if_pos c7] at H
    have c7b0 : ((t318.length : Int) == 0) = true := beq_iff_eq.mpr c7
    have c7b1 : ((t318.length : Int) != 0) = false := bne_eq_false_iff_eq.mpr c7
    clear c7
    replace H := Option.bind_eq_some_iff.mp H
    obtain ⟨t321, A80, H⟩ := H
    replace H : (some (x4_1, t321)) = some (r1, r2) := H
    have A8 := Aside0.mk A80
    clear A80
    simp only [Option.some.injEq, Prod.mk.injEq] at H
    obtain ⟨rfl, rfl⟩ := H
    obtain ⟨Ao9, co9, eo9⟩ := Kd.R_slice HO_5.out
    subst eo9
    go_wp2_with (first | ((with_reducible refine gate_callee (f := 98) rfl ?_); refine goesL_ (some 13) rfl rfl Try.func98 (by kernel_rfl) rfl #[.pointer (some ⟨g0_0, 0, none⟩), .slice Ao9 x5_1.length co9] rfl (by (try simp only [List.map_toArray, List.map_cons, List.map_nil]); first | done | rfl | (simp only [List.length_drop, List.length_take]; rfl)) ?_; (with_reducible refine (impl_Hyper_singles_in59_0.calls k1 g0_0 x312000_1 A0_1 c0_1 l0_1 _ _ x5_1 t318 _ ?side1 ?side2 ?side3 ?side4 ?side5 A6.out).mono ?_); (case side1 => exact (uK BK311)); (case side2 => exact uC HR0_1 HB); (case side3 => exact HC0_1.out); (case side4 => exact uD HO_5); (case side5 => exact (Kd.R_reads' HO_5.out).2.1); rintro e w10 ⟨v319, rfl, ho0, hb⟩; refine ⟨_, rfl, ?_⟩; have n0_ := Aside0.mk (Kd.R_below (uR HO_4) hb); have n1_ := Aside0.mk (Kd.R_below (uR HO_5) hb); have n2_ := Aside0.mk (Kd.R_lower ho0 (below_size (by repeat (first | (with_reducible first | exact HB.out | apply below_alloc | apply pw_below_drewN | apply below_drew1 | refine below_set ?_ GE311.out) | exact HB.out)))); have n3_ := Aside0.mk (blk_below (g := g0_0) (o := .cells #[.int .i64 x312000_1, .slice A0_1 l0_1.length c0_1] 59 (0, 0)) (uK BK311) hb); have n4_ := Aside0.mk (below_step (by repeat (first | (with_reducible first | exact HB.out | apply below_alloc | apply pw_below_drewN | apply below_drew1 | refine below_set ?_ GE311.out) | exact HB.out)) hb); clear HO_4 HO_5 BK311 HB; have HO_4 := n0_; have HO_5 := n1_; have HO320 := n2_; have BK311 := n3_; have HB := n4_; clear n0_ n1_ n2_ n3_ n4_; (try clear hb); (try clear hb2); (try clear hk); (try clear hi); (try clear ho0); obtain ⟨Ao11, co11, eo11⟩ := Kd.R_slice HO320.out; subst eo11) | ((with_reducible refine gate_callee (f := 99) rfl ?_); refine goesL_ (some 19) rfl rfl Try.func99 (by kernel_rfl) rfl #[.slice Ao9 x5_1.length co9] rfl (by (try simp only [List.map_toArray, List.map_cons, List.map_nil]); first | done | rfl | (simp only [List.length_drop, List.length_take]; rfl)) ?_; (with_reducible refine (impl_left.calls k1 _ _ x5_1 t321 _ ?side1 ?side2 A8.out).mono ?_); (case side1 => exact uD HO_5); (case side2 => exact (Kd.R_reads' HO_5.out).2.1); rintro e w12 ⟨v322, rfl, ho0, hb⟩; refine ⟨_, rfl, ?_⟩; have n0_ := Aside0.mk (Kd.R_below (uR HO_4) hb); have n1_ := Aside0.mk (Kd.R_below (uR HO_5) hb); have n2_ := Aside0.mk (Kd.R_elder' (uR HO320) (Kd.R_base ho0) hb); have n3_ := Aside0.mk (Kd.R_lower (Kd.R_new' ho0 (Kd.R_lt (uR HO320))) (below_size (by repeat (first | (with_reducible first | exact HB.out | apply below_alloc | apply pw_below_drewN | apply below_drew1 | refine below_set ?_ GE311.out) | exact HB.out)))); have n4_ := Aside0.mk (blk_below (g := g0_0) (o := .cells #[.int .i64 x312000_1, .slice A0_1 l0_1.length c0_1] 59 (0, 0)) (uK BK311) hb); have n5_ := Aside0.mk (below_step (by repeat (first | (with_reducible first | exact HB.out | apply below_alloc | apply pw_below_drewN | apply below_drew1 | refine below_set ?_ GE311.out) | exact HB.out)) hb); clear HO_4 HO_5 HO320 BK311 HB; have HO_4 := n0_; have HO_5 := n1_; have HO320 := n2_; have HO323 := n3_; have BK311 := n4_; have HB := n5_; clear n0_ n1_ n2_ n3_ n4_ n5_; (try clear hb); (try clear hb2); (try clear hk); (try clear hi); (try clear ho0)))
    go_ret2
    exact ⟨_, _, by first | rfl | (simp [errW_none, errW_some] <;> rfl) | (simp [*, errW_none, errW_some] <;> rfl), by (with_reducible repeat (first | apply Kd.R_alloc | apply Kd.R_drewN | apply Kd.R_drew)); exact HO_4.out, by (with_reducible repeat (first | apply Kd.R_alloc | apply Kd.R_drewN | apply Kd.R_drew)); exact Kd.R_mono HO323.out (fun _ hk => trivial), by repeat (first | (with_reducible first | exact HB.out | apply below_alloc | apply pw_below_drewN | apply below_drew1 | refine below_set ?_ GE311.out) | exact HB.out)⟩
   ·
    rw [if_neg c7] at H
    have c7b0 : ((t318.length : Int) == 0) = false := beq_eq_false_iff_ne.mpr c7
    have c7b1 : ((t318.length : Int) != 0) = true := bne_iff_ne.mpr c7
    have c7b2 : ¬ (t318 = []) := fun h_ => c7 (by rw [h_]; rfl)
    by_cases c13 : 0 < (t318.length : Int)
    ·
     rw [if_pos c13] at H
     have c13b0 : decide (0 < (t318.length : Int)) = true := decide_eq_true c13
     have c13b1 : decide (0 < t318.length) = true := decide_eq_true (by omega)
     clear c13
     replace H := Option.bind_eq_some_iff.mp H
     obtain ⟨t325, A140, H⟩ := H
     replace H : (if 0 ≤ t325 then (if t325 < (x5_1.length : Int) then (if x4_1.length < 8796093022208 then (impl_Hyper_peel_in59_0.l0 k1 (x4_1 ++ [(⟨t325, rd t318 0⟩ : S65)]) (x5_1.set (t325 : Int).toNat true) x312000_1 l0_1) else (none)) else (none)) else (none)) = some (r1, r2) := H
     have A14 := Aside0.mk A140
     clear A140
     by_cases c15 : 0 ≤ t325
     ·
      rw [if_pos c15] at H
      have c15b0 : decide (0 ≤ t325) = true := decide_eq_true c15
      clear c15
      by_cases c16 : t325 < (x5_1.length : Int)
      ·
       rw [if_pos c16] at H
       have c16b0 : decide (t325 < (x5_1.length : Int)) = true := decide_eq_true c16
       clear c16
       obtain ⟨y326, hy326⟩ : ∃ y_ : List Bool, y_ = (x5_1.set (t325 : Int).toNat true) := ⟨_, rfl⟩
       replace H : (if x4_1.length < 8796093022208 then (impl_Hyper_peel_in59_0.l0 k1 (x4_1 ++ [(⟨t325, rd t318 0⟩ : S65)]) y326 x312000_1 l0_1) else (none)) = some (r1, r2) := by first | (rw [hy326]; with_reducible exact H) | (have H2_ := (Option.bind_some _ _).symm.trans H; rw [hy326]; with_reducible exact H2_) | (have H2_ := (Option.bind_some _ _).symm.trans H; with_reducible exact H2_) | with_reducible exact H | (rw [hy326]; exact H) | exact H
       have Ny326 := Aside0.mk hy326
       clear hy326
       by_cases c18 : x4_1.length < 8796093022208
       ·
        rw [if_pos c18] at H
        have LMc18 := Aside0.mk c18
        clear c18
        obtain ⟨y328, hy328⟩ : ∃ y_ : List (S65), y_ = (x4_1 ++ [(⟨t325, rd t318 0⟩ : S65)]) := ⟨_, rfl⟩
        replace H : (impl_Hyper_peel_in59_0.l0 k1 y328 y326 x312000_1 l0_1) = some (r1, r2) := by first | (rw [hy328]; with_reducible exact H) | (have H2_ := (Option.bind_some _ _).symm.trans H; rw [hy328]; with_reducible exact H2_) | (have H2_ := (Option.bind_some _ _).symm.trans H; with_reducible exact H2_) | with_reducible exact H | (rw [hy328]; exact H) | exact H
        have Ny328 := Aside0.mk hy328
        clear hy328
        have H' := Aside0.mk H
        clear H
        obtain ⟨Ao19, co19, eo19⟩ := Kd.R_slice HO_5.out
        subst eo19
        go_wp2_with (first | ((with_reducible refine gate_callee (f := 98) rfl ?_); refine goesL_ (some 13) rfl rfl Try.func98 (by kernel_rfl) rfl #[.pointer (some ⟨g0_0, 0, none⟩), .slice Ao19 x5_1.length co19] rfl (by (try simp only [List.map_toArray, List.map_cons, List.map_nil]); first | done | rfl | (simp only [List.length_drop, List.length_take]; rfl)) ?_; (with_reducible refine (impl_Hyper_singles_in59_0.calls k1 g0_0 x312000_1 A0_1 c0_1 l0_1 _ _ x5_1 t318 _ ?side1 ?side2 ?side3 ?side4 ?side5 A6.out).mono ?_); (case side1 => exact (uK BK311)); (case side2 => exact uC HR0_1 HB); (case side3 => exact HC0_1.out); (case side4 => exact uD HO_5); (case side5 => exact (Kd.R_reads' HO_5.out).2.1); rintro e w20 ⟨v319, rfl, ho0, hb⟩; refine ⟨_, rfl, ?_⟩; have n0_ := Aside0.mk (Kd.R_below (uR HO_4) hb); have n1_ := Aside0.mk (Kd.R_below (uR HO_5) hb); have n2_ := Aside0.mk (Kd.R_lower ho0 (below_size (by repeat (first | (with_reducible first | exact HB.out | apply below_alloc | apply pw_below_drewN | apply below_drew1 | refine below_set ?_ GE311.out) | exact HB.out)))); have n3_ := Aside0.mk (blk_below (g := g0_0) (o := .cells #[.int .i64 x312000_1, .slice A0_1 l0_1.length c0_1] 59 (0, 0)) (uK BK311) hb); have n4_ := Aside0.mk (below_step (by repeat (first | (with_reducible first | exact HB.out | apply below_alloc | apply pw_below_drewN | apply below_drew1 | refine below_set ?_ GE311.out) | exact HB.out)) hb); clear HO_4 HO_5 BK311 HB; have HO_4 := n0_; have HO_5 := n1_; have HO320 := n2_; have BK311 := n3_; have HB := n4_; clear n0_ n1_ n2_ n3_ n4_; (try clear hb); (try clear hb2); (try clear hk); (try clear hi); (try clear ho0); obtain ⟨Ao21, co21, eo21⟩ := Kd.R_slice HO320.out; subst eo21; have p324 : 0 ≤ (0 : Int) := (by omega); have q324 : 0 < (t318.length : Int) := of_decide_eq_true (by first | (with_reducible assumption) | assumption); obtain ⟨ad324, e324, hx324_0⟩ := Kd.at_int (Kd.R_reads' HO320.out).2.2 0 p324 q324; cases e324; have qi324 : (0 < t318.length) = True := eq_true (by omega); (try rw [show ((0 : Int)).toNat = 0 from rfl] at hx324_0); (try rw [Addr.add_zero'] at hx324_0); replace p324 := eq_true p324; replace q324 := eq_true q324) | ((with_reducible refine gate_callee (f := 100) rfl ?_); refine goesL_ (some 25) rfl rfl Try.func100 (by kernel_rfl) rfl #[.pointer (some ⟨g0_0, 0, none⟩), .slice Ao19 x5_1.length co19, .int .i64 (rd t318 0)] rfl (by (try simp only [List.map_toArray, List.map_cons, List.map_nil]); first | done | rfl | (simp only [List.length_drop, List.length_take]; rfl)) ?_; (with_reducible refine (impl_Hyper_edgeAt_in59_0.calls k1 g0_0 x312000_1 A0_1 c0_1 l0_1 _ _ x5_1 (rd t318 0) t325 _ ?side1 ?side2 ?side3 ?side4 ?side5 A14.out).mono ?_); (case side1 => exact (uK BK311)); (case side2 => exact uC HR0_1 HB); (case side3 => exact HC0_1.out); (case side4 => exact uD HO_5); (case side5 => exact (Kd.R_reads' HO_5.out).2.1); rintro e w22 ⟨rfl, hb⟩; refine ⟨_, rfl, ?_⟩; have n0_ := Aside0.mk (Kd.R_below (uR HO_4) hb); have n1_ := Aside0.mk (Kd.R_below (uR HO_5) hb); have n2_ := Aside0.mk (Kd.R_below (uR HO320) hb); have n3_ := Aside0.mk (blk_below (g := g0_0) (o := .cells #[.int .i64 x312000_1, .slice A0_1 l0_1.length c0_1] 59 (0, 0)) (uK BK311) hb); have n4_ := Aside0.mk (below_step (by repeat (first | (with_reducible first | exact HB.out | apply below_alloc | apply pw_below_drewN | apply below_drew1 | refine below_set ?_ GE311.out) | exact HB.out)) hb); clear HO_4 HO_5 HO320 BK311 HB; have HO_4 := n0_; have HO_5 := n1_; have HO320 := n2_; have BK311 := n3_; have HB := n4_; clear n0_ n1_ n2_ n3_ n4_; (try clear hb); (try clear hb2); (try clear hk); (try clear hi); have p17 : 0 ≤ (t325 : Int) := of_decide_eq_true (by first | (with_reducible assumption) | assumption); have q17 : (t325 : Int) < ((x5_1.length : Int) : Int) := of_decide_eq_true (by first | (with_reducible assumption) | assumption); obtain ⟨go17, co17, eo17, gb17, gl17, cl17, HG17⟩ := Kd.R_form HO_5.out (by omega); (first | cases eo17 | (injection eo17 with ea_ en_ ec_; (first | subst ea_ | (injection ea_ with ea_; subst ea_)); subst ec_; clear en_)); have GB17 := Aside0.mk gb17; have GG17 := Aside0.mk HG17; clear gb17 gl17 HG17; obtain ⟨hx17_0, hf17_0⟩ := Kd.R_celln false HO_5.out (t325 : Int) p17 q17; replace p17 := eq_true p17; replace q17 := eq_true q17; obtain ⟨hy23_, hz23_⟩ := Kd.R_celln false HO_5.out (t325 : Int) (of_decide_eq_true (by first | (with_reducible assumption) | assumption)) (of_decide_eq_true (by first | (with_reducible assumption) | assumption)); have HP23 := Kd.R_putg HO_5.out (t325 : Int) true) | ((with_reducible refine gate_store (t := 4) (p := 28) rfl ?_); refine store_event (t := 4) (p := 28) (v := ?vo_w24) (w1 := (w22.setCell ⟨go17, (t325 : Int).toNat, none⟩ (.bool true))) ?hg ?ho ?hn ?hr ?_; (case ho => rfl); (case hg => rfl); (case hn => rfl); (case hr => first | (go_simp; done) | (go_simp; rfl)); intro w24 hw; have hg : w22.grownBy w24 (some go17) := (by rw [hw]; exact HP23.2); have hp_ : Kd.R Kd.bool 4 w24 w.heap.size (fun _ => True) (.slice (some ⟨go17, 0, none⟩) x5_1.length co19) y326 := (by rw [hw, Ny326.out]; exact HP23.1); clear HP23; have n0_ := Aside0.mk (Kd.R_over' (v := (.slice (some ⟨go17, 0, none⟩) x5_1.length co19)) (uR HO_4) (Kd.R_typed HO_5.out) (by decide) hg); have n1_ := Aside0.mk (hp_); have n2_ := Aside0.mk (blk_grown (g := g0_0) (o := .cells #[.int .i64 x312000_1, .slice A0_1 l0_1.length c0_1] 59 (0, 0)) (uK BK311) hg (Kd.R_ne HO_5.out BK311.out (by decide))); have n3_ := Aside0.mk (Kd.R_over' (v := (.slice (some ⟨go17, 0, none⟩) x5_1.length co19)) (uR HO320) (Kd.R_typed HO_5.out) (by decide) hg); have n4_ := Aside0.mk ((by rw [hw]; exact below_set (HB.out) GB17.out : Below w.heap.size w w24)); clear HO_4 HO_5 BK311 HO320 HB; have HO_4 := n0_; have HO_5 := n1_; have BK311 := n2_; have HO320 := n3_; have HB := n4_; clear n0_ n1_ n2_ n3_ n4_ hg hw hp_; have p327 : 0 ≤ (0 : Int) := (by omega); have q327 : 0 < (t318.length : Int) := of_decide_eq_true (by first | (with_reducible assumption) | assumption); obtain ⟨ad327, e327, hx327_0⟩ := Kd.at_int (Kd.R_reads' HO320.out).2.2 0 p327 q327; obtain rfl : ad324 = ad327 := (by injection e327); have qi327 : (0 < t318.length) = True := eq_true (by omega); (try rw [show ((0 : Int)).toNat = 0 from rfl] at hx327_0); (try rw [Addr.add_zero'] at hx327_0); replace p327 := eq_true p327; replace q327 := eq_true q327) | ((with_reducible refine gate_builtin (b := .append) (xs := #[.tmp 29, .tmp 35]) rfl ?_); at_builtin; refine Kd.R_append k65 (w0 := w) w.heap.size rfl (.tmp 29) (.tmp 35) 61 65 (.agg #[(.int .i64 0), (.int .i64 0)]) 16 rfl Try.underlying61 info65 rfl (by decide) (by omega) u4 x4_1 (⟨t325, rd t318 0⟩ : S65) [.int .i64 t325, .int .i64 (rd t318 0)] (fun _ => True) (fun _ => False) rfl rfl ?aP (fun _ hk => hk.elim) ?aF ?aO ?aB ?aS ?aL ?_; (case aP => exact k65_mkM _ _ _ (⟨t325, rd t318 0⟩ : S65)); (case aB => exact (by repeat (first | (with_reducible first | exact HB.out | apply below_alloc | apply pw_below_drewN | apply below_drew1 | refine below_set ?_ GE311.out) | exact HB.out))); (case aF => exact (fun _ _ => trivial)); (case aO => exact (uR HO_4)); (case aS => exact (below_size (by repeat (first | (with_reducible first | exact HB.out | apply below_alloc | apply pw_below_drewN | apply below_drew1 | refine below_set ?_ GE311.out) | exact HB.out)))); (case aL => have := LMc18.out; omega); intro v329 w25 ho hb hg hat; rw [← Ny328.out] at ho; have n0_ := Aside0.mk (Kd.R_over' (uR HO_5) (Kd.R_typed (uR HO_4)) (by decide) hg); have n1_ := Aside0.mk (blk_grown (g := g0_0) (o := .cells #[.int .i64 x312000_1, .slice A0_1 l0_1.length c0_1] 59 (0, 0)) (uK BK311) hg (Kd.R_ne HO_4.out BK311.out (by decide))); have n2_ := Aside0.mk (Kd.R_over' (uR HO320) (Kd.R_typed (uR HO_4)) (by decide) hg); have n3_ := Aside0.mk (hb); have n4_ := Aside0.mk (ho); clear HO_5 BK311 HO320 HB HO_4; have HO_5 := n0_; have BK311 := n1_; have HO320 := n2_; have HB := n3_; have HO330 := n4_; clear n0_ n1_ n2_ n3_ n4_; clear ho hb hg hat))
        go_roundg k1
        case measure => have := HK1.out; omega
        case rel => exact ⟨(y328), (y326), (x312000_1), H', ⟨by have := HK1.out; omega⟩, ⟨by (with_reducible repeat (first | apply Kd.R_alloc | apply Kd.R_drewN | apply Kd.R_drew)); exact HO330.out⟩, ⟨by (with_reducible repeat (first | apply Kd.R_alloc | apply Kd.R_drewN | apply Kd.R_drew)); exact HO_5.out⟩, ⟨by refine uW ?_; exact BK311.out⟩, ⟨by repeat (first | (with_reducible first | exact HB.out | apply below_alloc | apply pw_below_drewN | apply below_drew1 | refine below_set ?_ GE311.out) | exact HB.out)⟩⟩
       ·
        rw [if_neg c18] at H
        exact absurd H (by simp)
      ·
       rw [if_neg c16] at H
       exact absurd H (by simp)
     ·
      rw [if_neg c15] at H
      exact absurd H (by simp)
    ·
     rw [if_neg c13] at H
     exact absurd H (by simp)

/-! ### impl_Hyper_order_in59_0: function 40 -/
def impl_Hyper_order_in59_0.f (k : Nat) (a0_0 : Int) (l0_1 : List (List Int)) : Option ((List (S65)) × Bool) := (impl_Hyper_peel_in59_0.f k a0_0 l0_1).bind fun bt332 => (some (bt332.1, ((bt332.2.length : Int) == 0)))
theorem impl_Hyper_order_in59_0.mono : ∀ a0 a1 k, LeO (impl_Hyper_order_in59_0.f k a0 a1) (impl_Hyper_order_in59_0.f (k + 1) a0 a1) := by
 intro a0 a1 k
 unfold impl_Hyper_order_in59_0.f
 repeat' first
   | (with_reducible exact impl_Hyper_peel_in59_0.mono _ _ _)
   | (with_reducible exact LeO.refl _)
   | (with_reducible exact LeO.none _)
   | (with_reducible refine LeO.ite ?_ ?_)
   | (with_reducible refine LeO.bind ?_ (fun _ => ?_))
   | exact impl_Hyper_peel_in59_0.mono _ _ _
   | exact LeO.none _
   | refine LeO.ite ?_ ?_
   | refine LeO.bind ?_ (fun _ => ?_)
set_option maxHeartbeats 8000000 in
set_option maxRecDepth 100000 in
theorem impl_Hyper_order_in59_0.calls (k : Nat) (g0_0 : Nat) (a0_0 : Int) (A0_1 : Option Addr) (c0_1 : Nat) (l0_1 : List (List Int)) (r1 : List (S65)) (r2 : Bool) (w : World) (hb0_0 : w.heap[g0_0]? = some (.cells #[.int .i64 a0_0, .slice A0_1 l0_1.length c0_1] 59 (0, 0))) (hr0_1 : Kd.C (Kd.slice 3 (Kd.int .i64)) w A0_1 l0_1.length l0_1) (hc0_1 : l0_1.length ≤ c0_1) (h : impl_Hyper_order_in59_0.f k a0_0 l0_1 = some (r1, r2)) :
  Calls Try.prog 40 #[.pointer (some ⟨g0_0, 0, none⟩)] w fun e w' => ∃ v0_ : Value, e = .returned (.tuple #[v0_, .bool r2]) ∧ Kd.R k65 65 w' w.heap.size (fun _ => True) v0_ r1 ∧ Below w.heap.size w w' := by
 have HR0_1 := Aside0.mk hr0_1
 have HC0_1 := Aside0.mk hc0_1
 clear hr0_1 hc0_1
 have BK331 := Aside0.mk hb0_0
 clear hb0_0
 have HB := Aside0.mk (Below.refl w.heap.size w)
 have H : ((impl_Hyper_peel_in59_0.f k a0_0 l0_1).bind fun bt332 => (some (bt332.1, ((bt332.2.length : Int) == 0)))) = some (r1, r2) := h
 clear h
 replace H := Option.bind_eq_some_iff.mp H
 obtain ⟨⟨t332, t335⟩, A20, H⟩ := H
 replace H : (some (t332, ((t335.length : Int) == 0))) = some (r1, r2) := H
 have A2 := Aside0.mk A20
 clear A20
 simp only [Option.some.injEq, Prod.mk.injEq] at H
 obtain ⟨rfl, rfl⟩ := H
 go_enter Try.func40, Try.ntmps40
 go_wp2_with (first | ((with_reducible refine gate_callee (f := 74) rfl ?_); refine goesL_ (some 8) rfl rfl Try.func74 (by kernel_rfl) rfl #[.pointer (some ⟨g0_0, 0, none⟩)] rfl (by (try simp only [List.map_toArray, List.map_cons, List.map_nil]); first | done | rfl | (simp only [List.length_drop, List.length_take]; rfl)) ?_; (with_reducible refine (impl_Hyper_peel_in59_0.calls k g0_0 a0_0 A0_1 c0_1 l0_1 t332 t335 _ ?side1 ?side2 ?side3 A2.out).mono ?_); (case side1 => exact (uK BK331)); (case side2 => repeat (first | exact HR0_1.out | (with_reducible refine Kd.C_alloc ?_ _) | (with_reducible refine Kd.C_drewN ?_ _) | (with_reducible refine Kd.C_drew ?_))); (case side3 => exact HC0_1.out); rintro e w3 ⟨v333, v336, rfl, ho0, ho1, hb⟩; refine ⟨_, rfl, ?_⟩; have n0_ := Aside0.mk (Kd.R_lower ho0 (below_size (by repeat (first | (with_reducible first | exact HB.out | apply below_alloc | apply pw_below_drewN | apply below_drew1 | refine below_set ?_ GE331.out) | exact HB.out)))); have n1_ := Aside0.mk (Kd.R_lower ho1 (below_size (by repeat (first | (with_reducible first | exact HB.out | apply below_alloc | apply pw_below_drewN | apply below_drew1 | refine below_set ?_ GE331.out) | exact HB.out)))); have n2_ := Aside0.mk (blk_below (g := g0_0) (o := .cells #[.int .i64 a0_0, .slice A0_1 l0_1.length c0_1] 59 (0, 0)) (uK BK331) hb); have n3_ := Aside0.mk (below_step (by repeat (first | (with_reducible first | exact HB.out | apply below_alloc | apply pw_below_drewN | apply below_drew1 | refine below_set ?_ GE331.out) | exact HB.out)) hb); clear BK331 HB; have HO334 := n0_; have HO337 := n1_; have BK331 := n2_; have HB := n3_; clear n0_ n1_ n2_ n3_; (try clear hb); (try clear hb2); (try clear hk); (try clear hi); (try clear ho0); (try clear ho1); obtain ⟨Ao4, co4, eo4⟩ := Kd.R_slice HO337.out; subst eo4))
 go_ret2
 exact ⟨_, by first | rfl | (simp [errW_none, errW_some] <;> rfl) | (simp [*, errW_none, errW_some] <;> rfl), by (with_reducible repeat (first | apply Kd.R_alloc | apply Kd.R_drewN | apply Kd.R_drew)); exact HO334.out, by repeat (first | (with_reducible first | exact HB.out | apply below_alloc | apply pw_below_drewN | apply below_drew1 | refine below_set ?_ GE331.out) | exact HB.out)⟩

/-! ### impl_BuildPeeled: function 30 -/
section
attribute [local go_sem] Oper.semAt_some
open Go.Proofs.Ytippedfjmlkpiaa.Back Go.Shelf
def el65 (zs : List S65) (k : Nat) : S65 := zs.getD k (zs.headD z65)
theorem el65_lt (zs : List S65) (k : Nat) (h : k < zs.length) : rd_T65 zs (k : Int) = el65 zs k := by
 unfold rd_T65 el65
 rw [Int.toNat_natCast, List.getD_eq_getElem?_getD, List.getD_eq_getElem?_getD, List.getElem?_eq_getElem h]
 rfl
theorem back_pre (n j : Nat) (h : j + 1 ≤ n) : (List.range' j (n - j)).reverse = (List.range' (j + 1) (n - (j + 1))).reverse ++ [j] := by
 rw [show n - j = (n - (j + 1)) + 1 from by omega, List.range'_succ, List.reverse_cons]
def BackK (gc n1 : Nat) (W W' : World) : Prop := Kept W W' (fun k => k = gc ∨ n1 ≤ k)
theorem BackK.trans {gc n1 : Nat} {A B C : World} (h : BackK gc n1 A B) (k : BackK gc n1 B C) : BackK gc n1 A C := Kept.then_ h k (fun _ h_ => .inl h_)
theorem BackK.putObj {gc n1 : Nat} (W : World) (l : Nat) (o o' : Obj) (hl : n1 ≤ l) (_ : W.heap[l]? = some o) (_ : o.isCells = false) (_ : o.isWalk = false) : BackK gc n1 W (W.putObj l o') :=
 Kept.of_grown (grownBy_putObj' W l o') (Kept.refl W _) (fun k e => by cases e; exact .inl (.inr hl))
set_option maxRecDepth 100000 in
set_option maxHeartbeats 4000000 in
theorem back_walk (n : Nat) (hn : 1 ≤ n) (gc l Bs : Nat) (A : Option Addr) (cap : Nat) (zs : List S65) (hfit : zs.length ≤ 1000) (wB : World) (hbox : wB.heap[Bs]? = some (.cells #[.slice A zs.length cap] 61 (0, 0))) (hne : Bs ≠ gc)
  (hC : ∀ W, BackK gc wB.heap.size wB W → Kd.C k65 W A zs.length zs) (J Jx : List Nat → World → Prop)
  (hY : ∀ (pre : List Nat) (k : Nat) (W : World), J pre W → pre.length < zs.length → YieldAt Fence.wide (n - 1) Try.prog l #[.int .i64 (k : Int), .agg #[.int .i64 (el65 zs k).f0, .int .i64 (el65 zs k).f1]] W fun e W' =>
    (e = .returned (.bool true) ∧ J (pre ++ [k]) W' ∧ BackK gc wB.heap.size W W') ∨ (e = .returned (.bool false) ∧ Jx (pre ++ [k]) W'))
  (W : World) (hW : BackK gc wB.heap.size wB W) (h0 : J [] W) :
  CallsIn Fence.wide n Try.prog 75 #[.func (.yield l) #[] #[], .pointer (some ⟨Bs, 0, none⟩)] W fun e W' => (∃ v, e = .returned v) ∧ ((∃ ys, ys = (List.range zs.length).reverse ∧ J ys W') ∨ (∃ pre, True ∧ Jx pre W')) := by
 have hlt : Bs < wB.heap.size := blk_lt hbox
 have hbx : ∀ W', BackK gc wB.heap.size wB W' → W'.cell? ⟨Bs, 0, none⟩ = some (.slice A zs.length cap) := fun W' h => (blk_cell (blk_kept hbox h (fun e => e.elim hne (fun e => by omega))) 0).trans rfl
 refine callsIn_of_wp Try.func75 rfl trivial ?_ rfl
 simp only [Try.ntmps75, List.size_toArray, List.length_cons, List.length_nil, Nat.reduceAdd, Nat.reduceSub, Array.replicate_succ, Array.replicate_zero, List.push_toArray, List.append_toArray, List.nil_append, List.cons_append]
 have hc0 := hbx W hW
 gi_wp2
 gi_loopw [3] (fun i wr => ∃ j : Nat, j ≤ zs.length ∧ i = .int .i64 ((j : Int) - 1) ∧ J ((List.range' j (zs.length - j)).reverse) wr ∧ BackK gc wB.heap.size wB wr)
  (fun i _ => (intOf i + 1).toNat)
 case atStart => exact ⟨zs.length, Nat.le_refl _, by first | rfl | (congr 1; unfold wrap64; omega), by rw [Nat.sub_self]; exact h0, hW⟩
 case round =>
  obtain ⟨j, hj, rfl, hJs, hnx⟩ := hrel
  cases j with
  | zero =>
   gi_wp2
   go_end0
   exact ⟨⟨_, rfl⟩, .inl ⟨_, by rw [List.range_eq_range']; rfl, hJs⟩⟩
  | succ j =>
   have e1 : (((j + 1 : Nat) : Int) - 1) = (j : Int) := by omega
   simp only [e1]
   have hlen : ((List.range' (j + 1) (zs.length - (j + 1))).reverse).length < zs.length := by rw [List.length_reverse, List.length_range']; omega
   obtain ⟨fn, tmps, assign, body, hy, hR⟩ := hY _ j wr hJs hlen
   obtain ⟨ad, ea, hx0, hx1⟩ := at_T65 (hC wr hnx) (j : Int) (by omega) (by omega)
   rw [el65_lt zs j (by omega), Int.toNat_natCast] at hx0 hx1
   subst ea
   have hc1 := hbx wr hnx
   gi_wp2
   refine hR.mono ?_
   rintro e W3 (⟨rfl, hJ3, hk3⟩ | ⟨rfl, hJx3⟩)
   · gi_wp2
     go_roundw
     case rel => exact ⟨j, by omega, by first | rfl | (congr 1; unfold wrap64; omega), by rw [back_pre zs.length j (by omega)]; exact hJ3, hnx.trans hk3⟩
     case measure => simp only [intOf]; omega
   · gi_wp2
     refine bodyPost_ret (results_none rfl _ _ _) rfl ?_
     exact ⟨⟨_, rfl⟩, .inr ⟨_, trivial, hJx3⟩⟩
theorem back_stops (n : Nat) (hn : 1 ≤ n) (gc Bs : Nat) (A : Option Addr) (cap : Nat) (zs : List S65) (hfit : zs.length ≤ 1000) (wB : World) (hbox : wB.heap[Bs]? = some (.cells #[.slice A zs.length cap] 61 (0, 0))) (hne : Bs ≠ gc)
  (hC : ∀ W, BackK gc wB.heap.size wB W → Kd.C k65 W A zs.length zs) :
  SeqStopsK Fence.wide n Try.prog 75 #[.pointer (some ⟨Bs, 0, none⟩)] (fun k : Nat => #[.int .i64 (k : Int), .agg #[.int .i64 (el65 zs k).f0, .int .i64 (el65 zs k).f1]]) (BackK gc wB.heap.size) (fun ys => ys = (List.range zs.length).reverse) (fun _ => True) zs.length wB :=
 fun l J Jx W hW _ _ hY h0 => back_walk n hn gc l Bs A cap zs hfit wB hbox hne hC J Jx hY W (Kept.of_below hW _) h0
theorem el65_mem {zs : List S65} (k : Nat) (h : 0 < zs.length) : el65 zs k ∈ zs := by
 unfold el65
 rw [List.getD_eq_getElem?_getD]
 cases e : zs[k]? with
 | some x => exact List.mem_of_getElem? e
 | none => cases zs with
  | nil => simp at h
  | cons y ys => simp
theorem el65_rev (zs : List S65) : (List.range zs.length).reverse.map (el65 zs) = zs.reverse := by
 rw [List.map_reverse]
 congr 1
 apply List.ext_getElem
 · simp
 · intro i h1 h2
   rw [List.getElem_map, List.getElem_range]
   unfold el65
   rw [List.getD_eq_getElem?_getD, List.getElem?_eq_getElem h2]
   rfl
theorem R_turned {α : Type} {d : Kd α} {e base : Nat} {ok : Nat → Prop} {W W' : World} {v : Value} {xs : List α} {row : Option Nat} (h : Kd.R d e W base ok v xs) (hok : ∀ k, ok k → some k = v.ownBlock) (hg : W.grownBy W' row) (hr : ∀ r, row = some r → ∃ o : Obj, W.heap[r]? = some o ∧ o.isCells = false) : Kd.R d e W' base ok v xs :=
 Kd.R_step h (fun k ho hlt => hg.block k hlt (fun e_ => by
  obtain ⟨o, h1, h2⟩ := hr k e_.symm
  obtain ⟨cs, h3⟩ := Kd.R_typed h k (hok k ho).symm
  rw [h1] at h3
  cases h3
  cases h2))
set_option maxHeartbeats 1000000 in
theorem back_calls (A : Option Addr) (len cap : Nat) (w : World) :
  Calls Try.prog 41 #[.slice A len cap] w fun e w' => ∃ g, e = .returned (.func (.func 75) #[] #[.pointer (some ⟨g, 0, none⟩)]) ∧ w'.heap[g]? = some (.cells #[.slice A len cap] 61 (0, 0)) ∧ Below w.heap.size w w' := by
 go_enter Try.func41, Try.ntmps41
 go_wp2
 go_ret
 exact ⟨_, rfl, World.alloc_heap_new w _, below_alloc (Below.refl _ w) _⟩
def inT (n : Nat) (i : Int) : Prop := 0 ≤ i ∧ i < (n : Int)
instance (n : Nat) (i : Int) : Decidable (inT n i) := by unfold inT; infer_instance
def threeOk (n : Nat) (e : List Int) : Prop := 2 < e.length ∧ inT n (rd e 0) ∧ inT n (rd e 1) ∧ inT n (rd e 2)
instance (n : Nat) (e : List Int) : Decidable (threeOk n e) := by unfold threeOk; infer_instance
def ledT (c e : List Int) : Int := Int.tmod (wrap64 ((wrap64 ((rd c (rd e 0)) + (rd c (rd e 1)))) + (rd c (rd e 2)))) 3
def ixT (e : List Int) (v : Int) : Int := if v = rd e 0 then 0 else if v = rd e 1 then 1 else if v = rd e 2 then 2 else -1
def pelOk1 (es : List (List Int)) (n : Nat) (s : S65) : Bool := decide (inT n s.f1 ∧ inT es.length s.f0 ∧ threeOk n (rd_L3 es s.f0) ∧ (rd_L3 es s.f0).length = 3)
def pelOk (es : List (List Int)) (zs : List S65) (n : Nat) : Bool := zs.all (pelOk1 es n) && decide (zs.length ≤ 1000)
def pelStep (es : List (List Int)) (c : List Int) (s : S65) : List Int := (c.set s.f1.toNat 0).set s.f1.toNat (Int.tmod (wrap64 ((wrap64 ((ixT (rd_L3 es s.f0) s.f1) - (ledT (c.set s.f1.toNat 0) (rd_L3 es s.f0)))) + 3)) 3)
def pelL (es : List (List Int)) (zs : List S65) (c : List Int) : List Int := zs.reverse.foldl (pelStep es) c
theorem enterM {n : Nat} {P : Program} {f : FuncId} {fn : Func} {c : Code} {args : Array Value} {w : World} {R : Ending → World → Prop} (hf : P.funcs[f]? = some fn) (hb : fn.body = some c)
  (h : c.wp P (bodyPostM Fence.wide n P fn R) { tmps := args ++ Array.replicate (fn.ntmps - args.size) undef, defers := [] } w) : Calls P f args w R :=
 callsIn_wide.1 (callsIn_of_wp_marks hf hb trivial (wpIn_wide.2 h) rfl)
theorem seq_hide {F : Fence} {n : Nat} {P : Program} {x y : Code} {Q : Exit → Act → World → Prop} {a : Act} {w : World} (h : ∀ K : Act → World → Prop, Aside0 (∀ a w, y.wpIn F n P Q a w → K a w) → x.wpIn F n P (Exit.then K Q) a w) : (Code.seq x y).wpIn F n P Q a w :=
 wpIn_seq_k (fun K hK => h K ⟨hK⟩)
theorem ledT_eq (c e : List Int) (h : threeOk c.length e) : impl_led.f c e = some (ledT c e) := by
 obtain ⟨h1, ⟨h2, h3⟩, ⟨h4, h5⟩, ⟨h6, h7⟩⟩ := h
 have k0 : (0 : Int) < (e.length : Int) := by omega
 have k1 : (1 : Int) < (e.length : Int) := by omega
 have k2 : (2 : Int) < (e.length : Int) := by omega
 simp only [impl_led.f, k0, k1, k2, h2, h3, h4, h5, h6, h7, ↓reduceIte]
 rfl
theorem ixT_eq (e : List Int) (v : Int) (h : e.length = 3) : slices_Index_int_int.f 5 e v = some (ixT e v) := by
 have e3 : (e.length : Int) = 3 := by omega
 have i1 : wrap64 (0 + 1) = 1 := by unfold wrap64; decide
 have i2 : wrap64 (1 + 1) = 2 := by unfold wrap64; decide
 have i3 : wrap64 (2 + 1) = 3 := by unfold wrap64; decide
 unfold slices_Index_int_int.f ixT
 rw [e3]
 simp only [slices_Index_int_int.l0, e3, i1, i2, i3, show (0 : Int) < 3 from by decide, show (0 : Int) ≤ 0 from by decide, show (1 : Int) < 3 from by decide, show (0 : Int) ≤ 1 from by decide, show (2 : Int) < 3 from by decide, show (0 : Int) ≤ 2 from by decide, show ¬ ((3 : Int) < 3) from by decide, ↓reduceIte]
 by_cases c0 : v = rd e 0
 · simp only [c0, ↓reduceIte]
 by_cases c1 : v = rd e 1
 · simp only [c0, c1, ↓reduceIte] at *
   simp only [c0, ↓reduceIte]
 by_cases c2 : v = rd e 2
 · simp only [c0, c1, c2, ↓reduceIte] at *
   simp only [c0, c1, ↓reduceIte]
 simp only [c0, c1, c2, ↓reduceIte]
def impl_BuildPeeled.T12 : Bool × List (List Nat × List Nat) := (true, [([], []), ([0], [0]), ([], []), ([2], [2]), ([], []), ([], []), ([5], [5]), ([4, 6], [4, 6]), ([], []), ([8], [8]), ([], []), ([9, 10, 7], [9, 10]), ([7, 11], [7, 11]), ([12], [12]), ([13], [13]), ([1, 3, 0, 1, 2, 3, 4, 5, 6, 7, 8, 9, 10, 11, 12, 13, 14], [1, 3]), ([15, 14, 11, 0, 1, 2, 3, 4, 5, 6, 7, 8, 9, 10, 11, 12, 13, 14], [14, 15])])
def impl_BuildPeeled.B12 : List Nat := [0, 1, 0, 4, 0, 0, 32, 112, 0, 256, 0, 2032, 4080, 8176, 16368, 32767, 65535]
theorem impl_BuildPeeled.tab12 : rtab .any (opsOf Try.f30 12) = impl_BuildPeeled.T12 := by kernel_rfl
theorem impl_BuildPeeled.bits12 : waitsOk impl_BuildPeeled.T12.2 impl_BuildPeeled.B12 = true := by kernel_rfl
def impl_BuildPeeled.f (k : Nat) (a0 : Int) (l1 : List ByteArray) (a2 : Int) : Option (Int × Int × List Int × Bool) := (impl_HyperOf.f k a0 l1 a2).bind fun bt339 => (if bt339.2.2 = true then ((impl_Hyper_order_in59_0.f k bt339.1 bt339.2.1).bind fun bt345 => (if bt345.2 = true then ((slices_Repeat_int_int.f (([3] : List Int)) bt339.1).bind fun t352 => (if pelOk bt339.2.1 bt345.1 t352.length = true then (some (a0, a2, pelL bt339.2.1 bt345.1 t352, true)) else (none))) else (some (0, 0, ([] : List Int), false)))) else (some (0, 0, ([] : List Int), false)))
theorem impl_BuildPeeled.mono : ∀ a0 a1 a2 k, LeO (impl_BuildPeeled.f k a0 a1 a2) (impl_BuildPeeled.f (k + 1) a0 a1 a2) := by
 intro a0 a1 a2 k
 unfold impl_BuildPeeled.f
 repeat' first
   | (with_reducible exact impl_HyperOf.mono _ _ _ _)
   | (with_reducible exact impl_Hyper_order_in59_0.mono _ _ _)
   | (with_reducible exact LeO.refl _)
   | (with_reducible exact LeO.none _)
   | (with_reducible refine LeO.ite ?_ ?_)
   | (with_reducible refine LeO.bind ?_ (fun _ => ?_))
   | exact impl_HyperOf.mono _ _ _ _
   | exact impl_Hyper_order_in59_0.mono _ _ _
   | exact LeO.none _
   | refine LeO.ite ?_ ?_
   | refine LeO.bind ?_ (fun _ => ?_)
set_option maxHeartbeats 8000000 in
set_option maxRecDepth 100000 in
theorem impl_BuildPeeled.calls (k : Nat) (a0 : Int) (A1 : Option Addr) (c1 : Nat) (l1 : List ByteArray) (a2 : Int) (r1 : Int) (r2 : Int) (r3 : List Int) (r4 : Bool) (w : World) (hr1 : Kd.C Kd.string w A1 l1.length l1) (hc1 : l1.length ≤ c1) (h : impl_BuildPeeled.f k a0 l1 a2 = some (r1, r2, r3, r4)) :
  Calls Try.prog 30 #[.int .i64 a0, .slice A1 l1.length c1, .int .i64 a2] w fun e w' => ∃ v2_ : Value, e = .returned (.tuple #[.agg #[.int .i64 r1, .int .i64 r2, v2_], .bool r4]) ∧ Kd.R (Kd.int .i64) 3 w' w.heap.size (fun _ => True) v2_ r3 ∧ Below w.heap.size w w' := by
 have hu52 := Try.underlying52
 have hu59 := Try.underlying59
 have HR1 := Aside0.mk hr1
 have HC1 := Aside0.mk hc1
 clear hr1 hc1
 have HB := Aside0.mk (Below.refl w.heap.size w)
 have H : ((impl_HyperOf.f k a0 l1 a2).bind fun bt339 => (if bt339.2.2 = true then ((impl_Hyper_order_in59_0.f k bt339.1 bt339.2.1).bind fun bt345 => (if bt345.2 = true then ((slices_Repeat_int_int.f (([3] : List Int)) bt339.1).bind fun t352 => (if pelOk bt339.2.1 bt345.1 t352.length = true then (some (a0, a2, pelL bt339.2.1 bt345.1 t352, true)) else (none))) else (some (0, 0, ([] : List Int), false)))) else (some (0, 0, ([] : List Int), false)))) = some (r1, r2, r3, r4) := h
 clear h
 replace H := Option.bind_eq_some_iff.mp H
 obtain ⟨⟨t339, t340, t343⟩, A40, H⟩ := H
 replace H : (if t343 = true then ((impl_Hyper_order_in59_0.f k t339 t340).bind fun bt345 => (if bt345.2 = true then ((slices_Repeat_int_int.f (([3] : List Int)) t339).bind fun t352 => (if pelOk t340 bt345.1 t352.length = true then (some (a0, a2, pelL t340 bt345.1 t352, true)) else (none))) else (some (0, 0, ([] : List Int), false)))) else (some (0, 0, ([] : List Int), false))) = some (r1, r2, r3, r4) := H
 have A4 := Aside0.mk A40
 clear A40
 by_cases c5 : t343 = true
 ·
  subst c5
  have H1 : ((impl_Hyper_order_in59_0.f k t339 t340).bind fun bt345 => (if bt345.2 = true then ((slices_Repeat_int_int.f (([3] : List Int)) t339).bind fun t352 => (if pelOk t340 bt345.1 t352.length = true then (some (a0, a2, pelL t340 bt345.1 t352, true)) else (none))) else (some (0, 0, ([] : List Int), false)))) = some (r1, r2, r3, r4) := by rw [if_pos rfl] at H; exact H
  clear H
  have H := H1
  clear H1
  replace H := Option.bind_eq_some_iff.mp H
  obtain ⟨⟨t345, t348⟩, A60, H⟩ := H
  replace H : (if t348 = true then ((slices_Repeat_int_int.f (([3] : List Int)) t339).bind fun t352 => (if pelOk t340 t345 t352.length = true then (some (a0, a2, pelL t340 t345 t352, true)) else (none))) else (some (0, 0, ([] : List Int), false))) = some (r1, r2, r3, r4) := H
  have A6 := Aside0.mk A60
  clear A60
  by_cases c7 : t348 = true
  ·
   subst c7
   have H1 : ((slices_Repeat_int_int.f (([3] : List Int)) t339).bind fun t352 => (if pelOk t340 t345 t352.length = true then (some (a0, a2, pelL t340 t345 t352, true)) else (none))) = some (r1, r2, r3, r4) := by rw [if_pos rfl] at H; exact H
   clear H
   have H := H1
   clear H1
   obtain ⟨y349, hy349⟩ : ∃ y_ : List Int, y_ = (([3] : List Int)) := ⟨_, rfl⟩
   replace H : ((slices_Repeat_int_int.f y349 t339).bind fun t352 => (if pelOk t340 t345 t352.length = true then (some (a0, a2, pelL t340 t345 t352, true)) else (none))) = some (r1, r2, r3, r4) := by first | (rw [hy349]; with_reducible exact H) | (have H2_ := (Option.bind_some _ _).symm.trans H; rw [hy349]; with_reducible exact H2_) | (have H2_ := (Option.bind_some _ _).symm.trans H; with_reducible exact H2_) | with_reducible exact H | (rw [hy349]; exact H) | exact H
   have Ny349 := Aside0.mk hy349
   clear hy349
   replace H := Option.bind_eq_some_iff.mp H
   obtain ⟨t352, A80, H⟩ := H
   replace H : (if pelOk t340 t345 t352.length = true then (some (a0, a2, pelL t340 t345 t352, true)) else (none)) = some (r1, r2, r3, r4) := H
   have HOK : pelOk t340 t345 t352.length = true := by
    by_cases c13 : pelOk t340 t345 t352.length = true
    · exact c13
    · rw [if_neg c13] at H; cases H
   rw [if_pos HOK] at H
   have HOK' := Aside0.mk HOK
   clear HOK
   have A8 := Aside0.mk A80
   clear A80
   simp only [Option.some.injEq, Prod.mk.injEq] at H
   obtain ⟨rfl, rfl, rfl, rfl⟩ := H
   refine enterM (n := 9) Try.func30 rfl ?_
   simp only [Try.ntmps30, List.size_toArray, List.length_cons, List.length_nil, Nat.reduceAdd, Nat.reduceSub, Array.replicate_succ, Array.replicate_zero, List.push_toArray, List.append_toArray, List.nil_append, List.cons_append]
   go_wp2_with (first | ((with_reducible refine gate_dst (N := 6) rfl ?_); refine box_event ?hg (N := 6) ?hd (cs := #[.int .i64 0, .int .i64 0, .slice none 0 0]) (t := 52) ?hr ?_; (case hd => rfl); (case hg => rfl); (case hr => first | (go_simp; done) | (go_simp; rfl)); intro gb338 hg w9 hbox hb; have n0_ := Aside0.mk (below_step (uB HB) hb); have n1_ := Aside0.mk (hbox); have n2_ := Aside0.mk ((by rw [hg]; exact (below_size (uB HB)) : w.heap.size ≤ gb338)); have n3_ := Aside0.mk ((by rw [hg]; exact (below_size (uB HB)) : w.heap.size ≤ gb338)); clear HB; have HB := n0_; have BK338 := n1_; have GW338 := n2_; have GE338 := n3_; clear n0_ n1_ n2_ n3_; clear hb hbox hg) | ((with_reducible refine gate_callee (f := 39) rfl ?_); refine goesL_ (some 19) rfl rfl Try.func39 (by kernel_rfl) rfl #[.int .i64 a0, .slice A1 l1.length c1, .int .i64 a2] rfl (by (try simp only [List.map_toArray, List.map_cons, List.map_nil]); first | done | rfl | (simp only [List.length_drop, List.length_take]; rfl)) ?_; (with_reducible refine (impl_HyperOf.calls k a0 _ _ l1 a2 t339 t340 true _ ?side1 ?side2 A4.out).mono ?_); (case side1 => exact uC HR1 HB); (case side2 => exact HC1.out); rintro e w10 ⟨v341, rfl, ho0, hb⟩; refine ⟨_, rfl, ?_⟩; have n0_ := Aside0.mk (Kd.S_lower ho0 (below_size (by repeat (first | (with_reducible first | exact HB.out | apply below_alloc | apply pw_below_drewN | apply below_drew1 | refine below_set ?_ GE338.out) | exact HB.out)))); have n1_ := Aside0.mk (blk_below (g := gb338) (o := .cells #[.int .i64 0, .int .i64 0, .slice none 0 0] 52 (0, 0)) (uK BK338) hb); have n2_ := Aside0.mk (below_step (by repeat (first | (with_reducible first | exact HB.out | apply below_alloc | apply pw_below_drewN | apply below_drew1 | refine below_set ?_ GE338.out) | exact HB.out)) hb); clear BK338 HB; have HO342 := n0_; have BK338 := n1_; have HB := n2_; clear n0_ n1_ n2_; (try clear hb); (try clear hb2); (try clear hk); (try clear hi); (try clear ho0)) | ((with_reducible refine gate_dst (N := 8) rfl ?_); refine box_event ?hg (N := 8) ?hd (cs := #[.int .i64 0, .slice none 0 0]) (t := 59) ?hr ?_; (case hd => rfl); (case hg => rfl); (case hr => first | (go_simp; done) | (go_simp; rfl)); intro gb344 hg w11 hbox hb; have n0_ := Aside0.mk (Kd.S_below (by (with_reducible repeat (first | apply Kd.S_alloc | apply Kd.S_drewN | apply Kd.S_drew)); exact HO342.out) hb); have n1_ := Aside0.mk (blk_below (g := gb338) (o := .cells #[.int .i64 0, .int .i64 0, .slice none 0 0] 52 (0, 0)) (uK BK338) hb); have n2_ := Aside0.mk (below_step (by repeat (first | (with_reducible first | exact HB.out | apply below_alloc | apply pw_below_drewN | apply below_drew1 | refine below_set ?_ GE338.out) | exact HB.out)) hb); have n3_ := Aside0.mk (hbox); have n4_ := Aside0.mk ((by rw [hg]; exact (below_size (by repeat (first | (with_reducible first | exact HB.out | apply below_alloc | apply pw_below_drewN | apply below_drew1 | refine below_set ?_ GE338.out) | exact HB.out))) : w.heap.size ≤ gb344)); have n5_ := Aside0.mk ((by rw [hg]; exact (below_size (by repeat (first | (with_reducible first | exact HB.out | apply below_alloc | apply pw_below_drewN | apply below_drew1 | refine below_set ?_ GE338.out) | exact HB.out))) : w.heap.size ≤ gb344)); have n6_ := Aside0.mk ((by rw [hg]; exact Nat.ne_of_lt (blk_lt (g := gb338) (o := .cells #[.int .i64 0, .int .i64 0, .slice none 0 0] 52 (0, 0)) (uK BK338)) : gb338 ≠ gb344)); have n7_ := Aside0.mk ((by rw [hg]; exact Nat.ne_of_gt (blk_lt (g := gb338) (o := .cells #[.int .i64 0, .int .i64 0, .slice none 0 0] 52 (0, 0)) (uK BK338)) : gb344 ≠ gb338)); clear HO342 BK338 HB; have HO342 := n0_; have BK338 := n1_; have HB := n2_; have BK344 := n3_; have GW344 := n4_; have GE344 := n5_; have NB338_344 := n6_; have NB344_338 := n7_; clear n0_ n1_ n2_ n3_ n4_ n5_ n6_ n7_ hb hbox hg; have hnb12 := NB344_338.out; have hnc12 := NB338_344.out; have hcz13_0 : w11.cell? ⟨gb344, 0, none⟩ = some (.int .i64 0) := (blk_cell BK344.out 0).trans rfl; have hcz13_1 : w11.cell? ⟨gb344, 1, none⟩ = some (.slice none 0 0) := (blk_cell BK344.out 1).trans rfl; have hfz13_0 := blk_frozen BK344.out 0; have hfz13_1 := blk_frozen BK344.out 1; obtain ⟨Ao14, co14, eo14⟩ := Kd.S_slice HO342.out; subst eo14) | ((with_reducible refine gate_callee (f := 40) rfl ?_); refine goesL_ (some 26) rfl rfl Try.func40 (by kernel_rfl) rfl #[.pointer (some ⟨gb344, 0, none⟩)] rfl (by (try simp only [List.map_toArray, List.map_cons, List.map_nil]); first | done | rfl | (simp only [List.length_drop, List.length_take]; rfl)) ?_; (with_reducible refine (impl_Hyper_order_in59_0.calls k gb344 t339 Ao14 co14 t340 t345 true _ ?side1 ?side2 ?side3 A6.out).mono ?_); (case side1 => exact (by refine uW ?_; refine blk_put (cs := #[.int .i64 t339, .slice none 0 0]) ?_ 1 _ rfl; refine uW ?_; refine blk_put (cs := #[.int .i64 0, .slice none 0 0]) ?_ 0 _ rfl; refine uW ?_; exact BK344.out)); (case side2 => refine (Kd.S_reads' (e := 24) (base := w.heap.size) (ok := fun k_ => True) (n := t340.length) (c := co14) ?_).2.2; exact (by (with_reducible repeat (first | apply Kd.S_alloc | apply Kd.S_drewN | apply Kd.S_drew)); exact (Kd.S_mono (Kd.S_far (p := ⟨gb344, 1, none⟩) (Kd.S_far (p := ⟨gb344, 0, none⟩) (Kd.S_types HO342.out BK344.out (by decide)) (fun _ hk => hk.2) (.int .i64 t339)) (fun _ hk => hk.2) (.slice Ao14 t340.length co14)) (fun _ h_ => h_.1)))); (case side3 => exact (Kd.S_reads' HO342.out).2.1); rintro e w15 ⟨v346, rfl, ho0, hb⟩; refine ⟨_, rfl, ?_⟩; have n0_ := Aside0.mk (Kd.S_below (by (with_reducible repeat (first | apply Kd.S_alloc | apply Kd.S_drewN | apply Kd.S_drew)); exact (Kd.S_mono (Kd.S_far (p := ⟨gb344, 1, none⟩) (Kd.S_far (p := ⟨gb344, 0, none⟩) (Kd.S_types HO342.out BK344.out (by decide)) (fun _ hk => hk.2) (.int .i64 t339)) (fun _ hk => hk.2) (.slice Ao14 t340.length co14)) (fun _ h_ => h_.1))) hb); have n1_ := Aside0.mk (Kd.R_lower ho0 (below_size (by repeat (first | (with_reducible first | exact HB.out | apply below_alloc | apply pw_below_drewN | apply below_drew1 | refine below_set ?_ GE338.out | refine below_set ?_ GE344.out) | exact HB.out)))); have n2_ := Aside0.mk (blk_below (g := gb338) (o := .cells #[.int .i64 0, .int .i64 0, .slice none 0 0] 52 (0, 0)) (by refine uW ?_; refine blk_far ?_ NB338_344.out _; refine uW ?_; refine blk_far ?_ NB338_344.out _; refine uW ?_; exact BK338.out) hb); have n3_ := Aside0.mk (blk_below (g := gb344) (o := .cells #[.int .i64 t339, .slice Ao14 t340.length co14] 59 (0, 0)) (by refine uW ?_; refine blk_put (cs := #[.int .i64 t339, .slice none 0 0]) ?_ 1 _ rfl; refine uW ?_; refine blk_put (cs := #[.int .i64 0, .slice none 0 0]) ?_ 0 _ rfl; refine uW ?_; exact BK344.out) hb); have n4_ := Aside0.mk (below_step (by repeat (first | (with_reducible first | exact HB.out | apply below_alloc | apply pw_below_drewN | apply below_drew1 | refine below_set ?_ GE338.out | refine below_set ?_ GE344.out) | exact HB.out)) hb); clear HO342 BK338 BK344 HB; have HO342 := n0_; have HO347 := n1_; have BK338 := n2_; have BK344 := n3_; have HB := n4_; clear n0_ n1_ n2_ n3_ n4_; (try clear hb); (try clear hb2); (try clear hk); (try clear hi); (try clear ho0); obtain ⟨Aoz, coz, eoz⟩ := Kd.R_slice HO347.out; subst eoz) | ((with_reducible refine gate_dst (N := 34) rfl ?_); refine Kd.R_lit (Kd.int .i64) _ 3 ?hg (N := 34) ?hd (xs := ([3] : List Int)) (inner := [.int .i64 3]) (ok := fun _ => True) (okp := fun _ => True) ?hr ?hp (fun _ hk => hk) trivial (Below.refl _ _) (Nat.le_refl _) (by simp) ?_; (case hd => rfl); (case hg => rfl); (case hr => first | (go_simp; done) | (go_simp; rfl)); (case hp => exact (Reps.one (show Kd.M (Kd.int .i64) _ _ _ 3 [.int .i64 3] from rfl) (Reps.none _ _))); intro v350 w16 ho17 hb hg_ hnew_; clear hg_ hnew_; (first | rw [← Ny349.out] at ho17 | (simp only [Int.reduceToNat] at ho17; rw [← Ny349.out] at ho17)); have n0_ := Aside0.mk (Kd.S_elder' (by (with_reducible repeat (first | apply Kd.S_alloc | apply Kd.S_drewN | apply Kd.S_drew)); exact HO342.out) (Kd.R_base ho17) hb); have n1_ := Aside0.mk (Kd.R_below (uR HO347) hb); have n2_ := Aside0.mk (Kd.R_lower ho17 (below_size (by repeat (first | (with_reducible first | exact HB.out | apply below_alloc | apply pw_below_drewN | apply below_drew1 | refine below_set ?_ GE338.out | refine below_set ?_ GE344.out) | exact HB.out)))); have n3_ := Aside0.mk (blk_below (g := gb338) (o := .cells #[.int .i64 0, .int .i64 0, .slice none 0 0] 52 (0, 0)) (uK BK338) hb); have n4_ := Aside0.mk (blk_below (g := gb344) (o := .cells #[.int .i64 t339, .slice Ao14 t340.length co14] 59 (0, 0)) (uK BK344) hb); have n5_ := Aside0.mk (below_step (by repeat (first | (with_reducible first | exact HB.out | apply below_alloc | apply pw_below_drewN | apply below_drew1 | refine below_set ?_ GE338.out | refine below_set ?_ GE344.out) | exact HB.out)) hb); clear HO342 HO347 BK338 BK344 HB; have HO342 := n0_; have HO347 := n1_; have HO351 := n2_; have BK338 := n3_; have BK344 := n4_; have HB := n5_; clear n0_ n1_ n2_ n3_ n4_ n5_ hb ho17; have hcz18_0 : w16.cell? ⟨gb344, 0, none⟩ = some (.int .i64 t339) := (blk_cell BK344.out 0).trans rfl; have hcz18_1 : w16.cell? ⟨gb344, 1, none⟩ = some (.slice Ao14 t340.length co14) := (blk_cell BK344.out 1).trans rfl; have hfz18_0 := blk_frozen BK344.out 0; have hfz18_1 := blk_frozen BK344.out 1; obtain ⟨Ao19, co19, eo19⟩ := Kd.R_slice HO351.out; subst eo19) | ((with_reducible refine gate_callee (f := 64) rfl ?_); refine goesL_ (some 37) rfl rfl Try.func64 (by kernel_rfl) rfl #[.slice Ao19 y349.length co19, .int .i64 t339] rfl (by (try simp only [List.map_toArray, List.map_cons, List.map_nil]); first | done | rfl | (simp only [List.length_drop, List.length_take]; rfl)) ?_; (with_reducible refine (slices_Repeat_int_int.calls _ _ y349 t339 t352 _ ?side1 ?side2 A8.out).mono ?_); (case side1 => exact uD HO351); (case side2 => exact (Kd.R_reads' HO351.out).2.1); rintro e w20 ⟨v353, rfl, ho0, hb⟩; refine ⟨_, rfl, ?_⟩; have n0_ := Aside0.mk (Kd.S_elder' (by (with_reducible repeat (first | apply Kd.S_alloc | apply Kd.S_drewN | apply Kd.S_drew)); exact HO342.out) (Kd.R_base ho0) hb); have n1_ := Aside0.mk (Kd.R_below (uR HO347) hb); have n2_ := Aside0.mk (Kd.R_elder' (uR HO351) (Kd.R_base ho0) hb); have n3_ := Aside0.mk (Kd.R_lower (Kd.R_new' ho0 (Kd.R_lt (uR HO351))) (below_size (by repeat (first | (with_reducible first | exact HB.out | apply below_alloc | apply pw_below_drewN | apply below_drew1 | refine below_set ?_ GE338.out | refine below_set ?_ GE344.out) | exact HB.out)))); have n4_ := Aside0.mk (blk_below (g := gb338) (o := .cells #[.int .i64 0, .int .i64 0, .slice none 0 0] 52 (0, 0)) (uK BK338) hb); have n5_ := Aside0.mk (blk_below (g := gb344) (o := .cells #[.int .i64 t339, .slice Ao14 t340.length co14] 59 (0, 0)) (uK BK344) hb); have n6_ := Aside0.mk (below_step (by repeat (first | (with_reducible first | exact HB.out | apply below_alloc | apply pw_below_drewN | apply below_drew1 | refine below_set ?_ GE338.out | refine below_set ?_ GE344.out) | exact HB.out)) hb); clear HO342 HO347 HO351 BK338 BK344 HB; have HO342 := n0_; have HO347 := n1_; have HO351 := n2_; have HO354 := n3_; have BK338 := n4_; have BK344 := n5_; have HB := n6_; clear n0_ n1_ n2_ n3_ n4_ n5_ n6_; (try clear hb); (try clear hb2); (try clear hk); (try clear hi); (try clear ho0); obtain ⟨Ao21, co21, eo21⟩ := Kd.R_slice HO354.out; subst eo21) | ((with_reducible refine gate_dst (N := 11) rfl ?_); refine box_event ?hg (N := 11) ?hd (cs := #[.int .i64 0, .int .i64 0, .slice none 0 0]) (t := 52) ?hr ?_; (case hd => rfl); (case hg => rfl); (case hr => first | (go_simp; done) | (go_simp; rfl)); intro gb355 hg w22 hbox hb; have n0_ := Aside0.mk (Kd.S_below (by (with_reducible repeat (first | apply Kd.S_alloc | apply Kd.S_drewN | apply Kd.S_drew)); exact HO342.out) hb); have n1_ := Aside0.mk (Kd.R_below (uR HO347) hb); have n2_ := Aside0.mk (Kd.R_below (uR HO351) hb); have n3_ := Aside0.mk (Kd.R_below (uR HO354) hb); have n4_ := Aside0.mk (blk_below (g := gb338) (o := .cells #[.int .i64 0, .int .i64 0, .slice none 0 0] 52 (0, 0)) (uK BK338) hb); have n5_ := Aside0.mk (blk_below (g := gb344) (o := .cells #[.int .i64 t339, .slice Ao14 t340.length co14] 59 (0, 0)) (uK BK344) hb); have n6_ := Aside0.mk (below_step (by repeat (first | (with_reducible first | exact HB.out | apply below_alloc | apply pw_below_drewN | apply below_drew1 | refine below_set ?_ GE338.out | refine below_set ?_ GE344.out) | exact HB.out)) hb); have n7_ := Aside0.mk (hbox); have n8_ := Aside0.mk ((by rw [hg]; exact (below_size (by repeat (first | (with_reducible first | exact HB.out | apply below_alloc | apply pw_below_drewN | apply below_drew1 | refine below_set ?_ GE338.out | refine below_set ?_ GE344.out) | exact HB.out))) : w.heap.size ≤ gb355)); have n9_ := Aside0.mk ((by rw [hg]; exact (below_size (by repeat (first | (with_reducible first | exact HB.out | apply below_alloc | apply pw_below_drewN | apply below_drew1 | refine below_set ?_ GE338.out | refine below_set ?_ GE344.out) | exact HB.out))) : w.heap.size ≤ gb355)); have n10_ := Aside0.mk ((by rw [hg]; exact Nat.ne_of_lt (blk_lt (g := gb338) (o := .cells #[.int .i64 0, .int .i64 0, .slice none 0 0] 52 (0, 0)) (uK BK338)) : gb338 ≠ gb355)); have n11_ := Aside0.mk ((by rw [hg]; exact Nat.ne_of_gt (blk_lt (g := gb338) (o := .cells #[.int .i64 0, .int .i64 0, .slice none 0 0] 52 (0, 0)) (uK BK338)) : gb355 ≠ gb338)); have n12_ := Aside0.mk ((by rw [hg]; exact Nat.ne_of_lt (blk_lt (g := gb344) (o := .cells #[.int .i64 t339, .slice Ao14 t340.length co14] 59 (0, 0)) (uK BK344)) : gb344 ≠ gb355)); have n13_ := Aside0.mk ((by rw [hg]; exact Nat.ne_of_gt (blk_lt (g := gb344) (o := .cells #[.int .i64 t339, .slice Ao14 t340.length co14] 59 (0, 0)) (uK BK344)) : gb355 ≠ gb344)); clear HO342 HO347 HO351 HO354 BK338 BK344 HB; have HO342 := n0_; have HO347 := n1_; have HO351 := n2_; have HO354 := n3_; have BK338 := n4_; have BK344 := n5_; have HB := n6_; have BK355 := n7_; have GW355 := n8_; have GE355 := n9_; have NB338_355 := n10_; have NB355_338 := n11_; have NB344_355 := n12_; have NB355_344 := n13_; clear n0_ n1_ n2_ n3_ n4_ n5_ n6_ n7_ n8_ n9_ n10_ n11_ n12_ n13_ hb hbox hg; have hnb23 := NB355_338.out; have hnc23 := NB338_355.out; have hnb24 := NB355_344.out; have hnc24 := NB344_355.out; have hcz25_0 : w22.cell? ⟨gb355, 0, none⟩ = some (.int .i64 0) := (blk_cell BK355.out 0).trans rfl; have hcz25_1 : w22.cell? ⟨gb355, 1, none⟩ = some (.int .i64 0) := (blk_cell BK355.out 1).trans rfl; have hcz25_2 : w22.cell? ⟨gb355, 2, none⟩ = some (.slice none 0 0) := (blk_cell BK355.out 2).trans rfl; have hfz25_0 := blk_frozen BK355.out 0; have hfz25_1 := blk_frozen BK355.out 1; have hfz25_2 := blk_frozen BK355.out 2; have hcz26_0 : w22.cell? ⟨gb338, 0, none⟩ = some (.int .i64 0) := (blk_cell BK338.out 0).trans rfl; have hcz26_1 : w22.cell? ⟨gb338, 1, none⟩ = some (.int .i64 0) := (blk_cell BK338.out 1).trans rfl; have hcz26_2 : w22.cell? ⟨gb338, 2, none⟩ = some (.slice none 0 0) := (blk_cell BK338.out 2).trans rfl; have hfz26_0 := blk_frozen BK338.out 0; have hfz26_1 := blk_frozen BK338.out 1; have hfz26_2 := blk_frozen BK338.out 2) | (go_at_call 41; (with_reducible refine (back_calls _ _ _ _).mono ?_); rintro e wB ⟨gS, rfl, hbx, hb⟩; have n0_ := Aside0.mk (Kd.S_below (Kd.S_kept (S := fun k_ => k_ = gb355) (Kd.S_types HO342.out BK355.out (by decide)) (by repeat (first | exact Kept.refl _ _ | refine Kept.setCell (S := fun k_ => k_ = gb355) ?_ (.inl rfl) _)) (fun k_ h_ e_ => h_.2 e_)) hb); have n1_ := Aside0.mk (Kd.R_below (Kd.R_kept (S := fun k_ => k_ = gb355) (Kd.R_types HO347.out BK355.out (by decide)) (by repeat (first | exact Kept.refl _ _ | refine Kept.setCell (S := fun k_ => k_ = gb355) ?_ (.inl rfl) _)) (fun k_ h_ e_ => h_.2 e_)) hb); have n2_ := Aside0.mk (Kd.R_below (Kd.R_kept (S := fun k_ => k_ = gb355) (Kd.R_types HO354.out BK355.out (by decide)) (by repeat (first | exact Kept.refl _ _ | refine Kept.setCell (S := fun k_ => k_ = gb355) ?_ (.inl rfl) _)) (fun k_ h_ e_ => h_.2 e_)) hb); have n3_ := Aside0.mk (blk_below (g := gb338) (o := .cells #[.int .i64 0, .int .i64 0, .slice none 0 0] 52 (0, 0)) (blk_kept (S := fun k_ => k_ = gb355) BK338.out (by repeat (first | exact Kept.refl _ _ | refine Kept.setCell (S := fun k_ => k_ = gb355) ?_ (.inl rfl) _)) NB338_355.out) hb); have n4_ := Aside0.mk (blk_below (g := gb344) (o := .cells #[.int .i64 t339, .slice Ao14 t340.length co14] 59 (0, 0)) (blk_kept (S := fun k_ => k_ = gb355) BK344.out (by repeat (first | exact Kept.refl _ _ | refine Kept.setCell (S := fun k_ => k_ = gb355) ?_ (.inl rfl) _)) NB344_355.out) hb); have n5_ := Aside0.mk (blk_below (g := gb355) (o := .cells #[.int .i64 a0, .int .i64 a2, .slice Ao21 t352.length co21] 52 (0, 0)) (by refine uW ?_; refine blk_put (cs := #[.int .i64 a0, .int .i64 a2, .slice none 0 0]) ?_ 2 _ rfl; refine uW ?_; refine blk_put (cs := #[.int .i64 a0, .int .i64 0, .slice none 0 0]) ?_ 1 _ rfl; refine uW ?_; refine blk_put (cs := #[.int .i64 0, .int .i64 0, .slice none 0 0]) ?_ 0 _ rfl; refine uW ?_; exact BK355.out) hb); have n6_ := Aside0.mk (below_step (by repeat (first | (with_reducible first | exact HB.out | apply below_alloc | apply pw_below_drewN | apply below_drew1 | refine below_set ?_ GE338.out | refine below_set ?_ GE344.out | refine below_set ?_ GE355.out) | exact HB.out)) hb); have n7_ := Aside0.mk hbx; clear HO342 HO347 HO354 BK338 BK344 BK355 HB; have HO342 := n0_; have HO347 := n1_; have HO354 := n2_; have BK338 := n3_; have BK344 := n4_; have BK355 := n5_; have HB := n6_; have BKS := n7_; clear n0_ n1_ n2_ n3_ n4_ n5_ n6_ n7_; clear hb hbx))
   have HZ : t345.length ≤ 1000 := by have h_ := HOK'.out; unfold pelOk at h_; rw [Bool.and_eq_true, decide_eq_true_eq] at h_; exact h_.2
   have HALL : ∀ s ∈ t345, pelOk1 t340 t352.length s = true := by have h_ := HOK'.out; unfold pelOk at h_; rw [Bool.and_eq_true, List.all_eq_true] at h_; exact h_.1
   have HN := Aside0.mk (show t352.length = t352.length from rfl)
   obtain ⟨gc, G1, G2, G3⟩ : ∃ gc, (∀ k, (.slice Ao21 t352.length co21 : Value).ownBlock = some k → k = gc) ∧ (∀ k, k < wB.heap.size → some k ≠ (.slice Ao21 t352.length co21 : Value).ownBlock → k ≠ gc) ∧ w.heap.size ≤ gc := by
    cases ho : (.slice Ao21 t352.length co21 : Value).ownBlock with
    | none => exact ⟨wB.heap.size, fun k e => (by cases e), fun k h1 _ => (by omega), HB.out.size⟩
    | some g => exact ⟨g, fun k e => (by cases e; rfl), fun k _ h2 e => h2 (by rw [e]), Kd.R_base HO354.out g ho⟩
   have NE : ∀ (g : Nat) (cs : Array Value) (t : Nat), wB.heap[g]? = some (.cells cs t (0, 0)) → 3 ≠ t → g ≠ gc := fun g cs t h1 h2 => G2 g (blk_lt h1) (Kd.R_ne HO354.out h1 h2)
   have HE : Kd.S (Kd.slice 3 (Kd.int .i64)) 24 wB w.heap.size (fun k => k ≠ gc ∧ k < wB.heap.size) (.slice Ao14 t340.length co14) t340 := Kd.S_mono (Kd.S_bound HO342.out) (fun k h => ⟨G2 k h.2.2.1 h.1.1.2, h.2.2.1⟩)
   have HSZ : Kd.R k65 65 wB w.heap.size (fun k => k ≠ gc ∧ k < wB.heap.size) (.slice Aoz t345.length coz) t345 := Kd.R_mono (Kd.R_bound (Kd.R_apart' HO347.out (Kd.R_typed HO354.out) (by decide))) (fun k h => ⟨G2 k h.2.2.1 h.1.2, h.2.2.1⟩)
   have HC : ∀ W, BackK gc wB.heap.size wB W → Kd.C k65 W Aoz t345.length t345 := fun W h => Kd.C_kept_own HSZ (fun k h1 h2 => h2.elim h1.1 (fun h3 => by have := h1.2; omega)) W h
   have HE2 : ∀ W, BackK gc wB.heap.size wB W → Kd.S (Kd.slice 3 (Kd.int .i64)) 24 W w.heap.size (fun k => k ≠ gc ∧ k < wB.heap.size) (.slice Ao14 t340.length co14) t340 := fun W h => Kd.S_kept HE h (fun k h1 h2 => h2.elim h1.1 (fun h3 => by have := h1.2; omega))
   have HKB : ∀ (g : Nat) (cs : Array Value) (t : Nat) (W : World), BackK gc wB.heap.size wB W → wB.heap[g]? = some (.cells cs t (0, 0)) → 3 ≠ t → W.heap[g]? = some (.cells cs t (0, 0)) := fun g cs t W h h1 h2 => blk_kept h1 h (fun e => e.elim (NE g cs t h1 h2) (fun e => by have := blk_lt h1; omega))
   have HR0 : Kd.R (Kd.int .i64) 3 wB w.heap.size (fun k => some k = (.slice Ao21 t352.length co21 : Value).ownBlock) (.slice Ao21 t352.length co21 : Value) t352 := Kd.R_tight rfl HO354.out
   have HKS := HKB _ _ _ wB (Kept.refl _ _) BKS.out (by decide)
   refine (wpIn_wide (n := 8)).1 ?_
   refine wpIn_rangeFunc_ownH rfl (by decide) (gf := 75) (lb := #[.pointer (some ⟨gS, 0, none⟩)]) rfl trivial (enters_of Try.func75 (by kernel_rfl) rfl) (back_stops 7 (by decide) gc gS Aoz coz t345 HZ wB BKS.out (NE _ _ _ BKS.out (by decide)) HC) (fun h k => BackK.trans h k) (fun W l o o' hl h hc hw => BackK.putObj W l o o' hl h hc hw) (Below.refl _ _) (fun _ => rfl)
     (fun pre W => BackK gc wB.heap.size wB W ∧ Kd.R (Kd.int .i64) 3 W w.heap.size (fun k => some k = (.slice Ao21 t352.length co21 : Value).ownBlock) (.slice Ao21 t352.length co21 : Value) ((pre.map (el65 t345)).foldl (pelStep t340) t352) ∧ Below w.heap.size w W)
     (fun _ _ _ => False)
     (fun s W W' row hs hg hr => ⟨Kept.of_grown hg hs.1 (fun k e => .inl (.inr (hr k e).1)), R_turned hs.2.1 (fun k h => h) hg (fun r e => (hr r e).2), hs.2.2.grown hg (Nat.le_trans (Nat.le_refl _) hs.2.2.size) (fun k e => Nat.le_trans HB.out.size (hr k e).1)⟩)
     (fun _ _ _ _ _ hs _ _ => hs) ⟨Kept.refl _ _, HR0, HB.out⟩
     (fun k a' W => ∃ g, wB.heap.size ≤ g ∧ W.heap[g]? = some (.cells #[.int .i64 (el65 t345 k).f0, .int .i64 (el65 t345 k).f1] 65 (0, 0)) ∧ a' = { tmps := #[Value.int IntKind.i64 a0, Value.slice A1 l1.length c1, Value.int IntKind.i64 a2, undef, undef, undef, Value.pointer (some { block := gb338, off := 0 }), Value.bool false, Value.pointer (some { block := gb344, off := 0 }), Value.bool true, Value.slice Aoz t345.length coz, Value.pointer (some { block := gb355, off := 0 }), undef, .pointer (some ⟨g, 0, none⟩), undef, Value.tuple #[Value.agg #[Value.int IntKind.i64 t339, Value.slice Ao14 t340.length co14], Value.bool true], Value.int IntKind.i64 a0, Value.slice A1 l1.length c1, Value.int IntKind.i64 a2, Value.tuple #[Value.agg #[Value.int IntKind.i64 t339, Value.slice Ao14 t340.length co14], Value.bool true], Value.agg #[Value.int IntKind.i64 t339, Value.slice Ao14 t340.length co14], Value.bool true, Value.bool true, Value.bool false, undef, Value.tuple #[Value.slice Aoz t345.length coz, Value.bool true], Value.tuple #[Value.slice Aoz t345.length coz, Value.bool true], Value.slice Aoz t345.length coz, Value.bool true, Value.bool true, Value.bool false, undef, Value.int IntKind.i64 a0, Value.int IntKind.i64 a2, Value.slice Ao19 y349.length co19, Value.pointer (some { block := gb344, off := 0 }), Value.int IntKind.i64 t339, Value.slice Ao21 t352.length co21, Value.agg #[Value.int IntKind.i64 a0, Value.int IntKind.i64 a2, Value.slice Ao21 t352.length co21], Value.slice Aoz t345.length coz, Value.func (Fn.func 75) #[] #[Value.pointer (some { block := gS, off := 0 })], .int .i64 (k : Int), .agg #[.int .i64 (el65 t345 k).f0, .int .i64 (el65 t345 k).f1], undef, undef, undef, undef, undef, undef, undef, undef, undef, undef, undef, undef, undef, undef, undef, undef, undef, undef, undef, undef, undef, undef, undef, undef, undef, undef, undef, undef], defers := [] })
     (fun k a' _ W W' row hs hg hr => by obtain ⟨g, h1, h2, h3⟩ := hs; exact ⟨g, h1, (hg.block g (blk_lt h2) (fun e => by obtain ⟨_, o, ho, hc⟩ := hr g e.symm; rw [h2] at ho; cases ho; cases hc)).trans h2, h3⟩)
     ?assign ?body ?done ?stop
   case stop =>
    rintro D c pre W _ _ h _
    exact h.elim
   case assign =>
    rintro l pre x W K ⟨hI1, hI2, hI3⟩ hK
    gi_wp2
    exact hK _ _ ((KeepsOthers.alloc _ _).from _) (Kept.alloc (Kept.refl _ _) _) ⟨Kept.alloc hI1 _, (by (with_reducible repeat (first | apply Kd.R_alloc | apply Kd.R_drewN | apply Kd.R_drew)); exact hI2), below_alloc hI3 _⟩ ⟨W.heap.size, hI1.1, World.alloc_heap_new W _, rfl⟩
   case done =>
    rintro D ys W hD rfl ⟨hK, hR, hBW⟩ hDf
    rw [el65_rev] at hR
    have b1 := HKB _ _ _ W hK BK355.out (by decide)
    have b2 := HKB _ _ _ W hK BK338.out (by decide)
    have hcb1_0 : W.cell? ⟨gb355, 0, none⟩ = some (.int .i64 a0) := (blk_cell b1 0).trans rfl
    have hfb1_0 := blk_frozen b1 0
    have hcb1_1 : W.cell? ⟨gb355, 1, none⟩ = some (.int .i64 a2) := (blk_cell b1 1).trans rfl
    have hfb1_1 := blk_frozen b1 1
    have hcb1_2 : W.cell? ⟨gb355, 2, none⟩ = some (.slice Ao21 t352.length co21) := (blk_cell b1 2).trans rfl
    have hfb1_2 := blk_frozen b1 2
    have hcb2_0 : W.cell? ⟨gb338, 0, none⟩ = some (.int .i64 0) := (blk_cell b2 0).trans rfl
    have hfb2_0 := blk_frozen b2 0
    have hcb2_1 : W.cell? ⟨gb338, 1, none⟩ = some (.int .i64 0) := (blk_cell b2 1).trans rfl
    have hfb2_1 := blk_frozen b2 1
    have hcb2_2 : W.cell? ⟨gb338, 2, none⟩ = some (.slice none 0 0) := (blk_cell b2 2).trans rfl
    have hfb2_2 := blk_frozen b2 2
    go_wp2
    refine ⟨by simp, .inl ⟨_, _, rfl, run_takeDeferred (by repeat (first | exact hDf | refine (KeepsOthers.setCell _ _ _).same D _ ?_ rfl)), ?_⟩⟩
    refine ⟨_, results_ct rfl _ _ gb338 52 #[.int .i64 a0, .int .i64 a2, .slice Ao21 t352.length co21] (0, 0) _ rfl ((World.putObj_heap_other (by have := blk_lt BK338.out; omega)).trans (by refine blk_put (cs := #[.int .i64 a0, .int .i64 a2, .slice none 0 0]) ?_ 2 _ rfl; refine blk_put (cs := #[.int .i64 a0, .int .i64 0, .slice none 0 0]) ?_ 1 _ rfl; refine blk_put (cs := #[.int .i64 0, .int .i64 0, .slice none 0 0]) ?_ 0 _ rfl; exact b2)) Try.underlying52 rfl (by kernel_rfl), ?_⟩
    have hlt0 := fun k h => ((Kd.R_bound HR0).1 k h).2.2.1
    refine ⟨_, rfl, Kd.R_mono (Kd.R_kept (S := fun k => k = gb338 ∨ wB.heap.size ≤ k) hR (Kept.of_grown (grownBy_putObj' _ D _) (by repeat (first | exact Kept.refl _ _ | refine Kept.setCell (S := fun k => k = gb338 ∨ wB.heap.size ≤ k) ?_ (.inl (.inl rfl)) _)) (fun k e => by cases e; exact .inl (.inr hD))) (fun k h1 h2 => h2.elim (fun e => Kd.R_ne hR b2 (by decide) (by rw [← e]; exact h1)) (fun e => by have := hlt0 k h1.symm; omega))) (fun _ _ => trivial), ?_⟩
    have hbl : Below w.heap.size w _ := (by repeat (first | exact hBW | refine below_set ?_ GE338.out) : Below w.heap.size w ((((W.setCell ⟨gb338, 0, none⟩ (.int .i64 a0)).setCell ⟨gb338, 1, none⟩ (.int .i64 a2)).setCell ⟨gb338, 2, none⟩ (.slice Ao21 t352.length co21))))
    exact hbl.grown (grownBy_putObj' _ D _) hbl.size (fun k e => by cases e; exact Nat.le_trans HB.out.size hD)
   case body =>
    rintro l pre x a' W hl hrec ⟨hBK, hR, hBW⟩ ⟨g, hg1, hg2, ha⟩ hlt
    dsimp only at ha
    subst ha
    have hok := HALL _ (el65_mem (zs := t345) x (by omega))
    have hfold : ((pre ++ [x]).map (el65 t345)).foldl (pelStep t340) t352 = pelStep t340 ((pre.map (el65 t345)).foldl (pelStep t340) t352) (el65 t345 x) := by rw [List.map_append, List.foldl_append]; rfl
    generalize (pre.map (el65 t345)).foldl (pelStep t340) t352 = cc at hR hfold
    generalize el65 t345 x = s at hg2 hok hfold ⊢
    have hlc := Aside0.mk (show t352.length = cc.length from (Kd.R_reads' hR).1)
    obtain ⟨⟨p1, q1⟩, ⟨p0, qe⟩, ho3, ho4⟩ := of_decide_eq_true hok
    have HO4 := Aside0.mk ho4
    clear ho4
    have hq1 : s.f1 < (t352.length : Int) := by rw [HN.out]; exact q1
    obtain ⟨ga, ca, ea, gbb, gll, cll, HG⟩ := Kd.R_form hR (by have := hlc.out; omega)
    injection ea with ea1 ea2 ea3
    subst ea1
    clear ea2 ea3 cll HG
    have hga := Aside0.mk (show ga = gc from G1 ga rfl)
    have hgw : ga < wB.heap.size := ((Kd.R_bound HR0).1 ga rfl).2.2.1
    have hT := HKB _ _ _ W hBK BK355.out (by decide)
    have hcT : W.cell? ⟨gb355, 2, none⟩ = some (.slice (some ⟨ga, 0, none⟩) t352.length co21) := (blk_cell hT 2).trans rfl
    have hcS0 : W.cell? ⟨g, 0, none⟩ = some (.int .i64 s.f0) := (blk_cell hg2 0).trans rfl
    have hcS1 : W.cell? ⟨g, 1, none⟩ = some (.int .i64 s.f1) := (blk_cell hg2 1).trans rfl
    obtain ⟨hx0, hf0⟩ := Kd.R_celln 0 hR s.f1 p1 hq1
    have pA := eq_true p1
    have qA := eq_true hq1
    have pB : decide (0 ≤ s.f1) = true := decide_eq_true p1
    have qB : decide (s.f1 < (t352.length : Int)) = true := decide_eq_true hq1
    have hH0 := HKB _ _ _ W hBK BK344.out (by decide)
    have hcH : W.cell? ⟨gb344, 1, none⟩ = some (.slice Ao14 t340.length co14) := (blk_cell hH0 1).trans rfl
    obtain ⟨ade, Ae, ce, eae, hxe0, hle, hCe0⟩ := at_L3 (Kd.S_reads' (HE2 _ hBK)).2.2 s.f0 p0 qe
    cases eae
    have hneA : ade.block ≠ gc := ((Kd.S_R (HE2 _ hBK)).1 ade.block rfl).1
    have pC := eq_true p0
    have pD : decide (0 ≤ s.f0) = true := decide_eq_true p0
    have qE := eq_true qe
    have qF : decide (s.f0 < (t340.length : Int)) = true := decide_eq_true qe
    refine wpIn_block ?_
    refine seq_hide (fun KK hKK => ?_)
    gi_wp2
    refine hKK.out _ _ ?_
    clear hKK KK hcH
    refine seq_hide (fun KK hKK => ?_)
    gi_wp2
    refine hKK.out _ _ ?_
    clear hKK KK hx0 hf0 hcT hcS0 hcS1
    have hR1 := Kd.R_putn hR s.f1 0
    have HKW : Kept W _ (fun k => k = ga) := Kept.setCell (S := fun k => k = ga) (Kept.refl W _) (p := ⟨ga, s.f1.toNat, none⟩) (.inl rfl) (.int .i64 0)
    have hBK1 := Kept.setCell hBK (p := ⟨ga, s.f1.toNat, none⟩) (.inl (.inl hga.out)) (.int .i64 0)
    have hS1 := blk_far hg2 (p := ⟨ga, s.f1.toNat, none⟩) (by show g ≠ ga; omega) (.int .i64 0)
    have hBW1 := below_set (j := s.f1.toNat) (v := .int .i64 0) hBW gbb
    generalize W.setCell ⟨ga, s.f1.toNat, none⟩ (.int .i64 0) = W1 at hR1 HKW hBK1 hS1 hBW1 ⊢
    have n0_ := Kd.R_drew hR1
    have n1_ := Kept.drew HKW
    have n2_ : BackK gc wB.heap.size wB W1.drew := Kept.drew hBK1
    have n3_ := blk_drew hS1
    have n4_ := below_drew1 hBW1
    clear hR1 HKW hBK1 hS1 hBW1
    have hT1 := HKB _ _ _ _ n2_ BK355.out (by decide)
    have hH1 := HKB _ _ _ _ n2_ BK344.out (by decide)
    obtain ⟨ade2, Ae2, ce2, eae2, hxe, hle2, hCe⟩ := at_L3 (Kd.S_reads' (HE2 _ n2_)).2.2 s.f0 p0 qe
    injection eae2 with eae3
    subst eae3
    have hxk := Go.Proofs.YtippedfjmlkpiaaW.PrintWords.cell_kept hxe0 n1_ (fun e => hneA (by rw [← show (ade.add s.f0.toNat).block = ade.block from (by unfold Addr.add; split <;> rfl)]; exact e.trans hga.out))
    have hxq := hxk.symm.trans hxe
    simp only [Option.some.injEq, Value.slice.injEq, true_and] at hxq
    obtain ⟨rfl, rfl⟩ := hxq
    clear hxk hxe0 hCe0 hle2 hH0
    refine startIn_ (n := 17) (S := fun w' => w'.cell? ⟨gb355, 2, none⟩ = some (.slice (some ⟨ga, 0, none⟩) t352.length co21) ∧ w'.cell? ⟨g, 1, none⟩ = some (.int .i64 s.f1)) (ds := [16]) #[false, false, false, false, false, false, false, false, false, false, false, false, false, false, false, false, false] (by kernel_rfl) (by rintro ⟨_, _, h_⟩; exact h_) (by kernel_rfl) rfl rfl ⟨(blk_cell hT1 2).trans rfl, (blk_cell n3_ 1).trans rfl⟩ (fun hHeld => ?_); refine with_tabW impl_BuildPeeled.tab12 impl_BuildPeeled.bits12 (fun HT_ HW_ => ?_)
    generalize W1.drew = W2 at n0_ n1_ n2_ n3_ n4_ hT1 hH1 hxe hCe hHeld ⊢
    refine pure_ (i := 0) (N := (some 54)) (v := ?_) (a' := ?_) #[true, false, false, false, false, false, false, false, false, false, false, false, false, false, false, false, false] rfl rfl (any_of HT_.out (by kernel_rfl)) (fun _ _ _ h => h) (Or.inl ⟨by rfl, ?_⟩) ?_ ?_
    rotate_left
    · intro w'
      go_simp
      with_reducible rfl
    rotate_left
    · simp only [Act.put, List.setIfInBounds_toArray, List.set_cons_zero, List.set_cons_succ, i64_w, i32_w]
      rfl
    refine pure_ (i := 2) (N := (some 56)) (v := ?_) (a' := ?_) #[true, false, true, false, false, false, false, false, false, false, false, false, false, false, false, false, false] rfl rfl (any_of HT_.out (by kernel_rfl)) (fun _ _ _ h => h) (Or.inl ⟨by rfl, ?_⟩) ?_ ?_
    rotate_left
    · intro w'
      go_simp
      with_reducible rfl
    rotate_left
    · simp only [Act.put, List.setIfInBounds_toArray, List.set_cons_zero, List.set_cons_succ, i64_w, i32_w]
      rfl
    refine pure_ (i := 4) (N := (some 58)) (v := ?_) (a' := ?_) #[true, false, true, false, true, false, false, false, false, false, false, false, false, false, false, false, false] rfl rfl (any_of HT_.out (by kernel_rfl)) (fun _ _ _ h => h) (Or.inl ⟨by rfl, ?_⟩) ?_ ?_
    rotate_left
    · intro w'
      go_simp
      with_reducible rfl
    rotate_left
    · simp only [Act.put, List.setIfInBounds_toArray, List.set_cons_zero, List.set_cons_succ, i64_w, i32_w]
      rfl
    refine pure_ (i := 5) (N := (some 59)) (v := ?_) (a' := ?_) #[true, false, true, false, true, true, false, false, false, false, false, false, false, false, false, false, false] rfl rfl (any_of HT_.out (by kernel_rfl)) (fun _ _ _ h => h) (Or.inl ⟨by rfl, ?_⟩) ?_ ?_
    rotate_left
    · intro w'
      go_simp
      with_reducible rfl
    rotate_left
    · simp only [Act.put, List.setIfInBounds_toArray, List.set_cons_zero, List.set_cons_succ, i64_w, i32_w]
      rfl
    refine pure_ (i := 8) (N := (some 62)) (v := ?_) (a' := ?_) #[true, false, true, false, true, true, false, false, true, false, false, false, false, false, false, false, false] rfl rfl (any_of HT_.out (by kernel_rfl)) (fun _ _ _ h => h) (Or.inl ⟨by rfl, ?_⟩) ?_ ?_
    rotate_left
    · intro w'
      go_simp
      with_reducible rfl
    rotate_left
    · simp only [Act.put, List.setIfInBounds_toArray, List.set_cons_zero, List.set_cons_succ, i64_w, i32_w]
      rfl
    refine pure_ (i := 10) (N := (some 64)) (v := ?_) (a' := ?_) #[true, false, true, false, true, true, false, false, true, false, true, false, false, false, false, false, false] rfl rfl (any_of HT_.out (by kernel_rfl)) (fun _ _ _ h => h) (Or.inl ⟨by rfl, ?_⟩) ?_ ?_
    rotate_left
    · intro w'
      go_simp
      with_reducible rfl
    rotate_left
    · simp only [Act.put, List.setIfInBounds_toArray, List.set_cons_zero, List.set_cons_succ, i64_w, i32_w]
      rfl
    refine take_ (i := 1) (N := (some 55)) (v := ?_) (a' := ?_) #[true, true, true, false, true, true, false, false, true, false, true, false, false, false, false, false, false] rfl rfl (take_ofW HT_.out HW_.out (by kernel_rfl)) (fun _ _ _ h => h) (Or.inl ⟨by rfl, ?_⟩) hHeld ?_ ?_
    rotate_left
    · rintro w' ⟨s0, s1⟩
      go_simp
      with_reducible rfl
    rotate_left
    · simp only [Act.put, List.setIfInBounds_toArray, List.set_cons_zero, List.set_cons_succ, i64_w, i32_w]
      rfl
    refine take_ (i := 3) (N := (some 57)) (v := ?_) (a' := ?_) #[true, true, true, true, true, true, false, false, true, false, true, false, false, false, false, false, false] rfl rfl (take_ofW HT_.out HW_.out (by kernel_rfl)) (fun _ _ _ h => h) (Or.inl ⟨by rfl, ?_⟩) hHeld ?_ ?_
    rotate_left
    · rintro w' ⟨s0, s1⟩
      go_simp
      with_reducible rfl
    rotate_left
    · simp only [Act.put, List.setIfInBounds_toArray, List.set_cons_zero, List.set_cons_succ, i64_w, i32_w]
      rfl
    refine take_ (i := 6) (N := (some 60)) (v := ?_) (a' := ?_) #[true, true, true, true, true, true, true, false, true, false, true, false, false, false, false, false, false] rfl rfl (take_ofW HT_.out HW_.out (by kernel_rfl)) (fun _ _ _ h => h) (Or.inl ⟨by rfl, ?_⟩) hHeld ?_ ?_
    rotate_left
    · rintro w' ⟨s0, s1⟩
      go_simp
      with_reducible rfl
    rotate_left
    · simp only [Act.put, List.setIfInBounds_toArray, List.set_cons_zero, List.set_cons_succ, i64_w, i32_w]
      rfl
    refine take_ (i := 9) (N := (some 63)) (v := ?_) (a' := ?_) #[true, true, true, true, true, true, true, false, true, true, true, false, false, false, false, false, false] rfl rfl (take_ofW HT_.out HW_.out (by kernel_rfl)) (fun _ _ _ h => h) (Or.inl ⟨by rfl, ?_⟩) hHeld ?_ ?_
    rotate_left
    · rintro w' ⟨s0, s1⟩
      go_simp
      with_reducible rfl
    rotate_left
    · simp only [Act.put, List.setIfInBounds_toArray, List.set_cons_zero, List.set_cons_succ, i64_w, i32_w]
      rfl
    refine one_ (i := 7) (N := (some 61)) #[true, true, true, true, true, true, true, true, true, true, true, false, false, false, false, false, false] rfl rfl (one_of HT_.out (by kernel_rfl)) (by decide) (fun K hK => ?_)
    refine goes_ Try.func65 (by kernel_rfl) rfl #[.slice Ae (rd_L3 t340 s.f0).length ce, .int .i64 s.f1] (by rfl) rfl rfl (by (try simp only [List.map_toArray, List.map_cons, List.map_nil]); first | done | rfl) ?_
    with_reducible refine (slices_Index_int_int.calls 5 Ae ce (rd_L3 t340 s.f0) s.f1 (ixT (rd_L3 t340 s.f0) s.f1) _ hCe hle (ixT_eq _ _ HO4.out)).mono ?_
    rintro e W3 ⟨rfl, ⟨nd, rfl⟩⟩
    refine ⟨_, rfl, ?_⟩
    have hb : Below W2.heap.size W2 (W2.drewN nd) := pw_below_drewN (Below.refl _ _) _
    generalize W2.drewN nd = W3 at hb ⊢
    have m0_ := Kd.R_below n0_ hb
    have m1_ := Kept.below n1_ hb
    have m2_ := (Kept.below n2_ hb : BackK gc wB.heap.size wB W3)
    have m3_ := blk_below n3_ hb
    have m4_ := below_step n4_ hb
    have m5_ := HKB _ _ _ _ m2_ BK355.out (by decide)
    have hCe3 := Kd.C_below hCe hb
    refine hK.out _ _ ⟨(blk_cell m5_ 2).trans rfl, (blk_cell m3_ 1).trans rfl⟩ (fun hHeld => ?_)
    clear hK K n0_ n1_ n2_ n3_ n4_
    refine norm_ (a' := ?_) ?_ ?_
    rotate_left
    · show Act.put _ (some 61) _ = _
      simp only [Act.put, List.setIfInBounds_toArray, List.set_cons_zero, List.set_cons_succ, i64_w, i32_w]
      rfl
    refine one_ (i := 11) (N := (some 65)) #[true, true, true, true, true, true, true, true, true, true, true, true, false, false, false, false, false] rfl rfl (one_of HT_.out (by kernel_rfl)) (by decide) (fun K hK => ?_)
    refine goes_ Try.func66 (by kernel_rfl) rfl #[.slice (some ⟨ga, 0, none⟩) t352.length co21, .slice Ae (rd_L3 t340 s.f0).length ce] (by rfl) rfl rfl (by (try simp only [List.map_toArray, List.map_cons, List.map_nil]); first | done | rfl) ?_
    have hls : (cc.set s.f1.toNat 0).length = t352.length := by rw [List.length_set, hlc.out]
    refine calls_of_args (args' := #[.slice (some ⟨ga, 0, none⟩) (cc.set s.f1.toNat 0).length co21, .slice Ae (rd_L3 t340 s.f0).length ce]) (by rw [hls]) ?_
    with_reducible refine (impl_led.calls (some ⟨ga, 0, none⟩) co21 (cc.set s.f1.toNat 0) Ae ce (rd_L3 t340 s.f0) (ledT (cc.set s.f1.toNat 0) (rd_L3 t340 s.f0)) _ ?side1 ?side2 ?side3 ?side4 ?side5).mono ?_
    (case side1 => exact (Kd.R_reads' m0_).2.2)
    (case side2 => rw [hls]; exact (Kd.R_reads' m0_).2.1)
    (case side3 => exact hCe3)
    (case side4 => exact hle)
    (case side5 => exact ledT_eq _ _ (by rw [hls]; exact ho3))
    rintro e W4 ⟨rfl, ⟨nd, rfl⟩⟩
    refine ⟨_, rfl, ?_⟩
    have hb : Below W3.heap.size W3 (W3.drewN nd) := pw_below_drewN (Below.refl _ _) _
    generalize W3.drewN nd = W4 at hb ⊢
    have k0_ := Kd.R_below m0_ hb
    have k1_ := Kept.below m1_ hb
    have k2_ := (Kept.below m2_ hb : BackK gc wB.heap.size wB W4)
    have k3_ := blk_below m3_ hb
    have k4_ := below_step m4_ hb
    have k5_ := HKB _ _ _ _ k2_ BK355.out (by decide)
    have hCe4 := Kd.C_below hCe3 hb
    refine hK.out _ _ ⟨(blk_cell k5_ 2).trans rfl, (blk_cell k3_ 1).trans rfl⟩ (fun hHeld => ?_)
    clear hK K m0_ m1_ m2_ m3_ m4_
    refine norm_ (a' := ?_) ?_ ?_
    rotate_left
    · show Act.put _ (some 65) _ = _
      simp only [Act.put, List.setIfInBounds_toArray, List.set_cons_zero, List.set_cons_succ, i64_w, i32_w]
      rfl
    refine pure_ (i := 12) (N := (some 66)) (v := ?_) (a' := ?_) #[true, true, true, true, true, true, true, true, true, true, true, true, true, false, false, false, false] rfl rfl (any_of HT_.out (by kernel_rfl)) (fun _ _ _ h => h) (Or.inl ⟨by rfl, ?_⟩) ?_ ?_
    rotate_left
    · intro w'
      go_simp
      with_reducible rfl
    rotate_left
    · simp only [Act.put, List.setIfInBounds_toArray, List.set_cons_zero, List.set_cons_succ, i64_w, i32_w]
      rfl
    refine pure_ (i := 13) (N := (some 67)) (v := ?_) (a' := ?_) #[true, true, true, true, true, true, true, true, true, true, true, true, true, true, false, false, false] rfl rfl (any_of HT_.out (by kernel_rfl)) (fun _ _ _ h => h) (Or.inl ⟨by rfl, ?_⟩) ?_ ?_
    rotate_left
    · intro w'
      go_simp
      with_reducible rfl
    rotate_left
    · simp only [Act.put, List.setIfInBounds_toArray, List.set_cons_zero, List.set_cons_succ, i64_w, i32_w]
      rfl
    refine pure_ (i := 14) (N := (some 68)) (v := ?_) (a' := ?_) #[true, true, true, true, true, true, true, true, true, true, true, true, true, true, true, false, false] rfl rfl (any_of HT_.out (by kernel_rfl)) (fun _ _ _ h => h) (Or.inl ⟨by rfl, ?_⟩) ?_ ?_
    rotate_left
    · intro w'
      go_simp
      with_reducible rfl
    rotate_left
    · simp only [Act.put, List.setIfInBounds_toArray, List.set_cons_zero, List.set_cons_succ, i64_w, i32_w]
      rfl
    refine pure_ (i := 15) (N := (some 69)) (v := ?_) (a' := ?_) #[true, true, true, true, true, true, true, true, true, true, true, true, true, true, true, true, false] rfl rfl (any_of HT_.out (by kernel_rfl)) (fun _ _ _ h => h) (Or.inl ⟨by rfl, ?_⟩) ?_ ?_
    rotate_left
    · intro w'
      go_simp
      with_reducible rfl
    rotate_left
    · simp only [Act.put, List.setIfInBounds_toArray, List.set_cons_zero, List.set_cons_succ, i64_w, i32_w]
      rfl
    have m0_ := k0_
    have m1_ := k1_
    have m4_ := k4_
    obtain ⟨hx3, hf3⟩ := Kd.R_celln 0 m0_ s.f1 p1 hq1
    refine last_ (i := 16) (N := none) #[true, true, true, true, true, true, true, true, true, true, true, true, true, true, true, true, true] rfl rfl (one_of HT_.out (by kernel_rfl)) (by decide) (fun K hK => ?_)
    refine skip_ (w1 := ?_) (by rfl) rfl ?_ ?_
    rotate_left
    · go_simp
      rfl
    refine hK.out _ _ ?_
    clear hK K hx3 hf3 hHeld
    refine done_ (done_of HT_.out (by kernel_rfl)) ?_
    have hR4 := Kd.R_putn m0_ s.f1 (Int.tmod (wrap64 ((wrap64 ((ixT (rd_L3 t340 s.f0) s.f1) - (ledT (cc.set s.f1.toNat 0) (rd_L3 t340 s.f0)))) + 3)) 3)
    have hKW4 : Kept W _ (fun k => k = ga) := Kept.setCell (S := fun k => k = ga) m1_ (p := ⟨ga, s.f1.toNat, none⟩) (.inl rfl) (.int .i64 (Int.tmod (wrap64 ((wrap64 ((ixT (rd_L3 t340 s.f0) s.f1) - (ledT (cc.set s.f1.toNat 0) (rd_L3 t340 s.f0)))) + 3)) 3))
    have hBW4 := below_set (j := s.f1.toNat) (v := .int .i64 (Int.tmod (wrap64 ((wrap64 ((ixT (rd_L3 t340 s.f0) s.f1) - (ledT (cc.set s.f1.toNat 0) (rd_L3 t340 s.f0)))) + 3)) 3)) m4_ gbb
    refine ⟨⟨hKW4.1, fun k o _ h1 h2 => (hKW4.2 k (Array.getElem?_eq_some_iff.1 h1).1 (fun e => by obtain ⟨cs_, h3⟩ := Kd.R_typed hR ga rfl; rw [e] at h1; rw [h1] at h3; cases h3; cases h2)).trans h1⟩, Kept.mono hKW4 (fun k e => .inl (e.trans hga.out)), BackK.trans hBK (Kept.mono hKW4 (fun k e => .inl (e.trans hga.out))), by rw [hfold]; exact hR4, hBW4⟩

  ·
   replace c7 := Bool.eq_false_iff.mpr c7
   subst c7
   have H1 : (some (0, 0, ([] : List Int), false)) = some (r1, r2, r3, r4) := by rw [if_neg (show ¬ (false = true) by decide)] at H; exact H
   clear H
   have H := H1
   clear H1
   simp only [Option.some.injEq, Prod.mk.injEq] at H
   obtain ⟨rfl, rfl, rfl, rfl⟩ := H
   go_enter Try.func30, Try.ntmps30
   go_wp2_with (first | ((with_reducible refine gate_dst (N := 6) rfl ?_); refine box_event ?hg (N := 6) ?hd (cs := #[.int .i64 0, .int .i64 0, .slice none 0 0]) (t := 52) ?hr ?_; (case hd => rfl); (case hg => rfl); (case hr => first | (go_simp; done) | (go_simp; rfl)); intro gb338 hg w27 hbox hb; have n0_ := Aside0.mk (below_step (uB HB) hb); have n1_ := Aside0.mk (hbox); have n2_ := Aside0.mk ((by rw [hg]; exact (below_size (uB HB)) : w.heap.size ≤ gb338)); have n3_ := Aside0.mk ((by rw [hg]; exact (below_size (uB HB)) : w.heap.size ≤ gb338)); clear HB; have HB := n0_; have BK338 := n1_; have GW338 := n2_; have GE338 := n3_; clear n0_ n1_ n2_ n3_; clear hb hbox hg) | ((with_reducible refine gate_callee (f := 39) rfl ?_); refine goesL_ (some 19) rfl rfl Try.func39 (by kernel_rfl) rfl #[.int .i64 a0, .slice A1 l1.length c1, .int .i64 a2] rfl (by (try simp only [List.map_toArray, List.map_cons, List.map_nil]); first | done | rfl | (simp only [List.length_drop, List.length_take]; rfl)) ?_; (with_reducible refine (impl_HyperOf.calls k a0 _ _ l1 a2 t339 t340 true _ ?side1 ?side2 A4.out).mono ?_); (case side1 => exact uC HR1 HB); (case side2 => exact HC1.out); rintro e w28 ⟨v341, rfl, ho0, hb⟩; refine ⟨_, rfl, ?_⟩; have n0_ := Aside0.mk (Kd.S_lower ho0 (below_size (by repeat (first | (with_reducible first | exact HB.out | apply below_alloc | apply pw_below_drewN | apply below_drew1 | refine below_set ?_ GE338.out) | exact HB.out)))); have n1_ := Aside0.mk (blk_below (g := gb338) (o := .cells #[.int .i64 0, .int .i64 0, .slice none 0 0] 52 (0, 0)) (uK BK338) hb); have n2_ := Aside0.mk (below_step (by repeat (first | (with_reducible first | exact HB.out | apply below_alloc | apply pw_below_drewN | apply below_drew1 | refine below_set ?_ GE338.out) | exact HB.out)) hb); clear BK338 HB; have HO342 := n0_; have BK338 := n1_; have HB := n2_; clear n0_ n1_ n2_; (try clear hb); (try clear hb2); (try clear hk); (try clear hi); (try clear ho0)) | ((with_reducible refine gate_dst (N := 8) rfl ?_); refine box_event ?hg (N := 8) ?hd (cs := #[.int .i64 0, .slice none 0 0]) (t := 59) ?hr ?_; (case hd => rfl); (case hg => rfl); (case hr => first | (go_simp; done) | (go_simp; rfl)); intro gb344 hg w29 hbox hb; have n0_ := Aside0.mk (Kd.S_below (by (with_reducible repeat (first | apply Kd.S_alloc | apply Kd.S_drewN | apply Kd.S_drew)); exact HO342.out) hb); have n1_ := Aside0.mk (blk_below (g := gb338) (o := .cells #[.int .i64 0, .int .i64 0, .slice none 0 0] 52 (0, 0)) (uK BK338) hb); have n2_ := Aside0.mk (below_step (by repeat (first | (with_reducible first | exact HB.out | apply below_alloc | apply pw_below_drewN | apply below_drew1 | refine below_set ?_ GE338.out) | exact HB.out)) hb); have n3_ := Aside0.mk (hbox); have n4_ := Aside0.mk ((by rw [hg]; exact (below_size (by repeat (first | (with_reducible first | exact HB.out | apply below_alloc | apply pw_below_drewN | apply below_drew1 | refine below_set ?_ GE338.out) | exact HB.out))) : w.heap.size ≤ gb344)); have n5_ := Aside0.mk ((by rw [hg]; exact (below_size (by repeat (first | (with_reducible first | exact HB.out | apply below_alloc | apply pw_below_drewN | apply below_drew1 | refine below_set ?_ GE338.out) | exact HB.out))) : w.heap.size ≤ gb344)); have n6_ := Aside0.mk ((by rw [hg]; exact Nat.ne_of_lt (blk_lt (g := gb338) (o := .cells #[.int .i64 0, .int .i64 0, .slice none 0 0] 52 (0, 0)) (uK BK338)) : gb338 ≠ gb344)); have n7_ := Aside0.mk ((by rw [hg]; exact Nat.ne_of_gt (blk_lt (g := gb338) (o := .cells #[.int .i64 0, .int .i64 0, .slice none 0 0] 52 (0, 0)) (uK BK338)) : gb344 ≠ gb338)); clear HO342 BK338 HB; have HO342 := n0_; have BK338 := n1_; have HB := n2_; have BK344 := n3_; have GW344 := n4_; have GE344 := n5_; have NB338_344 := n6_; have NB344_338 := n7_; clear n0_ n1_ n2_ n3_ n4_ n5_ n6_ n7_ hb hbox hg; have hnb30 := NB344_338.out; have hnc30 := NB338_344.out; have hcz31_0 : w29.cell? ⟨gb344, 0, none⟩ = some (.int .i64 0) := (blk_cell BK344.out 0).trans rfl; have hcz31_1 : w29.cell? ⟨gb344, 1, none⟩ = some (.slice none 0 0) := (blk_cell BK344.out 1).trans rfl; have hfz31_0 := blk_frozen BK344.out 0; have hfz31_1 := blk_frozen BK344.out 1; obtain ⟨Ao32, co32, eo32⟩ := Kd.S_slice HO342.out; subst eo32) | ((with_reducible refine gate_callee (f := 40) rfl ?_); refine goesL_ (some 26) rfl rfl Try.func40 (by kernel_rfl) rfl #[.pointer (some ⟨gb344, 0, none⟩)] rfl (by (try simp only [List.map_toArray, List.map_cons, List.map_nil]); first | done | rfl | (simp only [List.length_drop, List.length_take]; rfl)) ?_; (with_reducible refine (impl_Hyper_order_in59_0.calls k gb344 t339 Ao32 co32 t340 t345 false _ ?side1 ?side2 ?side3 A6.out).mono ?_); (case side1 => exact (by refine uW ?_; refine blk_put (cs := #[.int .i64 t339, .slice none 0 0]) ?_ 1 _ rfl; refine uW ?_; refine blk_put (cs := #[.int .i64 0, .slice none 0 0]) ?_ 0 _ rfl; refine uW ?_; exact BK344.out)); (case side2 => refine (Kd.S_reads' (e := 24) (base := w.heap.size) (ok := fun k_ => True) (n := t340.length) (c := co32) ?_).2.2; exact (by (with_reducible repeat (first | apply Kd.S_alloc | apply Kd.S_drewN | apply Kd.S_drew)); exact (Kd.S_mono (Kd.S_far (p := ⟨gb344, 1, none⟩) (Kd.S_far (p := ⟨gb344, 0, none⟩) (Kd.S_types HO342.out BK344.out (by decide)) (fun _ hk => hk.2) (.int .i64 t339)) (fun _ hk => hk.2) (.slice Ao32 t340.length co32)) (fun _ h_ => h_.1)))); (case side3 => exact (Kd.S_reads' HO342.out).2.1); rintro e w33 ⟨v346, rfl, ho0, hb⟩; refine ⟨_, rfl, ?_⟩; have n0_ := Aside0.mk (Kd.S_below (by (with_reducible repeat (first | apply Kd.S_alloc | apply Kd.S_drewN | apply Kd.S_drew)); exact (Kd.S_mono (Kd.S_far (p := ⟨gb344, 1, none⟩) (Kd.S_far (p := ⟨gb344, 0, none⟩) (Kd.S_types HO342.out BK344.out (by decide)) (fun _ hk => hk.2) (.int .i64 t339)) (fun _ hk => hk.2) (.slice Ao32 t340.length co32)) (fun _ h_ => h_.1))) hb); have n1_ := Aside0.mk (Kd.R_lower ho0 (below_size (by repeat (first | (with_reducible first | exact HB.out | apply below_alloc | apply pw_below_drewN | apply below_drew1 | refine below_set ?_ GE338.out | refine below_set ?_ GE344.out) | exact HB.out)))); have n2_ := Aside0.mk (blk_below (g := gb338) (o := .cells #[.int .i64 0, .int .i64 0, .slice none 0 0] 52 (0, 0)) (by refine uW ?_; refine blk_far ?_ NB338_344.out _; refine uW ?_; refine blk_far ?_ NB338_344.out _; refine uW ?_; exact BK338.out) hb); have n3_ := Aside0.mk (blk_below (g := gb344) (o := .cells #[.int .i64 t339, .slice Ao32 t340.length co32] 59 (0, 0)) (by refine uW ?_; refine blk_put (cs := #[.int .i64 t339, .slice none 0 0]) ?_ 1 _ rfl; refine uW ?_; refine blk_put (cs := #[.int .i64 0, .slice none 0 0]) ?_ 0 _ rfl; refine uW ?_; exact BK344.out) hb); have n4_ := Aside0.mk (below_step (by repeat (first | (with_reducible first | exact HB.out | apply below_alloc | apply pw_below_drewN | apply below_drew1 | refine below_set ?_ GE338.out | refine below_set ?_ GE344.out) | exact HB.out)) hb); clear HO342 BK338 BK344 HB; have HO342 := n0_; have HO347 := n1_; have BK338 := n2_; have BK344 := n3_; have HB := n4_; clear n0_ n1_ n2_ n3_ n4_; (try clear hb); (try clear hb2); (try clear hk); (try clear hi); (try clear ho0); have hcz34_0 : w33.cell? ⟨gb338, 0, none⟩ = some (.int .i64 0) := (blk_cell BK338.out 0).trans rfl; have hcz34_1 : w33.cell? ⟨gb338, 1, none⟩ = some (.int .i64 0) := (blk_cell BK338.out 1).trans rfl; have hcz34_2 : w33.cell? ⟨gb338, 2, none⟩ = some (.slice none 0 0) := (blk_cell BK338.out 2).trans rfl; have hfz34_0 := blk_frozen BK338.out 0; have hfz34_1 := blk_frozen BK338.out 1; have hfz34_2 := blk_frozen BK338.out 2))
   refine bodyPost_ret (results_ct rfl _ _ gb338 52 #[.int .i64 0, .int .i64 0, .slice none 0 0] (0, 0) _ rfl (by refine uW ?_; refine blk_put (cs := #[.int .i64 0, .int .i64 0, .slice none 0 0]) ?_ 2 _ rfl; refine uW ?_; refine blk_put (cs := #[.int .i64 0, .int .i64 0, .slice none 0 0]) ?_ 1 _ rfl; refine uW ?_; refine blk_put (cs := #[.int .i64 0, .int .i64 0, .slice none 0 0]) ?_ 0 _ rfl; refine uW ?_; exact BK338.out) Try.underlying52 rfl (by kernel_rfl)) rfl ?_
   exact ⟨_, by first | rfl | (simp [errW_none, errW_some] <;> rfl) | (simp [*, errW_none, errW_some] <;> rfl), by first | exact Kd.R_nil _ _ _ _ _ | exact Kd.N_nil _ _ _ _ _ | exact Kd.V_nil _ _ _ _ _ | exact Kd.Q_nil _ _ _ _ _ | exact Kd.S_nil _ _ _ _ _, by repeat (first | (with_reducible first | exact HB.out | apply below_alloc | apply pw_below_drewN | apply below_drew1 | refine below_set ?_ GE338.out | refine below_set ?_ GE344.out) | exact HB.out)⟩
 ·
  replace c5 := Bool.eq_false_iff.mpr c5
  subst c5
  have H1 : (some (0, 0, ([] : List Int), false)) = some (r1, r2, r3, r4) := by rw [if_neg (show ¬ (false = true) by decide)] at H; exact H
  clear H
  have H := H1
  clear H1
  simp only [Option.some.injEq, Prod.mk.injEq] at H
  obtain ⟨rfl, rfl, rfl, rfl⟩ := H
  go_enter Try.func30, Try.ntmps30
  go_wp2_with (first | ((with_reducible refine gate_dst (N := 6) rfl ?_); refine box_event ?hg (N := 6) ?hd (cs := #[.int .i64 0, .int .i64 0, .slice none 0 0]) (t := 52) ?hr ?_; (case hd => rfl); (case hg => rfl); (case hr => first | (go_simp; done) | (go_simp; rfl)); intro gb338 hg w35 hbox hb; have n0_ := Aside0.mk (below_step (uB HB) hb); have n1_ := Aside0.mk (hbox); have n2_ := Aside0.mk ((by rw [hg]; exact (below_size (uB HB)) : w.heap.size ≤ gb338)); have n3_ := Aside0.mk ((by rw [hg]; exact (below_size (uB HB)) : w.heap.size ≤ gb338)); clear HB; have HB := n0_; have BK338 := n1_; have GW338 := n2_; have GE338 := n3_; clear n0_ n1_ n2_ n3_; clear hb hbox hg) | ((with_reducible refine gate_callee (f := 39) rfl ?_); refine goesL_ (some 19) rfl rfl Try.func39 (by kernel_rfl) rfl #[.int .i64 a0, .slice A1 l1.length c1, .int .i64 a2] rfl (by (try simp only [List.map_toArray, List.map_cons, List.map_nil]); first | done | rfl | (simp only [List.length_drop, List.length_take]; rfl)) ?_; (with_reducible refine (impl_HyperOf.calls k a0 _ _ l1 a2 t339 t340 false _ ?side1 ?side2 A4.out).mono ?_); (case side1 => exact uC HR1 HB); (case side2 => exact HC1.out); rintro e w36 ⟨v341, rfl, ho0, hb⟩; refine ⟨_, rfl, ?_⟩; have n0_ := Aside0.mk (Kd.S_lower ho0 (below_size (by repeat (first | (with_reducible first | exact HB.out | apply below_alloc | apply pw_below_drewN | apply below_drew1 | refine below_set ?_ GE338.out) | exact HB.out)))); have n1_ := Aside0.mk (blk_below (g := gb338) (o := .cells #[.int .i64 0, .int .i64 0, .slice none 0 0] 52 (0, 0)) (uK BK338) hb); have n2_ := Aside0.mk (below_step (by repeat (first | (with_reducible first | exact HB.out | apply below_alloc | apply pw_below_drewN | apply below_drew1 | refine below_set ?_ GE338.out) | exact HB.out)) hb); clear BK338 HB; have HO342 := n0_; have BK338 := n1_; have HB := n2_; clear n0_ n1_ n2_; (try clear hb); (try clear hb2); (try clear hk); (try clear hi); (try clear ho0)) | ((with_reducible refine gate_dst (N := 8) rfl ?_); refine box_event ?hg (N := 8) ?hd (cs := #[.int .i64 0, .slice none 0 0]) (t := 59) ?hr ?_; (case hd => rfl); (case hg => rfl); (case hr => first | (go_simp; done) | (go_simp; rfl)); intro gb344 hg w37 hbox hb; have n0_ := Aside0.mk (Kd.S_below (by (with_reducible repeat (first | apply Kd.S_alloc | apply Kd.S_drewN | apply Kd.S_drew)); exact HO342.out) hb); have n1_ := Aside0.mk (blk_below (g := gb338) (o := .cells #[.int .i64 0, .int .i64 0, .slice none 0 0] 52 (0, 0)) (uK BK338) hb); have n2_ := Aside0.mk (below_step (by repeat (first | (with_reducible first | exact HB.out | apply below_alloc | apply pw_below_drewN | apply below_drew1 | refine below_set ?_ GE338.out) | exact HB.out)) hb); have n3_ := Aside0.mk (hbox); have n4_ := Aside0.mk ((by rw [hg]; exact (below_size (by repeat (first | (with_reducible first | exact HB.out | apply below_alloc | apply pw_below_drewN | apply below_drew1 | refine below_set ?_ GE338.out) | exact HB.out))) : w.heap.size ≤ gb344)); have n5_ := Aside0.mk ((by rw [hg]; exact (below_size (by repeat (first | (with_reducible first | exact HB.out | apply below_alloc | apply pw_below_drewN | apply below_drew1 | refine below_set ?_ GE338.out) | exact HB.out))) : w.heap.size ≤ gb344)); have n6_ := Aside0.mk ((by rw [hg]; exact Nat.ne_of_lt (blk_lt (g := gb338) (o := .cells #[.int .i64 0, .int .i64 0, .slice none 0 0] 52 (0, 0)) (uK BK338)) : gb338 ≠ gb344)); have n7_ := Aside0.mk ((by rw [hg]; exact Nat.ne_of_gt (blk_lt (g := gb338) (o := .cells #[.int .i64 0, .int .i64 0, .slice none 0 0] 52 (0, 0)) (uK BK338)) : gb344 ≠ gb338)); clear HO342 BK338 HB; have HO342 := n0_; have BK338 := n1_; have HB := n2_; have BK344 := n3_; have GW344 := n4_; have GE344 := n5_; have NB338_344 := n6_; have NB344_338 := n7_; clear n0_ n1_ n2_ n3_ n4_ n5_ n6_ n7_ hb hbox hg; have hnb38 := NB344_338.out; have hnc38 := NB338_344.out; have hcz39_0 : w37.cell? ⟨gb344, 0, none⟩ = some (.int .i64 0) := (blk_cell BK344.out 0).trans rfl; have hcz39_1 : w37.cell? ⟨gb344, 1, none⟩ = some (.slice none 0 0) := (blk_cell BK344.out 1).trans rfl; have hfz39_0 := blk_frozen BK344.out 0; have hfz39_1 := blk_frozen BK344.out 1; obtain ⟨Ao40, co40, eo40⟩ := Kd.S_slice HO342.out; subst eo40; have hcz41_0 : w37.cell? ⟨gb338, 0, none⟩ = some (.int .i64 0) := (blk_cell BK338.out 0).trans rfl; have hcz41_1 : w37.cell? ⟨gb338, 1, none⟩ = some (.int .i64 0) := (blk_cell BK338.out 1).trans rfl; have hcz41_2 : w37.cell? ⟨gb338, 2, none⟩ = some (.slice none 0 0) := (blk_cell BK338.out 2).trans rfl; have hfz41_0 := blk_frozen BK338.out 0; have hfz41_1 := blk_frozen BK338.out 1; have hfz41_2 := blk_frozen BK338.out 2))
  refine bodyPost_ret (results_ct rfl _ _ gb338 52 #[.int .i64 0, .int .i64 0, .slice none 0 0] (0, 0) _ rfl (by refine uW ?_; refine blk_put (cs := #[.int .i64 0, .int .i64 0, .slice none 0 0]) ?_ 2 _ rfl; refine uW ?_; refine blk_put (cs := #[.int .i64 0, .int .i64 0, .slice none 0 0]) ?_ 1 _ rfl; refine uW ?_; refine blk_put (cs := #[.int .i64 0, .int .i64 0, .slice none 0 0]) ?_ 0 _ rfl; refine uW ?_; refine blk_far ?_ NB338_344.out _; refine uW ?_; refine blk_far ?_ NB338_344.out _; refine uW ?_; exact BK338.out) Try.underlying52 rfl (by kernel_rfl)) rfl ?_
  exact ⟨_, by first | rfl | (simp [errW_none, errW_some] <;> rfl) | (simp [*, errW_none, errW_some] <;> rfl), by first | exact Kd.R_nil _ _ _ _ _ | exact Kd.N_nil _ _ _ _ _ | exact Kd.V_nil _ _ _ _ _ | exact Kd.Q_nil _ _ _ _ _ | exact Kd.S_nil _ _ _ _ _, by repeat (first | (with_reducible first | exact HB.out | apply below_alloc | apply pw_below_drewN | apply below_drew1 | refine below_set ?_ GE338.out | refine below_set ?_ GE344.out) | exact HB.out)⟩
end

/-! ### laws_eqIntS: function 20 -/
def laws_eqIntS.l0 : Nat → List Int → List Int → Int → Option (Bool)
 | 0, _, _, _ => none
 | k + 1, x0, x1, x5 => if x5 < (x0.length : Int) then (if 0 ≤ x5 then (if x5 < (x1.length : Int) then (if (rd x0 x5) = (rd x1 x5) then (laws_eqIntS.l0 k x0 x1 (wrap64 (x5 + 1))) else (some false)) else (none)) else (none)) else (some true)
def laws_eqIntS.f (k : Nat) (l0 : List Int) (l1 : List Int) : Option (Bool) := if (l0.length : Int) = (l1.length : Int) then (laws_eqIntS.l0 k l0 l1 0) else (some false)
theorem laws_eqIntS.mono_l : ∀ k, (∀ y0 y1 y2, LeO (laws_eqIntS.l0 k y0 y1 y2) (laws_eqIntS.l0 (k + 1) y0 y1 y2))
 | 0 => fun _ _ _ r h => by simp [laws_eqIntS.l0] at h
 | k + 1 => by
  have ih0 := laws_eqIntS.mono_l k
  ·
   intro y0 y1 y2
   unfold laws_eqIntS.l0
   repeat' first
   | (with_reducible exact ih0 _ _ _)
   | (with_reducible exact LeO.refl _)
   | (with_reducible exact LeO.none _)
   | (with_reducible refine LeO.ite ?_ ?_)
   | (with_reducible refine LeO.bind ?_ (fun _ => ?_))
   | exact ih0 _ _ _
   | exact LeO.none _
   | refine LeO.ite ?_ ?_
   | refine LeO.bind ?_ (fun _ => ?_)
theorem laws_eqIntS.mono : ∀ a0 a1 k, LeO (laws_eqIntS.f k a0 a1) (laws_eqIntS.f (k + 1) a0 a1) := by
 intro a0 a1 k
 have ih0 := laws_eqIntS.mono_l k
 unfold laws_eqIntS.f
 repeat' first
   | (with_reducible exact ih0 _ _ _)
   | (with_reducible exact LeO.refl _)
   | (with_reducible exact LeO.none _)
   | (with_reducible refine LeO.ite ?_ ?_)
   | (with_reducible refine LeO.bind ?_ (fun _ => ?_))
   | exact ih0 _ _ _
   | exact LeO.none _
   | refine LeO.ite ?_ ?_
   | refine LeO.bind ?_ (fun _ => ?_)
set_option maxHeartbeats 8000000 in
set_option maxRecDepth 100000 in
theorem laws_eqIntS.calls (k : Nat) (A0 : Option Addr) (c0 : Nat) (l0 : List Int) (A1 : Option Addr) (c1 : Nat) (l1 : List Int) (r : Bool) (w : World) (hr0 : Kd.C (Kd.int .i64) w A0 l0.length l0) (hc0 : l0.length ≤ c0) (hr1 : Kd.C (Kd.int .i64) w A1 l1.length l1) (hc1 : l1.length ≤ c1) (h : laws_eqIntS.f k l0 l1 = some r) :
  Calls Try.prog 20 #[.slice A0 l0.length c0, .slice A1 l1.length c1] w fun e w' => e = .returned (.bool r) ∧ Drawn0 w w' := by
 have HR0 := Aside0.mk hr0
 have HC0 := Aside0.mk hc0
 clear hr0 hc0
 have HR1 := Aside0.mk hr1
 have HC1 := Aside0.mk hc1
 clear hr1 hc1
 have H : (if (l0.length : Int) = (l1.length : Int) then (laws_eqIntS.l0 k l0 l1 0) else (some false)) = some r := h
 clear h
 by_cases c3 : (l0.length : Int) = (l1.length : Int)
 ·
  rw [if_pos c3] at H
  have c3b0 : ((l0.length : Int) == (l1.length : Int)) = true := beq_iff_eq.mpr c3
  have c3b1 : ((l0.length : Int) != (l1.length : Int)) = false := bne_eq_false_iff_eq.mpr c3
  have c3b2 : (l0.length == l1.length) = true := by first | simpa using c3 | (simp at c3 ⊢; omega)
  clear c3
  have H' := Aside0.mk H
  clear H
  go_enter Try.func20, Try.ntmps20
  go_wp2
  repeat (go_quiet (fail); try go_wp2)
  go_loopg [5] k (fun kq v5 w' => ∃ (x5_1 : Int), v5 = .int .i64 x5_1 ∧ Aside0 (laws_eqIntS.l0 kq l0 l1 x5_1 = some r) ∧ Aside0 (kq ≤ k) ∧ Drawn0 w w')
  case atStart => exact ⟨(0), (by first | rfl | (simp; done) | (simp [*]; done)), H', ⟨Nat.le_refl _⟩, by repeat (first | exact Drawn0.refl _ | apply Drawn0.step)⟩
  case round =>
   clear H'
   try clear c1
   try clear c2
   try clear p2
   try clear c3
   try clear c3b0
   try clear c3b1
   try clear c3b2
   obtain ⟨x5_1, rfl, HA, HK1, ⟨m1, rfl⟩⟩ := hrel
   cases gk with
   | zero => exact absurd HA.out (by simp [laws_eqIntS.l0])
   | succ k1 =>
    have H := HA.out
    clear HA
    simp only [laws_eqIntS.l0] at H
    by_cases c4 : x5_1 < (l0.length : Int)
    ·
     rw [if_pos c4] at H
     have c4b0 : decide (x5_1 < (l0.length : Int)) = true := decide_eq_true c4
     clear c4
     by_cases c5 : 0 ≤ x5_1
     ·
      rw [if_pos c5] at H
      have c5b0 : decide (0 ≤ x5_1) = true := decide_eq_true c5
      clear c5
      by_cases c6 : x5_1 < (l1.length : Int)
      ·
       rw [if_pos c6] at H
       have c6b0 : decide (x5_1 < (l1.length : Int)) = true := decide_eq_true c6
       clear c6
       by_cases c7 : (rd l0 x5_1) = (rd l1 x5_1)
       ·
        rw [if_pos c7] at H
        have c7b0 : ((rd l0 x5_1) == (rd l1 x5_1)) = true := beq_iff_eq.mpr c7
        have c7b1 : ((rd l0 x5_1) != (rd l1 x5_1)) = false := bne_eq_false_iff_eq.mpr c7
        clear c7
        have H' := Aside0.mk H
        clear H
        have p356 : 0 ≤ (x5_1 : Int) := of_decide_eq_true (by first | (with_reducible assumption) | assumption)
        have q356 : x5_1 < (l0.length : Int) := of_decide_eq_true (by first | (with_reducible assumption) | assumption)
        obtain ⟨ad356, e356, hx356_0⟩ := Kd.at_int HR0.out x5_1 p356 q356
        cases e356
        replace p356 := eq_true p356
        replace q356 := eq_true q356
        have p357 : 0 ≤ (x5_1 : Int) := of_decide_eq_true (by first | (with_reducible assumption) | assumption)
        have q357 : x5_1 < (l1.length : Int) := of_decide_eq_true (by first | (with_reducible assumption) | assumption)
        obtain ⟨ad357, e357, hx357_0⟩ := Kd.at_int HR1.out x5_1 p357 q357
        cases e357
        replace p357 := eq_true p357
        replace q357 := eq_true q357
        go_wp2
        repeat (go_quiet (fail); try go_wp2)
        go_roundg k1
        case measure => have := HK1.out; omega
        case rel => exact ⟨(wrap64 (x5_1 + 1)), (by first | rfl | (simp; done) | (simp [*]; done)), H', ⟨by have := HK1.out; omega⟩, by repeat (first | exact Drawn0.refl _ | apply Drawn0.step)⟩
       ·
        rw [if_neg c7] at H
        have c7b0 : ((rd l0 x5_1) == (rd l1 x5_1)) = false := beq_eq_false_iff_ne.mpr c7
        have c7b1 : ((rd l0 x5_1) != (rd l1 x5_1)) = true := bne_iff_ne.mpr c7
        obtain rfl := Option.some.inj H
        have p356 : 0 ≤ (x5_1 : Int) := of_decide_eq_true (by first | (with_reducible assumption) | assumption)
        have q356 : x5_1 < (l0.length : Int) := of_decide_eq_true (by first | (with_reducible assumption) | assumption)
        obtain ⟨ad356, e356, hx356_0⟩ := Kd.at_int HR0.out x5_1 p356 q356
        cases e356
        replace p356 := eq_true p356
        replace q356 := eq_true q356
        have p357 : 0 ≤ (x5_1 : Int) := of_decide_eq_true (by first | (with_reducible assumption) | assumption)
        have q357 : x5_1 < (l1.length : Int) := of_decide_eq_true (by first | (with_reducible assumption) | assumption)
        obtain ⟨ad357, e357, hx357_0⟩ := Kd.at_int HR1.out x5_1 p357 q357
        cases e357
        replace p357 := eq_true p357
        replace q357 := eq_true q357
        go_wp2
        repeat (go_quiet (fail); try go_wp2)
        go_ret
        exact ⟨by first | rfl | (simp; done) | (simp [*]; done), by repeat (first | exact Drawn0.refl _ | apply Drawn0.step)⟩
      ·
       rw [if_neg c6] at H
       exact absurd H (by simp)
     ·
      rw [if_neg c5] at H
      exact absurd H (by simp)
    ·
     rw [if_neg c4] at H
     have c4b0 : decide (x5_1 < (l0.length : Int)) = false := decide_eq_false c4
     clear c4
     obtain rfl := Option.some.inj H
     go_wp2
     repeat (go_quiet (fail); try go_wp2)
     go_ret
     exact ⟨by first | rfl | (simp; done) | (simp [*]; done), by repeat (first | exact Drawn0.refl _ | apply Drawn0.step)⟩
 ·
  rw [if_neg c3] at H
  have c3b0 : ((l0.length : Int) == (l1.length : Int)) = false := beq_eq_false_iff_ne.mpr c3
  have c3b1 : ((l0.length : Int) != (l1.length : Int)) = true := bne_iff_ne.mpr c3
  have c3b2 : (l0.length == l1.length) = false := by first | simpa using c3 | (simp at c3 ⊢; omega)
  obtain rfl := Option.some.inj H
  go_enter Try.func20, Try.ntmps20
  go_wp2
  repeat (go_quiet (fail); try go_wp2)
  go_ret
  exact ⟨by first | rfl | (simp; done) | (simp [*]; done), by repeat (first | exact Drawn0.refl _ | apply Drawn0.step)⟩

/-! ### laws_eqPeeled: function 31 -/
def laws_eqPeeled.f (k : Nat) (a0_0 : Int) (a0_1 : Int) (l0_2 : List Int) (a1_0 : Int) (a1_1 : Int) (l1_2 : List Int) : Option (Bool) := if a0_0 = a1_0 then (if a0_1 = a1_1 then ((laws_eqIntS.f k l0_2 l1_2).bind fun t360 => (if t360 = true then (some true) else (some false))) else (some false)) else (some false)
theorem laws_eqPeeled.mono : ∀ a0 a1 a2 a3 a4 a5 k, LeO (laws_eqPeeled.f k a0 a1 a2 a3 a4 a5) (laws_eqPeeled.f (k + 1) a0 a1 a2 a3 a4 a5) := by
 intro a0 a1 a2 a3 a4 a5 k
 unfold laws_eqPeeled.f
 repeat' first
   | (with_reducible exact laws_eqIntS.mono _ _ _)
   | (with_reducible exact LeO.refl _)
   | (with_reducible exact LeO.none _)
   | (with_reducible refine LeO.ite ?_ ?_)
   | (with_reducible refine LeO.bind ?_ (fun _ => ?_))
   | exact laws_eqIntS.mono _ _ _
   | exact LeO.none _
   | refine LeO.ite ?_ ?_
   | refine LeO.bind ?_ (fun _ => ?_)
set_option maxHeartbeats 8000000 in
set_option maxRecDepth 100000 in
theorem laws_eqPeeled.calls (k : Nat) (a0_0 : Int) (a0_1 : Int) (A0_2 : Option Addr) (c0_2 : Nat) (l0_2 : List Int) (a1_0 : Int) (a1_1 : Int) (A1_2 : Option Addr) (c1_2 : Nat) (l1_2 : List Int) (r : Bool) (w : World) (hr0_2 : Kd.C (Kd.int .i64) w A0_2 l0_2.length l0_2) (hc0_2 : l0_2.length ≤ c0_2) (hr1_2 : Kd.C (Kd.int .i64) w A1_2 l1_2.length l1_2) (hc1_2 : l1_2.length ≤ c1_2) (h : laws_eqPeeled.f k a0_0 a0_1 l0_2 a1_0 a1_1 l1_2 = some r) :
  Calls Try.prog 31 #[.agg #[.int .i64 a0_0, .int .i64 a0_1, .slice A0_2 l0_2.length c0_2], .agg #[.int .i64 a1_0, .int .i64 a1_1, .slice A1_2 l1_2.length c1_2]] w fun e w' => e = .returned (.bool r) ∧ Below w.heap.size w w' := by
 have hu52 := Try.underlying52
 have HR0_2 := Aside0.mk hr0_2
 have HC0_2 := Aside0.mk hc0_2
 clear hr0_2 hc0_2
 have HR1_2 := Aside0.mk hr1_2
 have HC1_2 := Aside0.mk hc1_2
 clear hr1_2 hc1_2
 have HB := Aside0.mk (Below.refl w.heap.size w)
 have H : (if a0_0 = a1_0 then (if a0_1 = a1_1 then ((laws_eqIntS.f k l0_2 l1_2).bind fun t360 => (if t360 = true then (some true) else (some false))) else (some false)) else (some false)) = some r := h
 clear h
 by_cases c3 : a0_0 = a1_0
 ·
  rw [if_pos c3] at H
  have c3b0 : (a0_0 == a1_0) = true := beq_iff_eq.mpr c3
  have c3b1 : (a0_0 != a1_0) = false := bne_eq_false_iff_eq.mpr c3
  clear c3
  by_cases c4 : a0_1 = a1_1
  ·
   rw [if_pos c4] at H
   have c4b0 : (a0_1 == a1_1) = true := beq_iff_eq.mpr c4
   have c4b1 : (a0_1 != a1_1) = false := bne_eq_false_iff_eq.mpr c4
   clear c4
   replace H := Option.bind_eq_some_iff.mp H
   obtain ⟨t360, A50, H⟩ := H
   replace H : (if t360 = true then (some true) else (some false)) = some r := H
   have A5 := Aside0.mk A50
   clear A50
   by_cases c6 : t360 = true
   ·
    subst c6
    have H1 : (some true) = some r := by rw [if_pos rfl] at H; exact H
    clear H
    have H := H1
    clear H1
    obtain rfl := Option.some.inj H
    go_enter Try.func31, Try.ntmps31
    go_wp2_with (first | ((with_reducible refine gate_dst (N := 2) rfl ?_); refine box_event ?hg (N := 2) ?hd (cs := #[.int .i64 a0_0, .int .i64 a0_1, .slice A0_2 l0_2.length c0_2]) (t := 52) ?hr ?_; (case hd => rfl); (case hg => rfl); (case hr => first | (go_simp; done) | (go_simp; rfl)); intro gb358 hg w7 hbox hb; have n0_ := Aside0.mk (below_step (uB HB) hb); have n1_ := Aside0.mk (hbox); have n2_ := Aside0.mk ((by rw [hg]; exact (below_size (uB HB)) : w.heap.size ≤ gb358)); have n3_ := Aside0.mk ((by rw [hg]; exact (below_size (uB HB)) : w.heap.size ≤ gb358)); clear HB; have HB := n0_; have BK358 := n1_; have GW358 := n2_; have GE358 := n3_; clear n0_ n1_ n2_ n3_; clear hb hbox hg) | ((with_reducible refine gate_dst (N := 3) rfl ?_); refine box_event ?hg (N := 3) ?hd (cs := #[.int .i64 a1_0, .int .i64 a1_1, .slice A1_2 l1_2.length c1_2]) (t := 52) ?hr ?_; (case hd => rfl); (case hg => rfl); (case hr => first | (go_simp; done) | (go_simp; rfl)); intro gb359 hg w8 hbox hb; have n0_ := Aside0.mk (blk_below (g := gb358) (o := .cells #[.int .i64 a0_0, .int .i64 a0_1, .slice A0_2 l0_2.length c0_2] 52 (0, 0)) (uK BK358) hb); have n1_ := Aside0.mk (below_step (by repeat (first | (with_reducible first | exact HB.out | apply below_alloc | apply pw_below_drewN | apply below_drew1 | refine below_set ?_ GE358.out) | exact HB.out)) hb); have n2_ := Aside0.mk (hbox); have n3_ := Aside0.mk ((by rw [hg]; exact (below_size (by repeat (first | (with_reducible first | exact HB.out | apply below_alloc | apply pw_below_drewN | apply below_drew1 | refine below_set ?_ GE358.out) | exact HB.out))) : w.heap.size ≤ gb359)); have n4_ := Aside0.mk ((by rw [hg]; exact (below_size (by repeat (first | (with_reducible first | exact HB.out | apply below_alloc | apply pw_below_drewN | apply below_drew1 | refine below_set ?_ GE358.out) | exact HB.out))) : w.heap.size ≤ gb359)); have n5_ := Aside0.mk ((by rw [hg]; exact Nat.ne_of_lt (blk_lt (g := gb358) (o := .cells #[.int .i64 a0_0, .int .i64 a0_1, .slice A0_2 l0_2.length c0_2] 52 (0, 0)) (uK BK358)) : gb358 ≠ gb359)); have n6_ := Aside0.mk ((by rw [hg]; exact Nat.ne_of_gt (blk_lt (g := gb358) (o := .cells #[.int .i64 a0_0, .int .i64 a0_1, .slice A0_2 l0_2.length c0_2] 52 (0, 0)) (uK BK358)) : gb359 ≠ gb358)); clear BK358 HB; have BK358 := n0_; have HB := n1_; have BK359 := n2_; have GW359 := n3_; have GE359 := n4_; have NB358_359 := n5_; have NB359_358 := n6_; clear n0_ n1_ n2_ n3_ n4_ n5_ n6_ hb hbox hg; have hnb9 := NB358_359.out; have hnc9 := NB359_358.out; have hcz10_0 : w8.cell? ⟨gb358, 0, none⟩ = some (.int .i64 a0_0) := (blk_cell BK358.out 0).trans rfl; have hcz10_1 : w8.cell? ⟨gb358, 1, none⟩ = some (.int .i64 a0_1) := (blk_cell BK358.out 1).trans rfl; have hcz10_2 : w8.cell? ⟨gb358, 2, none⟩ = some (.slice A0_2 l0_2.length c0_2) := (blk_cell BK358.out 2).trans rfl; have hfz10_0 := blk_frozen BK358.out 0; have hfz10_1 := blk_frozen BK358.out 1; have hfz10_2 := blk_frozen BK358.out 2; have hcz11_0 : w8.cell? ⟨gb359, 0, none⟩ = some (.int .i64 a1_0) := (blk_cell BK359.out 0).trans rfl; have hcz11_1 : w8.cell? ⟨gb359, 1, none⟩ = some (.int .i64 a1_1) := (blk_cell BK359.out 1).trans rfl; have hcz11_2 : w8.cell? ⟨gb359, 2, none⟩ = some (.slice A1_2 l1_2.length c1_2) := (blk_cell BK359.out 2).trans rfl; have hfz11_0 := blk_frozen BK359.out 0; have hfz11_1 := blk_frozen BK359.out 1; have hfz11_2 := blk_frozen BK359.out 2) | ((with_reducible refine gate_callee (f := 20) rfl ?_); refine goesL_ (some 19) rfl rfl Try.func20 (by kernel_rfl) rfl #[.slice A0_2 l0_2.length c0_2, .slice A1_2 l1_2.length c1_2] rfl (by (try simp only [List.map_toArray, List.map_cons, List.map_nil]); first | done | rfl | (simp only [List.length_drop, List.length_take]; rfl)) ?_; (with_reducible refine (laws_eqIntS.calls k _ _ l0_2 _ _ l1_2 true _ ?side1 ?side2 ?side3 ?side4 A5.out).mono ?_); (case side1 => exact uC HR0_2 HB); (case side2 => exact HC0_2.out); (case side3 => exact uC HR1_2 HB); (case side4 => exact HC1_2.out); rintro e w' ⟨rfl, ⟨nd, rfl⟩⟩; refine ⟨_, rfl, ?_⟩))
    go_ret
    exact ⟨by first | rfl | (simp [errW_none, errW_some] <;> rfl) | (simp [*, errW_none, errW_some] <;> rfl), by repeat (first | (with_reducible first | exact HB.out | apply below_alloc | apply pw_below_drewN | apply below_drew1 | refine below_set ?_ GE358.out | refine below_set ?_ GE359.out) | exact HB.out)⟩
   ·
    replace c6 := Bool.eq_false_iff.mpr c6
    subst c6
    have H1 : (some false) = some r := by rw [if_neg (show ¬ (false = true) by decide)] at H; exact H
    clear H
    have H := H1
    clear H1
    obtain rfl := Option.some.inj H
    go_enter Try.func31, Try.ntmps31
    go_wp2_with (first | ((with_reducible refine gate_dst (N := 2) rfl ?_); refine box_event ?hg (N := 2) ?hd (cs := #[.int .i64 a0_0, .int .i64 a0_1, .slice A0_2 l0_2.length c0_2]) (t := 52) ?hr ?_; (case hd => rfl); (case hg => rfl); (case hr => first | (go_simp; done) | (go_simp; rfl)); intro gb358 hg w12 hbox hb; have n0_ := Aside0.mk (below_step (uB HB) hb); have n1_ := Aside0.mk (hbox); have n2_ := Aside0.mk ((by rw [hg]; exact (below_size (uB HB)) : w.heap.size ≤ gb358)); have n3_ := Aside0.mk ((by rw [hg]; exact (below_size (uB HB)) : w.heap.size ≤ gb358)); clear HB; have HB := n0_; have BK358 := n1_; have GW358 := n2_; have GE358 := n3_; clear n0_ n1_ n2_ n3_; clear hb hbox hg) | ((with_reducible refine gate_dst (N := 3) rfl ?_); refine box_event ?hg (N := 3) ?hd (cs := #[.int .i64 a1_0, .int .i64 a1_1, .slice A1_2 l1_2.length c1_2]) (t := 52) ?hr ?_; (case hd => rfl); (case hg => rfl); (case hr => first | (go_simp; done) | (go_simp; rfl)); intro gb359 hg w13 hbox hb; have n0_ := Aside0.mk (blk_below (g := gb358) (o := .cells #[.int .i64 a0_0, .int .i64 a0_1, .slice A0_2 l0_2.length c0_2] 52 (0, 0)) (uK BK358) hb); have n1_ := Aside0.mk (below_step (by repeat (first | (with_reducible first | exact HB.out | apply below_alloc | apply pw_below_drewN | apply below_drew1 | refine below_set ?_ GE358.out) | exact HB.out)) hb); have n2_ := Aside0.mk (hbox); have n3_ := Aside0.mk ((by rw [hg]; exact (below_size (by repeat (first | (with_reducible first | exact HB.out | apply below_alloc | apply pw_below_drewN | apply below_drew1 | refine below_set ?_ GE358.out) | exact HB.out))) : w.heap.size ≤ gb359)); have n4_ := Aside0.mk ((by rw [hg]; exact (below_size (by repeat (first | (with_reducible first | exact HB.out | apply below_alloc | apply pw_below_drewN | apply below_drew1 | refine below_set ?_ GE358.out) | exact HB.out))) : w.heap.size ≤ gb359)); have n5_ := Aside0.mk ((by rw [hg]; exact Nat.ne_of_lt (blk_lt (g := gb358) (o := .cells #[.int .i64 a0_0, .int .i64 a0_1, .slice A0_2 l0_2.length c0_2] 52 (0, 0)) (uK BK358)) : gb358 ≠ gb359)); have n6_ := Aside0.mk ((by rw [hg]; exact Nat.ne_of_gt (blk_lt (g := gb358) (o := .cells #[.int .i64 a0_0, .int .i64 a0_1, .slice A0_2 l0_2.length c0_2] 52 (0, 0)) (uK BK358)) : gb359 ≠ gb358)); clear BK358 HB; have BK358 := n0_; have HB := n1_; have BK359 := n2_; have GW359 := n3_; have GE359 := n4_; have NB358_359 := n5_; have NB359_358 := n6_; clear n0_ n1_ n2_ n3_ n4_ n5_ n6_ hb hbox hg; have hnb14 := NB358_359.out; have hnc14 := NB359_358.out; have hcz15_0 : w13.cell? ⟨gb358, 0, none⟩ = some (.int .i64 a0_0) := (blk_cell BK358.out 0).trans rfl; have hcz15_1 : w13.cell? ⟨gb358, 1, none⟩ = some (.int .i64 a0_1) := (blk_cell BK358.out 1).trans rfl; have hcz15_2 : w13.cell? ⟨gb358, 2, none⟩ = some (.slice A0_2 l0_2.length c0_2) := (blk_cell BK358.out 2).trans rfl; have hfz15_0 := blk_frozen BK358.out 0; have hfz15_1 := blk_frozen BK358.out 1; have hfz15_2 := blk_frozen BK358.out 2; have hcz16_0 : w13.cell? ⟨gb359, 0, none⟩ = some (.int .i64 a1_0) := (blk_cell BK359.out 0).trans rfl; have hcz16_1 : w13.cell? ⟨gb359, 1, none⟩ = some (.int .i64 a1_1) := (blk_cell BK359.out 1).trans rfl; have hcz16_2 : w13.cell? ⟨gb359, 2, none⟩ = some (.slice A1_2 l1_2.length c1_2) := (blk_cell BK359.out 2).trans rfl; have hfz16_0 := blk_frozen BK359.out 0; have hfz16_1 := blk_frozen BK359.out 1; have hfz16_2 := blk_frozen BK359.out 2) | ((with_reducible refine gate_callee (f := 20) rfl ?_); refine goesL_ (some 19) rfl rfl Try.func20 (by kernel_rfl) rfl #[.slice A0_2 l0_2.length c0_2, .slice A1_2 l1_2.length c1_2] rfl (by (try simp only [List.map_toArray, List.map_cons, List.map_nil]); first | done | rfl | (simp only [List.length_drop, List.length_take]; rfl)) ?_; (with_reducible refine (laws_eqIntS.calls k _ _ l0_2 _ _ l1_2 false _ ?side1 ?side2 ?side3 ?side4 A5.out).mono ?_); (case side1 => exact uC HR0_2 HB); (case side2 => exact HC0_2.out); (case side3 => exact uC HR1_2 HB); (case side4 => exact HC1_2.out); rintro e w' ⟨rfl, ⟨nd, rfl⟩⟩; refine ⟨_, rfl, ?_⟩))
    go_ret
    exact ⟨by first | rfl | (simp [errW_none, errW_some] <;> rfl) | (simp [*, errW_none, errW_some] <;> rfl), by repeat (first | (with_reducible first | exact HB.out | apply below_alloc | apply pw_below_drewN | apply below_drew1 | refine below_set ?_ GE358.out | refine below_set ?_ GE359.out) | exact HB.out)⟩
  ·
   rw [if_neg c4] at H
   have c4b0 : (a0_1 == a1_1) = false := beq_eq_false_iff_ne.mpr c4
   have c4b1 : (a0_1 != a1_1) = true := bne_iff_ne.mpr c4
   obtain rfl := Option.some.inj H
   go_enter Try.func31, Try.ntmps31
   go_wp2_with (first | ((with_reducible refine gate_dst (N := 2) rfl ?_); refine box_event ?hg (N := 2) ?hd (cs := #[.int .i64 a0_0, .int .i64 a0_1, .slice A0_2 l0_2.length c0_2]) (t := 52) ?hr ?_; (case hd => rfl); (case hg => rfl); (case hr => first | (go_simp; done) | (go_simp; rfl)); intro gb358 hg w17 hbox hb; have n0_ := Aside0.mk (below_step (uB HB) hb); have n1_ := Aside0.mk (hbox); have n2_ := Aside0.mk ((by rw [hg]; exact (below_size (uB HB)) : w.heap.size ≤ gb358)); have n3_ := Aside0.mk ((by rw [hg]; exact (below_size (uB HB)) : w.heap.size ≤ gb358)); clear HB; have HB := n0_; have BK358 := n1_; have GW358 := n2_; have GE358 := n3_; clear n0_ n1_ n2_ n3_; clear hb hbox hg) | ((with_reducible refine gate_dst (N := 3) rfl ?_); refine box_event ?hg (N := 3) ?hd (cs := #[.int .i64 a1_0, .int .i64 a1_1, .slice A1_2 l1_2.length c1_2]) (t := 52) ?hr ?_; (case hd => rfl); (case hg => rfl); (case hr => first | (go_simp; done) | (go_simp; rfl)); intro gb359 hg w18 hbox hb; have n0_ := Aside0.mk (blk_below (g := gb358) (o := .cells #[.int .i64 a0_0, .int .i64 a0_1, .slice A0_2 l0_2.length c0_2] 52 (0, 0)) (uK BK358) hb); have n1_ := Aside0.mk (below_step (by repeat (first | (with_reducible first | exact HB.out | apply below_alloc | apply pw_below_drewN | apply below_drew1 | refine below_set ?_ GE358.out) | exact HB.out)) hb); have n2_ := Aside0.mk (hbox); have n3_ := Aside0.mk ((by rw [hg]; exact (below_size (by repeat (first | (with_reducible first | exact HB.out | apply below_alloc | apply pw_below_drewN | apply below_drew1 | refine below_set ?_ GE358.out) | exact HB.out))) : w.heap.size ≤ gb359)); have n4_ := Aside0.mk ((by rw [hg]; exact (below_size (by repeat (first | (with_reducible first | exact HB.out | apply below_alloc | apply pw_below_drewN | apply below_drew1 | refine below_set ?_ GE358.out) | exact HB.out))) : w.heap.size ≤ gb359)); have n5_ := Aside0.mk ((by rw [hg]; exact Nat.ne_of_lt (blk_lt (g := gb358) (o := .cells #[.int .i64 a0_0, .int .i64 a0_1, .slice A0_2 l0_2.length c0_2] 52 (0, 0)) (uK BK358)) : gb358 ≠ gb359)); have n6_ := Aside0.mk ((by rw [hg]; exact Nat.ne_of_gt (blk_lt (g := gb358) (o := .cells #[.int .i64 a0_0, .int .i64 a0_1, .slice A0_2 l0_2.length c0_2] 52 (0, 0)) (uK BK358)) : gb359 ≠ gb358)); clear BK358 HB; have BK358 := n0_; have HB := n1_; have BK359 := n2_; have GW359 := n3_; have GE359 := n4_; have NB358_359 := n5_; have NB359_358 := n6_; clear n0_ n1_ n2_ n3_ n4_ n5_ n6_ hb hbox hg; have hnb19 := NB358_359.out; have hnc19 := NB359_358.out; have hcz20_0 : w18.cell? ⟨gb358, 0, none⟩ = some (.int .i64 a0_0) := (blk_cell BK358.out 0).trans rfl; have hcz20_1 : w18.cell? ⟨gb358, 1, none⟩ = some (.int .i64 a0_1) := (blk_cell BK358.out 1).trans rfl; have hcz20_2 : w18.cell? ⟨gb358, 2, none⟩ = some (.slice A0_2 l0_2.length c0_2) := (blk_cell BK358.out 2).trans rfl; have hfz20_0 := blk_frozen BK358.out 0; have hfz20_1 := blk_frozen BK358.out 1; have hfz20_2 := blk_frozen BK358.out 2; have hcz21_0 : w18.cell? ⟨gb359, 0, none⟩ = some (.int .i64 a1_0) := (blk_cell BK359.out 0).trans rfl; have hcz21_1 : w18.cell? ⟨gb359, 1, none⟩ = some (.int .i64 a1_1) := (blk_cell BK359.out 1).trans rfl; have hcz21_2 : w18.cell? ⟨gb359, 2, none⟩ = some (.slice A1_2 l1_2.length c1_2) := (blk_cell BK359.out 2).trans rfl; have hfz21_0 := blk_frozen BK359.out 0; have hfz21_1 := blk_frozen BK359.out 1; have hfz21_2 := blk_frozen BK359.out 2))
   go_ret
   exact ⟨by first | rfl | (simp [errW_none, errW_some] <;> rfl) | (simp [*, errW_none, errW_some] <;> rfl), by repeat (first | (with_reducible first | exact HB.out | apply below_alloc | apply pw_below_drewN | apply below_drew1 | refine below_set ?_ GE358.out | refine below_set ?_ GE359.out) | exact HB.out)⟩
 ·
  rw [if_neg c3] at H
  have c3b0 : (a0_0 == a1_0) = false := beq_eq_false_iff_ne.mpr c3
  have c3b1 : (a0_0 != a1_0) = true := bne_iff_ne.mpr c3
  obtain rfl := Option.some.inj H
  go_enter Try.func31, Try.ntmps31
  go_wp2_with (first | ((with_reducible refine gate_dst (N := 2) rfl ?_); refine box_event ?hg (N := 2) ?hd (cs := #[.int .i64 a0_0, .int .i64 a0_1, .slice A0_2 l0_2.length c0_2]) (t := 52) ?hr ?_; (case hd => rfl); (case hg => rfl); (case hr => first | (go_simp; done) | (go_simp; rfl)); intro gb358 hg w22 hbox hb; have n0_ := Aside0.mk (below_step (uB HB) hb); have n1_ := Aside0.mk (hbox); have n2_ := Aside0.mk ((by rw [hg]; exact (below_size (uB HB)) : w.heap.size ≤ gb358)); have n3_ := Aside0.mk ((by rw [hg]; exact (below_size (uB HB)) : w.heap.size ≤ gb358)); clear HB; have HB := n0_; have BK358 := n1_; have GW358 := n2_; have GE358 := n3_; clear n0_ n1_ n2_ n3_; clear hb hbox hg) | ((with_reducible refine gate_dst (N := 3) rfl ?_); refine box_event ?hg (N := 3) ?hd (cs := #[.int .i64 a1_0, .int .i64 a1_1, .slice A1_2 l1_2.length c1_2]) (t := 52) ?hr ?_; (case hd => rfl); (case hg => rfl); (case hr => first | (go_simp; done) | (go_simp; rfl)); intro gb359 hg w23 hbox hb; have n0_ := Aside0.mk (blk_below (g := gb358) (o := .cells #[.int .i64 a0_0, .int .i64 a0_1, .slice A0_2 l0_2.length c0_2] 52 (0, 0)) (uK BK358) hb); have n1_ := Aside0.mk (below_step (by repeat (first | (with_reducible first | exact HB.out | apply below_alloc | apply pw_below_drewN | apply below_drew1 | refine below_set ?_ GE358.out) | exact HB.out)) hb); have n2_ := Aside0.mk (hbox); have n3_ := Aside0.mk ((by rw [hg]; exact (below_size (by repeat (first | (with_reducible first | exact HB.out | apply below_alloc | apply pw_below_drewN | apply below_drew1 | refine below_set ?_ GE358.out) | exact HB.out))) : w.heap.size ≤ gb359)); have n4_ := Aside0.mk ((by rw [hg]; exact (below_size (by repeat (first | (with_reducible first | exact HB.out | apply below_alloc | apply pw_below_drewN | apply below_drew1 | refine below_set ?_ GE358.out) | exact HB.out))) : w.heap.size ≤ gb359)); have n5_ := Aside0.mk ((by rw [hg]; exact Nat.ne_of_lt (blk_lt (g := gb358) (o := .cells #[.int .i64 a0_0, .int .i64 a0_1, .slice A0_2 l0_2.length c0_2] 52 (0, 0)) (uK BK358)) : gb358 ≠ gb359)); have n6_ := Aside0.mk ((by rw [hg]; exact Nat.ne_of_gt (blk_lt (g := gb358) (o := .cells #[.int .i64 a0_0, .int .i64 a0_1, .slice A0_2 l0_2.length c0_2] 52 (0, 0)) (uK BK358)) : gb359 ≠ gb358)); clear BK358 HB; have BK358 := n0_; have HB := n1_; have BK359 := n2_; have GW359 := n3_; have GE359 := n4_; have NB358_359 := n5_; have NB359_358 := n6_; clear n0_ n1_ n2_ n3_ n4_ n5_ n6_ hb hbox hg; have hnb24 := NB358_359.out; have hnc24 := NB359_358.out; have hcz25_0 : w23.cell? ⟨gb358, 0, none⟩ = some (.int .i64 a0_0) := (blk_cell BK358.out 0).trans rfl; have hcz25_1 : w23.cell? ⟨gb358, 1, none⟩ = some (.int .i64 a0_1) := (blk_cell BK358.out 1).trans rfl; have hcz25_2 : w23.cell? ⟨gb358, 2, none⟩ = some (.slice A0_2 l0_2.length c0_2) := (blk_cell BK358.out 2).trans rfl; have hfz25_0 := blk_frozen BK358.out 0; have hfz25_1 := blk_frozen BK358.out 1; have hfz25_2 := blk_frozen BK358.out 2; have hcz26_0 : w23.cell? ⟨gb359, 0, none⟩ = some (.int .i64 a1_0) := (blk_cell BK359.out 0).trans rfl; have hcz26_1 : w23.cell? ⟨gb359, 1, none⟩ = some (.int .i64 a1_1) := (blk_cell BK359.out 1).trans rfl; have hcz26_2 : w23.cell? ⟨gb359, 2, none⟩ = some (.slice A1_2 l1_2.length c1_2) := (blk_cell BK359.out 2).trans rfl; have hfz26_0 := blk_frozen BK359.out 0; have hfz26_1 := blk_frozen BK359.out 1; have hfz26_2 := blk_frozen BK359.out 2))
  go_ret
  exact ⟨by first | rfl | (simp [errW_none, errW_some] <;> rfl) | (simp [*, errW_none, errW_some] <;> rfl), by repeat (first | (with_reducible first | exact HB.out | apply below_alloc | apply pw_below_drewN | apply below_drew1 | refine below_set ?_ GE358.out | refine below_set ?_ GE359.out) | exact HB.out)⟩

/-! ### laws_markIntS: function 21 -/
def laws_markIntS.l0 : Nat → List Int → Int → Int → Option (Int × List Int)
 | 0, _, _, _ => none
 | k + 1, x0, x1, x5 => if x5 < (x0.length : Int) then (if 0 ≤ x5 then (laws_markIntS.l0 k (x0.set (x5 : Int).toNat x1) (wrap64 (x1 + 1)) (wrap64 (x5 + 1))) else (none)) else (some (x1, x0))
def laws_markIntS.f (k : Nat) (l0 : List Int) (a1 : Int) : Option (Int × List Int) := laws_markIntS.l0 k l0 a1 0
theorem laws_markIntS.mono_l : ∀ k, (∀ y0 y1 y2, LeO (laws_markIntS.l0 k y0 y1 y2) (laws_markIntS.l0 (k + 1) y0 y1 y2))
 | 0 => fun _ _ _ r h => by simp [laws_markIntS.l0] at h
 | k + 1 => by
  have ih0 := laws_markIntS.mono_l k
  ·
   intro y0 y1 y2
   unfold laws_markIntS.l0
   repeat' first
   | (with_reducible exact ih0 _ _ _)
   | (with_reducible exact LeO.refl _)
   | (with_reducible exact LeO.none _)
   | (with_reducible refine LeO.ite ?_ ?_)
   | (with_reducible refine LeO.bind ?_ (fun _ => ?_))
   | exact ih0 _ _ _
   | exact LeO.none _
   | refine LeO.ite ?_ ?_
   | refine LeO.bind ?_ (fun _ => ?_)
theorem laws_markIntS.mono : ∀ a0 a1 k, LeO (laws_markIntS.f k a0 a1) (laws_markIntS.f (k + 1) a0 a1) := by
 intro a0 a1 k
 have ih0 := laws_markIntS.mono_l k
 unfold laws_markIntS.f
 repeat' first
   | (with_reducible exact ih0 _ _ _)
   | (with_reducible exact LeO.refl _)
   | (with_reducible exact LeO.none _)
   | (with_reducible refine LeO.ite ?_ ?_)
   | (with_reducible refine LeO.bind ?_ (fun _ => ?_))
   | exact ih0 _ _ _
   | exact LeO.none _
   | refine LeO.ite ?_ ?_
   | refine LeO.bind ?_ (fun _ => ?_)
set_option maxHeartbeats 8000000 in
set_option maxRecDepth 100000 in
theorem laws_markIntS.calls (k : Nat) (P0_ : Nat → Prop) (u9000_ : Value) (l0 : List Int) (a1 : Int) (r1 : Int) (r2 : List Int) (w0 w : World) (hB : Below w0.heap.size w0 w) (ho0 : Kd.R (Kd.int .i64) 3 w w0.heap.size P0_ u9000_ l0) (h : laws_markIntS.f k l0 a1 = some (r1, r2)) :
  Calls Try.prog 21 #[u9000_, .int .i64 a1] w fun e w' => e = .returned (.int .i64 r1) ∧ Kd.R (Kd.int .i64) 3 w' w0.heap.size (fun k_ => (P0_ k_ ∨ w.heap.size ≤ k_)) u9000_ r2 ∧ Below w0.heap.size w0 w' ∧ Kept w w' (fun k_ => P0_ k_) := by
 have HO0 := Aside0.mk (show Kd.R (Kd.int .i64) 3 w w0.heap.size (fun k_ => (P0_ k_ ∨ w.heap.size ≤ k_)) u9000_ l0 from Kd.R_mono ho0 (fun k_ hk => (.inl hk)))
 have HK := Aside0.mk (Kept.refl w (fun k_ => P0_ k_))
 have HW0 := Aside0.mk hB.size
 have HB := Aside0.mk hB
 clear hB
 have H : (laws_markIntS.l0 k l0 a1 0) = some (r1, r2) := h
 clear h
 have H' := Aside0.mk H
 clear H
 go_enter Try.func21, Try.ntmps21
 go_wp2
 go_loopg [1, 5] k (fun kq v1 v5 w' => ∃ (x0_1 : List Int) (x1_1 : Int) (x5_1 : Int), v1 = .int .i64 x1_1 ∧ v5 = .int .i64 x5_1 ∧ Aside0 (laws_markIntS.l0 kq x0_1 x1_1 x5_1 = some (r1, r2)) ∧ Aside0 (kq ≤ k) ∧ Aside0 (Kd.R (Kd.int .i64) 3 w' w0.heap.size (fun k_ => (P0_ k_ ∨ w.heap.size ≤ k_)) u9000_ x0_1) ∧ Aside0 (Kept w w' (fun k_ => P0_ k_)) ∧ Aside0 (Below w0.heap.size w0 w'))
 case atStart => exact ⟨(l0), (a1), (0), (by first | rfl | (simp; done) | (simp [*]; done)), (by first | rfl | (simp; done) | (simp [*]; done)), H', ⟨Nat.le_refl _⟩, ⟨by (with_reducible repeat (first | apply Kd.R_alloc | apply Kd.R_drewN | apply Kd.R_drew)); exact HO0.out⟩, ⟨by repeat (first | (with_reducible first | exact HK.out | apply Kept.alloc | apply Kept.drewN | apply Kept.drew) | exact HK.out)⟩, ⟨uB HB⟩⟩
 case round =>
  clear H'
  try clear c2
  try clear p2
  try clear HO_0
  obtain ⟨x0_1, x1_1, x5_1, rfl, rfl, HA, HK1, HO_0, HK, HB⟩ := hrel
  cases gk with
  | zero => exact absurd HA.out (by simp [laws_markIntS.l0])
  | succ k1 =>
   have H := HA.out
   clear HA
   simp only [laws_markIntS.l0] at H
   by_cases c3 : x5_1 < (x0_1.length : Int)
   ·
    rw [if_pos c3] at H
    have c3b0 : decide (x5_1 < (x0_1.length : Int)) = true := decide_eq_true c3
    clear c3
    by_cases c4 : 0 ≤ x5_1
    ·
     rw [if_pos c4] at H
     have c4b0 : decide (0 ≤ x5_1) = true := decide_eq_true c4
     clear c4
     obtain ⟨y361, hy361⟩ : ∃ y_ : List Int, y_ = (x0_1.set (x5_1 : Int).toNat x1_1) := ⟨_, rfl⟩
     replace H : (laws_markIntS.l0 k1 y361 (wrap64 (x1_1 + 1)) (wrap64 (x5_1 + 1))) = some (r1, r2) := by first | (rw [hy361]; with_reducible exact H) | (have H2_ := (Option.bind_some _ _).symm.trans H; rw [hy361]; with_reducible exact H2_) | (have H2_ := (Option.bind_some _ _).symm.trans H; with_reducible exact H2_) | with_reducible exact H | (rw [hy361]; exact H) | exact H
     have Ny361 := Aside0.mk hy361
     clear hy361
     have H' := Aside0.mk H
     clear H
     obtain ⟨Ao6, co6, eo6⟩ := Kd.R_slice HO_0.out
     subst eo6
     have p5 : 0 ≤ (x5_1 : Int) := of_decide_eq_true (by first | (with_reducible assumption) | assumption)
     have q5 : (x5_1 : Int) < ((x0_1.length : Int) : Int) := of_decide_eq_true (by first | (with_reducible assumption) | assumption)
     obtain ⟨go5, co5, eo5, gb5, gl5, cl5, HG5⟩ := Kd.R_form HO_0.out (by omega)
     (first | cases eo5 | (injection eo5 with ea_ en_ ec_; (first | subst ea_ | (injection ea_ with ea_; subst ea_)); subst ec_; clear en_))
     have GB5 := Aside0.mk gb5
     have GG5 := Aside0.mk HG5
     clear gb5 gl5 HG5
     have HMgo5 := Aside0.mk (show (P0_ go5 ∨ w.heap.size ≤ go5) from (HO_0.out.1 _ rfl))
     obtain ⟨hx5_0, hf5_0⟩ := Kd.R_celln 0 HO_0.out (x5_1 : Int) p5 q5
     replace p5 := eq_true p5
     replace q5 := eq_true q5
     have HP7 := Kd.R_putg HO_0.out (x5_1 : Int) x1_1
     go_wp2_with (first | ((with_reducible refine gate_store (t := 3) (p := 15) rfl ?_); refine store_event (t := 3) (p := 15) (v := ?vo_w8) (w1 := (wr.setCell ⟨go5, (x5_1 : Int).toNat, none⟩ (.int .i64 x1_1))) ?hg ?ho ?hn ?hr ?_; (case ho => rfl); (case hg => rfl); (case hn => rfl); (case hr => first | (go_simp; done) | (go_simp; rfl)); intro w8 hw; have hg : wr.grownBy w8 (some go5) := (by rw [hw]; exact HP7.2); have hp_ : Kd.R (Kd.int .i64) 3 w8 w0.heap.size (fun k_ => (P0_ k_ ∨ w.heap.size ≤ k_)) (.slice (some ⟨go5, 0, none⟩) x0_1.length co6) y361 := (by rw [hw, Ny361.out]; exact HP7.1); clear HP7; have n0_ := Aside0.mk (hp_); have n1_ := Aside0.mk ((by rw [hw]; exact below_set (HB.out) GB5.out : Below w0.heap.size w0 w8)); have n2_ := Aside0.mk (Kept.of_grown (S := (fun k_ => P0_ k_)) hg (by repeat (first | (with_reducible first | exact HK.out | apply Kept.alloc | apply Kept.drewN | apply Kept.drew) | exact HK.out)) (fun k_ e_ => (HO_0.out.1 k_ e_))); clear HO_0 HB HK; have HO_0 := n0_; have HB := n1_; have HK := n2_; clear n0_ n1_ n2_; clear hg hw hp_))
     go_roundg k1
     case measure => have := HK1.out; omega
     case rel => exact ⟨(y361), (wrap64 (x1_1 + 1)), (wrap64 (x5_1 + 1)), (by first | rfl | (simp; done) | (simp [*]; done)), (by first | rfl | (simp; done) | (simp [*]; done)), H', ⟨by have := HK1.out; omega⟩, ⟨by (with_reducible repeat (first | apply Kd.R_alloc | apply Kd.R_drewN | apply Kd.R_drew)); exact HO_0.out⟩, ⟨by repeat (first | (with_reducible first | exact HK.out | apply Kept.alloc | apply Kept.drewN | apply Kept.drew) | exact HK.out)⟩, ⟨uB HB⟩⟩
    ·
     rw [if_neg c4] at H
     exact absurd H (by simp)
   ·
    rw [if_neg c3] at H
    have c3b0 : decide (x5_1 < (x0_1.length : Int)) = false := decide_eq_false c3
    clear c3
    simp only [Option.some.injEq, Prod.mk.injEq] at H
    obtain ⟨rfl, rfl⟩ := H
    obtain ⟨Ao9, co9, eo9⟩ := Kd.R_slice HO_0.out
    subst eo9
    go_wp2
    go_ret
    exact ⟨by first | rfl | (simp [errW_none, errW_some] <;> rfl) | (simp [*, errW_none, errW_some] <;> rfl), by (with_reducible repeat (first | apply Kd.R_alloc | apply Kd.R_drewN | apply Kd.R_drew)); exact HO_0.out, uB HB, by repeat (first | (with_reducible first | exact HK.out | apply Kept.alloc | apply Kept.drewN | apply Kept.drew) | exact HK.out)⟩

end Go.Proofs.Ytippedfjmlkpiaa.PFnExactBuildPeeled
