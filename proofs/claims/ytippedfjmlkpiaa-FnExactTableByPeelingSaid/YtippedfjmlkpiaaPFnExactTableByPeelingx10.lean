-- made by wip/tools/myprint.py over the kit's print, for this claim
import Derived.Test.YtippedfjmlkpiaaPFnExactTableByPeelingx0
import Derived.Test.YtippedfjmlkpiaaPFnExactTableByPeelingx8
import Derived.Test.YtippedfjmlkpiaaPFnExactTableByPeelingx9
import Derived.Test.YtippedfjmlkpiaaTBack
namespace Go.Proofs.Ytippedfjmlkpiaa.PFnExactTableByPeeling
open Go.RowKit Go.Proofs.YtippedfjmlkpiaaW.PrintWords Go.Proofs.YtippedfjmlkpiaaW.PrintLast Go.Proofs.YtippedfjmlkpiaaW.PrintMore
attribute [local go_sem] max2_int min2_int max_two min_two max_three min_three max_four min_four   -- for this text's walks alone
set_option linter.unusedVariables false
set_option linter.unusedSimpArgs false

/-! ### impl_Hyper_edgeAt_in59_0: function 100 -/
def impl_Hyper_edgeAt_in59_0.l0 : Nat → List Bool → Int → Int → Int → List (List Int) → Option (Int)
 | 0, _, _, _, _, _ => none
 | k + 1, x1, x2, x7, x313000, x313001 => if 0 ≤ x7 then (if x7 < (x1.length : Int) then (if rdOf false x1 x7 = true then (impl_Hyper_edgeAt_in59_0.l0 k x1 x2 (wrap64 (x7 + 1)) x313000 x313001) else (if x7 < (x313001.length : Int) then ((slices_Contains_int_int.f k (rd_L3 x313001 x7) x2).bind fun t315 => (if t315 = true then (some x7) else (impl_Hyper_edgeAt_in59_0.l0 k x1 x2 (wrap64 (x7 + 1)) x313000 x313001))) else (none))) else (none)) else (none)
def impl_Hyper_edgeAt_in59_0.f (k : Nat) (a0_0 : Int) (l0_1 : List (List Int)) (l1 : List Bool) (a2 : Int) : Option (Int) := impl_Hyper_edgeAt_in59_0.l0 k l1 a2 0 a0_0 l0_1
theorem impl_Hyper_edgeAt_in59_0.mono_l : ∀ k, (∀ y0 y1 y2 y3 y4, LeO (impl_Hyper_edgeAt_in59_0.l0 k y0 y1 y2 y3 y4) (impl_Hyper_edgeAt_in59_0.l0 (k + 1) y0 y1 y2 y3 y4))
 | 0 => fun _ _ _ _ _ r h => by simp [impl_Hyper_edgeAt_in59_0.l0] at h
 | k + 1 => by
  have ih0 := impl_Hyper_edgeAt_in59_0.mono_l k
  ·
   intro y0 y1 y2 y3 y4
   unfold impl_Hyper_edgeAt_in59_0.l0
   repeat' first
   | (with_reducible exact ih0 _ _ _ _ _)
   | (with_reducible exact slices_Contains_int_int.mono _ _ _)
   | (with_reducible exact LeO.refl _)
   | (with_reducible exact LeO.none _)
   | (with_reducible refine LeO.ite ?_ ?_)
   | (with_reducible refine LeO.bind ?_ (fun _ => ?_))
   | exact ih0 _ _ _ _ _
   | exact slices_Contains_int_int.mono _ _ _
   | exact LeO.none _
   | refine LeO.ite ?_ ?_
   | refine LeO.bind ?_ (fun _ => ?_)
theorem impl_Hyper_edgeAt_in59_0.mono : ∀ a0 a1 a2 a3 k, LeO (impl_Hyper_edgeAt_in59_0.f k a0 a1 a2 a3) (impl_Hyper_edgeAt_in59_0.f (k + 1) a0 a1 a2 a3) := by
 intro a0 a1 a2 a3 k
 have ih0 := impl_Hyper_edgeAt_in59_0.mono_l k
 unfold impl_Hyper_edgeAt_in59_0.f
 repeat' first
   | (with_reducible exact ih0 _ _ _ _ _)
   | (with_reducible exact slices_Contains_int_int.mono _ _ _)
   | (with_reducible exact LeO.refl _)
   | (with_reducible exact LeO.none _)
   | (with_reducible refine LeO.ite ?_ ?_)
   | (with_reducible refine LeO.bind ?_ (fun _ => ?_))
   | exact ih0 _ _ _ _ _
   | exact slices_Contains_int_int.mono _ _ _
   | exact LeO.none _
   | refine LeO.ite ?_ ?_
   | refine LeO.bind ?_ (fun _ => ?_)
set_option maxHeartbeats 8000000 in
set_option maxRecDepth 100000 in
theorem impl_Hyper_edgeAt_in59_0.calls (k : Nat) (g0_0 : Nat) (a0_0 : Int) (A0_1 : Option Addr) (c0_1 : Nat) (l0_1 : List (List Int)) (A1 : Option Addr) (c1 : Nat) (l1 : List Bool) (a2 : Int) (r : Int) (w : World) (hb0_0 : w.heap[g0_0]? = some (.cells #[.int .i64 a0_0, .slice A0_1 l0_1.length c0_1] 59 (0, 0))) (hr0_1 : Kd.C (Kd.slice 3 (Kd.int .i64)) w A0_1 l0_1.length l0_1) (hc0_1 : l0_1.length ≤ c0_1) (hr1 : Kd.C Kd.bool w A1 l1.length l1) (hc1 : l1.length ≤ c1) (h : impl_Hyper_edgeAt_in59_0.f k a0_0 l0_1 l1 a2 = some r) :
  Calls Try.prog 100 #[.pointer (some ⟨g0_0, 0, none⟩), .slice A1 l1.length c1, .int .i64 a2] w fun e w' => e = .returned (.int .i64 r) ∧ Below w.heap.size w w' := by
 have HR0_1 := Aside0.mk hr0_1
 have HC0_1 := Aside0.mk hc0_1
 clear hr0_1 hc0_1
 have HR1 := Aside0.mk hr1
 have HC1 := Aside0.mk hc1
 clear hr1 hc1
 have BK312 := Aside0.mk hb0_0
 clear hb0_0
 have HB := Aside0.mk (Below.refl w.heap.size w)
 have H : (impl_Hyper_edgeAt_in59_0.l0 k l1 a2 0 a0_0 l0_1) = some r := h
 clear h
 have H' := Aside0.mk H
 clear H
 go_enter Try.func100, Try.ntmps100
 go_wp2
 go_loopg [7] k (fun kq v7 w' => ∃ (x7_1 : Int), v7 = .int .i64 x7_1 ∧ Aside0 (impl_Hyper_edgeAt_in59_0.l0 kq l1 a2 x7_1 a0_0 l0_1 = some r) ∧ Aside0 (kq ≤ k) ∧ Aside0 (w'.heap[g0_0]? = some (.cells #[.int .i64 a0_0, (.slice A0_1 l0_1.length c0_1)] 59 (0, 0))) ∧ Aside0 (Below w.heap.size w w'))
 case atStart => exact ⟨(0), (by first | rfl | (simp; done) | (simp [*]; done)), H', ⟨Nat.le_refl _⟩, ⟨by refine uW ?_; exact BK312.out⟩, ⟨by repeat (first | (with_reducible first | exact HB.out | apply below_alloc | apply pw_below_drewN | apply below_drew1 | refine below_set ?_ GE312.out) | exact HB.out)⟩⟩
 case round =>
  clear H'
  try clear c1
  try clear p2
  obtain ⟨x7_1, rfl, HA, HK1, BK312, HB⟩ := hrel
  cases gk with
  | zero => exact absurd HA.out (by simp [impl_Hyper_edgeAt_in59_0.l0])
  | succ k1 =>
   have H := HA.out
   clear HA
   simp only [impl_Hyper_edgeAt_in59_0.l0] at H
   by_cases c4 : 0 ≤ x7_1
   ·
    rw [if_pos c4] at H
    have c4b0 : decide (0 ≤ x7_1) = true := decide_eq_true c4
    clear c4
    by_cases c5 : x7_1 < (l1.length : Int)
    ·
     rw [if_pos c5] at H
     have c5b0 : decide (x7_1 < (l1.length : Int)) = true := decide_eq_true c5
     clear c5
     obtain ⟨bq6, hbq6⟩ : ∃ b_ : Bool, b_ = (rdOf false l1 x7_1) := ⟨_, rfl⟩
     replace H : (if bq6 = true then (impl_Hyper_edgeAt_in59_0.l0 k1 l1 a2 (wrap64 (x7_1 + 1)) a0_0 l0_1) else (if x7_1 < (l0_1.length : Int) then ((slices_Contains_int_int.f k1 (rd_L3 l0_1 x7_1) a2).bind fun t315 => (if t315 = true then (some x7_1) else (impl_Hyper_edgeAt_in59_0.l0 k1 l1 a2 (wrap64 (x7_1 + 1)) a0_0 l0_1))) else (none))) = some r := by rw [← hbq6] at H; exact H
     have Nbq6 := Aside0.mk hbq6
     clear hbq6
     by_cases c7 : bq6 = true
     ·
      subst c7
      have H1 : (impl_Hyper_edgeAt_in59_0.l0 k1 l1 a2 (wrap64 (x7_1 + 1)) a0_0 l0_1) = some r := by rw [if_pos rfl] at H; exact H
      clear H
      have H := H1
      clear H1
      have H' := Aside0.mk H
      clear H
      have p313 : 0 ≤ (x7_1 : Int) := of_decide_eq_true (by first | (with_reducible assumption) | assumption)
      have q313 : x7_1 < (l1.length : Int) := of_decide_eq_true (by first | (with_reducible assumption) | assumption)
      obtain ⟨ad313, e313, hx313_0⟩ := Kd.at_bool HR1.out x7_1 p313 q313
      (try rw [← Nbq6.out] at hx313_0)
      cases e313
      replace hx313_0 := (HB.out.cell (World.block_lt_of_cell? w _ hx313_0)).trans hx313_0
      replace p313 := eq_true p313
      replace q313 := eq_true q313
      go_wp2
      go_roundg k1
      case measure => have := HK1.out; omega
      case rel => exact ⟨(wrap64 (x7_1 + 1)), (by first | rfl | (simp; done) | (simp [*]; done)), H', ⟨by have := HK1.out; omega⟩, ⟨by refine uW ?_; exact BK312.out⟩, ⟨by repeat (first | (with_reducible first | exact HB.out | apply below_alloc | apply pw_below_drewN | apply below_drew1 | refine below_set ?_ GE312.out) | exact HB.out)⟩⟩
     ·
      replace c7 := Bool.eq_false_iff.mpr c7
      subst c7
      have H1 : (if x7_1 < (l0_1.length : Int) then ((slices_Contains_int_int.f k1 (rd_L3 l0_1 x7_1) a2).bind fun t315 => (if t315 = true then (some x7_1) else (impl_Hyper_edgeAt_in59_0.l0 k1 l1 a2 (wrap64 (x7_1 + 1)) a0_0 l0_1))) else (none)) = some r := by rw [if_neg (show ¬ (false = true) by decide)] at H; exact H
      clear H
      have H := H1
      clear H1
      by_cases c8 : x7_1 < (l0_1.length : Int)
      ·
       rw [if_pos c8] at H
       have c8b0 : decide (x7_1 < (l0_1.length : Int)) = true := decide_eq_true c8
       clear c8
       replace H := Option.bind_eq_some_iff.mp H
       obtain ⟨t315, A90, H⟩ := H
       replace H : (if t315 = true then (some x7_1) else (impl_Hyper_edgeAt_in59_0.l0 k1 l1 a2 (wrap64 (x7_1 + 1)) a0_0 l0_1)) = some r := H
       have A9 := Aside0.mk A90
       clear A90
       by_cases c10 : t315 = true
       ·
        subst c10
        have H1 : (some x7_1) = some r := by rw [if_pos rfl] at H; exact H
        clear H
        have H := H1
        clear H1
        obtain rfl := Option.some.inj H
        have p313 : 0 ≤ (x7_1 : Int) := of_decide_eq_true (by first | (with_reducible assumption) | assumption)
        have q313 : x7_1 < (l1.length : Int) := of_decide_eq_true (by first | (with_reducible assumption) | assumption)
        obtain ⟨ad313, e313, hx313_0⟩ := Kd.at_bool HR1.out x7_1 p313 q313
        (try rw [← Nbq6.out] at hx313_0)
        cases e313
        replace hx313_0 := (HB.out.cell (World.block_lt_of_cell? w _ hx313_0)).trans hx313_0
        replace p313 := eq_true p313
        replace q313 := eq_true q313
        have hcz11_0 : wr.cell? ⟨g0_0, 0, none⟩ = some (.int .i64 a0_0) := (blk_cell BK312.out 0).trans rfl
        have hcz11_1 : wr.cell? ⟨g0_0, 1, none⟩ = some (.slice A0_1 l0_1.length c0_1) := (blk_cell BK312.out 1).trans rfl
        have hfz11_0 := blk_frozen BK312.out 0
        have hfz11_1 := blk_frozen BK312.out 1
        have p314 : 0 ≤ (x7_1 : Int) := of_decide_eq_true (by first | (with_reducible assumption) | assumption)
        have q314 : x7_1 < (l0_1.length : Int) := of_decide_eq_true (by first | (with_reducible assumption) | assumption)
        obtain ⟨ad314, A314_0, c314_0, e314, hx314_0, hl314_0, hi314_0⟩ := at_L3 HR0_1.out x7_1 p314 q314
        cases e314
        replace hx314_0 := (HB.out.cell (World.block_lt_of_cell? w _ hx314_0)).trans hx314_0
        have HR314_0 := Aside0.mk hi314_0
        have HC314_0 := Aside0.mk hl314_0
        clear hi314_0 hl314_0
        replace p314 := eq_true p314
        replace q314 := eq_true q314
        go_wp2_with (first | (go_at_call 109; (with_reducible refine (slices_Contains_int_int.calls k1 _ _ (rd_L3 l0_1 x7_1) a2 true _ ?side1 ?side2 A9.out).mono ?_); (case side1 => exact uC HR314_0 HB); (case side2 => exact HC314_0.out); rintro e w' ⟨rfl, ⟨nd, rfl⟩⟩))
        go_ret
        exact ⟨by first | rfl | (simp [errW_none, errW_some] <;> rfl) | (simp [*, errW_none, errW_some] <;> rfl), by repeat (first | (with_reducible first | exact HB.out | apply below_alloc | apply pw_below_drewN | apply below_drew1 | refine below_set ?_ GE312.out) | exact HB.out)⟩
       ·
        replace c10 := Bool.eq_false_iff.mpr c10
        subst c10
        have H1 : (impl_Hyper_edgeAt_in59_0.l0 k1 l1 a2 (wrap64 (x7_1 + 1)) a0_0 l0_1) = some r := by rw [if_neg (show ¬ (false = true) by decide)] at H; exact H
        clear H
        have H := H1
        clear H1
        have H' := Aside0.mk H
        clear H
        have p313 : 0 ≤ (x7_1 : Int) := of_decide_eq_true (by first | (with_reducible assumption) | assumption)
        have q313 : x7_1 < (l1.length : Int) := of_decide_eq_true (by first | (with_reducible assumption) | assumption)
        obtain ⟨ad313, e313, hx313_0⟩ := Kd.at_bool HR1.out x7_1 p313 q313
        (try rw [← Nbq6.out] at hx313_0)
        cases e313
        replace hx313_0 := (HB.out.cell (World.block_lt_of_cell? w _ hx313_0)).trans hx313_0
        replace p313 := eq_true p313
        replace q313 := eq_true q313
        have hcz12_0 : wr.cell? ⟨g0_0, 0, none⟩ = some (.int .i64 a0_0) := (blk_cell BK312.out 0).trans rfl
        have hcz12_1 : wr.cell? ⟨g0_0, 1, none⟩ = some (.slice A0_1 l0_1.length c0_1) := (blk_cell BK312.out 1).trans rfl
        have hfz12_0 := blk_frozen BK312.out 0
        have hfz12_1 := blk_frozen BK312.out 1
        have p314 : 0 ≤ (x7_1 : Int) := of_decide_eq_true (by first | (with_reducible assumption) | assumption)
        have q314 : x7_1 < (l0_1.length : Int) := of_decide_eq_true (by first | (with_reducible assumption) | assumption)
        obtain ⟨ad314, A314_0, c314_0, e314, hx314_0, hl314_0, hi314_0⟩ := at_L3 HR0_1.out x7_1 p314 q314
        cases e314
        replace hx314_0 := (HB.out.cell (World.block_lt_of_cell? w _ hx314_0)).trans hx314_0
        have HR314_0 := Aside0.mk hi314_0
        have HC314_0 := Aside0.mk hl314_0
        clear hi314_0 hl314_0
        replace p314 := eq_true p314
        replace q314 := eq_true q314
        go_wp2_with (first | (go_at_call 109; (with_reducible refine (slices_Contains_int_int.calls k1 _ _ (rd_L3 l0_1 x7_1) a2 false _ ?side1 ?side2 A9.out).mono ?_); (case side1 => exact uC HR314_0 HB); (case side2 => exact HC314_0.out); rintro e w' ⟨rfl, ⟨nd, rfl⟩⟩))
        go_roundg k1
        case measure => have := HK1.out; omega
        case rel => exact ⟨(wrap64 (x7_1 + 1)), (by first | rfl | (simp; done) | (simp [*]; done)), H', ⟨by have := HK1.out; omega⟩, ⟨by refine uW ?_; exact BK312.out⟩, ⟨by repeat (first | (with_reducible first | exact HB.out | apply below_alloc | apply pw_below_drewN | apply below_drew1 | refine below_set ?_ GE312.out) | exact HB.out)⟩⟩
      ·
       rw [if_neg c8] at H
       exact absurd H (by simp)
    ·
     rw [if_neg c5] at H
     exact absurd H (by simp)
   ·
    rw [if_neg c4] at H
    exact absurd H (by simp)

/-! ### impl_Hyper_peel_in59_0: function 74 -/
def impl_Hyper_peel_in59_0.l0 : Nat → List (S65) → List Bool → Int → List (List Int) → Option ((List (S65)) × List Int)
 | 0, _, _, _, _ => none
 | k + 1, x4, x5, x317000, x317001 => (impl_Hyper_singles_in59_0.f k x317000 x317001 x5).bind fun t323 => (if (t323.length : Int) = 0 then ((impl_left.f k x5).bind fun t326 => (some (x4, t326))) else (if 0 < (t323.length : Int) then ((impl_Hyper_edgeAt_in59_0.f k x317000 x317001 x5 (rd t323 0)).bind fun t330 => (if 0 ≤ t330 then (if t330 < (x5.length : Int) then (if x4.length < 8796093022208 then (impl_Hyper_peel_in59_0.l0 k (x4 ++ [(⟨t330, rd t323 0⟩ : S65)]) (x5.set (t330 : Int).toNat true) x317000 x317001) else (none)) else (none)) else (none))) else (none)))
def impl_Hyper_peel_in59_0.f (k : Nat) (a0_0 : Int) (l0_1 : List (List Int)) : Option ((List (S65)) × List Int) := (impl_Hyper_none_in59_0.f a0_0 l0_1).bind fun t320 => (impl_Hyper_peel_in59_0.l0 k (([] : List (S65))) t320 a0_0 l0_1)
theorem impl_Hyper_peel_in59_0.mono_l : ∀ k, (∀ y0 y1 y2 y3, LeO (impl_Hyper_peel_in59_0.l0 k y0 y1 y2 y3) (impl_Hyper_peel_in59_0.l0 (k + 1) y0 y1 y2 y3))
 | 0 => fun _ _ _ _ r h => by simp [impl_Hyper_peel_in59_0.l0] at h
 | k + 1 => by
  have ih0 := impl_Hyper_peel_in59_0.mono_l k
  ·
   intro y0 y1 y2 y3
   unfold impl_Hyper_peel_in59_0.l0
   repeat' first
   | (with_reducible exact ih0 _ _ _ _)
   | (with_reducible exact impl_Hyper_edgeAt_in59_0.mono _ _ _ _ _)
   | (with_reducible exact impl_Hyper_singles_in59_0.mono _ _ _ _)
   | (with_reducible exact impl_left.mono _ _)
   | (with_reducible exact LeO.refl _)
   | (with_reducible exact LeO.none _)
   | (with_reducible refine LeO.ite ?_ ?_)
   | (with_reducible refine LeO.bind ?_ (fun _ => ?_))
   | exact ih0 _ _ _ _
   | exact impl_Hyper_edgeAt_in59_0.mono _ _ _ _ _
   | exact impl_Hyper_singles_in59_0.mono _ _ _ _
   | exact impl_left.mono _ _
   | exact LeO.none _
   | refine LeO.ite ?_ ?_
   | refine LeO.bind ?_ (fun _ => ?_)
theorem impl_Hyper_peel_in59_0.mono : ∀ a0 a1 k, LeO (impl_Hyper_peel_in59_0.f k a0 a1) (impl_Hyper_peel_in59_0.f (k + 1) a0 a1) := by
 intro a0 a1 k
 have ih0 := impl_Hyper_peel_in59_0.mono_l k
 unfold impl_Hyper_peel_in59_0.f
 repeat' first
   | (with_reducible exact ih0 _ _ _ _)
   | (with_reducible exact impl_Hyper_edgeAt_in59_0.mono _ _ _ _ _)
   | (with_reducible exact impl_Hyper_singles_in59_0.mono _ _ _ _)
   | (with_reducible exact impl_left.mono _ _)
   | (with_reducible exact LeO.refl _)
   | (with_reducible exact LeO.none _)
   | (with_reducible refine LeO.ite ?_ ?_)
   | (with_reducible refine LeO.bind ?_ (fun _ => ?_))
   | exact ih0 _ _ _ _
   | exact impl_Hyper_edgeAt_in59_0.mono _ _ _ _ _
   | exact impl_Hyper_singles_in59_0.mono _ _ _ _
   | exact impl_left.mono _ _
   | exact LeO.none _
   | refine LeO.ite ?_ ?_
   | refine LeO.bind ?_ (fun _ => ?_)
set_option maxHeartbeats 8000000 in
set_option maxRecDepth 100000 in
theorem impl_Hyper_peel_in59_0.calls (k : Nat) (g0_0 : Nat) (a0_0 : Int) (A0_1 : Option Addr) (c0_1 : Nat) (l0_1 : List (List Int)) (r1 : List (S65)) (r2 : List Int) (w : World) (hb0_0 : w.heap[g0_0]? = some (.cells #[.int .i64 a0_0, .slice A0_1 l0_1.length c0_1] 59 (0, 0))) (hr0_1 : Kd.C (Kd.slice 3 (Kd.int .i64)) w A0_1 l0_1.length l0_1) (hc0_1 : l0_1.length ≤ c0_1) (h : impl_Hyper_peel_in59_0.f k a0_0 l0_1 = some (r1, r2)) :
  Calls Try.prog 74 #[.pointer (some ⟨g0_0, 0, none⟩)] w fun e w' => ∃ v0_ v1_ : Value, e = .returned (.tuple #[v0_, v1_]) ∧ Kd.R k65 65 w' w.heap.size (fun _ => True) v0_ r1 ∧ Kd.R (Kd.int .i64) 3 w' w.heap.size (fun _ => True) v1_ r2 ∧ Below w.heap.size w w' := by
 have hu65 := Try.underlying65
 have HR0_1 := Aside0.mk hr0_1
 have HC0_1 := Aside0.mk hc0_1
 clear hr0_1 hc0_1
 have BK316 := Aside0.mk hb0_0
 clear hb0_0
 have HB := Aside0.mk (Below.refl w.heap.size w)
 have H : ((impl_Hyper_none_in59_0.f a0_0 l0_1).bind fun t320 => (impl_Hyper_peel_in59_0.l0 k (([] : List (S65))) t320 a0_0 l0_1)) = some (r1, r2) := h
 clear h
 obtain ⟨y317, hy317⟩ : ∃ y_ : List (S65), y_ = (([] : List (S65))) := ⟨_, rfl⟩
 replace H : ((impl_Hyper_none_in59_0.f a0_0 l0_1).bind fun t320 => (impl_Hyper_peel_in59_0.l0 k y317 t320 a0_0 l0_1)) = some (r1, r2) := by first | (rw [hy317]; with_reducible exact H) | (have H2_ := (Option.bind_some _ _).symm.trans H; rw [hy317]; with_reducible exact H2_) | (have H2_ := (Option.bind_some _ _).symm.trans H; with_reducible exact H2_) | with_reducible exact H | (rw [hy317]; exact H) | exact H
 have Ny317 := Aside0.mk hy317
 clear hy317
 replace H := Option.bind_eq_some_iff.mp H
 obtain ⟨t320, A20, H⟩ := H
 replace H : (impl_Hyper_peel_in59_0.l0 k y317 t320 a0_0 l0_1) = some (r1, r2) := H
 have A2 := Aside0.mk A20
 clear A20
 have H' := Aside0.mk H
 clear H
 go_enter Try.func74, Try.ntmps74
 go_wp2_with (first | ((with_reducible refine gate_dst (N := 8) rfl ?_); refine Kd.R_lit k65 _ 65 ?hg (N := 8) ?hd (xs := ([] : List (S65))) (inner := []) (ok := fun _ => True) (okp := fun _ => True) ?hr ?hp (fun _ hk => hk) trivial (Below.refl _ _) (Nat.le_refl _) (by simp) ?_; (case hd => rfl); (case hg => rfl); (case hr => first | (go_simp; done) | (go_simp; rfl)); (case hp => exact (Reps.none _ _)); intro v318 w3 ho4 hb hg_ hnew_; clear hg_ hnew_; (first | rw [← Ny317.out] at ho4 | (simp only [Int.reduceToNat] at ho4; rw [← Ny317.out] at ho4)); have n0_ := Aside0.mk (Kd.R_lower ho4 (below_size (by repeat (first | (with_reducible first | exact HB.out | apply below_alloc | apply pw_below_drewN | apply below_drew1 | refine below_set ?_ GE316.out) | exact HB.out)))); have n1_ := Aside0.mk (blk_below (g := g0_0) (o := .cells #[.int .i64 a0_0, .slice A0_1 l0_1.length c0_1] 59 (0, 0)) (uK BK316) hb); have n2_ := Aside0.mk (below_step (by repeat (first | (with_reducible first | exact HB.out | apply below_alloc | apply pw_below_drewN | apply below_drew1 | refine below_set ?_ GE316.out) | exact HB.out)) hb); clear BK316 HB; have HO319 := n0_; have BK316 := n1_; have HB := n2_; clear n0_ n1_ n2_; clear hb ho4) | ((with_reducible refine gate_callee (f := 97) rfl ?_); refine goesL_ (some 10) rfl rfl Try.func97 (by kernel_rfl) rfl #[.pointer (some ⟨g0_0, 0, none⟩)] rfl (by (try simp only [List.map_toArray, List.map_cons, List.map_nil]); first | done | rfl | (simp only [List.length_drop, List.length_take]; rfl)) ?_; (with_reducible refine (impl_Hyper_none_in59_0.calls g0_0 a0_0 A0_1 c0_1 l0_1 t320 _ ?side1 ?side2 ?side3 A2.out).mono ?_); (case side1 => exact (uK BK316)); (case side2 => exact uC HR0_1 HB); (case side3 => exact HC0_1.out); rintro e w5 ⟨v321, rfl, ho0, hb⟩; refine ⟨_, rfl, ?_⟩; have n0_ := Aside0.mk (Kd.R_below (uR HO319) hb); have n1_ := Aside0.mk (Kd.R_lower ho0 (below_size (by repeat (first | (with_reducible first | exact HB.out | apply below_alloc | apply pw_below_drewN | apply below_drew1 | refine below_set ?_ GE316.out) | exact HB.out)))); have n2_ := Aside0.mk (blk_below (g := g0_0) (o := .cells #[.int .i64 a0_0, .slice A0_1 l0_1.length c0_1] 59 (0, 0)) (uK BK316) hb); have n3_ := Aside0.mk (below_step (by repeat (first | (with_reducible first | exact HB.out | apply below_alloc | apply pw_below_drewN | apply below_drew1 | refine below_set ?_ GE316.out) | exact HB.out)) hb); clear HO319 BK316 HB; have HO319 := n0_; have HO322 := n1_; have BK316 := n2_; have HB := n3_; clear n0_ n1_ n2_ n3_; (try clear hb); (try clear hb2); (try clear hk); (try clear hi); (try clear ho0)))
 go_loopg [4] k (fun kq v4 w' => ∃ (x4_1 : List (S65)) (x5_1 : List Bool) (x317000_1 : Int), Aside0 (impl_Hyper_peel_in59_0.l0 kq x4_1 x5_1 x317000_1 l0_1 = some (r1, r2)) ∧ Aside0 (kq ≤ k) ∧ Aside0 (Kd.R k65 65 w' w.heap.size (fun _ => True) v4 x4_1) ∧ Aside0 (Kd.R Kd.bool 4 w' w.heap.size (fun _ => True) v321 x5_1) ∧ Aside0 (w'.heap[g0_0]? = some (.cells #[.int .i64 x317000_1, (.slice A0_1 l0_1.length c0_1)] 59 (0, 0))) ∧ Aside0 (Below w.heap.size w w'))
 case atStart => exact ⟨(y317), (t320), (a0_0), H', ⟨Nat.le_refl _⟩, ⟨by (with_reducible repeat (first | apply Kd.R_alloc | apply Kd.R_drewN | apply Kd.R_drew)); exact HO319.out⟩, ⟨by (with_reducible repeat (first | apply Kd.R_alloc | apply Kd.R_drewN | apply Kd.R_drew)); exact HO322.out⟩, ⟨by refine uW ?_; exact BK316.out⟩, ⟨by repeat (first | (with_reducible first | exact HB.out | apply below_alloc | apply pw_below_drewN | apply below_drew1 | refine below_set ?_ GE316.out) | exact HB.out)⟩⟩
 case round =>
  clear H'
  try clear p2
  try clear HO_4
  try clear HO_5
  obtain ⟨x4_1, x5_1, x317000_1, HA, HK1, HO_4, HO_5, BK316, HB⟩ := hrel
  cases gk with
  | zero => exact absurd HA.out (by simp [impl_Hyper_peel_in59_0.l0])
  | succ k1 =>
   have H := HA.out
   clear HA
   simp only [impl_Hyper_peel_in59_0.l0] at H
   replace H := Option.bind_eq_some_iff.mp H
   obtain ⟨t323, A60, H⟩ := H
   replace H : (if (t323.length : Int) = 0 then ((impl_left.f k1 x5_1).bind fun t326 => (some (x4_1, t326))) else (if 0 < (t323.length : Int) then ((impl_Hyper_edgeAt_in59_0.f k1 x317000_1 l0_1 x5_1 (rd t323 0)).bind fun t330 => (if 0 ≤ t330 then (if t330 < (x5_1.length : Int) then (if x4_1.length < 8796093022208 then (impl_Hyper_peel_in59_0.l0 k1 (x4_1 ++ [(⟨t330, rd t323 0⟩ : S65)]) (x5_1.set (t330 : Int).toNat true) x317000_1 l0_1) else (none)) else (none)) else (none))) else (none))) = some (r1, r2) := H
   have A6 := Aside0.mk A60
   clear A60
   by_cases c7 : (t323.length : Int) = 0
   ·
    rw [if_pos c7] at H
    have c7b0 : ((t323.length : Int) == 0) = true := beq_iff_eq.mpr c7
    have c7b1 : ((t323.length : Int) != 0) = false := bne_eq_false_iff_eq.mpr c7
    clear c7
    replace H := Option.bind_eq_some_iff.mp H
    obtain ⟨t326, A80, H⟩ := H
    replace H : (some (x4_1, t326)) = some (r1, r2) := H
    have A8 := Aside0.mk A80
    clear A80
    simp only [Option.some.injEq, Prod.mk.injEq] at H
    obtain ⟨rfl, rfl⟩ := H
    obtain ⟨Ao9, co9, eo9⟩ := Kd.R_slice HO_5.out
    subst eo9
    go_wp2_with (first | ((with_reducible refine gate_callee (f := 98) rfl ?_); refine goesL_ (some 13) rfl rfl Try.func98 (by kernel_rfl) rfl #[.pointer (some ⟨g0_0, 0, none⟩), .slice Ao9 x5_1.length co9] rfl (by (try simp only [List.map_toArray, List.map_cons, List.map_nil]); first | done | rfl | (simp only [List.length_drop, List.length_take]; rfl)) ?_; (with_reducible refine (impl_Hyper_singles_in59_0.calls k1 g0_0 x317000_1 A0_1 c0_1 l0_1 _ _ x5_1 t323 _ ?side1 ?side2 ?side3 ?side4 ?side5 A6.out).mono ?_); (case side1 => exact (uK BK316)); (case side2 => exact uC HR0_1 HB); (case side3 => exact HC0_1.out); (case side4 => exact uD HO_5); (case side5 => exact (Kd.R_reads' HO_5.out).2.1); rintro e w10 ⟨v324, rfl, ho0, hb⟩; refine ⟨_, rfl, ?_⟩; have n0_ := Aside0.mk (Kd.R_below (uR HO_4) hb); have n1_ := Aside0.mk (Kd.R_below (uR HO_5) hb); have n2_ := Aside0.mk (Kd.R_lower ho0 (below_size (by repeat (first | (with_reducible first | exact HB.out | apply below_alloc | apply pw_below_drewN | apply below_drew1 | refine below_set ?_ GE316.out) | exact HB.out)))); have n3_ := Aside0.mk (blk_below (g := g0_0) (o := .cells #[.int .i64 x317000_1, .slice A0_1 l0_1.length c0_1] 59 (0, 0)) (uK BK316) hb); have n4_ := Aside0.mk (below_step (by repeat (first | (with_reducible first | exact HB.out | apply below_alloc | apply pw_below_drewN | apply below_drew1 | refine below_set ?_ GE316.out) | exact HB.out)) hb); clear HO_4 HO_5 BK316 HB; have HO_4 := n0_; have HO_5 := n1_; have HO325 := n2_; have BK316 := n3_; have HB := n4_; clear n0_ n1_ n2_ n3_ n4_; (try clear hb); (try clear hb2); (try clear hk); (try clear hi); (try clear ho0); obtain ⟨Ao11, co11, eo11⟩ := Kd.R_slice HO325.out; subst eo11) | ((with_reducible refine gate_callee (f := 99) rfl ?_); refine goesL_ (some 19) rfl rfl Try.func99 (by kernel_rfl) rfl #[.slice Ao9 x5_1.length co9] rfl (by (try simp only [List.map_toArray, List.map_cons, List.map_nil]); first | done | rfl | (simp only [List.length_drop, List.length_take]; rfl)) ?_; (with_reducible refine (impl_left.calls k1 _ _ x5_1 t326 _ ?side1 ?side2 A8.out).mono ?_); (case side1 => exact uD HO_5); (case side2 => exact (Kd.R_reads' HO_5.out).2.1); rintro e w12 ⟨v327, rfl, ho0, hb⟩; refine ⟨_, rfl, ?_⟩; have n0_ := Aside0.mk (Kd.R_below (uR HO_4) hb); have n1_ := Aside0.mk (Kd.R_below (uR HO_5) hb); have n2_ := Aside0.mk (Kd.R_elder' (uR HO325) (Kd.R_base ho0) hb); have n3_ := Aside0.mk (Kd.R_lower (Kd.R_new' ho0 (Kd.R_lt (uR HO325))) (below_size (by repeat (first | (with_reducible first | exact HB.out | apply below_alloc | apply pw_below_drewN | apply below_drew1 | refine below_set ?_ GE316.out) | exact HB.out)))); have n4_ := Aside0.mk (blk_below (g := g0_0) (o := .cells #[.int .i64 x317000_1, .slice A0_1 l0_1.length c0_1] 59 (0, 0)) (uK BK316) hb); have n5_ := Aside0.mk (below_step (by repeat (first | (with_reducible first | exact HB.out | apply below_alloc | apply pw_below_drewN | apply below_drew1 | refine below_set ?_ GE316.out) | exact HB.out)) hb); clear HO_4 HO_5 HO325 BK316 HB; have HO_4 := n0_; have HO_5 := n1_; have HO325 := n2_; have HO328 := n3_; have BK316 := n4_; have HB := n5_; clear n0_ n1_ n2_ n3_ n4_ n5_; (try clear hb); (try clear hb2); (try clear hk); (try clear hi); (try clear ho0)))
    go_ret2
    exact ⟨_, _, by first | rfl | (simp [errW_none, errW_some] <;> rfl) | (simp [*, errW_none, errW_some] <;> rfl), by (with_reducible repeat (first | apply Kd.R_alloc | apply Kd.R_drewN | apply Kd.R_drew)); exact HO_4.out, by (with_reducible repeat (first | apply Kd.R_alloc | apply Kd.R_drewN | apply Kd.R_drew)); exact Kd.R_mono HO328.out (fun _ hk => trivial), by repeat (first | (with_reducible first | exact HB.out | apply below_alloc | apply pw_below_drewN | apply below_drew1 | refine below_set ?_ GE316.out) | exact HB.out)⟩
   ·
    rw [if_neg c7] at H
    have c7b0 : ((t323.length : Int) == 0) = false := beq_eq_false_iff_ne.mpr c7
    have c7b1 : ((t323.length : Int) != 0) = true := bne_iff_ne.mpr c7
    have c7b2 : ¬ (t323 = []) := fun h_ => c7 (by rw [h_]; rfl)
    by_cases c13 : 0 < (t323.length : Int)
    ·
     rw [if_pos c13] at H
     have c13b0 : decide (0 < (t323.length : Int)) = true := decide_eq_true c13
     have c13b1 : decide (0 < t323.length) = true := decide_eq_true (by omega)
     clear c13
     replace H := Option.bind_eq_some_iff.mp H
     obtain ⟨t330, A140, H⟩ := H
     replace H : (if 0 ≤ t330 then (if t330 < (x5_1.length : Int) then (if x4_1.length < 8796093022208 then (impl_Hyper_peel_in59_0.l0 k1 (x4_1 ++ [(⟨t330, rd t323 0⟩ : S65)]) (x5_1.set (t330 : Int).toNat true) x317000_1 l0_1) else (none)) else (none)) else (none)) = some (r1, r2) := H
     have A14 := Aside0.mk A140
     clear A140
     by_cases c15 : 0 ≤ t330
     ·
      rw [if_pos c15] at H
      have c15b0 : decide (0 ≤ t330) = true := decide_eq_true c15
      clear c15
      by_cases c16 : t330 < (x5_1.length : Int)
      ·
       rw [if_pos c16] at H
       have c16b0 : decide (t330 < (x5_1.length : Int)) = true := decide_eq_true c16
       clear c16
       obtain ⟨y331, hy331⟩ : ∃ y_ : List Bool, y_ = (x5_1.set (t330 : Int).toNat true) := ⟨_, rfl⟩
       replace H : (if x4_1.length < 8796093022208 then (impl_Hyper_peel_in59_0.l0 k1 (x4_1 ++ [(⟨t330, rd t323 0⟩ : S65)]) y331 x317000_1 l0_1) else (none)) = some (r1, r2) := by first | (rw [hy331]; with_reducible exact H) | (have H2_ := (Option.bind_some _ _).symm.trans H; rw [hy331]; with_reducible exact H2_) | (have H2_ := (Option.bind_some _ _).symm.trans H; with_reducible exact H2_) | with_reducible exact H | (rw [hy331]; exact H) | exact H
       have Ny331 := Aside0.mk hy331
       clear hy331
       by_cases c18 : x4_1.length < 8796093022208
       ·
        rw [if_pos c18] at H
        have LMc18 := Aside0.mk c18
        clear c18
        obtain ⟨y333, hy333⟩ : ∃ y_ : List (S65), y_ = (x4_1 ++ [(⟨t330, rd t323 0⟩ : S65)]) := ⟨_, rfl⟩
        replace H : (impl_Hyper_peel_in59_0.l0 k1 y333 y331 x317000_1 l0_1) = some (r1, r2) := by first | (rw [hy333]; with_reducible exact H) | (have H2_ := (Option.bind_some _ _).symm.trans H; rw [hy333]; with_reducible exact H2_) | (have H2_ := (Option.bind_some _ _).symm.trans H; with_reducible exact H2_) | with_reducible exact H | (rw [hy333]; exact H) | exact H
        have Ny333 := Aside0.mk hy333
        clear hy333
        have H' := Aside0.mk H
        clear H
        obtain ⟨Ao19, co19, eo19⟩ := Kd.R_slice HO_5.out
        subst eo19
        go_wp2_with (first | ((with_reducible refine gate_callee (f := 98) rfl ?_); refine goesL_ (some 13) rfl rfl Try.func98 (by kernel_rfl) rfl #[.pointer (some ⟨g0_0, 0, none⟩), .slice Ao19 x5_1.length co19] rfl (by (try simp only [List.map_toArray, List.map_cons, List.map_nil]); first | done | rfl | (simp only [List.length_drop, List.length_take]; rfl)) ?_; (with_reducible refine (impl_Hyper_singles_in59_0.calls k1 g0_0 x317000_1 A0_1 c0_1 l0_1 _ _ x5_1 t323 _ ?side1 ?side2 ?side3 ?side4 ?side5 A6.out).mono ?_); (case side1 => exact (uK BK316)); (case side2 => exact uC HR0_1 HB); (case side3 => exact HC0_1.out); (case side4 => exact uD HO_5); (case side5 => exact (Kd.R_reads' HO_5.out).2.1); rintro e w20 ⟨v324, rfl, ho0, hb⟩; refine ⟨_, rfl, ?_⟩; have n0_ := Aside0.mk (Kd.R_below (uR HO_4) hb); have n1_ := Aside0.mk (Kd.R_below (uR HO_5) hb); have n2_ := Aside0.mk (Kd.R_lower ho0 (below_size (by repeat (first | (with_reducible first | exact HB.out | apply below_alloc | apply pw_below_drewN | apply below_drew1 | refine below_set ?_ GE316.out) | exact HB.out)))); have n3_ := Aside0.mk (blk_below (g := g0_0) (o := .cells #[.int .i64 x317000_1, .slice A0_1 l0_1.length c0_1] 59 (0, 0)) (uK BK316) hb); have n4_ := Aside0.mk (below_step (by repeat (first | (with_reducible first | exact HB.out | apply below_alloc | apply pw_below_drewN | apply below_drew1 | refine below_set ?_ GE316.out) | exact HB.out)) hb); clear HO_4 HO_5 BK316 HB; have HO_4 := n0_; have HO_5 := n1_; have HO325 := n2_; have BK316 := n3_; have HB := n4_; clear n0_ n1_ n2_ n3_ n4_; (try clear hb); (try clear hb2); (try clear hk); (try clear hi); (try clear ho0); obtain ⟨Ao21, co21, eo21⟩ := Kd.R_slice HO325.out; subst eo21; have p329 : 0 ≤ (0 : Int) := (by omega); have q329 : 0 < (t323.length : Int) := of_decide_eq_true (by first | (with_reducible assumption) | assumption); obtain ⟨ad329, e329, hx329_0⟩ := Kd.at_int (Kd.R_reads' HO325.out).2.2 0 p329 q329; cases e329; have qi329 : (0 < t323.length) = True := eq_true (by omega); (try rw [show ((0 : Int)).toNat = 0 from rfl] at hx329_0); (try rw [Addr.add_zero'] at hx329_0); replace p329 := eq_true p329; replace q329 := eq_true q329) | ((with_reducible refine gate_callee (f := 100) rfl ?_); refine goesL_ (some 25) rfl rfl Try.func100 (by kernel_rfl) rfl #[.pointer (some ⟨g0_0, 0, none⟩), .slice Ao19 x5_1.length co19, .int .i64 (rd t323 0)] rfl (by (try simp only [List.map_toArray, List.map_cons, List.map_nil]); first | done | rfl | (simp only [List.length_drop, List.length_take]; rfl)) ?_; (with_reducible refine (impl_Hyper_edgeAt_in59_0.calls k1 g0_0 x317000_1 A0_1 c0_1 l0_1 _ _ x5_1 (rd t323 0) t330 _ ?side1 ?side2 ?side3 ?side4 ?side5 A14.out).mono ?_); (case side1 => exact (uK BK316)); (case side2 => exact uC HR0_1 HB); (case side3 => exact HC0_1.out); (case side4 => exact uD HO_5); (case side5 => exact (Kd.R_reads' HO_5.out).2.1); rintro e w22 ⟨rfl, hb⟩; refine ⟨_, rfl, ?_⟩; have n0_ := Aside0.mk (Kd.R_below (uR HO_4) hb); have n1_ := Aside0.mk (Kd.R_below (uR HO_5) hb); have n2_ := Aside0.mk (Kd.R_below (uR HO325) hb); have n3_ := Aside0.mk (blk_below (g := g0_0) (o := .cells #[.int .i64 x317000_1, .slice A0_1 l0_1.length c0_1] 59 (0, 0)) (uK BK316) hb); have n4_ := Aside0.mk (below_step (by repeat (first | (with_reducible first | exact HB.out | apply below_alloc | apply pw_below_drewN | apply below_drew1 | refine below_set ?_ GE316.out) | exact HB.out)) hb); clear HO_4 HO_5 HO325 BK316 HB; have HO_4 := n0_; have HO_5 := n1_; have HO325 := n2_; have BK316 := n3_; have HB := n4_; clear n0_ n1_ n2_ n3_ n4_; (try clear hb); (try clear hb2); (try clear hk); (try clear hi); have p17 : 0 ≤ (t330 : Int) := of_decide_eq_true (by first | (with_reducible assumption) | assumption); have q17 : (t330 : Int) < ((x5_1.length : Int) : Int) := of_decide_eq_true (by first | (with_reducible assumption) | assumption); obtain ⟨go17, co17, eo17, gb17, gl17, cl17, HG17⟩ := Kd.R_form HO_5.out (by omega); (first | cases eo17 | (injection eo17 with ea_ en_ ec_; (first | subst ea_ | (injection ea_ with ea_; subst ea_)); subst ec_; clear en_)); have GB17 := Aside0.mk gb17; have GG17 := Aside0.mk HG17; clear gb17 gl17 HG17; obtain ⟨hx17_0, hf17_0⟩ := Kd.R_celln false HO_5.out (t330 : Int) p17 q17; replace p17 := eq_true p17; replace q17 := eq_true q17; obtain ⟨hy23_, hz23_⟩ := Kd.R_celln false HO_5.out (t330 : Int) (of_decide_eq_true (by first | (with_reducible assumption) | assumption)) (of_decide_eq_true (by first | (with_reducible assumption) | assumption)); have HP23 := Kd.R_putg HO_5.out (t330 : Int) true) | ((with_reducible refine gate_store (t := 4) (p := 28) rfl ?_); refine store_event (t := 4) (p := 28) (v := ?vo_w24) (w1 := (w22.setCell ⟨go17, (t330 : Int).toNat, none⟩ (.bool true))) ?hg ?ho ?hn ?hr ?_; (case ho => rfl); (case hg => rfl); (case hn => rfl); (case hr => first | (go_simp; done) | (go_simp; rfl)); intro w24 hw; have hg : w22.grownBy w24 (some go17) := (by rw [hw]; exact HP23.2); have hp_ : Kd.R Kd.bool 4 w24 w.heap.size (fun _ => True) (.slice (some ⟨go17, 0, none⟩) x5_1.length co19) y331 := (by rw [hw, Ny331.out]; exact HP23.1); clear HP23; have n0_ := Aside0.mk (Kd.R_over' (v := (.slice (some ⟨go17, 0, none⟩) x5_1.length co19)) (uR HO_4) (Kd.R_typed HO_5.out) (by decide) hg); have n1_ := Aside0.mk (hp_); have n2_ := Aside0.mk (blk_grown (g := g0_0) (o := .cells #[.int .i64 x317000_1, .slice A0_1 l0_1.length c0_1] 59 (0, 0)) (uK BK316) hg (Kd.R_ne HO_5.out BK316.out (by decide))); have n3_ := Aside0.mk (Kd.R_over' (v := (.slice (some ⟨go17, 0, none⟩) x5_1.length co19)) (uR HO325) (Kd.R_typed HO_5.out) (by decide) hg); have n4_ := Aside0.mk ((by rw [hw]; exact below_set (HB.out) GB17.out : Below w.heap.size w w24)); clear HO_4 HO_5 BK316 HO325 HB; have HO_4 := n0_; have HO_5 := n1_; have BK316 := n2_; have HO325 := n3_; have HB := n4_; clear n0_ n1_ n2_ n3_ n4_ hg hw hp_; have p332 : 0 ≤ (0 : Int) := (by omega); have q332 : 0 < (t323.length : Int) := of_decide_eq_true (by first | (with_reducible assumption) | assumption); obtain ⟨ad332, e332, hx332_0⟩ := Kd.at_int (Kd.R_reads' HO325.out).2.2 0 p332 q332; obtain rfl : ad329 = ad332 := (by injection e332); have qi332 : (0 < t323.length) = True := eq_true (by omega); (try rw [show ((0 : Int)).toNat = 0 from rfl] at hx332_0); (try rw [Addr.add_zero'] at hx332_0); replace p332 := eq_true p332; replace q332 := eq_true q332) | ((with_reducible refine gate_builtin (b := .append) (xs := #[.tmp 29, .tmp 35]) rfl ?_); at_builtin; refine Kd.R_append k65 (w0 := w) w.heap.size rfl (.tmp 29) (.tmp 35) 61 65 (.agg #[(.int .i64 0), (.int .i64 0)]) 16 rfl Try.underlying61 info65 rfl (by decide) (by omega) u4 x4_1 (⟨t330, rd t323 0⟩ : S65) [.int .i64 t330, .int .i64 (rd t323 0)] (fun _ => True) (fun _ => False) rfl rfl ?aP (fun _ hk => hk.elim) ?aF ?aO ?aB ?aS ?aL ?_; (case aP => exact k65_mkM _ _ _ (⟨t330, rd t323 0⟩ : S65)); (case aB => exact (by repeat (first | (with_reducible first | exact HB.out | apply below_alloc | apply pw_below_drewN | apply below_drew1 | refine below_set ?_ GE316.out) | exact HB.out))); (case aF => exact (fun _ _ => trivial)); (case aO => exact (uR HO_4)); (case aS => exact (below_size (by repeat (first | (with_reducible first | exact HB.out | apply below_alloc | apply pw_below_drewN | apply below_drew1 | refine below_set ?_ GE316.out) | exact HB.out)))); (case aL => have := LMc18.out; omega); intro v334 w25 ho hb hg hat; rw [← Ny333.out] at ho; have n0_ := Aside0.mk (Kd.R_over' (uR HO_5) (Kd.R_typed (uR HO_4)) (by decide) hg); have n1_ := Aside0.mk (blk_grown (g := g0_0) (o := .cells #[.int .i64 x317000_1, .slice A0_1 l0_1.length c0_1] 59 (0, 0)) (uK BK316) hg (Kd.R_ne HO_4.out BK316.out (by decide))); have n2_ := Aside0.mk (Kd.R_over' (uR HO325) (Kd.R_typed (uR HO_4)) (by decide) hg); have n3_ := Aside0.mk (hb); have n4_ := Aside0.mk (ho); clear HO_5 BK316 HO325 HB HO_4; have HO_5 := n0_; have BK316 := n1_; have HO325 := n2_; have HB := n3_; have HO335 := n4_; clear n0_ n1_ n2_ n3_ n4_; clear ho hb hg hat))
        go_roundg k1
        case measure => have := HK1.out; omega
        case rel => exact ⟨(y333), (y331), (x317000_1), H', ⟨by have := HK1.out; omega⟩, ⟨by (with_reducible repeat (first | apply Kd.R_alloc | apply Kd.R_drewN | apply Kd.R_drew)); exact HO335.out⟩, ⟨by (with_reducible repeat (first | apply Kd.R_alloc | apply Kd.R_drewN | apply Kd.R_drew)); exact HO_5.out⟩, ⟨by refine uW ?_; exact BK316.out⟩, ⟨by repeat (first | (with_reducible first | exact HB.out | apply below_alloc | apply pw_below_drewN | apply below_drew1 | refine below_set ?_ GE316.out) | exact HB.out)⟩⟩
       ·
        rw [if_neg c18] at H
        exact absurd H (by simp)
      ·
       rw [if_neg c16] at H
       exact absurd H (by simp)
     ·
      rw [if_neg c15] at H
      exact absurd H (by simp)
    ·
     rw [if_neg c13] at H
     exact absurd H (by simp)

/-! ### impl_Hyper_order_in59_0: function 40 -/
def impl_Hyper_order_in59_0.f (k : Nat) (a0_0 : Int) (l0_1 : List (List Int)) : Option ((List (S65)) × Bool) := (impl_Hyper_peel_in59_0.f k a0_0 l0_1).bind fun bt337 => (some (bt337.1, ((bt337.2.length : Int) == 0)))
theorem impl_Hyper_order_in59_0.mono : ∀ a0 a1 k, LeO (impl_Hyper_order_in59_0.f k a0 a1) (impl_Hyper_order_in59_0.f (k + 1) a0 a1) := by
 intro a0 a1 k
 unfold impl_Hyper_order_in59_0.f
 repeat' first
   | (with_reducible exact impl_Hyper_peel_in59_0.mono _ _ _)
   | (with_reducible exact LeO.refl _)
   | (with_reducible exact LeO.none _)
   | (with_reducible refine LeO.ite ?_ ?_)
   | (with_reducible refine LeO.bind ?_ (fun _ => ?_))
   | exact impl_Hyper_peel_in59_0.mono _ _ _
   | exact LeO.none _
   | refine LeO.ite ?_ ?_
   | refine LeO.bind ?_ (fun _ => ?_)
set_option maxHeartbeats 8000000 in
set_option maxRecDepth 100000 in
theorem impl_Hyper_order_in59_0.calls (k : Nat) (g0_0 : Nat) (a0_0 : Int) (A0_1 : Option Addr) (c0_1 : Nat) (l0_1 : List (List Int)) (r1 : List (S65)) (r2 : Bool) (w : World) (hb0_0 : w.heap[g0_0]? = some (.cells #[.int .i64 a0_0, .slice A0_1 l0_1.length c0_1] 59 (0, 0))) (hr0_1 : Kd.C (Kd.slice 3 (Kd.int .i64)) w A0_1 l0_1.length l0_1) (hc0_1 : l0_1.length ≤ c0_1) (h : impl_Hyper_order_in59_0.f k a0_0 l0_1 = some (r1, r2)) :
  Calls Try.prog 40 #[.pointer (some ⟨g0_0, 0, none⟩)] w fun e w' => ∃ v0_ : Value, e = .returned (.tuple #[v0_, .bool r2]) ∧ Kd.R k65 65 w' w.heap.size (fun _ => True) v0_ r1 ∧ Below w.heap.size w w' := by
 have HR0_1 := Aside0.mk hr0_1
 have HC0_1 := Aside0.mk hc0_1
 clear hr0_1 hc0_1
 have BK336 := Aside0.mk hb0_0
 clear hb0_0
 have HB := Aside0.mk (Below.refl w.heap.size w)
 have H : ((impl_Hyper_peel_in59_0.f k a0_0 l0_1).bind fun bt337 => (some (bt337.1, ((bt337.2.length : Int) == 0)))) = some (r1, r2) := h
 clear h
 replace H := Option.bind_eq_some_iff.mp H
 obtain ⟨⟨t337, t340⟩, A20, H⟩ := H
 replace H : (some (t337, ((t340.length : Int) == 0))) = some (r1, r2) := H
 have A2 := Aside0.mk A20
 clear A20
 simp only [Option.some.injEq, Prod.mk.injEq] at H
 obtain ⟨rfl, rfl⟩ := H
 go_enter Try.func40, Try.ntmps40
 go_wp2_with (first | ((with_reducible refine gate_callee (f := 74) rfl ?_); refine goesL_ (some 8) rfl rfl Try.func74 (by kernel_rfl) rfl #[.pointer (some ⟨g0_0, 0, none⟩)] rfl (by (try simp only [List.map_toArray, List.map_cons, List.map_nil]); first | done | rfl | (simp only [List.length_drop, List.length_take]; rfl)) ?_; (with_reducible refine (impl_Hyper_peel_in59_0.calls k g0_0 a0_0 A0_1 c0_1 l0_1 t337 t340 _ ?side1 ?side2 ?side3 A2.out).mono ?_); (case side1 => exact (uK BK336)); (case side2 => repeat (first | exact HR0_1.out | (with_reducible refine Kd.C_alloc ?_ _) | (with_reducible refine Kd.C_drewN ?_ _) | (with_reducible refine Kd.C_drew ?_))); (case side3 => exact HC0_1.out); rintro e w3 ⟨v338, v341, rfl, ho0, ho1, hb⟩; refine ⟨_, rfl, ?_⟩; have n0_ := Aside0.mk (Kd.R_lower ho0 (below_size (by repeat (first | (with_reducible first | exact HB.out | apply below_alloc | apply pw_below_drewN | apply below_drew1 | refine below_set ?_ GE336.out) | exact HB.out)))); have n1_ := Aside0.mk (Kd.R_lower ho1 (below_size (by repeat (first | (with_reducible first | exact HB.out | apply below_alloc | apply pw_below_drewN | apply below_drew1 | refine below_set ?_ GE336.out) | exact HB.out)))); have n2_ := Aside0.mk (blk_below (g := g0_0) (o := .cells #[.int .i64 a0_0, .slice A0_1 l0_1.length c0_1] 59 (0, 0)) (uK BK336) hb); have n3_ := Aside0.mk (below_step (by repeat (first | (with_reducible first | exact HB.out | apply below_alloc | apply pw_below_drewN | apply below_drew1 | refine below_set ?_ GE336.out) | exact HB.out)) hb); clear BK336 HB; have HO339 := n0_; have HO342 := n1_; have BK336 := n2_; have HB := n3_; clear n0_ n1_ n2_ n3_; (try clear hb); (try clear hb2); (try clear hk); (try clear hi); (try clear ho0); (try clear ho1); obtain ⟨Ao4, co4, eo4⟩ := Kd.R_slice HO342.out; subst eo4))
 go_ret2
 exact ⟨_, by first | rfl | (simp [errW_none, errW_some] <;> rfl) | (simp [*, errW_none, errW_some] <;> rfl), by (with_reducible repeat (first | apply Kd.R_alloc | apply Kd.R_drewN | apply Kd.R_drew)); exact HO339.out, by repeat (first | (with_reducible first | exact HB.out | apply below_alloc | apply pw_below_drewN | apply below_drew1 | refine below_set ?_ GE336.out) | exact HB.out)⟩

/-! ### impl_Table_value_in35_0: function 49 -/
def impl_Table_value_in35_0.f (a0_0 : Int) (a0_1 : Int) (a0_2 : Int) (l0_3 : List Int) (l1 : List Int) : Option (Int) := if 0 < (l1.length : Int) then (if 0 ≤ (rd l1 0) then (if (rd l1 0) < (l0_3.length : Int) then (if 1 < (l1.length : Int) then (if 0 ≤ (rd l1 1) then (if (rd l1 1) < (l0_3.length : Int) then (if 2 < (l1.length : Int) then (if 0 ≤ (rd l1 2) then (if (rd l1 2) < (l0_3.length : Int) then (some (Go.bits .xor .i64 (Go.bits .xor .i64 (rd l0_3 (rd l1 0)) (rd l0_3 (rd l1 1))) (rd l0_3 (rd l1 2)))) else (none)) else (none)) else (none)) else (none)) else (none)) else (none)) else (none)) else (none)) else (none)
set_option maxHeartbeats 8000000 in
set_option maxRecDepth 100000 in
theorem impl_Table_value_in35_0.calls (g0_0 : Nat) (a0_0 : Int) (a0_1 : Int) (a0_2 : Int) (A0_3 : Option Addr) (c0_3 : Nat) (l0_3 : List Int) (A1 : Option Addr) (c1 : Nat) (l1 : List Int) (r : Int) (w : World) (hb0_0 : w.heap[g0_0]? = some (.cells #[.int .i64 a0_0, .int .i64 a0_1, .int .i64 a0_2, .slice A0_3 l0_3.length c0_3] 35 (0, 0))) (hr0_3 : Kd.C (Kd.int .i64) w A0_3 l0_3.length l0_3) (hc0_3 : l0_3.length ≤ c0_3) (hr1 : Kd.C (Kd.int .i64) w A1 l1.length l1) (hc1 : l1.length ≤ c1) (h : impl_Table_value_in35_0.f a0_0 a0_1 a0_2 l0_3 l1 = some r) :
  Calls Try.prog 49 #[.pointer (some ⟨g0_0, 0, none⟩), .slice A1 l1.length c1] w fun e w' => e = .returned (.int .i64 r) ∧ Below w.heap.size w w' := by
 have HR0_3 := Aside0.mk hr0_3
 have HC0_3 := Aside0.mk hc0_3
 clear hr0_3 hc0_3
 have HR1 := Aside0.mk hr1
 have HC1 := Aside0.mk hc1
 clear hr1 hc1
 have BK343 := Aside0.mk hb0_0
 clear hb0_0
 have HB := Aside0.mk (Below.refl w.heap.size w)
 have H : (if 0 < (l1.length : Int) then (if 0 ≤ (rd l1 0) then (if (rd l1 0) < (l0_3.length : Int) then (if 1 < (l1.length : Int) then (if 0 ≤ (rd l1 1) then (if (rd l1 1) < (l0_3.length : Int) then (if 2 < (l1.length : Int) then (if 0 ≤ (rd l1 2) then (if (rd l1 2) < (l0_3.length : Int) then (some (Go.bits .xor .i64 (Go.bits .xor .i64 (rd l0_3 (rd l1 0)) (rd l0_3 (rd l1 1))) (rd l0_3 (rd l1 2)))) else (none)) else (none)) else (none)) else (none)) else (none)) else (none)) else (none)) else (none)) else (none)) = some r := h
 clear h
 by_cases c3 : 0 < (l1.length : Int)
 ·
  rw [if_pos c3] at H
  have c3b0 : decide (0 < (l1.length : Int)) = true := decide_eq_true c3
  have c3b1 : decide (0 < l1.length) = true := decide_eq_true (by omega)
  clear c3
  by_cases c4 : 0 ≤ (rd l1 0)
  ·
   rw [if_pos c4] at H
   have c4b0 : decide (0 ≤ (rd l1 0)) = true := decide_eq_true c4
   clear c4
   by_cases c5 : (rd l1 0) < (l0_3.length : Int)
   ·
    rw [if_pos c5] at H
    have c5b0 : decide ((rd l1 0) < (l0_3.length : Int)) = true := decide_eq_true c5
    clear c5
    by_cases c6 : 1 < (l1.length : Int)
    ·
     rw [if_pos c6] at H
     have c6b0 : decide (1 < (l1.length : Int)) = true := decide_eq_true c6
     have c6b1 : decide (1 < l1.length) = true := decide_eq_true (by omega)
     clear c6
     by_cases c7 : 0 ≤ (rd l1 1)
     ·
      rw [if_pos c7] at H
      have c7b0 : decide (0 ≤ (rd l1 1)) = true := decide_eq_true c7
      clear c7
      by_cases c8 : (rd l1 1) < (l0_3.length : Int)
      ·
       rw [if_pos c8] at H
       have c8b0 : decide ((rd l1 1) < (l0_3.length : Int)) = true := decide_eq_true c8
       clear c8
       by_cases c9 : 2 < (l1.length : Int)
       ·
        rw [if_pos c9] at H
        have c9b0 : decide (2 < (l1.length : Int)) = true := decide_eq_true c9
        have c9b1 : decide (2 < l1.length) = true := decide_eq_true (by omega)
        clear c9
        by_cases c10 : 0 ≤ (rd l1 2)
        ·
         rw [if_pos c10] at H
         have c10b0 : decide (0 ≤ (rd l1 2)) = true := decide_eq_true c10
         clear c10
         by_cases c11 : (rd l1 2) < (l0_3.length : Int)
         ·
          rw [if_pos c11] at H
          have c11b0 : decide ((rd l1 2) < (l0_3.length : Int)) = true := decide_eq_true c11
          clear c11
          obtain rfl := Option.some.inj H
          have hcz12_0 : w.cell? ⟨g0_0, 0, none⟩ = some (.int .i64 a0_0) := (blk_cell BK343.out 0).trans rfl
          have hcz12_1 : w.cell? ⟨g0_0, 1, none⟩ = some (.int .i64 a0_1) := (blk_cell BK343.out 1).trans rfl
          have hcz12_2 : w.cell? ⟨g0_0, 2, none⟩ = some (.int .i64 a0_2) := (blk_cell BK343.out 2).trans rfl
          have hcz12_3 : w.cell? ⟨g0_0, 3, none⟩ = some (.slice A0_3 l0_3.length c0_3) := (blk_cell BK343.out 3).trans rfl
          have hfz12_0 := blk_frozen BK343.out 0
          have hfz12_1 := blk_frozen BK343.out 1
          have hfz12_2 := blk_frozen BK343.out 2
          have hfz12_3 := blk_frozen BK343.out 3
          have p344 : 0 ≤ (0 : Int) := (by omega)
          have q344 : 0 < (l1.length : Int) := of_decide_eq_true (by first | (with_reducible assumption) | assumption)
          obtain ⟨ad344, e344, hx344_0⟩ := Kd.at_int HR1.out 0 p344 q344
          cases e344
          have qi344 : (0 < l1.length) = True := eq_true (by omega)
          (try rw [show ((0 : Int)).toNat = 0 from rfl] at hx344_0)
          (try rw [Addr.add_zero'] at hx344_0)
          replace p344 := eq_true p344
          replace q344 := eq_true q344
          have p345 : 0 ≤ ((rd l1 0) : Int) := of_decide_eq_true (by first | (with_reducible assumption) | assumption)
          have q345 : (rd l1 0) < (l0_3.length : Int) := of_decide_eq_true (by first | (with_reducible assumption) | assumption)
          obtain ⟨ad345, e345, hx345_0⟩ := Kd.at_int HR0_3.out (rd l1 0) p345 q345
          cases e345
          replace p345 := eq_true p345
          replace q345 := eq_true q345
          have p346 : 0 ≤ (1 : Int) := (by omega)
          have q346 : 1 < (l1.length : Int) := of_decide_eq_true (by first | (with_reducible assumption) | assumption)
          obtain ⟨ad346, e346, hx346_0⟩ := Kd.at_int HR1.out 1 p346 q346
          obtain rfl : ad344 = ad346 := (by injection e346)
          (try simp only [show (1 : Int).toNat = 1 from rfl, Nat.reduceMul, Nat.reduceEqDiff, Go.Addr.add, ↓reduceIte] at hx346_0)
          have qi346 : (1 < l1.length) = True := eq_true (by omega)
          (try rw [show ((1 : Int)).toNat = 1 from rfl] at hx346_0)
          replace p346 := eq_true p346
          replace q346 := eq_true q346
          have p347 : 0 ≤ ((rd l1 1) : Int) := of_decide_eq_true (by first | (with_reducible assumption) | assumption)
          have q347 : (rd l1 1) < (l0_3.length : Int) := of_decide_eq_true (by first | (with_reducible assumption) | assumption)
          obtain ⟨ad347, e347, hx347_0⟩ := Kd.at_int HR0_3.out (rd l1 1) p347 q347
          obtain rfl : ad345 = ad347 := (by injection e347)
          replace p347 := eq_true p347
          replace q347 := eq_true q347
          have p348 : 0 ≤ (2 : Int) := (by omega)
          have q348 : 2 < (l1.length : Int) := of_decide_eq_true (by first | (with_reducible assumption) | assumption)
          obtain ⟨ad348, e348, hx348_0⟩ := Kd.at_int HR1.out 2 p348 q348
          obtain rfl : ad344 = ad348 := (by injection e348)
          (try simp only [show (2 : Int).toNat = 2 from rfl, Nat.reduceMul, Nat.reduceEqDiff, Go.Addr.add, ↓reduceIte] at hx348_0)
          have qi348 : (2 < l1.length) = True := eq_true (by omega)
          (try rw [show ((2 : Int)).toNat = 2 from rfl] at hx348_0)
          replace p348 := eq_true p348
          replace q348 := eq_true q348
          have p349 : 0 ≤ ((rd l1 2) : Int) := of_decide_eq_true (by first | (with_reducible assumption) | assumption)
          have q349 : (rd l1 2) < (l0_3.length : Int) := of_decide_eq_true (by first | (with_reducible assumption) | assumption)
          obtain ⟨ad349, e349, hx349_0⟩ := Kd.at_int HR0_3.out (rd l1 2) p349 q349
          obtain rfl : ad345 = ad349 := (by injection e349)
          replace p349 := eq_true p349
          replace q349 := eq_true q349
          go_enter Try.func49, Try.ntmps49
          go_wp2
          repeat (go_quiet (fail); try go_wp2)
          go_ret
          exact ⟨by first | rfl | (simp [errW_none, errW_some] <;> rfl) | (simp [*, errW_none, errW_some] <;> rfl), by repeat (first | (with_reducible first | exact HB.out | apply below_alloc | apply pw_below_drewN | apply below_drew1 | refine below_set ?_ GE343.out) | exact HB.out)⟩
         ·
          rw [if_neg c11] at H
          exact absurd H (by simp)
        ·
         rw [if_neg c10] at H
         exact absurd H (by simp)
       ·
        rw [if_neg c9] at H
        exact absurd H (by simp)
      ·
       rw [if_neg c8] at H
       exact absurd H (by simp)
     ·
      rw [if_neg c7] at H
      exact absurd H (by simp)
    ·
     rw [if_neg c6] at H
     exact absurd H (by simp)
   ·
    rw [if_neg c5] at H
    exact absurd H (by simp)
  ·
   rw [if_neg c4] at H
   exact absurd H (by simp)
 ·
  rw [if_neg c3] at H
  exact absurd H (by simp)

/-! ### impl_TableByPeeling: function 18 -/
section
attribute [local go_sem] Oper.semAt_some
open Go.Proofs.Ytippedfjmlkpiaa.Back Go.Shelf
def el65 (zs : List S65) (k : Nat) : S65 := zs.getD k (zs.headD z65)
theorem el65_lt (zs : List S65) (k : Nat) (h : k < zs.length) : rd_T65 zs (k : Int) = el65 zs k := by
 unfold rd_T65 el65
 rw [Int.toNat_natCast, List.getD_eq_getElem?_getD, List.getD_eq_getElem?_getD, List.getElem?_eq_getElem h]
 rfl
theorem back_pre (n j : Nat) (h : j + 1 ≤ n) : (List.range' j (n - j)).reverse = (List.range' (j + 1) (n - (j + 1))).reverse ++ [j] := by
 rw [show n - j = (n - (j + 1)) + 1 from by omega, List.range'_succ, List.reverse_cons]
def BackK (gc n1 : Nat) (W W' : World) : Prop := Kept W W' (fun k => k = gc ∨ n1 ≤ k)
theorem BackK.trans {gc n1 : Nat} {A B C : World} (h : BackK gc n1 A B) (k : BackK gc n1 B C) : BackK gc n1 A C := Kept.then_ h k (fun _ h_ => .inl h_)
theorem BackK.putObj {gc n1 : Nat} (W : World) (l : Nat) (o o' : Obj) (hl : n1 ≤ l) (_ : W.heap[l]? = some o) (_ : o.isCells = false) (_ : o.isWalk = false) : BackK gc n1 W (W.putObj l o') :=
 Kept.of_grown (grownBy_putObj' W l o') (Kept.refl W _) (fun k e => by cases e; exact .inl (.inr hl))
set_option maxRecDepth 100000 in
set_option maxHeartbeats 4000000 in
theorem back_walk (n : Nat) (hn : 1 ≤ n) (gc l Bs : Nat) (A : Option Addr) (cap : Nat) (zs : List S65) (hfit : zs.length ≤ 1000) (wB : World) (hbox : wB.heap[Bs]? = some (.cells #[.slice A zs.length cap] 61 (0, 0))) (hne : Bs ≠ gc)
  (hC : ∀ W, BackK gc wB.heap.size wB W → Kd.C k65 W A zs.length zs) (J Jx : List Nat → World → Prop)
  (hY : ∀ (pre : List Nat) (k : Nat) (W : World), J pre W → pre.length < zs.length → YieldAt Fence.wide (n - 1) Try.prog l #[.int .i64 (k : Int), .agg #[.int .i64 (el65 zs k).f0, .int .i64 (el65 zs k).f1]] W fun e W' =>
    (e = .returned (.bool true) ∧ J (pre ++ [k]) W' ∧ BackK gc wB.heap.size W W') ∨ (e = .returned (.bool false) ∧ Jx (pre ++ [k]) W'))
  (W : World) (hW : BackK gc wB.heap.size wB W) (h0 : J [] W) :
  CallsIn Fence.wide n Try.prog 75 #[.func (.yield l) #[] #[], .pointer (some ⟨Bs, 0, none⟩)] W fun e W' => (∃ v, e = .returned v) ∧ ((∃ ys, ys = (List.range zs.length).reverse ∧ J ys W') ∨ (∃ pre, True ∧ Jx pre W')) := by
 have hlt : Bs < wB.heap.size := blk_lt hbox
 have hbx : ∀ W', BackK gc wB.heap.size wB W' → W'.cell? ⟨Bs, 0, none⟩ = some (.slice A zs.length cap) := fun W' h => (blk_cell (blk_kept hbox h (fun e => e.elim hne (fun e => by omega))) 0).trans rfl
 refine callsIn_of_wp Try.func75 rfl trivial ?_ rfl
 simp only [Try.ntmps75, List.size_toArray, List.length_cons, List.length_nil, Nat.reduceAdd, Nat.reduceSub, Array.replicate_succ, Array.replicate_zero, List.push_toArray, List.append_toArray, List.nil_append, List.cons_append]
 have hc0 := hbx W hW
 gi_wp2
 gi_loopw [3] (fun i wr => ∃ j : Nat, j ≤ zs.length ∧ i = .int .i64 ((j : Int) - 1) ∧ J ((List.range' j (zs.length - j)).reverse) wr ∧ BackK gc wB.heap.size wB wr)
  (fun i _ => (intOf i + 1).toNat)
 case atStart => exact ⟨zs.length, Nat.le_refl _, by first | rfl | (congr 1; unfold wrap64; omega), by rw [Nat.sub_self]; exact h0, hW⟩
 case round =>
  obtain ⟨j, hj, rfl, hJs, hnx⟩ := hrel
  cases j with
  | zero =>
   gi_wp2
   go_end0
   exact ⟨⟨_, rfl⟩, .inl ⟨_, by rw [List.range_eq_range']; rfl, hJs⟩⟩
  | succ j =>
   have e1 : (((j + 1 : Nat) : Int) - 1) = (j : Int) := by omega
   simp only [e1]
   have hlen : ((List.range' (j + 1) (zs.length - (j + 1))).reverse).length < zs.length := by rw [List.length_reverse, List.length_range']; omega
   obtain ⟨fn, tmps, assign, body, hy, hR⟩ := hY _ j wr hJs hlen
   obtain ⟨ad, ea, hx0, hx1⟩ := at_T65 (hC wr hnx) (j : Int) (by omega) (by omega)
   rw [el65_lt zs j (by omega), Int.toNat_natCast] at hx0 hx1
   subst ea
   have hc1 := hbx wr hnx
   gi_wp2
   refine hR.mono ?_
   rintro e W3 (⟨rfl, hJ3, hk3⟩ | ⟨rfl, hJx3⟩)
   · gi_wp2
     go_roundw
     case rel => exact ⟨j, by omega, by first | rfl | (congr 1; unfold wrap64; omega), by rw [back_pre zs.length j (by omega)]; exact hJ3, hnx.trans hk3⟩
     case measure => simp only [intOf]; omega
   · gi_wp2
     refine bodyPost_ret (results_none rfl _ _ _) rfl ?_
     exact ⟨⟨_, rfl⟩, .inr ⟨_, trivial, hJx3⟩⟩
theorem back_stops (n : Nat) (hn : 1 ≤ n) (gc Bs : Nat) (A : Option Addr) (cap : Nat) (zs : List S65) (hfit : zs.length ≤ 1000) (wB : World) (hbox : wB.heap[Bs]? = some (.cells #[.slice A zs.length cap] 61 (0, 0))) (hne : Bs ≠ gc)
  (hC : ∀ W, BackK gc wB.heap.size wB W → Kd.C k65 W A zs.length zs) :
  SeqStopsK Fence.wide n Try.prog 75 #[.pointer (some ⟨Bs, 0, none⟩)] (fun k : Nat => #[.int .i64 (k : Int), .agg #[.int .i64 (el65 zs k).f0, .int .i64 (el65 zs k).f1]]) (BackK gc wB.heap.size) (fun ys => ys = (List.range zs.length).reverse) (fun _ => True) zs.length wB :=
 fun l J Jx W hW _ _ hY h0 => back_walk n hn gc l Bs A cap zs hfit wB hbox hne hC J Jx hY W (Kept.of_below hW _) h0
theorem el65_mem {zs : List S65} (k : Nat) (h : 0 < zs.length) : el65 zs k ∈ zs := by
 unfold el65
 rw [List.getD_eq_getElem?_getD]
 cases e : zs[k]? with
 | some x => exact List.mem_of_getElem? e
 | none => cases zs with
  | nil => simp at h
  | cons y ys => simp
theorem el65_rev (zs : List S65) : (List.range zs.length).reverse.map (el65 zs) = zs.reverse := by
 rw [List.map_reverse]
 congr 1
 apply List.ext_getElem
 · simp
 · intro i h1 h2
   rw [List.getElem_map, List.getElem_range]
   unfold el65
   rw [List.getD_eq_getElem?_getD, List.getElem?_eq_getElem h2]
   rfl
theorem R_turned {α : Type} {d : Kd α} {e base : Nat} {ok : Nat → Prop} {W W' : World} {v : Value} {xs : List α} {row : Option Nat} (h : Kd.R d e W base ok v xs) (hok : ∀ k, ok k → some k = v.ownBlock) (hg : W.grownBy W' row) (hr : ∀ r, row = some r → ∃ o : Obj, W.heap[r]? = some o ∧ o.isCells = false) : Kd.R d e W' base ok v xs :=
 Kd.R_step h (fun k ho hlt => hg.block k hlt (fun e_ => by
  obtain ⟨o, h1, h2⟩ := hr k e_.symm
  obtain ⟨cs, h3⟩ := Kd.R_typed h k (hok k ho).symm
  rw [h1] at h3
  cases h3
  cases h2))
set_option maxHeartbeats 1000000 in
theorem back_calls (A : Option Addr) (len cap : Nat) (w : World) :
  Calls Try.prog 41 #[.slice A len cap] w fun e w' => ∃ g, e = .returned (.func (.func 75) #[] #[.pointer (some ⟨g, 0, none⟩)]) ∧ w'.heap[g]? = some (.cells #[.slice A len cap] 61 (0, 0)) ∧ Below w.heap.size w w' := by
 go_enter Try.func41, Try.ntmps41
 go_wp2
 go_ret
 exact ⟨_, rfl, World.alloc_heap_new w _, below_alloc (Below.refl _ w) _⟩
def valT (c e : List Int) : Int := Go.bits .xor .i64 (Go.bits .xor .i64 (rd c (rd e 0)) (rd c (rd e 1))) (rd c (rd e 2))
def inT (n : Nat) (i : Int) : Prop := 0 ≤ i ∧ i < (n : Int)
instance (n : Nat) (i : Int) : Decidable (inT n i) := by unfold inT; infer_instance
def threeOk (n : Nat) (e : List Int) : Prop := 2 < e.length ∧ inT n (rd e 0) ∧ inT n (rd e 1) ∧ inT n (rd e 2)
instance (n : Nat) (e : List Int) : Decidable (threeOk n e) := by unfold threeOk; infer_instance
def tabOk1 (vs : List Int) (es : List (List Int)) (n : Nat) (s : S65) : Bool := decide (inT n s.f1 ∧ inT vs.length s.f0 ∧ inT es.length s.f0 ∧ threeOk n (rd_L3 es s.f0))
def tabOk (vs : List Int) (es : List (List Int)) (zs : List S65) (n : Nat) : Bool := zs.all (tabOk1 vs es n) && decide (zs.length ≤ 1000)
def tabStep (vs : List Int) (es : List (List Int)) (c : List Int) (s : S65) : List Int := (c.set s.f1.toNat 0).set s.f1.toNat (Go.bits .xor .i64 (rd vs s.f0) (valT (c.set s.f1.toNat 0) (rd_L3 es s.f0)))
def tabL (vs : List Int) (es : List (List Int)) (zs : List S65) (c : List Int) : List Int := zs.reverse.foldl (tabStep vs es) c
theorem enterM {n : Nat} {P : Program} {f : FuncId} {fn : Func} {c : Code} {args : Array Value} {w : World} {R : Ending → World → Prop} (hf : P.funcs[f]? = some fn) (hb : fn.body = some c)
  (h : c.wp P (bodyPostM Fence.wide n P fn R) { tmps := args ++ Array.replicate (fn.ntmps - args.size) undef, defers := [] } w) : Calls P f args w R :=
 callsIn_wide.1 (callsIn_of_wp_marks hf hb trivial (wpIn_wide.2 h) rfl)
theorem seq_hide {F : Fence} {n : Nat} {P : Program} {x y : Code} {Q : Exit → Act → World → Prop} {a : Act} {w : World} (h : ∀ K : Act → World → Prop, Aside0 (∀ a w, y.wpIn F n P Q a w → K a w) → x.wpIn F n P (Exit.then K Q) a w) : (Code.seq x y).wpIn F n P Q a w :=
 wpIn_seq_k (fun K hK => h K ⟨hK⟩)
theorem valT_eq (a b d : Int) (c e : List Int) (h : threeOk c.length e) : impl_Table_value_in35_0.f a b d c e = some (valT c e) := by
 obtain ⟨h1, ⟨h2, h3⟩, ⟨h4, h5⟩, ⟨h6, h7⟩⟩ := h
 have k0 : (0 : Int) < (e.length : Int) := by omega
 have k1 : (1 : Int) < (e.length : Int) := by omega
 have k2 : (2 : Int) < (e.length : Int) := by omega
 simp only [impl_Table_value_in35_0.f, k0, k1, k2, h2, h3, h4, h5, h6, h7, ↓reduceIte]
 rfl
def impl_TableByPeeling.T11 : Bool × List (List Nat × List Nat) := (true, [([], []), ([0], [0]), ([], []), ([2], [2]), ([], []), ([], []), ([5], [5]), ([4, 6], [4, 6]), ([7], [7]), ([], []), ([9], [9]), ([], []), ([11], [11]), ([10, 12], [10, 12]), ([13], [13]), ([14], [14]), ([8, 15], [8, 15]), ([1, 3, 0, 1, 2, 3, 4, 5, 6, 7, 8, 9, 10, 11, 12, 13, 14, 15, 16], [1, 3]), ([17, 16, 15, 0, 1, 2, 3, 4, 5, 6, 7, 8, 9, 10, 11, 12, 13, 14, 15, 16], [16, 17])])
def impl_TableByPeeling.B11 : List Nat := [0, 1, 0, 4, 0, 0, 32, 112, 240, 0, 512, 0, 2048, 7680, 15872, 32256, 65520, 131071, 262143]
theorem impl_TableByPeeling.tab11 : rtab .any (opsOf Try.f18 11) = impl_TableByPeeling.T11 := by kernel_rfl
theorem impl_TableByPeeling.bits11 : waitsOk impl_TableByPeeling.T11.2 impl_TableByPeeling.B11 = true := by kernel_rfl
def impl_TableByPeeling.f (k : Nat) (a0 : Int) (l1 : List ByteArray) (l2 : List Int) (a3 : Int) (a4 : Int) : Option (Int × Int × Int × List Int × Bool) := (impl_valuesOk.f k a0 l1 l2 a3 a4).bind fun t352 => (if t352 = true then ((impl_hyper.f k a0 l1 a3).bind fun bt353 => ((impl_Hyper_order_in59_0.f k bt353.1 bt353.2).bind fun bt358 => (if bt358.2 = true then (if 0 ≤ bt353.1 then (if (bt353.1 : Int).toNat ≤ 35184372088832 then (if tabOk l2 bt353.2 bt358.1 (bt353.1 : Int).toNat = true then (some (a0, a3, a4, tabL l2 bt353.2 bt358.1 (List.replicate ((bt353.1 : Int) : Int).toNat 0), true)) else (none)) else (none)) else (none)) else (some (0, 0, 0, ([] : List Int), false))))) else (some (0, 0, 0, ([] : List Int), false)))
theorem impl_TableByPeeling.mono : ∀ a0 a1 a2 a3 a4 k, LeO (impl_TableByPeeling.f k a0 a1 a2 a3 a4) (impl_TableByPeeling.f (k + 1) a0 a1 a2 a3 a4) := by
 intro a0 a1 a2 a3 a4 k
 unfold impl_TableByPeeling.f
 repeat' first
   | (with_reducible exact impl_Hyper_order_in59_0.mono _ _ _)
   | (with_reducible exact impl_hyper.mono _ _ _ _)
   | (with_reducible exact impl_valuesOk.mono _ _ _ _ _ _)
   | (with_reducible exact LeO.refl _)
   | (with_reducible exact LeO.none _)
   | (with_reducible refine LeO.ite ?_ ?_)
   | (with_reducible refine LeO.bind ?_ (fun _ => ?_))
   | exact impl_Hyper_order_in59_0.mono _ _ _
   | exact impl_hyper.mono _ _ _ _
   | exact impl_valuesOk.mono _ _ _ _ _ _
   | exact LeO.none _
   | refine LeO.ite ?_ ?_
   | refine LeO.bind ?_ (fun _ => ?_)
set_option maxHeartbeats 8000000 in
set_option maxRecDepth 100000 in
theorem impl_TableByPeeling.calls (k : Nat) (a0 : Int) (A1 : Option Addr) (c1 : Nat) (l1 : List ByteArray) (A2 : Option Addr) (c2 : Nat) (l2 : List Int) (a3 : Int) (a4 : Int) (r1 : Int) (r2 : Int) (r3 : Int) (r4 : List Int) (r5 : Bool) (w : World) (hr1 : Kd.C Kd.string w A1 l1.length l1) (hc1 : l1.length ≤ c1) (hr2 : Kd.C (Kd.int .i64) w A2 l2.length l2) (hc2 : l2.length ≤ c2) (h : impl_TableByPeeling.f k a0 l1 l2 a3 a4 = some (r1, r2, r3, r4, r5)) :
  Calls Try.prog 18 #[.int .i64 a0, .slice A1 l1.length c1, .slice A2 l2.length c2, .int .i64 a3, .int .i64 a4] w fun e w' => ∃ v3_ : Value, e = .returned (.tuple #[.agg #[.int .i64 r1, .int .i64 r2, .int .i64 r3, v3_], .bool r5]) ∧ Kd.R (Kd.int .i64) 3 w' w.heap.size (fun _ => True) v3_ r4 ∧ Below w.heap.size w w' := by
 have hu24 := Try.underlying24
 have hu35 := Try.underlying35
 have hu59 := Try.underlying59
 have HR1 := Aside0.mk hr1
 have HC1 := Aside0.mk hc1
 clear hr1 hc1
 have HR2 := Aside0.mk hr2
 have HC2 := Aside0.mk hc2
 clear hr2 hc2
 have HB := Aside0.mk (Below.refl w.heap.size w)
 have H : ((impl_valuesOk.f k a0 l1 l2 a3 a4).bind fun t352 => (if t352 = true then ((impl_hyper.f k a0 l1 a3).bind fun bt353 => ((impl_Hyper_order_in59_0.f k bt353.1 bt353.2).bind fun bt358 => (if bt358.2 = true then (if 0 ≤ bt353.1 then (if (bt353.1 : Int).toNat ≤ 35184372088832 then (if tabOk l2 bt353.2 bt358.1 (bt353.1 : Int).toNat = true then (some (a0, a3, a4, tabL l2 bt353.2 bt358.1 (List.replicate ((bt353.1 : Int) : Int).toNat 0), true)) else (none)) else (none)) else (none)) else (some (0, 0, 0, ([] : List Int), false))))) else (some (0, 0, 0, ([] : List Int), false)))) = some (r1, r2, r3, r4, r5) := h
 clear h
 replace H := Option.bind_eq_some_iff.mp H
 obtain ⟨t352, A60, H⟩ := H
 replace H : (if t352 = true then ((impl_hyper.f k a0 l1 a3).bind fun bt353 => ((impl_Hyper_order_in59_0.f k bt353.1 bt353.2).bind fun bt358 => (if bt358.2 = true then (if 0 ≤ bt353.1 then (if (bt353.1 : Int).toNat ≤ 35184372088832 then (if tabOk l2 bt353.2 bt358.1 (bt353.1 : Int).toNat = true then (some (a0, a3, a4, tabL l2 bt353.2 bt358.1 (List.replicate ((bt353.1 : Int) : Int).toNat 0), true)) else (none)) else (none)) else (none)) else (some (0, 0, 0, ([] : List Int), false))))) else (some (0, 0, 0, ([] : List Int), false))) = some (r1, r2, r3, r4, r5) := H
 have A6 := Aside0.mk A60
 clear A60
 by_cases c7 : t352 = true
 ·
  subst c7
  have H1 : ((impl_hyper.f k a0 l1 a3).bind fun bt353 => ((impl_Hyper_order_in59_0.f k bt353.1 bt353.2).bind fun bt358 => (if bt358.2 = true then (if 0 ≤ bt353.1 then (if (bt353.1 : Int).toNat ≤ 35184372088832 then (if tabOk l2 bt353.2 bt358.1 (bt353.1 : Int).toNat = true then (some (a0, a3, a4, tabL l2 bt353.2 bt358.1 (List.replicate ((bt353.1 : Int) : Int).toNat 0), true)) else (none)) else (none)) else (none)) else (some (0, 0, 0, ([] : List Int), false))))) = some (r1, r2, r3, r4, r5) := by rw [if_pos rfl] at H; exact H
  clear H
  have H := H1
  clear H1
  replace H := Option.bind_eq_some_iff.mp H
  obtain ⟨⟨t353, t354⟩, A80, H⟩ := H
  replace H : ((impl_Hyper_order_in59_0.f k t353 t354).bind fun bt358 => (if bt358.2 = true then (if 0 ≤ t353 then (if (t353 : Int).toNat ≤ 35184372088832 then (if tabOk l2 t354 bt358.1 (t353 : Int).toNat = true then (some (a0, a3, a4, tabL l2 t354 bt358.1 (List.replicate ((t353 : Int) : Int).toNat 0), true)) else (none)) else (none)) else (none)) else (some (0, 0, 0, ([] : List Int), false)))) = some (r1, r2, r3, r4, r5) := H
  have A8 := Aside0.mk A80
  clear A80
  replace H := Option.bind_eq_some_iff.mp H
  obtain ⟨⟨t358, t361⟩, A90, H⟩ := H
  replace H : (if t361 = true then (if 0 ≤ t353 then (if (t353 : Int).toNat ≤ 35184372088832 then (if tabOk l2 t354 t358 (t353 : Int).toNat = true then (some (a0, a3, a4, tabL l2 t354 t358 (List.replicate ((t353 : Int) : Int).toNat 0), true)) else (none)) else (none)) else (none)) else (some (0, 0, 0, ([] : List Int), false))) = some (r1, r2, r3, r4, r5) := H
  have A9 := Aside0.mk A90
  clear A90
  by_cases c10 : t361 = true
  ·
   subst c10
   have H1 : (if 0 ≤ t353 then (if (t353 : Int).toNat ≤ 35184372088832 then (if tabOk l2 t354 t358 (t353 : Int).toNat = true then (some (a0, a3, a4, tabL l2 t354 t358 (List.replicate ((t353 : Int) : Int).toNat 0), true)) else (none)) else (none)) else (none)) = some (r1, r2, r3, r4, r5) := by rw [if_pos rfl] at H; exact H
   clear H
   have H := H1
   clear H1
   by_cases c11 : 0 ≤ t353
   ·
    rw [if_pos c11] at H
    have c11b0 := eq_true c11
    have c11b1 : decide (0 ≤ t353) = true := decide_eq_true c11
    clear c11
    by_cases c12 : (t353 : Int).toNat ≤ 35184372088832
    ·
     rw [if_pos c12] at H
     have c12b0 := eq_true c12
     have c12b1 : decide ((t353 : Int).toNat ≤ 35184372088832) = true := decide_eq_true c12
     clear c12
     have HOK : tabOk l2 t354 t358 t353.toNat = true := by
      by_cases c13 : tabOk l2 t354 t358 t353.toNat = true
      · exact c13
      · rw [if_neg c13] at H; cases H
     rw [if_pos HOK] at H
     have HOK' := Aside0.mk HOK
     clear HOK
     obtain ⟨y362, hy362⟩ : ∃ y_ : List Int, y_ = (List.replicate (t353 : Int).toNat 0) := ⟨_, rfl⟩
     replace H : (some (a0, a3, a4, tabL l2 t354 t358 y362, true)) = some (r1, r2, r3, r4, r5) := by rw [hy362]; exact H
     have Ny362 := Aside0.mk hy362
     clear hy362
     simp only [Option.some.injEq, Prod.mk.injEq] at H
     obtain ⟨rfl, rfl, rfl, rfl, rfl⟩ := H
     refine enterM (n := 9) Try.func18 rfl ?_
     simp only [Try.ntmps18, List.size_toArray, List.length_cons, List.length_nil, Nat.reduceAdd, Nat.reduceSub, Array.replicate_succ, Array.replicate_zero, List.push_toArray, List.append_toArray, List.nil_append, List.cons_append]
     go_wp2_with (first | ((with_reducible refine gate_dst (N := 7) rfl ?_); refine box_event ?hg (N := 7) ?hd (cs := #[.slice A2 l2.length c2]) (t := 24) ?hr ?_; (case hd => rfl); (case hg => rfl); (case hr => first | (go_simp; done) | (go_simp; rfl)); intro gb350 hg w13 hbox hb; have n0_ := Aside0.mk (below_step (uB HB) hb); have n1_ := Aside0.mk (hbox); have n2_ := Aside0.mk ((by rw [hg]; exact (below_size (uB HB)) : w.heap.size ≤ gb350)); have n3_ := Aside0.mk ((by rw [hg]; exact (below_size (uB HB)) : w.heap.size ≤ gb350)); clear HB; have HB := n0_; have BK350 := n1_; have GW350 := n2_; have GE350 := n3_; clear n0_ n1_ n2_ n3_; clear hb hbox hg) | ((with_reducible refine gate_dst (N := 10) rfl ?_); refine box_event ?hg (N := 10) ?hd (cs := #[.int .i64 0, .int .i64 0, .int .i64 0, .slice none 0 0]) (t := 35) ?hr ?_; (case hd => rfl); (case hg => rfl); (case hr => first | (go_simp; done) | (go_simp; rfl)); intro gb351 hg w14 hbox hb; have n0_ := Aside0.mk (blk_below (g := gb350) (o := .cells #[.slice A2 l2.length c2] 24 (0, 0)) (uK BK350) hb); have n1_ := Aside0.mk (below_step (by repeat (first | (with_reducible first | exact HB.out | apply below_alloc | apply pw_below_drewN | apply below_drew1 | refine below_set ?_ GE350.out) | exact HB.out)) hb); have n2_ := Aside0.mk (hbox); have n3_ := Aside0.mk ((by rw [hg]; exact (below_size (by repeat (first | (with_reducible first | exact HB.out | apply below_alloc | apply pw_below_drewN | apply below_drew1 | refine below_set ?_ GE350.out) | exact HB.out))) : w.heap.size ≤ gb351)); have n4_ := Aside0.mk ((by rw [hg]; exact (below_size (by repeat (first | (with_reducible first | exact HB.out | apply below_alloc | apply pw_below_drewN | apply below_drew1 | refine below_set ?_ GE350.out) | exact HB.out))) : w.heap.size ≤ gb351)); have n5_ := Aside0.mk ((by rw [hg]; exact Nat.ne_of_lt (blk_lt (g := gb350) (o := .cells #[.slice A2 l2.length c2] 24 (0, 0)) (uK BK350)) : gb350 ≠ gb351)); have n6_ := Aside0.mk ((by rw [hg]; exact Nat.ne_of_gt (blk_lt (g := gb350) (o := .cells #[.slice A2 l2.length c2] 24 (0, 0)) (uK BK350)) : gb351 ≠ gb350)); clear BK350 HB; have BK350 := n0_; have HB := n1_; have BK351 := n2_; have GW351 := n3_; have GE351 := n4_; have NB350_351 := n5_; have NB351_350 := n6_; clear n0_ n1_ n2_ n3_ n4_ n5_ n6_ hb hbox hg; have hnb15 := NB350_351.out; have hnc15 := NB351_350.out; have hcz16_0 : w14.cell? ⟨gb350, 0, none⟩ = some (.slice A2 l2.length c2) := (blk_cell BK350.out 0).trans rfl; have hfz16_0 := blk_frozen BK350.out 0) | ((with_reducible refine gate_callee (f := 47) rfl ?_); refine goesL_ (some 23) rfl rfl Try.func47 (by kernel_rfl) rfl #[.int .i64 a0, .slice A1 l1.length c1, .slice A2 l2.length c2, .int .i64 a3, .int .i64 a4] rfl (by (try simp only [List.map_toArray, List.map_cons, List.map_nil]); first | done | rfl | (simp only [List.length_drop, List.length_take]; rfl)) ?_; (with_reducible refine (impl_valuesOk.calls k a0 _ _ l1 _ _ l2 a3 a4 true _ ?side1 ?side2 ?side3 ?side4 A6.out).mono ?_); (case side1 => exact uC HR1 HB); (case side2 => exact HC1.out); (case side3 => exact uC HR2 HB); (case side4 => exact HC2.out); rintro e w17 ⟨rfl, hb⟩; refine ⟨_, rfl, ?_⟩; have n0_ := Aside0.mk (blk_below (g := gb350) (o := .cells #[.slice A2 l2.length c2] 24 (0, 0)) (uK BK350) hb); have n1_ := Aside0.mk (blk_below (g := gb351) (o := .cells #[.int .i64 0, .int .i64 0, .int .i64 0, .slice none 0 0] 35 (0, 0)) (uK BK351) hb); have n2_ := Aside0.mk (below_step (by repeat (first | (with_reducible first | exact HB.out | apply below_alloc | apply pw_below_drewN | apply below_drew1 | refine below_set ?_ GE350.out | refine below_set ?_ GE351.out) | exact HB.out)) hb); clear BK350 BK351 HB; have BK350 := n0_; have BK351 := n1_; have HB := n2_; clear n0_ n1_ n2_; (try clear hb); (try clear hb2); (try clear hk); (try clear hi)) | ((with_reducible refine gate_callee (f := 48) rfl ?_); refine goesL_ (some 29) rfl rfl Try.func48 (by kernel_rfl) rfl #[.int .i64 a0, .slice A1 l1.length c1, .int .i64 a3] rfl (by (try simp only [List.map_toArray, List.map_cons, List.map_nil]); first | done | rfl | (simp only [List.length_drop, List.length_take]; rfl)) ?_; (with_reducible refine (impl_hyper.calls k a0 _ _ l1 a3 t353 t354 _ ?side1 ?side2 A8.out).mono ?_); (case side1 => exact uC HR1 HB); (case side2 => exact HC1.out); rintro e w18 ⟨v355, rfl, ho0, hb⟩; refine ⟨_, rfl, ?_⟩; have n0_ := Aside0.mk (Kd.S_lower (Kd.S_newB ho0 (g := gb350) (o := .cells #[.slice A2 l2.length c2] 24 (0, 0)) (uK BK350)) (below_size (by repeat (first | (with_reducible first | exact HB.out | apply below_alloc | apply pw_below_drewN | apply below_drew1 | refine below_set ?_ GE350.out | refine below_set ?_ GE351.out) | exact HB.out)))); have n1_ := Aside0.mk (blk_below (g := gb350) (o := .cells #[.slice A2 l2.length c2] 24 (0, 0)) (uK BK350) hb); have n2_ := Aside0.mk (blk_below (g := gb351) (o := .cells #[.int .i64 0, .int .i64 0, .int .i64 0, .slice none 0 0] 35 (0, 0)) (uK BK351) hb); have n3_ := Aside0.mk (below_step (by repeat (first | (with_reducible first | exact HB.out | apply below_alloc | apply pw_below_drewN | apply below_drew1 | refine below_set ?_ GE350.out | refine below_set ?_ GE351.out) | exact HB.out)) hb); clear BK350 BK351 HB; have HO356 := n0_; have BK350 := n1_; have BK351 := n2_; have HB := n3_; clear n0_ n1_ n2_ n3_; (try clear hb); (try clear hb2); (try clear hk); (try clear hi); (try clear ho0)) | ((with_reducible refine gate_dst (N := 12) rfl ?_); refine box_event ?hg (N := 12) ?hd (cs := #[.int .i64 0, .slice none 0 0]) (t := 59) ?hr ?_; (case hd => rfl); (case hg => rfl); (case hr => first | (go_simp; done) | (go_simp; rfl)); intro gb357 hg w19 hbox hb; have n0_ := Aside0.mk (Kd.S_below (by (with_reducible repeat (first | apply Kd.S_alloc | apply Kd.S_drewN | apply Kd.S_drew)); exact HO356.out) hb); have n1_ := Aside0.mk (blk_below (g := gb350) (o := .cells #[.slice A2 l2.length c2] 24 (0, 0)) (uK BK350) hb); have n2_ := Aside0.mk (blk_below (g := gb351) (o := .cells #[.int .i64 0, .int .i64 0, .int .i64 0, .slice none 0 0] 35 (0, 0)) (uK BK351) hb); have n3_ := Aside0.mk (below_step (by repeat (first | (with_reducible first | exact HB.out | apply below_alloc | apply pw_below_drewN | apply below_drew1 | refine below_set ?_ GE350.out | refine below_set ?_ GE351.out) | exact HB.out)) hb); have n4_ := Aside0.mk (hbox); have n5_ := Aside0.mk ((by rw [hg]; exact (below_size (by repeat (first | (with_reducible first | exact HB.out | apply below_alloc | apply pw_below_drewN | apply below_drew1 | refine below_set ?_ GE350.out | refine below_set ?_ GE351.out) | exact HB.out))) : w.heap.size ≤ gb357)); have n6_ := Aside0.mk ((by rw [hg]; exact (below_size (by repeat (first | (with_reducible first | exact HB.out | apply below_alloc | apply pw_below_drewN | apply below_drew1 | refine below_set ?_ GE350.out | refine below_set ?_ GE351.out) | exact HB.out))) : w.heap.size ≤ gb357)); have n7_ := Aside0.mk ((by rw [hg]; exact Nat.ne_of_lt (blk_lt (g := gb350) (o := .cells #[.slice A2 l2.length c2] 24 (0, 0)) (uK BK350)) : gb350 ≠ gb357)); have n8_ := Aside0.mk ((by rw [hg]; exact Nat.ne_of_gt (blk_lt (g := gb350) (o := .cells #[.slice A2 l2.length c2] 24 (0, 0)) (uK BK350)) : gb357 ≠ gb350)); have n9_ := Aside0.mk ((by rw [hg]; exact Nat.ne_of_lt (blk_lt (g := gb351) (o := .cells #[.int .i64 0, .int .i64 0, .int .i64 0, .slice none 0 0] 35 (0, 0)) (uK BK351)) : gb351 ≠ gb357)); have n10_ := Aside0.mk ((by rw [hg]; exact Nat.ne_of_gt (blk_lt (g := gb351) (o := .cells #[.int .i64 0, .int .i64 0, .int .i64 0, .slice none 0 0] 35 (0, 0)) (uK BK351)) : gb357 ≠ gb351)); clear HO356 BK350 BK351 HB; have HO356 := n0_; have BK350 := n1_; have BK351 := n2_; have HB := n3_; have BK357 := n4_; have GW357 := n5_; have GE357 := n6_; have NB350_357 := n7_; have NB357_350 := n8_; have NB351_357 := n9_; have NB357_351 := n10_; clear n0_ n1_ n2_ n3_ n4_ n5_ n6_ n7_ n8_ n9_ n10_ hb hbox hg; have hnb20 := NB357_350.out; have hnc20 := NB350_357.out; have hnb21 := NB357_351.out; have hnc21 := NB351_357.out; have hcz22_0 : w19.cell? ⟨gb357, 0, none⟩ = some (.int .i64 0) := (blk_cell BK357.out 0).trans rfl; have hcz22_1 : w19.cell? ⟨gb357, 1, none⟩ = some (.slice none 0 0) := (blk_cell BK357.out 1).trans rfl; have hfz22_0 := blk_frozen BK357.out 0; have hfz22_1 := blk_frozen BK357.out 1; obtain ⟨Ao23, co23, eo23⟩ := Kd.S_slice HO356.out; subst eo23) | ((with_reducible refine gate_callee (f := 40) rfl ?_); refine goesL_ (some 31) rfl rfl Try.func40 (by kernel_rfl) rfl #[.pointer (some ⟨gb357, 0, none⟩)] rfl (by (try simp only [List.map_toArray, List.map_cons, List.map_nil]); first | done | rfl | (simp only [List.length_drop, List.length_take]; rfl)) ?_; (with_reducible refine (impl_Hyper_order_in59_0.calls k gb357 t353 Ao23 co23 t354 t358 true _ ?side1 ?side2 ?side3 A9.out).mono ?_); (case side1 => exact (by refine uW ?_; refine blk_put (cs := #[.int .i64 t353, .slice none 0 0]) ?_ 1 _ rfl; refine uW ?_; refine blk_put (cs := #[.int .i64 0, .slice none 0 0]) ?_ 0 _ rfl; refine uW ?_; exact BK357.out)); (case side2 => refine (Kd.S_reads' (e := 24) (base := w.heap.size) (ok := fun k_ => (True ∧ k_ ≠ gb350)) (n := t354.length) (c := co23) ?_).2.2; exact (by (with_reducible repeat (first | apply Kd.S_alloc | apply Kd.S_drewN | apply Kd.S_drew)); exact (Kd.S_mono (Kd.S_far (p := ⟨gb357, 1, none⟩) (Kd.S_far (p := ⟨gb357, 0, none⟩) (Kd.S_types HO356.out BK357.out (by decide)) (fun _ hk => hk.2) (.int .i64 t353)) (fun _ hk => hk.2) (.slice Ao23 t354.length co23)) (fun _ h_ => h_.1)))); (case side3 => exact (Kd.S_reads' HO356.out).2.1); rintro e w24 ⟨v359, rfl, ho0, hb⟩; refine ⟨_, rfl, ?_⟩; have n0_ := Aside0.mk (Kd.S_below (by (with_reducible repeat (first | apply Kd.S_alloc | apply Kd.S_drewN | apply Kd.S_drew)); exact (Kd.S_mono (Kd.S_far (p := ⟨gb357, 1, none⟩) (Kd.S_far (p := ⟨gb357, 0, none⟩) (Kd.S_types HO356.out BK357.out (by decide)) (fun _ hk => hk.2) (.int .i64 t353)) (fun _ hk => hk.2) (.slice Ao23 t354.length co23)) (fun _ h_ => h_.1))) hb); have n1_ := Aside0.mk (Kd.R_lower ho0 (below_size (by repeat (first | (with_reducible first | exact HB.out | apply below_alloc | apply pw_below_drewN | apply below_drew1 | refine below_set ?_ GE350.out | refine below_set ?_ GE351.out | refine below_set ?_ GE357.out) | exact HB.out)))); have n2_ := Aside0.mk (blk_below (g := gb350) (o := .cells #[.slice A2 l2.length c2] 24 (0, 0)) (by refine uW ?_; refine blk_far ?_ NB350_357.out _; refine uW ?_; refine blk_far ?_ NB350_357.out _; refine uW ?_; exact BK350.out) hb); have n3_ := Aside0.mk (blk_below (g := gb351) (o := .cells #[.int .i64 0, .int .i64 0, .int .i64 0, .slice none 0 0] 35 (0, 0)) (by refine uW ?_; refine blk_far ?_ NB351_357.out _; refine uW ?_; refine blk_far ?_ NB351_357.out _; refine uW ?_; exact BK351.out) hb); have n4_ := Aside0.mk (blk_below (g := gb357) (o := .cells #[.int .i64 t353, .slice Ao23 t354.length co23] 59 (0, 0)) (by refine uW ?_; refine blk_put (cs := #[.int .i64 t353, .slice none 0 0]) ?_ 1 _ rfl; refine uW ?_; refine blk_put (cs := #[.int .i64 0, .slice none 0 0]) ?_ 0 _ rfl; refine uW ?_; exact BK357.out) hb); have n5_ := Aside0.mk (below_step (by repeat (first | (with_reducible first | exact HB.out | apply below_alloc | apply pw_below_drewN | apply below_drew1 | refine below_set ?_ GE350.out | refine below_set ?_ GE351.out | refine below_set ?_ GE357.out) | exact HB.out)) hb); clear HO356 BK350 BK351 BK357 HB; have HO356 := n0_; have HO360 := n1_; have BK350 := n2_; have BK351 := n3_; have BK357 := n4_; have HB := n5_; clear n0_ n1_ n2_ n3_ n4_ n5_; (try clear hb); (try clear hb2); (try clear hk); (try clear hi); (try clear ho0); have hcz25_0 : w24.cell? ⟨gb357, 0, none⟩ = some (.int .i64 t353) := (blk_cell BK357.out 0).trans rfl; have hcz25_1 : w24.cell? ⟨gb357, 1, none⟩ = some (.slice Ao23 t354.length co23) := (blk_cell BK357.out 1).trans rfl; have hfz25_0 := blk_frozen BK357.out 0; have hfz25_1 := blk_frozen BK357.out 1; obtain ⟨Aoz, coz, eoz⟩ := Kd.R_slice HO360.out; subst eoz) | ((with_reducible refine gate_dst (N := 42) rfl ?_); refine Kd.R_make (Kd.int .i64) _ 3 rfl (N := 42) rfl 24 _ _ rfl t353 rfl rfl Try.underlying24 (.int .i64 0) 8 info3 rfl (by decide) (by omega) 0 (ok := fun _ => True) (okp := fun _ => True) rfl (fun _ hk => hk) trivial (of_decide_eq_true (by first | (with_reducible assumption) | assumption)) (Nat.le_trans (Nat.mul_le_mul_right _ (of_decide_eq_true (by first | (with_reducible assumption) | assumption) : t353.toNat ≤ 35184372088832)) (by omega)) (Below.refl _ _) (Nat.le_refl _) ?_; intro v363 w26 ho27 hb hg_ hnew_; clear hg_ hnew_; (first | rw [← Ny362.out] at ho27 | (simp only [Int.reduceToNat] at ho27; rw [← Ny362.out] at ho27)); have n0_ := Aside0.mk (Kd.S_elder' (by (with_reducible repeat (first | apply Kd.S_alloc | apply Kd.S_drewN | apply Kd.S_drew)); exact HO356.out) (Kd.R_base ho27) hb); have n1_ := Aside0.mk (Kd.R_below (uR HO360) hb); have n2_ := Aside0.mk (Kd.R_lower ho27 (below_size (by repeat (first | (with_reducible first | exact HB.out | apply below_alloc | apply pw_below_drewN | apply below_drew1 | refine below_set ?_ GE350.out | refine below_set ?_ GE351.out | refine below_set ?_ GE357.out) | exact HB.out)))); have n3_ := Aside0.mk (blk_below (g := gb350) (o := .cells #[.slice A2 l2.length c2] 24 (0, 0)) (uK BK350) hb); have n4_ := Aside0.mk (blk_below (g := gb351) (o := .cells #[.int .i64 0, .int .i64 0, .int .i64 0, .slice none 0 0] 35 (0, 0)) (uK BK351) hb); have n5_ := Aside0.mk (blk_below (g := gb357) (o := .cells #[.int .i64 t353, .slice Ao23 t354.length co23] 59 (0, 0)) (uK BK357) hb); have n6_ := Aside0.mk (below_step (by repeat (first | (with_reducible first | exact HB.out | apply below_alloc | apply pw_below_drewN | apply below_drew1 | refine below_set ?_ GE350.out | refine below_set ?_ GE351.out | refine below_set ?_ GE357.out) | exact HB.out)) hb); clear HO356 HO360 BK350 BK351 BK357 HB; have HO356 := n0_; have HO360 := n1_; have HO364 := n2_; have BK350 := n3_; have BK351 := n4_; have BK357 := n5_; have HB := n6_; clear n0_ n1_ n2_ n3_ n4_ n5_ n6_ hb ho27; obtain ⟨Ao28, co28, eo28⟩ := Kd.R_slice HO364.out; subst eo28) | ((with_reducible refine gate_dst (N := 15) rfl ?_); refine box_event ?hg (N := 15) ?hd (cs := #[.int .i64 0, .int .i64 0, .int .i64 0, .slice none 0 0]) (t := 35) ?hr ?_; (case hd => rfl); (case hg => rfl); (case hr => first | (go_simp; done) | (go_simp; rfl)); intro gb365 hg w29 hbox hb; have n0_ := Aside0.mk (Kd.S_below (by (with_reducible repeat (first | apply Kd.S_alloc | apply Kd.S_drewN | apply Kd.S_drew)); exact HO356.out) hb); have n1_ := Aside0.mk (Kd.R_below (uR HO360) hb); have n2_ := Aside0.mk (Kd.R_below (uR HO364) hb); have n3_ := Aside0.mk (blk_below (g := gb350) (o := .cells #[.slice A2 l2.length c2] 24 (0, 0)) (uK BK350) hb); have n4_ := Aside0.mk (blk_below (g := gb351) (o := .cells #[.int .i64 0, .int .i64 0, .int .i64 0, .slice none 0 0] 35 (0, 0)) (uK BK351) hb); have n5_ := Aside0.mk (blk_below (g := gb357) (o := .cells #[.int .i64 t353, .slice Ao23 t354.length co23] 59 (0, 0)) (uK BK357) hb); have n6_ := Aside0.mk (below_step (by repeat (first | (with_reducible first | exact HB.out | apply below_alloc | apply pw_below_drewN | apply below_drew1 | refine below_set ?_ GE350.out | refine below_set ?_ GE351.out | refine below_set ?_ GE357.out) | exact HB.out)) hb); have n7_ := Aside0.mk (hbox); have n8_ := Aside0.mk ((by rw [hg]; exact (below_size (by repeat (first | (with_reducible first | exact HB.out | apply below_alloc | apply pw_below_drewN | apply below_drew1 | refine below_set ?_ GE350.out | refine below_set ?_ GE351.out | refine below_set ?_ GE357.out) | exact HB.out))) : w.heap.size ≤ gb365)); have n9_ := Aside0.mk ((by rw [hg]; exact (below_size (by repeat (first | (with_reducible first | exact HB.out | apply below_alloc | apply pw_below_drewN | apply below_drew1 | refine below_set ?_ GE350.out | refine below_set ?_ GE351.out | refine below_set ?_ GE357.out) | exact HB.out))) : w.heap.size ≤ gb365)); have n10_ := Aside0.mk ((by rw [hg]; exact Nat.ne_of_lt (blk_lt (g := gb350) (o := .cells #[.slice A2 l2.length c2] 24 (0, 0)) (uK BK350)) : gb350 ≠ gb365)); have n11_ := Aside0.mk ((by rw [hg]; exact Nat.ne_of_gt (blk_lt (g := gb350) (o := .cells #[.slice A2 l2.length c2] 24 (0, 0)) (uK BK350)) : gb365 ≠ gb350)); have n12_ := Aside0.mk ((by rw [hg]; exact Nat.ne_of_lt (blk_lt (g := gb351) (o := .cells #[.int .i64 0, .int .i64 0, .int .i64 0, .slice none 0 0] 35 (0, 0)) (uK BK351)) : gb351 ≠ gb365)); have n13_ := Aside0.mk ((by rw [hg]; exact Nat.ne_of_gt (blk_lt (g := gb351) (o := .cells #[.int .i64 0, .int .i64 0, .int .i64 0, .slice none 0 0] 35 (0, 0)) (uK BK351)) : gb365 ≠ gb351)); have n14_ := Aside0.mk ((by rw [hg]; exact Nat.ne_of_lt (blk_lt (g := gb357) (o := .cells #[.int .i64 t353, .slice Ao23 t354.length co23] 59 (0, 0)) (uK BK357)) : gb357 ≠ gb365)); have n15_ := Aside0.mk ((by rw [hg]; exact Nat.ne_of_gt (blk_lt (g := gb357) (o := .cells #[.int .i64 t353, .slice Ao23 t354.length co23] 59 (0, 0)) (uK BK357)) : gb365 ≠ gb357)); clear HO356 HO360 HO364 BK350 BK351 BK357 HB; have HO356 := n0_; have HO360 := n1_; have HO364 := n2_; have BK350 := n3_; have BK351 := n4_; have BK357 := n5_; have HB := n6_; have BK365 := n7_; have GW365 := n8_; have GE365 := n9_; have NB350_365 := n10_; have NB365_350 := n11_; have NB351_365 := n12_; have NB365_351 := n13_; have NB357_365 := n14_; have NB365_357 := n15_; clear n0_ n1_ n2_ n3_ n4_ n5_ n6_ n7_ n8_ n9_ n10_ n11_ n12_ n13_ n14_ n15_ hb hbox hg; have hnb30 := NB365_350.out; have hnc30 := NB350_365.out; have hnb31 := NB365_351.out; have hnc31 := NB351_365.out; have hnb32 := NB365_357.out; have hnc32 := NB357_365.out; have hcz33_0 : w29.cell? ⟨gb365, 0, none⟩ = some (.int .i64 0) := (blk_cell BK365.out 0).trans rfl; have hcz33_1 : w29.cell? ⟨gb365, 1, none⟩ = some (.int .i64 0) := (blk_cell BK365.out 1).trans rfl; have hcz33_2 : w29.cell? ⟨gb365, 2, none⟩ = some (.int .i64 0) := (blk_cell BK365.out 2).trans rfl; have hcz33_3 : w29.cell? ⟨gb365, 3, none⟩ = some (.slice none 0 0) := (blk_cell BK365.out 3).trans rfl; have hfz33_0 := blk_frozen BK365.out 0; have hfz33_1 := blk_frozen BK365.out 1; have hfz33_2 := blk_frozen BK365.out 2; have hfz33_3 := blk_frozen BK365.out 3; have hcz34_0 : w29.cell? ⟨gb351, 0, none⟩ = some (.int .i64 0) := (blk_cell BK351.out 0).trans rfl; have hcz34_1 : w29.cell? ⟨gb351, 1, none⟩ = some (.int .i64 0) := (blk_cell BK351.out 1).trans rfl; have hcz34_2 : w29.cell? ⟨gb351, 2, none⟩ = some (.int .i64 0) := (blk_cell BK351.out 2).trans rfl; have hcz34_3 : w29.cell? ⟨gb351, 3, none⟩ = some (.slice none 0 0) := (blk_cell BK351.out 3).trans rfl; have hfz34_0 := blk_frozen BK351.out 0; have hfz34_1 := blk_frozen BK351.out 1; have hfz34_2 := blk_frozen BK351.out 2; have hfz34_3 := blk_frozen BK351.out 3) | (go_at_call 41; (with_reducible refine (back_calls _ _ _ _).mono ?_); rintro e wB ⟨gS, rfl, hbx, hb⟩; have n0_ := Aside0.mk (Kd.S_below (Kd.S_kept (S := fun k_ => k_ = gb365) (Kd.S_types HO356.out BK365.out (by decide)) (by repeat (first | exact Kept.refl _ _ | refine Kept.setCell (S := fun k_ => k_ = gb365) ?_ (.inl rfl) _)) (fun k_ h_ e_ => h_.2 e_)) hb); have n1_ := Aside0.mk (Kd.R_below (Kd.R_kept (S := fun k_ => k_ = gb365) (Kd.R_types HO360.out BK365.out (by decide)) (by repeat (first | exact Kept.refl _ _ | refine Kept.setCell (S := fun k_ => k_ = gb365) ?_ (.inl rfl) _)) (fun k_ h_ e_ => h_.2 e_)) hb); have n2_ := Aside0.mk (Kd.R_below (Kd.R_kept (S := fun k_ => k_ = gb365) (Kd.R_types HO364.out BK365.out (by decide)) (by repeat (first | exact Kept.refl _ _ | refine Kept.setCell (S := fun k_ => k_ = gb365) ?_ (.inl rfl) _)) (fun k_ h_ e_ => h_.2 e_)) hb); have n3_ := Aside0.mk (blk_below (g := gb350) (o := .cells #[.slice A2 l2.length c2] 24 (0, 0)) (blk_kept (S := fun k_ => k_ = gb365) BK350.out (by repeat (first | exact Kept.refl _ _ | refine Kept.setCell (S := fun k_ => k_ = gb365) ?_ (.inl rfl) _)) NB350_365.out) hb); have n4_ := Aside0.mk (blk_below (g := gb351) (o := .cells #[.int .i64 0, .int .i64 0, .int .i64 0, .slice none 0 0] 35 (0, 0)) (blk_kept (S := fun k_ => k_ = gb365) BK351.out (by repeat (first | exact Kept.refl _ _ | refine Kept.setCell (S := fun k_ => k_ = gb365) ?_ (.inl rfl) _)) NB351_365.out) hb); have n5_ := Aside0.mk (blk_below (g := gb357) (o := .cells #[.int .i64 t353, .slice Ao23 t354.length co23] 59 (0, 0)) (blk_kept (S := fun k_ => k_ = gb365) BK357.out (by repeat (first | exact Kept.refl _ _ | refine Kept.setCell (S := fun k_ => k_ = gb365) ?_ (.inl rfl) _)) NB357_365.out) hb); have n6_ := Aside0.mk (blk_below (g := gb365) (o := .cells #[.int .i64 a0, .int .i64 a3, .int .i64 a4, .slice Ao28 y362.length co28] 35 (0, 0)) (by refine uW ?_; refine blk_put (cs := #[.int .i64 a0, .int .i64 a3, .int .i64 a4, .slice none 0 0]) ?_ 3 _ rfl; refine uW ?_; refine blk_put (cs := #[.int .i64 a0, .int .i64 a3, .int .i64 0, .slice none 0 0]) ?_ 2 _ rfl; refine uW ?_; refine blk_put (cs := #[.int .i64 a0, .int .i64 0, .int .i64 0, .slice none 0 0]) ?_ 1 _ rfl; refine uW ?_; refine blk_put (cs := #[.int .i64 0, .int .i64 0, .int .i64 0, .slice none 0 0]) ?_ 0 _ rfl; refine uW ?_; exact BK365.out) hb); have n7_ := Aside0.mk (below_step (by repeat (first | (with_reducible first | exact HB.out | apply below_alloc | apply pw_below_drewN | apply below_drew1 | refine below_set ?_ GE350.out | refine below_set ?_ GE351.out | refine below_set ?_ GE357.out | refine below_set ?_ GE365.out) | exact HB.out)) hb); have n8_ := Aside0.mk hbx; clear HO356 HO360 HO364 BK350 BK351 BK357 BK365 HB; have HO356 := n0_; have HO360 := n1_; have HO364 := n2_; have BK350 := n3_; have BK351 := n4_; have BK357 := n5_; have BK365 := n6_; have HB := n7_; have BKS := n8_; clear n0_ n1_ n2_ n3_ n4_ n5_ n6_ n7_ n8_; clear hb hbx))
     have HZ : t358.length ≤ 1000 := by have h_ := HOK'.out; unfold tabOk at h_; rw [Bool.and_eq_true, decide_eq_true_eq] at h_; exact h_.2
     have HALL : ∀ s ∈ t358, tabOk1 l2 t354 t353.toNat s = true := by have h_ := HOK'.out; unfold tabOk at h_; rw [Bool.and_eq_true, List.all_eq_true] at h_; exact h_.1
     have HN := Aside0.mk (show y362.length = t353.toNat by rw [Ny362.out, List.length_replicate])
     obtain ⟨gc, G1, G2, G3⟩ : ∃ gc, (∀ k, (.slice Ao28 y362.length co28 : Value).ownBlock = some k → k = gc) ∧ (∀ k, k < wB.heap.size → some k ≠ (.slice Ao28 y362.length co28 : Value).ownBlock → k ≠ gc) ∧ w.heap.size ≤ gc := by
      cases ho : (.slice Ao28 y362.length co28 : Value).ownBlock with
      | none => exact ⟨wB.heap.size, fun k e => (by cases e), fun k h1 _ => (by omega), HB.out.size⟩
      | some g => exact ⟨g, fun k e => (by cases e; rfl), fun k _ h2 e => h2 (by rw [e]), Kd.R_base HO364.out g ho⟩
     have NE : ∀ (g : Nat) (cs : Array Value) (t : Nat), wB.heap[g]? = some (.cells cs t (0, 0)) → 3 ≠ t → g ≠ gc := fun g cs t h1 h2 => G2 g (blk_lt h1) (Kd.R_ne HO364.out h1 h2)
     have HE : Kd.S (Kd.slice 3 (Kd.int .i64)) 24 wB w.heap.size (fun k => k ≠ gc ∧ k < wB.heap.size) (.slice Ao23 t354.length co23) t354 := Kd.S_mono (Kd.S_bound HO356.out) (fun k h => ⟨G2 k h.2.2.1 h.1.1.2, h.2.2.1⟩)
     have HSZ : Kd.R k65 65 wB w.heap.size (fun k => k ≠ gc ∧ k < wB.heap.size) (.slice Aoz t358.length coz) t358 := Kd.R_mono (Kd.R_bound (Kd.R_apart' HO360.out (Kd.R_typed HO364.out) (by decide))) (fun k h => ⟨G2 k h.2.2.1 h.1.2, h.2.2.1⟩)
     have HC : ∀ W, BackK gc wB.heap.size wB W → Kd.C k65 W Aoz t358.length t358 := fun W h => Kd.C_kept_own HSZ (fun k h1 h2 => h2.elim h1.1 (fun h3 => by have := h1.2; omega)) W h
     have HE2 : ∀ W, BackK gc wB.heap.size wB W → Kd.S (Kd.slice 3 (Kd.int .i64)) 24 W w.heap.size (fun k => k ≠ gc ∧ k < wB.heap.size) (.slice Ao23 t354.length co23) t354 := fun W h => Kd.S_kept HE h (fun k h1 h2 => h2.elim h1.1 (fun h3 => by have := h1.2; omega))
     have HV : ∀ W, BackK gc wB.heap.size wB W → Kd.C (Kd.int .i64) W A2 l2.length l2 := Kd.C_kept_came (Kd.heap_int _) HR2.out HB.out (fun k h => h.elim (fun e => e ▸ G3) (fun e => Nat.le_trans HB.out.size e))
     have HKB : ∀ (g : Nat) (cs : Array Value) (t : Nat) (W : World), BackK gc wB.heap.size wB W → wB.heap[g]? = some (.cells cs t (0, 0)) → 3 ≠ t → W.heap[g]? = some (.cells cs t (0, 0)) := fun g cs t W h h1 h2 => blk_kept h1 h (fun e => e.elim (NE g cs t h1 h2) (fun e => by have := blk_lt h1; omega))
     have HR0 : Kd.R (Kd.int .i64) 3 wB w.heap.size (fun k => some k = (.slice Ao28 y362.length co28 : Value).ownBlock) (.slice Ao28 y362.length co28 : Value) y362 := Kd.R_tight rfl HO364.out
     have HKS := HKB _ _ _ wB (Kept.refl _ _) BKS.out (by decide)
     refine (wpIn_wide (n := 8)).1 ?_
     refine wpIn_rangeFunc_ownH rfl (by decide) (gf := 75) (lb := #[.pointer (some ⟨gS, 0, none⟩)]) rfl trivial (enters_of Try.func75 (by kernel_rfl) rfl) (back_stops 7 (by decide) gc gS Aoz coz t358 HZ wB BKS.out (NE _ _ _ BKS.out (by decide)) HC) (fun h k => BackK.trans h k) (fun W l o o' hl h hc hw => BackK.putObj W l o o' hl h hc hw) (Below.refl _ _) (fun _ => rfl)
       (fun pre W => BackK gc wB.heap.size wB W ∧ Kd.R (Kd.int .i64) 3 W w.heap.size (fun k => some k = (.slice Ao28 y362.length co28 : Value).ownBlock) (.slice Ao28 y362.length co28 : Value) ((pre.map (el65 t358)).foldl (tabStep l2 t354) y362) ∧ Below w.heap.size w W)
       (fun _ _ _ => False)
       (fun s W W' row hs hg hr => ⟨Kept.of_grown hg hs.1 (fun k e => .inl (.inr (hr k e).1)), R_turned hs.2.1 (fun k h => h) hg (fun r e => (hr r e).2), hs.2.2.grown hg (Nat.le_trans (Nat.le_refl _) hs.2.2.size) (fun k e => Nat.le_trans HB.out.size (hr k e).1)⟩)
       (fun _ _ _ _ _ hs _ _ => hs) ⟨Kept.refl _ _, HR0, HB.out⟩
       (fun k a' W => ∃ g, wB.heap.size ≤ g ∧ W.heap[g]? = some (.cells #[.int .i64 (el65 t358 k).f0, .int .i64 (el65 t358 k).f1] 65 (0, 0)) ∧ a' = { tmps := #[Value.int IntKind.i64 a0, Value.slice A1 l1.length c1, Value.slice A2 l2.length c2, Value.int IntKind.i64 a3, Value.int IntKind.i64 a4, undef, undef, Value.pointer (some { block := gb350, off := 0 }), undef, undef, Value.pointer (some { block := gb351, off := 0 }), Value.bool false, Value.pointer (some { block := gb357, off := 0 }), Value.slice Aoz t358.length coz, Value.bool true, Value.pointer (some { block := gb365, off := 0 }), undef, .pointer (some ⟨g, 0, none⟩), Value.int IntKind.i64 a0, Value.slice A1 l1.length c1, Value.slice A2 l2.length c2, Value.int IntKind.i64 a3, Value.int IntKind.i64 a4, Value.bool true, Value.bool false, undef, Value.int IntKind.i64 a0, Value.slice A1 l1.length c1, Value.int IntKind.i64 a3, Value.agg #[Value.int IntKind.i64 t353, Value.slice Ao23 t354.length co23], Value.tuple #[Value.slice Aoz t358.length coz, Value.bool true], Value.tuple #[Value.slice Aoz t358.length coz, Value.bool true], Value.slice Aoz t358.length coz, Value.bool true, Value.bool true, Value.bool false, undef, Value.int IntKind.i64 a0, Value.int IntKind.i64 a3, Value.int IntKind.i64 a4, Value.pointer (some { block := gb357, off := 0 }), Value.int IntKind.i64 t353, Value.slice Ao28 y362.length co28, Value.agg #[Value.int IntKind.i64 a0, Value.int IntKind.i64 a3, Value.int IntKind.i64 a4, Value.slice Ao28 y362.length co28], Value.slice Aoz t358.length coz, Value.func (Fn.func 75) #[] #[Value.pointer (some { block := gS, off := 0 })], .int .i64 (k : Int), .agg #[.int .i64 (el65 t358 k).f0, .int .i64 (el65 t358 k).f1], undef, undef, undef, undef, undef, undef, undef, undef, undef, undef, undef, undef, undef, undef, undef, undef, undef, undef, undef, undef, undef, undef, undef, undef], defers := [] })
       (fun k a' _ W W' row hs hg hr => by obtain ⟨g, h1, h2, h3⟩ := hs; exact ⟨g, h1, (hg.block g (blk_lt h2) (fun e => by obtain ⟨_, o, ho, hc⟩ := hr g e.symm; rw [h2] at ho; cases ho; cases hc)).trans h2, h3⟩)
       ?assign ?body ?done ?stop
     case stop =>
      rintro D c pre W _ _ h _
      exact h.elim
     case assign =>
      rintro l pre x W K ⟨hI1, hI2, hI3⟩ hK
      gi_wp2
      exact hK _ _ ((KeepsOthers.alloc _ _).from _) (Kept.alloc (Kept.refl _ _) _) ⟨Kept.alloc hI1 _, (by (with_reducible repeat (first | apply Kd.R_alloc | apply Kd.R_drewN | apply Kd.R_drew)); exact hI2), below_alloc hI3 _⟩ ⟨W.heap.size, hI1.1, World.alloc_heap_new W _, rfl⟩
     case done =>
      rintro D ys W hD rfl ⟨hK, hR, hBW⟩ hDf
      rw [el65_rev] at hR
      have b1 := HKB _ _ _ W hK BK365.out (by decide)
      have b2 := HKB _ _ _ W hK BK351.out (by decide)
      have hcb1_0 : W.cell? ⟨gb365, 0, none⟩ = some (.int .i64 a0) := (blk_cell b1 0).trans rfl
      have hfb1_0 := blk_frozen b1 0
      have hcb1_1 : W.cell? ⟨gb365, 1, none⟩ = some (.int .i64 a3) := (blk_cell b1 1).trans rfl
      have hfb1_1 := blk_frozen b1 1
      have hcb1_2 : W.cell? ⟨gb365, 2, none⟩ = some (.int .i64 a4) := (blk_cell b1 2).trans rfl
      have hfb1_2 := blk_frozen b1 2
      have hcb1_3 : W.cell? ⟨gb365, 3, none⟩ = some (.slice Ao28 y362.length co28) := (blk_cell b1 3).trans rfl
      have hfb1_3 := blk_frozen b1 3
      have hcb2_0 : W.cell? ⟨gb351, 0, none⟩ = some (.int .i64 0) := (blk_cell b2 0).trans rfl
      have hfb2_0 := blk_frozen b2 0
      have hcb2_1 : W.cell? ⟨gb351, 1, none⟩ = some (.int .i64 0) := (blk_cell b2 1).trans rfl
      have hfb2_1 := blk_frozen b2 1
      have hcb2_2 : W.cell? ⟨gb351, 2, none⟩ = some (.int .i64 0) := (blk_cell b2 2).trans rfl
      have hfb2_2 := blk_frozen b2 2
      have hcb2_3 : W.cell? ⟨gb351, 3, none⟩ = some (.slice none 0 0) := (blk_cell b2 3).trans rfl
      have hfb2_3 := blk_frozen b2 3
      go_wp2
      refine ⟨by simp, .inl ⟨_, _, rfl, run_takeDeferred (by repeat (first | exact hDf | refine (KeepsOthers.setCell _ _ _).same D _ ?_ rfl)), ?_⟩⟩
      refine ⟨_, results_ct rfl _ _ gb351 35 #[.int .i64 a0, .int .i64 a3, .int .i64 a4, .slice Ao28 y362.length co28] (0, 0) _ rfl ((World.putObj_heap_other (by have := blk_lt BK351.out; omega)).trans (by refine blk_put (cs := #[.int .i64 a0, .int .i64 a3, .int .i64 a4, .slice none 0 0]) ?_ 3 _ rfl; refine blk_put (cs := #[.int .i64 a0, .int .i64 a3, .int .i64 0, .slice none 0 0]) ?_ 2 _ rfl; refine blk_put (cs := #[.int .i64 a0, .int .i64 0, .int .i64 0, .slice none 0 0]) ?_ 1 _ rfl; refine blk_put (cs := #[.int .i64 0, .int .i64 0, .int .i64 0, .slice none 0 0]) ?_ 0 _ rfl; exact b2)) Try.underlying35 rfl (by kernel_rfl), ?_⟩
      have hlt0 := fun k h => ((Kd.R_bound HR0).1 k h).2.2.1
      refine ⟨_, rfl, Kd.R_mono (Kd.R_kept (S := fun k => k = gb351 ∨ wB.heap.size ≤ k) hR (Kept.of_grown (grownBy_putObj' _ D _) (by repeat (first | exact Kept.refl _ _ | refine Kept.setCell (S := fun k => k = gb351 ∨ wB.heap.size ≤ k) ?_ (.inl (.inl rfl)) _)) (fun k e => by cases e; exact .inl (.inr hD))) (fun k h1 h2 => h2.elim (fun e => Kd.R_ne hR b2 (by decide) (by rw [← e]; exact h1)) (fun e => by have := hlt0 k h1.symm; omega))) (fun _ _ => trivial), ?_⟩
      have hbl : Below w.heap.size w _ := (by repeat (first | exact hBW | refine below_set ?_ GE351.out) : Below w.heap.size w (((((W.setCell ⟨gb351, 0, none⟩ (.int .i64 a0)).setCell ⟨gb351, 1, none⟩ (.int .i64 a3)).setCell ⟨gb351, 2, none⟩ (.int .i64 a4)).setCell ⟨gb351, 3, none⟩ (.slice Ao28 y362.length co28))))
      exact hbl.grown (grownBy_putObj' _ D _) hbl.size (fun k e => by cases e; exact Nat.le_trans HB.out.size hD)
     case body =>
      rintro l pre x a' W hl hrec ⟨hBK, hR, hBW⟩ ⟨g, hg1, hg2, ha⟩ hlt
      dsimp only at ha
      subst ha
      have hok := HALL _ (el65_mem (zs := t358) x (by omega))
      have hfold : ((pre ++ [x]).map (el65 t358)).foldl (tabStep l2 t354) y362 = tabStep l2 t354 ((pre.map (el65 t358)).foldl (tabStep l2 t354) y362) (el65 t358 x) := by rw [List.map_append, List.foldl_append]; rfl
      generalize (pre.map (el65 t358)).foldl (tabStep l2 t354) y362 = cc at hR hfold
      generalize el65 t358 x = s at hg2 hok hfold ⊢
      have hlc := Aside0.mk (show y362.length = cc.length from (Kd.R_reads' hR).1)
      obtain ⟨⟨p1, q1⟩, ⟨p0, q0⟩, ⟨_, qe⟩, ho3⟩ := of_decide_eq_true hok
      have hq1 : s.f1 < (y362.length : Int) := by rw [HN.out]; exact q1
      obtain ⟨ga, ca, ea, gbb, gll, cll, HG⟩ := Kd.R_form hR (by have := hlc.out; omega)
      injection ea with ea1 ea2 ea3
      subst ea1
      clear ea2 ea3 cll HG
      have hga := Aside0.mk (show ga = gc from G1 ga rfl)
      have hgw : ga < wB.heap.size := ((Kd.R_bound HR0).1 ga rfl).2.2.1
      have hT := HKB _ _ _ W hBK BK365.out (by decide)
      have hcT : W.cell? ⟨gb365, 3, none⟩ = some (.slice (some ⟨ga, 0, none⟩) y362.length co28) := (blk_cell hT 3).trans rfl
      have hcS0 : W.cell? ⟨g, 0, none⟩ = some (.int .i64 s.f0) := (blk_cell hg2 0).trans rfl
      have hcS1 : W.cell? ⟨g, 1, none⟩ = some (.int .i64 s.f1) := (blk_cell hg2 1).trans rfl
      obtain ⟨hx0, hf0⟩ := Kd.R_celln 0 hR s.f1 p1 hq1
      have pA := eq_true p1
      have qA := eq_true hq1
      have pB : decide (0 ≤ s.f1) = true := decide_eq_true p1
      have qB : decide (s.f1 < (y362.length : Int)) = true := decide_eq_true hq1
      refine wpIn_block ?_
      refine seq_hide (fun KK hKK => ?_)
      gi_wp2
      refine hKK.out _ _ ?_
      clear hKK KK hx0 hf0 hcT hcS0 hcS1
      have hR1 := Kd.R_putn hR s.f1 0
      have HKW : Kept W _ (fun k => k = ga) := Kept.setCell (S := fun k => k = ga) (Kept.refl W _) (p := ⟨ga, s.f1.toNat, none⟩) (.inl rfl) (.int .i64 0)
      have hBK1 := Kept.setCell hBK (p := ⟨ga, s.f1.toNat, none⟩) (.inl (.inl hga.out)) (.int .i64 0)
      have hS1 := blk_far hg2 (p := ⟨ga, s.f1.toNat, none⟩) (by show g ≠ ga; omega) (.int .i64 0)
      have hBW1 := below_set (j := s.f1.toNat) (v := .int .i64 0) hBW gbb
      generalize W.setCell ⟨ga, s.f1.toNat, none⟩ (.int .i64 0) = W1 at hR1 HKW hBK1 hS1 hBW1 ⊢
      have n0_ := Kd.R_drew hR1
      have n1_ := Kept.drew HKW
      have n2_ : BackK gc wB.heap.size wB W1.drew := Kept.drew hBK1
      have n3_ := blk_drew hS1
      have n4_ := below_drew1 hBW1
      clear hR1 HKW hBK1 hS1 hBW1
      have hT1 := HKB _ _ _ _ n2_ BK365.out (by decide)
      have hH1 := HKB _ _ _ _ n2_ BK357.out (by decide)
      obtain ⟨ade, Ae, ce, eae, hxe, hle, hCe⟩ := at_L3 (Kd.S_reads' (HE2 _ n2_)).2.2 s.f0 p0 qe
      cases eae
      have h71 := HKB _ _ _ _ n2_ BK350.out (by decide)
      obtain ⟨adv, eav, hxv⟩ := Kd.at_int (HV _ n2_) s.f0 p0 q0
      cases eav
      have pC := eq_true p0
      have pD : decide (0 ≤ s.f0) = true := decide_eq_true p0
      have qE := eq_true qe
      have qF : decide (s.f0 < (t354.length : Int)) = true := decide_eq_true qe
      have qC := eq_true q0
      have qD : decide (s.f0 < (l2.length : Int)) = true := decide_eq_true q0
      refine startIn_ (n := 19) (S := fun w' => w'.cell? ⟨gb365, 3, none⟩ = some (.slice (some ⟨ga, 0, none⟩) y362.length co28) ∧ w'.cell? ⟨g, 1, none⟩ = some (.int .i64 s.f1) ∧ w'.cell? ⟨g, 0, none⟩ = some (.int .i64 s.f0) ∧ w'.cell? ⟨gb350, 0, none⟩ = some (.slice (some adv) l2.length c2) ∧ w'.cell? (adv.add s.f0.toNat) = some (.int .i64 (rd l2 s.f0)) ∧ w'.cell? ⟨gb357, 1, none⟩ = some (.slice (some ade) t354.length co23) ∧ w'.cell? (ade.add s.f0.toNat) = some (.slice Ae (rd_L3 t354 s.f0).length ce)) (ds := [18]) #[false, false, false, false, false, false, false, false, false, false, false, false, false, false, false, false, false, false, false] (by kernel_rfl) (by rintro ⟨_, _, h_⟩; exact h_) (by kernel_rfl) rfl rfl ⟨(blk_cell hT1 3).trans rfl, (blk_cell n3_ 1).trans rfl, (blk_cell n3_ 0).trans rfl, (blk_cell h71 0).trans rfl, hxv, (blk_cell hH1 1).trans rfl, hxe⟩ (fun hHeld => ?_); refine with_tabW impl_TableByPeeling.tab11 impl_TableByPeeling.bits11 (fun HT_ HW_ => ?_)
      generalize W1.drew = W2 at n0_ n1_ n2_ n3_ n4_ hT1 hH1 hxe hCe hHeld h71 hxv ⊢
      refine pure_ (i := 0) (N := (some 53)) (v := ?_) (a' := ?_) #[true, false, false, false, false, false, false, false, false, false, false, false, false, false, false, false, false, false, false] rfl rfl (any_of HT_.out (by kernel_rfl)) (fun _ _ _ h => h) (Or.inl ⟨by rfl, ?_⟩) ?_ ?_
      rotate_left
      · intro w'
        go_simp
        with_reducible rfl
      rotate_left
      · simp only [Act.put, List.setIfInBounds_toArray, List.set_cons_zero, List.set_cons_succ, i64_w, i32_w]
        rfl
      refine pure_ (i := 2) (N := (some 55)) (v := ?_) (a' := ?_) #[true, false, true, false, false, false, false, false, false, false, false, false, false, false, false, false, false, false, false] rfl rfl (any_of HT_.out (by kernel_rfl)) (fun _ _ _ h => h) (Or.inl ⟨by rfl, ?_⟩) ?_ ?_
      rotate_left
      · intro w'
        go_simp
        with_reducible rfl
      rotate_left
      · simp only [Act.put, List.setIfInBounds_toArray, List.set_cons_zero, List.set_cons_succ, i64_w, i32_w]
        rfl
      refine pure_ (i := 5) (N := (some 58)) (v := ?_) (a' := ?_) #[true, false, true, false, false, true, false, false, false, false, false, false, false, false, false, false, false, false, false] rfl rfl (any_of HT_.out (by kernel_rfl)) (fun _ _ _ h => h) (Or.inl ⟨by rfl, ?_⟩) ?_ ?_
      rotate_left
      · intro w'
        go_simp
        with_reducible rfl
      rotate_left
      · simp only [Act.put, List.setIfInBounds_toArray, List.set_cons_zero, List.set_cons_succ, i64_w, i32_w]
        rfl
      refine pure_ (i := 9) (N := (some 62)) (v := ?_) (a' := ?_) #[true, false, true, false, false, true, false, false, false, true, false, false, false, false, false, false, false, false, false] rfl rfl (any_of HT_.out (by kernel_rfl)) (fun _ _ _ h => h) (Or.inl ⟨by rfl, ?_⟩) ?_ ?_
      rotate_left
      · intro w'
        go_simp
        with_reducible rfl
      rotate_left
      · simp only [Act.put, List.setIfInBounds_toArray, List.set_cons_zero, List.set_cons_succ, i64_w, i32_w]
        rfl
      refine pure_ (i := 11) (N := (some 64)) (v := ?_) (a' := ?_) #[true, false, true, false, false, true, false, false, false, true, false, true, false, false, false, false, false, false, false] rfl rfl (any_of HT_.out (by kernel_rfl)) (fun _ _ _ h => h) (Or.inl ⟨by rfl, ?_⟩) ?_ ?_
      rotate_left
      · intro w'
        go_simp
        with_reducible rfl
      rotate_left
      · simp only [Act.put, List.setIfInBounds_toArray, List.set_cons_zero, List.set_cons_succ, i64_w, i32_w]
        rfl
      refine take_ (i := 1) (N := (some 54)) (v := ?_) (a' := ?_) #[true, true, true, false, false, true, false, false, false, true, false, true, false, false, false, false, false, false, false] rfl rfl (take_ofW HT_.out HW_.out (by kernel_rfl)) (fun _ _ _ h => h) (Or.inl ⟨by rfl, ?_⟩) hHeld ?_ ?_
      rotate_left
      · rintro w' ⟨s0, s1, s2, s3, s4, s5, s6⟩
        go_simp
        with_reducible rfl
      rotate_left
      · simp only [Act.put, List.setIfInBounds_toArray, List.set_cons_zero, List.set_cons_succ, i64_w, i32_w]
        rfl
      refine take_ (i := 3) (N := (some 56)) (v := ?_) (a' := ?_) #[true, true, true, true, false, true, false, false, false, true, false, true, false, false, false, false, false, false, false] rfl rfl (take_ofW HT_.out HW_.out (by kernel_rfl)) (fun _ _ _ h => h) (Or.inl ⟨by rfl, ?_⟩) hHeld ?_ ?_
      rotate_left
      · rintro w' ⟨s0, s1, s2, s3, s4, s5, s6⟩
        go_simp
        with_reducible rfl
      rotate_left
      · simp only [Act.put, List.setIfInBounds_toArray, List.set_cons_zero, List.set_cons_succ, i64_w, i32_w]
        rfl
      refine take_ (i := 4) (N := (some 57)) (v := ?_) (a' := ?_) #[true, true, true, true, true, true, false, false, false, true, false, true, false, false, false, false, false, false, false] rfl rfl (take_ofW HT_.out HW_.out (by kernel_rfl)) (fun _ _ _ h => h) (Or.inl ⟨by rfl, ?_⟩) hHeld ?_ ?_
      rotate_left
      · rintro w' ⟨s0, s1, s2, s3, s4, s5, s6⟩
        go_simp
        with_reducible rfl
      rotate_left
      · simp only [Act.put, List.setIfInBounds_toArray, List.set_cons_zero, List.set_cons_succ, i64_w, i32_w]
        rfl
      refine take_ (i := 6) (N := (some 59)) (v := ?_) (a' := ?_) #[true, true, true, true, true, true, true, false, false, true, false, true, false, false, false, false, false, false, false] rfl rfl (take_ofW HT_.out HW_.out (by kernel_rfl)) (fun _ _ _ h => h) (Or.inl ⟨by rfl, ?_⟩) hHeld ?_ ?_
      rotate_left
      · rintro w' ⟨s0, s1, s2, s3, s4, s5, s6⟩
        go_simp
        with_reducible rfl
      rotate_left
      · simp only [Act.put, List.setIfInBounds_toArray, List.set_cons_zero, List.set_cons_succ, i64_w, i32_w]
        rfl
      refine pure_ (i := 7) (N := (some 60)) (v := ?_) (a' := ?_) #[true, true, true, true, true, true, true, true, false, true, false, true, false, false, false, false, false, false, false] rfl rfl (any_of HT_.out (by kernel_rfl)) (fun _ _ _ h => h) (Or.inl ⟨by rfl, ?_⟩) ?_ ?_
      rotate_left
      · intro w'
        go_simp
        with_reducible rfl
      rotate_left
      · simp only [Act.put, List.setIfInBounds_toArray, List.set_cons_zero, List.set_cons_succ, i64_w, i32_w]
        rfl
      refine take_ (i := 8) (N := (some 61)) (v := ?_) (a' := ?_) #[true, true, true, true, true, true, true, true, true, true, false, true, false, false, false, false, false, false, false] rfl rfl (take_ofW HT_.out HW_.out (by kernel_rfl)) (fun _ _ _ h => h) (Or.inl ⟨by rfl, ?_⟩) hHeld ?_ ?_
      rotate_left
      · rintro w' ⟨s0, s1, s2, s3, s4, s5, s6⟩
        go_simp
        with_reducible rfl
      rotate_left
      · simp only [Act.put, List.setIfInBounds_toArray, List.set_cons_zero, List.set_cons_succ, i64_w, i32_w]
        rfl
      refine take_ (i := 10) (N := (some 63)) (v := ?_) (a' := ?_) #[true, true, true, true, true, true, true, true, true, true, true, true, false, false, false, false, false, false, false] rfl rfl (take_ofW HT_.out HW_.out (by kernel_rfl)) (fun _ _ _ h => h) (Or.inl ⟨by rfl, ?_⟩) hHeld ?_ ?_
      rotate_left
      · rintro w' ⟨s0, s1, s2, s3, s4, s5, s6⟩
        go_simp
        with_reducible rfl
      rotate_left
      · simp only [Act.put, List.setIfInBounds_toArray, List.set_cons_zero, List.set_cons_succ, i64_w, i32_w]
        rfl
      refine take_ (i := 12) (N := (some 65)) (v := ?_) (a' := ?_) #[true, true, true, true, true, true, true, true, true, true, true, true, true, false, false, false, false, false, false] rfl rfl (take_ofW HT_.out HW_.out (by kernel_rfl)) (fun _ _ _ h => h) (Or.inl ⟨by rfl, ?_⟩) hHeld ?_ ?_
      rotate_left
      · rintro w' ⟨s0, s1, s2, s3, s4, s5, s6⟩
        go_simp
        with_reducible rfl
      rotate_left
      · simp only [Act.put, List.setIfInBounds_toArray, List.set_cons_zero, List.set_cons_succ, i64_w, i32_w]
        rfl
      refine pure_ (i := 13) (N := (some 66)) (v := ?_) (a' := ?_) #[true, true, true, true, true, true, true, true, true, true, true, true, true, true, false, false, false, false, false] rfl rfl (any_of HT_.out (by kernel_rfl)) (fun _ _ _ h => h) (Or.inl ⟨by rfl, ?_⟩) ?_ ?_
      rotate_left
      · intro w'
        go_simp
        with_reducible rfl
      rotate_left
      · simp only [Act.put, List.setIfInBounds_toArray, List.set_cons_zero, List.set_cons_succ, i64_w, i32_w]
        rfl
      refine take_ (i := 14) (N := (some 67)) (v := ?_) (a' := ?_) #[true, true, true, true, true, true, true, true, true, true, true, true, true, true, true, false, false, false, false] rfl rfl (take_ofW HT_.out HW_.out (by kernel_rfl)) (fun _ _ _ h => h) (Or.inl ⟨by rfl, ?_⟩) hHeld ?_ ?_
      rotate_left
      · rintro w' ⟨s0, s1, s2, s3, s4, s5, s6⟩
        go_simp
        with_reducible rfl
      rotate_left
      · simp only [Act.put, List.setIfInBounds_toArray, List.set_cons_zero, List.set_cons_succ, i64_w, i32_w]
        rfl
      refine one_ (i := 15) (N := (some 68)) #[true, true, true, true, true, true, true, true, true, true, true, true, true, true, true, true, false, false, false] rfl rfl (one_of HT_.out (by kernel_rfl)) (by decide) (fun K hK => ?_)
      refine goes_ Try.func49 (by kernel_rfl) rfl #[.pointer (some ⟨gb365, 0, none⟩), .slice Ae (rd_L3 t354 s.f0).length ce] (by rfl) rfl rfl (by (try simp only [List.map_toArray, List.map_cons, List.map_nil]); first | done | rfl) ?_
      have hls : (cc.set s.f1.toNat 0).length = y362.length := by rw [List.length_set, hlc.out]
      with_reducible refine (impl_Table_value_in35_0.calls gb365 a0 a3 a4 (some ⟨ga, 0, none⟩) co28 (cc.set s.f1.toNat 0) Ae ce (rd_L3 t354 s.f0) (valT (cc.set s.f1.toNat 0) (rd_L3 t354 s.f0)) _ ?side1 ?side2 ?side3 ?side4 ?side5 ?side6).mono ?_
      (case side1 => rw [hls]; exact hT1)
      (case side2 => exact (Kd.R_reads' n0_).2.2)
      (case side3 => rw [hls]; exact (Kd.R_reads' n0_).2.1)
      (case side4 => exact hCe)
      (case side5 => exact hle)
      (case side6 => exact valT_eq a0 a3 a4 _ _ (by rw [hls, HN.out]; exact ho3))
      rintro e W3 ⟨rfl, hb⟩
      refine ⟨_, rfl, ?_⟩
      have m0_ := Kd.R_below n0_ hb
      have m1_ := Kept.below n1_ hb
      have m2_ : BackK gc wB.heap.size wB W3 := Kept.below n2_ hb
      have m3_ := blk_below n3_ hb
      have m4_ := below_step n4_ hb
      have m5_ := HKB _ _ _ _ m2_ BK365.out (by decide)
      have m6_ := HKB _ _ _ _ m2_ BK350.out (by decide)
      have m7_ := HKB _ _ _ _ m2_ BK357.out (by decide)
      refine hK.out _ _ ⟨(blk_cell m5_ 3).trans rfl, (blk_cell m3_ 1).trans rfl, (blk_cell m3_ 0).trans rfl, (blk_cell m6_ 0).trans rfl, ?hv, (blk_cell m7_ 1).trans rfl, ?he⟩ (fun hHeld => ?_)
      (case hv => exact Go.Proofs.YtippedfjmlkpiaaW.PrintWords.cell_kept hxv (Kept.of_below hb (fun _ => False)) (fun h => h))
      (case he => exact Go.Proofs.YtippedfjmlkpiaaW.PrintWords.cell_kept hxe (Kept.of_below hb (fun _ => False)) (fun h => h))
      clear hK K n0_ n1_ n2_ n3_ n4_ hT1 hH1 h71 hxv hxe
      refine norm_ (a' := ?_) ?_ ?_
      rotate_left
      · show Act.put _ (some 68) _ = _
        simp only [Act.put, List.setIfInBounds_toArray, List.set_cons_zero, List.set_cons_succ, i64_w, i32_w]
        rfl
      refine pure_ (i := 16) (N := (some 69)) (v := ?_) (a' := ?_) #[true, true, true, true, true, true, true, true, true, true, true, true, true, true, true, true, true, false, false] rfl rfl (any_of HT_.out (by kernel_rfl)) (fun _ _ _ h => h) (Or.inl ⟨by rfl, ?_⟩) ?_ ?_
      rotate_left
      · intro w'
        go_simp
        with_reducible rfl
      rotate_left
      · simp only [Act.put, List.setIfInBounds_toArray, List.set_cons_zero, List.set_cons_succ, i64_w, i32_w]
        rfl
      refine pure_ (i := 17) (N := (some 70)) (v := ?_) (a' := ?_) #[true, true, true, true, true, true, true, true, true, true, true, true, true, true, true, true, true, true, false] rfl rfl (any_of HT_.out (by kernel_rfl)) (fun _ _ _ h => h) (Or.inl ⟨by rfl, ?_⟩) ?_ ?_
      rotate_left
      · intro w'
        go_simp
        with_reducible rfl
      rotate_left
      · simp only [Act.put, List.setIfInBounds_toArray, List.set_cons_zero, List.set_cons_succ, i64_w, i32_w]
        rfl
      obtain ⟨hx3, hf3⟩ := Kd.R_celln 0 m0_ s.f1 p1 hq1
      refine last_ (i := 18) (N := none) #[true, true, true, true, true, true, true, true, true, true, true, true, true, true, true, true, true, true, true] rfl rfl (one_of HT_.out (by kernel_rfl)) (by decide) (fun K hK => ?_)
      refine skip_ (w1 := ?_) (by rfl) rfl ?_ ?_
      rotate_left
      · go_simp
        rfl
      refine hK.out _ _ ?_
      clear hK K hx3 hf3 hHeld
      refine done_ (done_of HT_.out (by kernel_rfl)) ?_
      have hR4 := Kd.R_putn m0_ s.f1 (Go.bits .xor .i64 (rd l2 s.f0) (valT (cc.set s.f1.toNat 0) (rd_L3 t354 s.f0)))
      have hKW4 : Kept W _ (fun k => k = ga) := Kept.setCell (S := fun k => k = ga) m1_ (p := ⟨ga, s.f1.toNat, none⟩) (.inl rfl) (.int .i64 (Go.bits .xor .i64 (rd l2 s.f0) (valT (cc.set s.f1.toNat 0) (rd_L3 t354 s.f0))))
      have hBW4 := below_set (j := s.f1.toNat) (v := .int .i64 (Go.bits .xor .i64 (rd l2 s.f0) (valT (cc.set s.f1.toNat 0) (rd_L3 t354 s.f0)))) m4_ gbb
      refine ⟨⟨hKW4.1, fun k o _ h1 h2 => (hKW4.2 k (Array.getElem?_eq_some_iff.1 h1).1 (fun e => by obtain ⟨cs_, h3⟩ := Kd.R_typed hR ga rfl; rw [e] at h1; rw [h1] at h3; cases h3; cases h2)).trans h1⟩, Kept.mono hKW4 (fun k e => .inl (e.trans hga.out)), BackK.trans hBK (Kept.mono hKW4 (fun k e => .inl (e.trans hga.out))), by rw [hfold]; exact hR4, hBW4⟩

    ·
     rw [if_neg c12] at H
     exact absurd H (by simp)
   ·
    rw [if_neg c11] at H
    exact absurd H (by simp)
  ·
   replace c10 := Bool.eq_false_iff.mpr c10
   subst c10
   have H1 : (some (0, 0, 0, ([] : List Int), false)) = some (r1, r2, r3, r4, r5) := by rw [if_neg (show ¬ (false = true) by decide)] at H; exact H
   clear H
   have H := H1
   clear H1
   simp only [Option.some.injEq, Prod.mk.injEq] at H
   obtain ⟨rfl, rfl, rfl, rfl, rfl⟩ := H
   go_enter Try.func18, Try.ntmps18
   go_wp2_with (first | ((with_reducible refine gate_dst (N := 7) rfl ?_); refine box_event ?hg (N := 7) ?hd (cs := #[.slice A2 l2.length c2]) (t := 24) ?hr ?_; (case hd => rfl); (case hg => rfl); (case hr => first | (go_simp; done) | (go_simp; rfl)); intro gb350 hg w35 hbox hb; have n0_ := Aside0.mk (below_step (uB HB) hb); have n1_ := Aside0.mk (hbox); have n2_ := Aside0.mk ((by rw [hg]; exact (below_size (uB HB)) : w.heap.size ≤ gb350)); have n3_ := Aside0.mk ((by rw [hg]; exact (below_size (uB HB)) : w.heap.size ≤ gb350)); clear HB; have HB := n0_; have BK350 := n1_; have GW350 := n2_; have GE350 := n3_; clear n0_ n1_ n2_ n3_; clear hb hbox hg) | ((with_reducible refine gate_dst (N := 10) rfl ?_); refine box_event ?hg (N := 10) ?hd (cs := #[.int .i64 0, .int .i64 0, .int .i64 0, .slice none 0 0]) (t := 35) ?hr ?_; (case hd => rfl); (case hg => rfl); (case hr => first | (go_simp; done) | (go_simp; rfl)); intro gb351 hg w36 hbox hb; have n0_ := Aside0.mk (blk_below (g := gb350) (o := .cells #[.slice A2 l2.length c2] 24 (0, 0)) (uK BK350) hb); have n1_ := Aside0.mk (below_step (by repeat (first | (with_reducible first | exact HB.out | apply below_alloc | apply pw_below_drewN | apply below_drew1 | refine below_set ?_ GE350.out) | exact HB.out)) hb); have n2_ := Aside0.mk (hbox); have n3_ := Aside0.mk ((by rw [hg]; exact (below_size (by repeat (first | (with_reducible first | exact HB.out | apply below_alloc | apply pw_below_drewN | apply below_drew1 | refine below_set ?_ GE350.out) | exact HB.out))) : w.heap.size ≤ gb351)); have n4_ := Aside0.mk ((by rw [hg]; exact (below_size (by repeat (first | (with_reducible first | exact HB.out | apply below_alloc | apply pw_below_drewN | apply below_drew1 | refine below_set ?_ GE350.out) | exact HB.out))) : w.heap.size ≤ gb351)); have n5_ := Aside0.mk ((by rw [hg]; exact Nat.ne_of_lt (blk_lt (g := gb350) (o := .cells #[.slice A2 l2.length c2] 24 (0, 0)) (uK BK350)) : gb350 ≠ gb351)); have n6_ := Aside0.mk ((by rw [hg]; exact Nat.ne_of_gt (blk_lt (g := gb350) (o := .cells #[.slice A2 l2.length c2] 24 (0, 0)) (uK BK350)) : gb351 ≠ gb350)); clear BK350 HB; have BK350 := n0_; have HB := n1_; have BK351 := n2_; have GW351 := n3_; have GE351 := n4_; have NB350_351 := n5_; have NB351_350 := n6_; clear n0_ n1_ n2_ n3_ n4_ n5_ n6_ hb hbox hg; have hnb37 := NB350_351.out; have hnc37 := NB351_350.out; have hcz38_0 : w36.cell? ⟨gb350, 0, none⟩ = some (.slice A2 l2.length c2) := (blk_cell BK350.out 0).trans rfl; have hfz38_0 := blk_frozen BK350.out 0) | ((with_reducible refine gate_callee (f := 47) rfl ?_); refine goesL_ (some 23) rfl rfl Try.func47 (by kernel_rfl) rfl #[.int .i64 a0, .slice A1 l1.length c1, .slice A2 l2.length c2, .int .i64 a3, .int .i64 a4] rfl (by (try simp only [List.map_toArray, List.map_cons, List.map_nil]); first | done | rfl | (simp only [List.length_drop, List.length_take]; rfl)) ?_; (with_reducible refine (impl_valuesOk.calls k a0 _ _ l1 _ _ l2 a3 a4 true _ ?side1 ?side2 ?side3 ?side4 A6.out).mono ?_); (case side1 => exact uC HR1 HB); (case side2 => exact HC1.out); (case side3 => exact uC HR2 HB); (case side4 => exact HC2.out); rintro e w39 ⟨rfl, hb⟩; refine ⟨_, rfl, ?_⟩; have n0_ := Aside0.mk (blk_below (g := gb350) (o := .cells #[.slice A2 l2.length c2] 24 (0, 0)) (uK BK350) hb); have n1_ := Aside0.mk (blk_below (g := gb351) (o := .cells #[.int .i64 0, .int .i64 0, .int .i64 0, .slice none 0 0] 35 (0, 0)) (uK BK351) hb); have n2_ := Aside0.mk (below_step (by repeat (first | (with_reducible first | exact HB.out | apply below_alloc | apply pw_below_drewN | apply below_drew1 | refine below_set ?_ GE350.out | refine below_set ?_ GE351.out) | exact HB.out)) hb); clear BK350 BK351 HB; have BK350 := n0_; have BK351 := n1_; have HB := n2_; clear n0_ n1_ n2_; (try clear hb); (try clear hb2); (try clear hk); (try clear hi)) | ((with_reducible refine gate_callee (f := 48) rfl ?_); refine goesL_ (some 29) rfl rfl Try.func48 (by kernel_rfl) rfl #[.int .i64 a0, .slice A1 l1.length c1, .int .i64 a3] rfl (by (try simp only [List.map_toArray, List.map_cons, List.map_nil]); first | done | rfl | (simp only [List.length_drop, List.length_take]; rfl)) ?_; (with_reducible refine (impl_hyper.calls k a0 _ _ l1 a3 t353 t354 _ ?side1 ?side2 A8.out).mono ?_); (case side1 => exact uC HR1 HB); (case side2 => exact HC1.out); rintro e w40 ⟨v355, rfl, ho0, hb⟩; refine ⟨_, rfl, ?_⟩; have n0_ := Aside0.mk (Kd.S_lower (Kd.S_newB ho0 (g := gb350) (o := .cells #[.slice A2 l2.length c2] 24 (0, 0)) (uK BK350)) (below_size (by repeat (first | (with_reducible first | exact HB.out | apply below_alloc | apply pw_below_drewN | apply below_drew1 | refine below_set ?_ GE350.out | refine below_set ?_ GE351.out) | exact HB.out)))); have n1_ := Aside0.mk (blk_below (g := gb350) (o := .cells #[.slice A2 l2.length c2] 24 (0, 0)) (uK BK350) hb); have n2_ := Aside0.mk (blk_below (g := gb351) (o := .cells #[.int .i64 0, .int .i64 0, .int .i64 0, .slice none 0 0] 35 (0, 0)) (uK BK351) hb); have n3_ := Aside0.mk (below_step (by repeat (first | (with_reducible first | exact HB.out | apply below_alloc | apply pw_below_drewN | apply below_drew1 | refine below_set ?_ GE350.out | refine below_set ?_ GE351.out) | exact HB.out)) hb); clear BK350 BK351 HB; have HO356 := n0_; have BK350 := n1_; have BK351 := n2_; have HB := n3_; clear n0_ n1_ n2_ n3_; (try clear hb); (try clear hb2); (try clear hk); (try clear hi); (try clear ho0)) | ((with_reducible refine gate_dst (N := 12) rfl ?_); refine box_event ?hg (N := 12) ?hd (cs := #[.int .i64 0, .slice none 0 0]) (t := 59) ?hr ?_; (case hd => rfl); (case hg => rfl); (case hr => first | (go_simp; done) | (go_simp; rfl)); intro gb357 hg w41 hbox hb; have n0_ := Aside0.mk (Kd.S_below (by (with_reducible repeat (first | apply Kd.S_alloc | apply Kd.S_drewN | apply Kd.S_drew)); exact HO356.out) hb); have n1_ := Aside0.mk (blk_below (g := gb350) (o := .cells #[.slice A2 l2.length c2] 24 (0, 0)) (uK BK350) hb); have n2_ := Aside0.mk (blk_below (g := gb351) (o := .cells #[.int .i64 0, .int .i64 0, .int .i64 0, .slice none 0 0] 35 (0, 0)) (uK BK351) hb); have n3_ := Aside0.mk (below_step (by repeat (first | (with_reducible first | exact HB.out | apply below_alloc | apply pw_below_drewN | apply below_drew1 | refine below_set ?_ GE350.out | refine below_set ?_ GE351.out) | exact HB.out)) hb); have n4_ := Aside0.mk (hbox); have n5_ := Aside0.mk ((by rw [hg]; exact (below_size (by repeat (first | (with_reducible first | exact HB.out | apply below_alloc | apply pw_below_drewN | apply below_drew1 | refine below_set ?_ GE350.out | refine below_set ?_ GE351.out) | exact HB.out))) : w.heap.size ≤ gb357)); have n6_ := Aside0.mk ((by rw [hg]; exact (below_size (by repeat (first | (with_reducible first | exact HB.out | apply below_alloc | apply pw_below_drewN | apply below_drew1 | refine below_set ?_ GE350.out | refine below_set ?_ GE351.out) | exact HB.out))) : w.heap.size ≤ gb357)); have n7_ := Aside0.mk ((by rw [hg]; exact Nat.ne_of_lt (blk_lt (g := gb350) (o := .cells #[.slice A2 l2.length c2] 24 (0, 0)) (uK BK350)) : gb350 ≠ gb357)); have n8_ := Aside0.mk ((by rw [hg]; exact Nat.ne_of_gt (blk_lt (g := gb350) (o := .cells #[.slice A2 l2.length c2] 24 (0, 0)) (uK BK350)) : gb357 ≠ gb350)); have n9_ := Aside0.mk ((by rw [hg]; exact Nat.ne_of_lt (blk_lt (g := gb351) (o := .cells #[.int .i64 0, .int .i64 0, .int .i64 0, .slice none 0 0] 35 (0, 0)) (uK BK351)) : gb351 ≠ gb357)); have n10_ := Aside0.mk ((by rw [hg]; exact Nat.ne_of_gt (blk_lt (g := gb351) (o := .cells #[.int .i64 0, .int .i64 0, .int .i64 0, .slice none 0 0] 35 (0, 0)) (uK BK351)) : gb357 ≠ gb351)); clear HO356 BK350 BK351 HB; have HO356 := n0_; have BK350 := n1_; have BK351 := n2_; have HB := n3_; have BK357 := n4_; have GW357 := n5_; have GE357 := n6_; have NB350_357 := n7_; have NB357_350 := n8_; have NB351_357 := n9_; have NB357_351 := n10_; clear n0_ n1_ n2_ n3_ n4_ n5_ n6_ n7_ n8_ n9_ n10_ hb hbox hg; have hnb42 := NB357_350.out; have hnc42 := NB350_357.out; have hnb43 := NB357_351.out; have hnc43 := NB351_357.out; have hcz44_0 : w41.cell? ⟨gb357, 0, none⟩ = some (.int .i64 0) := (blk_cell BK357.out 0).trans rfl; have hcz44_1 : w41.cell? ⟨gb357, 1, none⟩ = some (.slice none 0 0) := (blk_cell BK357.out 1).trans rfl; have hfz44_0 := blk_frozen BK357.out 0; have hfz44_1 := blk_frozen BK357.out 1; obtain ⟨Ao45, co45, eo45⟩ := Kd.S_slice HO356.out; subst eo45) | ((with_reducible refine gate_callee (f := 40) rfl ?_); refine goesL_ (some 31) rfl rfl Try.func40 (by kernel_rfl) rfl #[.pointer (some ⟨gb357, 0, none⟩)] rfl (by (try simp only [List.map_toArray, List.map_cons, List.map_nil]); first | done | rfl | (simp only [List.length_drop, List.length_take]; rfl)) ?_; (with_reducible refine (impl_Hyper_order_in59_0.calls k gb357 t353 Ao45 co45 t354 t358 false _ ?side1 ?side2 ?side3 A9.out).mono ?_); (case side1 => exact (by refine uW ?_; refine blk_put (cs := #[.int .i64 t353, .slice none 0 0]) ?_ 1 _ rfl; refine uW ?_; refine blk_put (cs := #[.int .i64 0, .slice none 0 0]) ?_ 0 _ rfl; refine uW ?_; exact BK357.out)); (case side2 => refine (Kd.S_reads' (e := 24) (base := w.heap.size) (ok := fun k_ => (True ∧ k_ ≠ gb350)) (n := t354.length) (c := co45) ?_).2.2; exact (by (with_reducible repeat (first | apply Kd.S_alloc | apply Kd.S_drewN | apply Kd.S_drew)); exact (Kd.S_mono (Kd.S_far (p := ⟨gb357, 1, none⟩) (Kd.S_far (p := ⟨gb357, 0, none⟩) (Kd.S_types HO356.out BK357.out (by decide)) (fun _ hk => hk.2) (.int .i64 t353)) (fun _ hk => hk.2) (.slice Ao45 t354.length co45)) (fun _ h_ => h_.1)))); (case side3 => exact (Kd.S_reads' HO356.out).2.1); rintro e w46 ⟨v359, rfl, ho0, hb⟩; refine ⟨_, rfl, ?_⟩; have n0_ := Aside0.mk (Kd.S_below (by (with_reducible repeat (first | apply Kd.S_alloc | apply Kd.S_drewN | apply Kd.S_drew)); exact (Kd.S_mono (Kd.S_far (p := ⟨gb357, 1, none⟩) (Kd.S_far (p := ⟨gb357, 0, none⟩) (Kd.S_types HO356.out BK357.out (by decide)) (fun _ hk => hk.2) (.int .i64 t353)) (fun _ hk => hk.2) (.slice Ao45 t354.length co45)) (fun _ h_ => h_.1))) hb); have n1_ := Aside0.mk (Kd.R_lower ho0 (below_size (by repeat (first | (with_reducible first | exact HB.out | apply below_alloc | apply pw_below_drewN | apply below_drew1 | refine below_set ?_ GE350.out | refine below_set ?_ GE351.out | refine below_set ?_ GE357.out) | exact HB.out)))); have n2_ := Aside0.mk (blk_below (g := gb350) (o := .cells #[.slice A2 l2.length c2] 24 (0, 0)) (by refine uW ?_; refine blk_far ?_ NB350_357.out _; refine uW ?_; refine blk_far ?_ NB350_357.out _; refine uW ?_; exact BK350.out) hb); have n3_ := Aside0.mk (blk_below (g := gb351) (o := .cells #[.int .i64 0, .int .i64 0, .int .i64 0, .slice none 0 0] 35 (0, 0)) (by refine uW ?_; refine blk_far ?_ NB351_357.out _; refine uW ?_; refine blk_far ?_ NB351_357.out _; refine uW ?_; exact BK351.out) hb); have n4_ := Aside0.mk (blk_below (g := gb357) (o := .cells #[.int .i64 t353, .slice Ao45 t354.length co45] 59 (0, 0)) (by refine uW ?_; refine blk_put (cs := #[.int .i64 t353, .slice none 0 0]) ?_ 1 _ rfl; refine uW ?_; refine blk_put (cs := #[.int .i64 0, .slice none 0 0]) ?_ 0 _ rfl; refine uW ?_; exact BK357.out) hb); have n5_ := Aside0.mk (below_step (by repeat (first | (with_reducible first | exact HB.out | apply below_alloc | apply pw_below_drewN | apply below_drew1 | refine below_set ?_ GE350.out | refine below_set ?_ GE351.out | refine below_set ?_ GE357.out) | exact HB.out)) hb); clear HO356 BK350 BK351 BK357 HB; have HO356 := n0_; have HO360 := n1_; have BK350 := n2_; have BK351 := n3_; have BK357 := n4_; have HB := n5_; clear n0_ n1_ n2_ n3_ n4_ n5_; (try clear hb); (try clear hb2); (try clear hk); (try clear hi); (try clear ho0); have hcz47_0 : w46.cell? ⟨gb351, 0, none⟩ = some (.int .i64 0) := (blk_cell BK351.out 0).trans rfl; have hcz47_1 : w46.cell? ⟨gb351, 1, none⟩ = some (.int .i64 0) := (blk_cell BK351.out 1).trans rfl; have hcz47_2 : w46.cell? ⟨gb351, 2, none⟩ = some (.int .i64 0) := (blk_cell BK351.out 2).trans rfl; have hcz47_3 : w46.cell? ⟨gb351, 3, none⟩ = some (.slice none 0 0) := (blk_cell BK351.out 3).trans rfl; have hfz47_0 := blk_frozen BK351.out 0; have hfz47_1 := blk_frozen BK351.out 1; have hfz47_2 := blk_frozen BK351.out 2; have hfz47_3 := blk_frozen BK351.out 3))
   refine bodyPost_ret (results_ct rfl _ _ gb351 35 #[.int .i64 0, .int .i64 0, .int .i64 0, .slice none 0 0] (0, 0) _ rfl (by refine uW ?_; refine blk_put (cs := #[.int .i64 0, .int .i64 0, .int .i64 0, .slice none 0 0]) ?_ 3 _ rfl; refine uW ?_; refine blk_put (cs := #[.int .i64 0, .int .i64 0, .int .i64 0, .slice none 0 0]) ?_ 2 _ rfl; refine uW ?_; refine blk_put (cs := #[.int .i64 0, .int .i64 0, .int .i64 0, .slice none 0 0]) ?_ 1 _ rfl; refine uW ?_; refine blk_put (cs := #[.int .i64 0, .int .i64 0, .int .i64 0, .slice none 0 0]) ?_ 0 _ rfl; refine uW ?_; exact BK351.out) Try.underlying35 rfl (by kernel_rfl)) rfl ?_
   exact ⟨_, by first | rfl | (simp [errW_none, errW_some] <;> rfl) | (simp [*, errW_none, errW_some] <;> rfl), by first | exact Kd.R_nil _ _ _ _ _ | exact Kd.N_nil _ _ _ _ _ | exact Kd.V_nil _ _ _ _ _ | exact Kd.Q_nil _ _ _ _ _ | exact Kd.S_nil _ _ _ _ _, by repeat (first | (with_reducible first | exact HB.out | apply below_alloc | apply pw_below_drewN | apply below_drew1 | refine below_set ?_ GE350.out | refine below_set ?_ GE351.out | refine below_set ?_ GE357.out) | exact HB.out)⟩
 ·
  replace c7 := Bool.eq_false_iff.mpr c7
  subst c7
  have H1 : (some (0, 0, 0, ([] : List Int), false)) = some (r1, r2, r3, r4, r5) := by rw [if_neg (show ¬ (false = true) by decide)] at H; exact H
  clear H
  have H := H1
  clear H1
  simp only [Option.some.injEq, Prod.mk.injEq] at H
  obtain ⟨rfl, rfl, rfl, rfl, rfl⟩ := H
  go_enter Try.func18, Try.ntmps18
  go_wp2_with (first | ((with_reducible refine gate_dst (N := 7) rfl ?_); refine box_event ?hg (N := 7) ?hd (cs := #[.slice A2 l2.length c2]) (t := 24) ?hr ?_; (case hd => rfl); (case hg => rfl); (case hr => first | (go_simp; done) | (go_simp; rfl)); intro gb350 hg w48 hbox hb; have n0_ := Aside0.mk (below_step (uB HB) hb); have n1_ := Aside0.mk (hbox); have n2_ := Aside0.mk ((by rw [hg]; exact (below_size (uB HB)) : w.heap.size ≤ gb350)); have n3_ := Aside0.mk ((by rw [hg]; exact (below_size (uB HB)) : w.heap.size ≤ gb350)); clear HB; have HB := n0_; have BK350 := n1_; have GW350 := n2_; have GE350 := n3_; clear n0_ n1_ n2_ n3_; clear hb hbox hg) | ((with_reducible refine gate_dst (N := 10) rfl ?_); refine box_event ?hg (N := 10) ?hd (cs := #[.int .i64 0, .int .i64 0, .int .i64 0, .slice none 0 0]) (t := 35) ?hr ?_; (case hd => rfl); (case hg => rfl); (case hr => first | (go_simp; done) | (go_simp; rfl)); intro gb351 hg w49 hbox hb; have n0_ := Aside0.mk (blk_below (g := gb350) (o := .cells #[.slice A2 l2.length c2] 24 (0, 0)) (uK BK350) hb); have n1_ := Aside0.mk (below_step (by repeat (first | (with_reducible first | exact HB.out | apply below_alloc | apply pw_below_drewN | apply below_drew1 | refine below_set ?_ GE350.out) | exact HB.out)) hb); have n2_ := Aside0.mk (hbox); have n3_ := Aside0.mk ((by rw [hg]; exact (below_size (by repeat (first | (with_reducible first | exact HB.out | apply below_alloc | apply pw_below_drewN | apply below_drew1 | refine below_set ?_ GE350.out) | exact HB.out))) : w.heap.size ≤ gb351)); have n4_ := Aside0.mk ((by rw [hg]; exact (below_size (by repeat (first | (with_reducible first | exact HB.out | apply below_alloc | apply pw_below_drewN | apply below_drew1 | refine below_set ?_ GE350.out) | exact HB.out))) : w.heap.size ≤ gb351)); have n5_ := Aside0.mk ((by rw [hg]; exact Nat.ne_of_lt (blk_lt (g := gb350) (o := .cells #[.slice A2 l2.length c2] 24 (0, 0)) (uK BK350)) : gb350 ≠ gb351)); have n6_ := Aside0.mk ((by rw [hg]; exact Nat.ne_of_gt (blk_lt (g := gb350) (o := .cells #[.slice A2 l2.length c2] 24 (0, 0)) (uK BK350)) : gb351 ≠ gb350)); clear BK350 HB; have BK350 := n0_; have HB := n1_; have BK351 := n2_; have GW351 := n3_; have GE351 := n4_; have NB350_351 := n5_; have NB351_350 := n6_; clear n0_ n1_ n2_ n3_ n4_ n5_ n6_ hb hbox hg; have hnb50 := NB350_351.out; have hnc50 := NB351_350.out; have hcz51_0 : w49.cell? ⟨gb350, 0, none⟩ = some (.slice A2 l2.length c2) := (blk_cell BK350.out 0).trans rfl; have hfz51_0 := blk_frozen BK350.out 0) | ((with_reducible refine gate_callee (f := 47) rfl ?_); refine goesL_ (some 23) rfl rfl Try.func47 (by kernel_rfl) rfl #[.int .i64 a0, .slice A1 l1.length c1, .slice A2 l2.length c2, .int .i64 a3, .int .i64 a4] rfl (by (try simp only [List.map_toArray, List.map_cons, List.map_nil]); first | done | rfl | (simp only [List.length_drop, List.length_take]; rfl)) ?_; (with_reducible refine (impl_valuesOk.calls k a0 _ _ l1 _ _ l2 a3 a4 false _ ?side1 ?side2 ?side3 ?side4 A6.out).mono ?_); (case side1 => exact uC HR1 HB); (case side2 => exact HC1.out); (case side3 => exact uC HR2 HB); (case side4 => exact HC2.out); rintro e w52 ⟨rfl, hb⟩; refine ⟨_, rfl, ?_⟩; have n0_ := Aside0.mk (blk_below (g := gb350) (o := .cells #[.slice A2 l2.length c2] 24 (0, 0)) (uK BK350) hb); have n1_ := Aside0.mk (blk_below (g := gb351) (o := .cells #[.int .i64 0, .int .i64 0, .int .i64 0, .slice none 0 0] 35 (0, 0)) (uK BK351) hb); have n2_ := Aside0.mk (below_step (by repeat (first | (with_reducible first | exact HB.out | apply below_alloc | apply pw_below_drewN | apply below_drew1 | refine below_set ?_ GE350.out | refine below_set ?_ GE351.out) | exact HB.out)) hb); clear BK350 BK351 HB; have BK350 := n0_; have BK351 := n1_; have HB := n2_; clear n0_ n1_ n2_; (try clear hb); (try clear hb2); (try clear hk); (try clear hi); have hcz53_0 : w52.cell? ⟨gb351, 0, none⟩ = some (.int .i64 0) := (blk_cell BK351.out 0).trans rfl; have hcz53_1 : w52.cell? ⟨gb351, 1, none⟩ = some (.int .i64 0) := (blk_cell BK351.out 1).trans rfl; have hcz53_2 : w52.cell? ⟨gb351, 2, none⟩ = some (.int .i64 0) := (blk_cell BK351.out 2).trans rfl; have hcz53_3 : w52.cell? ⟨gb351, 3, none⟩ = some (.slice none 0 0) := (blk_cell BK351.out 3).trans rfl; have hfz53_0 := blk_frozen BK351.out 0; have hfz53_1 := blk_frozen BK351.out 1; have hfz53_2 := blk_frozen BK351.out 2; have hfz53_3 := blk_frozen BK351.out 3))
  refine bodyPost_ret (results_ct rfl _ _ gb351 35 #[.int .i64 0, .int .i64 0, .int .i64 0, .slice none 0 0] (0, 0) _ rfl (by refine uW ?_; refine blk_put (cs := #[.int .i64 0, .int .i64 0, .int .i64 0, .slice none 0 0]) ?_ 3 _ rfl; refine uW ?_; refine blk_put (cs := #[.int .i64 0, .int .i64 0, .int .i64 0, .slice none 0 0]) ?_ 2 _ rfl; refine uW ?_; refine blk_put (cs := #[.int .i64 0, .int .i64 0, .int .i64 0, .slice none 0 0]) ?_ 1 _ rfl; refine uW ?_; refine blk_put (cs := #[.int .i64 0, .int .i64 0, .int .i64 0, .slice none 0 0]) ?_ 0 _ rfl; refine uW ?_; exact BK351.out) Try.underlying35 rfl (by kernel_rfl)) rfl ?_
  exact ⟨_, by first | rfl | (simp [errW_none, errW_some] <;> rfl) | (simp [*, errW_none, errW_some] <;> rfl), by first | exact Kd.R_nil _ _ _ _ _ | exact Kd.N_nil _ _ _ _ _ | exact Kd.V_nil _ _ _ _ _ | exact Kd.Q_nil _ _ _ _ _ | exact Kd.S_nil _ _ _ _ _, by repeat (first | (with_reducible first | exact HB.out | apply below_alloc | apply pw_below_drewN | apply below_drew1 | refine below_set ?_ GE350.out | refine below_set ?_ GE351.out) | exact HB.out)⟩
end

/-! ### laws_eqIntS: function 20 -/
def laws_eqIntS.l0 : Nat → List Int → List Int → Int → Option (Bool)
 | 0, _, _, _ => none
 | k + 1, x0, x1, x5 => if x5 < (x0.length : Int) then (if 0 ≤ x5 then (if x5 < (x1.length : Int) then (if (rd x0 x5) = (rd x1 x5) then (laws_eqIntS.l0 k x0 x1 (wrap64 (x5 + 1))) else (some false)) else (none)) else (none)) else (some true)
def laws_eqIntS.f (k : Nat) (l0 : List Int) (l1 : List Int) : Option (Bool) := if (l0.length : Int) = (l1.length : Int) then (laws_eqIntS.l0 k l0 l1 0) else (some false)
theorem laws_eqIntS.mono_l : ∀ k, (∀ y0 y1 y2, LeO (laws_eqIntS.l0 k y0 y1 y2) (laws_eqIntS.l0 (k + 1) y0 y1 y2))
 | 0 => fun _ _ _ r h => by simp [laws_eqIntS.l0] at h
 | k + 1 => by
  have ih0 := laws_eqIntS.mono_l k
  ·
   intro y0 y1 y2
   unfold laws_eqIntS.l0
   repeat' first
   | (with_reducible exact ih0 _ _ _)
   | (with_reducible exact LeO.refl _)
   | (with_reducible exact LeO.none _)
   | (with_reducible refine LeO.ite ?_ ?_)
   | (with_reducible refine LeO.bind ?_ (fun _ => ?_))
   | exact ih0 _ _ _
   | exact LeO.none _
   | refine LeO.ite ?_ ?_
   | refine LeO.bind ?_ (fun _ => ?_)
theorem laws_eqIntS.mono : ∀ a0 a1 k, LeO (laws_eqIntS.f k a0 a1) (laws_eqIntS.f (k + 1) a0 a1) := by
 intro a0 a1 k
 have ih0 := laws_eqIntS.mono_l k
 unfold laws_eqIntS.f
 repeat' first
   | (with_reducible exact ih0 _ _ _)
   | (with_reducible exact LeO.refl _)
   | (with_reducible exact LeO.none _)
   | (with_reducible refine LeO.ite ?_ ?_)
   | (with_reducible refine LeO.bind ?_ (fun _ => ?_))
   | exact ih0 _ _ _
   | exact LeO.none _
   | refine LeO.ite ?_ ?_
   | refine LeO.bind ?_ (fun _ => ?_)
set_option maxHeartbeats 8000000 in
set_option maxRecDepth 100000 in
theorem laws_eqIntS.calls (k : Nat) (A0 : Option Addr) (c0 : Nat) (l0 : List Int) (A1 : Option Addr) (c1 : Nat) (l1 : List Int) (r : Bool) (w : World) (hr0 : Kd.C (Kd.int .i64) w A0 l0.length l0) (hc0 : l0.length ≤ c0) (hr1 : Kd.C (Kd.int .i64) w A1 l1.length l1) (hc1 : l1.length ≤ c1) (h : laws_eqIntS.f k l0 l1 = some r) :
  Calls Try.prog 20 #[.slice A0 l0.length c0, .slice A1 l1.length c1] w fun e w' => e = .returned (.bool r) ∧ Drawn0 w w' := by
 have HR0 := Aside0.mk hr0
 have HC0 := Aside0.mk hc0
 clear hr0 hc0
 have HR1 := Aside0.mk hr1
 have HC1 := Aside0.mk hc1
 clear hr1 hc1
 have H : (if (l0.length : Int) = (l1.length : Int) then (laws_eqIntS.l0 k l0 l1 0) else (some false)) = some r := h
 clear h
 by_cases c3 : (l0.length : Int) = (l1.length : Int)
 ·
  rw [if_pos c3] at H
  have c3b0 : ((l0.length : Int) == (l1.length : Int)) = true := beq_iff_eq.mpr c3
  have c3b1 : ((l0.length : Int) != (l1.length : Int)) = false := bne_eq_false_iff_eq.mpr c3
  have c3b2 : (l0.length == l1.length) = true := by first | simpa using c3 | (simp at c3 ⊢; omega)
  clear c3
  have H' := Aside0.mk H
  clear H
  go_enter Try.func20, Try.ntmps20
  go_wp2
  repeat (go_quiet (fail); try go_wp2)
  go_loopg [5] k (fun kq v5 w' => ∃ (x5_1 : Int), v5 = .int .i64 x5_1 ∧ Aside0 (laws_eqIntS.l0 kq l0 l1 x5_1 = some r) ∧ Aside0 (kq ≤ k) ∧ Drawn0 w w')
  case atStart => exact ⟨(0), (by first | rfl | (simp; done) | (simp [*]; done)), H', ⟨Nat.le_refl _⟩, by repeat (first | exact Drawn0.refl _ | apply Drawn0.step)⟩
  case round =>
   clear H'
   try clear c1
   try clear c2
   try clear p2
   try clear c3
   try clear c3b0
   try clear c3b1
   try clear c3b2
   obtain ⟨x5_1, rfl, HA, HK1, ⟨m1, rfl⟩⟩ := hrel
   cases gk with
   | zero => exact absurd HA.out (by simp [laws_eqIntS.l0])
   | succ k1 =>
    have H := HA.out
    clear HA
    simp only [laws_eqIntS.l0] at H
    by_cases c4 : x5_1 < (l0.length : Int)
    ·
     rw [if_pos c4] at H
     have c4b0 : decide (x5_1 < (l0.length : Int)) = true := decide_eq_true c4
     clear c4
     by_cases c5 : 0 ≤ x5_1
     ·
      rw [if_pos c5] at H
      have c5b0 : decide (0 ≤ x5_1) = true := decide_eq_true c5
      clear c5
      by_cases c6 : x5_1 < (l1.length : Int)
      ·
       rw [if_pos c6] at H
       have c6b0 : decide (x5_1 < (l1.length : Int)) = true := decide_eq_true c6
       clear c6
       by_cases c7 : (rd l0 x5_1) = (rd l1 x5_1)
       ·
        rw [if_pos c7] at H
        have c7b0 : ((rd l0 x5_1) == (rd l1 x5_1)) = true := beq_iff_eq.mpr c7
        have c7b1 : ((rd l0 x5_1) != (rd l1 x5_1)) = false := bne_eq_false_iff_eq.mpr c7
        clear c7
        have H' := Aside0.mk H
        clear H
        have p366 : 0 ≤ (x5_1 : Int) := of_decide_eq_true (by first | (with_reducible assumption) | assumption)
        have q366 : x5_1 < (l0.length : Int) := of_decide_eq_true (by first | (with_reducible assumption) | assumption)
        obtain ⟨ad366, e366, hx366_0⟩ := Kd.at_int HR0.out x5_1 p366 q366
        cases e366
        replace p366 := eq_true p366
        replace q366 := eq_true q366
        have p367 : 0 ≤ (x5_1 : Int) := of_decide_eq_true (by first | (with_reducible assumption) | assumption)
        have q367 : x5_1 < (l1.length : Int) := of_decide_eq_true (by first | (with_reducible assumption) | assumption)
        obtain ⟨ad367, e367, hx367_0⟩ := Kd.at_int HR1.out x5_1 p367 q367
        cases e367
        replace p367 := eq_true p367
        replace q367 := eq_true q367
        go_wp2
        repeat (go_quiet (fail); try go_wp2)
        go_roundg k1
        case measure => have := HK1.out; omega
        case rel => exact ⟨(wrap64 (x5_1 + 1)), (by first | rfl | (simp; done) | (simp [*]; done)), H', ⟨by have := HK1.out; omega⟩, by repeat (first | exact Drawn0.refl _ | apply Drawn0.step)⟩
       ·
        rw [if_neg c7] at H
        have c7b0 : ((rd l0 x5_1) == (rd l1 x5_1)) = false := beq_eq_false_iff_ne.mpr c7
        have c7b1 : ((rd l0 x5_1) != (rd l1 x5_1)) = true := bne_iff_ne.mpr c7
        obtain rfl := Option.some.inj H
        have p366 : 0 ≤ (x5_1 : Int) := of_decide_eq_true (by first | (with_reducible assumption) | assumption)
        have q366 : x5_1 < (l0.length : Int) := of_decide_eq_true (by first | (with_reducible assumption) | assumption)
        obtain ⟨ad366, e366, hx366_0⟩ := Kd.at_int HR0.out x5_1 p366 q366
        cases e366
        replace p366 := eq_true p366
        replace q366 := eq_true q366
        have p367 : 0 ≤ (x5_1 : Int) := of_decide_eq_true (by first | (with_reducible assumption) | assumption)
        have q367 : x5_1 < (l1.length : Int) := of_decide_eq_true (by first | (with_reducible assumption) | assumption)
        obtain ⟨ad367, e367, hx367_0⟩ := Kd.at_int HR1.out x5_1 p367 q367
        cases e367
        replace p367 := eq_true p367
        replace q367 := eq_true q367
        go_wp2
        repeat (go_quiet (fail); try go_wp2)
        go_ret
        exact ⟨by first | rfl | (simp; done) | (simp [*]; done), by repeat (first | exact Drawn0.refl _ | apply Drawn0.step)⟩
      ·
       rw [if_neg c6] at H
       exact absurd H (by simp)
     ·
      rw [if_neg c5] at H
      exact absurd H (by simp)
    ·
     rw [if_neg c4] at H
     have c4b0 : decide (x5_1 < (l0.length : Int)) = false := decide_eq_false c4
     clear c4
     obtain rfl := Option.some.inj H
     go_wp2
     repeat (go_quiet (fail); try go_wp2)
     go_ret
     exact ⟨by first | rfl | (simp; done) | (simp [*]; done), by repeat (first | exact Drawn0.refl _ | apply Drawn0.step)⟩
 ·
  rw [if_neg c3] at H
  have c3b0 : ((l0.length : Int) == (l1.length : Int)) = false := beq_eq_false_iff_ne.mpr c3
  have c3b1 : ((l0.length : Int) != (l1.length : Int)) = true := bne_iff_ne.mpr c3
  have c3b2 : (l0.length == l1.length) = false := by first | simpa using c3 | (simp at c3 ⊢; omega)
  obtain rfl := Option.some.inj H
  go_enter Try.func20, Try.ntmps20
  go_wp2
  repeat (go_quiet (fail); try go_wp2)
  go_ret
  exact ⟨by first | rfl | (simp; done) | (simp [*]; done), by repeat (first | exact Drawn0.refl _ | apply Drawn0.step)⟩

end Go.Proofs.Ytippedfjmlkpiaa.PFnExactTableByPeeling
