-- made by wip/tools/myprint.py over the kit's print, for this claim
import Derived.Test.YtllaofiopnhdgaaPFnSparseCountsx0
import Derived.Test.YtllaofiopnhdgaaPFnSparseCountsx1
import Derived.Test.YtllaofiopnhdgaaPFnSparseCountsx2
namespace Go.Proofs.Ytllaofiopnhdgaa.PFnSparseCounts
open Go.RowKit Go.Proofs.YtllaofiopnhdgaaW.PrintWords Go.Proofs.YtllaofiopnhdgaaW.PrintLast Go.Proofs.YtllaofiopnhdgaaW.PrintMore
open List (setIfInBounds_toArray set_cons_zero set_cons_succ)
attribute [local go_sem] max2_int min2_int max_two min_two max_three min_three max_four min_four   -- for this text's walks alone
set_option linter.unusedVariables false
set_option linter.unusedSimpArgs false

/-! ### spec_l1In: function 30 -/
def spec_l1In.f (a0 : Int) (a1 : Int) (a2 : Int) : Option (Bool) := if a0 ≥ a1 then (some (decide (a0 ≤ a2))) else (some false)
set_option maxHeartbeats 8000000 in
set_option maxRecDepth 100000 in
theorem spec_l1In.calls (a0 : Int) (a1 : Int) (a2 : Int) (r : Bool) (w : World) (h : spec_l1In.f a0 a1 a2 = some r) :
    Calls Try.prog 30 #[.int .i64 a0, .int .i64 a1, .int .i64 a2] w fun e w' => e = .returned (.bool r) ∧ Drawn0 w w' := by
  have H : (if a0 ≥ a1 then (some (decide (a0 ≤ a2))) else (some false)) = some r := h
  clear h
  by_cases c4 : a0 ≥ a1
  · rw [if_pos c4] at H
    have c4b0 : decide (a1 ≤ a0) = true := decide_eq_true c4
    clear c4
    obtain rfl := Option.some.inj H
    go_enter Try.func30, Try.ntmps30
    go_wp2
    go_ret
    exact ⟨Z91, Z17⟩
  · rw [if_neg c4] at H
    have c4b0 : decide (a1 ≤ a0) = false := decide_eq_false c4
    clear c4
    obtain rfl := Option.some.inj H
    go_enter Try.func30, Try.ntmps30
    go_wp2
    go_ret
    exact ⟨Z91, Z17⟩

/-! ### spec_spLimit: function 60 -/
def spec_spLimit.f (a0 : Int) : Option (Bool) := (spec_l1In.f a0 1 100000).bind fun t239 => (some t239)
set_option maxHeartbeats 8000000 in
set_option maxRecDepth 100000 in
theorem spec_spLimit.calls (a0 : Int) (r : Bool) (w : World) (h : spec_spLimit.f a0 = some r) :
    Calls Try.prog 60 #[.int .i64 a0] w fun e w' => e = .returned (.bool r) ∧ Drawn0 w w' := by
  have H : ((spec_l1In.f a0 1 100000).bind fun t239 => (some t239)) = some r := h
  clear h
  replace H := Option.bind_eq_some_iff.mp H
  obtain ⟨t239, A20, H⟩ := H
  try dsimp only at H
  have A2 := Aside0.mk A20
  clear A20
  obtain rfl := Option.some.inj H
  go_enter Try.func60, Try.ntmps60
  go_wp2_with (first | ((with_reducible refine gate_callee (f := 30) rfl ?_); refine goesL_ (some 4) rfl rfl Try.func30 Z92 rfl #[.int .i64 a0, .int .i64 1, .int .i64 100000] rfl Z89 ?_; (with_reducible refine (spec_l1In.calls a0 1 100000 t239 _ A2.out).mono ?_); rintro e w' ⟨rfl, ⟨nd, rfl⟩⟩; refine ⟨_, rfl, ?_⟩))
  go_ret
  exact ⟨Z91, Z17⟩

/-! ### spec_spSorted: function 43 -/
def spec_spSorted.l0 : Nat → List Int → Int → List Int → Int → Int → Option (Bool)
 | 0, _, _, _, _, _ => none
 | k + 1, x0, x1, x7, x8, x9 => if x9 < x8 then (if 0 ≤ x9 then (if x9 < (x7.length : Int) then ((spec_l1In.f (rd x7 x9) 0 (wrap64 (x1 - 1))).bind fun t241 => (if t241 = true then (if x9 > 0 then (if 0 ≤ (wrap64 (x9 - 1)) then (if (wrap64 (x9 - 1)) < (x0.length : Int) then (if (rd x0 (wrap64 (x9 - 1))) > (rd x7 x9) then (some false) else (spec_spSorted.l0 k x0 x1 x7 x8 (wrap64 (x9 + 1)))) else (none)) else (none)) else (spec_spSorted.l0 k x0 x1 x7 x8 (wrap64 (x9 + 1)))) else (some false))) else (none)) else (none)) else (if (x0.length : Int) ≤ 60 then ((spec_spLimit.f x1).bind fun t243 => (some t243)) else (some false))
def spec_spSorted.f (k : Nat) (l0 : List Int) (a1 : Int) : Option (Bool) := spec_spSorted.l0 k l0 a1 l0 (l0.length : Int) 0
theorem spec_spSorted.mono_l : ∀ k, (∀ y0 y1 y2 y3 y4, LeO (spec_spSorted.l0 k y0 y1 y2 y3 y4) (spec_spSorted.l0 (k + 1) y0 y1 y2 y3 y4))
 | 0 => fun _ _ _ _ _ r h => by simp [spec_spSorted.l0] at h | k + 1 => by
  have ih0 := spec_spSorted.mono_l k
  ·
   intro y0 y1 y2 y3 y4
   unfold spec_spSorted.l0
   repeat' first
   | with_reducible first | exact ih0 .. | exact LeO.refl _ | exact LeO.none _ | refine LeO.ite ?_ ?_ | refine LeO.bind ?_ (fun _ => ?_)
   | exact ih0 .. | exact LeO.none _ | refine LeO.ite ?_ ?_ | refine LeO.bind ?_ (fun _ => ?_)
theorem spec_spSorted.mono : ∀ a0 a1 k, LeO (spec_spSorted.f k a0 a1) (spec_spSorted.f (k + 1) a0 a1) := by
 intro a0 a1 k
 have ih0 := spec_spSorted.mono_l k
 unfold spec_spSorted.f
 repeat' first
   | with_reducible first | exact ih0 .. | exact LeO.refl _ | exact LeO.none _ | refine LeO.ite ?_ ?_ | refine LeO.bind ?_ (fun _ => ?_)
   | exact ih0 .. | exact LeO.none _ | refine LeO.ite ?_ ?_ | refine LeO.bind ?_ (fun _ => ?_)
set_option maxHeartbeats 8000000 in
set_option maxRecDepth 100000 in
theorem spec_spSorted.calls (k : Nat) (A0 : Option Addr) (c0 : Nat) (l0 : List Int) (a1 : Int) (r : Bool) (w : World) (hr0 : Kd.C (Kd.int .i64) w A0 l0.length l0) (hc0 : l0.length ≤ c0) (h : spec_spSorted.f k l0 a1 = some r) :
  Calls Try.prog 43 #[.slice A0 l0.length c0, .int .i64 a1] w fun e w' => e = .returned (.bool r) ∧ Drawn0 w w' := by
 have HR0 := Aside0.mk hr0
 have HC0 := Aside0.mk hc0
 clear hr0 hc0
 have H : (spec_spSorted.l0 k l0 a1 l0 (l0.length : Int) 0) = some r := h
 clear h
 have H' := Aside0.mk H
 clear H
 go_enter Try.func43, Try.ntmps43
 go_wp2
 go_loopg [9] k (fun kq v9 w' => ∃ (x9_1 : Int), v9 = .int .i64 x9_1 ∧ Aside0 (spec_spSorted.l0 kq l0 a1 l0 (l0.length : Int) x9_1 = some r) ∧ Aside0 (kq ≤ k) ∧ Drawn0 w w')
 case atStart => exact ⟨(0), Z91, H', ⟨Nat.le_refl _⟩, Z17⟩
 case round =>
  clear H'
  try clear p2
  obtain ⟨x9_1, rfl, HA, HK1, ⟨m1, rfl⟩⟩ := hrel
  cases gk with
  | zero => exact absurd HA.out (by simp [spec_spSorted.l0])
  | succ k1 =>
   have H := HA.out
   clear HA
   simp only [spec_spSorted.l0] at H
   by_cases c3 : x9_1 < (l0.length : Int)
   ·
    rw [if_pos c3] at H
    have c3b0 : decide (x9_1 < (l0.length : Int)) = true := decide_eq_true c3
    clear c3
    by_cases c4 : 0 ≤ x9_1
    ·
     rw [if_pos c4] at H
     have c4b0 : decide (0 ≤ x9_1) = true := decide_eq_true c4
     clear c4
     by_cases c5 : x9_1 < (l0.length : Int)
     ·
      rw [if_pos c5] at H
      have c5b0 : decide (x9_1 < (l0.length : Int)) = true := decide_eq_true c5
      clear c5
      replace H := Option.bind_eq_some_iff.mp H
      obtain ⟨t241, A60, H⟩ := H
      try dsimp only at H
      have A6 := Aside0.mk A60
      clear A60
      by_cases c7 : t241 = true
      ·
       subst c7
       rw [if_pos rfl] at H
       by_cases c8 : x9_1 > 0
       ·
        rw [if_pos c8] at H
        have c8b0 : decide (0 < x9_1) = true := decide_eq_true c8
        clear c8
        obtain ⟨ji9, hji9⟩ : ∃ j_ : Int, (wrap64 (x9_1 - 1)) = j_ := ⟨_, rfl⟩
        replace H : (if 0 ≤ (ji9) then (if (ji9) < (l0.length : Int) then (if (rd l0 (ji9)) > (rd l0 x9_1) then (some false) else (spec_spSorted.l0 k1 l0 a1 l0 (l0.length : Int) (wrap64 (x9_1 + 1)))) else (none)) else (none)) = some r := by first | (rw [hji9] at H; exact H) | (simp only [hji9] at H ⊢; exact H)
        (try rw [hji9] at A6)
        have hji9w : (IntKind.i64.wrap (x9_1 - 1)) = ji9 := (i64_w _).trans hji9
        by_cases c10 : 0 ≤ (ji9)
        ·
         rw [if_pos c10] at H
         have c10b0 : decide (0 ≤ (ji9)) = true := decide_eq_true c10
         clear c10
         by_cases c11 : (ji9) < (l0.length : Int)
         ·
          rw [if_pos c11] at H
          have c11b0 : decide ((ji9) < (l0.length : Int)) = true := decide_eq_true c11
          clear c11
          by_cases c12 : (rd l0 (ji9)) > (rd l0 x9_1)
          ·
           rw [if_pos c12] at H
           have c12b0 : decide ((rd l0 x9_1) < (rd l0 (ji9))) = true := decide_eq_true c12
           clear c12
           obtain rfl := Option.some.inj H
           have p240 : 0 ≤ (x9_1 : Int) := of_decide_eq_true Z6
           have q240 : x9_1 < (l0.length : Int) := of_decide_eq_true Z6
           obtain ⟨ad240, e240, hx240_0⟩ := Kd.at_int HR0.out x9_1 p240 q240
           cases e240
           replace p240 := eq_true p240
           replace q240 := eq_true q240
           go_wp2_with (first | ((with_reducible refine gate_callee (f := 30) rfl ?_); refine goesL_ (some 17) rfl rfl Try.func30 Z92 rfl #[.int .i64 (rd l0 x9_1), .int .i64 0, .int .i64 (wrap64 (a1 - 1))] rfl Z89 ?_; (with_reducible refine (spec_l1In.calls (rd l0 x9_1) 0 (wrap64 (a1 - 1)) true _ A6.out).mono ?_); rintro e w' ⟨rfl, ⟨nd, rfl⟩⟩; refine ⟨_, rfl, ?_⟩; have p242 : 0 ≤ ((ji9) : Int) := of_decide_eq_true Z6; have q242 : (ji9) < (l0.length : Int) := of_decide_eq_true Z6; obtain ⟨ad242, e242, hx242_0⟩ := Kd.at_int HR0.out (ji9) p242 q242; obtain rfl : ad240 = ad242 := (by injection e242); replace p242 := eq_true p242; replace q242 := eq_true q242))
           go_ret
           exact ⟨Z102, Z17⟩
          rw [if_neg c12] at H
          have c12b0 : decide ((rd l0 x9_1) < (rd l0 (ji9))) = false := decide_eq_false c12
          clear c12
          have H' := Aside0.mk H
          clear H
          have p240 : 0 ≤ (x9_1 : Int) := of_decide_eq_true Z6
          have q240 : x9_1 < (l0.length : Int) := of_decide_eq_true Z6
          obtain ⟨ad240, e240, hx240_0⟩ := Kd.at_int HR0.out x9_1 p240 q240
          cases e240
          replace p240 := eq_true p240
          replace q240 := eq_true q240
          go_wp2_with (first | ((with_reducible refine gate_callee (f := 30) rfl ?_); refine goesL_ (some 17) rfl rfl Try.func30 Z92 rfl #[.int .i64 (rd l0 x9_1), .int .i64 0, .int .i64 (wrap64 (a1 - 1))] rfl Z89 ?_; (with_reducible refine (spec_l1In.calls (rd l0 x9_1) 0 (wrap64 (a1 - 1)) true _ A6.out).mono ?_); rintro e w' ⟨rfl, ⟨nd, rfl⟩⟩; refine ⟨_, rfl, ?_⟩; have p242 : 0 ≤ ((ji9) : Int) := of_decide_eq_true Z6; have q242 : (ji9) < (l0.length : Int) := of_decide_eq_true Z6; obtain ⟨ad242, e242, hx242_0⟩ := Kd.at_int HR0.out (ji9) p242 q242; obtain rfl : ad240 = ad242 := (by injection e242); replace p242 := eq_true p242; replace q242 := eq_true q242))
          go_roundg k1
          case measure => have := HK1.out; omega
          case rel => exact ⟨(wrap64 (x9_1 + 1)), Z91, H', ⟨by have := HK1.out; omega⟩, Z17⟩
         rw [if_neg c11] at H
         exact absurd H Z37
        rw [if_neg c10] at H
        exact absurd H Z37
       rw [if_neg c8] at H
       have c8b0 : decide (0 < x9_1) = false := decide_eq_false c8
       clear c8
       have H' := Aside0.mk H
       clear H
       have p240 : 0 ≤ (x9_1 : Int) := of_decide_eq_true Z6
       have q240 : x9_1 < (l0.length : Int) := of_decide_eq_true Z6
       obtain ⟨ad240, e240, hx240_0⟩ := Kd.at_int HR0.out x9_1 p240 q240
       cases e240
       replace p240 := eq_true p240
       replace q240 := eq_true q240
       go_wp2_with (first | ((with_reducible refine gate_callee (f := 30) rfl ?_); refine goesL_ (some 17) rfl rfl Try.func30 Z92 rfl #[.int .i64 (rd l0 x9_1), .int .i64 0, .int .i64 (wrap64 (a1 - 1))] rfl Z89 ?_; (with_reducible refine (spec_l1In.calls (rd l0 x9_1) 0 (wrap64 (a1 - 1)) true _ A6.out).mono ?_); rintro e w' ⟨rfl, ⟨nd, rfl⟩⟩; refine ⟨_, rfl, ?_⟩))
       go_roundg k1
       case measure => have := HK1.out; omega
       case rel => exact ⟨(wrap64 (x9_1 + 1)), Z91, H', ⟨by have := HK1.out; omega⟩, Z17⟩
      replace c7 := Bool.eq_false_iff.mpr c7
      subst c7
      rw [if_neg (show ¬ (false = true) from Z19)] at H
      obtain rfl := Option.some.inj H
      have p240 : 0 ≤ (x9_1 : Int) := of_decide_eq_true Z6
      have q240 : x9_1 < (l0.length : Int) := of_decide_eq_true Z6
      obtain ⟨ad240, e240, hx240_0⟩ := Kd.at_int HR0.out x9_1 p240 q240
      cases e240
      replace p240 := eq_true p240
      replace q240 := eq_true q240
      go_wp2_with (first | ((with_reducible refine gate_callee (f := 30) rfl ?_); refine goesL_ (some 17) rfl rfl Try.func30 Z92 rfl #[.int .i64 (rd l0 x9_1), .int .i64 0, .int .i64 (wrap64 (a1 - 1))] rfl Z89 ?_; (with_reducible refine (spec_l1In.calls (rd l0 x9_1) 0 (wrap64 (a1 - 1)) false _ A6.out).mono ?_); rintro e w' ⟨rfl, ⟨nd, rfl⟩⟩; refine ⟨_, rfl, ?_⟩))
      go_ret
      exact ⟨Z91, Z17⟩
     rw [if_neg c5] at H
     exact absurd H Z37
    rw [if_neg c4] at H
    exact absurd H Z37
   rw [if_neg c3] at H
   have c3b0 : decide (x9_1 < (l0.length : Int)) = false := decide_eq_false c3
   clear c3
   by_cases c13 : (l0.length : Int) ≤ 60
   ·
    rw [if_pos c13] at H
    have c13b0 : decide ((l0.length : Int) ≤ 60) = true := decide_eq_true c13
    have c13b1 : decide (l0.length ≤ 60) = true := decide_eq_true Z69
    clear c13
    replace H := Option.bind_eq_some_iff.mp H
    obtain ⟨t243, A140, H⟩ := H
    try dsimp only at H
    have A14 := Aside0.mk A140
    clear A140
    obtain rfl := Option.some.inj H
    go_wp2_with (first | (go_at_call 60; (with_reducible refine (spec_spLimit.calls a1 t243 _ A14.out).mono ?_); rintro e w' ⟨rfl, ⟨nd, rfl⟩⟩))
    go_ret
    exact ⟨Z91, Z17⟩
   rw [if_neg c13] at H
   have c13b0 : decide ((l0.length : Int) ≤ 60) = false := decide_eq_false c13
   have c13b1 : decide (l0.length ≤ 60) = false := decide_eq_false Z69
   clear c13
   obtain rfl := Option.some.inj H
   go_wp2
   go_ret
   exact ⟨Z91, Z17⟩

/-! ### spec_biAt: function 65 -/
def spec_biAt.f (a0_0 : Int) (l0_1 : List Int) (a1 : Int) : Option (Bool) := if 0 ≤ (wrap64 (Int.tdiv a1 16)) then (if (wrap64 (Int.tdiv a1 16)) < (l0_1.length : Int) then (if 0 ≤ (Int.tmod a1 16) then (some ((Go.bits .and .i64 (shr .i64 (rd l0_1 (wrap64 (Int.tdiv a1 16))) (Int.tmod a1 16)) 1) == 1)) else (none)) else (none)) else (none)
set_option maxHeartbeats 8000000 in
set_option maxRecDepth 100000 in
theorem spec_biAt.calls (a0_0 : Int) (A0_1 : Option Addr) (c0_1 : Nat) (l0_1 : List Int) (a1 : Int) (r : Bool) (w : World) (hr0_1 : Kd.C (Kd.int .i64) w A0_1 l0_1.length l0_1) (hc0_1 : l0_1.length ≤ c0_1) (h : spec_biAt.f a0_0 l0_1 a1 = some r) :
  Calls Try.prog 65 #[.agg #[.int .i64 a0_0, .slice A0_1 l0_1.length c0_1], .int .i64 a1] w fun e w' => e = .returned (.bool r) ∧ Below w.heap.size w w' := by
 have hu26 := Try.underlying26
 have HR0_1 := Aside0.mk hr0_1
 have HC0_1 := Aside0.mk hc0_1
 clear hr0_1 hc0_1
 have HB := Aside0.mk (Below.refl w.heap.size w)
 have H : (if 0 ≤ (wrap64 (Int.tdiv a1 16)) then (if (wrap64 (Int.tdiv a1 16)) < (l0_1.length : Int) then (if 0 ≤ (Int.tmod a1 16) then (some ((Go.bits .and .i64 (shr .i64 (rd l0_1 (wrap64 (Int.tdiv a1 16))) (Int.tmod a1 16)) 1) == 1)) else (none)) else (none)) else (none)) = some r := h
 clear h
 obtain ⟨ji3, hji3⟩ : ∃ j_ : Int, (wrap64 (Int.tdiv a1 16)) = j_ := ⟨_, rfl⟩
 replace H : (if 0 ≤ (ji3) then (if (ji3) < (l0_1.length : Int) then (if 0 ≤ (Int.tmod a1 16) then (some ((Go.bits .and .i64 (shr .i64 (rd l0_1 (ji3)) (Int.tmod a1 16)) 1) == 1)) else (none)) else (none)) else (none)) = some r := by first | (rw [hji3] at H; exact H) | (simp only [hji3] at H ⊢; exact H)
 have hji3w : (IntKind.i64.wrap (Int.tdiv a1 16)) = ji3 := (i64_w _).trans hji3
 by_cases c4 : 0 ≤ (ji3)
 ·
  rw [if_pos c4] at H
  have c4b0 : decide (0 ≤ (ji3)) = true := decide_eq_true c4
  clear c4
  by_cases c5 : (ji3) < (l0_1.length : Int)
  ·
   rw [if_pos c5] at H
   have c5b0 : decide ((ji3) < (l0_1.length : Int)) = true := decide_eq_true c5
   clear c5
   obtain ⟨ji6, hji6⟩ : ∃ j_ : Int, (Int.tmod a1 16) = j_ := ⟨_, rfl⟩
   replace H : (if 0 ≤ (ji6) then (some ((Go.bits .and .i64 (shr .i64 (rd l0_1 (ji3)) (ji6)) 1) == 1)) else (none)) = some r := by first | (rw [hji6] at H; exact H) | (simp only [hji6] at H ⊢; exact H)
   by_cases c7 : 0 ≤ (ji6)
   ·
    rw [if_pos c7] at H
    have c7b0 := eq_true c7
    have c7b1 : decide (0 ≤ (ji6)) = true := decide_eq_true c7
    clear c7
    obtain ⟨ji8, hji8⟩ : ∃ j_ : Int, (shr .i64 (rd l0_1 (ji3)) (ji6)) = j_ := ⟨_, rfl⟩
    replace H : (some ((Go.bits .and .i64 (ji8) 1) == 1)) = some r := by first | (rw [hji8] at H; exact H) | (simp only [hji8] at H ⊢; exact H)
    have hji8_ : ((rd l0_1 (ji3)) / 2 ^ min (ji6).toNat 64) = ji8 := hji8
    have hji8z : (ji6) ≤ 64 → ((rd l0_1 (ji3)) / 2 ^ (ji6).toNat) = ji8 := shr_small hji8
    obtain rfl := Option.some.inj H
    go_enter Try.func65, Try.ntmps65
    go_wp2_with (first | ((with_reducible refine gate_dst (N := 2) rfl ?_); refine box_event ?hg (N := 2) ?hd (cs := #[.int .i64 a0_0, .slice A0_1 l0_1.length c0_1]) (t := 26) ?hr ?_; (case hd => rfl); (case hg => rfl); (case hr => exact Z93); intro gb244 hg w9 hbox hb; have BK244 := Aside0.mk (hbox); have GW244 := nG HB hg; have GE244 := nG HB hg; have GI244 := gI GE244; replace HB := Aside0.mk (below_step (uN HB) hb); clear hb hbox hg; obtain ⟨hcz10_0, hcz10_1, hfz10_0, hfz10_1⟩ := ce2 BK244; have p245 : 0 ≤ ((ji3) : Int) := of_decide_eq_true Z6; have q245 : (ji3) < (l0_1.length : Int) := of_decide_eq_true Z6; obtain ⟨ad245, e245, hx245_0⟩ := Kd.at_int HR0_1.out (ji3) p245 q245; cases e245; replace hx245_0 := (HB.out.cell (World.block_lt_of_cell? w _ hx245_0)).trans hx245_0; replace p245 := eq_true p245; replace q245 := eq_true q245))
    go_ret
    exact ⟨Z95, by repeat (first | (with_reducible first | exact HB.out | apply below_alloc | apply pw_below_drewN | apply below_drew1 | refine below_set ?_ GE244.out) | exact HB.out)⟩
   rw [if_neg c7] at H
   exact absurd H Z37
  rw [if_neg c5] at H
  exact absurd H Z37
 rw [if_neg c4] at H
 exact absurd H Z37

/-! ### spec_biList: function 45 -/
def spec_biList.l0 : Nat → List Bool → Int → Int → List Int → Option (List Bool)
 | 0, _, _, _, _ => none
 | k + 1, x3, x4, x247000, x247001 => if x4 < x247000 then ((spec_biAt.f x247000 x247001 x4).bind fun t247 => (if x3.length < 140737488355328 then (spec_biList.l0 k (x3 ++ [t247]) (wrap64 (x4 + 1)) x247000 x247001) else (none))) else (some x3)
def spec_biList.f (k : Nat) (a0_0 : Int) (l0_1 : List Int) : Option (List Bool) := spec_biList.l0 k ([] : List Bool) 0 a0_0 l0_1
theorem spec_biList.mono_l : ∀ k, (∀ y0 y1 y2 y3, LeO (spec_biList.l0 k y0 y1 y2 y3) (spec_biList.l0 (k + 1) y0 y1 y2 y3))
 | 0 => fun _ _ _ _ r h => by simp [spec_biList.l0] at h | k + 1 => by
  have ih0 := spec_biList.mono_l k
  ·
   intro y0 y1 y2 y3
   unfold spec_biList.l0
   repeat' first
   | with_reducible first | exact ih0 .. | exact LeO.refl _ | exact LeO.none _ | refine LeO.ite ?_ ?_ | refine LeO.bind ?_ (fun _ => ?_)
   | exact ih0 .. | exact LeO.none _ | refine LeO.ite ?_ ?_ | refine LeO.bind ?_ (fun _ => ?_)
theorem spec_biList.mono : ∀ a0 a1 k, LeO (spec_biList.f k a0 a1) (spec_biList.f (k + 1) a0 a1) := by
 intro a0 a1 k
 have ih0 := spec_biList.mono_l k
 unfold spec_biList.f
 repeat' first
   | with_reducible first | exact ih0 .. | exact LeO.refl _ | exact LeO.none _ | refine LeO.ite ?_ ?_ | refine LeO.bind ?_ (fun _ => ?_)
   | exact ih0 .. | exact LeO.none _ | refine LeO.ite ?_ ?_ | refine LeO.bind ?_ (fun _ => ?_)
set_option maxHeartbeats 8000000 in
set_option maxRecDepth 100000 in
theorem spec_biList.calls (k : Nat) (a0_0 : Int) (A0_1 : Option Addr) (c0_1 : Nat) (l0_1 : List Int) (r : List Bool) (w : World) (hr0_1 : Kd.C (Kd.int .i64) w A0_1 l0_1.length l0_1) (hc0_1 : l0_1.length ≤ c0_1) (h : spec_biList.f k a0_0 l0_1 = some r) :
  Calls Try.prog 45 #[.agg #[.int .i64 a0_0, .slice A0_1 l0_1.length c0_1]] w fun e w' => ∃ v0_ : Value, e = .returned (v0_) ∧ Kd.R Kd.bool 4 w' w.heap.size (fun _ => True) v0_ r ∧ Below w.heap.size w w' := by
 have hu26 := Try.underlying26
 have HR0_1 := Aside0.mk hr0_1
 have HC0_1 := Aside0.mk hc0_1
 clear hr0_1 hc0_1
 have HB := Aside0.mk (Below.refl w.heap.size w)
 have H : (spec_biList.l0 k ([] : List Bool) 0 a0_0 l0_1) = some r := h
 clear h
 have H' := Aside0.mk H
 clear H
 go_enter Try.func45, Try.ntmps45
 go_wp2_with (first | ((with_reducible refine gate_dst (N := 1) rfl ?_); refine box_event ?hg (N := 1) ?hd (cs := #[.int .i64 a0_0, .slice A0_1 l0_1.length c0_1]) (t := 26) ?hr ?_; (case hd => rfl); (case hg => rfl); (case hr => exact Z93); intro gb246 hg w2 hbox hb; have BK246 := Aside0.mk (hbox); have GW246 := nG HB hg; have GE246 := nG HB hg; have GI246 := gI GE246; replace HB := Aside0.mk (below_step (uN HB) hb); clear hb hbox hg))
 go_loopg [3, 4] k (fun kq v3 v4 w' => ∃ (x3_1 : List Bool) (x4_1 : Int), v4 = .int .i64 x4_1 ∧ Aside0 (spec_biList.l0 kq x3_1 x4_1 a0_0 l0_1 = some r) ∧ Aside0 (kq ≤ k) ∧ Aside0 (Kd.R Kd.bool 4 w' w.heap.size (fun _ => True) v3 x3_1) ∧ Aside0 (w'.heap[gb246]? = some (.cells #[.int .i64 a0_0, (.slice A0_1 l0_1.length c0_1)] 26 (0, 0))) ∧ Aside0 (Below w.heap.size w w'))
 case atStart => exact ⟨(([] : List Bool)), (0), Z91, H', ⟨Nat.le_refl _⟩, ⟨Z40⟩, ⟨by refine uW ?_; exact BK246.out⟩, ⟨Z47⟩⟩
 case round =>
  clear H'
  try clear p2
  try clear HO_3
  obtain ⟨x3_1, x4_1, rfl, HA, HK1, HO_3, BK246, HB⟩ := hrel
  cases gk with
  | zero => exact absurd HA.out (by simp [spec_biList.l0])
  | succ k1 =>
   have H := HA.out
   clear HA
   simp only [spec_biList.l0] at H
   by_cases c3 : x4_1 < a0_0
   ·
    rw [if_pos c3] at H
    have c3b0 : decide (x4_1 < a0_0) = true := decide_eq_true c3
    clear c3
    replace H := Option.bind_eq_some_iff.mp H
    obtain ⟨t247, A40, H⟩ := H
    try dsimp only at H
    have A4 := Aside0.mk A40
    clear A40
    by_cases c5 : x3_1.length < 140737488355328
    ·
     rw [if_pos c5] at H
     have LMc5 := Aside0.mk c5
     clear c5
     obtain ⟨y248, hy248⟩ : ∃ y_ : List Bool, y_ = (x3_1 ++ [t247]) := ⟨_, rfl⟩
     replace H : (spec_biList.l0 k1 y248 (wrap64 (x4_1 + 1)) a0_0 l0_1) = some r := by first | (rw [hy248]; with_reducible exact H) | (have H2_ := (Option.bind_some _ _).symm.trans H; rw [hy248]; with_reducible exact H2_) | (have H2_ := (Option.bind_some _ _).symm.trans H; with_reducible exact H2_) | with_reducible exact H | (rw [hy248]; exact H) | exact H
     have Ny248 := Aside0.mk hy248
     clear hy248
     have H' := Aside0.mk H
     clear H
     obtain ⟨hcz6_0, hcz6_1, hfz6_0, hfz6_1⟩ := ce2 BK246
     go_wp2_with (first | ((with_reducible refine gate_callee (f := 65) rfl ?_); refine goesL_ (some 14) rfl rfl Try.func65 Z92 rfl #[.agg #[.int .i64 a0_0, .slice A0_1 l0_1.length c0_1], .int .i64 x4_1] rfl Z89 ?_; (with_reducible refine (spec_biAt.calls a0_0 _ _ l0_1 x4_1 t247 _ ?side1 ?side2 A4.out).mono ?_); (case side1 => exact uC HR0_1 HB); (case side2 => exact HC0_1.out); rintro e w7 ⟨rfl, hb⟩; refine ⟨_, rfl, ?_⟩; replace HO_3 := Aside0.mk (Kd.R_below (uR HO_3) hb); replace BK246 := kB BK246 hb; replace HB := Aside0.mk (below_step Z47 hb); (try clear hb); (try clear hb2); (try clear hk); (try clear hi)) | ((with_reducible refine gate_builtin (b := .append) (xs := #[.tmp 11, .tmp 15]) rfl ?_); at_builtin; refine Kd.R_append Kd.bool (w0 := w) w.heap.size rfl (.tmp 11) (.tmp 15) 68 4 (.bool false) 1 rfl Try.underlying68 info4 rfl Z19 Z69 u3 x3_1 t247 [.bool t247] (fun _ => True) (fun _ => False) rfl rfl ?aP (fun _ hk => hk.elim) ?aF ?aO ?aB ?aS ?aL ?_; (case aP => exact rfl); (case aB => exact Z47); (case aF => exact (fun _ _ => trivial)); (case aO => exact (uR HO_3)); (case aS => exact (below_size Z47)); (case aL => have := LMc5.out; omega); intro v249 w8 ho hb hg hat; rw [← Ny248.out] at ho; replace BK246 := Aside0.mk (blk_grown (g := gb246) (o := .cells #[.int .i64 a0_0, .slice A0_1 l0_1.length c0_1] 26 (0, 0)) (uK BK246) hg (Kd.R_ne HO_3.out BK246.out Z19)); replace HB := Aside0.mk (hb); have HO250 := Aside0.mk (ho); clear HO_3; clear ho hb hg hat))
     go_roundg k1
     case measure => have := HK1.out; omega
     case rel => exact ⟨(y248), (wrap64 (x4_1 + 1)), Z91, H', ⟨by have := HK1.out; omega⟩, ⟨by (with_reducible repeat (first | apply Kd.R_alloc | apply Kd.R_drewN | apply Kd.R_drew)); exact HO250.out⟩, ⟨by refine uW ?_; exact BK246.out⟩, ⟨Z47⟩⟩
    rw [if_neg c5] at H
    exact absurd H Z37
   rw [if_neg c3] at H
   have c3b0 : decide (x4_1 < a0_0) = false := decide_eq_false c3
   clear c3
   obtain rfl := Option.some.inj H
   obtain ⟨hcz9_0, hcz9_1, hfz9_0, hfz9_1⟩ := ce2 BK246
   go_wp2
   go_ret
   exact ⟨_, Z90, Z64, Z47⟩

/-! ### spec_l1Cur_bits: function 78 -/
def spec_l1Cur_bits.l0 : Nat → List Bool → Int → List Int → Int → Int → Option (Int × List Int × Int × Int)
 | 0, _, _, _, _, _ => none
 | k + 1, x5, x6, x1000, x1001, x1002 => if x6 > 0 then ((spec_l1Cur_one.f x1000 x1001 x1002 2).bind fun bt255 => (if x5.length < 140737488355328 then (spec_l1Cur_bits.l0 k (x5 ++ [bt255.1]) (wrap64 (x6 - 1)) x1000 bt255.2.1 bt255.2.2) else (none))) else ((spec_biSome.f k x5).bind fun bt261 => (some (bt261.1, bt261.2, x1001, x1002)))
def spec_l1Cur_bits.f (k : Nat) (s0_0 : List Int) (s0_1 : Int) (s0_2 : Int) (a1 : Int) : Option (Int × List Int × Int × Int) := (spec_l1Cur_pick.f s0_0 s0_1 s0_2 (wrap64 (a1 + 1))).bind fun bt252 => (spec_l1Cur_bits.l0 k ([] : List Bool) bt252.1 s0_0 bt252.2.1 bt252.2.2)
theorem spec_l1Cur_bits.mono_l : ∀ k, (∀ y0 y1 y2 y3 y4, LeO (spec_l1Cur_bits.l0 k y0 y1 y2 y3 y4) (spec_l1Cur_bits.l0 (k + 1) y0 y1 y2 y3 y4))
 | 0 => fun _ _ _ _ _ r h => by simp [spec_l1Cur_bits.l0] at h | k + 1 => by
  have ih0 := spec_l1Cur_bits.mono_l k
  ·
   intro y0 y1 y2 y3 y4
   unfold spec_l1Cur_bits.l0
   repeat' first
   | with_reducible first | exact ih0 .. | exact spec_biSome.mono .. | exact LeO.refl _ | exact LeO.none _ | refine LeO.ite ?_ ?_ | refine LeO.bind ?_ (fun _ => ?_)
   | exact ih0 .. | exact spec_biSome.mono .. | exact LeO.none _ | refine LeO.ite ?_ ?_ | refine LeO.bind ?_ (fun _ => ?_)
theorem spec_l1Cur_bits.mono : ∀ a0 a1 a2 a3 k, LeO (spec_l1Cur_bits.f k a0 a1 a2 a3) (spec_l1Cur_bits.f (k + 1) a0 a1 a2 a3) := by
 intro a0 a1 a2 a3 k
 have ih0 := spec_l1Cur_bits.mono_l k
 unfold spec_l1Cur_bits.f
 repeat' first
   | with_reducible first | exact ih0 .. | exact spec_biSome.mono .. | exact LeO.refl _ | exact LeO.none _ | refine LeO.ite ?_ ?_ | refine LeO.bind ?_ (fun _ => ?_)
   | exact ih0 .. | exact spec_biSome.mono .. | exact LeO.none _ | refine LeO.ite ?_ ?_ | refine LeO.bind ?_ (fun _ => ?_)
set_option maxHeartbeats 8000000 in
set_option maxRecDepth 100000 in
theorem spec_l1Cur_bits.calls (k : Nat) (g : Nat) (s0_0 : List Int) (s0_1 : Int) (s0_2 : Int) (a1 : Int) (r1 : Int) (r2 : List Int) (r3 : Int) (r4 : Int) (w0 w : World) (hI : IsS47 w0 w g s0_0 s0_1 s0_2) (hB : Below w0.heap.size w0 w) (h : spec_l1Cur_bits.f k s0_0 s0_1 s0_2 a1 = some (r1, r2, r3, r4)) :
  Calls Try.prog 78 #[.pointer (some ⟨g, 0, none⟩), .int .i64 a1] w fun e w' => ∃ v1_ : Value, e = .returned (.agg #[.int .i64 r1, v1_]) ∧ Kd.R (Kd.int .i64) 3 w' w.heap.size (fun _ => True) v1_ r2 ∧ IsS47 w0 w' g s0_0 r3 r4 ∧ Below w0.heap.size w0 w' ∧ KeepBut w w' g none := by
 have hu26 := Try.underlying26
 have HI0 := Aside0.mk hI
 have HK := Aside0.mk (KeepBut.refl w g none)
 have HL := Aside0.mk hB.size
 clear hI
 have HW0 := Aside0.mk hB.size
 have HB := Aside0.mk hB
 clear hB
 have H : ((spec_l1Cur_pick.f s0_0 s0_1 s0_2 (wrap64 (a1 + 1))).bind fun bt252 => (spec_l1Cur_bits.l0 k ([] : List Bool) bt252.1 s0_0 bt252.2.1 bt252.2.2)) = some (r1, r2, r3, r4) := h
 clear h
 replace H := Option.bind_eq_some_iff.mp H
 obtain ⟨⟨t252, t253, t254⟩, A30, H⟩ := H
 try dsimp only at H
 have A3 := Aside0.mk A30
 clear A30
 have H' := Aside0.mk H
 clear H
 go_enter Try.func78, Try.ntmps78
 go_wp2_with (first | ((with_reducible refine gate_dst (N := 4) rfl ?_); refine box_event ?hg (N := 4) ?hd (cs := #[.int .i64 0, .slice none 0 0]) (t := 26) ?hr ?_; (case hd => rfl); (case hg => rfl); (case hr => exact Z93); intro gb251 hg w4 hbox hb; replace HB := Aside0.mk (below_step Z4 hb); have BK251 := Aside0.mk (hbox); have GW251 := Aside0.mk ((by rw [hg]; exact (keep_size (w := w) (g := g) (row := none) Z2) : w.heap.size ≤ gb251)); have GE251 := Aside0.mk ((Nat.le_trans HW0.out (by rw [hg]; exact (keep_size (w := w) (g := g) (row := none) Z2) : w.heap.size ≤ gb251) : w0.heap.size ≤ gb251)); replace HK := Aside0.mk (KeepBut.trans Z2 (KeepBut.of_below hb g none) (.inl rfl)); have NB0_251 := Aside0.mk ((by rw [hg]; exact Nat.ne_of_lt (IsS47.lt (show IsS47 w0 _ g s0_0 s0_1 s0_2 from Z1)) : g ≠ gb251)); have NB251_0 := Aside0.mk ((by rw [hg]; exact Nat.ne_of_gt (IsS47.lt (show IsS47 w0 _ g s0_0 s0_1 s0_2 from Z1)) : gb251 ≠ g)); replace HI0 := Aside0.mk (IsS47.below Z1 hb); clear hb hbox hg) | ((with_reducible refine gate_callee (f := 44) rfl ?_); refine goesL_ (some 10) rfl rfl Try.func44 Z92 rfl #[.pointer (some ⟨g, 0, none⟩), .int .i64 (wrap64 (a1 + 1))] rfl Z89 ?_; (with_reducible refine (spec_l1Cur_pick.calls g s0_0 s0_1 s0_2 (wrap64 (a1 + 1)) t252 t253 t254 w0 _ ?side1 ?side2 A3.out).mono ?_); (case side1 => exact Z26); (case side2 => exact Z32); rintro e w5 ⟨rfl, hi, hb, hk⟩; refine ⟨_, rfl, ?_⟩; replace BK251 := Aside0.mk (KeepBut.blk hk (g' := gb251) (o := .cells #[.int .i64 0, .slice none 0 0] 26 (0, 0)) (uK BK251) NB251_0.out Z37); replace HK := Aside0.mk (KeepBut.trans Z27 hk (.inl rfl)); replace HB := Aside0.mk (hb); replace HI0 := Aside0.mk (hi); (try clear hb); (try clear hb2); (try clear hk); (try clear hi)))
 go_loopg [5, 6] k (fun kq v5 v6 w' => ∃ (x5_1 : List Bool) (x6_1 : Int) (x1001_1 : Int) (x1002_1 : Int), v6 = .int .i64 x6_1 ∧ Aside0 (spec_l1Cur_bits.l0 kq x5_1 x6_1 s0_0 x1001_1 x1002_1 = some (r1, r2, r3, r4)) ∧ Aside0 (kq ≤ k) ∧ Aside0 (Kd.R Kd.bool 4 w' w.heap.size (fun _ => True) v5 x5_1) ∧ Aside0 (w'.heap[gb251]? = some (.cells #[.int .i64 0, (.slice none 0 0)] 26 (0, 0))) ∧ Aside0 (IsS47 w0 w' g s0_0 x1001_1 x1002_1) ∧ Aside0 (KeepBut w w' g none) ∧ Aside0 (Below w0.heap.size w0 w'))
 case atStart => exact ⟨(([] : List Bool)), (t252), (t253), (t254), Z91, H', ⟨Nat.le_refl _⟩, ⟨Z40⟩, ⟨by refine uW ?_; exact BK251.out⟩, ⟨Z26⟩, ⟨Z27⟩, ⟨Z32⟩⟩
 case round =>
  clear H'
  try clear p2
  try clear c4
  try clear HO_5
  obtain ⟨x5_1, x6_1, x1001_1, x1002_1, rfl, HA, HK1, HO_5, BK251, HI0, HK, HB⟩ := hrel
  cases gk with
  | zero => exact absurd HA.out (by simp [spec_l1Cur_bits.l0])
  | succ k1 =>
   have H := HA.out
   clear HA
   simp only [spec_l1Cur_bits.l0] at H
   by_cases c6 : x6_1 > 0
   ·
    rw [if_pos c6] at H
    have c6b0 : decide (0 < x6_1) = true := decide_eq_true c6
    clear c6
    replace H := Option.bind_eq_some_iff.mp H
    obtain ⟨⟨t255, t256, t257⟩, A70, H⟩ := H
    try dsimp only at H
    have A7 := Aside0.mk A70
    clear A70
    by_cases c8 : x5_1.length < 140737488355328
    ·
     rw [if_pos c8] at H
     have LMc8 := Aside0.mk c8
     clear c8
     obtain ⟨y258, hy258⟩ : ∃ y_ : List Bool, y_ = (x5_1 ++ [t255]) := ⟨_, rfl⟩
     replace H : (spec_l1Cur_bits.l0 k1 y258 (wrap64 (x6_1 - 1)) s0_0 t256 t257) = some (r1, r2, r3, r4) := by first | (rw [hy258]; with_reducible exact H) | (have H2_ := (Option.bind_some _ _).symm.trans H; rw [hy258]; with_reducible exact H2_) | (have H2_ := (Option.bind_some _ _).symm.trans H; with_reducible exact H2_) | with_reducible exact H | (rw [hy258]; exact H) | exact H
     have Ny258 := Aside0.mk hy258
     clear hy258
     have H' := Aside0.mk H
     clear H
     go_wp2_with (first | ((with_reducible refine gate_callee (f := 73) rfl ?_); refine goesL_ (some 17) rfl rfl Try.func73 Z92 rfl #[.pointer (some ⟨g, 0, none⟩), .int .i64 2] rfl Z89 ?_; (with_reducible refine (spec_l1Cur_one.calls g s0_0 x1001_1 x1002_1 2 t255 t256 t257 w0 _ ?side1 ?side2 A7.out).mono ?_); (case side1 => exact Z26); (case side2 => exact Z32); rintro e w9 ⟨rfl, hi, hb, hk⟩; refine ⟨_, rfl, ?_⟩; replace HO_5 := Aside0.mk (Kd.R_mono (Kd.R_keep (IsS47.apart (show IsS47 w0 _ g s0_0 x1001_1 x1002_1 from Z26) (uR HO_5) Z19) hk (fun _ h => h.2)) (fun _ h => h.1)); replace BK251 := Aside0.mk (KeepBut.blk hk (g' := gb251) (o := .cells #[.int .i64 0, .slice none 0 0] 26 (0, 0)) (uK BK251) NB251_0.out Z37); replace HK := Aside0.mk (KeepBut.trans Z27 hk (.inl rfl)); replace HB := Aside0.mk (hb); replace HI0 := Aside0.mk (hi); (try clear hb); (try clear hb2); (try clear hk); (try clear hi)) | ((with_reducible refine gate_builtin (b := .append) (xs := #[.tmp 15, .tmp 18]) rfl ?_); at_builtin; refine Kd.R_append Kd.bool w.heap.size rfl (.tmp 15) (.tmp 18) 68 4 (.bool false) 1 rfl Try.underlying68 info4 rfl Z19 Z69 u5 x5_1 t255 [.bool t255] (fun _ => True) (fun _ => False) rfl rfl ?aP (fun _ hk => hk.elim) ?aF ?aO (Below.refl _ _) ?aS ?aL ?_; (case aP => exact rfl); (case aF => exact (fun _ _ => trivial)); (case aO => exact (uR HO_5)); (case aS => exact (keep_size (w := w) (g := g) (row := none) Z27)); (case aL => have := LMc8.out; omega); intro v259 w10 ho hb hg hat; rw [← Ny258.out] at ho; replace BK251 := Aside0.mk (blk_grown (g := gb251) (o := .cells #[.int .i64 0, .slice none 0 0] 26 (0, 0)) (uK BK251) hg (Kd.R_ne HO_5.out BK251.out Z19)); replace HB := Aside0.mk (below_weaken Z32 HL.out hb); replace HI0 := Aside0.mk (IsS47.grown Z26 hg (IsS47.own_ne HI0.out HO_5.out Z19)); replace HK := Aside0.mk (KeepBut.trans Z27 (KeepBut.of_grown hg g) (Kd.R_base2 HO_5.out)); have HO260 := Aside0.mk (ho); clear HO_5; clear ho hb hg hat))
     go_roundg k1
     case measure => have := HK1.out; omega
     case rel => exact ⟨(y258), (wrap64 (x6_1 - 1)), (t256), (t257), Z91, H', ⟨by have := HK1.out; omega⟩, ⟨by (with_reducible repeat (first | apply Kd.R_alloc | apply Kd.R_drewN | apply Kd.R_drew)); exact HO260.out⟩, ⟨by refine uW ?_; exact BK251.out⟩, ⟨Z26⟩, ⟨Z27⟩, ⟨Z32⟩⟩
    rw [if_neg c8] at H
    exact absurd H Z37
   rw [if_neg c6] at H
   have c6b0 : decide (0 < x6_1) = false := decide_eq_false c6
   clear c6
   replace H := Option.bind_eq_some_iff.mp H
   obtain ⟨⟨t261, t262⟩, A110, H⟩ := H
   try dsimp only at H
   have A11 := Aside0.mk A110
   clear A110
   simp only [Option.some.injEq, Prod.mk.injEq] at H
   obtain ⟨rfl, rfl, rfl, rfl⟩ := H
   obtain ⟨Ao12, co12, eo12⟩ := Kd.R_slice HO_5.out
   subst eo12
   go_wp2_with (first | ((with_reducible refine gate_callee (f := 46) rfl ?_); refine goesL_ (some 21) rfl rfl Try.func46 Z92 rfl #[.slice Ao12 x5_1.length co12] rfl Z89 ?_; (with_reducible refine (spec_biSome.calls k1 _ _ x5_1 t261 t262 _ ?side1 ?side2 A11.out).mono ?_); (case side1 => exact uD HO_5); (case side2 => exact (Kd.R_reads' HO_5.out).2.1); rintro e w13 ⟨v263, rfl, ho0, hb⟩; refine ⟨_, rfl, ?_⟩; replace HO_5 := Aside0.mk (Kd.R_below (uR HO_5) hb); have HO264 := Aside0.mk (Kd.R_lower ho0 (keep_size (w := w) (g := g) (row := none) Z27)); replace BK251 := kB BK251 hb; replace HK := Aside0.mk (KeepBut.trans Z27 (KeepBut.of_below hb g none) (.inl rfl)); replace HB := Aside0.mk (below_step Z32 hb); replace HI0 := Aside0.mk (IsS47.below Z26 hb); (try clear hb); (try clear hb2); (try clear hk); (try clear hi); (try clear ho0); have hnb14 := NB251_0.out; have hnc14 := NB0_251.out; obtain ⟨hcz15_0, hcz15_1, hfz15_0, hfz15_1⟩ := ce2 BK251; obtain ⟨Ao16, co16, eo16⟩ := Kd.R_slice HO264.out; subst eo16))
   refine bodyPost_ret (results_cell_row rfl _ _ gb251 26 #[.int .i64 t261, .slice Ao16 t262.length co16] (0, 0) _ rfl (by refine uW ?_; refine blk_put (cs := #[.int .i64 t261, .slice none 0 0]) ?_ 1 _ rfl; refine uW ?_; refine blk_put (cs := #[.int .i64 0, .slice none 0 0]) ?_ 0 _ rfl; refine uW ?_; exact BK251.out) Try.underlying26 rfl Z92) rfl ?_
   exact ⟨_, Z90, by (with_reducible repeat (first | apply Kd.R_alloc | apply Kd.R_drewN | apply Kd.R_drew)); exact Kd.R_mono (Kd.R_far (p := ⟨gb251, 1, none⟩) (Kd.R_far (p := ⟨gb251, 0, none⟩) (Kd.R_types HO264.out BK251.out Z19) (fun _ hk => hk.2) (.int .i64 t261)) (fun _ hk => hk.2) (.slice Ao16 t262.length co16)) (fun _ hk => trivial), Z26, Z32, Z27⟩

end Go.Proofs.Ytllaofiopnhdgaa.PFnSparseCounts
