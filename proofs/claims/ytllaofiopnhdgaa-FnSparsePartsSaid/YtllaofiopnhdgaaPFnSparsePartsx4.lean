-- made by wip/tools/myprint.py over the kit's print, for this claim
import Derived.Test.YtllaofiopnhdgaaPFnSparsePartsx0
import Derived.Test.YtllaofiopnhdgaaPFnSparsePartsx1
namespace Go.Proofs.Ytllaofiopnhdgaa.PFnSparseParts
open Go.RowKit Go.Proofs.YtllaofiopnhdgaaW.PrintWords Go.Proofs.YtllaofiopnhdgaaW.PrintLast Go.Proofs.YtllaofiopnhdgaaW.PrintMore
open List (setIfInBounds_toArray set_cons_zero set_cons_succ)
attribute [local go_sem] max2_int min2_int max_two min_two max_three min_three max_four min_four   -- for this text's walks alone
set_option linter.unusedVariables false
set_option linter.unusedSimpArgs false

set_option maxHeartbeats 8000000
set_option maxRecDepth 100000
/-! ### FB: function 53 -/
def FB.l0 : Nat → List Int → Int → List Int → Int → Int → Option (Bool)
 | 0, _, _, _, _, _ => none
 | k + 1, x0, x1, x7, x8, x9 => if x9 < x8 then (if 0 ≤ x9 then (if x9 < (x7.length : Int) then ((Fr.f (rd x7 x9) 0 (wrap64 (x1 - 1))).bind fun t2 => (if t2 = true then (if x9 > 0 then (if 0 ≤ (wrap64 (x9 - 1)) then (if (wrap64 (x9 - 1)) < (x0.length : Int) then (if (rd x0 (wrap64 (x9 - 1))) > (rd x7 x9) then (some false) else (FB.l0 k x0 x1 x7 x8 (wrap64 (x9 + 1)))) else (none)) else (none)) else (FB.l0 k x0 x1 x7 x8 (wrap64 (x9 + 1)))) else (some false))) else (none)) else (none)) else ((Fia.f x1).bind fun t3 => (if t3 = true then (some (decide ((x0.length : Int) ≤ 60))) else (some false)))
def FB.f (k : Nat) (l0 : List Int) (a1 : Int) : Option (Bool) := FB.l0 k l0 a1 l0 (l0.length : Int) 0
theorem FB.mono_l : ∀ k, (∀ y0 y1 y2 y3 y4, LeO (FB.l0 k y0 y1 y2 y3 y4) (FB.l0 (k + 1) y0 y1 y2 y3 y4))
 | 0 => fun _ _ _ _ _ r h => by simp [FB.l0] at h | k + 1 => by
  have ih0 := FB.mono_l k
  ·
   intro y0 y1 y2 y3 y4
   unfold FB.l0
   exact Mo1
theorem FB.mono : ∀ a0 a1 k, LeO (FB.f k a0 a1) (FB.f (k + 1) a0 a1) := by
 intro a0 a1 k
 have ih0 := FB.mono_l k
 unfold FB.f
 exact Mo1
theorem FB.calls (k : Nat) (A0 : Option Addr) (c0 : Nat) (l0 : List Int) (a1 : Int) (r : Bool) (w : World) (hr0 : Kd.C (Kd.int .i64) w A0 l0.length l0) (hc0 : l0.length ≤ c0) (h : FB.f k l0 a1 = some r) :
  Calls Try.prog 53 #[.slice A0 l0.length c0, .int .i64 a1] w fun e w' => e = .returned (.bool r) ∧ Drawn0 w w' := by
 have HR0 := am hr0
 have HC0 := am hc0
 clear hr0 hc0
 have H : (FB.l0 k l0 a1 l0 (l0.length : Int) 0) = some r := h
 clear h
 have H' := am H
 clear H
 go_enter Try.func53, Try.ntmps53
 go_wp2
 go_loopg [9] k (fun kq v9 w' => ∃ (x9_1 : Int), v9 = .int .i64 x9_1 ∧ Aside0 (FB.l0 kq l0 a1 l0 (l0.length : Int) x9_1 = some r) ∧ Aside0 (kq ≤ k) ∧ Drawn0 w w')
 case atStart => exact ⟨(0), Z110, H', ⟨Nat.le_refl _⟩, Z22⟩
 case round =>
  clear H'
  try clear p2
  obtain ⟨x9_1, rfl, HA, HK1, ⟨m1, rfl⟩⟩ := hrel
  cases gk with
  | zero => exact absurd HA.out (by simp [FB.l0])
  | succ k1 =>
   have H := HA.out
   clear HA
   simp only [FB.l0] at H
   by_cases c3 : x9_1 < (l0.length : Int)
   rotate_left
   ·
    rw [if_neg c3] at H
    have c3b0 := decide_eq_false c3
    clear c3
    replace H := Option.bind_eq_some_iff.mp H
    obtain ⟨t18, A19, H⟩ := H
    try dsimp only at H
    have A13 := am A19
    clear A19
    by_cases c14 : t18 = true
    ·
     subst c14
     rw [if_pos rfl] at H
     obtain rfl := Option.some.inj H
     go_wp2_with (first | ((with_reducible refine gate_callee (f := 79) rfl ?_); refine gL 34 rfl Try.func79 #[.int .i64 a1] ?_; (with_reducible refine (Fia.calls a1 true _ A13.out).mono ?_); rintro e w' ⟨rfl, ⟨nd, rfl⟩⟩; refine ⟨_, rfl, ?_⟩))
     go_ret
     exact ⟨Z110, Z22⟩
    replace c14 := Bool.eq_false_iff.mpr c14
    subst c14
    rw [if_neg (show ¬ (false = true) from Z16)] at H
    obtain rfl := Option.some.inj H
    go_wp2_with (first | ((with_reducible refine gate_callee (f := 79) rfl ?_); refine gL 34 rfl Try.func79 #[.int .i64 a1] ?_; (with_reducible refine (Fia.calls a1 false _ A13.out).mono ?_); rintro e w' ⟨rfl, ⟨nd, rfl⟩⟩; refine ⟨_, rfl, ?_⟩))
    go_ret
    exact ⟨Z110, Z22⟩
   rw [if_pos c3] at H
   have c3b0 := decide_eq_true c3
   clear c3
   by_cases c4 : 0 ≤ x9_1
   rotate_left
   ·
    rw [if_neg c4] at H
    exact absurd H Z43
   rw [if_pos c4] at H
   have c4b0 := decide_eq_true c4
   clear c4
   by_cases c5 : x9_1 < (l0.length : Int)
   rotate_left
   ·
    rw [if_neg c5] at H
    exact absurd H Z43
   rw [if_pos c5] at H
   have c5b0 := decide_eq_true c5
   clear c5
   replace H := Option.bind_eq_some_iff.mp H
   obtain ⟨t15, A60, H⟩ := H
   try dsimp only at H
   have A6 := am A60
   clear A60
   by_cases c7 : t15 = true
   rotate_left
   ·
    replace c7 := Bool.eq_false_iff.mpr c7
    subst c7
    rw [if_neg (show ¬ (false = true) from Z16)] at H
    obtain rfl := Option.some.inj H
    have p16 : 0 ≤ (x9_1 : Int) := of_decide_eq_true Z6
    have q16 : x9_1 < (l0.length : Int) := of_decide_eq_true Z6
    obtain ⟨ad16, e16, hx16_0⟩ := Kd.at_int HR0.out x9_1 p16 q16
    cases e16
    replace p16 := eq_true p16
    replace q16 := eq_true q16
    go_wp2_with (first | ((with_reducible refine gate_callee (f := 23) rfl ?_); refine gL 17 rfl Try.func23 #[.int .i64 (rd l0 x9_1), .int .i64 0, .int .i64 (wrap64 (a1 - 1))] ?_; (with_reducible refine (Fr.calls (rd l0 x9_1) 0 (wrap64 (a1 - 1)) false _ A6.out).mono ?_); rintro e w' ⟨rfl, ⟨nd, rfl⟩⟩; refine ⟨_, rfl, ?_⟩))
    go_ret
    exact ⟨Z110, Z22⟩
   subst c7
   rw [if_pos rfl] at H
   by_cases c8 : x9_1 > 0
   rotate_left
   ·
    rw [if_neg c8] at H
    have c8b0 := decide_eq_false c8
    clear c8
    have H' := am H
    clear H
    have p16 : 0 ≤ (x9_1 : Int) := of_decide_eq_true Z6
    have q16 : x9_1 < (l0.length : Int) := of_decide_eq_true Z6
    obtain ⟨ad16, e16, hx16_0⟩ := Kd.at_int HR0.out x9_1 p16 q16
    cases e16
    replace p16 := eq_true p16
    replace q16 := eq_true q16
    go_wp2_with (first | ((with_reducible refine gate_callee (f := 23) rfl ?_); refine gL 17 rfl Try.func23 #[.int .i64 (rd l0 x9_1), .int .i64 0, .int .i64 (wrap64 (a1 - 1))] ?_; (with_reducible refine (Fr.calls (rd l0 x9_1) 0 (wrap64 (a1 - 1)) true _ A6.out).mono ?_); rintro e w' ⟨rfl, ⟨nd, rfl⟩⟩; refine ⟨_, rfl, ?_⟩))
    go_roundg k1
    case measure => have := HK1.out; omega
    case rel => exact ⟨(wrap64 (x9_1 + 1)), Z110, H', ⟨by have := HK1.out; omega⟩, Z22⟩
   rw [if_pos c8] at H
   have c8b0 := decide_eq_true c8
   clear c8
   obtain ⟨ji9, hji9⟩ : ∃ j_ : Int, (wrap64 (x9_1 - 1)) = j_ := ⟨_, rfl⟩
   replace H : (if 0 ≤ (ji9) then (if (ji9) < (l0.length : Int) then (if (rd l0 (ji9)) > (rd l0 x9_1) then (some false) else (FB.l0 k1 l0 a1 l0 (l0.length : Int) (wrap64 (x9_1 + 1)))) else (none)) else (none)) = some r := by first | (rw [hji9] at H; exact H) | (simp only [hji9] at H ⊢; exact H)
   (try rw [hji9] at A6)
   have hji9w : (IntKind.i64.wrap (x9_1 - 1)) = ji9 := (i64_w _).trans hji9
   by_cases c10 : 0 ≤ (ji9)
   rotate_left
   ·
    rw [if_neg c10] at H
    exact absurd H Z43
   rw [if_pos c10] at H
   have c10b0 := decide_eq_true c10
   clear c10
   by_cases c11 : (ji9) < (l0.length : Int)
   rotate_left
   ·
    rw [if_neg c11] at H
    exact absurd H Z43
   rw [if_pos c11] at H
   have c11b0 := decide_eq_true c11
   clear c11
   by_cases c12 : (rd l0 (ji9)) > (rd l0 x9_1)
   ·
    rw [if_pos c12] at H
    have c12b0 := decide_eq_true c12
    clear c12
    obtain rfl := Option.some.inj H
    have p16 : 0 ≤ (x9_1 : Int) := of_decide_eq_true Z6
    have q16 : x9_1 < (l0.length : Int) := of_decide_eq_true Z6
    obtain ⟨ad16, e16, hx16_0⟩ := Kd.at_int HR0.out x9_1 p16 q16
    cases e16
    replace p16 := eq_true p16
    replace q16 := eq_true q16
    go_wp2_with (first | ((with_reducible refine gate_callee (f := 23) rfl ?_); refine gL 17 rfl Try.func23 #[.int .i64 (rd l0 x9_1), .int .i64 0, .int .i64 (wrap64 (a1 - 1))] ?_; (with_reducible refine (Fr.calls (rd l0 x9_1) 0 (wrap64 (a1 - 1)) true _ A6.out).mono ?_); rintro e w' ⟨rfl, ⟨nd, rfl⟩⟩; refine ⟨_, rfl, ?_⟩; have p17 : 0 ≤ ((ji9) : Int) := of_decide_eq_true Z6; have q17 : (ji9) < (l0.length : Int) := of_decide_eq_true Z6; obtain ⟨ad17, e17, hx17_0⟩ := Kd.at_int HR0.out (ji9) p17 q17; obtain rfl : ad16 = ad17 := (by injection e17); replace p17 := eq_true p17; replace q17 := eq_true q17))
    go_ret
    exact ⟨Z139, Z22⟩
   rw [if_neg c12] at H
   have c12b0 := decide_eq_false c12
   clear c12
   have H' := am H
   clear H
   have p16 : 0 ≤ (x9_1 : Int) := of_decide_eq_true Z6
   have q16 : x9_1 < (l0.length : Int) := of_decide_eq_true Z6
   obtain ⟨ad16, e16, hx16_0⟩ := Kd.at_int HR0.out x9_1 p16 q16
   cases e16
   replace p16 := eq_true p16
   replace q16 := eq_true q16
   go_wp2_with (first | ((with_reducible refine gate_callee (f := 23) rfl ?_); refine gL 17 rfl Try.func23 #[.int .i64 (rd l0 x9_1), .int .i64 0, .int .i64 (wrap64 (a1 - 1))] ?_; (with_reducible refine (Fr.calls (rd l0 x9_1) 0 (wrap64 (a1 - 1)) true _ A6.out).mono ?_); rintro e w' ⟨rfl, ⟨nd, rfl⟩⟩; refine ⟨_, rfl, ?_⟩; have p17 : 0 ≤ ((ji9) : Int) := of_decide_eq_true Z6; have q17 : (ji9) < (l0.length : Int) := of_decide_eq_true Z6; obtain ⟨ad17, e17, hx17_0⟩ := Kd.at_int HR0.out (ji9) p17 q17; obtain rfl : ad16 = ad17 := (by injection e17); replace p17 := eq_true p17; replace q17 := eq_true q17))
   go_roundg k1
   case measure => have := HK1.out; omega
   case rel => exact ⟨(wrap64 (x9_1 + 1)), Z110, H', ⟨by have := HK1.out; omega⟩, Z22⟩

/-! ### FG: function 81 -/
def FG.l0 : Nat → List Int → List Int → Int → Int → Option (Bool)
 | 0, _, _, _, _ => none
 | k + 1, x0, x1, x12, x13 => if x13 < x12 then (if 0 ≤ x13 then (if x13 < (x0.length : Int) then (if x13 < (x1.length : Int) then (if (rd x0 x13) = (rd x1 x13) then (FG.l0 k x0 x1 x12 (wrap64 (x13 + 1))) else (some false)) else (none)) else (none)) else (none)) else (some true)
def FG.f (k : Nat) (l0 : List Int) (l1 : List Int) : Option (Bool) := if (l0.length : Int) = (l1.length : Int) then (FG.l0 k l0 l1 (l0.length : Int) 0) else (some false)
theorem FG.mono_l : ∀ k, (∀ y0 y1 y2 y3, LeO (FG.l0 k y0 y1 y2 y3) (FG.l0 (k + 1) y0 y1 y2 y3))
 | 0 => fun _ _ _ _ r h => by simp [FG.l0] at h | k + 1 => by
  have ih0 := FG.mono_l k
  ·
   intro y0 y1 y2 y3
   unfold FG.l0
   exact Mo1
theorem FG.mono : ∀ a0 a1 k, LeO (FG.f k a0 a1) (FG.f (k + 1) a0 a1) := by
 intro a0 a1 k
 have ih0 := FG.mono_l k
 unfold FG.f
 exact Mo1
theorem FG.calls (k : Nat) (A0 : Option Addr) (c0 : Nat) (l0 : List Int) (A1 : Option Addr) (c1 : Nat) (l1 : List Int) (r : Bool) (w : World) (hr0 : Kd.C (Kd.int .i64) w A0 l0.length l0) (hc0 : l0.length ≤ c0) (hr1 : Kd.C (Kd.int .i64) w A1 l1.length l1) (hc1 : l1.length ≤ c1) (h : FG.f k l0 l1 = some r) :
  Calls Try.prog 81 #[.slice A0 l0.length c0, .slice A1 l1.length c1] w fun e w' => e = .returned (.bool r) ∧ Drawn0 w w' := by
 have HR0 := am hr0
 have HC0 := am hc0
 clear hr0 hc0
 have HR1 := am hr1
 have HC1 := am hc1
 clear hr1 hc1
 have H : (if (l0.length : Int) = (l1.length : Int) then (FG.l0 k l0 l1 (l0.length : Int) 0) else (some false)) = some r := h
 clear h
 by_cases c3 : (l0.length : Int) = (l1.length : Int)
 rotate_left
 ·
  rw [if_neg c3] at H
  have c3b0 : ((l0.length : Int) == (l1.length : Int)) = false := beq_eq_false_iff_ne.mpr c3
  have c3b1 : ((l0.length : Int) != (l1.length : Int)) = true := bne_iff_ne.mpr c3
  have c3b2 : (l0.length == l1.length) = false := by first | simpa using c3 | (simp at c3 ⊢; omega)
  obtain rfl := Option.some.inj H
  go_enter Try.func81, Try.ntmps81
  go_wp2
  repeat (go_quiet (fail); try go_wp2)
  go_ret
  exact ⟨Z110, Z22⟩
 rw [if_pos c3] at H
 have c3b0 : ((l0.length : Int) == (l1.length : Int)) = true := beq_iff_eq.mpr c3
 have c3b1 : ((l0.length : Int) != (l1.length : Int)) = false := bne_eq_false_iff_eq.mpr c3
 have c3b2 : (l0.length == l1.length) = true := by first | simpa using c3 | (simp at c3 ⊢; omega)
 clear c3
 have H' := am H
 clear H
 go_enter Try.func81, Try.ntmps81
 go_wp2
 repeat (go_quiet (fail); try go_wp2)
 go_loopg [13] k (fun kq v13 w' => ∃ (x13_1 : Int), v13 = .int .i64 x13_1 ∧ Aside0 (FG.l0 kq l0 l1 (l0.length : Int) x13_1 = some r) ∧ Aside0 (kq ≤ k) ∧ Drawn0 w w')
 case atStart => exact ⟨(0), Z110, H', ⟨Nat.le_refl _⟩, Z22⟩
 case round =>
  clear H'
  try clear c1
  try clear p2
  try clear c3
  try clear c3b0
  try clear c3b1
  try clear c3b2
  obtain ⟨x13_1, rfl, HA, HK1, ⟨m1, rfl⟩⟩ := hrel
  cases gk with
  | zero => exact absurd HA.out (by simp [FG.l0])
  | succ k1 =>
   have H := HA.out
   clear HA
   simp only [FG.l0] at H
   by_cases c4 : x13_1 < (l0.length : Int)
   rotate_left
   ·
    rw [if_neg c4] at H
    have c4b0 := decide_eq_false c4
    clear c4
    obtain rfl := Option.some.inj H
    go_wp2
    repeat (go_quiet (fail); try go_wp2)
    go_ret
    exact ⟨Z110, Z22⟩
   rw [if_pos c4] at H
   have c4b0 := decide_eq_true c4
   clear c4
   by_cases c5 : 0 ≤ x13_1
   rotate_left
   ·
    rw [if_neg c5] at H
    exact absurd H Z43
   rw [if_pos c5] at H
   have c5b0 := decide_eq_true c5
   clear c5
   by_cases c6 : x13_1 < (l0.length : Int)
   rotate_left
   ·
    rw [if_neg c6] at H
    exact absurd H Z43
   rw [if_pos c6] at H
   have c6b0 := decide_eq_true c6
   clear c6
   by_cases c7 : x13_1 < (l1.length : Int)
   rotate_left
   ·
    rw [if_neg c7] at H
    exact absurd H Z43
   rw [if_pos c7] at H
   have c7b0 := decide_eq_true c7
   clear c7
   by_cases c8 : (rd l0 x13_1) = (rd l1 x13_1)
   rotate_left
   ·
    rw [if_neg c8] at H
    have c8b0 : ((rd l0 x13_1) == (rd l1 x13_1)) = false := beq_eq_false_iff_ne.mpr c8
    have c8b1 : ((rd l0 x13_1) != (rd l1 x13_1)) = true := bne_iff_ne.mpr c8
    obtain rfl := Option.some.inj H
    have p9 : 0 ≤ (x13_1 : Int) := of_decide_eq_true Z6
    have q9 : x13_1 < (l0.length : Int) := of_decide_eq_true Z6
    obtain ⟨ad9, e9, hx9_0⟩ := Kd.at_int HR0.out x13_1 p9 q9
    cases e9
    replace p9 := eq_true p9
    replace q9 := eq_true q9
    have p10 : 0 ≤ (x13_1 : Int) := of_decide_eq_true Z6
    have q10 : x13_1 < (l1.length : Int) := of_decide_eq_true Z6
    obtain ⟨ad10, e10, hx10_0⟩ := Kd.at_int HR1.out x13_1 p10 q10
    cases e10
    replace p10 := eq_true p10
    replace q10 := eq_true q10
    go_wp2
    repeat (go_quiet (fail); try go_wp2)
    go_ret
    exact ⟨Z110, Z22⟩
   rw [if_pos c8] at H
   have c8b0 : ((rd l0 x13_1) == (rd l1 x13_1)) = true := beq_iff_eq.mpr c8
   have c8b1 : ((rd l0 x13_1) != (rd l1 x13_1)) = false := bne_eq_false_iff_eq.mpr c8
   clear c8
   have H' := am H
   clear H
   have p9 : 0 ≤ (x13_1 : Int) := of_decide_eq_true Z6
   have q9 : x13_1 < (l0.length : Int) := of_decide_eq_true Z6
   obtain ⟨ad9, e9, hx9_0⟩ := Kd.at_int HR0.out x13_1 p9 q9
   cases e9
   replace p9 := eq_true p9
   replace q9 := eq_true q9
   have p10 : 0 ≤ (x13_1 : Int) := of_decide_eq_true Z6
   have q10 : x13_1 < (l1.length : Int) := of_decide_eq_true Z6
   obtain ⟨ad10, e10, hx10_0⟩ := Kd.at_int HR1.out x13_1 p10 q10
   cases e10
   replace p10 := eq_true p10
   replace q10 := eq_true q10
   go_wp2
   repeat (go_quiet (fail); try go_wp2)
   go_roundg k1
   case measure => have := HK1.out; omega
   case rel => exact ⟨(wrap64 (x13_1 + 1)), Z110, H', ⟨by have := HK1.out; omega⟩, Z22⟩

/-! ### FU: function 54 -/
def FU.f (k : Nat) (a0_0 : Int) (l0_1 : List Int) (a1_0 : Int) (l1_1 : List Int) : Option (Bool) := if a0_0 = a1_0 then ((FG.f k l0_1 l1_1).bind fun t2 => (some t2)) else (some false)
theorem FU.mono : ∀ a0 a1 a2 a3 k, LeO (FU.f k a0 a1 a2 a3) (FU.f (k + 1) a0 a1 a2 a3) := by
 intro a0 a1 a2 a3 k
 unfold FU.f
 repeat' first
   | with_reducible first | exact FG.mono .. | exact LeO.refl _ | exact LeO.none _ | refine LeO.ite ?_ ?_ | refine LeO.bind ?_ (fun _ => ?_)
   | exact FG.mono .. | exact LeO.none _ | refine LeO.ite ?_ ?_ | refine LeO.bind ?_ (fun _ => ?_)
theorem FU.calls (k : Nat) (a0_0 : Int) (A0_1 : Option Addr) (c0_1 : Nat) (l0_1 : List Int) (a1_0 : Int) (A1_1 : Option Addr) (c1_1 : Nat) (l1_1 : List Int) (r : Bool) (w : World) (hr0_1 : Kd.C (Kd.int .i64) w A0_1 l0_1.length l0_1) (hc0_1 : l0_1.length ≤ c0_1) (hr1_1 : Kd.C (Kd.int .i64) w A1_1 l1_1.length l1_1) (hc1_1 : l1_1.length ≤ c1_1) (h : FU.f k a0_0 l0_1 a1_0 l1_1 = some r) :
  Calls Try.prog 54 #[.agg #[.int .i64 a0_0, .slice A0_1 l0_1.length c0_1], .agg #[.int .i64 a1_0, .slice A1_1 l1_1.length c1_1]] w fun e w' => e = .returned (.bool r) ∧ Below w.heap.size w w' := by
 have hu26 := Try.underlying26
 have HR0_1 := am hr0_1
 have HC0_1 := am hc0_1
 clear hr0_1 hc0_1
 have HR1_1 := am hr1_1
 have HC1_1 := am hc1_1
 clear hr1_1 hc1_1
 have HB := am (Below.refl w.heap.size w)
 have H : (if a0_0 = a1_0 then ((FG.f k l0_1 l1_1).bind fun t15 => (some t15)) else (some false)) = some r := h
 clear h
 by_cases c3 : a0_0 = a1_0
 rotate_left
 ·
  rw [if_neg c3] at H
  have c3b0 : (a0_0 == a1_0) = false := beq_eq_false_iff_ne.mpr c3
  have c3b1 : (a0_0 != a1_0) = true := bne_iff_ne.mpr c3
  obtain rfl := Option.some.inj H
  go_enter Try.func54, Try.ntmps54
  go_wp2_with (first | ((with_reducible refine gate_dst (N := 2) rfl ?_); refine box_event ?hg (N := 2) ?hd (cs := #[.int .i64 a0_0, .slice A0_1 l0_1.length c0_1]) (t := 26) ?hr ?_; (case hd => rfl); (case hg => rfl); (case hr => exact Z111); intro gb16 hg w10 hbox hb; have BK16 := am (hbox); have GW16 := nG HB hg; have GE16 := nG HB hg; have GI16 := gI GE16; replace HB := am (below_step (uN HB) hb); clear hb hbox hg) | ((with_reducible refine gate_dst (N := 3) rfl ?_); refine box_event ?hg (N := 3) ?hd (cs := #[.int .i64 a1_0, .slice A1_1 l1_1.length c1_1]) (t := 26) ?hr ?_; (case hd => rfl); (case hg => rfl); (case hr => exact Z111); intro gb17 hg w11 hbox hb; have BK17 := am (hbox); have GW17 := am ((by rw [hg]; exact (below_size Z25) : w.heap.size ≤ gb17)); have GE17 := am ((by rw [hg]; exact (below_size Z25) : w.heap.size ≤ gb17)); replace HB := am (below_step Z25 hb); have NB16_17 := nL BK16 hg; have NB17_16 := nR BK16 hg; replace BK16 := kB BK16 hb; clear hb hbox hg; have hnb12 := NB16_17.out; have hnc12 := NB17_16.out; obtain ⟨hcz13_0, hcz13_1, hfz13_0, hfz13_1⟩ := ce2 BK16; obtain ⟨hcz14_0, hcz14_1, hfz14_0, hfz14_1⟩ := ce2 BK17))
  go_ret
  exact ⟨Z109, Z50⟩
 rw [if_pos c3] at H
 have c3b0 : (a0_0 == a1_0) = true := beq_iff_eq.mpr c3
 have c3b1 : (a0_0 != a1_0) = false := bne_eq_false_iff_eq.mpr c3
 clear c3
 replace H := Option.bind_eq_some_iff.mp H
 obtain ⟨t15, A40, H⟩ := H
 try dsimp only at H
 have A4 := am A40
 clear A40
 obtain rfl := Option.some.inj H
 go_enter Try.func54, Try.ntmps54
 go_wp2_with (first | ((with_reducible refine gate_dst (N := 2) rfl ?_); refine box_event ?hg (N := 2) ?hd (cs := #[.int .i64 a0_0, .slice A0_1 l0_1.length c0_1]) (t := 26) ?hr ?_; (case hd => rfl); (case hg => rfl); (case hr => exact Z111); intro gb16 hg w5 hbox hb; have BK16 := am (hbox); have GW16 := nG HB hg; have GE16 := nG HB hg; have GI16 := gI GE16; replace HB := am (below_step (uN HB) hb); clear hb hbox hg) | ((with_reducible refine gate_dst (N := 3) rfl ?_); refine box_event ?hg (N := 3) ?hd (cs := #[.int .i64 a1_0, .slice A1_1 l1_1.length c1_1]) (t := 26) ?hr ?_; (case hd => rfl); (case hg => rfl); (case hr => exact Z111); intro gb17 hg w6 hbox hb; have BK17 := am (hbox); have GW17 := am ((by rw [hg]; exact (below_size Z25) : w.heap.size ≤ gb17)); have GE17 := am ((by rw [hg]; exact (below_size Z25) : w.heap.size ≤ gb17)); replace HB := am (below_step Z25 hb); have NB16_17 := nL BK16 hg; have NB17_16 := nR BK16 hg; replace BK16 := kB BK16 hb; clear hb hbox hg; have hnb7 := NB16_17.out; have hnc7 := NB17_16.out; obtain ⟨hcz8_0, hcz8_1, hfz8_0, hfz8_1⟩ := ce2 BK16; obtain ⟨hcz9_0, hcz9_1, hfz9_0, hfz9_1⟩ := ce2 BK17) | (go_at_call 81; (with_reducible refine (FG.calls k _ _ l0_1 _ _ l1_1 t15 _ ?side1 ?side2 ?side3 ?side4 A4.out).mono ?_); (case side1 => exact uC HR0_1 HB); (case side2 => exact HC0_1.out); (case side3 => exact uC HR1_1 HB); (case side4 => exact HC1_1.out); rintro e w' ⟨rfl, ⟨nd, rfl⟩⟩))
 go_ret
 exact ⟨Z109, Z50⟩

/-! ### Fna: function 51 -/
def Fna.f (a0_0 : Int) (a0_1 : Int) (a0_2 : Int) (a0_3 : Int) (l0_4 : List Int) (a0_5 : Int) (l0_6 : List Int) (a1 : Int) : Option (Bool) := if 0 ≤ (wrap64 (Int.tdiv a1 16)) then (if (wrap64 (Int.tdiv a1 16)) < (l0_6.length : Int) then (if 0 ≤ (Int.tmod a1 16) then (some ((Go.bits .and .i64 (shr .i64 (rd l0_6 (wrap64 (Int.tdiv a1 16))) (Int.tmod a1 16)) 1) == 1)) else (none)) else (none)) else (none)
theorem Fna.calls (g0_0 : Nat) (a0_0 : Int) (a0_1 : Int) (a0_2 : Int) (a0_3 : Int) (A0_4 : Option Addr) (c0_4 : Nat) (l0_4 : List Int) (a0_5 : Int) (A0_6 : Option Addr) (c0_6 : Nat) (l0_6 : List Int) (a1 : Int) (r : Bool) (w : World) (hb0_0 : w.heap[g0_0]? = some (.cells #[.int .i64 a0_0, .int .i64 a0_1, .int .i64 a0_2, .int .i64 a0_3, .slice A0_4 l0_4.length c0_4, .int .i64 a0_5, .slice A0_6 l0_6.length c0_6] 28 (0, 0))) (hr0_4 : Kd.C (Kd.int .i64) w A0_4 l0_4.length l0_4) (hc0_4 : l0_4.length ≤ c0_4) (hr0_6 : Kd.C (Kd.int .i64) w A0_6 l0_6.length l0_6) (hc0_6 : l0_6.length ≤ c0_6) (h : Fna.f a0_0 a0_1 a0_2 a0_3 l0_4 a0_5 l0_6 a1 = some r) :
  Calls Try.prog 51 #[.pointer (some ⟨g0_0, 5, none⟩), .int .i64 a1] w fun e w' => e = .returned (.bool r) ∧ Below w.heap.size w w' := by
 have HR0_4 := am hr0_4
 have HC0_4 := am hc0_4
 clear hr0_4 hc0_4
 have HR0_6 := am hr0_6
 have HC0_6 := am hc0_6
 clear hr0_6 hc0_6
 have BK10 := am hb0_0
 clear hb0_0
 have HB := am (Below.refl w.heap.size w)
 have H : (if 0 ≤ (wrap64 (Int.tdiv a1 16)) then (if (wrap64 (Int.tdiv a1 16)) < (l0_6.length : Int) then (if 0 ≤ (Int.tmod a1 16) then (some ((Go.bits .and .i64 (shr .i64 (rd l0_6 (wrap64 (Int.tdiv a1 16))) (Int.tmod a1 16)) 1) == 1)) else (none)) else (none)) else (none)) = some r := h
 clear h
 obtain ⟨ji3, hji3⟩ : ∃ j_ : Int, (wrap64 (Int.tdiv a1 16)) = j_ := ⟨_, rfl⟩
 replace H : (if 0 ≤ (ji3) then (if (ji3) < (l0_6.length : Int) then (if 0 ≤ (Int.tmod a1 16) then (some ((Go.bits .and .i64 (shr .i64 (rd l0_6 (ji3)) (Int.tmod a1 16)) 1) == 1)) else (none)) else (none)) else (none)) = some r := by first | (rw [hji3] at H; exact H) | (simp only [hji3] at H ⊢; exact H)
 have hji3w : (IntKind.i64.wrap (Int.tdiv a1 16)) = ji3 := (i64_w _).trans hji3
 by_cases c4 : 0 ≤ (ji3)
 rotate_left
 ·
  rw [if_neg c4] at H
  exact absurd H Z43
 rw [if_pos c4] at H
 have c4b0 := decide_eq_true c4
 clear c4
 by_cases c5 : (ji3) < (l0_6.length : Int)
 rotate_left
 ·
  rw [if_neg c5] at H
  exact absurd H Z43
 rw [if_pos c5] at H
 have c5b0 := decide_eq_true c5
 clear c5
 obtain ⟨ji6, hji6⟩ : ∃ j_ : Int, (Int.tmod a1 16) = j_ := ⟨_, rfl⟩
 replace H : (if 0 ≤ (ji6) then (some ((Go.bits .and .i64 (shr .i64 (rd l0_6 (ji3)) (ji6)) 1) == 1)) else (none)) = some r := by first | (rw [hji6] at H; exact H) | (simp only [hji6] at H ⊢; exact H)
 by_cases c7 : 0 ≤ (ji6)
 rotate_left
 ·
  rw [if_neg c7] at H
  exact absurd H Z43
 rw [if_pos c7] at H
 have c7b0 := eq_true c7
 have c7b1 := decide_eq_true c7
 clear c7
 obtain ⟨ji8, hji8⟩ : ∃ j_ : Int, (shr .i64 (rd l0_6 (ji3)) (ji6)) = j_ := ⟨_, rfl⟩
 replace H : (some ((Go.bits .and .i64 (ji8) 1) == 1)) = some r := by first | (rw [hji8] at H; exact H) | (simp only [hji8] at H ⊢; exact H)
 have hji8_ : ((rd l0_6 (ji3)) / 2 ^ min (ji6).toNat 64) = ji8 := hji8
 have hji8z : (ji6) ≤ 64 → ((rd l0_6 (ji3)) / 2 ^ (ji6).toNat) = ji8 := shr_small hji8
 obtain rfl := Option.some.inj H
 obtain ⟨hcz9_0, hcz9_1, hcz9_2, hcz9_3, hcz9_4, hcz9_5, hcz9_6, hfz9_0, hfz9_1, hfz9_2, hfz9_3, hfz9_4, hfz9_5, hfz9_6⟩ := ce7 BK10
 have p11 : 0 ≤ ((ji3) : Int) := of_decide_eq_true Z6
 have q11 : (ji3) < (l0_6.length : Int) := of_decide_eq_true Z6
 obtain ⟨ad11, e11, hx11_0⟩ := Kd.at_int HR0_6.out (ji3) p11 q11
 cases e11
 replace p11 := eq_true p11
 replace q11 := eq_true q11
 go_enter Try.func51, Try.ntmps51
 go_wp2
 go_ret
 exact ⟨Z130, Z49⟩

/-! ### Fsa: function 51 -/
def Fsa.f (a0_0 : Int) (a0_1 : Int) (a0_2 : Int) (a0_3 : Int) (l0_4 : List Int) (a0_5 : Int) (l0_6 : List Int) (a1 : Int) : Option (Bool) := if 0 ≤ (wrap64 (Int.tdiv a1 16)) then (if (wrap64 (Int.tdiv a1 16)) < (l0_4.length : Int) then (if 0 ≤ (Int.tmod a1 16) then (some ((Go.bits .and .i64 (shr .i64 (rd l0_4 (wrap64 (Int.tdiv a1 16))) (Int.tmod a1 16)) 1) == 1)) else (none)) else (none)) else (none)
theorem Fsa.calls (g0_0 : Nat) (a0_0 : Int) (a0_1 : Int) (a0_2 : Int) (a0_3 : Int) (A0_4 : Option Addr) (c0_4 : Nat) (l0_4 : List Int) (a0_5 : Int) (A0_6 : Option Addr) (c0_6 : Nat) (l0_6 : List Int) (a1 : Int) (r : Bool) (w : World) (hb0_0 : w.heap[g0_0]? = some (.cells #[.int .i64 a0_0, .int .i64 a0_1, .int .i64 a0_2, .int .i64 a0_3, .slice A0_4 l0_4.length c0_4, .int .i64 a0_5, .slice A0_6 l0_6.length c0_6] 28 (0, 0))) (hr0_4 : Kd.C (Kd.int .i64) w A0_4 l0_4.length l0_4) (hc0_4 : l0_4.length ≤ c0_4) (hr0_6 : Kd.C (Kd.int .i64) w A0_6 l0_6.length l0_6) (hc0_6 : l0_6.length ≤ c0_6) (h : Fsa.f a0_0 a0_1 a0_2 a0_3 l0_4 a0_5 l0_6 a1 = some r) :
  Calls Try.prog 51 #[.pointer (some ⟨g0_0, 3, none⟩), .int .i64 a1] w fun e w' => e = .returned (.bool r) ∧ Below w.heap.size w w' := by
 have HR0_4 := am hr0_4
 have HC0_4 := am hc0_4
 clear hr0_4 hc0_4
 have HR0_6 := am hr0_6
 have HC0_6 := am hc0_6
 clear hr0_6 hc0_6
 have BK10 := am hb0_0
 clear hb0_0
 have HB := am (Below.refl w.heap.size w)
 have H : (if 0 ≤ (wrap64 (Int.tdiv a1 16)) then (if (wrap64 (Int.tdiv a1 16)) < (l0_4.length : Int) then (if 0 ≤ (Int.tmod a1 16) then (some ((Go.bits .and .i64 (shr .i64 (rd l0_4 (wrap64 (Int.tdiv a1 16))) (Int.tmod a1 16)) 1) == 1)) else (none)) else (none)) else (none)) = some r := h
 clear h
 obtain ⟨ji3, hji3⟩ : ∃ j_ : Int, (wrap64 (Int.tdiv a1 16)) = j_ := ⟨_, rfl⟩
 replace H : (if 0 ≤ (ji3) then (if (ji3) < (l0_4.length : Int) then (if 0 ≤ (Int.tmod a1 16) then (some ((Go.bits .and .i64 (shr .i64 (rd l0_4 (ji3)) (Int.tmod a1 16)) 1) == 1)) else (none)) else (none)) else (none)) = some r := by first | (rw [hji3] at H; exact H) | (simp only [hji3] at H ⊢; exact H)
 have hji3w : (IntKind.i64.wrap (Int.tdiv a1 16)) = ji3 := (i64_w _).trans hji3
 by_cases c4 : 0 ≤ (ji3)
 rotate_left
 ·
  rw [if_neg c4] at H
  exact absurd H Z43
 rw [if_pos c4] at H
 have c4b0 := decide_eq_true c4
 clear c4
 by_cases c5 : (ji3) < (l0_4.length : Int)
 rotate_left
 ·
  rw [if_neg c5] at H
  exact absurd H Z43
 rw [if_pos c5] at H
 have c5b0 := decide_eq_true c5
 clear c5
 obtain ⟨ji6, hji6⟩ : ∃ j_ : Int, (Int.tmod a1 16) = j_ := ⟨_, rfl⟩
 replace H : (if 0 ≤ (ji6) then (some ((Go.bits .and .i64 (shr .i64 (rd l0_4 (ji3)) (ji6)) 1) == 1)) else (none)) = some r := by first | (rw [hji6] at H; exact H) | (simp only [hji6] at H ⊢; exact H)
 by_cases c7 : 0 ≤ (ji6)
 rotate_left
 ·
  rw [if_neg c7] at H
  exact absurd H Z43
 rw [if_pos c7] at H
 have c7b0 := eq_true c7
 have c7b1 := decide_eq_true c7
 clear c7
 obtain ⟨ji8, hji8⟩ : ∃ j_ : Int, (shr .i64 (rd l0_4 (ji3)) (ji6)) = j_ := ⟨_, rfl⟩
 replace H : (some ((Go.bits .and .i64 (ji8) 1) == 1)) = some r := by first | (rw [hji8] at H; exact H) | (simp only [hji8] at H ⊢; exact H)
 have hji8_ : ((rd l0_4 (ji3)) / 2 ^ min (ji6).toNat 64) = ji8 := hji8
 have hji8z : (ji6) ≤ 64 → ((rd l0_4 (ji3)) / 2 ^ (ji6).toNat) = ji8 := shr_small hji8
 obtain rfl := Option.some.inj H
 obtain ⟨hcz9_0, hcz9_1, hcz9_2, hcz9_3, hcz9_4, hcz9_5, hcz9_6, hfz9_0, hfz9_1, hfz9_2, hfz9_3, hfz9_4, hfz9_5, hfz9_6⟩ := ce7 BK10
 have p11 : 0 ≤ ((ji3) : Int) := of_decide_eq_true Z6
 have q11 : (ji3) < (l0_4.length : Int) := of_decide_eq_true Z6
 obtain ⟨ad11, e11, hx11_0⟩ := Kd.at_int HR0_4.out (ji3) p11 q11
 cases e11
 replace p11 := eq_true p11
 replace q11 := eq_true q11
 go_enter Try.func51, Try.ntmps51
 go_wp2
 go_ret
 exact ⟨Z130, Z49⟩

/-! ### Fz: function 52 -/
def Fz.l0 : Nat → Int → Int → Int → Int → Int → Int → Int → Int → List Int → Int → List Int → Option (Int)
 | 0, _, _, _, _, _, _, _, _, _, _, _ => none
 | k + 1, x1, x7, x9, x10, x2, x4, x5, x6, x8, x11, x12 => if x10 < x9 then ((Fsa.f x2 x4 x5 x6 x8 x11 x12 (wrap64 (x1 + x10))).bind fun t13 => (if t13 = true then (if 0 ≤ x10 then (Fz.l0 k x1 (Go.bits .or .i64 x7 (shl .i64 1 x10)) x9 (wrap64 (x10 + 1)) x2 x4 x5 x6 x8 x11 x12) else (none)) else (Fz.l0 k x1 x7 x9 (wrap64 (x10 + 1)) x2 x4 x5 x6 x8 x11 x12))) else (some x7)
def Fz.f (k : Nat) (a0_0 : Int) (a0_1 : Int) (a0_2 : Int) (a0_3 : Int) (l0_4 : List Int) (a0_5 : Int) (l0_6 : List Int) (a1 : Int) (a2 : Int) : Option (Int) := Fz.l0 k a1 0 a2 0 a0_0 a0_1 a0_2 a0_3 l0_4 a0_5 l0_6
theorem Fz.mono_l : ∀ k, (∀ y0 y1 y2 y3 y4 y5 y6 y7 y8 y9 y10, LeO (Fz.l0 k y0 y1 y2 y3 y4 y5 y6 y7 y8 y9 y10) (Fz.l0 (k + 1) y0 y1 y2 y3 y4 y5 y6 y7 y8 y9 y10))
 | 0 => fun _ _ _ _ _ _ _ _ _ _ _ r h => by simp [Fz.l0] at h | k + 1 => by
  have ih0 := Fz.mono_l k
  ·
   intro y0 y1 y2 y3 y4 y5 y6 y7 y8 y9 y10
   unfold Fz.l0
   exact Mo1
theorem Fz.mono : ∀ a0 a1 a2 a3 a4 a5 a6 a7 a8 k, LeO (Fz.f k a0 a1 a2 a3 a4 a5 a6 a7 a8) (Fz.f (k + 1) a0 a1 a2 a3 a4 a5 a6 a7 a8) := by
 intro a0 a1 a2 a3 a4 a5 a6 a7 a8 k
 have ih0 := Fz.mono_l k
 unfold Fz.f
 exact Mo1
theorem Fz.calls (k : Nat) (g0_0 : Nat) (a0_0 : Int) (a0_1 : Int) (a0_2 : Int) (a0_3 : Int) (A0_4 : Option Addr) (c0_4 : Nat) (l0_4 : List Int) (a0_5 : Int) (A0_6 : Option Addr) (c0_6 : Nat) (l0_6 : List Int) (a1 : Int) (a2 : Int) (r : Int) (w : World) (hb0_0 : w.heap[g0_0]? = some (.cells #[.int .i64 a0_0, .int .i64 a0_1, .int .i64 a0_2, .int .i64 a0_3, .slice A0_4 l0_4.length c0_4, .int .i64 a0_5, .slice A0_6 l0_6.length c0_6] 28 (0, 0))) (hr0_4 : Kd.C (Kd.int .i64) w A0_4 l0_4.length l0_4) (hc0_4 : l0_4.length ≤ c0_4) (hr0_6 : Kd.C (Kd.int .i64) w A0_6 l0_6.length l0_6) (hc0_6 : l0_6.length ≤ c0_6) (h : Fz.f k a0_0 a0_1 a0_2 a0_3 l0_4 a0_5 l0_6 a1 a2 = some r) :
  Calls Try.prog 52 #[.pointer (some ⟨g0_0, 3, none⟩), .int .i64 a1, .int .i64 a2] w fun e w' => e = .returned (.int .i64 r) ∧ Below w.heap.size w w' := by
 have HR0_4 := am hr0_4
 have HC0_4 := am hc0_4
 clear hr0_4 hc0_4
 have HR0_6 := am hr0_6
 have HC0_6 := am hc0_6
 clear hr0_6 hc0_6
 have BK11 := am hb0_0
 clear hb0_0
 have HB := am (Below.refl w.heap.size w)
 have H : (Fz.l0 k a1 0 a2 0 a0_0 a0_1 a0_2 a0_3 l0_4 a0_5 l0_6) = some r := h
 clear h
 have H' := am H
 clear H
 go_enter Try.func52, Try.ntmps52
 go_wp2
 go_loopg [7, 10] k (fun kq v7 v10 w' => ∃ (x7_1 : Int) (x10_1 : Int), v7 = .int .i64 x7_1 ∧ v10 = .int .i64 x10_1 ∧ Aside0 (Fz.l0 kq a1 x7_1 a2 x10_1 a0_0 a0_1 a0_2 a0_3 l0_4 a0_5 l0_6 = some r) ∧ Aside0 (kq ≤ k) ∧ Aside0 (w'.heap[g0_0]? = some (.cells #[.int .i64 a0_0, .int .i64 a0_1, .int .i64 a0_2, .int .i64 a0_3, (.slice A0_4 l0_4.length c0_4), .int .i64 a0_5, (.slice A0_6 l0_6.length c0_6)] 28 (0, 0))) ∧ Aside0 (Below w.heap.size w w'))
 case atStart => exact ⟨(0), (0), Z110, Z110, H', ⟨Nat.le_refl _⟩, ⟨pb BK11⟩, ⟨Z30⟩⟩
 case round =>
  clear H'
  try clear p2
  obtain ⟨x7_1, x10_1, rfl, rfl, HA, HK1, BK11, HB⟩ := hrel
  cases gk with
  | zero => exact absurd HA.out (by simp [Fz.l0])
  | succ k1 =>
   have H := HA.out
   clear HA
   simp only [Fz.l0] at H
   by_cases c4 : x10_1 < a2
   rotate_left
   ·
    rw [if_neg c4] at H
    have c4b0 := decide_eq_false c4
    clear c4
    obtain rfl := Option.some.inj H
    go_wp2
    go_ret
    exact ⟨Z109, Z30⟩
   rw [if_pos c4] at H
   have c4b0 := decide_eq_true c4
   clear c4
   replace H := Option.bind_eq_some_iff.mp H
   obtain ⟨t12, A50, H⟩ := H
   try dsimp only at H
   have A5 := am A50
   clear A50
   by_cases c6 : t12 = true
   rotate_left
   ·
    replace c6 := Bool.eq_false_iff.mpr c6
    subst c6
    rw [if_neg (show ¬ (false = true) from Z16)] at H
    have H' := am H
    clear H
    go_wp2_with (first | ((with_reducible refine gate_callee (f := 51) rfl ?_); refine gL 17 rfl Try.func51 #[.pointer (some ⟨g0_0, 3, none⟩), .int .i64 (wrap64 (a1 + x10_1))] ?_; (with_reducible refine (Fsa.calls g0_0 a0_0 a0_1 a0_2 a0_3 A0_4 c0_4 l0_4 a0_5 A0_6 c0_6 l0_6 (wrap64 (a1 + x10_1)) false _ ?side1 ?side2 ?side3 ?side4 ?side5 A5.out).mono ?_); (case side1 => exact (uK BK11)); (case side2 => exact uC HR0_4 HB); (case side3 => exact HC0_4.out); (case side4 => exact uC HR0_6 HB); (case side5 => exact HC0_6.out); rintro e w10 ⟨rfl, hb⟩; refine ⟨_, rfl, ?_⟩; replace BK11 := kB BK11 hb; replace HB := am (below_step Z30 hb); (try clear hb); (try clear hb2); (try clear hk); (try clear hi)))
    go_roundg k1
    case measure => have := HK1.out; omega
    case rel => exact ⟨(x7_1), (wrap64 (x10_1 + 1)), Z110, Z110, H', ⟨by have := HK1.out; omega⟩, ⟨pb BK11⟩, ⟨Z30⟩⟩
   subst c6
   rw [if_pos rfl] at H
   by_cases c7 : 0 ≤ x10_1
   rotate_left
   ·
    rw [if_neg c7] at H
    exact absurd H Z43
   rw [if_pos c7] at H
   have c7b0 := eq_true c7
   have c7b1 := decide_eq_true c7
   clear c7
   obtain ⟨ji8, hji8⟩ : ∃ j_ : Int, (shl .i64 1 x10_1) = j_ := ⟨_, rfl⟩
   replace H : (Fz.l0 k1 a1 (Go.bits .or .i64 x7_1 (ji8)) a2 (wrap64 (x10_1 + 1)) a0_0 a0_1 a0_2 a0_3 l0_4 a0_5 l0_6) = some r := by first | (rw [hji8] at H; exact H) | (simp only [hji8] at H ⊢; exact H)
   (try rw [hji8] at A5)
   have hji8_ : (IntKind.i64.wrap (1 * 2 ^ min x10_1.toNat 64)) = ji8 := hji8
   have hji8z : x10_1 ≤ 64 → (IntKind.i64.wrap (1 * 2 ^ x10_1.toNat)) = ji8 := shl_small hji8
   have hji8u : (IntKind.i64.wrap (2 ^ min x10_1.toNat 64)) = ji8 := by have h_ := hji8_; rw [Int.one_mul] at h_; exact h_
   have hji8v : x10_1 ≤ 64 → (IntKind.i64.wrap (2 ^ x10_1.toNat)) = ji8 := fun hle_ => by have h_ := hji8z hle_; rw [Int.one_mul] at h_; exact h_
   have hji8y : (wrap64 (1 * 2 ^ min x10_1.toNat 64)) = ji8 := (i64_w _).symm.trans hji8_
   have hji8x : x10_1 ≤ 64 → (wrap64 (1 * 2 ^ x10_1.toNat)) = ji8 := fun h_ => (i64_w _).symm.trans (hji8z h_)
   have H' := am H
   clear H
   go_wp2_with (first | ((with_reducible refine gate_callee (f := 51) rfl ?_); refine gL 17 rfl Try.func51 #[.pointer (some ⟨g0_0, 3, none⟩), .int .i64 (wrap64 (a1 + x10_1))] ?_; (with_reducible refine (Fsa.calls g0_0 a0_0 a0_1 a0_2 a0_3 A0_4 c0_4 l0_4 a0_5 A0_6 c0_6 l0_6 (wrap64 (a1 + x10_1)) true _ ?side1 ?side2 ?side3 ?side4 ?side5 A5.out).mono ?_); (case side1 => exact (uK BK11)); (case side2 => exact uC HR0_4 HB); (case side3 => exact HC0_4.out); (case side4 => exact uC HR0_6 HB); (case side5 => exact HC0_6.out); rintro e w9 ⟨rfl, hb⟩; refine ⟨_, rfl, ?_⟩; replace BK11 := kB BK11 hb; replace HB := am (below_step Z30 hb); (try clear hb); (try clear hb2); (try clear hk); (try clear hi)))
   go_roundg k1
   case measure => have := HK1.out; omega
   case rel => exact ⟨(Go.bits .or .i64 x7_1 (ji8)), (wrap64 (x10_1 + 1)), (by first | rfl | (simp; done) | (simp only [← hji8] <;> (first | rfl | simp)) | (simp [*]; done)), Z110, H', ⟨by have := HK1.out; omega⟩, ⟨pb BK11⟩, ⟨Z30⟩⟩

end Go.Proofs.Ytllaofiopnhdgaa.PFnSparseParts
