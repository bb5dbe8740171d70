-- made by wip/tools/myprint.py over the kit's print, for this claim
import Derived.Test.YtllaofiopnhdgaaPFnSparsePartsx0
import Derived.Test.YtllaofiopnhdgaaPFnSparsePartsx6
import Derived.Test.YtllaofiopnhdgaaPFnSparsePartsx7
namespace Go.Proofs.Ytllaofiopnhdgaa.PFnSparseParts
open Go.RowKit Go.Proofs.YtllaofiopnhdgaaW.PrintWords Go.Proofs.YtllaofiopnhdgaaW.PrintLast Go.Proofs.YtllaofiopnhdgaaW.PrintMore
open List (setIfInBounds_toArray set_cons_zero set_cons_succ)
attribute [local go_sem] max2_int min2_int max_two min_two max_three min_three max_four min_four   -- for this text's walks alone
set_option linter.unusedVariables false
set_option linter.unusedSimpArgs false

set_option maxHeartbeats 8000000
set_option maxRecDepth 100000
/-! ### Fp: function 30 -/
def Fp.f (a0 : Int) (a1 : Int) (a2 : Int) : Option (Bool) := if a0 ≥ a1 then (some (decide (a0 ≤ a2))) else (some false)
theorem Fp.calls (a0 : Int) (a1 : Int) (a2 : Int) (r : Bool) (w : World) (h : Fp.f a0 a1 a2 = some r) :
    Calls Try.prog 30 #[.int .i64 a0, .int .i64 a1, .int .i64 a2] w fun e w' => e = .returned (.bool r) ∧ Drawn0 w w' := by
  have H : (if a0 ≥ a1 then (some (decide (a0 ≤ a2))) else (some false)) = some r := h
  clear h
  by_cases c4 : a0 ≥ a1
  · rw [if_pos c4] at H
    have c4b0 := decide_eq_true c4
    clear c4
    obtain rfl := Option.some.inj H
    go_enter Try.func30, Try.ntmps30
    go_wp2
    go_ret
    exact ⟨Z110, Z22⟩
  · rw [if_neg c4] at H
    have c4b0 := decide_eq_false c4
    clear c4
    obtain rfl := Option.some.inj H
    go_enter Try.func30, Try.ntmps30
    go_wp2
    go_ret
    exact ⟨Z110, Z22⟩

/-! ### Fja: function 60 -/
def Fja.f (a0 : Int) : Option (Bool) := (Fp.f a0 1 100000).bind fun t2 => (some t2)
theorem Fja.calls (a0 : Int) (r : Bool) (w : World) (h : Fja.f a0 = some r) :
    Calls Try.prog 60 #[.int .i64 a0] w fun e w' => e = .returned (.bool r) ∧ Drawn0 w w' := by
  have H : ((Fp.f a0 1 100000).bind fun t3 => (some t3)) = some r := h
  clear h
  replace H := Option.bind_eq_some_iff.mp H
  obtain ⟨t3, A20, H⟩ := H
  try dsimp only at H
  have A2 := am A20
  clear A20
  obtain rfl := Option.some.inj H
  go_enter Try.func60, Try.ntmps60
  go_wp2_with (first | ((with_reducible refine gate_callee (f := 30) rfl ?_); refine gL 4 rfl Try.func30 #[.int .i64 a0, .int .i64 1, .int .i64 100000] ?_; (with_reducible refine (Fp.calls a0 1 100000 t3 _ A2.out).mono ?_); rintro e w' ⟨rfl, ⟨nd, rfl⟩⟩; refine ⟨_, rfl, ?_⟩))
  go_ret
  exact ⟨Z110, Z22⟩

/-! ### Fv: function 43 -/
def Fv.l0 : Nat → List Int → Int → List Int → Int → Int → Option (Bool)
 | 0, _, _, _, _, _ => none
 | k + 1, x0, x1, x7, x8, x9 => if x9 < x8 then (if 0 ≤ x9 then (if x9 < (x7.length : Int) then ((Fp.f (rd x7 x9) 0 (wrap64 (x1 - 1))).bind fun t2 => (if t2 = true then (if x9 > 0 then (if 0 ≤ (wrap64 (x9 - 1)) then (if (wrap64 (x9 - 1)) < (x0.length : Int) then (if (rd x0 (wrap64 (x9 - 1))) > (rd x7 x9) then (some false) else (Fv.l0 k x0 x1 x7 x8 (wrap64 (x9 + 1)))) else (none)) else (none)) else (Fv.l0 k x0 x1 x7 x8 (wrap64 (x9 + 1)))) else (some false))) else (none)) else (none)) else (if (x0.length : Int) ≤ 60 then ((Fja.f x1).bind fun t3 => (some t3)) else (some false))
def Fv.f (k : Nat) (l0 : List Int) (a1 : Int) : Option (Bool) := Fv.l0 k l0 a1 l0 (l0.length : Int) 0
theorem Fv.mono_l : ∀ k, (∀ y0 y1 y2 y3 y4, LeO (Fv.l0 k y0 y1 y2 y3 y4) (Fv.l0 (k + 1) y0 y1 y2 y3 y4))
 | 0 => fun _ _ _ _ _ r h => by simp [Fv.l0] at h | k + 1 => by
  have ih0 := Fv.mono_l k
  ·
   intro y0 y1 y2 y3 y4
   unfold Fv.l0
   exact Mo1
theorem Fv.mono : ∀ a0 a1 k, LeO (Fv.f k a0 a1) (Fv.f (k + 1) a0 a1) := by
 intro a0 a1 k
 have ih0 := Fv.mono_l k
 unfold Fv.f
 exact Mo1
theorem Fv.calls (k : Nat) (A0 : Option Addr) (c0 : Nat) (l0 : List Int) (a1 : Int) (r : Bool) (w : World) (hr0 : Kd.C (Kd.int .i64) w A0 l0.length l0) (hc0 : l0.length ≤ c0) (h : Fv.f k l0 a1 = some r) :
  Calls Try.prog 43 #[.slice A0 l0.length c0, .int .i64 a1] w fun e w' => e = .returned (.bool r) ∧ Drawn0 w w' := by
 have HR0 := am hr0
 have HC0 := am hc0
 clear hr0 hc0
 have H : (Fv.l0 k l0 a1 l0 (l0.length : Int) 0) = some r := h
 clear h
 have H' := am H
 clear H
 go_enter Try.func43, Try.ntmps43
 go_wp2
 go_loopg [9] k (fun kq v9 w' => ∃ (x9_1 : Int), v9 = .int .i64 x9_1 ∧ Aside0 (Fv.l0 kq l0 a1 l0 (l0.length : Int) x9_1 = some r) ∧ Aside0 (kq ≤ k) ∧ Drawn0 w w')
 case atStart => exact ⟨(0), Z110, H', ⟨Nat.le_refl _⟩, Z22⟩
 case round =>
  clear H'
  try clear p2
  obtain ⟨x9_1, rfl, HA, HK1, ⟨m1, rfl⟩⟩ := hrel
  cases gk with
  | zero => exact absurd HA.out (by simp [Fv.l0])
  | succ k1 =>
   have H := HA.out
   clear HA
   simp only [Fv.l0] at H
   by_cases c3 : x9_1 < (l0.length : Int)
   rotate_left
   ·
    rw [if_neg c3] at H
    have c3b0 := decide_eq_false c3
    clear c3
    by_cases c13 : (l0.length : Int) ≤ 60
    rotate_left
    ·
     rw [if_neg c13] at H
     have c13b0 := decide_eq_false c13
     have c13b1 : decide (l0.length ≤ 60) = false := decide_eq_false Z70
     clear c13
     obtain rfl := Option.some.inj H
     go_wp2
     go_ret
     exact ⟨Z110, Z22⟩
    rw [if_pos c13] at H
    have c13b0 := decide_eq_true c13
    have c13b1 : decide (l0.length ≤ 60) = true := decide_eq_true Z70
    clear c13
    replace H := Option.bind_eq_some_iff.mp H
    obtain ⟨t18, A19, H⟩ := H
    try dsimp only at H
    have A14 := am A19
    clear A19
    obtain rfl := Option.some.inj H
    go_wp2_with (first | (go_at_call 60; (with_reducible refine (Fja.calls a1 t18 _ A14.out).mono ?_); rintro e w' ⟨rfl, ⟨nd, rfl⟩⟩))
    go_ret
    exact ⟨Z110, Z22⟩
   rw [if_pos c3] at H
   have c3b0 := decide_eq_true c3
   clear c3
   by_cases c4 : 0 ≤ x9_1
   rotate_left
   ·
    rw [if_neg c4] at H
    exact absurd H Z43
   rw [if_pos c4] at H
   have c4b0 := decide_eq_true c4
   clear c4
   by_cases c5 : x9_1 < (l0.length : Int)
   rotate_left
   ·
    rw [if_neg c5] at H
    exact absurd H Z43
   rw [if_pos c5] at H
   have c5b0 := decide_eq_true c5
   clear c5
   replace H := Option.bind_eq_some_iff.mp H
   obtain ⟨t15, A60, H⟩ := H
   try dsimp only at H
   have A6 := am A60
   clear A60
   by_cases c7 : t15 = true
   rotate_left
   ·
    replace c7 := Bool.eq_false_iff.mpr c7
    subst c7
    rw [if_neg (show ¬ (false = true) from Z16)] at H
    obtain rfl := Option.some.inj H
    have p16 : 0 ≤ (x9_1 : Int) := of_decide_eq_true Z6
    have q16 : x9_1 < (l0.length : Int) := of_decide_eq_true Z6
    obtain ⟨ad16, e16, hx16_0⟩ := Kd.at_int HR0.out x9_1 p16 q16
    cases e16
    replace p16 := eq_true p16
    replace q16 := eq_true q16
    go_wp2_with (first | ((with_reducible refine gate_callee (f := 30) rfl ?_); refine gL 17 rfl Try.func30 #[.int .i64 (rd l0 x9_1), .int .i64 0, .int .i64 (wrap64 (a1 - 1))] ?_; (with_reducible refine (Fp.calls (rd l0 x9_1) 0 (wrap64 (a1 - 1)) false _ A6.out).mono ?_); rintro e w' ⟨rfl, ⟨nd, rfl⟩⟩; refine ⟨_, rfl, ?_⟩))
    go_ret
    exact ⟨Z110, Z22⟩
   subst c7
   rw [if_pos rfl] at H
   by_cases c8 : x9_1 > 0
   rotate_left
   ·
    rw [if_neg c8] at H
    have c8b0 := decide_eq_false c8
    clear c8
    have H' := am H
    clear H
    have p16 : 0 ≤ (x9_1 : Int) := of_decide_eq_true Z6
    have q16 : x9_1 < (l0.length : Int) := of_decide_eq_true Z6
    obtain ⟨ad16, e16, hx16_0⟩ := Kd.at_int HR0.out x9_1 p16 q16
    cases e16
    replace p16 := eq_true p16
    replace q16 := eq_true q16
    go_wp2_with (first | ((with_reducible refine gate_callee (f := 30) rfl ?_); refine gL 17 rfl Try.func30 #[.int .i64 (rd l0 x9_1), .int .i64 0, .int .i64 (wrap64 (a1 - 1))] ?_; (with_reducible refine (Fp.calls (rd l0 x9_1) 0 (wrap64 (a1 - 1)) true _ A6.out).mono ?_); rintro e w' ⟨rfl, ⟨nd, rfl⟩⟩; refine ⟨_, rfl, ?_⟩))
    go_roundg k1
    case measure => have := HK1.out; omega
    case rel => exact ⟨(wrap64 (x9_1 + 1)), Z110, H', ⟨by have := HK1.out; omega⟩, Z22⟩
   rw [if_pos c8] at H
   have c8b0 := decide_eq_true c8
   clear c8
   obtain ⟨ji9, hji9⟩ : ∃ j_ : Int, (wrap64 (x9_1 - 1)) = j_ := ⟨_, rfl⟩
   replace H : (if 0 ≤ (ji9) then (if (ji9) < (l0.length : Int) then (if (rd l0 (ji9)) > (rd l0 x9_1) then (some false) else (Fv.l0 k1 l0 a1 l0 (l0.length : Int) (wrap64 (x9_1 + 1)))) else (none)) else (none)) = some r := by first | (rw [hji9] at H; exact H) | (simp only [hji9] at H ⊢; exact H)
   (try rw [hji9] at A6)
   have hji9w : (IntKind.i64.wrap (x9_1 - 1)) = ji9 := (i64_w _).trans hji9
   by_cases c10 : 0 ≤ (ji9)
   rotate_left
   ·
    rw [if_neg c10] at H
    exact absurd H Z43
   rw [if_pos c10] at H
   have c10b0 := decide_eq_true c10
   clear c10
   by_cases c11 : (ji9) < (l0.length : Int)
   rotate_left
   ·
    rw [if_neg c11] at H
    exact absurd H Z43
   rw [if_pos c11] at H
   have c11b0 := decide_eq_true c11
   clear c11
   by_cases c12 : (rd l0 (ji9)) > (rd l0 x9_1)
   ·
    rw [if_pos c12] at H
    have c12b0 := decide_eq_true c12
    clear c12
    obtain rfl := Option.some.inj H
    have p16 : 0 ≤ (x9_1 : Int) := of_decide_eq_true Z6
    have q16 : x9_1 < (l0.length : Int) := of_decide_eq_true Z6
    obtain ⟨ad16, e16, hx16_0⟩ := Kd.at_int HR0.out x9_1 p16 q16
    cases e16
    replace p16 := eq_true p16
    replace q16 := eq_true q16
    go_wp2_with (first | ((with_reducible refine gate_callee (f := 30) rfl ?_); refine gL 17 rfl Try.func30 #[.int .i64 (rd l0 x9_1), .int .i64 0, .int .i64 (wrap64 (a1 - 1))] ?_; (with_reducible refine (Fp.calls (rd l0 x9_1) 0 (wrap64 (a1 - 1)) true _ A6.out).mono ?_); rintro e w' ⟨rfl, ⟨nd, rfl⟩⟩; refine ⟨_, rfl, ?_⟩; have p17 : 0 ≤ ((ji9) : Int) := of_decide_eq_true Z6; have q17 : (ji9) < (l0.length : Int) := of_decide_eq_true Z6; obtain ⟨ad17, e17, hx17_0⟩ := Kd.at_int HR0.out (ji9) p17 q17; obtain rfl : ad16 = ad17 := (by injection e17); replace p17 := eq_true p17; replace q17 := eq_true q17))
    go_ret
    exact ⟨Z139, Z22⟩
   rw [if_neg c12] at H
   have c12b0 := decide_eq_false c12
   clear c12
   have H' := am H
   clear H
   have p16 : 0 ≤ (x9_1 : Int) := of_decide_eq_true Z6
   have q16 : x9_1 < (l0.length : Int) := of_decide_eq_true Z6
   obtain ⟨ad16, e16, hx16_0⟩ := Kd.at_int HR0.out x9_1 p16 q16
   cases e16
   replace p16 := eq_true p16
   replace q16 := eq_true q16
   go_wp2_with (first | ((with_reducible refine gate_callee (f := 30) rfl ?_); refine gL 17 rfl Try.func30 #[.int .i64 (rd l0 x9_1), .int .i64 0, .int .i64 (wrap64 (a1 - 1))] ?_; (with_reducible refine (Fp.calls (rd l0 x9_1) 0 (wrap64 (a1 - 1)) true _ A6.out).mono ?_); rintro e w' ⟨rfl, ⟨nd, rfl⟩⟩; refine ⟨_, rfl, ?_⟩; have p17 : 0 ≤ ((ji9) : Int) := of_decide_eq_true Z6; have q17 : (ji9) < (l0.length : Int) := of_decide_eq_true Z6; obtain ⟨ad17, e17, hx17_0⟩ := Kd.at_int HR0.out (ji9) p17 q17; obtain rfl : ad16 = ad17 := (by injection e17); replace p17 := eq_true p17; replace q17 := eq_true q17))
   go_roundg k1
   case measure => have := HK1.out; omega
   case rel => exact ⟨(wrap64 (x9_1 + 1)), Z110, H', ⟨by have := HK1.out; omega⟩, Z22⟩

/-! ### Faa: function 65 -/
def Faa.f (a0_0 : Int) (l0_1 : List Int) (a1 : Int) : Option (Bool) := if 0 ≤ (wrap64 (Int.tdiv a1 16)) then (if (wrap64 (Int.tdiv a1 16)) < (l0_1.length : Int) then (if 0 ≤ (Int.tmod a1 16) then (some ((Go.bits .and .i64 (shr .i64 (rd l0_1 (wrap64 (Int.tdiv a1 16))) (Int.tmod a1 16)) 1) == 1)) else (none)) else (none)) else (none)
theorem Faa.calls (a0_0 : Int) (A0_1 : Option Addr) (c0_1 : Nat) (l0_1 : List Int) (a1 : Int) (r : Bool) (w : World) (hr0_1 : Kd.C (Kd.int .i64) w A0_1 l0_1.length l0_1) (hc0_1 : l0_1.length ≤ c0_1) (h : Faa.f a0_0 l0_1 a1 = some r) :
  Calls Try.prog 65 #[.agg #[.int .i64 a0_0, .slice A0_1 l0_1.length c0_1], .int .i64 a1] w fun e w' => e = .returned (.bool r) ∧ Below w.heap.size w w' := by
 have hu26 := Try.underlying26
 have HR0_1 := am hr0_1
 have HC0_1 := am hc0_1
 clear hr0_1 hc0_1
 have HB := am (Below.refl w.heap.size w)
 have H : (if 0 ≤ (wrap64 (Int.tdiv a1 16)) then (if (wrap64 (Int.tdiv a1 16)) < (l0_1.length : Int) then (if 0 ≤ (Int.tmod a1 16) then (some ((Go.bits .and .i64 (shr .i64 (rd l0_1 (wrap64 (Int.tdiv a1 16))) (Int.tmod a1 16)) 1) == 1)) else (none)) else (none)) else (none)) = some r := h
 clear h
 obtain ⟨ji3, hji3⟩ : ∃ j_ : Int, (wrap64 (Int.tdiv a1 16)) = j_ := ⟨_, rfl⟩
 replace H : (if 0 ≤ (ji3) then (if (ji3) < (l0_1.length : Int) then (if 0 ≤ (Int.tmod a1 16) then (some ((Go.bits .and .i64 (shr .i64 (rd l0_1 (ji3)) (Int.tmod a1 16)) 1) == 1)) else (none)) else (none)) else (none)) = some r := by first | (rw [hji3] at H; exact H) | (simp only [hji3] at H ⊢; exact H)
 have hji3w : (IntKind.i64.wrap (Int.tdiv a1 16)) = ji3 := (i64_w _).trans hji3
 by_cases c4 : 0 ≤ (ji3)
 rotate_left
 ·
  rw [if_neg c4] at H
  exact absurd H Z43
 rw [if_pos c4] at H
 have c4b0 := decide_eq_true c4
 clear c4
 by_cases c5 : (ji3) < (l0_1.length : Int)
 rotate_left
 ·
  rw [if_neg c5] at H
  exact absurd H Z43
 rw [if_pos c5] at H
 have c5b0 := decide_eq_true c5
 clear c5
 obtain ⟨ji6, hji6⟩ : ∃ j_ : Int, (Int.tmod a1 16) = j_ := ⟨_, rfl⟩
 replace H : (if 0 ≤ (ji6) then (some ((Go.bits .and .i64 (shr .i64 (rd l0_1 (ji3)) (ji6)) 1) == 1)) else (none)) = some r := by first | (rw [hji6] at H; exact H) | (simp only [hji6] at H ⊢; exact H)
 by_cases c7 : 0 ≤ (ji6)
 rotate_left
 ·
  rw [if_neg c7] at H
  exact absurd H Z43
 rw [if_pos c7] at H
 have c7b0 := eq_true c7
 have c7b1 := decide_eq_true c7
 clear c7
 obtain ⟨ji8, hji8⟩ : ∃ j_ : Int, (shr .i64 (rd l0_1 (ji3)) (ji6)) = j_ := ⟨_, rfl⟩
 replace H : (some ((Go.bits .and .i64 (ji8) 1) == 1)) = some r := by first | (rw [hji8] at H; exact H) | (simp only [hji8] at H ⊢; exact H)
 have hji8_ : ((rd l0_1 (ji3)) / 2 ^ min (ji6).toNat 64) = ji8 := hji8
 have hji8z : (ji6) ≤ 64 → ((rd l0_1 (ji3)) / 2 ^ (ji6).toNat) = ji8 := shr_small hji8
 obtain rfl := Option.some.inj H
 go_enter Try.func65, Try.ntmps65
 go_wp2_with (first | ((with_reducible refine gate_dst (N := 2) rfl ?_); refine box_event ?hg (N := 2) ?hd (cs := #[.int .i64 a0_0, .slice A0_1 l0_1.length c0_1]) (t := 26) ?hr ?_; (case hd => rfl); (case hg => rfl); (case hr => exact Z111); intro gb11 hg w9 hbox hb; have BK11 := am (hbox); have GW11 := nG HB hg; have GE11 := nG HB hg; have GI11 := gI GE11; replace HB := am (below_step (uN HB) hb); clear hb hbox hg; obtain ⟨hcz10_0, hcz10_1, hfz10_0, hfz10_1⟩ := ce2 BK11; have p12 : 0 ≤ ((ji3) : Int) := of_decide_eq_true Z6; have q12 : (ji3) < (l0_1.length : Int) := of_decide_eq_true Z6; obtain ⟨ad12, e12, hx12_0⟩ := Kd.at_int HR0_1.out (ji3) p12 q12; cases e12; replace hx12_0 := (HB.out.cell (World.block_lt_of_cell? w _ hx12_0)).trans hx12_0; replace p12 := eq_true p12; replace q12 := eq_true q12))
 go_ret
 exact ⟨Z130, Z30⟩

/-! ### FE: function 45 -/
def FE.l0 : Nat → List Bool → Int → Int → List Int → Option (List Bool)
 | 0, _, _, _, _ => none
 | k + 1, x3, x4, x1, x2 => if x4 < x1 then ((Faa.f x1 x2 x4).bind fun t5 => (if x3.length < 140737488355328 then (FE.l0 k (x3 ++ [t5]) (wrap64 (x4 + 1)) x1 x2) else (none))) else (some x3)
def FE.f (k : Nat) (a0_0 : Int) (l0_1 : List Int) : Option (List Bool) := FE.l0 k ([] : List Bool) 0 a0_0 l0_1
theorem FE.mono_l : ∀ k, (∀ y0 y1 y2 y3, LeO (FE.l0 k y0 y1 y2 y3) (FE.l0 (k + 1) y0 y1 y2 y3))
 | 0 => fun _ _ _ _ r h => by simp [FE.l0] at h | k + 1 => by
  have ih0 := FE.mono_l k
  ·
   intro y0 y1 y2 y3
   unfold FE.l0
   exact Mo1
theorem FE.mono : ∀ a0 a1 k, LeO (FE.f k a0 a1) (FE.f (k + 1) a0 a1) := by
 intro a0 a1 k
 have ih0 := FE.mono_l k
 unfold FE.f
 exact Mo1
theorem FE.calls (k : Nat) (a0_0 : Int) (A0_1 : Option Addr) (c0_1 : Nat) (l0_1 : List Int) (r : List Bool) (w : World) (hr0_1 : Kd.C (Kd.int .i64) w A0_1 l0_1.length l0_1) (hc0_1 : l0_1.length ≤ c0_1) (h : FE.f k a0_0 l0_1 = some r) :
  Calls Try.prog 45 #[.agg #[.int .i64 a0_0, .slice A0_1 l0_1.length c0_1]] w fun e w' => ∃ v0_ : Value, e = .returned (v0_) ∧ Kd.R Kd.bool 4 w' w.heap.size (fun _ => True) v0_ r ∧ Below w.heap.size w w' := by
 have hu26 := Try.underlying26
 have HR0_1 := am hr0_1
 have HC0_1 := am hc0_1
 clear hr0_1 hc0_1
 have HB := am (Below.refl w.heap.size w)
 have H : (FE.l0 k ([] : List Bool) 0 a0_0 l0_1) = some r := h
 clear h
 have H' := am H
 clear H
 go_enter Try.func45, Try.ntmps45
 go_wp2_with (first | ((with_reducible refine gate_dst (N := 1) rfl ?_); refine box_event ?hg (N := 1) ?hd (cs := #[.int .i64 a0_0, .slice A0_1 l0_1.length c0_1]) (t := 26) ?hr ?_; (case hd => rfl); (case hg => rfl); (case hr => exact Z111); intro gb10 hg w2 hbox hb; have BK10 := am (hbox); have GW10 := nG HB hg; have GE10 := nG HB hg; have GI10 := gI GE10; replace HB := am (below_step (uN HB) hb); clear hb hbox hg))
 go_loopg [3, 4] k (fun kq v3 v4 w' => ∃ (x3_1 : List Bool) (x4_1 : Int), v4 = .int .i64 x4_1 ∧ Aside0 (FE.l0 kq x3_1 x4_1 a0_0 l0_1 = some r) ∧ Aside0 (kq ≤ k) ∧ Aside0 (Kd.R Kd.bool 4 w' w.heap.size (fun _ => True) v3 x3_1) ∧ Aside0 (w'.heap[gb10]? = some (.cells #[.int .i64 a0_0, (.slice A0_1 l0_1.length c0_1)] 26 (0, 0))) ∧ Aside0 (Below w.heap.size w w'))
 case atStart => exact ⟨(([] : List Bool)), (0), Z110, H', ⟨Nat.le_refl _⟩, ⟨Z23⟩, ⟨pb BK10⟩, ⟨Z49⟩⟩
 case round =>
  clear H'
  try clear p2
  try clear HO_3
  obtain ⟨x3_1, x4_1, rfl, HA, HK1, HO_3, BK10, HB⟩ := hrel
  cases gk with
  | zero => exact absurd HA.out (by simp [FE.l0])
  | succ k1 =>
   have H := HA.out
   clear HA
   simp only [FE.l0] at H
   by_cases c3 : x4_1 < a0_0
   rotate_left
   ·
    rw [if_neg c3] at H
    have c3b0 := decide_eq_false c3
    clear c3
    obtain rfl := Option.some.inj H
    obtain ⟨hcz9_0, hcz9_1, hfz9_0, hfz9_1⟩ := ce2 BK10
    go_wp2
    go_ret
    exact ⟨_, Z109, Z71, Z49⟩
   rw [if_pos c3] at H
   have c3b0 := decide_eq_true c3
   clear c3
   replace H := Option.bind_eq_some_iff.mp H
   obtain ⟨t11, A40, H⟩ := H
   try dsimp only at H
   have A4 := am A40
   clear A40
   by_cases c5 : x3_1.length < 140737488355328
   rotate_left
   ·
    rw [if_neg c5] at H
    exact absurd H Z43
   rw [if_pos c5] at H
   have LMc5 := am c5
   clear c5
   obtain ⟨y12, hy12⟩ : ∃ y_ : List Bool, y_ = (x3_1 ++ [t11]) := ⟨_, rfl⟩
   replace H : (FE.l0 k1 y12 (wrap64 (x4_1 + 1)) a0_0 l0_1) = some r := by first | (rw [hy12]; with_reducible exact H) | (have H2_ := (Option.bind_some _ _).symm.trans H; rw [hy12]; with_reducible exact H2_) | (have H2_ := (Option.bind_some _ _).symm.trans H; with_reducible exact H2_) | with_reducible exact H | (rw [hy12]; exact H) | exact H
   have Ny12 := am hy12
   clear hy12
   have H' := am H
   clear H
   obtain ⟨hcz6_0, hcz6_1, hfz6_0, hfz6_1⟩ := ce2 BK10
   go_wp2_with (first | ((with_reducible refine gate_callee (f := 65) rfl ?_); refine gL 14 rfl Try.func65 #[.agg #[.int .i64 a0_0, .slice A0_1 l0_1.length c0_1], .int .i64 x4_1] ?_; (with_reducible refine (Faa.calls a0_0 _ _ l0_1 x4_1 t11 _ ?side1 ?side2 A4.out).mono ?_); (case side1 => exact uC HR0_1 HB); (case side2 => exact HC0_1.out); rintro e w7 ⟨rfl, hb⟩; refine ⟨_, rfl, ?_⟩; replace HO_3 := rB HO_3 hb; replace BK10 := kB BK10 hb; replace HB := am (below_step Z49 hb); (try clear hb); (try clear hb2); (try clear hk); (try clear hi)) | ((with_reducible refine gate_builtin (b := .append) (xs := #[.tmp 11, .tmp 15]) rfl ?_); at_builtin; refine Kd.R_append Kd.bool (w0 := w) w.heap.size rfl (.tmp 11) (.tmp 15) 68 4 (.bool false) 1 rfl Try.underlying68 info4 rfl Z16 Z70 u3 x3_1 t11 [.bool t11] (fun _ => True) (fun _ => False) rfl rfl ?aP (fun _ hk => hk.elim) ?aF ?aO ?aB ?aS ?aL ?_; (case aP => exact rfl); (case aB => exact Z49); (case aF => exact (fun _ _ => trivial)); (case aO => exact (uR HO_3)); (case aS => exact (below_size Z49)); (case aL => have := LMc5.out; omega); intro v13 w8 ho hb hg hat; rw [← Ny12.out] at ho; replace BK10 := am (blk_grown (g := gb10) (o := .cells #[.int .i64 a0_0, .slice A0_1 l0_1.length c0_1] 26 (0, 0)) (uK BK10) hg (Kd.R_ne HO_3.out BK10.out Z16)); replace HB := am (hb); have HO14 := am (ho); clear HO_3; clear ho hb hg hat))
   go_roundg k1
   case measure => have := HK1.out; omega
   case rel => exact ⟨(y12), (wrap64 (x4_1 + 1)), Z110, H', ⟨by have := HK1.out; omega⟩, ⟨by (with_reducible repeat (first | apply Kd.R_alloc | apply Kd.R_drewN | apply Kd.R_drew)); exact HO14.out⟩, ⟨pb BK10⟩, ⟨Z49⟩⟩

/-! ### Ft: function 78 -/
def Ft.l0 : Nat → List Bool → Int → List Int → Int → Int → Option (Int × List Int × Int × Int)
 | 0, _, _, _, _, _ => none
 | k + 1, x5, x6, x2, x3, x4 => if x6 > 0 then ((Ffa.f x2 x3 x4 2).bind fun bt7 => (if x5.length < 140737488355328 then (Ft.l0 k (x5 ++ [bt7.1]) (wrap64 (x6 - 1)) x2 bt7.2.1 bt7.2.2) else (none))) else ((Fm.f k x5).bind fun bt8 => (some (bt8.1, bt8.2, x3, x4)))
def Ft.f (k : Nat) (s0_0 : List Int) (s0_1 : Int) (s0_2 : Int) (a1 : Int) : Option (Int × List Int × Int × Int) := (Fd.f s0_0 s0_1 s0_2 (wrap64 (a1 + 1))).bind fun bt3 => (Ft.l0 k ([] : List Bool) bt3.1 s0_0 bt3.2.1 bt3.2.2)
theorem Ft.mono_l : ∀ k, (∀ y0 y1 y2 y3 y4, LeO (Ft.l0 k y0 y1 y2 y3 y4) (Ft.l0 (k + 1) y0 y1 y2 y3 y4))
 | 0 => fun _ _ _ _ _ r h => by simp [Ft.l0] at h | k + 1 => by
  have ih0 := Ft.mono_l k
  ·
   intro y0 y1 y2 y3 y4
   unfold Ft.l0
   exact Mo8
theorem Ft.mono : ∀ a0 a1 a2 a3 k, LeO (Ft.f k a0 a1 a2 a3) (Ft.f (k + 1) a0 a1 a2 a3) := by
 intro a0 a1 a2 a3 k
 have ih0 := Ft.mono_l k
 unfold Ft.f
 exact Mo8
theorem Ft.calls (k : Nat) (g : Nat) (s0_0 : List Int) (s0_1 : Int) (s0_2 : Int) (a1 : Int) (r1 : Int) (r2 : List Int) (r3 : Int) (r4 : Int) (w0 w : World) (hI : IsS47 w0 w g s0_0 s0_1 s0_2) (hB : Below w0.heap.size w0 w) (h : Ft.f k s0_0 s0_1 s0_2 a1 = some (r1, r2, r3, r4)) :
  Calls Try.prog 78 #[.pointer (some ⟨g, 0, none⟩), .int .i64 a1] w fun e w' => ∃ v1_ : Value, e = .returned (.agg #[.int .i64 r1, v1_]) ∧ Kd.R (Kd.int .i64) 3 w' w.heap.size (fun _ => True) v1_ r2 ∧ IsS47 w0 w' g s0_0 r3 r4 ∧ Below w0.heap.size w0 w' ∧ KeepBut w w' g none := by
 have hu26 := Try.underlying26
 have HI0 := am hI
 have HK := am (KeepBut.refl w g none)
 have HL := am hB.size
 clear hI
 have HW0 := am hB.size
 have HB := am hB
 clear hB
 have H : ((Fd.f s0_0 s0_1 s0_2 (wrap64 (a1 + 1))).bind fun bt17 => (Ft.l0 k ([] : List Bool) bt17.1 s0_0 bt17.2.1 bt17.2.2)) = some (r1, r2, r3, r4) := h
 clear h
 replace H := Option.bind_eq_some_iff.mp H
 obtain ⟨⟨t17, t18, t19⟩, A30, H⟩ := H
 try dsimp only at H
 have A3 := am A30
 clear A30
 have H' := am H
 clear H
 go_enter Try.func78, Try.ntmps78
 go_wp2_with (first | ((with_reducible refine gate_dst (N := 4) rfl ?_); refine box_event ?hg (N := 4) ?hd (cs := #[.int .i64 0, .slice none 0 0]) (t := 26) ?hr ?_; (case hd => rfl); (case hg => rfl); (case hr => exact Z111); intro gb20 hg w4 hbox hb; replace HB := am (below_step Z4 hb); have BK20 := am (hbox); have GW20 := am ((by rw [hg]; exact (keep_size (w := w) (g := g) (row := none) Z2) : w.heap.size ≤ gb20)); have GE20 := am ((Nat.le_trans HW0.out (by rw [hg]; exact (keep_size (w := w) (g := g) (row := none) Z2) : w.heap.size ≤ gb20) : w0.heap.size ≤ gb20)); replace HK := am (KeepBut.trans Z2 (KeepBut.of_below hb g none) (.inl rfl)); have NB0_20 := am ((by rw [hg]; exact Nat.ne_of_lt (IsS47.lt (show IsS47 w0 _ g s0_0 s0_1 s0_2 from Z1)) : g ≠ gb20)); have NB20_0 := am ((by rw [hg]; exact Nat.ne_of_gt (IsS47.lt (show IsS47 w0 _ g s0_0 s0_1 s0_2 from Z1)) : gb20 ≠ g)); replace HI0 := am (IsS47.below Z1 hb); clear hb hbox hg) | ((with_reducible refine gate_callee (f := 44) rfl ?_); refine gL 10 rfl Try.func44 #[.pointer (some ⟨g, 0, none⟩), .int .i64 (wrap64 (a1 + 1))] ?_; (with_reducible refine (Fd.calls g s0_0 s0_1 s0_2 (wrap64 (a1 + 1)) t17 t18 t19 w0 _ ?side1 ?side2 A3.out).mono ?_); (case side1 => exact Z35); (case side2 => exact Z42); rintro e w5 ⟨rfl, hi, hb, hk⟩; refine ⟨_, rfl, ?_⟩; replace BK20 := am (KeepBut.blk hk (g' := gb20) (o := .cells #[.int .i64 0, .slice none 0 0] 26 (0, 0)) (uK BK20) NB20_0.out Z43); replace HK := am (KeepBut.trans Z37 hk (.inl rfl)); replace HB := am (hb); replace HI0 := am (hi); (try clear hb); (try clear hb2); (try clear hk); (try clear hi)))
 go_loopg [5, 6] k (fun kq v5 v6 w' => ∃ (x5_1 : List Bool) (x6_1 : Int) (x21_1 : Int) (x22_1 : Int), v6 = .int .i64 x6_1 ∧ Aside0 (Ft.l0 kq x5_1 x6_1 s0_0 x21_1 x22_1 = some (r1, r2, r3, r4)) ∧ Aside0 (kq ≤ k) ∧ Aside0 (Kd.R Kd.bool 4 w' w.heap.size (fun _ => True) v5 x5_1) ∧ Aside0 (w'.heap[gb20]? = some (.cells #[.int .i64 0, (.slice none 0 0)] 26 (0, 0))) ∧ Aside0 (IsS47 w0 w' g s0_0 x21_1 x22_1) ∧ Aside0 (KeepBut w w' g none) ∧ Aside0 (Below w0.heap.size w0 w'))
 case atStart => exact ⟨(([] : List Bool)), (t17), (t18), (t19), Z110, H', ⟨Nat.le_refl _⟩, ⟨Z23⟩, ⟨pb BK20⟩, ⟨Z35⟩, ⟨Z37⟩, ⟨Z42⟩⟩
 case round =>
  clear H'
  try clear p2
  try clear c4
  try clear HO_5
  obtain ⟨x5_1, x6_1, x21_1, x22_1, rfl, HA, HK1, HO_5, BK20, HI0, HK, HB⟩ := hrel
  cases gk with
  | zero => exact absurd HA.out (by simp [Ft.l0])
  | succ k1 =>
   have H := HA.out
   clear HA
   simp only [Ft.l0] at H
   by_cases c6 : x6_1 > 0
   ·
    rw [if_pos c6] at H
    have c6b0 := decide_eq_true c6
    clear c6
    replace H := Option.bind_eq_some_iff.mp H
    obtain ⟨⟨t23, t24, t25⟩, A70, H⟩ := H
    try dsimp only at H
    have A7 := am A70
    clear A70
    by_cases c8 : x5_1.length < 140737488355328
    rotate_left
    ·
     rw [if_neg c8] at H
     exact absurd H Z43
    rw [if_pos c8] at H
    have LMc8 := am c8
    clear c8
    obtain ⟨y27, hy27⟩ : ∃ y_ : List Bool, y_ = (x5_1 ++ [t23]) := ⟨_, rfl⟩
    replace H : (Ft.l0 k1 y27 (wrap64 (x6_1 - 1)) s0_0 t24 t25) = some (r1, r2, r3, r4) := by first | (rw [hy27]; with_reducible exact H) | (have H2_ := (Option.bind_some _ _).symm.trans H; rw [hy27]; with_reducible exact H2_) | (have H2_ := (Option.bind_some _ _).symm.trans H; with_reducible exact H2_) | with_reducible exact H | (rw [hy27]; exact H) | exact H
    have Ny27 := am hy27
    clear hy27
    have H' := am H
    clear H
    go_wp2_with (first | ((with_reducible refine gate_callee (f := 73) rfl ?_); refine gL 17 rfl Try.func73 #[.pointer (some ⟨g, 0, none⟩), .int .i64 2] ?_; (with_reducible refine (Ffa.calls g s0_0 x21_1 x22_1 2 t23 t24 t25 w0 _ ?side1 ?side2 A7.out).mono ?_); (case side1 => exact Z35); (case side2 => exact Z42); rintro e w9 ⟨rfl, hi, hb, hk⟩; refine ⟨_, rfl, ?_⟩; replace HO_5 := am (Kd.R_mono (Kd.R_keep (IsS47.apart (show IsS47 w0 _ g s0_0 x21_1 x22_1 from Z35) (uR HO_5) Z16) hk (fun _ h => h.2)) (fun _ h => h.1)); replace BK20 := am (KeepBut.blk hk (g' := gb20) (o := .cells #[.int .i64 0, .slice none 0 0] 26 (0, 0)) (uK BK20) NB20_0.out Z43); replace HK := am (KeepBut.trans Z37 hk (.inl rfl)); replace HB := am (hb); replace HI0 := am (hi); (try clear hb); (try clear hb2); (try clear hk); (try clear hi)) | ((with_reducible refine gate_builtin (b := .append) (xs := #[.tmp 15, .tmp 18]) rfl ?_); at_builtin; refine Kd.R_append Kd.bool w.heap.size rfl (.tmp 15) (.tmp 18) 68 4 (.bool false) 1 rfl Try.underlying68 info4 rfl Z16 Z70 u5 x5_1 t23 [.bool t23] (fun _ => True) (fun _ => False) rfl rfl ?aP (fun _ hk => hk.elim) ?aF ?aO (Below.refl _ _) ?aS ?aL ?_; (case aP => exact rfl); (case aF => exact (fun _ _ => trivial)); (case aO => exact (uR HO_5)); (case aS => exact (keep_size (w := w) (g := g) (row := none) Z37)); (case aL => have := LMc8.out; omega); intro v28 w10 ho hb hg hat; rw [← Ny27.out] at ho; replace BK20 := am (blk_grown (g := gb20) (o := .cells #[.int .i64 0, .slice none 0 0] 26 (0, 0)) (uK BK20) hg (Kd.R_ne HO_5.out BK20.out Z16)); replace HB := am (below_weaken Z42 HL.out hb); replace HI0 := am (IsS47.grown Z35 hg (IsS47.own_ne HI0.out HO_5.out Z16)); replace HK := am (KeepBut.trans Z37 (KeepBut.of_grown hg g) (Kd.R_base2 HO_5.out)); have HO29 := am (ho); clear HO_5; clear ho hb hg hat))
    go_roundg k1
    case measure => have := HK1.out; omega
    case rel => exact ⟨(y27), (wrap64 (x6_1 - 1)), (t24), (t25), Z110, H', ⟨by have := HK1.out; omega⟩, ⟨by (with_reducible repeat (first | apply Kd.R_alloc | apply Kd.R_drewN | apply Kd.R_drew)); exact HO29.out⟩, ⟨pb BK20⟩, ⟨Z35⟩, ⟨Z37⟩, ⟨Z42⟩⟩
   rw [if_neg c6] at H
   have c6b0 := decide_eq_false c6
   clear c6
   replace H := Option.bind_eq_some_iff.mp H
   obtain ⟨⟨t31, t32⟩, A33, H⟩ := H
   try dsimp only at H
   have A11 := am A33
   clear A33
   simp only [Option.some.injEq, Prod.mk.injEq] at H
   obtain ⟨rfl, rfl, rfl, rfl⟩ := H
   obtain ⟨Ao12, co12, eo12⟩ := Kd.R_slice HO_5.out
   subst eo12
   go_wp2_with (first | ((with_reducible refine gate_callee (f := 46) rfl ?_); refine gL 21 rfl Try.func46 #[.slice Ao12 x5_1.length co12] ?_; (with_reducible refine (Fm.calls k1 _ _ x5_1 t31 t32 _ ?side1 ?side2 A11.out).mono ?_); (case side1 => exact uD HO_5); (case side2 => exact (Kd.R_reads' HO_5.out).2.1); rintro e w13 ⟨v34, rfl, ho0, hb⟩; refine ⟨_, rfl, ?_⟩; replace HO_5 := rB HO_5 hb; have HO35 := am (Kd.R_lower ho0 (keep_size (w := w) (g := g) (row := none) Z37)); replace BK20 := kB BK20 hb; replace HK := am (KeepBut.trans Z37 (KeepBut.of_below hb g none) (.inl rfl)); replace HB := am (below_step Z42 hb); replace HI0 := am (IsS47.below Z35 hb); (try clear hb); (try clear hb2); (try clear hk); (try clear hi); (try clear ho0); have hnb14 := NB20_0.out; have hnc14 := NB0_20.out; obtain ⟨hcz15_0, hcz15_1, hfz15_0, hfz15_1⟩ := ce2 BK20; obtain ⟨Ao16, co16, eo16⟩ := Kd.R_slice HO35.out; subst eo16))
   refine bodyPost_ret (results_cell_row rfl _ _ gb20 26 #[.int .i64 t31, .slice Ao16 t32.length co16] (0, 0) _ rfl (pT (pp 1 (pp 0 (pb BK20)))) Try.underlying26 rfl Z112) rfl ?_
   exact ⟨_, Z109, by (with_reducible repeat (first | apply Kd.R_alloc | apply Kd.R_drewN | apply Kd.R_drew)); exact Kd.R_mono (fT HO35 BK20 Z16) (fun _ hk => trivial), Z35, Z42, Z37⟩

end Go.Proofs.Ytllaofiopnhdgaa.PFnSparseParts
