-- made by wip/tools/myprint.py over the kit's print, for this claim
import Derived.Test.YtllaofiopnhdgaaPFnSparsePartsx0
namespace Go.Proofs.Ytllaofiopnhdgaa.PFnSparseParts
open Go.RowKit Go.Proofs.YtllaofiopnhdgaaW.PrintWords Go.Proofs.YtllaofiopnhdgaaW.PrintLast Go.Proofs.YtllaofiopnhdgaaW.PrintMore
open List (setIfInBounds_toArray set_cons_zero set_cons_succ)
attribute [local go_sem] max2_int min2_int max_two min_two max_three min_three max_four min_four   -- for this text's walks alone
set_option linter.unusedVariables false
set_option linter.unusedSimpArgs false

set_option maxHeartbeats 8000000
set_option maxRecDepth 100000
/-! ### Fra: function 5 -/
def Fra.f (l0 : List Int) (l1 : List Int) : Option (Bool) := if (l0.length : Int) > 1048576 then (some true) else (some (decide ((l1.length : Int) > (wrap64 (1048576 - (l0.length : Int))))))
theorem Fra.calls (A0 : Option Addr) (c0 : Nat) (l0 : List Int) (A1 : Option Addr) (c1 : Nat) (l1 : List Int) (r : Bool) (w : World) (hr0 : Kd.C (Kd.int .u8) w A0 l0.length l0) (hc0 : l0.length ≤ c0) (hr1 : Kd.C (Kd.int .u8) w A1 l1.length l1) (hc1 : l1.length ≤ c1) (h : Fra.f l0 l1 = some r) :
    Calls Try.prog 5 #[.slice A0 l0.length c0, .slice A1 l1.length c1] w fun e w' => e = .returned (.bool r) ∧ Drawn0 w w' := by
  have HR0 := am hr0
  have HC0 := am hc0
  clear hr0 hc0
  have HR1 := am hr1
  have HC1 := am hc1
  clear hr1 hc1
  have H : (if (l0.length : Int) > 1048576 then (some true) else (some (decide ((l1.length : Int) > (wrap64 (1048576 - (l0.length : Int))))))) = some r := h
  clear h
  by_cases c3 : (l0.length : Int) > 1048576
  · rw [if_pos c3] at H
    have c3b0 := decide_eq_true c3
    have c3b1 : decide (1048576 < l0.length) = true := decide_eq_true Z70
    clear c3
    obtain rfl := Option.some.inj H
    go_enter Try.func5, Try.ntmps5
    go_wp2
    go_ret
    exact ⟨Z110, Z22⟩
  · rw [if_neg c3] at H
    have c3b0 := decide_eq_false c3
    have c3b1 : decide (1048576 < l0.length) = false := decide_eq_false Z70
    clear c3
    obtain rfl := Option.some.inj H
    go_enter Try.func5, Try.ntmps5
    go_wp2
    go_ret
    exact ⟨Z110, Z22⟩

/-! ### Fr: function 23 -/
def Fr.f (a0 : Int) (a1 : Int) (a2 : Int) : Option (Bool) := if a0 ≥ a1 then (some (decide (a0 ≤ a2))) else (some false)
theorem Fr.calls (a0 : Int) (a1 : Int) (a2 : Int) (r : Bool) (w : World) (h : Fr.f a0 a1 a2 = some r) :
    Calls Try.prog 23 #[.int .i64 a0, .int .i64 a1, .int .i64 a2] w fun e w' => e = .returned (.bool r) ∧ Drawn0 w w' := by
  have H : (if a0 ≥ a1 then (some (decide (a0 ≤ a2))) else (some false)) = some r := h
  clear h
  by_cases c4 : a0 ≥ a1
  · rw [if_pos c4] at H
    have c4b0 := decide_eq_true c4
    clear c4
    obtain rfl := Option.some.inj H
    go_enter Try.func23, Try.ntmps23
    go_wp2
    go_ret
    exact ⟨Z110, Z22⟩
  · rw [if_neg c4] at H
    have c4b0 := decide_eq_false c4
    clear c4
    obtain rfl := Option.some.inj H
    go_enter Try.func23, Try.ntmps23
    go_wp2
    go_ret
    exact ⟨Z110, Z22⟩

/-! ### Fw: function 56 -/
def Fw.l0 : Nat → List Int → Int → Int → Int → Option (Int)
 | 0, _, _, _, _ => none
 | k + 1, x0, x1, x7, x8 => if x8 < x7 then (if 0 ≤ x8 then (if x8 < (x0.length : Int) then (if x1 = (rd x0 x8) then (some x8) else (Fw.l0 k x0 x1 x7 (wrap64 (x8 + 1)))) else (none)) else (none)) else (some (-1))
def Fw.f (k : Nat) (l0 : List Int) (a1 : Int) : Option (Int) := Fw.l0 k l0 a1 (l0.length : Int) 0
theorem Fw.mono_l : ∀ k, (∀ y0 y1 y2 y3, LeO (Fw.l0 k y0 y1 y2 y3) (Fw.l0 (k + 1) y0 y1 y2 y3))
 | 0 => fun _ _ _ _ r h => by simp [Fw.l0] at h | k + 1 => by
  have ih0 := Fw.mono_l k
  ·
   intro y0 y1 y2 y3
   unfold Fw.l0
   exact Mo1
theorem Fw.mono : ∀ a0 a1 k, LeO (Fw.f k a0 a1) (Fw.f (k + 1) a0 a1) := by
 intro a0 a1 k
 have ih0 := Fw.mono_l k
 unfold Fw.f
 exact Mo1
theorem Fw.calls (k : Nat) (A0 : Option Addr) (c0 : Nat) (l0 : List Int) (a1 : Int) (r : Int) (w : World) (hr0 : Kd.C (Kd.int .i64) w A0 l0.length l0) (hc0 : l0.length ≤ c0) (h : Fw.f k l0 a1 = some r) :
  Calls Try.prog 56 #[.slice A0 l0.length c0, .int .i64 a1] w fun e w' => e = .returned (.int .i64 r) ∧ Drawn0 w w' := by
 have HR0 := am hr0
 have HC0 := am hc0
 clear hr0 hc0
 have H : (Fw.l0 k l0 a1 (l0.length : Int) 0) = some r := h
 clear h
 have H' := am H
 clear H
 go_enter Try.func56, Try.ntmps56
 go_wp2
 go_loopg [8] k (fun kq v8 w' => ∃ (x8_1 : Int), v8 = .int .i64 x8_1 ∧ Aside0 (Fw.l0 kq l0 a1 (l0.length : Int) x8_1 = some r) ∧ Aside0 (kq ≤ k) ∧ Drawn0 w w')
 case atStart => exact ⟨(0), Z110, H', ⟨Nat.le_refl _⟩, Z22⟩
 case round =>
  clear H'
  try clear p2
  obtain ⟨x8_1, rfl, HA, HK1, ⟨m1, rfl⟩⟩ := hrel
  cases gk with
  | zero => exact absurd HA.out (by simp [Fw.l0])
  | succ k1 =>
   have H := HA.out
   clear HA
   simp only [Fw.l0] at H
   by_cases c3 : x8_1 < (l0.length : Int)
   rotate_left
   ·
    rw [if_neg c3] at H
    have c3b0 := decide_eq_false c3
    clear c3
    obtain rfl := Option.some.inj H
    go_wp2
    go_ret
    exact ⟨Z110, Z22⟩
   rw [if_pos c3] at H
   have c3b0 := decide_eq_true c3
   clear c3
   by_cases c4 : 0 ≤ x8_1
   rotate_left
   ·
    rw [if_neg c4] at H
    exact absurd H Z43
   rw [if_pos c4] at H
   have c4b0 := decide_eq_true c4
   clear c4
   by_cases c5 : x8_1 < (l0.length : Int)
   rotate_left
   ·
    rw [if_neg c5] at H
    exact absurd H Z43
   rw [if_pos c5] at H
   have c5b0 := decide_eq_true c5
   clear c5
   by_cases c6 : a1 = (rd l0 x8_1)
   ·
    rw [if_pos c6] at H
    have c6b0 : (a1 == (rd l0 x8_1)) = true := beq_iff_eq.mpr c6
    have c6b1 : (a1 != (rd l0 x8_1)) = false := bne_eq_false_iff_eq.mpr c6
    clear c6
    obtain rfl := Option.some.inj H
    have p7 : 0 ≤ (x8_1 : Int) := of_decide_eq_true Z6
    have q7 : x8_1 < (l0.length : Int) := of_decide_eq_true Z6
    obtain ⟨ad7, e7, hx7_0⟩ := Kd.at_int HR0.out x8_1 p7 q7
    cases e7
    replace p7 := eq_true p7
    replace q7 := eq_true q7
    go_wp2
    go_ret
    exact ⟨Z110, Z22⟩
   rw [if_neg c6] at H
   have c6b0 : (a1 == (rd l0 x8_1)) = false := beq_eq_false_iff_ne.mpr c6
   have c6b1 : (a1 != (rd l0 x8_1)) = true := bne_iff_ne.mpr c6
   have H' := am H
   clear H
   have p7 : 0 ≤ (x8_1 : Int) := of_decide_eq_true Z6
   have q7 : x8_1 < (l0.length : Int) := of_decide_eq_true Z6
   obtain ⟨ad7, e7, hx7_0⟩ := Kd.at_int HR0.out x8_1 p7 q7
   cases e7
   replace p7 := eq_true p7
   replace q7 := eq_true q7
   go_wp2
   go_roundg k1
   case measure => have := HK1.out; omega
   case rel => exact ⟨(wrap64 (x8_1 + 1)), Z110, H', ⟨by have := HK1.out; omega⟩, Z22⟩

/-! ### FS: function 27 -/
def FS.f (k : Nat) (l0 : List Int) (a1 : Int) : Option (Bool) := (Fw.f k l0 a1).bind fun t2 => (some (decide (t2 ≥ 0)))
theorem FS.mono : ∀ a0 a1 k, LeO (FS.f k a0 a1) (FS.f (k + 1) a0 a1) := by
  intro a0 a1 k
  unfold FS.f
  repeat' first
      | with_reducible first | exact Fw.mono .. | exact LeO.refl _ | exact LeO.none _ | refine LeO.ite ?_ ?_ | refine LeO.bind ?_ (fun _ => ?_)
      | exact Fw.mono .. | exact LeO.none _ | refine LeO.ite ?_ ?_ | refine LeO.bind ?_ (fun _ => ?_)
theorem FS.calls (k : Nat) (A0 : Option Addr) (c0 : Nat) (l0 : List Int) (a1 : Int) (r : Bool) (w : World) (hr0 : Kd.C (Kd.int .i64) w A0 l0.length l0) (hc0 : l0.length ≤ c0) (h : FS.f k l0 a1 = some r) :
    Calls Try.prog 27 #[.slice A0 l0.length c0, .int .i64 a1] w fun e w' => e = .returned (.bool r) ∧ Drawn0 w w' := by
  have HR0 := am hr0
  have HC0 := am hc0
  clear hr0 hc0
  have H : ((Fw.f k l0 a1).bind fun t4 => (some (decide (t4 ≥ 0)))) = some r := h
  clear h
  replace H := Option.bind_eq_some_iff.mp H
  obtain ⟨t4, A30, H⟩ := H
  try dsimp only at H
  have A3 := am A30
  clear A30
  obtain rfl := Option.some.inj H
  go_enter Try.func27, Try.ntmps27
  go_wp2_with (first | ((with_reducible refine gate_callee (f := 56) rfl ?_); refine gL 7 rfl Try.func56 #[.slice A0 l0.length c0, .int .i64 a1] ?_; (with_reducible refine (Fw.calls k _ _ l0 a1 t4 _ ?side1 ?side2 A3.out).mono ?_); (case side1 => exact Z68); (case side2 => exact HC0.out); rintro e w' ⟨rfl, ⟨nd, rfl⟩⟩; refine ⟨_, rfl, ?_⟩))
  go_ret
  exact ⟨Z110, Z22⟩

/-! ### Fia: function 79 -/
def Fia.f (a0 : Int) : Option (Bool) := (Fr.f a0 1 100000).bind fun t1 => (some t1)
theorem Fia.calls (a0 : Int) (r : Bool) (w : World) (h : Fia.f a0 = some r) :
    Calls Try.prog 79 #[.int .i64 a0] w fun e w' => e = .returned (.bool r) ∧ Drawn0 w w' := by
  have H : ((Fr.f a0 1 100000).bind fun t1 => (some t1)) = some r := h
  clear h
  replace H := Option.bind_eq_some_iff.mp H
  obtain ⟨t1, A20, H⟩ := H
  try dsimp only at H
  have A2 := am A20
  clear A20
  obtain rfl := Option.some.inj H
  go_enter Try.func79, Try.ntmps79
  go_wp2_with (first | ((with_reducible refine gate_callee (f := 23) rfl ?_); refine gL 4 rfl Try.func23 #[.int .i64 a0, .int .i64 1, .int .i64 100000] ?_; (with_reducible refine (Fr.calls a0 1 100000 t1 _ A2.out).mono ?_); rintro e w' ⟨rfl, ⟨nd, rfl⟩⟩; refine ⟨_, rfl, ?_⟩))
  go_ret
  exact ⟨Z110, Z22⟩

/-! ### Fj: function 49 -/
mutual
def Fj.j0 : Nat → Int → Int → Bool → Option (Int × Bool)
 | 0, _, _, _ => none
 | k + 1, x0, x1, x14 => if x14 = true then (some (0, false)) else (Fj.l0 k x0 x1 0)
def Fj.l0 : Nat → Int → Int → Int → Option (Int × Bool)
 | 0, _, _, _ => none
 | k + 1, x0, x1, x6 => if 0 ≤ (wrap64 (x6 + 1)) then (if (shl .i64 (mx x0 1) (wrap64 (x6 + 1))) ≤ x1 then (Fj.l0 k x0 x1 (wrap64 (x6 + 1))) else (some (x6, true))) else (none)
end
def Fj.f (k : Nat) (a0 : Int) (a1 : Int) : Option (Int × Bool) := (Fr.f a0 0 60).bind fun t2 => (if t2 = true then ((Fia.f a1).bind fun t3 => (Fj.j0 k a0 a1 (!t3))) else (Fj.j0 k a0 a1 true))
theorem Fj.mono_l : ∀ k, (∀ y0 y1 y2, LeO (Fj.j0 k y0 y1 y2) (Fj.j0 (k + 1) y0 y1 y2)) ∧ (∀ y0 y1 y2, LeO (Fj.l0 k y0 y1 y2) (Fj.l0 (k + 1) y0 y1 y2))
 | 0 => ⟨fun _ _ _ r h => by simp [Fj.j0] at h, fun _ _ _ r h => by simp [Fj.l0] at h⟩ | k + 1 => by
  obtain ⟨ih0, ih1⟩ := Fj.mono_l k
  refine ⟨?_, ?_⟩
  ·
   intro y0 y1 y2
   unfold Fj.j0
   exact Mo2
  intro y0 y1 y2
  unfold Fj.l0
  exact Mo2
theorem Fj.mono : ∀ a0 a1 k, LeO (Fj.f k a0 a1) (Fj.f (k + 1) a0 a1) := by
 intro a0 a1 k
 obtain ⟨ih0, ih1⟩ := Fj.mono_l k
 unfold Fj.f
 exact Mo2
theorem Fj.calls (k : Nat) (a0 : Int) (a1 : Int) (r1 : Int) (r2 : Bool) (w : World) (h : Fj.f k a0 a1 = some (r1, r2)) :
  Calls Try.prog 49 #[.int .i64 a0, .int .i64 a1] w fun e w' => e = .returned (.tuple #[.int .i64 r1, .bool r2]) ∧ Below w.heap.size w w' := by
 have HB := am (Below.refl w.heap.size w)
 have H : ((Fr.f a0 0 60).bind fun t13 => (if t13 = true then ((Fia.f a1).bind fun t15 => (Fj.j0 k a0 a1 (!t15))) else (Fj.j0 k a0 a1 true))) = some (r1, r2) := h
 clear h
 have HC3 := am H
 clear H
 go_enter Try.func49, Try.ntmps49
 go_upto_region 1 with (fail)
 go_cut [14] (fun v14 wc => ∃ (kq : Nat) (x14_2 : Bool), v14 = .bool x14_2 ∧ Aside0 (Fj.j0 kq a0 a1 x14_2 = some (r1, r2)) ∧ Aside0 (kq ≤ k) ∧ Aside0 (Below w.heap.size w wc))
 case first =>
  have H := HC3.out
  clear HC3
  replace H := Option.bind_eq_some_iff.mp H
  obtain ⟨t13, A40, H⟩ := H
  try dsimp only at H
  have A4 := am A40
  clear A40
  by_cases c5 : t13 = true
  rotate_left
  ·
   replace c5 := Bool.eq_false_iff.mpr c5
   subst c5
   rw [if_neg (show ¬ (false = true) from Z16)] at H
   have H' := am H
   clear H
   go_wp2_with (first | ((with_reducible refine gate_callee (f := 23) rfl ?_); refine gL 8 rfl Try.func23 #[.int .i64 a0, .int .i64 0, .int .i64 60] ?_; (with_reducible refine (Fr.calls a0 0 60 false _ A4.out).mono ?_); rintro e w' ⟨rfl, ⟨nd, rfl⟩⟩; refine ⟨_, rfl, ?_⟩))
   go_meet
   case rel => exact ⟨_, (true), Z110, H', ⟨Z129⟩, ⟨uN HB⟩⟩
  subst c5
  rw [if_pos rfl] at H
  replace H := Option.bind_eq_some_iff.mp H
  obtain ⟨t15, A60, H⟩ := H
  try dsimp only at H
  have A6 := am A60
  clear A60
  have H' := am H
  clear H
  go_wp2_with (first | ((with_reducible refine gate_callee (f := 23) rfl ?_); refine gL 8 rfl Try.func23 #[.int .i64 a0, .int .i64 0, .int .i64 60] ?_; (with_reducible refine (Fr.calls a0 0 60 true _ A4.out).mono ?_); rintro e w' ⟨rfl, ⟨nd, rfl⟩⟩; refine ⟨_, rfl, ?_⟩) | (go_at_call 79; (with_reducible refine (Fia.calls a1 t15 _ A6.out).mono ?_); rintro e w' ⟨rfl, ⟨nd, rfl⟩⟩))
  go_meet
  case rel => exact ⟨_, (!t15), Z110, H', ⟨Z129⟩, ⟨uN HB⟩⟩
 case rest =>
  clear HC3
  try clear c2
  try clear p2
  try clear c4
  try clear c5
  obtain ⟨kq, x14_2, rfl, HA, HJ2, HB⟩ := hcut
  cases kq with
  | zero => exact absurd HA.out (by simp [Fj.j0])
  | succ kj2 =>
   have H := HA.out
   clear HA
   simp only [Fj.j0] at H
   by_cases c7 : x14_2 = true
   ·
    subst c7
    rw [if_pos rfl] at H
    simp only [Option.some.injEq, Prod.mk.injEq] at H
    obtain ⟨rfl, rfl⟩ := H
    go_wp2
    go_ret2
    exact ⟨Z109, uN HB⟩
   replace c7 := Bool.eq_false_iff.mpr c7
   subst c7
   rw [if_neg (show ¬ (false = true) from Z16)] at H
   have H' := am H
   clear H
   go_wp2
   go_loopg [6] kj2 (fun kq v6 w' => ∃ (x6_2 : Int), v6 = .int .i64 x6_2 ∧ Aside0 (Fj.l0 kq a0 a1 x6_2 = some (r1, r2)) ∧ Aside0 (kq ≤ kj2) ∧ Aside0 (Below w.heap.size w w'))
   case atStart => exact ⟨(0), Z110, H', ⟨Nat.le_refl _⟩, ⟨uN HB⟩⟩
   case round =>
    clear H'
    try clear c2
    try clear p2
    try clear c4
    try clear c5
    try clear c7
    try clear p2
    obtain ⟨x6_2, rfl, HA, HK2, HB⟩ := hrel
    cases gk with
    | zero => exact absurd HA.out (by simp [Fj.l0])
    | succ k2 =>
     have H := HA.out
     clear HA
     simp only [Fj.l0] at H
     obtain ⟨ji8, hji8⟩ : ∃ j_ : Int, (mx a0 1) = j_ := ⟨_, rfl⟩
     replace H : (if 0 ≤ (wrap64 (x6_2 + 1)) then (if (shl .i64 (ji8) (wrap64 (x6_2 + 1))) ≤ a1 then (Fj.l0 k2 a0 a1 (wrap64 (x6_2 + 1))) else (some (x6_2, true))) else (none)) = some (r1, r2) := by first | (rw [hji8] at H; exact H) | (simp only [hji8] at H ⊢; exact H)
     have hji8_ : (if a0 < 1 then 1 else a0) = ji8 := hji8
     obtain ⟨ji9, hji9⟩ : ∃ j_ : Int, (wrap64 (x6_2 + 1)) = j_ := ⟨_, rfl⟩
     replace H : (if 0 ≤ (ji9) then (if (shl .i64 (ji8) (ji9)) ≤ a1 then (Fj.l0 k2 a0 a1 ji9) else (some (x6_2, true))) else (none)) = some (r1, r2) := by first | (rw [hji9] at H; exact H) | (simp only [hji9] at H ⊢; exact H)
     have hji9w : (IntKind.i64.wrap (x6_2 + 1)) = ji9 := (i64_w _).trans hji9
     by_cases c10 : 0 ≤ (ji9)
     rotate_left
     ·
      rw [if_neg c10] at H
      exact absurd H Z43
     rw [if_pos c10] at H
     have c10b0 := eq_true c10
     have c10b1 := decide_eq_true c10
     clear c10
     obtain ⟨ji11, hji11⟩ : ∃ j_ : Int, (shl .i64 (ji8) (ji9)) = j_ := ⟨_, rfl⟩
     replace H : (if (ji11) ≤ a1 then (Fj.l0 k2 a0 a1 ji9) else (some (x6_2, true))) = some (r1, r2) := by first | (rw [hji11] at H; exact H) | (simp only [hji11] at H ⊢; exact H)
     have hji11_ : (IntKind.i64.wrap ((ji8) * 2 ^ min (ji9).toNat 64)) = ji11 := hji11
     have hji11z : (ji9) ≤ 64 → (IntKind.i64.wrap ((ji8) * 2 ^ (ji9).toNat)) = ji11 := shl_small hji11
     have hji11y : (wrap64 ((ji8) * 2 ^ min (ji9).toNat 64)) = ji11 := (i64_w _).symm.trans hji11_
     have hji11x : (ji9) ≤ 64 → (wrap64 ((ji8) * 2 ^ (ji9).toNat)) = ji11 := fun h_ => (i64_w _).symm.trans (hji11z h_)
     by_cases c12 : (ji11) ≤ a1
     rotate_left
     ·
      rw [if_neg c12] at H
      have c12b0 := decide_eq_false c12
      clear c12
      simp only [Option.some.injEq, Prod.mk.injEq] at H
      obtain ⟨rfl, rfl⟩ := H
      go_wp2
      go_ret2
      exact ⟨by first | rfl | (simp [errW_none, errW_some] <;> rfl) | (simp only [← hji8, ← hji9, ← hji11]; first | rfl | (simp [errW_none, errW_some] <;> rfl)) | (simp [*, errW_none, errW_some] <;> rfl), uN HB⟩
     rw [if_pos c12] at H
     have c12b0 := decide_eq_true c12
     clear c12
     have H' := am H
     clear H
     go_wp2
     go_roundg k2
     case measure => have := HJ2.out; have := HK2.out; omega
     case rel => exact ⟨(ji9), Z139, H', ⟨by have := HJ2.out; have := HK2.out; omega⟩, ⟨uN HB⟩⟩

/-! ### Fda: function 80 -/
def Fda.f (a0 : Int) : Option (Int) := some (wrap64 (Int.tdiv (wrap64 ((wrap64 (a0 + 16)) - 1)) 16))
theorem Fda.calls (a0 : Int) (r : Int) (w : World) (h : Fda.f a0 = some r) :
    Calls Try.prog 80 #[.int .i64 a0] w fun e w' => e = .returned (.int .i64 r) ∧ Drawn0 w w' := by
  have H : (some (wrap64 (Int.tdiv (wrap64 ((wrap64 (a0 + 16)) - 1)) 16))) = some r := h
  clear h
  obtain rfl := Option.some.inj H
  go_enter Try.func80, Try.ntmps80
  go_wp2
  go_ret
  exact ⟨Z110, Z22⟩

/-! ### Fea: function 57 -/
def Fea.f (a0 : Int) : Option (Int × List Int) := (Fda.f a0).bind fun t1 => (if 0 ≤ t1 then (if (t1 : Int).toNat ≤ 35184372088832 then (some (a0, (List.replicate (t1 : Int).toNat 0))) else (none)) else (none))
theorem Fea.calls (a0 : Int) (r1 : Int) (r2 : List Int) (w : World) (h : Fea.f a0 = some (r1, r2)) :
  Calls Try.prog 57 #[.int .i64 a0] w fun e w' => ∃ v1_ : Value, e = .returned (.agg #[.int .i64 r1, v1_]) ∧ Kd.R (Kd.int .i64) 3 w' w.heap.size (fun _ => True) v1_ r2 ∧ Below w.heap.size w w' := by
 have hu26 := Try.underlying26
 have HB := am (Below.refl w.heap.size w)
 have H : ((Fda.f a0).bind fun t10 => (if 0 ≤ t10 then (if (t10 : Int).toNat ≤ 35184372088832 then (some (a0, (List.replicate (t10 : Int).toNat 0))) else (none)) else (none))) = some (r1, r2) := h
 clear h
 replace H := Option.bind_eq_some_iff.mp H
 obtain ⟨t10, A20, H⟩ := H
 try dsimp only at H
 have A2 := am A20
 clear A20
 by_cases c3 : 0 ≤ t10
 rotate_left
 ·
  rw [if_neg c3] at H
  exact absurd H Z43
 rw [if_pos c3] at H
 have c3b0 := eq_true c3
 have c3b1 := decide_eq_true c3
 clear c3
 by_cases c4 : (t10 : Int).toNat ≤ 35184372088832
 rotate_left
 ·
  rw [if_neg c4] at H
  exact absurd H Z43
 rw [if_pos c4] at H
 have c4b0 := eq_true c4
 have c4b1 := decide_eq_true c4
 clear c4
 obtain ⟨y11, hy11⟩ : ∃ y_ : List Int, y_ = (List.replicate (t10 : Int).toNat 0) := ⟨_, rfl⟩
 replace H : (some (a0, y11)) = some (r1, r2) := by first | (rw [hy11]; with_reducible exact H) | (have H2_ := (Option.bind_some _ _).symm.trans H; rw [hy11]; with_reducible exact H2_) | (have H2_ := (Option.bind_some _ _).symm.trans H; with_reducible exact H2_) | with_reducible exact H | (rw [hy11]; exact H) | exact H
 have Ny11 := am hy11
 clear hy11
 simp only [Option.some.injEq, Prod.mk.injEq] at H
 obtain ⟨rfl, rfl⟩ := H
 go_enter Try.func57, Try.ntmps57
 go_wp2_with (first | ((with_reducible refine gate_dst (N := 2) rfl ?_); refine box_event ?hg (N := 2) ?hd (cs := #[.int .i64 0, .slice none 0 0]) (t := 26) ?hr ?_; (case hd => rfl); (case hg => rfl); (case hr => exact Z111); intro gb12 hg w5 hbox hb; have BK12 := am (hbox); have GW12 := nG HB hg; have GE12 := nG HB hg; have GI12 := gI GE12; replace HB := am (below_step (uN HB) hb); clear hb hbox hg) | ((with_reducible refine gate_callee (f := 80) rfl ?_); refine gL 5 rfl Try.func80 #[.int .i64 a0] ?_; (with_reducible refine (Fda.calls a0 t10 _ A2.out).mono ?_); rintro e w' ⟨rfl, ⟨nd, rfl⟩⟩; refine ⟨_, rfl, ?_⟩; (try (rw [drewN_self w5]; generalize hq_ : World.drewN w5 _ = w5; have n0_ : Aside0 (w5.heap[gb12]? = some (.cells #[.int .i64 0, .slice none 0 0] 26 (0, 0))) := ⟨by rw [← hq_]; exact (uK BK12)⟩; have n1_ : Aside0 (Below w.heap.size w w5) := ⟨by rw [← hq_]; exact Z36⟩; clear BK12 HB hq_; have BK12 := n0_; have HB := n1_; clear n0_ n1_))) | ((with_reducible refine gate_dst (N := 6) rfl ?_); refine Kd.R_make (Kd.int .i64) _ 3 rfl (N := 6) rfl 24 _ _ rfl t10 rfl rfl Try.underlying24 (.int .i64 0) 8 info3 rfl Z16 Z70 0 (ok := fun _ => True) (okp := fun _ => True) rfl (fun _ hk => hk) trivial (of_decide_eq_true Z6) (Nat.le_trans (Nat.mul_le_mul_right _ (of_decide_eq_true Z6 : t10.toNat ≤ 35184372088832)) Z70) (Below.refl _ _) (Nat.le_refl _) ?_; intro v13 w6 ho7 hb hg_ hnew_; clear hg_ hnew_; (first | rw [← Ny11.out] at ho7 | (simp only [Int.reduceToNat] at ho7; rw [← Ny11.out] at ho7)); have HO14 := am (Kd.R_lower ho7 (below_size Z36)); replace BK12 := kB BK12 hb; replace HB := am (below_step Z36 hb); clear hb ho7; obtain ⟨Ao8, co8, eo8⟩ := Kd.R_slice HO14.out; subst eo8; obtain ⟨hcz9_0, hcz9_1, hfz9_0, hfz9_1⟩ := ce2 BK12))
 refine bodyPost_ret (results_cell_row rfl _ _ gb12 26 #[.int .i64 a0, .slice Ao8 y11.length co8] (0, 0) _ rfl (pT (pp 1 (pp 0 (pb BK12)))) Try.underlying26 rfl Z112) rfl ?_
 exact ⟨_, Z109, by (with_reducible repeat (first | apply Kd.R_alloc | apply Kd.R_drewN | apply Kd.R_drew)); exact Kd.R_mono (fT HO14 BK12 Z16) (fun _ hk => trivial), Z36⟩

end Go.Proofs.Ytllaofiopnhdgaa.PFnSparseParts
