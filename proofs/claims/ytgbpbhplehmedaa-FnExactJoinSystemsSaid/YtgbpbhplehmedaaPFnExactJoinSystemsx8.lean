-- made by wip/tools/myprint.py over the kit's print, for this claim
import Derived.Test.YtgbpbhplehmedaaPFnExactJoinSystemsx0
namespace Go.Proofs.Ytgbpbhplehmedaa.PFnExactJoinSystems
open Go.RowKit Go.Proofs.YtgbpbhplehmedaaW.PrintWords Go.Proofs.YtgbpbhplehmedaaW.PrintLast Go.Proofs.YtgbpbhplehmedaaW.PrintMore
open List (setIfInBounds_toArray set_cons_zero set_cons_succ)
attribute [local go_sem] max2_int min2_int max_two min_two max_three min_three max_four min_four   -- for this text's walks alone
set_option linter.unusedVariables false
set_option linter.unusedSimpArgs false

set_option maxHeartbeats 8000000
set_option maxRecDepth 100000
/-! ### Fp: function 18 -/
def Fp.l0 : Nat → List Bool → List Bool → Int → Option (Bool)
 | 0, _, _, _ => none
 | k + 1, x0, x1, x5 => if x5 < (x0.length : Int) then (if 0 ≤ x5 then (if x5 < (x1.length : Int) then (if ((rdOf false x0 x5) != (rdOf false x1 x5)) = true then (some false) else (Fp.l0 k x0 x1 (wrap64 (x5 + 1)))) else (none)) else (none)) else (some true)
def Fp.f (k : Nat) (l0 : List Bool) (l1 : List Bool) : Option (Bool) := if (l0.length : Int) = (l1.length : Int) then (Fp.l0 k l0 l1 0) else (some false)
theorem Fp.mono_l : ∀ k, (∀ y0 y1 y2, LeO (Fp.l0 k y0 y1 y2) (Fp.l0 (k + 1) y0 y1 y2))
 | 0 => fun _ _ _ r h => by simp [Fp.l0] at h | k + 1 => by
  have ih0 := Fp.mono_l k
  ·
   intro y0 y1 y2
   unfold Fp.l0
   exact Mo1
theorem Fp.mono : ∀ a0 a1 k, LeO (Fp.f k a0 a1) (Fp.f (k + 1) a0 a1) := by
 intro a0 a1 k
 have ih0 := Fp.mono_l k
 unfold Fp.f
 exact Mo1
theorem Fp.calls (k : Nat) (A0 : Option Addr) (c0 : Nat) (l0 : List Bool) (A1 : Option Addr) (c1 : Nat) (l1 : List Bool) (r : Bool) (w : World) (hr0 : Kd.C Kd.bool w A0 l0.length l0) (hc0 : l0.length ≤ c0) (hr1 : Kd.C Kd.bool w A1 l1.length l1) (hc1 : l1.length ≤ c1) (h : Fp.f k l0 l1 = some r) :
  Calls Try.prog 18 #[.slice A0 l0.length c0, .slice A1 l1.length c1] w fun e w' => e = .returned (.bool r) ∧ Drawn0 w w' := by
 have HR0 := am hr0
 have HC0 := am hc0
 clear hr0 hc0
 have HR1 := am hr1
 have HC1 := am hc1
 clear hr1 hc1
 have H : (if (l0.length : Int) = (l1.length : Int) then (Fp.l0 k l0 l1 0) else (some false)) = some r := h
 clear h
 by_cases c3 : (l0.length : Int) = (l1.length : Int)
 rotate_left
 ·
  rw [if_neg c3] at H
  have c3b0 : ((l0.length : Int) == (l1.length : Int)) = false := beq_eq_false_iff_ne.mpr c3
  have c3b1 : ((l0.length : Int) != (l1.length : Int)) = true := bne_iff_ne.mpr c3
  have c3b2 : (l0.length == l1.length) = false := by first | simpa using c3 | (simp at c3 ⊢; omega)
  obtain rfl := Option.some.inj H
  go_enter Try.func18, Try.ntmps18
  go_wp2
  repeat (go_quiet (fail); try go_wp2)
  go_ret
  exact ⟨Z87, Z12⟩
 rw [if_pos c3] at H
 have c3b0 : ((l0.length : Int) == (l1.length : Int)) = true := beq_iff_eq.mpr c3
 have c3b1 : ((l0.length : Int) != (l1.length : Int)) = false := bne_eq_false_iff_eq.mpr c3
 have c3b2 : (l0.length == l1.length) = true := by first | simpa using c3 | (simp at c3 ⊢; omega)
 clear c3
 have H' := am H
 clear H
 go_enter Try.func18, Try.ntmps18
 go_wp2
 repeat (go_quiet (fail); try go_wp2)
 go_loopg [5] k (fun kq v5 w' => ∃ (x5_1 : Int), v5 = .int .i64 x5_1 ∧ Aside0 (Fp.l0 kq l0 l1 x5_1 = some r) ∧ Aside0 (kq ≤ k) ∧ Drawn0 w w')
 case atStart => exact ⟨(0), Z87, H', ⟨Nat.le_refl _⟩, Z12⟩
 case round =>
  clear H'
  try clear c1
  try clear p2
  try clear c3
  try clear c3b0
  try clear c3b1
  try clear c3b2
  obtain ⟨x5_1, rfl, HA, HK1, ⟨m1, rfl⟩⟩ := hrel
  cases gk with
  | zero => exact absurd HA.out (by simp [Fp.l0])
  | succ k1 =>
   have H := HA.out
   clear HA
   simp only [Fp.l0] at H
   by_cases c4 : x5_1 < (l0.length : Int)
   rotate_left
   ·
    rw [if_neg c4] at H
    have c4b0 := decide_eq_false c4
    clear c4
    obtain rfl := Option.some.inj H
    go_wp2
    repeat (go_quiet (fail); try go_wp2)
    go_ret
    exact ⟨Z87, Z12⟩
   rw [if_pos c4] at H
   have c4b0 := decide_eq_true c4
   clear c4
   by_cases c5 : 0 ≤ x5_1
   rotate_left
   ·
    rw [if_neg c5] at H
    exact absurd H Z65
   rw [if_pos c5] at H
   have c5b0 := decide_eq_true c5
   clear c5
   by_cases c6 : x5_1 < (l1.length : Int)
   rotate_left
   ·
    rw [if_neg c6] at H
    exact absurd H Z65
   rw [if_pos c6] at H
   have c6b0 := decide_eq_true c6
   clear c6
   by_cases c7 : ((rdOf false l0 x5_1) != (rdOf false l1 x5_1)) = true
   ·
    rw [if_pos c7] at H
    have c7b0 : ((rdOf false l0 x5_1) != (rdOf false l1 x5_1)) = true := c7
    (try (have c7b1 : decide ((rdOf false l0 x5_1) = (rdOf false l1 x5_1)) = false := by simpa using c7))
    (try (have c7b2 : ((rdOf false l0 x5_1) == (rdOf false l1 x5_1)) = false := by simpa using c7))
    (try (have c7b3 : ¬ ((rdOf false l0 x5_1) = (rdOf false l1 x5_1)) := by simpa using c7))
    clear c7
    obtain rfl := Option.some.inj H
    have p8 : 0 ≤ (x5_1 : Int) := of_decide_eq_true Z5
    have q8 : x5_1 < (l0.length : Int) := of_decide_eq_true Z5
    obtain ⟨ad8, e8, hx8_0⟩ := Kd.at_bool HR0.out x5_1 p8 q8
    cases e8
    replace p8 := eq_true p8
    replace q8 := eq_true q8
    have p9 : 0 ≤ (x5_1 : Int) := of_decide_eq_true Z5
    have q9 : x5_1 < (l1.length : Int) := of_decide_eq_true Z5
    obtain ⟨ad9, e9, hx9_0⟩ := Kd.at_bool HR1.out x5_1 p9 q9
    cases e9
    replace p9 := eq_true p9
    replace q9 := eq_true q9
    go_wp2
    repeat (go_quiet (fail); try go_wp2)
    go_ret
    exact ⟨Z87, Z12⟩
   rw [if_neg c7] at H
   have c7b0 : ((rdOf false l0 x5_1) != (rdOf false l1 x5_1)) = false := by simpa using c7
   (try (have c7b1 : decide ((rdOf false l0 x5_1) = (rdOf false l1 x5_1)) = true := by simpa using c7))
   (try (have c7b2 : ((rdOf false l0 x5_1) == (rdOf false l1 x5_1)) = true := by simpa using c7))
   clear c7
   have H' := am H
   clear H
   have p8 : 0 ≤ (x5_1 : Int) := of_decide_eq_true Z5
   have q8 : x5_1 < (l0.length : Int) := of_decide_eq_true Z5
   obtain ⟨ad8, e8, hx8_0⟩ := Kd.at_bool HR0.out x5_1 p8 q8
   cases e8
   replace p8 := eq_true p8
   replace q8 := eq_true q8
   have p9 : 0 ≤ (x5_1 : Int) := of_decide_eq_true Z5
   have q9 : x5_1 < (l1.length : Int) := of_decide_eq_true Z5
   obtain ⟨ad9, e9, hx9_0⟩ := Kd.at_bool HR1.out x5_1 p9 q9
   cases e9
   replace p9 := eq_true p9
   replace q9 := eq_true q9
   go_wp2
   repeat (go_quiet (fail); try go_wp2)
   go_roundg k1
   case measure => have := HK1.out; omega
   case rel => exact ⟨(wrap64 (x5_1 + 1)), Z87, H', ⟨by have := HK1.out; omega⟩, Z12⟩

/-! ### Fq: function 69 -/
def Fq.l0 : Nat → List Int → List Int → Int → Option (Bool)
 | 0, _, _, _ => none
 | k + 1, x0, x1, x5 => if x5 < (x0.length : Int) then (if 0 ≤ x5 then (if x5 < (x1.length : Int) then (if (rd x0 x5) = (rd x1 x5) then (Fq.l0 k x0 x1 (wrap64 (x5 + 1))) else (some false)) else (none)) else (none)) else (some true)
def Fq.f (k : Nat) (l0 : List Int) (l1 : List Int) : Option (Bool) := if (l0.length : Int) = (l1.length : Int) then (Fq.l0 k l0 l1 0) else (some false)
theorem Fq.mono_l : ∀ k, (∀ y0 y1 y2, LeO (Fq.l0 k y0 y1 y2) (Fq.l0 (k + 1) y0 y1 y2))
 | 0 => fun _ _ _ r h => by simp [Fq.l0] at h | k + 1 => by
  have ih0 := Fq.mono_l k
  ·
   intro y0 y1 y2
   unfold Fq.l0
   exact Mo1
theorem Fq.mono : ∀ a0 a1 k, LeO (Fq.f k a0 a1) (Fq.f (k + 1) a0 a1) := by
 intro a0 a1 k
 have ih0 := Fq.mono_l k
 unfold Fq.f
 exact Mo1
theorem Fq.calls (k : Nat) (A0 : Option Addr) (c0 : Nat) (l0 : List Int) (A1 : Option Addr) (c1 : Nat) (l1 : List Int) (r : Bool) (w : World) (hr0 : Kd.C (Kd.int .i64) w A0 l0.length l0) (hc0 : l0.length ≤ c0) (hr1 : Kd.C (Kd.int .i64) w A1 l1.length l1) (hc1 : l1.length ≤ c1) (h : Fq.f k l0 l1 = some r) :
  Calls Try.prog 69 #[.slice A0 l0.length c0, .slice A1 l1.length c1] w fun e w' => e = .returned (.bool r) ∧ Drawn0 w w' := by
 have HR0 := am hr0
 have HC0 := am hc0
 clear hr0 hc0
 have HR1 := am hr1
 have HC1 := am hc1
 clear hr1 hc1
 have H : (if (l0.length : Int) = (l1.length : Int) then (Fq.l0 k l0 l1 0) else (some false)) = some r := h
 clear h
 by_cases c3 : (l0.length : Int) = (l1.length : Int)
 rotate_left
 ·
  rw [if_neg c3] at H
  have c3b0 : ((l0.length : Int) == (l1.length : Int)) = false := beq_eq_false_iff_ne.mpr c3
  have c3b1 : ((l0.length : Int) != (l1.length : Int)) = true := bne_iff_ne.mpr c3
  have c3b2 : (l0.length == l1.length) = false := by first | simpa using c3 | (simp at c3 ⊢; omega)
  obtain rfl := Option.some.inj H
  go_enter Try.func69, Try.ntmps69
  go_wp2
  repeat (go_quiet (fail); try go_wp2)
  go_ret
  exact ⟨Z87, Z12⟩
 rw [if_pos c3] at H
 have c3b0 : ((l0.length : Int) == (l1.length : Int)) = true := beq_iff_eq.mpr c3
 have c3b1 : ((l0.length : Int) != (l1.length : Int)) = false := bne_eq_false_iff_eq.mpr c3
 have c3b2 : (l0.length == l1.length) = true := by first | simpa using c3 | (simp at c3 ⊢; omega)
 clear c3
 have H' := am H
 clear H
 go_enter Try.func69, Try.ntmps69
 go_wp2
 repeat (go_quiet (fail); try go_wp2)
 go_loopg [5] k (fun kq v5 w' => ∃ (x5_1 : Int), v5 = .int .i64 x5_1 ∧ Aside0 (Fq.l0 kq l0 l1 x5_1 = some r) ∧ Aside0 (kq ≤ k) ∧ Drawn0 w w')
 case atStart => exact ⟨(0), Z87, H', ⟨Nat.le_refl _⟩, Z12⟩
 case round =>
  clear H'
  try clear c1
  try clear p2
  try clear c3
  try clear c3b0
  try clear c3b1
  try clear c3b2
  obtain ⟨x5_1, rfl, HA, HK1, ⟨m1, rfl⟩⟩ := hrel
  cases gk with
  | zero => exact absurd HA.out (by simp [Fq.l0])
  | succ k1 =>
   have H := HA.out
   clear HA
   simp only [Fq.l0] at H
   by_cases c4 : x5_1 < (l0.length : Int)
   rotate_left
   ·
    rw [if_neg c4] at H
    have c4b0 := decide_eq_false c4
    clear c4
    obtain rfl := Option.some.inj H
    go_wp2
    repeat (go_quiet (fail); try go_wp2)
    go_ret
    exact ⟨Z87, Z12⟩
   rw [if_pos c4] at H
   have c4b0 := decide_eq_true c4
   clear c4
   by_cases c5 : 0 ≤ x5_1
   rotate_left
   ·
    rw [if_neg c5] at H
    exact absurd H Z65
   rw [if_pos c5] at H
   have c5b0 := decide_eq_true c5
   clear c5
   by_cases c6 : x5_1 < (l1.length : Int)
   rotate_left
   ·
    rw [if_neg c6] at H
    exact absurd H Z65
   rw [if_pos c6] at H
   have c6b0 := decide_eq_true c6
   clear c6
   by_cases c7 : (rd l0 x5_1) = (rd l1 x5_1)
   rotate_left
   ·
    rw [if_neg c7] at H
    have c7b0 : ((rd l0 x5_1) == (rd l1 x5_1)) = false := beq_eq_false_iff_ne.mpr c7
    have c7b1 : ((rd l0 x5_1) != (rd l1 x5_1)) = true := bne_iff_ne.mpr c7
    obtain rfl := Option.some.inj H
    have p8 : 0 ≤ (x5_1 : Int) := of_decide_eq_true Z5
    have q8 : x5_1 < (l0.length : Int) := of_decide_eq_true Z5
    obtain ⟨ad8, e8, hx8_0⟩ := Kd.at_int HR0.out x5_1 p8 q8
    cases e8
    replace p8 := eq_true p8
    replace q8 := eq_true q8
    have p9 : 0 ≤ (x5_1 : Int) := of_decide_eq_true Z5
    have q9 : x5_1 < (l1.length : Int) := of_decide_eq_true Z5
    obtain ⟨ad9, e9, hx9_0⟩ := Kd.at_int HR1.out x5_1 p9 q9
    cases e9
    replace p9 := eq_true p9
    replace q9 := eq_true q9
    go_wp2
    repeat (go_quiet (fail); try go_wp2)
    go_ret
    exact ⟨Z87, Z12⟩
   rw [if_pos c7] at H
   have c7b0 : ((rd l0 x5_1) == (rd l1 x5_1)) = true := beq_iff_eq.mpr c7
   have c7b1 : ((rd l0 x5_1) != (rd l1 x5_1)) = false := bne_eq_false_iff_eq.mpr c7
   clear c7
   have H' := am H
   clear H
   have p8 : 0 ≤ (x5_1 : Int) := of_decide_eq_true Z5
   have q8 : x5_1 < (l0.length : Int) := of_decide_eq_true Z5
   obtain ⟨ad8, e8, hx8_0⟩ := Kd.at_int HR0.out x5_1 p8 q8
   cases e8
   replace p8 := eq_true p8
   replace q8 := eq_true q8
   have p9 : 0 ≤ (x5_1 : Int) := of_decide_eq_true Z5
   have q9 : x5_1 < (l1.length : Int) := of_decide_eq_true Z5
   obtain ⟨ad9, e9, hx9_0⟩ := Kd.at_int HR1.out x5_1 p9 q9
   cases e9
   replace p9 := eq_true p9
   replace q9 := eq_true q9
   go_wp2
   repeat (go_quiet (fail); try go_wp2)
   go_roundg k1
   case measure => have := HK1.out; omega
   case rel => exact ⟨(wrap64 (x5_1 + 1)), Z87, H', ⟨by have := HK1.out; omega⟩, Z12⟩

/-! ### FG: function 54 -/
def FG.f (k : Nat) (a0_0 : Int) (l0_1 : List Int) (a1_0 : Int) (l1_1 : List Int) : Option (Bool) := if a0_0 = a1_0 then ((Fq.f k l0_1 l1_1).bind fun t2 => (if t2 = true then (some true) else (some false))) else (some false)
theorem FG.mono : ∀ a0 a1 a2 a3 k, LeO (FG.f k a0 a1 a2 a3) (FG.f (k + 1) a0 a1 a2 a3) := by
 intro a0 a1 a2 a3 k
 unfold FG.f
 repeat' first
   | with_reducible first | exact Fq.mono .. | exact LeO.refl _ | exact LeO.none _ | refine LeO.ite ?_ ?_ | refine LeO.bind ?_ (fun _ => ?_)
   | exact Fq.mono .. | exact LeO.none _ | refine LeO.ite ?_ ?_ | refine LeO.bind ?_ (fun _ => ?_)
theorem FG.calls (k : Nat) (a0_0 : Int) (A0_1 : Option Addr) (c0_1 : Nat) (l0_1 : List Int) (a1_0 : Int) (A1_1 : Option Addr) (c1_1 : Nat) (l1_1 : List Int) (r : Bool) (w : World) (hr0_1 : Kd.C (Kd.int .i64) w A0_1 l0_1.length l0_1) (hc0_1 : l0_1.length ≤ c0_1) (hr1_1 : Kd.C (Kd.int .i64) w A1_1 l1_1.length l1_1) (hc1_1 : l1_1.length ≤ c1_1) (h : FG.f k a0_0 l0_1 a1_0 l1_1 = some r) :
  Calls Try.prog 54 #[.agg #[.int .i64 a0_0, .slice A0_1 l0_1.length c0_1], .agg #[.int .i64 a1_0, .slice A1_1 l1_1.length c1_1]] w fun e w' => e = .returned (.bool r) ∧ Below w.heap.size w w' := by
 have hu53 := Try.underlying53
 have HR0_1 := am hr0_1
 have HC0_1 := am hc0_1
 clear hr0_1 hc0_1
 have HR1_1 := am hr1_1
 have HC1_1 := am hc1_1
 clear hr1_1 hc1_1
 have HB := am (Below.refl w.heap.size w)
 have H : (if a0_0 = a1_0 then ((Fq.f k l0_1 l1_1).bind fun t21 => (if t21 = true then (some true) else (some false))) else (some false)) = some r := h
 clear h
 by_cases c3 : a0_0 = a1_0
 rotate_left
 ·
  rw [if_neg c3] at H
  have c3b0 : (a0_0 == a1_0) = false := beq_eq_false_iff_ne.mpr c3
  have c3b1 : (a0_0 != a1_0) = true := bne_iff_ne.mpr c3
  obtain rfl := Option.some.inj H
  go_enter Try.func54, Try.ntmps54
  go_wp2_with (first | ((with_reducible refine gate_dst (N := 2) rfl ?_); refine box_event ?hg (N := 2) ?hd (cs := #[.int .i64 a0_0, .slice A0_1 l0_1.length c0_1]) (t := 53) ?hr ?_; (case hd => rfl); (case hg => rfl); (case hr => exact Z88); intro gb22 hg w16 hbox hb; have BK22 := am (hbox); have GW22 := nG HB hg; have GE22 := nG HB hg; have GI22 := gI GE22; replace HB := am (below_step (uN HB) hb); clear hb hbox hg) | ((with_reducible refine gate_dst (N := 3) rfl ?_); refine box_event ?hg (N := 3) ?hd (cs := #[.int .i64 a1_0, .slice A1_1 l1_1.length c1_1]) (t := 53) ?hr ?_; (case hd => rfl); (case hg => rfl); (case hr => exact Z88); intro gb23 hg w17 hbox hb; have BK23 := am (hbox); have GW23 := am ((by rw [hg]; exact (below_size Z20) : w.heap.size ≤ gb23)); have GE23 := am ((by rw [hg]; exact (below_size Z20) : w.heap.size ≤ gb23)); replace HB := am (below_step Z20 hb); have NB22_23 := nL BK22 hg; have NB23_22 := nR BK22 hg; replace BK22 := kB BK22 hb; clear hb hbox hg; have hnb18 := NB22_23.out; have hnc18 := NB23_22.out; obtain ⟨hcz19_0, hcz19_1, hfz19_0, hfz19_1⟩ := ce2 BK22; obtain ⟨hcz20_0, hcz20_1, hfz20_0, hfz20_1⟩ := ce2 BK23))
  go_ret
  exact ⟨Z86, Z51⟩
 rw [if_pos c3] at H
 have c3b0 : (a0_0 == a1_0) = true := beq_iff_eq.mpr c3
 have c3b1 : (a0_0 != a1_0) = false := bne_eq_false_iff_eq.mpr c3
 clear c3
 replace H := Option.bind_eq_some_iff.mp H
 obtain ⟨t21, A40, H⟩ := H
 try dsimp only at H
 have A4 := am A40
 clear A40
 by_cases c5 : t21 = true
 ·
  subst c5
  rw [if_pos rfl] at H
  obtain rfl := Option.some.inj H
  go_enter Try.func54, Try.ntmps54
  go_wp2_with (first | ((with_reducible refine gate_dst (N := 2) rfl ?_); refine box_event ?hg (N := 2) ?hd (cs := #[.int .i64 a0_0, .slice A0_1 l0_1.length c0_1]) (t := 53) ?hr ?_; (case hd => rfl); (case hg => rfl); (case hr => exact Z88); intro gb22 hg w6 hbox hb; have BK22 := am (hbox); have GW22 := nG HB hg; have GE22 := nG HB hg; have GI22 := gI GE22; replace HB := am (below_step (uN HB) hb); clear hb hbox hg) | ((with_reducible refine gate_dst (N := 3) rfl ?_); refine box_event ?hg (N := 3) ?hd (cs := #[.int .i64 a1_0, .slice A1_1 l1_1.length c1_1]) (t := 53) ?hr ?_; (case hd => rfl); (case hg => rfl); (case hr => exact Z88); intro gb23 hg w7 hbox hb; have BK23 := am (hbox); have GW23 := am ((by rw [hg]; exact (below_size Z20) : w.heap.size ≤ gb23)); have GE23 := am ((by rw [hg]; exact (below_size Z20) : w.heap.size ≤ gb23)); replace HB := am (below_step Z20 hb); have NB22_23 := nL BK22 hg; have NB23_22 := nR BK22 hg; replace BK22 := kB BK22 hb; clear hb hbox hg; have hnb8 := NB22_23.out; have hnc8 := NB23_22.out; obtain ⟨hcz9_0, hcz9_1, hfz9_0, hfz9_1⟩ := ce2 BK22; obtain ⟨hcz10_0, hcz10_1, hfz10_0, hfz10_1⟩ := ce2 BK23) | ((with_reducible refine gate_callee (f := 69) rfl ?_); refine gL 14 rfl Try.func69 #[.slice A0_1 l0_1.length c0_1, .slice A1_1 l1_1.length c1_1] ?_; (with_reducible refine (Fq.calls k _ _ l0_1 _ _ l1_1 true _ ?side1 ?side2 ?side3 ?side4 A4.out).mono ?_); (case side1 => exact uC HR0_1 HB); (case side2 => exact HC0_1.out); (case side3 => exact uC HR1_1 HB); (case side4 => exact HC1_1.out); rintro e w' ⟨rfl, ⟨nd, rfl⟩⟩; refine ⟨_, rfl, ?_⟩))
  go_ret
  exact ⟨Z86, Z51⟩
 replace c5 := Bool.eq_false_iff.mpr c5
 subst c5
 rw [if_neg (show ¬ (false = true) from Z21)] at H
 obtain rfl := Option.some.inj H
 go_enter Try.func54, Try.ntmps54
 go_wp2_with (first | ((with_reducible refine gate_dst (N := 2) rfl ?_); refine box_event ?hg (N := 2) ?hd (cs := #[.int .i64 a0_0, .slice A0_1 l0_1.length c0_1]) (t := 53) ?hr ?_; (case hd => rfl); (case hg => rfl); (case hr => exact Z88); intro gb22 hg w11 hbox hb; have BK22 := am (hbox); have GW22 := nG HB hg; have GE22 := nG HB hg; have GI22 := gI GE22; replace HB := am (below_step (uN HB) hb); clear hb hbox hg) | ((with_reducible refine gate_dst (N := 3) rfl ?_); refine box_event ?hg (N := 3) ?hd (cs := #[.int .i64 a1_0, .slice A1_1 l1_1.length c1_1]) (t := 53) ?hr ?_; (case hd => rfl); (case hg => rfl); (case hr => exact Z88); intro gb23 hg w12 hbox hb; have BK23 := am (hbox); have GW23 := am ((by rw [hg]; exact (below_size Z20) : w.heap.size ≤ gb23)); have GE23 := am ((by rw [hg]; exact (below_size Z20) : w.heap.size ≤ gb23)); replace HB := am (below_step Z20 hb); have NB22_23 := nL BK22 hg; have NB23_22 := nR BK22 hg; replace BK22 := kB BK22 hb; clear hb hbox hg; have hnb13 := NB22_23.out; have hnc13 := NB23_22.out; obtain ⟨hcz14_0, hcz14_1, hfz14_0, hfz14_1⟩ := ce2 BK22; obtain ⟨hcz15_0, hcz15_1, hfz15_0, hfz15_1⟩ := ce2 BK23) | ((with_reducible refine gate_callee (f := 69) rfl ?_); refine gL 14 rfl Try.func69 #[.slice A0_1 l0_1.length c0_1, .slice A1_1 l1_1.length c1_1] ?_; (with_reducible refine (Fq.calls k _ _ l0_1 _ _ l1_1 false _ ?side1 ?side2 ?side3 ?side4 A4.out).mono ?_); (case side1 => exact uC HR0_1 HB); (case side2 => exact HC0_1.out); (case side3 => exact uC HR1_1 HB); (case side4 => exact HC1_1.out); rintro e w' ⟨rfl, ⟨nd, rfl⟩⟩; refine ⟨_, rfl, ?_⟩))
 go_ret
 exact ⟨Z86, Z51⟩

/-! ### Fg: function 30 -/
def Fg.l0 : Nat → List (S53) → List (S53) → Int → Option (Bool)
 | 0, _, _, _ => none
 | k + 1, x0, x1, x5 => if x5 < (x0.length : Int) then (if 0 ≤ x5 then (if x5 < (x1.length : Int) then ((FG.f k ((rd_T53 x0 x5).f0) ((rd_T53 x0 x5).f1) ((rd_T53 x1 x5).f0) ((rd_T53 x1 x5).f1)).bind fun t2 => (if t2 = true then (Fg.l0 k x0 x1 (wrap64 (x5 + 1))) else (some false))) else (none)) else (none)) else (some true)
def Fg.f (k : Nat) (l0 : List (S53)) (l1 : List (S53)) : Option (Bool) := if (l0.length : Int) = (l1.length : Int) then (Fg.l0 k l0 l1 0) else (some false)
theorem Fg.mono_l : ∀ k, (∀ y0 y1 y2, LeO (Fg.l0 k y0 y1 y2) (Fg.l0 (k + 1) y0 y1 y2))
 | 0 => fun _ _ _ r h => by simp [Fg.l0] at h | k + 1 => by
  have ih0 := Fg.mono_l k
  ·
   intro y0 y1 y2
   unfold Fg.l0
   exact Mo8
theorem Fg.mono : ∀ a0 a1 k, LeO (Fg.f k a0 a1) (Fg.f (k + 1) a0 a1) := by
 intro a0 a1 k
 have ih0 := Fg.mono_l k
 unfold Fg.f
 exact Mo8
def Fg.T6 : Bool × List (List Nat × List Nat) := (true, [([], []), ([], []), ([0, 1], [0, 1]), ([2], [2]), ([], []), ([], []), ([4, 5], [4, 5]), ([6], [6]), ([3, 7], [3, 7]), ([8], [8])])
def Fg.B6 : List Nat := [0, 0, 3, 7, 0, 0, 48, 112, 255, 511]
theorem Fg.tab6 : rtab .any (opsOf Try.f30 6) = Fg.T6 := by kernel_rfl
theorem Fg.bits6 : waitsOk Fg.T6.2 Fg.B6 = true := by kernel_rfl
theorem Fg.calls (k : Nat) (A0 : Option Addr) (c0 : Nat) (l0 : List (S53)) (A1 : Option Addr) (c1 : Nat) (l1 : List (S53)) (r : Bool) (w : World) (hr0 : Kd.C k53 w A0 l0.length l0) (hc0 : l0.length ≤ c0) (hr1 : Kd.C k53 w A1 l1.length l1) (hc1 : l1.length ≤ c1) (h : Fg.f k l0 l1 = some r) :
  Calls Try.prog 30 #[.slice A0 l0.length c0, .slice A1 l1.length c1] w fun e w' => e = .returned (.bool r) ∧ Below w.heap.size w w' := by
 have hu53 := Try.underlying53
 have HR0 := am hr0
 have HC0 := am hc0
 clear hr0 hc0
 have HR1 := am hr1
 have HC1 := am hc1
 clear hr1 hc1
 have HB := am (Below.refl w.heap.size w)
 have H : (if (l0.length : Int) = (l1.length : Int) then (Fg.l0 k l0 l1 0) else (some false)) = some r := h
 clear h
 by_cases c3 : (l0.length : Int) = (l1.length : Int)
 rotate_left
 ·
  rw [if_neg c3] at H
  have c3b0 : ((l0.length : Int) == (l1.length : Int)) = false := beq_eq_false_iff_ne.mpr c3
  have c3b1 : ((l0.length : Int) != (l1.length : Int)) = true := bne_iff_ne.mpr c3
  have c3b2 : (l0.length == l1.length) = false := by first | simpa using c3 | (simp at c3 ⊢; omega)
  obtain rfl := Option.some.inj H
  go_enter Try.func30, Try.ntmps30
  go_wp2
  go_ret
  exact ⟨Z86, uN HB⟩
 rw [if_pos c3] at H
 have c3b0 : ((l0.length : Int) == (l1.length : Int)) = true := beq_iff_eq.mpr c3
 have c3b1 : ((l0.length : Int) != (l1.length : Int)) = false := bne_eq_false_iff_eq.mpr c3
 have c3b2 : (l0.length == l1.length) = true := by first | simpa using c3 | (simp at c3 ⊢; omega)
 clear c3
 have H' := am H
 clear H
 go_enter Try.func30, Try.ntmps30
 go_wp2
 go_loopg [5] k (fun kq v5 w' => ∃ (x5_1 : Int), v5 = .int .i64 x5_1 ∧ Aside0 (Fg.l0 kq l0 l1 x5_1 = some r) ∧ Aside0 (kq ≤ k) ∧ Aside0 (Below w.heap.size w w'))
 case atStart => exact ⟨(0), Z87, H', ⟨Nat.le_refl _⟩, ⟨uN HB⟩⟩
 case round =>
  clear H'
  try clear c1
  try clear p2
  try clear c3
  try clear c3b0
  try clear c3b1
  try clear c3b2
  obtain ⟨x5_1, rfl, HA, HK1, HB⟩ := hrel
  cases gk with
  | zero => exact absurd HA.out (by simp [Fg.l0])
  | succ k1 =>
   have H := HA.out
   clear HA
   simp only [Fg.l0] at H
   by_cases c4 : x5_1 < (l0.length : Int)
   rotate_left
   ·
    rw [if_neg c4] at H
    have c4b0 := decide_eq_false c4
    clear c4
    obtain rfl := Option.some.inj H
    go_wp2
    go_ret
    exact ⟨Z86, uN HB⟩
   rw [if_pos c4] at H
   have c4b0 := decide_eq_true c4
   clear c4
   by_cases c5 : 0 ≤ x5_1
   rotate_left
   ·
    rw [if_neg c5] at H
    exact absurd H Z65
   rw [if_pos c5] at H
   have c5b0 := decide_eq_true c5
   clear c5
   by_cases c6 : x5_1 < (l1.length : Int)
   rotate_left
   ·
    rw [if_neg c6] at H
    exact absurd H Z65
   rw [if_pos c6] at H
   have c6b0 := decide_eq_true c6
   clear c6
   replace H := Option.bind_eq_some_iff.mp H
   obtain ⟨t13, A70, H⟩ := H
   try dsimp only at H
   have A7 := am A70
   clear A70
   by_cases c8 : t13 = true
   ·
    subst c8
    rw [if_pos rfl] at H
    have H' := am H
    clear H
    try go_wp2
    replace HB := am (below_drew1 HB.out)
    have p14 : 0 ≤ (x5_1 : Int) := of_decide_eq_true Z5
    have q14 : x5_1 < (l0.length : Int) := of_decide_eq_true Z5
    obtain ⟨ad14, A14_1, c14_1, e14, hx14_0, hx14_1, hl253_1, hi14_1⟩ := at_T53 HR0.out x5_1 p14 q14
    have hw253_1 := hx14_1
    have hw253_0 := hx14_0
    cases e14
    replace hx14_0 := (HB.out.cell (World.block_lt_of_cell? w _ hx14_0)).trans hx14_0
    replace hx14_1 := (HB.out.cell (World.block_lt_of_cell? w _ hx14_1)).trans hx14_1
    have HR14_1 := am hi14_1
    have HC14_1 := am hl253_1
    clear hi14_1 hl253_1
    replace p14 := eq_true p14
    replace q14 := eq_true q14
    have p15 : 0 ≤ (x5_1 : Int) := of_decide_eq_true Z5
    have q15 : x5_1 < (l1.length : Int) := of_decide_eq_true Z5
    obtain ⟨ad15, A15_1, c15_1, e15, hx15_0, hx15_1, hl254_1, hi15_1⟩ := at_T53 HR1.out x5_1 p15 q15
    have hw254_1 := hx15_1
    have hw254_0 := hx15_0
    cases e15
    replace hx15_0 := (HB.out.cell (World.block_lt_of_cell? w _ hx15_0)).trans hx15_0
    replace hx15_1 := (HB.out.cell (World.block_lt_of_cell? w _ hx15_1)).trans hx15_1
    have HR15_1 := am hi15_1
    have HC15_1 := am hl254_1
    clear hi15_1 hl254_1
    replace p15 := eq_true p15
    replace q15 := eq_true q15
    refine start_ (n := 10) (S := fun w' => w'.cell? (ad14.add ((x5_1).toNat * 2)) = some (.int .i64 ((rd_T53 l0 x5_1).f0)) ∧ w'.cell? ⟨(ad14.add ((x5_1).toNat * 2)).block, (ad14.add ((x5_1).toNat * 2)).off + 1, none⟩ = some (.slice A14_1 ((rd_T53 l0 x5_1).f1).length c14_1) ∧ w'.cell? (ad15.add ((x5_1).toNat * 2)) = some (.int .i64 ((rd_T53 l1 x5_1).f0)) ∧ w'.cell? ⟨(ad15.add ((x5_1).toNat * 2)).block, (ad15.add ((x5_1).toNat * 2)).off + 1, none⟩ = some (.slice A15_1 ((rd_T53 l1 x5_1).f1).length c15_1)) (ds := []) (bA 10 0) Z90 rfl rfl ⟨((HB.out.cell (World.block_lt_of_cell? w _ hw253_0)).trans hw253_0), ((HB.out.cell (World.block_lt_of_cell? w _ hw253_1)).trans hw253_1), ((HB.out.cell (World.block_lt_of_cell? w _ hw254_0)).trans hw254_0), ((HB.out.cell (World.block_lt_of_cell? w _ hw254_1)).trans hw254_1)⟩ (fun hHeld => ?_); refine with_tabW Fg.tab6 Fg.bits6 (fun HT_ HW_ => ?_)
    generalize wr.drew = w9 at HB HR14_1 HR15_1 hx14_0 hx14_1 hx15_0 hx15_1 hHeld ⊢
    refine pS 0 17 (bA 10 1) ?_
    refine pS 1 18 (bA 10 3) ?_
    refine pS 2 19 (bA 10 7) ?_
    refine pS 4 21 (bA 10 23) ?_
    refine pS 5 22 (bA 10 55) ?_
    refine pS 6 23 (bA 10 119) ?_
    refine tS4 3 20 (bA 10 127) hHeld ?_
    refine tS4 7 24 (bA 10 255) hHeld ?_
    refine one_ (i := 8) (N := some 25) (bA 10 511) rfl rfl (one_of HT_.out Z90) Z21 (fun K hK => ?_)
    refine goes_ Try.func54 Z90 rfl #[.agg #[.int .i64 ((rd_T53 l0 x5_1).f0), .slice A14_1 ((rd_T53 l0 x5_1).f1).length c14_1], .agg #[.int .i64 ((rd_T53 l1 x5_1).f0), .slice A15_1 ((rd_T53 l1 x5_1).f1).length c15_1]] Z62 rfl rfl Z91 ?_
    with_reducible refine (FG.calls k1 ((rd_T53 l0 x5_1).f0) _ _ ((rd_T53 l0 x5_1).f1) ((rd_T53 l1 x5_1).f0) _ _ ((rd_T53 l1 x5_1).f1) true _ ?side1 ?side2 ?side3 ?side4 A7.out).mono ?_
    (case side1 => exact uC HR14_1 HB)
    (case side2 => exact HC14_1.out)
    (case side3 => exact uC HR15_1 HB)
    (case side4 => exact HC15_1.out)
    rintro e w10 ⟨rfl, hb⟩
    refine ⟨_, rfl, ?_⟩
    replace HB := am (below_step (uN HB) hb)
    (try clear hb)
    (try clear hb2)
    (try clear hk)
    (try clear hi)
    refine hK.out _ _ ⟨((HB.out.cell (World.block_lt_of_cell? w _ hw253_0)).trans hw253_0), ((HB.out.cell (World.block_lt_of_cell? w _ hw253_1)).trans hw253_1), ((HB.out.cell (World.block_lt_of_cell? w _ hw254_0)).trans hw254_0), ((HB.out.cell (World.block_lt_of_cell? w _ hw254_1)).trans hw254_1)⟩ (fun hHeld => ?_)
    clear hK K
    refine norm_ (a' := ?_) ?_ ?_
    rotate_left
    ·
     show Act.put _ (some 25) _ = _
     simp only [Act.put, setIfInBounds_toArray, set_cons_zero, set_cons_succ, i64_w, i32_w]
     rfl
    refine pS 9 26 (bA 10 1023) ?_
    refine done_ (done_of HT_.out Z90) ?_
    try go_wp2
    go_roundg k1
    case measure => have := HK1.out; omega
    case rel => exact ⟨(wrap64 (x5_1 + 1)), Z87, H', ⟨by have := HK1.out; omega⟩, ⟨uN HB⟩⟩
   replace c8 := Bool.eq_false_iff.mpr c8
   subst c8
   rw [if_neg (show ¬ (false = true) from Z21)] at H
   obtain rfl := Option.some.inj H
   try go_wp2
   replace HB := am (below_drew1 HB.out)
   have p14 : 0 ≤ (x5_1 : Int) := of_decide_eq_true Z5
   have q14 : x5_1 < (l0.length : Int) := of_decide_eq_true Z5
   obtain ⟨ad14, A14_1, c14_1, e14, hx14_0, hx14_1, hl253_1, hi14_1⟩ := at_T53 HR0.out x5_1 p14 q14
   have hw253_1 := hx14_1
   have hw253_0 := hx14_0
   cases e14
   replace hx14_0 := (HB.out.cell (World.block_lt_of_cell? w _ hx14_0)).trans hx14_0
   replace hx14_1 := (HB.out.cell (World.block_lt_of_cell? w _ hx14_1)).trans hx14_1
   have HR14_1 := am hi14_1
   have HC14_1 := am hl253_1
   clear hi14_1 hl253_1
   replace p14 := eq_true p14
   replace q14 := eq_true q14
   have p15 : 0 ≤ (x5_1 : Int) := of_decide_eq_true Z5
   have q15 : x5_1 < (l1.length : Int) := of_decide_eq_true Z5
   obtain ⟨ad15, A15_1, c15_1, e15, hx15_0, hx15_1, hl254_1, hi15_1⟩ := at_T53 HR1.out x5_1 p15 q15
   have hw254_1 := hx15_1
   have hw254_0 := hx15_0
   cases e15
   replace hx15_0 := (HB.out.cell (World.block_lt_of_cell? w _ hx15_0)).trans hx15_0
   replace hx15_1 := (HB.out.cell (World.block_lt_of_cell? w _ hx15_1)).trans hx15_1
   have HR15_1 := am hi15_1
   have HC15_1 := am hl254_1
   clear hi15_1 hl254_1
   replace p15 := eq_true p15
   replace q15 := eq_true q15
   refine start_ (n := 10) (S := fun w' => w'.cell? (ad14.add ((x5_1).toNat * 2)) = some (.int .i64 ((rd_T53 l0 x5_1).f0)) ∧ w'.cell? ⟨(ad14.add ((x5_1).toNat * 2)).block, (ad14.add ((x5_1).toNat * 2)).off + 1, none⟩ = some (.slice A14_1 ((rd_T53 l0 x5_1).f1).length c14_1) ∧ w'.cell? (ad15.add ((x5_1).toNat * 2)) = some (.int .i64 ((rd_T53 l1 x5_1).f0)) ∧ w'.cell? ⟨(ad15.add ((x5_1).toNat * 2)).block, (ad15.add ((x5_1).toNat * 2)).off + 1, none⟩ = some (.slice A15_1 ((rd_T53 l1 x5_1).f1).length c15_1)) (ds := []) (bA 10 0) Z90 rfl rfl ⟨((HB.out.cell (World.block_lt_of_cell? w _ hw253_0)).trans hw253_0), ((HB.out.cell (World.block_lt_of_cell? w _ hw253_1)).trans hw253_1), ((HB.out.cell (World.block_lt_of_cell? w _ hw254_0)).trans hw254_0), ((HB.out.cell (World.block_lt_of_cell? w _ hw254_1)).trans hw254_1)⟩ (fun hHeld => ?_); refine with_tabW Fg.tab6 Fg.bits6 (fun HT_ HW_ => ?_)
   generalize wr.drew = w11 at HB HR14_1 HR15_1 hx14_0 hx14_1 hx15_0 hx15_1 hHeld ⊢
   refine pS 0 17 (bA 10 1) ?_
   refine pS 1 18 (bA 10 3) ?_
   refine pS 2 19 (bA 10 7) ?_
   refine pS 4 21 (bA 10 23) ?_
   refine pS 5 22 (bA 10 55) ?_
   refine pS 6 23 (bA 10 119) ?_
   refine tS4 3 20 (bA 10 127) hHeld ?_
   refine tS4 7 24 (bA 10 255) hHeld ?_
   refine one_ (i := 8) (N := some 25) (bA 10 511) rfl rfl (one_of HT_.out Z90) Z21 (fun K hK => ?_)
   refine goes_ Try.func54 Z90 rfl #[.agg #[.int .i64 ((rd_T53 l0 x5_1).f0), .slice A14_1 ((rd_T53 l0 x5_1).f1).length c14_1], .agg #[.int .i64 ((rd_T53 l1 x5_1).f0), .slice A15_1 ((rd_T53 l1 x5_1).f1).length c15_1]] Z62 rfl rfl Z91 ?_
   with_reducible refine (FG.calls k1 ((rd_T53 l0 x5_1).f0) _ _ ((rd_T53 l0 x5_1).f1) ((rd_T53 l1 x5_1).f0) _ _ ((rd_T53 l1 x5_1).f1) false _ ?side1 ?side2 ?side3 ?side4 A7.out).mono ?_
   (case side1 => exact uC HR14_1 HB)
   (case side2 => exact HC14_1.out)
   (case side3 => exact uC HR15_1 HB)
   (case side4 => exact HC15_1.out)
   rintro e w12 ⟨rfl, hb⟩
   refine ⟨_, rfl, ?_⟩
   replace HB := am (below_step (uN HB) hb)
   (try clear hb)
   (try clear hb2)
   (try clear hk)
   (try clear hi)
   refine hK.out _ _ ⟨((HB.out.cell (World.block_lt_of_cell? w _ hw253_0)).trans hw253_0), ((HB.out.cell (World.block_lt_of_cell? w _ hw253_1)).trans hw253_1), ((HB.out.cell (World.block_lt_of_cell? w _ hw254_0)).trans hw254_0), ((HB.out.cell (World.block_lt_of_cell? w _ hw254_1)).trans hw254_1)⟩ (fun hHeld => ?_)
   clear hK K
   refine norm_ (a' := ?_) ?_ ?_
   rotate_left
   ·
    show Act.put _ (some 25) _ = _
    simp only [Act.put, setIfInBounds_toArray, set_cons_zero, set_cons_succ, i64_w, i32_w]
    rfl
   refine pS 9 26 (bA 10 1023) ?_
   refine done_ (done_of HT_.out Z90) ?_
   try go_wp2
   go_ret
   exact ⟨Z86, uN HB⟩

end Go.Proofs.Ytgbpbhplehmedaa.PFnExactJoinSystems
