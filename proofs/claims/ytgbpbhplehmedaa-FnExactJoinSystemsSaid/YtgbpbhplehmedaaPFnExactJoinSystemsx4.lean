-- made by wip/tools/myprint.py over the kit's print, for this claim
import Derived.Test.YtgbpbhplehmedaaPFnExactJoinSystemsx0
namespace Go.Proofs.Ytgbpbhplehmedaa.PFnExactJoinSystems
open Go.RowKit Go.Proofs.YtgbpbhplehmedaaW.PrintWords Go.Proofs.YtgbpbhplehmedaaW.PrintLast Go.Proofs.YtgbpbhplehmedaaW.PrintMore
open List (setIfInBounds_toArray set_cons_zero set_cons_succ)
attribute [local go_sem] max2_int min2_int max_two min_two max_three min_three max_four min_four   -- for this text's walks alone
set_option linter.unusedVariables false
set_option linter.unusedSimpArgs false

set_option maxHeartbeats 8000000
set_option maxRecDepth 100000
/-! ### Fl: function 15 -/
def Fl.l0 : Nat → List Bool → List Bool → Int → Option (List Bool)
 | 0, _, _, _ => none
 | k + 1, x0, x3, x4 => if x4 < (x0.length : Int) then (if 0 ≤ x4 then (if x4 < (x3.length : Int) then (Fl.l0 k x0 (x3.set (x4 : Int).toNat (rdOf false x0 x4)) (wrap64 (x4 + 1))) else (none)) else (none)) else (some x3)
def Fl.f (k : Nat) (l0 : List Bool) : Option (List Bool) := if 0 ≤ (l0.length : Int) then (if ((l0.length : Int) : Int).toNat ≤ 281474976710656 then (Fl.l0 k l0 (List.replicate ((l0.length : Int) : Int).toNat false) 0) else (none)) else (none)
theorem Fl.mono_l : ∀ k, (∀ y0 y1 y2, LeO (Fl.l0 k y0 y1 y2) (Fl.l0 (k + 1) y0 y1 y2))
 | 0 => fun _ _ _ r h => by simp [Fl.l0] at h | k + 1 => by
  have ih0 := Fl.mono_l k
  ·
   intro y0 y1 y2
   unfold Fl.l0
   exact Mo1
theorem Fl.mono : ∀ a0 k, LeO (Fl.f k a0) (Fl.f (k + 1) a0) := by
 intro a0 k
 have ih0 := Fl.mono_l k
 unfold Fl.f
 exact Mo1
theorem Fl.calls (k : Nat) (A0 : Option Addr) (c0 : Nat) (l0 : List Bool) (r : List Bool) (w : World) (hr0 : Kd.C Kd.bool w A0 l0.length l0) (hc0 : l0.length ≤ c0) (h : Fl.f k l0 = some r) :
  Calls Try.prog 15 #[.slice A0 l0.length c0] w fun e w' => ∃ v0_ : Value, e = .returned (v0_) ∧ Kd.R Kd.bool 4 w' w.heap.size (fun _ => True) v0_ r ∧ Below w.heap.size w w' := by
 have HR0 := am hr0
 have HC0 := am hc0
 clear hr0 hc0
 have HB := am (Below.refl w.heap.size w)
 have H : (if 0 ≤ (l0.length : Int) then (if ((l0.length : Int) : Int).toNat ≤ 281474976710656 then (Fl.l0 k l0 (List.replicate ((l0.length : Int) : Int).toNat false) 0) else (none)) else (none)) = some r := h
 clear h
 by_cases c2 : 0 ≤ (l0.length : Int)
 rotate_left
 ·
  rw [if_neg c2] at H
  exact absurd H Z65
 rw [if_pos c2] at H
 have c2b0 := eq_true c2
 have c2b1 := decide_eq_true c2
 have CK2b1_ : Aside0 (0 ≤ (l0.length : Int)) := am (of_decide_eq_true c2b1)
 clear c2
 by_cases c3 : ((l0.length : Int) : Int).toNat ≤ 281474976710656
 rotate_left
 ·
  rw [if_neg c3] at H
  exact absurd H Z65
 rw [if_pos c3] at H
 have c3b0 := eq_true c3
 have c3b1 := decide_eq_true c3
 clear c3
 obtain ⟨y12, hy12⟩ : ∃ y_ : List Bool, y_ = (List.replicate ((l0.length : Int) : Int).toNat false) := ⟨_, rfl⟩
 replace H : (Fl.l0 k l0 y12 0) = some r := by first | (rw [hy12]; with_reducible exact H) | (have H2_ := (Option.bind_some _ _).symm.trans H; rw [hy12]; with_reducible exact H2_) | (have H2_ := (Option.bind_some _ _).symm.trans H; with_reducible exact H2_) | with_reducible exact H | (rw [hy12]; exact H) | exact H
 have Ny12 := am hy12
 clear hy12
 have H' := am H
 clear H
 go_enter Try.func15, Try.ntmps15
 go_wp2_with (first | ((with_reducible refine gate_dst (N := 7) rfl ?_); refine Kd.R_make Kd.bool _ 4 rfl (N := 7) rfl 23 _ _ rfl (l0.length : Int) rfl rfl Try.underlying23 (.bool false) 1 info4 rfl Z21 Z70 false (ok := fun _ => True) (okp := fun _ => True) rfl (fun _ hk => hk) trivial (of_decide_eq_true Z5) (Nat.le_trans (Nat.mul_le_mul_right _ (of_decide_eq_true Z5 : (l0.length : Int).toNat ≤ 281474976710656)) Z70) (Below.refl _ _) (Nat.le_refl _) ?_; intro v13 w4 ho5 hb hg_ hnew_; clear hg_ hnew_; (first | rw [← Ny12.out] at ho5 | (simp only [Int.reduceToNat] at ho5; rw [← Ny12.out] at ho5)); have HO14 := am (Kd.R_lower ho5 (below_size (uN HB))); replace HB := am (below_step (uN HB) hb); clear hb ho5))
 go_loopg [4] k (fun kq v4 w' => ∃ (x3_1 : List Bool) (x4_1 : Int), v4 = .int .i64 x4_1 ∧ Aside0 (Fl.l0 kq l0 x3_1 x4_1 = some r) ∧ Aside0 (kq ≤ k) ∧ Aside0 (Kd.R Kd.bool 4 w' w.heap.size (fun _ => True) v13 x3_1) ∧ Aside0 (Below w.heap.size w w'))
 case atStart => exact ⟨(y12), (0), Z87, H', ⟨Nat.le_refl _⟩, ⟨Z84⟩, ⟨uN HB⟩⟩
 case round =>
  clear H'
  try clear c1
  try clear c2
  try clear c2b0
  try clear c2b1
  try clear p2
  try clear c3
  try clear c3b0
  try clear c3b1
  try clear HO_3
  obtain ⟨x3_1, x4_1, rfl, HA, HK1, HO_3, HB⟩ := hrel
  cases gk with
  | zero => exact absurd HA.out (by simp [Fl.l0])
  | succ k1 =>
   have H := HA.out
   clear HA
   simp only [Fl.l0] at H
   by_cases c6 : x4_1 < (l0.length : Int)
   rotate_left
   ·
    rw [if_neg c6] at H
    have c6b0 := decide_eq_false c6
    clear c6
    obtain rfl := Option.some.inj H
    go_wp2
    go_ret
    exact ⟨_, Z86, Z63, uN HB⟩
   rw [if_pos c6] at H
   have c6b0 := decide_eq_true c6
   clear c6
   by_cases c7 : 0 ≤ x4_1
   rotate_left
   ·
    rw [if_neg c7] at H
    exact absurd H Z65
   rw [if_pos c7] at H
   have c7b0 := decide_eq_true c7
   clear c7
   by_cases c8 : x4_1 < (x3_1.length : Int)
   rotate_left
   ·
    rw [if_neg c8] at H
    exact absurd H Z65
   rw [if_pos c8] at H
   have c8b0 := decide_eq_true c8
   clear c8
   obtain ⟨y16, hy16⟩ : ∃ y_ : List Bool, y_ = (x3_1.set (x4_1 : Int).toNat (rdOf false l0 x4_1)) := ⟨_, rfl⟩
   replace H : (Fl.l0 k1 l0 y16 (wrap64 (x4_1 + 1))) = some r := by first | (rw [hy16]; with_reducible exact H) | (have H2_ := (Option.bind_some _ _).symm.trans H; rw [hy16]; with_reducible exact H2_) | (have H2_ := (Option.bind_some _ _).symm.trans H; with_reducible exact H2_) | with_reducible exact H | (rw [hy16]; exact H) | exact H
   have Ny16 := am hy16
   clear hy16
   have H' := am H
   clear H
   have p17 : 0 ≤ (x4_1 : Int) := of_decide_eq_true Z5
   have q17 : x4_1 < (l0.length : Int) := of_decide_eq_true Z5
   obtain ⟨ad17, e17, hx17_0⟩ := Kd.at_bool HR0.out x4_1 p17 q17
   cases e17
   replace hx17_0 := (HB.out.cell (World.block_lt_of_cell? w _ hx17_0)).trans hx17_0
   replace p17 := eq_true p17
   replace q17 := eq_true q17
   have p9 : 0 ≤ (x4_1 : Int) := of_decide_eq_true Z5
   have q9 : (x4_1 : Int) < ((x3_1.length : Int) : Int) := of_decide_eq_true Z5
   obtain ⟨go9, co9, eo9, gb9, gl9, cl9, HG9⟩ := Kd.R_form HO_3.out Z70
   (first | cases eo9 | (injection eo9 with ea_ en_ ec_; (first | subst ea_ | (injection ea_ with ea_; subst ea_)); subst ec_; clear en_))
   have GB9 := am gb9
   have GG9 := am HG9
   clear gb9 gl9 HG9
   obtain ⟨hx9_0, hf9_0⟩ := Kd.R_celln false HO_3.out (x4_1 : Int) p9 q9
   replace p9 := eq_true p9
   replace q9 := eq_true q9
   have HP10 := Kd.R_putg HO_3.out (x4_1 : Int) (rdOf false l0 x4_1)
   go_wp2_with (first | ((with_reducible refine gate_store (t := 4) (p := 20) rfl ?_); refine store_event (t := 4) (p := 20) (v := ?vo_w11) (w1 := (wr.setCell ⟨go9, (x4_1 : Int).toNat, none⟩ (.bool (rdOf false l0 x4_1)))) ?hg ?ho ?hn ?hr ?_; (case ho => rfl); (case hg => rfl); (case hn => rfl); (case hr => exact Z88); intro w11 hw; have hg : wr.grownBy w11 (some go9) := (by rw [hw]; exact HP10.2); have hp_ : Kd.R Kd.bool 4 w11 w.heap.size (fun _ => True) (.slice (some ⟨go9, 0, none⟩) x3_1.length co9) y16 := (by rw [hw, Ny16.out]; exact HP10.1); clear HP10; replace HO_3 := am (hp_); replace HB := am ((by rw [hw]; exact below_set (HB.out) GB9.out : Below w.heap.size w w11)); clear hg hw hp_))
   go_roundg k1
   case measure => have := HK1.out; omega
   case rel => exact ⟨(y16), (wrap64 (x4_1 + 1)), Z87, H', ⟨by have := HK1.out; omega⟩, ⟨Z63⟩, ⟨uN HB⟩⟩

/-! ### Fm: function 61 -/
def Fm.l0 : Nat → List Int → List Int → Int → Option (List Int)
 | 0, _, _, _ => none
 | k + 1, x0, x3, x4 => if x4 < (x0.length : Int) then (if 0 ≤ x4 then (if x4 < (x3.length : Int) then (Fm.l0 k x0 (x3.set (x4 : Int).toNat (rd x0 x4)) (wrap64 (x4 + 1))) else (none)) else (none)) else (some x3)
def Fm.f (k : Nat) (l0 : List Int) : Option (List Int) := if 0 ≤ (l0.length : Int) then (if ((l0.length : Int) : Int).toNat ≤ 35184372088832 then (Fm.l0 k l0 (List.replicate ((l0.length : Int) : Int).toNat 0) 0) else (none)) else (none)
theorem Fm.mono_l : ∀ k, (∀ y0 y1 y2, LeO (Fm.l0 k y0 y1 y2) (Fm.l0 (k + 1) y0 y1 y2))
 | 0 => fun _ _ _ r h => by simp [Fm.l0] at h | k + 1 => by
  have ih0 := Fm.mono_l k
  ·
   intro y0 y1 y2
   unfold Fm.l0
   exact Mo1
theorem Fm.mono : ∀ a0 k, LeO (Fm.f k a0) (Fm.f (k + 1) a0) := by
 intro a0 k
 have ih0 := Fm.mono_l k
 unfold Fm.f
 exact Mo1
theorem Fm.calls (k : Nat) (A0 : Option Addr) (c0 : Nat) (l0 : List Int) (r : List Int) (w : World) (hr0 : Kd.C (Kd.int .i64) w A0 l0.length l0) (hc0 : l0.length ≤ c0) (h : Fm.f k l0 = some r) :
  Calls Try.prog 61 #[.slice A0 l0.length c0] w fun e w' => ∃ v0_ : Value, e = .returned (v0_) ∧ Kd.R (Kd.int .i64) 3 w' w.heap.size (fun _ => True) v0_ r ∧ Below w.heap.size w w' := by
 have HR0 := am hr0
 have HC0 := am hc0
 clear hr0 hc0
 have HB := am (Below.refl w.heap.size w)
 have H : (if 0 ≤ (l0.length : Int) then (if ((l0.length : Int) : Int).toNat ≤ 35184372088832 then (Fm.l0 k l0 (List.replicate ((l0.length : Int) : Int).toNat 0) 0) else (none)) else (none)) = some r := h
 clear h
 by_cases c2 : 0 ≤ (l0.length : Int)
 rotate_left
 ·
  rw [if_neg c2] at H
  exact absurd H Z65
 rw [if_pos c2] at H
 have c2b0 := eq_true c2
 have c2b1 := decide_eq_true c2
 have CK2b1_ : Aside0 (0 ≤ (l0.length : Int)) := am (of_decide_eq_true c2b1)
 clear c2
 by_cases c3 : ((l0.length : Int) : Int).toNat ≤ 35184372088832
 rotate_left
 ·
  rw [if_neg c3] at H
  exact absurd H Z65
 rw [if_pos c3] at H
 have c3b0 := eq_true c3
 have c3b1 := decide_eq_true c3
 clear c3
 obtain ⟨y12, hy12⟩ : ∃ y_ : List Int, y_ = (List.replicate ((l0.length : Int) : Int).toNat 0) := ⟨_, rfl⟩
 replace H : (Fm.l0 k l0 y12 0) = some r := by first | (rw [hy12]; with_reducible exact H) | (have H2_ := (Option.bind_some _ _).symm.trans H; rw [hy12]; with_reducible exact H2_) | (have H2_ := (Option.bind_some _ _).symm.trans H; with_reducible exact H2_) | with_reducible exact H | (rw [hy12]; exact H) | exact H
 have Ny12 := am hy12
 clear hy12
 have H' := am H
 clear H
 go_enter Try.func61, Try.ntmps61
 go_wp2_with (first | ((with_reducible refine gate_dst (N := 7) rfl ?_); refine Kd.R_make (Kd.int .i64) _ 3 rfl (N := 7) rfl 51 _ _ rfl (l0.length : Int) rfl rfl Try.underlying51 (.int .i64 0) 8 info3 rfl Z21 Z70 0 (ok := fun _ => True) (okp := fun _ => True) rfl (fun _ hk => hk) trivial (of_decide_eq_true Z5) (Nat.le_trans (Nat.mul_le_mul_right _ (of_decide_eq_true Z5 : (l0.length : Int).toNat ≤ 35184372088832)) Z70) (Below.refl _ _) (Nat.le_refl _) ?_; intro v13 w4 ho5 hb hg_ hnew_; clear hg_ hnew_; (first | rw [← Ny12.out] at ho5 | (simp only [Int.reduceToNat] at ho5; rw [← Ny12.out] at ho5)); have HO14 := am (Kd.R_lower ho5 (below_size (uN HB))); replace HB := am (below_step (uN HB) hb); clear hb ho5))
 go_loopg [4] k (fun kq v4 w' => ∃ (x3_1 : List Int) (x4_1 : Int), v4 = .int .i64 x4_1 ∧ Aside0 (Fm.l0 kq l0 x3_1 x4_1 = some r) ∧ Aside0 (kq ≤ k) ∧ Aside0 (Kd.R (Kd.int .i64) 3 w' w.heap.size (fun _ => True) v13 x3_1) ∧ Aside0 (Below w.heap.size w w'))
 case atStart => exact ⟨(y12), (0), Z87, H', ⟨Nat.le_refl _⟩, ⟨Z84⟩, ⟨uN HB⟩⟩
 case round =>
  clear H'
  try clear c2
  try clear c2b0
  try clear c2b1
  try clear p2
  try clear c3
  try clear c3b0
  try clear c3b1
  try clear HO_3
  obtain ⟨x3_1, x4_1, rfl, HA, HK1, HO_3, HB⟩ := hrel
  cases gk with
  | zero => exact absurd HA.out (by simp [Fm.l0])
  | succ k1 =>
   have H := HA.out
   clear HA
   simp only [Fm.l0] at H
   by_cases c6 : x4_1 < (l0.length : Int)
   rotate_left
   ·
    rw [if_neg c6] at H
    have c6b0 := decide_eq_false c6
    clear c6
    obtain rfl := Option.some.inj H
    go_wp2
    go_ret
    exact ⟨_, Z86, Z63, uN HB⟩
   rw [if_pos c6] at H
   have c6b0 := decide_eq_true c6
   clear c6
   by_cases c7 : 0 ≤ x4_1
   rotate_left
   ·
    rw [if_neg c7] at H
    exact absurd H Z65
   rw [if_pos c7] at H
   have c7b0 := decide_eq_true c7
   clear c7
   by_cases c8 : x4_1 < (x3_1.length : Int)
   rotate_left
   ·
    rw [if_neg c8] at H
    exact absurd H Z65
   rw [if_pos c8] at H
   have c8b0 := decide_eq_true c8
   clear c8
   obtain ⟨y15, hy15⟩ : ∃ y_ : List Int, y_ = (x3_1.set (x4_1 : Int).toNat (rd l0 x4_1)) := ⟨_, rfl⟩
   replace H : (Fm.l0 k1 l0 y15 (wrap64 (x4_1 + 1))) = some r := by first | (rw [hy15]; with_reducible exact H) | (have H2_ := (Option.bind_some _ _).symm.trans H; rw [hy15]; with_reducible exact H2_) | (have H2_ := (Option.bind_some _ _).symm.trans H; with_reducible exact H2_) | with_reducible exact H | (rw [hy15]; exact H) | exact H
   have Ny15 := am hy15
   clear hy15
   have H' := am H
   clear H
   have p16 : 0 ≤ (x4_1 : Int) := of_decide_eq_true Z5
   have q16 : x4_1 < (l0.length : Int) := of_decide_eq_true Z5
   obtain ⟨ad16, e16, hx16_0⟩ := Kd.at_int HR0.out x4_1 p16 q16
   cases e16
   replace hx16_0 := (HB.out.cell (World.block_lt_of_cell? w _ hx16_0)).trans hx16_0
   replace p16 := eq_true p16
   replace q16 := eq_true q16
   have p9 : 0 ≤ (x4_1 : Int) := of_decide_eq_true Z5
   have q9 : (x4_1 : Int) < ((x3_1.length : Int) : Int) := of_decide_eq_true Z5
   obtain ⟨go9, co9, eo9, gb9, gl9, cl9, HG9⟩ := Kd.R_form HO_3.out Z70
   (first | cases eo9 | (injection eo9 with ea_ en_ ec_; (first | subst ea_ | (injection ea_ with ea_; subst ea_)); subst ec_; clear en_))
   have GB9 := am gb9
   have GG9 := am HG9
   clear gb9 gl9 HG9
   obtain ⟨hx9_0, hf9_0⟩ := Kd.R_celln 0 HO_3.out (x4_1 : Int) p9 q9
   replace p9 := eq_true p9
   replace q9 := eq_true q9
   have HP10 := Kd.R_putg HO_3.out (x4_1 : Int) (rd l0 x4_1)
   go_wp2_with (first | ((with_reducible refine gate_store (t := 3) (p := 20) rfl ?_); refine store_event (t := 3) (p := 20) (v := ?vo_w11) (w1 := (wr.setCell ⟨go9, (x4_1 : Int).toNat, none⟩ (.int .i64 (rd l0 x4_1)))) ?hg ?ho ?hn ?hr ?_; (case ho => rfl); (case hg => rfl); (case hn => rfl); (case hr => exact Z88); intro w11 hw; have hg : wr.grownBy w11 (some go9) := (by rw [hw]; exact HP10.2); have hp_ : Kd.R (Kd.int .i64) 3 w11 w.heap.size (fun _ => True) (.slice (some ⟨go9, 0, none⟩) x3_1.length co9) y15 := (by rw [hw, Ny15.out]; exact HP10.1); clear HP10; replace HO_3 := am (hp_); replace HB := am ((by rw [hw]; exact below_set (HB.out) GB9.out : Below w.heap.size w w11)); clear hg hw hp_))
   go_roundg k1
   case measure => have := HK1.out; omega
   case rel => exact ⟨(y15), (wrap64 (x4_1 + 1)), Z87, H', ⟨by have := HK1.out; omega⟩, ⟨Z63⟩, ⟨uN HB⟩⟩

/-! ### FH: function 46 -/
def FH.f (k : Nat) (a0_0 : Int) (l0_1 : List Int) : Option (Int × List Int) := (Fm.f k l0_1).bind fun t2 => (some (a0_0, t2))
theorem FH.mono : ∀ a0 a1 k, LeO (FH.f k a0 a1) (FH.f (k + 1) a0 a1) := by
 intro a0 a1 k
 unfold FH.f
 repeat' first
   | with_reducible first | exact Fm.mono .. | exact LeO.refl _ | exact LeO.none _ | refine LeO.ite ?_ ?_ | refine LeO.bind ?_ (fun _ => ?_)
   | exact Fm.mono .. | exact LeO.none _ | refine LeO.ite ?_ ?_ | refine LeO.bind ?_ (fun _ => ?_)
theorem FH.calls (k : Nat) (a0_0 : Int) (A0_1 : Option Addr) (c0_1 : Nat) (l0_1 : List Int) (r1 : Int) (r2 : List Int) (w : World) (hr0_1 : Kd.C (Kd.int .i64) w A0_1 l0_1.length l0_1) (hc0_1 : l0_1.length ≤ c0_1) (h : FH.f k a0_0 l0_1 = some (r1, r2)) :
  Calls Try.prog 46 #[.agg #[.int .i64 a0_0, .slice A0_1 l0_1.length c0_1]] w fun e w' => ∃ v1_ : Value, e = .returned (.agg #[.int .i64 r1, v1_]) ∧ Kd.R (Kd.int .i64) 3 w' w.heap.size (fun _ => True) v1_ r2 ∧ Below w.heap.size w w' := by
 have hu66 := Try.underlying66
 have hu53 := Try.underlying53
 have HR0_1 := am hr0_1
 have HC0_1 := am hc0_1
 clear hr0_1 hc0_1
 have HB := am (Below.refl w.heap.size w)
 have H : ((Fm.f k l0_1).bind fun t15 => (some (a0_0, t15))) = some (r1, r2) := h
 clear h
 replace H := Option.bind_eq_some_iff.mp H
 obtain ⟨t15, A20, H⟩ := H
 try dsimp only at H
 have A2 := am A20
 clear A20
 simp only [Option.some.injEq, Prod.mk.injEq] at H
 obtain ⟨rfl, rfl⟩ := H
 go_enter Try.func46, Try.ntmps46
 go_wp2_with (first | ((with_reducible refine gate_dst (N := 1) rfl ?_); refine box_event ?hg (N := 1) ?hd (cs := #[.int .i64 a0_0, .slice A0_1 l0_1.length c0_1]) (t := 66) ?hr ?_; (case hd => rfl); (case hg => rfl); (case hr => exact Z88); intro gb16 hg w3 hbox hb; have BK16 := am (hbox); have GW16 := nG HB hg; have GE16 := nG HB hg; have GI16 := gI GE16; replace HB := am (below_step (uN HB) hb); clear hb hbox hg) | ((with_reducible refine gate_dst (N := 2) rfl ?_); refine box_event ?hg (N := 2) ?hd (cs := #[.int .i64 0, .slice none 0 0]) (t := 53) ?hr ?_; (case hd => rfl); (case hg => rfl); (case hr => exact Z88); intro gb17 hg w4 hbox hb; have BK17 := am (hbox); have GW17 := am ((by rw [hg]; exact (below_size Z60) : w.heap.size ≤ gb17)); have GE17 := am ((by rw [hg]; exact (below_size Z60) : w.heap.size ≤ gb17)); replace HB := am (below_step Z60 hb); have NB16_17 := nL BK16 hg; have NB17_16 := nR BK16 hg; replace BK16 := kB BK16 hb; clear hb hbox hg) | ((with_reducible refine gate_dst (N := 3) rfl ?_); refine box_event ?hg (N := 3) ?hd (cs := #[.int .i64 0, .slice none 0 0]) (t := 53) ?hr ?_; (case hd => rfl); (case hg => rfl); (case hr => exact Z88); intro gb18 hg w5 hbox hb; have BK18 := am (hbox); have GW18 := am ((by rw [hg]; exact (below_size Z52) : w.heap.size ≤ gb18)); have GE18 := am ((by rw [hg]; exact (below_size Z52) : w.heap.size ≤ gb18)); replace HB := am (below_step Z52 hb); have NB16_18 := nL BK16 hg; have NB18_16 := nR BK16 hg; replace BK16 := kB BK16 hb; have NB17_18 := nL BK17 hg; have NB18_17 := nR BK17 hg; replace BK17 := kB BK17 hb; clear hb hbox hg; have hnb6 := NB16_17.out; have hnc6 := NB17_16.out; have hnb7 := NB16_18.out; have hnc7 := NB18_16.out; obtain ⟨hcz8_0, hcz8_1, hfz8_0, hfz8_1⟩ := ce2 BK16; have hnb9 := NB18_17.out; have hnc9 := NB17_18.out; obtain ⟨hcz10_0, hcz10_1, hfz10_0, hfz10_1⟩ := ce2 BK18) | ((with_reducible refine gate_callee (f := 61) rfl ?_); refine gL 9 rfl Try.func61 #[.slice A0_1 l0_1.length c0_1] ?_; (with_reducible refine (Fm.calls k _ _ l0_1 t15 _ ?side1 ?side2 A2.out).mono ?_); (case side1 => exact Kd.C_below HR0_1.out Z40); (case side2 => exact HC0_1.out); rintro e w11 ⟨v19, rfl, ho0, hb⟩; refine ⟨_, rfl, ?_⟩; have HO21 := am (Kd.R_lower ho0 (below_size Z40)); replace BK16 := am (blk_below (g := gb16) (o := .cells #[.int .i64 a0_0, .slice A0_1 l0_1.length c0_1] 66 (0, 0)) (pf NB16_18 (pb BK16)) hb); replace BK17 := am (blk_below (g := gb17) (o := .cells #[.int .i64 0, .slice none 0 0] 53 (0, 0)) (pf NB17_18 (pb BK17)) hb); replace BK18 := am (blk_below (g := gb18) (o := .cells #[.int .i64 a0_0, .slice none 0 0] 53 (0, 0)) (pT (pp 0 (pb BK18))) hb); replace HB := am (below_step Z40 hb); (try clear hb); (try clear hb2); (try clear hk); (try clear hi); (try clear ho0); obtain ⟨Ao12, co12, eo12⟩ := Kd.R_slice HO21.out; subst eo12; obtain ⟨hcz13_0, hcz13_1, hfz13_0, hfz13_1⟩ := ce2 BK18; obtain ⟨hcz14_0, hcz14_1, hfz14_0, hfz14_1⟩ := ce2 BK17))
 refine bodyPost_ret (results_cell_row rfl _ _ gb17 53 #[.int .i64 a0_0, .slice Ao12 t15.length co12] (0, 0) _ rfl (pT (pp 1 (pp 0 (pf NB17_18 (pb BK17))))) Try.underlying53 rfl Z90) rfl ?_
 exact ⟨_, Z86, by (with_reducible repeat (first | apply Kd.R_alloc | apply Kd.R_drewN | apply Kd.R_drew)); exact Kd.R_mono (Kd.R_far (p := ⟨gb17, 1, none⟩) (Kd.R_far (p := ⟨gb17, 0, none⟩) (Kd.R_far (p := ⟨gb18, 1, none⟩) (Kd.R_types (Kd.R_types HO21.out BK18.out Z21) BK17.out Z21) (fun _ hk => hk.1.2) (.slice Ao12 t15.length co12)) (fun _ hk => hk.2) (.int .i64 a0_0)) (fun _ hk => hk.2) (.slice Ao12 t15.length co12)) (fun _ hk => trivial), Z40⟩

/-! ### Fo: function 25 -/
def Fo.l0 : Nat → List (S66) → List (S53) → Int → Option ((List (S53)))
 | 0, _, _, _ => none
 | k + 1, x0, x3, x4 => if x4 < (x0.length : Int) then (if 0 ≤ x4 then ((FH.f k ((rd_T66 x0 x4).f0) ((rd_T66 x0 x4).f1)).bind fun bt2 => (if x4 < (x3.length : Int) then (Fo.l0 k x0 (x3.set (x4 : Int).toNat (⟨bt2.1, bt2.2⟩ : S53)) (wrap64 (x4 + 1))) else (none))) else (none)) else (some x3)
def Fo.f (k : Nat) (l0 : List (S66)) : Option ((List (S53))) := if 0 ≤ (l0.length : Int) then (if ((l0.length : Int) : Int).toNat ≤ 8796093022208 then (Fo.l0 k l0 (List.replicate ((l0.length : Int) : Int).toNat z53) 0) else (none)) else (none)
theorem Fo.mono_l : ∀ k, (∀ y0 y1 y2, LeO (Fo.l0 k y0 y1 y2) (Fo.l0 (k + 1) y0 y1 y2))
 | 0 => fun _ _ _ r h => by simp [Fo.l0] at h | k + 1 => by
  have ih0 := Fo.mono_l k
  ·
   intro y0 y1 y2
   unfold Fo.l0
   exact Mo4
theorem Fo.mono : ∀ a0 k, LeO (Fo.f k a0) (Fo.f (k + 1) a0) := by
 intro a0 k
 have ih0 := Fo.mono_l k
 unfold Fo.f
 exact Mo4
theorem Fo.calls (k : Nat) (A0 : Option Addr) (c0 : Nat) (l0 : List (S66)) (r : List (S53)) (w : World) (hr0 : Kd.C k66 w A0 l0.length l0) (hc0 : l0.length ≤ c0) (h : Fo.f k l0 = some r) :
  Calls Try.prog 25 #[.slice A0 l0.length c0] w fun e w' => ∃ v0_ : Value, e = .returned (v0_) ∧ Kd.S k53 53 w' w.heap.size (fun _ => True) v0_ r ∧ Below w.heap.size w w' := by
 have hu66 := Try.underlying66
 have hu53 := Try.underlying53
 have HR0 := am hr0
 have HC0 := am hc0
 clear hr0 hc0
 have HB := am (Below.refl w.heap.size w)
 have H : (if 0 ≤ (l0.length : Int) then (if ((l0.length : Int) : Int).toNat ≤ 8796093022208 then (Fo.l0 k l0 (List.replicate ((l0.length : Int) : Int).toNat z53) 0) else (none)) else (none)) = some r := h
 clear h
 by_cases c2 : 0 ≤ (l0.length : Int)
 rotate_left
 ·
  rw [if_neg c2] at H
  exact absurd H Z65
 rw [if_pos c2] at H
 have c2b0 := eq_true c2
 have c2b1 := decide_eq_true c2
 have CK2b1_ : Aside0 (0 ≤ (l0.length : Int)) := am (of_decide_eq_true c2b1)
 clear c2
 by_cases c3 : ((l0.length : Int) : Int).toNat ≤ 8796093022208
 rotate_left
 ·
  rw [if_neg c3] at H
  exact absurd H Z65
 rw [if_pos c3] at H
 have c3b0 := eq_true c3
 have c3b1 := decide_eq_true c3
 clear c3
 obtain ⟨y14, hy14⟩ : ∃ y_ : List (S53), y_ = (List.replicate ((l0.length : Int) : Int).toNat z53) := ⟨_, rfl⟩
 replace H : (Fo.l0 k l0 y14 0) = some r := by first | (rw [hy14]; with_reducible exact H) | (have H2_ := (Option.bind_some _ _).symm.trans H; rw [hy14]; with_reducible exact H2_) | (have H2_ := (Option.bind_some _ _).symm.trans H; with_reducible exact H2_) | with_reducible exact H | (rw [hy14]; exact H) | exact H
 have Ny14 := am hy14
 clear hy14
 have H' := am H
 clear H
 go_enter Try.func25, Try.ntmps25
 go_wp2_with (first | ((with_reducible refine gate_dst (N := 7) rfl ?_); refine Kd.S_make k53 _ 53 rfl (N := 7) rfl 27 _ _ rfl (l0.length : Int) rfl rfl Try.underlying27 (.agg #[(.int .i64 0), (.slice none 0 0)]) 32 info53 rfl Z21 Z70 z53 (ok := fun _ => True) (okp := fun _ => True) (k53_mkM _ _ _ z53 (Kd.R_nil _ _ _ _ _)) (fun _ hk => hk) trivial (of_decide_eq_true Z5) (Nat.le_trans (Nat.mul_le_mul_right _ (of_decide_eq_true Z5 : (l0.length : Int).toNat ≤ 8796093022208)) Z70) (Below.refl _ _) (Nat.le_refl _) ?_; intro v15 w4 ho5 hb hg_ hnew_; clear hg_ hnew_; (first | rw [← Ny14.out] at ho5 | (simp only [Int.reduceToNat] at ho5; rw [← Ny14.out] at ho5)); have HO16 := am (Kd.S_lower ho5 (below_size (uN HB))); replace HB := am (below_step (uN HB) hb); clear hb ho5))
 go_loopg [4] k (fun kq v4 w' => ∃ (x3_1 : List (S53)) (x4_1 : Int), v4 = .int .i64 x4_1 ∧ Aside0 (Fo.l0 kq l0 x3_1 x4_1 = some r) ∧ Aside0 (kq ≤ k) ∧ Aside0 (Kd.S k53 53 w' w.heap.size (fun _ => True) v15 x3_1) ∧ Aside0 (Below w.heap.size w w'))
 case atStart => exact ⟨(y14), (0), Z87, H', ⟨Nat.le_refl _⟩, ⟨by (with_reducible repeat (first | apply Kd.S_alloc | apply Kd.S_drewN | apply Kd.S_drew)); exact HO16.out⟩, ⟨uN HB⟩⟩
 case round =>
  clear H'
  try clear c2
  try clear c2b0
  try clear c2b1
  try clear p2
  try clear c3
  try clear c3b0
  try clear c3b1
  try clear HO_3
  obtain ⟨x3_1, x4_1, rfl, HA, HK1, HO_3, HB⟩ := hrel
  cases gk with
  | zero => exact absurd HA.out (by simp [Fo.l0])
  | succ k1 =>
   have H := HA.out
   clear HA
   simp only [Fo.l0] at H
   by_cases c6 : x4_1 < (l0.length : Int)
   rotate_left
   ·
    rw [if_neg c6] at H
    have c6b0 := decide_eq_false c6
    clear c6
    obtain rfl := Option.some.inj H
    go_wp2
    go_ret
    exact ⟨_, Z86, Z78, uN HB⟩
   rw [if_pos c6] at H
   have c6b0 := decide_eq_true c6
   clear c6
   by_cases c7 : 0 ≤ x4_1
   rotate_left
   ·
    rw [if_neg c7] at H
    exact absurd H Z65
   rw [if_pos c7] at H
   have c7b0 := decide_eq_true c7
   clear c7
   replace H := Option.bind_eq_some_iff.mp H
   obtain ⟨⟨t17, t18⟩, A80, H⟩ := H
   try dsimp only at H
   have A8 := am A80
   clear A80
   by_cases c9 : x4_1 < (x3_1.length : Int)
   rotate_left
   ·
    rw [if_neg c9] at H
    exact absurd H Z65
   rw [if_pos c9] at H
   have c9b0 := decide_eq_true c9
   clear c9
   obtain ⟨y19, hy19⟩ : ∃ y_ : List (S53), y_ = (x3_1.set (x4_1 : Int).toNat (⟨t17, t18⟩ : S53)) := ⟨_, rfl⟩
   replace H : (Fo.l0 k1 l0 y19 (wrap64 (x4_1 + 1))) = some r := by first | (rw [hy19]; with_reducible exact H) | (have H2_ := (Option.bind_some _ _).symm.trans H; rw [hy19]; with_reducible exact H2_) | (have H2_ := (Option.bind_some _ _).symm.trans H; with_reducible exact H2_) | with_reducible exact H | (rw [hy19]; exact H) | exact H
   have Ny19 := am hy19
   clear hy19
   have H' := am H
   clear H
   have p20 : 0 ≤ (x4_1 : Int) := of_decide_eq_true Z5
   have q20 : x4_1 < (l0.length : Int) := of_decide_eq_true Z5
   obtain ⟨ad20, A20_1, c20_1, e20, hx20_0, hx20_1, hl182_1, hi20_1⟩ := at_T66 HR0.out x4_1 p20 q20
   cases e20
   replace hx20_0 := (HB.out.cell (World.block_lt_of_cell? w _ hx20_0)).trans hx20_0
   replace hx20_1 := (HB.out.cell (World.block_lt_of_cell? w _ hx20_1)).trans hx20_1
   have HR20_1 := am hi20_1
   have HC20_1 := am hl182_1
   clear hi20_1 hl182_1
   replace p20 := eq_true p20
   replace q20 := eq_true q20
   go_wp2_with (first | ((with_reducible refine gate_callee (f := 46) rfl ?_); refine gL 20 rfl Try.func46 #[.agg #[.int .i64 ((rd_T66 l0 x4_1).f0), .slice A20_1 ((rd_T66 l0 x4_1).f1).length c20_1]] ?_; (with_reducible refine (FH.calls k1 ((rd_T66 l0 x4_1).f0) _ _ ((rd_T66 l0 x4_1).f1) t17 t18 _ ?side1 ?side2 A8.out).mono ?_); (case side1 => exact uC HR20_1 HB); (case side2 => exact HC20_1.out); rintro e w11 ⟨v21, rfl, ho0, hb⟩; refine ⟨_, rfl, ?_⟩; replace HO_3 := am (Kd.S_elder' Z78 (Kd.R_base ho0) hb); have HO22 := am (Kd.R_lower ho0 (below_size (uN HB))); replace HB := am (below_step (uN HB) hb); (try clear hb); (try clear hb2); (try clear hk); (try clear hi); (try clear ho0); have p10 : 0 ≤ (x4_1 : Int) := of_decide_eq_true Z5; have q10 : (x4_1 : Int) < ((x3_1.length : Int) : Int) := of_decide_eq_true Z5; obtain ⟨go10, co10, eo10, gb10, gl10, cl10, HG10⟩ := Kd.S_form HO_3.out Z70; (first | cases eo10 | (injection eo10 with ea_ en_ ec_; (first | subst ea_ | (injection ea_ with ea_; subst ea_)); subst ec_; clear en_)); have GB10 := am gb10; have GG10 := am HG10; clear gb10 gl10 HG10; obtain ⟨_, ce10, hcl10, hM10, hcc10, hfr10, _, _⟩ := Kd.S_elem HO_3.out z53 (x4_1 : Int) p10 q10; obtain ⟨ve10_1, rfl, ge10_1⟩ := k53_openM hM10; have hx10_0 : w11.cell? ⟨go10, (x4_1 : Int).toNat * 2, none⟩ = some (.int .i64 ((rd_T53 x3_1 x4_1).f0)) := hcc10 0 _ rfl; have hx10_1 : w11.cell? ⟨go10, (x4_1 : Int).toNat * 2 + 1, none⟩ = some (ve10_1) := hcc10 1 _ rfl; have hf10_0 : w11.frozen? ⟨go10, (x4_1 : Int).toNat * 2, none⟩ = false := hfr10 0; have hf10_1 : w11.frozen? ⟨go10, (x4_1 : Int).toNat * 2 + 1, none⟩ = false := hfr10 1; clear hcl10 hcc10 hfr10 hM10; replace p10 := eq_true p10; replace q10 := eq_true q10; have n_ := am (Kd.S_mono (ok' := (fun k_ => some k_ ≠ (v21 : Value).ownBlock)) HO_3.out (fun k_ hk => hk.2)); clear HO_3; have HO_3 := n_; clear n_; have HX12 := am (show Kd.S k53 53 w11 w.heap.size (fun k_ => ((fun _ => True)) k_ ∧ ¬ ((fun k_ => some k_ = (v21 : Value).ownBlock)) k_) (.slice (some ⟨go10, 0, none⟩) x3_1.length co10) x3_1 from (by (with_reducible repeat (first | apply Kd.S_alloc | apply Kd.S_drewN | apply Kd.S_drew)); exact Kd.S_mono HO_3.out (fun k_ hk => ⟨trivial, fun e_ => hk e_⟩))); obtain ⟨oki12, ce12, hcl12, hM12, hcc12, hfr12, hoki12, hH12⟩ := Kd.S_elem HX12.out z53 (x4_1 : Int) (of_decide_eq_true Z5) (by have h_ : (x4_1 : Int) < ((x3_1.length : Int) : Int) := of_decide_eq_true Z5; first | exact h_ | (have e_ := (Kd.S_reads' HO_3.out).1; omega) | simpa using h_); obtain ⟨ve12_1, rfl, ge12_1⟩ := k53_openM hM12; have HP12 := Kd.S_seg hH12 (of_decide_eq_true Z5) (by have h_ : (x4_1 : Int) < ((x3_1.length : Int) : Int) := of_decide_eq_true Z5; first | exact h_ | (have e_ := (Kd.S_reads' HO_3.out).1; omega) | simpa using h_) (seg := [.int .i64 t17, v21]) (j := 0) (show 2 ≤ 2 from Z21) (x' := (⟨t17, t18⟩ : S53)) (k53_mkM _ _ _ (⟨t17, t18⟩ : S53) (Kd.R_mono (Kd.R_tight rfl (Kd.R_mono (ok' := fun k_ => ((fun _ => True)) k_ ∧ k_ ≠ go10) (Kd.R_apart' (HO22.out) (Kd.S_typed HO_3.out) Z21) (fun k_ hk => ⟨trivial, fun e_ => (hk.2) (by rw [e_]; rfl)⟩))) (fun _ h_ => Or.inr (h_)))) (fun _ hk => hk) (fun k_ hk_ => ((Kd.R_mono (ok' := fun k_ => ((fun _ => True)) k_ ∧ k_ ≠ go10) (Kd.R_apart' (HO22.out) (Kd.S_typed HO_3.out) Z21) (fun k_ hk => ⟨trivial, fun e_ => (hk.2) (by rw [e_]; rfl)⟩))).1 k_ hk_.symm); have hx12_0 := hcc12 0 _ rfl; (try simp only [show (k53).sz = 2 from rfl, Nat.mul_one, Nat.add_zero] at hx12_0); have hf12_0 := hfr12 0; (try simp only [show (k53).sz = 2 from rfl, Nat.mul_one, Nat.add_zero] at hf12_0); have hx12_1 := hcc12 1 _ rfl; (try simp only [show (k53).sz = 2 from rfl, Nat.mul_one, Nat.add_zero] at hx12_1); have hf12_1 := hfr12 1; (try simp only [show (k53).sz = 2 from rfl, Nat.mul_one, Nat.add_zero] at hf12_1); clear hcl12 hcc12 hfr12 hM12 hoki12 hH12) | ((with_reducible refine gate_store (t := 53) (p := 21) rfl ?_); refine store_event (t := 53) (p := 21) (v := ?vo_w13) (w1 := ((w11.setCell ⟨go10, (x4_1 : Int).toNat * 2, none⟩ (.int .i64 t17)).setCell ⟨go10, (x4_1 : Int).toNat * 2 + 1, none⟩ (v21))) ?hg ?ho ?hn ?hr ?_; (case ho => rfl); (case hg => rfl); (case hn => rfl); (case hr => first | (go_simp; done) | (go_simp; rfl) | (obtain ⟨_, _, rfl⟩ := Kd.R_slice HO22.out; go_simp; done) | (obtain ⟨_, _, rfl⟩ := Kd.R_slice HO22.out; go_simp; rfl)); intro w13 hw; have hg : w11.grownBy w13 (some go10) := (by rw [hw]; exact HP12.2); have hp_ : Kd.S k53 53 w13 w.heap.size (fun _ => True) (.slice (some ⟨go10, 0, none⟩) x3_1.length co10) y19 := (by rw [hw, Ny19.out]; exact HP12.1); clear HP12; replace HO_3 := am (hp_); replace HB := am ((by rw [hw]; exact below_set (below_set (HB.out) GB10.out) GB10.out : Below w.heap.size w w13)); clear HO22; clear hg hw hp_))
   go_roundg k1
   case measure => have := HK1.out; omega
   case rel => exact ⟨(y19), (wrap64 (x4_1 + 1)), Z87, H', ⟨by have := HK1.out; omega⟩, ⟨Z78⟩, ⟨uN HB⟩⟩

/-! ### Ff: function 7 -/
def Ff.f (k : Nat) (a0_0 : Int) (l0_1 : List (S66)) (l0_2 : List Bool) : Option (Int × (List (S53)) × List Bool) := (Fo.f k l0_1).bind fun t3 => ((Fl.f k l0_2).bind fun t4 => (some (a0_0, t3, t4)))
theorem Ff.mono : ∀ a0 a1 a2 k, LeO (Ff.f k a0 a1 a2) (Ff.f (k + 1) a0 a1 a2) := by
 intro a0 a1 a2 k
 unfold Ff.f
 repeat' first
   | with_reducible first | exact Fo.mono .. | exact Fl.mono .. | exact LeO.refl _ | exact LeO.none _ | refine LeO.ite ?_ ?_ | refine LeO.bind ?_ (fun _ => ?_)
   | exact Fo.mono .. | exact Fl.mono .. | exact LeO.none _ | refine LeO.ite ?_ ?_ | refine LeO.bind ?_ (fun _ => ?_)
theorem Ff.calls (k : Nat) (a0_0 : Int) (A0_1 : Option Addr) (c0_1 : Nat) (l0_1 : List (S66)) (A0_2 : Option Addr) (c0_2 : Nat) (l0_2 : List Bool) (r1 : Int) (r2 : List (S53)) (r3 : List Bool) (w : World) (hr0_1 : Kd.C k66 w A0_1 l0_1.length l0_1) (hc0_1 : l0_1.length ≤ c0_1) (hr0_2 : Kd.C Kd.bool w A0_2 l0_2.length l0_2) (hc0_2 : l0_2.length ≤ c0_2) (h : Ff.f k a0_0 l0_1 l0_2 = some (r1, r2, r3)) :
  Calls Try.prog 7 #[.agg #[.int .i64 a0_0, .slice A0_1 l0_1.length c0_1, .slice A0_2 l0_2.length c0_2]] w fun e w' => ∃ v1_ v2_ : Value, e = .returned (.agg #[.int .i64 r1, v1_, v2_]) ∧ Kd.S k53 53 w' w.heap.size (fun _ => True) v1_ r2 ∧ Kd.R Kd.bool 4 w' w.heap.size (fun _ => True) v2_ r3 ∧ Below w.heap.size w w' := by
 have hu25 := Try.underlying25
 have hu29 := Try.underlying29
 have HR0_1 := am hr0_1
 have HC0_1 := am hc0_1
 clear hr0_1 hc0_1
 have HR0_2 := am hr0_2
 have HC0_2 := am hc0_2
 clear hr0_2 hc0_2
 have HB := am (Below.refl w.heap.size w)
 have H : ((Fo.f k l0_1).bind fun t21 => ((Fl.f k l0_2).bind fun t22 => (some (a0_0, t21, t22)))) = some (r1, r2, r3) := h
 clear h
 replace H := Option.bind_eq_some_iff.mp H
 obtain ⟨t21, A20, H⟩ := H
 try dsimp only at H
 have A2 := am A20
 clear A20
 replace H := Option.bind_eq_some_iff.mp H
 obtain ⟨t22, A30, H⟩ := H
 try dsimp only at H
 have A3 := am A30
 clear A30
 simp only [Option.some.injEq, Prod.mk.injEq] at H
 obtain ⟨rfl, rfl, rfl⟩ := H
 go_enter Try.func7, Try.ntmps7
 go_wp2_with (first | ((with_reducible refine gate_dst (N := 1) rfl ?_); refine box_event ?hg (N := 1) ?hd (cs := #[.int .i64 a0_0, .slice A0_1 l0_1.length c0_1, .slice A0_2 l0_2.length c0_2]) (t := 25) ?hr ?_; (case hd => rfl); (case hg => rfl); (case hr => exact Z88); intro gb23 hg w4 hbox hb; have BK23 := am (hbox); have GW23 := nG HB hg; have GE23 := nG HB hg; have GI23 := gI GE23; replace HB := am (below_step (uN HB) hb); clear hb hbox hg) | ((with_reducible refine gate_dst (N := 2) rfl ?_); refine box_event ?hg (N := 2) ?hd (cs := #[.int .i64 0, .slice none 0 0, .slice none 0 0]) (t := 29) ?hr ?_; (case hd => rfl); (case hg => rfl); (case hr => exact Z88); intro gb24 hg w5 hbox hb; have BK24 := am (hbox); have GW24 := am ((by rw [hg]; exact (below_size Z59) : w.heap.size ≤ gb24)); have GE24 := am ((by rw [hg]; exact (below_size Z59) : w.heap.size ≤ gb24)); replace HB := am (below_step Z59 hb); have NB23_24 := nL BK23 hg; have NB24_23 := nR BK23 hg; replace BK23 := kB BK23 hb; clear hb hbox hg) | ((with_reducible refine gate_dst (N := 3) rfl ?_); refine box_event ?hg (N := 3) ?hd (cs := #[.int .i64 0, .slice none 0 0, .slice none 0 0]) (t := 29) ?hr ?_; (case hd => rfl); (case hg => rfl); (case hr => exact Z88); intro gb26 hg w6 hbox hb; have BK26 := am (hbox); have GW26 := am ((by rw [hg]; exact (below_size Z50) : w.heap.size ≤ gb26)); have GE26 := am ((by rw [hg]; exact (below_size Z50) : w.heap.size ≤ gb26)); replace HB := am (below_step Z50 hb); have NB23_26 := nL BK23 hg; have NB26_23 := nR BK23 hg; replace BK23 := kB BK23 hb; have NB24_26 := nL BK24 hg; have NB26_24 := nR BK24 hg; replace BK24 := kB BK24 hb; clear hb hbox hg; have hnb7 := NB23_24.out; have hnc7 := NB24_23.out; have hnb8 := NB23_26.out; have hnc8 := NB26_23.out; obtain ⟨hcz9_0, hcz9_1, hcz9_2, hfz9_0, hfz9_1, hfz9_2⟩ := ce3 BK23; have hnb10 := NB26_24.out; have hnc10 := NB24_26.out; obtain ⟨hcz11_0, hcz11_1, hcz11_2, hfz11_0, hfz11_1, hfz11_2⟩ := ce3 BK26) | ((with_reducible refine gate_callee (f := 25) rfl ?_); refine gL 9 rfl Try.func25 #[.slice A0_1 l0_1.length c0_1] ?_; (with_reducible refine (Fo.calls k _ _ l0_1 t21 _ ?side1 ?side2 A2.out).mono ?_); (case side1 => exact Kd.C_below HR0_1.out Z19); (case side2 => exact HC0_1.out); rintro e w12 ⟨v27, rfl, ho0, hb⟩; refine ⟨_, rfl, ?_⟩; have HO28 := am (Kd.S_lower ho0 (below_size Z19)); replace BK23 := am (blk_below (g := gb23) (o := .cells #[.int .i64 a0_0, .slice A0_1 l0_1.length c0_1, .slice A0_2 l0_2.length c0_2] 25 (0, 0)) (pf NB23_26 (pb BK23)) hb); replace BK24 := am (blk_below (g := gb24) (o := .cells #[.int .i64 0, .slice none 0 0, .slice none 0 0] 29 (0, 0)) (pf NB24_26 (pb BK24)) hb); replace BK26 := am (blk_below (g := gb26) (o := .cells #[.int .i64 a0_0, .slice none 0 0, .slice none 0 0] 29 (0, 0)) (pT (pp 0 (pb BK26))) hb); replace HB := am (below_step Z19 hb); (try clear hb); (try clear hb2); (try clear hk); (try clear hi); (try clear ho0); obtain ⟨Ao13, co13, eo13⟩ := Kd.S_slice HO28.out; subst eo13; obtain ⟨hcz14_0, hcz14_1, hcz14_2, hfz14_0, hfz14_1, hfz14_2⟩ := ce3 BK26; obtain ⟨hcz15_0, hcz15_1, hcz15_2, hfz15_0, hfz15_1, hfz15_2⟩ := ce3 BK23) | ((with_reducible refine gate_callee (f := 15) rfl ?_); refine gL 13 rfl Try.func15 #[.slice A0_2 l0_2.length c0_2] ?_; (with_reducible refine (Fl.calls k _ _ l0_2 t22 _ ?side1 ?side2 A3.out).mono ?_); (case side1 => exact Kd.C_below HR0_2.out Z19); (case side2 => exact HC0_2.out); rintro e w16 ⟨v31, rfl, ho0, hb⟩; refine ⟨_, rfl, ?_⟩; replace HO28 := am (Kd.S_below (by (with_reducible repeat (first | apply Kd.S_alloc | apply Kd.S_drewN | apply Kd.S_drew)); exact (Kd.S_mono (Kd.S_far (p := ⟨gb26, 1, none⟩) (Kd.S_types HO28.out BK26.out Z21) (fun _ hk => hk.2) (.slice Ao13 t21.length co13)) (fun _ h_ => h_.1))) hb); have HO32 := am (Kd.R_lower ho0 (below_size Z19)); replace BK23 := am (blk_below (g := gb23) (o := .cells #[.int .i64 a0_0, .slice A0_1 l0_1.length c0_1, .slice A0_2 l0_2.length c0_2] 25 (0, 0)) (pf NB23_26 (pb BK23)) hb); replace BK24 := am (blk_below (g := gb24) (o := .cells #[.int .i64 0, .slice none 0 0, .slice none 0 0] 29 (0, 0)) (pf NB24_26 (pb BK24)) hb); replace BK26 := am (blk_below (g := gb26) (o := .cells #[.int .i64 a0_0, .slice Ao13 t21.length co13, .slice none 0 0] 29 (0, 0)) (pT (pp 1 (pb BK26))) hb); replace HB := am (below_step Z19 hb); (try clear hb); (try clear hb2); (try clear hk); (try clear hi); (try clear ho0); obtain ⟨Ao17, co17, eo17⟩ := Kd.R_slice HO32.out; subst eo17; obtain ⟨hcz18_0, hcz18_1, hcz18_2, hfz18_0, hfz18_1, hfz18_2⟩ := ce3 BK26; obtain ⟨hcz19_0, hcz19_1, hcz19_2, hfz19_0, hfz19_1, hfz19_2⟩ := ce3 BK24))
 refine bodyPost_ret (results_cell_row rfl _ _ gb24 29 #[.int .i64 a0_0, .slice Ao13 t21.length co13, .slice Ao17 t22.length co17] (0, 0) _ rfl (pT (pp 2 (pp 1 (pp 0 (pf NB24_26 (pb BK24)))))) Try.underlying29 rfl Z90) rfl ?_
 exact ⟨_, _, Z86, by (with_reducible repeat (first | apply Kd.S_alloc | apply Kd.S_drewN | apply Kd.S_drew)); exact Kd.S_mono (Kd.S_far (p := ⟨gb24, 2, none⟩) (Kd.S_far (p := ⟨gb24, 1, none⟩) (Kd.S_far (p := ⟨gb24, 0, none⟩) (Kd.S_far (p := ⟨gb26, 2, none⟩) (Kd.S_types (Kd.S_types HO28.out BK26.out Z21) BK24.out Z21) (fun _ hk => hk.1.2) (.slice Ao17 t22.length co17)) (fun _ hk => hk.2) (.int .i64 a0_0)) (fun _ hk => hk.2) (.slice Ao13 t21.length co13)) (fun _ hk => hk.2) (.slice Ao17 t22.length co17)) (fun _ hk => trivial), by (with_reducible repeat (first | apply Kd.R_alloc | apply Kd.R_drewN | apply Kd.R_drew)); exact Kd.R_mono (Kd.R_far (p := ⟨gb24, 2, none⟩) (Kd.R_far (p := ⟨gb24, 1, none⟩) (Kd.R_far (p := ⟨gb24, 0, none⟩) (Kd.R_far (p := ⟨gb26, 2, none⟩) (Kd.R_types (Kd.R_types HO32.out BK26.out Z21) BK24.out Z21) (fun _ hk => hk.1.2) (.slice Ao17 t22.length co17)) (fun _ hk => hk.2) (.int .i64 a0_0)) (fun _ hk => hk.2) (.slice Ao13 t21.length co13)) (fun _ hk => hk.2) (.slice Ao17 t22.length co17)) (fun _ hk => trivial), Z19⟩

/-! ### FA: function 50 -/
def FA.f (a0 : Int) (a1 : Int) (a2 : Int) : Option (Bool) := if a0 ≥ a1 then (some (decide (a0 ≤ a2))) else (some false)
theorem FA.calls (a0 : Int) (a1 : Int) (a2 : Int) (r : Bool) (w : World) (h : FA.f a0 a1 a2 = some r) :
    Calls Try.prog 50 #[.int .i64 a0, .int .i64 a1, .int .i64 a2] w fun e w' => e = .returned (.bool r) ∧ Drawn0 w w' := by
  have H : (if a0 ≥ a1 then (some (decide (a0 ≤ a2))) else (some false)) = some r := h
  clear h
  by_cases c4 : a0 ≥ a1
  · rw [if_pos c4] at H
    have c4b0 := decide_eq_true c4
    clear c4
    obtain rfl := Option.some.inj H
    go_enter Try.func50, Try.ntmps50
    go_wp2
    go_ret
    exact ⟨Z87, Z12⟩
  · rw [if_neg c4] at H
    have c4b0 := decide_eq_false c4
    clear c4
    obtain rfl := Option.some.inj H
    go_enter Try.func50, Try.ntmps50
    go_wp2
    go_ret
    exact ⟨Z87, Z12⟩

/-! ### FI: function 72 -/
def FI.f (a0 : Int) : Option (Int) := some (wrap64 (Int.tdiv (wrap64 ((wrap64 (a0 + 16)) - 1)) 16))
theorem FI.calls (a0 : Int) (r : Int) (w : World) (h : FI.f a0 = some r) :
    Calls Try.prog 72 #[.int .i64 a0] w fun e w' => e = .returned (.int .i64 r) ∧ Drawn0 w w' := by
  have H : (some (wrap64 (Int.tdiv (wrap64 ((wrap64 (a0 + 16)) - 1)) 16))) = some r := h
  clear h
  obtain rfl := Option.some.inj H
  go_enter Try.func72, Try.ntmps72
  go_wp2
  go_ret
  exact ⟨Z87, Z12⟩

end Go.Proofs.Ytgbpbhplehmedaa.PFnExactJoinSystems
