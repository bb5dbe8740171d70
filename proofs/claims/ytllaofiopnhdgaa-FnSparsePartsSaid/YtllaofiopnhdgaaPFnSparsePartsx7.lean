-- made by wip/tools/myprint.py over the kit's print, for this claim
import Derived.Test.YtllaofiopnhdgaaPFnSparsePartsx0
import Derived.Test.YtllaofiopnhdgaaPFnSparsePartsx6
namespace Go.Proofs.Ytllaofiopnhdgaa.PFnSparseParts
open Go.RowKit Go.Proofs.YtllaofiopnhdgaaW.PrintWords Go.Proofs.YtllaofiopnhdgaaW.PrintLast Go.Proofs.YtllaofiopnhdgaaW.PrintMore
open List (setIfInBounds_toArray set_cons_zero set_cons_succ)
attribute [local go_sem] max2_int min2_int max_two min_two max_three min_three max_four min_four   -- for this text's walks alone
set_option linter.unusedVariables false
set_option linter.unusedSimpArgs false

set_option maxHeartbeats 8000000
set_option maxRecDepth 100000
/-! ### Fk: function 31 -/
def Fk.l0 : Nat → List Int → Int → Int → List Bool → List Bool → List Int → Int → Int → Option (Int × Int × Int × Int × List Int × Int × List Int)
 | 0, _, _, _, _, _, _, _, _ => none
 | k + 1, x0, x1, x5, x6, x7, x28, x29, x30 => if x30 < x29 then (if 0 ≤ x30 then (if x30 < (x28.length : Int) then (if 0 ≤ x5 then (if (shl .i64 1 x5) = 0 then (none) else ((Fx.f k x6 (wrap64 (x30 * x5)) x5 (Int.tmod (rd x28 x30) (shl .i64 1 x5))).bind fun t2 => (if 0 ≤ (wrap64 ((shr .i64 (rd x28 x30) x5) + x30)) then (if (wrap64 ((shr .i64 (rd x28 x30) x5) + x30)) < (x7.length : Int) then (Fk.l0 k x0 x1 x5 t2 (x7.set ((wrap64 ((shr .i64 (rd x28 x30) x5) + x30)) : Int).toNat true) x28 x29 (wrap64 (x30 + 1))) else (none)) else (none)))) else (none)) else (none)) else (none)) else ((Fm.f k x6).bind fun bt3 => ((Fm.f k x7).bind fun bt4 => (some ((x0.length : Int), x1, x5, bt3.1, bt3.2, bt4.1, bt4.2))))
def Fk.f (k : Nat) (l0 : List Int) (a1 : Int) : Option (Int × Int × Int × Int × List Int × Int × List Int) := (Fs.f k (l0.length : Int) a1).bind fun t2 => (if 0 ≤ (wrap64 ((l0.length : Int) * t2)) then (if (wrap64 ((l0.length : Int) * t2) : Int).toNat ≤ 281474976710656 then (if 0 ≤ t2 then (if 0 ≤ (wrap64 ((wrap64 ((l0.length : Int) + (shr .i64 (wrap64 (a1 - 1)) t2))) + 1)) then (if (wrap64 ((wrap64 ((l0.length : Int) + (shr .i64 (wrap64 (a1 - 1)) t2))) + 1) : Int).toNat ≤ 281474976710656 then (Fk.l0 k l0 a1 t2 (List.replicate (wrap64 ((l0.length : Int) * t2) : Int).toNat false) (List.replicate (wrap64 ((wrap64 ((l0.length : Int) + (shr .i64 (wrap64 (a1 - 1)) t2))) + 1) : Int).toNat false) l0 (l0.length : Int) 0) else (none)) else (none)) else (none)) else (none)) else (none))
theorem Fk.mono_l : ∀ k, (∀ y0 y1 y2 y3 y4 y5 y6 y7, LeO (Fk.l0 k y0 y1 y2 y3 y4 y5 y6 y7) (Fk.l0 (k + 1) y0 y1 y2 y3 y4 y5 y6 y7))
 | 0 => fun _ _ _ _ _ _ _ _ r h => by simp [Fk.l0] at h | k + 1 => by
  have ih0 := Fk.mono_l k
  ·
   intro y0 y1 y2 y3 y4 y5 y6 y7
   unfold Fk.l0
   exact Mo6
theorem Fk.mono : ∀ a0 a1 k, LeO (Fk.f k a0 a1) (Fk.f (k + 1) a0 a1) := by
 intro a0 a1 k
 have ih0 := Fk.mono_l k
 unfold Fk.f
 exact Mo6
theorem Fk.calls (k : Nat) (A0 : Option Addr) (c0 : Nat) (l0 : List Int) (a1 : Int) (r1 : Int) (r2 : Int) (r3 : Int) (r4 : Int) (r5 : List Int) (r6 : Int) (r7 : List Int) (w : World) (hr0 : Kd.C (Kd.int .i64) w A0 l0.length l0) (hc0 : l0.length ≤ c0) (h : Fk.f k l0 a1 = some (r1, r2, r3, r4, r5, r6, r7)) :
  Calls Try.prog 31 #[.slice A0 l0.length c0, .int .i64 a1] w fun e w' => ∃ v4_ v6_ : Value, e = .returned (.agg #[.int .i64 r1, .int .i64 r2, .int .i64 r3, .int .i64 r4, v4_, .int .i64 r6, v6_]) ∧ Kd.R (Kd.int .i64) 3 w' w.heap.size (fun k_ => some k_ ≠ (v6_ : Value).ownBlock) v4_ r5 ∧ Kd.R (Kd.int .i64) 3 w' w.heap.size (fun k_ => some k_ ≠ (v4_ : Value).ownBlock) v6_ r7 ∧ Below w.heap.size w w' := by
 have hu28 := Try.underlying28
 have HR0 := am hr0
 have HC0 := am hc0
 clear hr0 hc0
 have HB := am (Below.refl w.heap.size w)
 have H : ((Fs.f k (l0.length : Int) a1).bind fun t43 => (if 0 ≤ (wrap64 ((l0.length : Int) * t43)) then (if (wrap64 ((l0.length : Int) * t43) : Int).toNat ≤ 281474976710656 then (if 0 ≤ t43 then (if 0 ≤ (wrap64 ((wrap64 ((l0.length : Int) + (shr .i64 (wrap64 (a1 - 1)) t43))) + 1)) then (if (wrap64 ((wrap64 ((l0.length : Int) + (shr .i64 (wrap64 (a1 - 1)) t43))) + 1) : Int).toNat ≤ 281474976710656 then (Fk.l0 k l0 a1 t43 (List.replicate (wrap64 ((l0.length : Int) * t43) : Int).toNat false) (List.replicate (wrap64 ((wrap64 ((l0.length : Int) + (shr .i64 (wrap64 (a1 - 1)) t43))) + 1) : Int).toNat false) l0 (l0.length : Int) 0) else (none)) else (none)) else (none)) else (none)) else (none))) = some (r1, r2, r3, r4, r5, r6, r7) := h
 clear h
 replace H := Option.bind_eq_some_iff.mp H
 obtain ⟨t43, A30, H⟩ := H
 try dsimp only at H
 have A3 := am A30
 clear A30
 obtain ⟨ji4, hji4⟩ : ∃ j_ : Int, (wrap64 ((l0.length : Int) * t43)) = j_ := ⟨_, rfl⟩
 replace H : (if 0 ≤ (ji4) then (if (ji4 : Int).toNat ≤ 281474976710656 then (if 0 ≤ t43 then (if 0 ≤ (wrap64 ((wrap64 ((l0.length : Int) + (shr .i64 (wrap64 (a1 - 1)) t43))) + 1)) then (if (wrap64 ((wrap64 ((l0.length : Int) + (shr .i64 (wrap64 (a1 - 1)) t43))) + 1) : Int).toNat ≤ 281474976710656 then (Fk.l0 k l0 a1 t43 (List.replicate (ji4 : Int).toNat false) (List.replicate (wrap64 ((wrap64 ((l0.length : Int) + (shr .i64 (wrap64 (a1 - 1)) t43))) + 1) : Int).toNat false) l0 (l0.length : Int) 0) else (none)) else (none)) else (none)) else (none)) else (none)) = some (r1, r2, r3, r4, r5, r6, r7) := by first | (rw [hji4] at H; exact H) | (simp only [hji4] at H ⊢; exact H)
 (try rw [hji4] at A3)
 have hji4w : (IntKind.i64.wrap ((l0.length : Int) * t43)) = ji4 := (i64_w _).trans hji4
 by_cases c5 : 0 ≤ (ji4)
 rotate_left
 ·
  rw [if_neg c5] at H
  exact absurd H Z43
 rw [if_pos c5] at H
 have c5b0 := eq_true c5
 have c5b1 := decide_eq_true c5
 clear c5
 by_cases c6 : (ji4 : Int).toNat ≤ 281474976710656
 rotate_left
 ·
  rw [if_neg c6] at H
  exact absurd H Z43
 rw [if_pos c6] at H
 have c6b0 := eq_true c6
 have c6b1 := decide_eq_true c6
 clear c6
 obtain ⟨y44, hy44⟩ : ∃ y_ : List Bool, y_ = (List.replicate (ji4 : Int).toNat false) := ⟨_, rfl⟩
 replace H : (if 0 ≤ t43 then (if 0 ≤ (wrap64 ((wrap64 ((l0.length : Int) + (shr .i64 (wrap64 (a1 - 1)) t43))) + 1)) then (if (wrap64 ((wrap64 ((l0.length : Int) + (shr .i64 (wrap64 (a1 - 1)) t43))) + 1) : Int).toNat ≤ 281474976710656 then (Fk.l0 k l0 a1 t43 y44 (List.replicate (wrap64 ((wrap64 ((l0.length : Int) + (shr .i64 (wrap64 (a1 - 1)) t43))) + 1) : Int).toNat false) l0 (l0.length : Int) 0) else (none)) else (none)) else (none)) = some (r1, r2, r3, r4, r5, r6, r7) := by first | (rw [hy44]; with_reducible exact H) | (have H2_ := (Option.bind_some _ _).symm.trans H; rw [hy44]; with_reducible exact H2_) | (have H2_ := (Option.bind_some _ _).symm.trans H; with_reducible exact H2_) | with_reducible exact H | (rw [hy44]; exact H) | exact H
 have Ny44 := am hy44
 clear hy44
 by_cases c7 : 0 ≤ t43
 rotate_left
 ·
  rw [if_neg c7] at H
  exact absurd H Z43
 rw [if_pos c7] at H
 have c7b0 := eq_true c7
 have c7b1 := decide_eq_true c7
 clear c7
 obtain ⟨ji8, hji8⟩ : ∃ j_ : Int, (shr .i64 (wrap64 (a1 - 1)) t43) = j_ := ⟨_, rfl⟩
 replace H : (if 0 ≤ (wrap64 ((wrap64 ((l0.length : Int) + (ji8))) + 1)) then (if (wrap64 ((wrap64 ((l0.length : Int) + (ji8))) + 1) : Int).toNat ≤ 281474976710656 then (Fk.l0 k l0 a1 t43 y44 (List.replicate (wrap64 ((wrap64 ((l0.length : Int) + (ji8))) + 1) : Int).toNat false) l0 (l0.length : Int) 0) else (none)) else (none)) = some (r1, r2, r3, r4, r5, r6, r7) := by first | (rw [hji8] at H; exact H) | (simp only [hji8] at H ⊢; exact H)
 (try rw [hji8] at A3)
 have hji8_ : ((wrap64 (a1 - 1)) / 2 ^ min t43.toNat 64) = ji8 := hji8
 have hji8z : t43 ≤ 64 → ((wrap64 (a1 - 1)) / 2 ^ t43.toNat) = ji8 := shr_small hji8
 obtain ⟨ji9, hji9⟩ : ∃ j_ : Int, (wrap64 ((wrap64 ((l0.length : Int) + (ji8))) + 1)) = j_ := ⟨_, rfl⟩
 replace H : (if 0 ≤ (ji9) then (if (ji9 : Int).toNat ≤ 281474976710656 then (Fk.l0 k l0 a1 t43 y44 (List.replicate (ji9 : Int).toNat false) l0 (l0.length : Int) 0) else (none)) else (none)) = some (r1, r2, r3, r4, r5, r6, r7) := by first | (rw [hji9] at H; exact H) | (simp only [hji9] at H ⊢; exact H)
 (try rw [hji9] at A3)
 have hji9w : (IntKind.i64.wrap ((wrap64 ((l0.length : Int) + (ji8))) + 1)) = ji9 := (i64_w _).trans hji9
 by_cases c10 : 0 ≤ (ji9)
 rotate_left
 ·
  rw [if_neg c10] at H
  exact absurd H Z43
 rw [if_pos c10] at H
 have c10b0 := eq_true c10
 have c10b1 := decide_eq_true c10
 clear c10
 by_cases c11 : (ji9 : Int).toNat ≤ 281474976710656
 rotate_left
 ·
  rw [if_neg c11] at H
  exact absurd H Z43
 rw [if_pos c11] at H
 have c11b0 := eq_true c11
 have c11b1 := decide_eq_true c11
 clear c11
 obtain ⟨y45, hy45⟩ : ∃ y_ : List Bool, y_ = (List.replicate (ji9 : Int).toNat false) := ⟨_, rfl⟩
 replace H : (Fk.l0 k l0 a1 t43 y44 y45 l0 (l0.length : Int) 0) = some (r1, r2, r3, r4, r5, r6, r7) := by first | (rw [hy45]; with_reducible exact H) | (have H2_ := (Option.bind_some _ _).symm.trans H; rw [hy45]; with_reducible exact H2_) | (have H2_ := (Option.bind_some _ _).symm.trans H; with_reducible exact H2_) | with_reducible exact H | (rw [hy45]; exact H) | exact H
 have Ny45 := am hy45
 clear hy45
 have H' := am H
 clear H
 go_enter Try.func31, Try.ntmps31
 go_wp2_with (first | ((with_reducible refine gate_dst (N := 4) rfl ?_); refine box_event ?hg (N := 4) ?hd (cs := #[.int .i64 0, .int .i64 0, .int .i64 0, .int .i64 0, .slice none 0 0, .int .i64 0, .slice none 0 0]) (t := 28) ?hr ?_; (case hd => rfl); (case hg => rfl); (case hr => exact Z111); intro gb47 hg w12 hbox hb; have BK47 := am (hbox); have GW47 := nG HB hg; have GE47 := nG HB hg; have GI47 := gI GE47; replace HB := am (below_step (uN HB) hb); clear hb hbox hg) | ((with_reducible refine gate_callee (f := 61) rfl ?_); refine gL 13 rfl Try.func61 #[.int .i64 (l0.length : Int), .int .i64 a1] ?_; (with_reducible refine (Fs.calls k (l0.length : Int) a1 t43 _ A3.out).mono ?_); rintro e w' ⟨rfl, ⟨nd, rfl⟩⟩; refine ⟨_, rfl, ?_⟩) | ((with_reducible refine gate_dst (N := 18) rfl ?_); refine Kd.R_make Kd.bool _ 4 rfl (N := 18) rfl 68 _ _ rfl ji4 rfl rfl Try.underlying68 (.bool false) 1 info4 rfl Z16 Z70 false (ok := fun _ => True) (okp := fun _ => True) rfl (fun _ hk => hk) trivial (of_decide_eq_true Z6) (Nat.le_trans (Nat.mul_le_mul_right _ (of_decide_eq_true Z6 : ji4.toNat ≤ 281474976710656)) Z70) (Below.refl _ _) (Nat.le_refl _) ?_; intro v48 w13 ho14 hb hg_ hnew_; clear hg_ hnew_; (first | rw [← Ny44.out] at ho14 | (simp only [Int.reduceToNat] at ho14; rw [← Ny44.out] at ho14)); have HO49 := am (Kd.R_lower ho14 (below_size Z31)); replace BK47 := kB BK47 hb; replace HB := am (below_step Z31 hb); clear hb ho14) | ((with_reducible refine gate_dst (N := 27) rfl ?_); refine Kd.R_make Kd.bool _ 4 rfl (N := 27) rfl 68 _ _ rfl ji9 rfl rfl Try.underlying68 (.bool false) 1 info4 rfl Z16 Z70 false (ok := fun _ => True) (okp := fun _ => True) rfl (fun _ hk => hk) trivial (of_decide_eq_true Z6) (Nat.le_trans (Nat.mul_le_mul_right _ (of_decide_eq_true Z6 : ji9.toNat ≤ 281474976710656)) Z70) (Below.refl _ _) (Nat.le_refl _) ?_; intro v50 w15 ho16 hb hg_ hnew_; clear hg_ hnew_; (first | rw [← Ny45.out] at ho16 | (simp only [Int.reduceToNat] at ho16; rw [← Ny45.out] at ho16)); have HO51 := am (Kd.R_lower (Kd.R_new' ho16 (Kd.R_lt (uR HO49))) (below_size Z31)); replace HO49 := am (Kd.R_elder' (uR HO49) (Kd.R_base ho16) hb); replace BK47 := kB BK47 hb; replace HB := am (below_step Z31 hb); clear hb ho16))
 go_loopg [30] k (fun kq v30 w' => ∃ (x6_1 : List Bool) (x7_1 : List Bool) (x30_1 : Int), v30 = .int .i64 x30_1 ∧ Aside0 (Fk.l0 kq l0 a1 t43 x6_1 x7_1 l0 (l0.length : Int) x30_1 = some (r1, r2, r3, r4, r5, r6, r7)) ∧ Aside0 (kq ≤ k) ∧ Aside0 (Kd.R Kd.bool 4 w' w.heap.size (fun k_ => some k_ ≠ (v50 : Value).ownBlock) v48 x6_1) ∧ Aside0 (Kd.R Kd.bool 4 w' w.heap.size (fun k_ => some k_ ≠ (v48 : Value).ownBlock) v50 x7_1) ∧ Aside0 (w'.heap[gb47]? = some (.cells #[.int .i64 0, .int .i64 0, .int .i64 0, .int .i64 0, (.slice none 0 0), .int .i64 0, (.slice none 0 0)] 28 (0, 0))) ∧ Aside0 (Below w.heap.size w w'))
 case atStart => exact ⟨(y44), (y45), (0), Z110, H', ⟨Nat.le_refl _⟩, ⟨by (with_reducible repeat (first | apply Kd.R_alloc | apply Kd.R_drewN | apply Kd.R_drew)); exact Kd.R_mono HO49.out (fun _ hk => hk.2)⟩, ⟨by (with_reducible repeat (first | apply Kd.R_alloc | apply Kd.R_drewN | apply Kd.R_drew)); exact Kd.R_mono HO51.out (fun _ hk => hk.2)⟩, ⟨pb BK47⟩, ⟨Z31⟩⟩
 case round =>
  clear H'
  try clear c1
  try clear p2
  try clear c3
  try clear c5
  try clear c5b0
  try clear c5b1
  try clear c6
  try clear c6b0
  try clear c6b1
  try clear p6
  try clear c7
  try clear c7b0
  try clear c7b1
  try clear c10
  try clear c10b0
  try clear c10b1
  try clear c11
  try clear c11b0
  try clear c11b1
  try clear HO_6
  try clear HO_7
  obtain ⟨x6_1, x7_1, x30_1, rfl, HA, HK1, HO_6, HO_7, BK47, HB⟩ := hrel
  cases gk with
  | zero => exact absurd HA.out (by simp [Fk.l0])
  | succ k1 =>
   have H := HA.out
   clear HA
   simp only [Fk.l0] at H
   by_cases c17 : x30_1 < (l0.length : Int)
   ·
    rw [if_pos c17] at H
    have c17b0 := decide_eq_true c17
    clear c17
    by_cases c18 : 0 ≤ x30_1
    rotate_left
    ·
     rw [if_neg c18] at H
     exact absurd H Z43
    rw [if_pos c18] at H
    have c18b0 := decide_eq_true c18
    clear c18
    by_cases c19 : x30_1 < (l0.length : Int)
    rotate_left
    ·
     rw [if_neg c19] at H
     exact absurd H Z43
    rw [if_pos c19] at H
    have c19b0 := decide_eq_true c19
    clear c19
    by_cases c20 : 0 ≤ t43
    rotate_left
    ·
     rw [if_neg c20] at H
     exact absurd H Z43
    rw [if_pos c20] at H
    have c20b0 := eq_true c20
    have c20b1 := decide_eq_true c20
    clear c20
    obtain ⟨ji21, hji21⟩ : ∃ j_ : Int, (shl .i64 1 t43) = j_ := ⟨_, rfl⟩
    replace H : (if (ji21) = 0 then (none) else ((Fx.f k1 x6_1 (wrap64 (x30_1 * t43)) t43 (Int.tmod (rd l0 x30_1) (ji21))).bind fun t52 => (if 0 ≤ (wrap64 ((shr .i64 (rd l0 x30_1) t43) + x30_1)) then (if (wrap64 ((shr .i64 (rd l0 x30_1) t43) + x30_1)) < (x7_1.length : Int) then (Fk.l0 k1 l0 a1 t43 t52 (x7_1.set ((wrap64 ((shr .i64 (rd l0 x30_1) t43) + x30_1)) : Int).toNat true) l0 (l0.length : Int) (wrap64 (x30_1 + 1))) else (none)) else (none)))) = some (r1, r2, r3, r4, r5, r6, r7) := by first | (rw [hji21] at H; exact H) | (simp only [hji21] at H ⊢; exact H)
    have hji21_ : (IntKind.i64.wrap (1 * 2 ^ min t43.toNat 64)) = ji21 := hji21
    have hji21z : t43 ≤ 64 → (IntKind.i64.wrap (1 * 2 ^ t43.toNat)) = ji21 := shl_small hji21
    have hji21u : (IntKind.i64.wrap (2 ^ min t43.toNat 64)) = ji21 := by have h_ := hji21_; rw [Int.one_mul] at h_; exact h_
    have hji21v : t43 ≤ 64 → (IntKind.i64.wrap (2 ^ t43.toNat)) = ji21 := fun hle_ => by have h_ := hji21z hle_; rw [Int.one_mul] at h_; exact h_
    have hji21y : (wrap64 (1 * 2 ^ min t43.toNat 64)) = ji21 := (i64_w _).symm.trans hji21_
    have hji21x : t43 ≤ 64 → (wrap64 (1 * 2 ^ t43.toNat)) = ji21 := fun h_ => (i64_w _).symm.trans (hji21z h_)
    by_cases c22 : (ji21) = 0
    ·
     rw [if_pos c22] at H
     exact absurd H Z43
    rw [if_neg c22] at H
    have c22b0 : ((ji21) == 0) = false := beq_eq_false_iff_ne.mpr c22
    have c22b1 : ((ji21) != 0) = true := bne_iff_ne.mpr c22
    replace H := Option.bind_eq_some_iff.mp H
    obtain ⟨t52, A53, H⟩ := H
    try dsimp only at H
    have A23 := am A53
    clear A53
    have c24b0 := eq_true (of_decide_eq_true Z6 : 0 ≤ t43)
    obtain ⟨ji25, hji25⟩ : ∃ j_ : Int, (shr .i64 (rd l0 x30_1) t43) = j_ := ⟨_, rfl⟩
    replace H : (if 0 ≤ (wrap64 ((ji25) + x30_1)) then (if (wrap64 ((ji25) + x30_1)) < (x7_1.length : Int) then (Fk.l0 k1 l0 a1 t43 t52 (x7_1.set ((wrap64 ((ji25) + x30_1)) : Int).toNat true) l0 (l0.length : Int) (wrap64 (x30_1 + 1))) else (none)) else (none)) = some (r1, r2, r3, r4, r5, r6, r7) := by first | (rw [hji25] at H; exact H) | (simp only [hji25] at H ⊢; exact H)
    (try rw [hji25] at A23)
    have hji25_ : ((rd l0 x30_1) / 2 ^ min t43.toNat 64) = ji25 := hji25
    have hji25z : t43 ≤ 64 → ((rd l0 x30_1) / 2 ^ t43.toNat) = ji25 := shr_small hji25
    obtain ⟨ji26, hji26⟩ : ∃ j_ : Int, (wrap64 ((ji25) + x30_1)) = j_ := ⟨_, rfl⟩
    replace H : (if 0 ≤ (ji26) then (if (ji26) < (x7_1.length : Int) then (Fk.l0 k1 l0 a1 t43 t52 (x7_1.set ((ji26) : Int).toNat true) l0 (l0.length : Int) (wrap64 (x30_1 + 1))) else (none)) else (none)) = some (r1, r2, r3, r4, r5, r6, r7) := by first | (rw [hji26] at H; exact H) | (simp only [hji26] at H ⊢; exact H)
    (try rw [hji26] at A23)
    have hji26w : (IntKind.i64.wrap ((ji25) + x30_1)) = ji26 := (i64_w _).trans hji26
    by_cases c27 : 0 ≤ (ji26)
    rotate_left
    ·
     rw [if_neg c27] at H
     exact absurd H Z43
    rw [if_pos c27] at H
    have c27b0 := decide_eq_true c27
    clear c27
    by_cases c28 : (ji26) < (x7_1.length : Int)
    rotate_left
    ·
     rw [if_neg c28] at H
     exact absurd H Z43
    rw [if_pos c28] at H
    have c28b0 := decide_eq_true c28
    clear c28
    obtain ⟨y54, hy54⟩ : ∃ y_ : List Bool, y_ = (x7_1.set ((ji26) : Int).toNat true) := ⟨_, rfl⟩
    replace H : (Fk.l0 k1 l0 a1 t43 t52 y54 l0 (l0.length : Int) (wrap64 (x30_1 + 1))) = some (r1, r2, r3, r4, r5, r6, r7) := by first | (rw [hy54]; with_reducible exact H) | (have H2_ := (Option.bind_some _ _).symm.trans H; rw [hy54]; with_reducible exact H2_) | (have H2_ := (Option.bind_some _ _).symm.trans H; with_reducible exact H2_) | with_reducible exact H | (rw [hy54]; exact H) | exact H
    have Ny54 := am hy54
    clear hy54
    have H' := am H
    clear H
    have p55 : 0 ≤ (x30_1 : Int) := of_decide_eq_true Z6
    have q55 : x30_1 < (l0.length : Int) := of_decide_eq_true Z6
    obtain ⟨ad55, e55, hx55_0⟩ := Kd.at_int HR0.out x30_1 p55 q55
    cases e55
    replace hx55_0 := (HB.out.cell (World.block_lt_of_cell? w _ hx55_0)).trans hx55_0
    replace p55 := eq_true p55
    replace q55 := eq_true q55
    obtain ⟨Ao30, co30, eo30⟩ := Kd.R_slice HO_6.out
    subst eo30
    go_wp2_with (first | ((with_reducible refine gate_callee (f := 64) rfl ?_); refine goesL_ (some 44) rfl rfl Try.func64 Z112 rfl #[.slice Ao30 x6_1.length co30, .int .i64 (wrap64 (x30_1 * t43)), .int .i64 t43, .int .i64 (Int.tmod (rd l0 x30_1) (ji21))] rfl (by (try simp only [List.map_toArray, List.map_cons, List.map_nil]); first | done | (simp only [hji21]; rfl) | rfl | (simp only [List.length_drop, List.length_take]; rfl)) ?_; (with_reducible refine (Fx.calls k1 (fun k_ => some k_ = (.slice Ao30 x6_1.length co30 : Value).ownBlock) (.slice Ao30 x6_1.length co30) x6_1 (wrap64 (x30_1 * t43)) t43 (Int.tmod (rd l0 x30_1) (ji21)) t52 w _ ?side1 ?side2 A23.out).mono ?_); (case side1 => exact Z31); (case side2 => exact Kd.R_tight rfl HO_6.out); rintro e w31 ⟨rfl, hy0, hb, hkp⟩; refine ⟨_, rfl, ?_⟩; replace HO_7 := am (Kd.R_mono (ok' := fun k_ => some k_ ≠ (.slice Ao30 x6_1.length co30 : Value).ownBlock) (Kd.R_keptB (HO_7.out) hkp (fun k_ hk_ hs_ => (hk_) hs_)) (fun k_ hk_ => hk_.1)); replace BK47 := am (blk_kept (uK BK47) hkp (fun hs_ => (fun e_ => (Kd.R_ne HO_6.out BK47.out Z16) e_) hs_)); replace HO_6 := am (Kd.R_reok rfl hy0 (fun k_ e_ => HO_6.out.1 k_ e_)); replace HB := am (hb); (try clear hb); (try clear hkp); (try clear hy0); have p29 : 0 ≤ ((ji26) : Int) := of_decide_eq_true Z6; have q29 : ((ji26) : Int) < ((x7_1.length : Int) : Int) := of_decide_eq_true Z6; obtain ⟨go29, co29, eo29, gb29, gl29, cl29, HG29⟩ := Kd.R_form HO_7.out Z70; (first | cases eo29 | (injection eo29 with ea_ en_ ec_; (first | subst ea_ | (injection ea_ with ea_; subst ea_)); subst ec_; clear en_)); have GB29 := am gb29; have GG29 := am HG29; clear gb29 gl29 HG29; obtain ⟨hx29_0, hf29_0⟩ := Kd.R_celln false HO_7.out ((ji26) : Int) p29 q29; replace p29 := eq_true p29; replace q29 := eq_true q29; obtain ⟨hy32_, hz32_⟩ := Kd.R_celln false HO_7.out ((ji26) : Int) (of_decide_eq_true Z6) (of_decide_eq_true Z6); have HP32 := Kd.R_putg HO_7.out ((ji26) : Int) true) | ((with_reducible refine gate_store (t := 4) (p := 51) rfl ?_); refine store_event (t := 4) (p := 51) (v := ?vo_w33) (w1 := (w31.setCell ⟨go29, ((ji26) : Int).toNat, none⟩ (.bool true))) ?hg ?ho ?hn ?hr ?_; (case ho => rfl); (case hg => rfl); (case hn => rfl); (case hr => exact Z111); intro w33 hw; have hg : w31.grownBy w33 (some go29) := (by rw [hw]; exact HP32.2); have hp_ : Kd.R Kd.bool 4 w33 w.heap.size (fun k_ => some k_ ≠ (.slice Ao30 x6_1.length co30 : Value).ownBlock) (.slice (some ⟨go29, 0, none⟩) x7_1.length co29) y54 := (by rw [hw, Ny54.out]; exact HP32.1); clear HP32; replace HO_6 := am (Kd.R_after (v := (.slice (some ⟨go29, 0, none⟩) x7_1.length co29)) (v1 := (.slice (some ⟨go29, 0, none⟩) x7_1.length co29)) (ok := (fun _ => True)) (by (with_reducible repeat (first | apply Kd.R_alloc | apply Kd.R_drewN | apply Kd.R_drew)); exact Kd.R_mono HO_6.out (fun _ hk => ⟨trivial, hk⟩)) hg (.inl rfl)); replace BK47 := am (blk_grown (g := gb47) (o := .cells #[.int .i64 0, .int .i64 0, .int .i64 0, .int .i64 0, .slice none 0 0, .int .i64 0, .slice none 0 0] 28 (0, 0)) (uK BK47) hg (Kd.R_ne HO_7.out BK47.out Z16)); replace HO_7 := am (hp_); replace HB := am ((by rw [hw]; exact below_set (HB.out) GB29.out : Below w.heap.size w w33)); clear hg hw hp_))
    go_roundg k1
    case measure => have := HK1.out; omega
    case rel => exact ⟨(t52), (y54), (wrap64 (x30_1 + 1)), Z110, H', ⟨by have := HK1.out; omega⟩, ⟨by (with_reducible repeat (first | apply Kd.R_alloc | apply Kd.R_drewN | apply Kd.R_drew)); exact Kd.R_mono HO_6.out (fun _ hk => hk.2)⟩, ⟨by (with_reducible repeat (first | apply Kd.R_alloc | apply Kd.R_drewN | apply Kd.R_drew)); exact HO_7.out⟩, ⟨pb BK47⟩, ⟨Z31⟩⟩
   rw [if_neg c17] at H
   have c17b0 := decide_eq_false c17
   clear c17
   replace H := Option.bind_eq_some_iff.mp H
   obtain ⟨⟨t53, t56⟩, A57, H⟩ := H
   try dsimp only at H
   have A34 := am A57
   clear A57
   replace H := Option.bind_eq_some_iff.mp H
   obtain ⟨⟨t58, t59⟩, A60, H⟩ := H
   try dsimp only at H
   have A35 := am A60
   clear A60
   simp only [Option.some.injEq, Prod.mk.injEq] at H
   obtain ⟨rfl, rfl, rfl, rfl, rfl, rfl, rfl⟩ := H
   obtain ⟨Ao36, co36, eo36⟩ := Kd.R_slice HO_6.out
   subst eo36
   go_wp2_with (first | ((with_reducible refine gate_callee (f := 46) rfl ?_); refine gL 58 rfl Try.func46 #[.slice Ao36 x6_1.length co36] ?_; (with_reducible refine (Fm.calls k1 _ _ x6_1 t53 t56 _ ?side1 ?side2 A34.out).mono ?_); (case side1 => exact uD HO_6); (case side2 => exact (Kd.R_reads' HO_6.out).2.1); rintro e w37 ⟨v62, rfl, ho0, hb⟩; refine ⟨_, rfl, ?_⟩; replace HO_6 := rB HO_6 hb; replace HO_7 := rB HO_7 hb; have HO63 := am (Kd.R_lower ho0 (below_size Z31)); replace BK47 := kB BK47 hb; replace HB := am (below_step Z31 hb); (try clear hb); (try clear hb2); (try clear hk); (try clear hi); (try clear ho0); obtain ⟨Ao38, co38, eo38⟩ := Kd.R_slice HO_7.out; subst eo38) | ((with_reducible refine gate_callee (f := 46) rfl ?_); refine gL 60 rfl Try.func46 #[.slice Ao38 x7_1.length co38] ?_; (with_reducible refine (Fm.calls k1 _ _ x7_1 t58 t59 _ ?side1 ?side2 A35.out).mono ?_); (case side1 => exact uD HO_7); (case side2 => exact (Kd.R_reads' HO_7.out).2.1); rintro e w39 ⟨v65, rfl, ho0, hb⟩; refine ⟨_, rfl, ?_⟩; replace HO_6 := rB HO_6 hb; replace HO_7 := rB HO_7 hb; have HO66 := am (Kd.R_lower (Kd.R_new' ho0 (Kd.R_lt (uR HO63))) (below_size Z31)); replace HO63 := am (Kd.R_elder' (uR HO63) (Kd.R_base ho0) hb); replace BK47 := kB BK47 hb; replace HB := am (below_step Z31 hb); (try clear hb); (try clear hb2); (try clear hk); (try clear hi); (try clear ho0); obtain ⟨Ao40, co40, eo40⟩ := Kd.R_slice HO66.out; subst eo40; obtain ⟨Ao41, co41, eo41⟩ := Kd.R_slice HO63.out; subst eo41; obtain ⟨hcz42_0, hcz42_1, hcz42_2, hcz42_3, hcz42_4, hcz42_5, hcz42_6, hfz42_0, hfz42_1, hfz42_2, hfz42_3, hfz42_4, hfz42_5, hfz42_6⟩ := ce7 BK47))
   refine bodyPost_ret (results_cell_row rfl _ _ gb47 28 #[.int .i64 (l0.length : Int), .int .i64 a1, .int .i64 t43, .int .i64 t53, .slice Ao41 t56.length co41, .int .i64 t58, .slice Ao40 t59.length co40] (0, 0) _ rfl (pT (pp 6 (pp 5 (pp 4 (pp 3 (pp 2 (pp 1 (pp 0 (pb BK47))))))))) Try.underlying28 rfl Z112) rfl ?_
   exact ⟨_, _, by first | rfl | (simp [errW_none, errW_some] <;> rfl) | (simp only [← hji4, ← hji8, ← hji9]; first | rfl | (simp [errW_none, errW_some] <;> rfl)) | (simp [*, errW_none, errW_some] <;> rfl), by (with_reducible repeat (first | apply Kd.R_alloc | apply Kd.R_drewN | apply Kd.R_drew)); exact Kd.R_mono (fT HO63 BK47 Z16) (fun _ hk => hk.1.2), by (with_reducible repeat (first | apply Kd.R_alloc | apply Kd.R_drewN | apply Kd.R_drew)); exact Kd.R_mono (fT HO66 BK47 Z16) (fun _ hk => hk.1.2), Z31⟩

/-- A state of type 47 at block g of W; what its slices lead to came in by w0. -/
def IsS47 (w0 W : World) (g : Nat) (f0 : List Int) (f1 : Int) (f2 : Int) : Prop := ∃ A0 c0, W.heap[g]? = some (.cells #[.slice A0 f0.length c0, .int .i64 f1, .int .u64 f2] 47 (0, 0)) ∧ w0.heap.size ≤ g ∧ Kd.C (Kd.int .u8) w0 A0 f0.length f0
theorem IsS47.grown {w0 W : World} {g : Nat} {f0 : List Int} {f1 : Int} {f2 : Int} {W1 : World} {row : Option Nat} (h : IsS47 w0 W g f0 f1 f2) (hw : W.grownBy W1 row) (hne : some g ≠ row) : IsS47 w0 W1 g f0 f1 f2 := by
 obtain ⟨A0, c0, hb, hg, hr0⟩ := h
 exact ⟨A0, c0, blk_grown hb hw hne, hg, hr0⟩
theorem IsS47.own_neN {w0 W : World} {g : Nat} {f0 : List Int} {f1 : Int} {f2 : Int} {α : Type} {d : Kd α} {e : Nat} {base : Nat} {ok : Nat → Prop} {v : Value} {xs : List α} (h : IsS47 w0 W g f0 f1 f2) (ho : Kd.N d e W base ok v xs) (ht : e ≠ 47) : some g ≠ v.ownBlock := by
 obtain ⟨A0, c0, hb, hg, hr0⟩ := h
 exact Kd.N_ne ho hb ht
theorem IsS47.fresh {w0 W : World} {g : Nat} {f0 : List Int} {f1 : Int} {f2 : Int} (h : IsS47 w0 W g f0 f1 f2) : ∀ k, W.heap.size ≤ k → k ≠ g := by
 obtain ⟨A0, c0, hb, hg, hr0⟩ := h
 exact Kd.freshB hb
theorem IsS47.kept {w0 W : World} {g : Nat} {f0 : List Int} {f1 : Int} {f2 : Int} {W1 : World} {S : Nat → Prop} (h : IsS47 w0 W g f0 f1 f2) (hk : Kept W W1 S) (hne : ¬ S g) : IsS47 w0 W1 g f0 f1 f2 := by
 obtain ⟨A0, c0, hb, hg, hr0⟩ := h
 exact ⟨A0, c0, blk_kept hb hk hne, hg, hr0⟩
theorem IsS47.below {w0 W : World} {g : Nat} {f0 : List Int} {f1 : Int} {f2 : Int} {W1 : World} (h : IsS47 w0 W g f0 f1 f2) (hw : Below W.heap.size W W1) : IsS47 w0 W1 g f0 f1 f2 := h.grown (grown_of_below hw none) Z43
theorem IsS47.alloc {w0 W : World} {g : Nat} {f0 : List Int} {f1 : Int} {f2 : Int} (h : IsS47 w0 W g f0 f1 f2) (o : Obj) : IsS47 w0 (W.alloc o) g f0 f1 f2 := h.below (below_alloc (Below.refl _ _) o)
theorem IsS47.drewN {w0 W : World} {g : Nat} {f0 : List Int} {f1 : Int} {f2 : Int} (h : IsS47 w0 W g f0 f1 f2) (m : Nat) : IsS47 w0 (W.drewN m) g f0 f1 f2 := h
theorem IsS47.drew {w0 W : World} {g : Nat} {f0 : List Int} {f1 : Int} {f2 : Int} (h : IsS47 w0 W g f0 f1 f2) : IsS47 w0 W.drew g f0 f1 f2 := h
theorem IsS47.at_ {w0 W : World} {g : Nat} {f0 : List Int} {f1 : Int} {f2 : Int} {w' : World} {m : Nat} (hq : W.drewN m = w') (h : IsS47 w0 W g f0 f1 f2) : IsS47 w0 w' g f0 f1 f2 := by subst hq; exact IsS47.drewN h m
theorem IsS47.apart {w0 W : World} {g : Nat} {f0 : List Int} {f1 : Int} {f2 : Int} {α : Type} {d : Kd α} {e : Nat} {base : Nat} {ok : Nat → Prop} {v : Value} {xs : List α} (h : IsS47 w0 W g f0 f1 f2) (ho : d.R e W base ok v xs) (ht : ∀ q, q ∈ e :: d.E → q ≠ 47) : d.R e W base (fun k => ok k ∧ k ≠ g) v xs := by
 obtain ⟨A0, c0, hb, hg, hr0⟩ := h
 exact Kd.R_types ho hb ht
theorem IsS47.own_ne {w0 W : World} {g : Nat} {f0 : List Int} {f1 : Int} {f2 : Int} {α : Type} {d : Kd α} {e : Nat} {base : Nat} {ok : Nat → Prop} {v : Value} {xs : List α} (h : IsS47 w0 W g f0 f1 f2) (ho : d.R e W base ok v xs) (ht : e ≠ 47) : some g ≠ v.ownBlock := by
 obtain ⟨A0, c0, hb, hg, hr0⟩ := h
 exact Kd.R_ne ho hb ht
theorem IsS47.apartQ {w0 W : World} {g : Nat} {f0 : List Int} {f1 : Int} {f2 : Int} {α : Type} {d : Kd α} {e : Nat} {base : Nat} {ok : Nat → Prop} {v : Value} {xs : List α} (h : IsS47 w0 W g f0 f1 f2) (ho : d.Q e W base ok v xs) (ht : ∀ q, q ∈ e :: d.E → q ≠ 47) : d.Q e W base (fun k => ok k ∧ k ≠ g) v xs := by
 obtain ⟨A0, c0, hb, hg, hr0⟩ := h
 exact Kd.Q_types ho hb ht
theorem IsS47.own_neQ {w0 W : World} {g : Nat} {f0 : List Int} {f1 : Int} {f2 : Int} {α : Type} {d : Kd α} {e : Nat} {base : Nat} {ok : Nat → Prop} {v : Value} {xs : List α} (h : IsS47 w0 W g f0 f1 f2) (ho : d.Q e W base ok v xs) (ht : e ≠ 47) : some g ≠ v.ownBlock := by
 obtain ⟨A0, c0, hb, hg, hr0⟩ := h
 exact Kd.Q_ne ho hb ht
theorem IsS47.apartS {w0 W : World} {g : Nat} {f0 : List Int} {f1 : Int} {f2 : Int} {α : Type} {d : Kd α} {e : Nat} {base : Nat} {ok : Nat → Prop} {v : Value} {xs : List α} (h : IsS47 w0 W g f0 f1 f2) (ho : d.S e W base ok v xs) (ht : ∀ q, q ∈ e :: d.E → q ≠ 47) : d.S e W base (fun k => ok k ∧ k ≠ g) v xs := by
 obtain ⟨A0, c0, hb, hg, hr0⟩ := h
 exact Kd.S_types ho hb ht
theorem IsS47.own_neS {w0 W : World} {g : Nat} {f0 : List Int} {f1 : Int} {f2 : Int} {α : Type} {d : Kd α} {e : Nat} {base : Nat} {ok : Nat → Prop} {v : Value} {xs : List α} (h : IsS47 w0 W g f0 f1 f2) (ho : d.S e W base ok v xs) (ht : e ≠ 47) : some g ≠ v.ownBlock := by
 obtain ⟨A0, c0, hb, hg, hr0⟩ := h
 exact Kd.S_ne ho hb ht
theorem IsS47.lt {w0 W : World} {g : Nat} {f0 : List Int} {f1 : Int} {f2 : Int} (h : IsS47 w0 W g f0 f1 f2) : g < W.heap.size := by
 obtain ⟨A0, c0, hb, hg, hr0⟩ := h
 exact blk_lt hb
theorem IsS47.ge {w0 W : World} {g : Nat} {f0 : List Int} {f1 : Int} {f2 : Int} (h : IsS47 w0 W g f0 f1 f2) : w0.heap.size ≤ g := by
 obtain ⟨A0, c0, hb, hg, hr0⟩ := h
 exact hg
theorem IsS47.ne_blk {w0 W : World} {g : Nat} {f0 : List Int} {f1 : Int} {f2 : Int} {a : Nat} {cs : Array Value} {t : TypeId} {fr : Nat × Nat} (h : IsS47 w0 W g f0 f1 f2) (hb2 : W.heap[a]? = some (.cells cs t fr)) (ht : t ≠ 47) : g ≠ a := by
 obtain ⟨A0, c0, hb, hg, hr0⟩ := h
 rintro rfl
 rw [hb] at hb2
 injection hb2 with hb2
 injection hb2 with _ ht2
 exact ht ht2.symm
theorem IsS47.far {w0 W : World} {g : Nat} {f0 : List Int} {f1 : Int} {f2 : Int} {p : Addr} (h : IsS47 w0 W g f0 f1 f2) (hne : g ≠ p.block) (u : Value) : IsS47 w0 (W.setCell p u) g f0 f1 f2 := by
 obtain ⟨A0, c0, hb, hg, hr0⟩ := h
 exact ⟨A0, c0, blk_far hb hne u, hg, hr0⟩
theorem cellS47_0 {W : World} {g : Nat} {A0 : Option Addr} {c0 : Nat} {f0 : List Int} {f1 : Int} {f2 : Int} (h : W.heap[g]? = some (.cells #[.slice A0 f0.length c0, .int .i64 f1, .int .u64 f2] 47 (0, 0))) : W.cell? ⟨g, 0, none⟩ = some (.slice A0 f0.length c0) := (blk_cell h 0).trans rfl
theorem cellS47_1 {W : World} {g : Nat} {A0 : Option Addr} {c0 : Nat} {f0 : List Int} {f1 : Int} {f2 : Int} (h : W.heap[g]? = some (.cells #[.slice A0 f0.length c0, .int .i64 f1, .int .u64 f2] 47 (0, 0))) : W.cell? ⟨g, 1, none⟩ = some (.int .i64 f1) := (blk_cell h 1).trans rfl
theorem IsS47.set_1 {w0 W : World} {g : Nat} {f0 : List Int} {f1 : Int} {f2 : Int} (h : IsS47 w0 W g f0 f1 f2) (x : Int) : IsS47 w0 (W.setCell ⟨g, 1, none⟩ (.int .i64 x)) g f0 x f2 := by
 obtain ⟨A0, c0, hb, hg, hr0⟩ := h
 exact ⟨A0, c0, by simpa using blk_set hb 1 (.int .i64 x), hg, hr0⟩
theorem cellS47_2 {W : World} {g : Nat} {A0 : Option Addr} {c0 : Nat} {f0 : List Int} {f1 : Int} {f2 : Int} (h : W.heap[g]? = some (.cells #[.slice A0 f0.length c0, .int .i64 f1, .int .u64 f2] 47 (0, 0))) : W.cell? ⟨g, 2, none⟩ = some (.int .u64 f2) := (blk_cell h 2).trans rfl
theorem IsS47.set_2 {w0 W : World} {g : Nat} {f0 : List Int} {f1 : Int} {f2 : Int} (h : IsS47 w0 W g f0 f1 f2) (x : Int) : IsS47 w0 (W.setCell ⟨g, 2, none⟩ (.int .u64 x)) g f0 f1 x := by
 obtain ⟨A0, c0, hb, hg, hr0⟩ := h
 exact ⟨A0, c0, by simpa using blk_set hb 2 (.int .u64 x), hg, hr0⟩
theorem IsS47.new (w0 W : World) (A0 : Option Addr) (c0 : Nat) (f0 : List Int) (f1 : Int) (f2 : Int) (hB : Below w0.heap.size w0 W) (hr0 : Kd.C (Kd.int .u8) w0 A0 f0.length f0) : IsS47 w0 (W.alloc (.cells #[.slice A0 f0.length c0, .int .i64 f1, .int .u64 f2] 47)) W.heap.size f0 f1 f2 := ⟨A0, c0, by simpa using heap_alloc_new W _, hB.size, hr0⟩

/-! ### Fha: function 75 -/
def Fha.f (s0_0 : List Int) (s0_1 : Int) (s0_2 : Int) : Option (Int × Int × Int) := if s0_1 < (s0_0.length : Int) then (if 0 ≤ s0_1 then (if (wrap64 (s0_1 + 1)) ≤ (s0_0.length : Int) then (some (wrap64 (rd s0_0 s0_1), wrap64 (s0_1 + 1), IntKind.u64.wrap ((IntKind.u64.wrap ((IntKind.u64.wrap (s0_2 * 6364136223846793005)) + (IntKind.u64.wrap (wrap64 (rd s0_0 s0_1))))) + 1442695040888963407))) else (some (wrap64 (Go.bits .and .u64 ((IntKind.u64.wrap ((IntKind.u64.wrap ((IntKind.u64.wrap (s0_2 * 6364136223846793005)) + (IntKind.u64.wrap (wrap64 (rd s0_0 s0_1))))) + 1442695040888963407)) / 1099511627776) 255), wrap64 (s0_1 + 1), IntKind.u64.wrap ((IntKind.u64.wrap ((IntKind.u64.wrap (s0_2 * 6364136223846793005)) + (IntKind.u64.wrap (wrap64 (rd s0_0 s0_1))))) + 1442695040888963407)))) else (none)) else (if (wrap64 (s0_1 + 1)) ≤ (s0_0.length : Int) then (some (0, wrap64 (s0_1 + 1), IntKind.u64.wrap ((IntKind.u64.wrap (IntKind.u64.wrap (s0_2 * 6364136223846793005))) + 1442695040888963407))) else (some (wrap64 (Go.bits .and .u64 ((IntKind.u64.wrap ((IntKind.u64.wrap (IntKind.u64.wrap (s0_2 * 6364136223846793005))) + 1442695040888963407)) / 1099511627776) 255), wrap64 (s0_1 + 1), IntKind.u64.wrap ((IntKind.u64.wrap (IntKind.u64.wrap (s0_2 * 6364136223846793005))) + 1442695040888963407))))
theorem Fha.calls (g : Nat) (s0_0 : List Int) (s0_1 : Int) (s0_2 : Int) (r1 : Int) (r2 : Int) (r3 : Int) (w0 w : World) (hI : IsS47 w0 w g s0_0 s0_1 s0_2) (hB : Below w0.heap.size w0 w) (h : Fha.f s0_0 s0_1 s0_2 = some (r1, r2, r3)) :
  Calls Try.prog 75 #[.pointer (some ⟨g, 0, none⟩)] w fun e w' => e = .returned (.int .i64 r1) ∧ IsS47 w0 w' g s0_0 r2 r3 ∧ Below w0.heap.size w0 w' ∧ KeepBut w w' g none := by
 have HI0 := am hI
 have HK := am (KeepBut.refl w g none)
 have HL := am hB.size
 clear hI
 have HW0 := am hB.size
 have HB := am hB
 clear hB
 have H : (if s0_1 < (s0_0.length : Int) then (if 0 ≤ s0_1 then (if (wrap64 (s0_1 + 1)) ≤ (s0_0.length : Int) then (some (wrap64 (rd s0_0 s0_1), wrap64 (s0_1 + 1), IntKind.u64.wrap ((IntKind.u64.wrap ((IntKind.u64.wrap (s0_2 * 6364136223846793005)) + (IntKind.u64.wrap (wrap64 (rd s0_0 s0_1))))) + 1442695040888963407))) else (some (wrap64 (Go.bits .and .u64 ((IntKind.u64.wrap ((IntKind.u64.wrap ((IntKind.u64.wrap (s0_2 * 6364136223846793005)) + (IntKind.u64.wrap (wrap64 (rd s0_0 s0_1))))) + 1442695040888963407)) / 1099511627776) 255), wrap64 (s0_1 + 1), IntKind.u64.wrap ((IntKind.u64.wrap ((IntKind.u64.wrap (s0_2 * 6364136223846793005)) + (IntKind.u64.wrap (wrap64 (rd s0_0 s0_1))))) + 1442695040888963407)))) else (none)) else (if (wrap64 (s0_1 + 1)) ≤ (s0_0.length : Int) then (some (0, wrap64 (s0_1 + 1), IntKind.u64.wrap ((IntKind.u64.wrap (IntKind.u64.wrap (s0_2 * 6364136223846793005))) + 1442695040888963407))) else (some (wrap64 (Go.bits .and .u64 ((IntKind.u64.wrap ((IntKind.u64.wrap (IntKind.u64.wrap (s0_2 * 6364136223846793005))) + 1442695040888963407)) / 1099511627776) 255), wrap64 (s0_1 + 1), IntKind.u64.wrap ((IntKind.u64.wrap (IntKind.u64.wrap (s0_2 * 6364136223846793005))) + 1442695040888963407))))) = some (r1, r2, r3) := h
 clear h
 by_cases c2 : s0_1 < (s0_0.length : Int)
 rotate_left
 ·
  rw [if_neg c2] at H
  have c2b0 := decide_eq_false c2
  clear c2
  by_cases c7 : (wrap64 (s0_1 + 1)) ≤ (s0_0.length : Int)
  ·
   rw [if_pos c7] at H
   have c7b0 := decide_eq_true c7
   clear c7
   simp only [Option.some.injEq, Prod.mk.injEq] at H
   obtain ⟨rfl, rfl, rfl⟩ := H
   obtain ⟨ASz8_0, cSz8_0, HGz8, hgz8, HSz8_0⟩ := HI0.out
   have hcz8_0 := cellS47_0 HGz8
   have hcz8_1 := cellS47_1 HGz8
   have hcz8_2 := cellS47_2 HGz8
   have hfz8_1 := blk_frozen HGz8 1
   have hfz8_2 := blk_frozen HGz8 2
   clear HGz8 hgz8
   go_enter Try.func75, Try.ntmps75
   go_wp2
   repeat (go_quiet (fail); try go_wp2)
   go_ret
   exact ⟨Z109, Z1, Z4, Z2⟩
  rw [if_neg c7] at H
  have c7b0 := decide_eq_false c7
  clear c7
  simp only [Option.some.injEq, Prod.mk.injEq] at H
  obtain ⟨rfl, rfl, rfl⟩ := H
  obtain ⟨ASz9_0, cSz9_0, HGz9, hgz9, HSz9_0⟩ := HI0.out
  have hcz9_0 := cellS47_0 HGz9
  have hcz9_1 := cellS47_1 HGz9
  have hcz9_2 := cellS47_2 HGz9
  have hfz9_1 := blk_frozen HGz9 1
  have hfz9_2 := blk_frozen HGz9 2
  clear HGz9 hgz9
  go_enter Try.func75, Try.ntmps75
  go_wp2
  repeat (go_quiet (fail); try go_wp2)
  go_ret
  exact ⟨Z109, Z1, Z4, Z2⟩
 rw [if_pos c2] at H
 have c2b0 := decide_eq_true c2
 clear c2
 by_cases c3 : 0 ≤ s0_1
 rotate_left
 ·
  rw [if_neg c3] at H
  exact absurd H Z43
 rw [if_pos c3] at H
 have c3b0 := decide_eq_true c3
 clear c3
 by_cases c4 : (wrap64 (s0_1 + 1)) ≤ (s0_0.length : Int)
 ·
  rw [if_pos c4] at H
  have c4b0 := decide_eq_true c4
  clear c4
  simp only [Option.some.injEq, Prod.mk.injEq] at H
  obtain ⟨rfl, rfl, rfl⟩ := H
  obtain ⟨ASz5_0, cSz5_0, HGz5, hgz5, HSz5_0⟩ := HI0.out
  have hcz5_0 := cellS47_0 HGz5
  have hcz5_1 := cellS47_1 HGz5
  have hcz5_2 := cellS47_2 HGz5
  have hfz5_1 := blk_frozen HGz5 1
  have hfz5_2 := blk_frozen HGz5 2
  clear HGz5 hgz5
  have p10 : 0 ≤ (s0_1 : Int) := of_decide_eq_true Z6
  have q10 : s0_1 < (s0_0.length : Int) := of_decide_eq_true Z6
  obtain ⟨ad10, e10, hx10_0⟩ := Kd.at_int HSz5_0 s0_1 p10 q10
  cases e10
  replace hx10_0 := pw_cell_below HB.out hx10_0
  replace p10 := eq_true p10
  replace q10 := eq_true q10
  go_enter Try.func75, Try.ntmps75
  go_wp2
  repeat (go_quiet (fail); try go_wp2)
  go_ret
  exact ⟨Z109, Z1, Z4, Z2⟩
 rw [if_neg c4] at H
 have c4b0 := decide_eq_false c4
 clear c4
 simp only [Option.some.injEq, Prod.mk.injEq] at H
 obtain ⟨rfl, rfl, rfl⟩ := H
 obtain ⟨ASz6_0, cSz6_0, HGz6, hgz6, HSz6_0⟩ := HI0.out
 have hcz6_0 := cellS47_0 HGz6
 have hcz6_1 := cellS47_1 HGz6
 have hcz6_2 := cellS47_2 HGz6
 have hfz6_1 := blk_frozen HGz6 1
 have hfz6_2 := blk_frozen HGz6 2
 clear HGz6 hgz6
 have p10 : 0 ≤ (s0_1 : Int) := of_decide_eq_true Z6
 have q10 : s0_1 < (s0_0.length : Int) := of_decide_eq_true Z6
 obtain ⟨ad10, e10, hx10_0⟩ := Kd.at_int HSz6_0 s0_1 p10 q10
 cases e10
 replace hx10_0 := pw_cell_below HB.out hx10_0
 replace p10 := eq_true p10
 replace q10 := eq_true q10
 go_enter Try.func75, Try.ntmps75
 go_wp2
 repeat (go_quiet (fail); try go_wp2)
 go_ret
 exact ⟨Z109, Z1, Z4, Z2⟩

/-! ### Fd: function 44 -/
def Fd.f (s0_0 : List Int) (s0_1 : Int) (s0_2 : Int) (a1 : Int) : Option (Int × Int × Int) := if a1 ≤ 1 then (some (0, s0_1, s0_2)) else ((Fha.f s0_0 s0_1 s0_2).bind fun bt3 => (if a1 > 200 then ((Fha.f s0_0 bt3.2.1 bt3.2.2).bind fun bt4 => (if a1 = 0 then (none) else (some (Int.tmod (wrap64 ((wrap64 (bt3.1 * 256)) + bt4.1)) a1, bt4.2.1, bt4.2.2)))) else (if a1 = 0 then (none) else (some (Int.tmod bt3.1 a1, bt3.2.1, bt3.2.2)))))
theorem Fd.calls (g : Nat) (s0_0 : List Int) (s0_1 : Int) (s0_2 : Int) (a1 : Int) (r1 : Int) (r2 : Int) (r3 : Int) (w0 w : World) (hI : IsS47 w0 w g s0_0 s0_1 s0_2) (hB : Below w0.heap.size w0 w) (h : Fd.f s0_0 s0_1 s0_2 a1 = some (r1, r2, r3)) :
  Calls Try.prog 44 #[.pointer (some ⟨g, 0, none⟩), .int .i64 a1] w fun e w' => e = .returned (.int .i64 r1) ∧ IsS47 w0 w' g s0_0 r2 r3 ∧ Below w0.heap.size w0 w' ∧ KeepBut w w' g none := by
 have HI0 := am hI
 have HK := am (KeepBut.refl w g none)
 have HL := am hB.size
 clear hI
 have HW0 := am hB.size
 have HB := am hB
 clear hB
 have H : (if a1 ≤ 1 then (some (0, s0_1, s0_2)) else ((Fha.f s0_0 s0_1 s0_2).bind fun bt12 => (if a1 > 200 then ((Fha.f s0_0 bt12.2.1 bt12.2.2).bind fun bt13 => (if a1 = 0 then (none) else (some (Int.tmod (wrap64 ((wrap64 (bt12.1 * 256)) + bt13.1)) a1, bt13.2.1, bt13.2.2)))) else (if a1 = 0 then (none) else (some (Int.tmod bt12.1 a1, bt12.2.1, bt12.2.2)))))) = some (r1, r2, r3) := h
 clear h
 by_cases c3 : a1 ≤ 1
 ·
  rw [if_pos c3] at H
  have c3b0 := decide_eq_true c3
  clear c3
  simp only [Option.some.injEq, Prod.mk.injEq] at H
  obtain ⟨rfl, rfl, rfl⟩ := H
  go_enter Try.func44, Try.ntmps44
  go_wp2
  go_ret
  exact ⟨Z109, Z1, Z4, Z2⟩
 rw [if_neg c3] at H
 have c3b0 := decide_eq_false c3
 clear c3
 replace H := Option.bind_eq_some_iff.mp H
 obtain ⟨⟨t12, t14, t15⟩, A40, H⟩ := H
 try dsimp only at H
 have A4 := am A40
 clear A40
 by_cases c5 : a1 > 200
 rotate_left
 ·
  rw [if_neg c5] at H
  have c5b0 := decide_eq_false c5
  clear c5
  by_cases c10 : a1 = 0
  ·
   rw [if_pos c10] at H
   exact absurd H Z43
  rw [if_neg c10] at H
  have c10b0 : (a1 == 0) = false := beq_eq_false_iff_ne.mpr c10
  have c10b1 : (a1 != 0) = true := bne_iff_ne.mpr c10
  simp only [Option.some.injEq, Prod.mk.injEq] at H
  obtain ⟨rfl, rfl, rfl⟩ := H
  go_enter Try.func44, Try.ntmps44
  go_wp2_with (first | ((with_reducible refine gate_callee (f := 75) rfl ?_); refine gL 9 rfl Try.func75 #[.pointer (some ⟨g, 0, none⟩)] ?_; (with_reducible refine (Fha.calls g s0_0 s0_1 s0_2 t12 t14 t15 w0 _ ?side1 ?side2 A4.out).mono ?_); (case side1 => exact Z1); (case side2 => exact Z4); rintro e w11 ⟨rfl, hi, hb, hk⟩; refine ⟨_, rfl, ?_⟩; replace HK := am (KeepBut.trans Z2 hk (.inl rfl)); replace HB := am (hb); replace HI0 := am (hi); (try clear hb); (try clear hb2); (try clear hk); (try clear hi)))
  go_ret
  exact ⟨Z109, Z1, Z4, Z2⟩
 rw [if_pos c5] at H
 have c5b0 := decide_eq_true c5
 clear c5
 replace H := Option.bind_eq_some_iff.mp H
 obtain ⟨⟨t13, t16, t17⟩, A60, H⟩ := H
 try dsimp only at H
 have A6 := am A60
 clear A60
 by_cases c7 : a1 = 0
 ·
  rw [if_pos c7] at H
  exact absurd H Z43
 rw [if_neg c7] at H
 have c7b0 : (a1 == 0) = false := beq_eq_false_iff_ne.mpr c7
 have c7b1 : (a1 != 0) = true := bne_iff_ne.mpr c7
 simp only [Option.some.injEq, Prod.mk.injEq] at H
 obtain ⟨rfl, rfl, rfl⟩ := H
 go_enter Try.func44, Try.ntmps44
 go_wp2_with (first | ((with_reducible refine gate_callee (f := 75) rfl ?_); refine gL 9 rfl Try.func75 #[.pointer (some ⟨g, 0, none⟩)] ?_; (with_reducible refine (Fha.calls g s0_0 s0_1 s0_2 t12 t14 t15 w0 _ ?side1 ?side2 A4.out).mono ?_); (case side1 => exact Z1); (case side2 => exact Z4); rintro e w8 ⟨rfl, hi, hb, hk⟩; refine ⟨_, rfl, ?_⟩; replace HK := am (KeepBut.trans Z2 hk (.inl rfl)); replace HB := am (hb); replace HI0 := am (hi); (try clear hb); (try clear hb2); (try clear hk); (try clear hi)) | ((with_reducible refine gate_callee (f := 75) rfl ?_); refine gL 15 rfl Try.func75 #[.pointer (some ⟨g, 0, none⟩)] ?_; (with_reducible refine (Fha.calls g s0_0 t14 t15 t13 t16 t17 w0 _ ?side1 ?side2 A6.out).mono ?_); (case side1 => exact Z1); (case side2 => exact Z4); rintro e w9 ⟨rfl, hi, hb, hk⟩; refine ⟨_, rfl, ?_⟩; replace HK := am (KeepBut.trans Z2 hk (.inl rfl)); replace HB := am (hb); replace HI0 := am (hi); (try clear hb); (try clear hb2); (try clear hk); (try clear hi)))
 go_ret
 exact ⟨Z109, Z1, Z4, Z2⟩

/-! ### FY: function 72 -/
def FY.f (s0_0 : List Int) (s0_1 : Int) (s0_2 : Int) (l1 : List Int) : Option (Int × Int × Int) := (Fd.f s0_0 s0_1 s0_2 (l1.length : Int)).bind fun bt3 => (if 0 ≤ bt3.1 then (if bt3.1 < (l1.length : Int) then (some (rd l1 bt3.1, bt3.2.1, bt3.2.2)) else (none)) else (none))
theorem FY.calls (g : Nat) (s0_0 : List Int) (s0_1 : Int) (s0_2 : Int) (A1 : Option Addr) (c1 : Nat) (l1 : List Int) (r1 : Int) (r2 : Int) (r3 : Int) (w0 w : World) (hI : IsS47 w0 w g s0_0 s0_1 s0_2) (hB : Below w0.heap.size w0 w) (hr1 : Kd.C (Kd.int .i64) w A1 l1.length l1) (hc1 : l1.length ≤ c1) (hf1 : ∀ ad, A1 = some ad → 0 < l1.length → ad.block ≠ g) (h : FY.f s0_0 s0_1 s0_2 l1 = some (r1, r2, r3)) :
  Calls Try.prog 72 #[.pointer (some ⟨g, 0, none⟩), .slice A1 l1.length c1] w fun e w' => e = .returned (.int .i64 r1) ∧ IsS47 w0 w' g s0_0 r2 r3 ∧ Below w0.heap.size w0 w' ∧ KeepBut w w' g none := by
 have HR1 := am hr1
 have HC1 := am hc1
 clear hr1 hc1
 have HI0 := am hI
 have HK := am (KeepBut.refl w g none)
 have HL := am hB.size
 clear hI
 have HW0 := am hB.size
 have HB := am hB
 clear hB
 have H : ((Fd.f s0_0 s0_1 s0_2 (l1.length : Int)).bind fun bt7 => (if 0 ≤ bt7.1 then (if bt7.1 < (l1.length : Int) then (some (rd l1 bt7.1, bt7.2.1, bt7.2.2)) else (none)) else (none))) = some (r1, r2, r3) := h
 clear h
 replace H := Option.bind_eq_some_iff.mp H
 obtain ⟨⟨t7, t8, t9⟩, A30, H⟩ := H
 try dsimp only at H
 have A3 := am A30
 clear A30
 by_cases c4 : 0 ≤ t7
 rotate_left
 ·
  rw [if_neg c4] at H
  exact absurd H Z43
 rw [if_pos c4] at H
 have c4b0 := decide_eq_true c4
 clear c4
 by_cases c5 : t7 < (l1.length : Int)
 rotate_left
 ·
  rw [if_neg c5] at H
  exact absurd H Z43
 rw [if_pos c5] at H
 have c5b0 := decide_eq_true c5
 clear c5
 simp only [Option.some.injEq, Prod.mk.injEq] at H
 obtain ⟨rfl, rfl, rfl⟩ := H
 go_enter Try.func72, Try.ntmps72
 go_wp2_with (first | ((with_reducible refine gate_callee (f := 44) rfl ?_); refine gL 9 rfl Try.func44 #[.pointer (some ⟨g, 0, none⟩), .int .i64 (l1.length : Int)] ?_; (with_reducible refine (Fd.calls g s0_0 s0_1 s0_2 (l1.length : Int) t7 t8 t9 w0 _ ?side1 ?side2 A3.out).mono ?_); (case side1 => exact Z1); (case side2 => exact Z4); rintro e w6 ⟨rfl, hi, hb, hk⟩; refine ⟨_, rfl, ?_⟩; replace HK := am (KeepBut.trans Z2 hk (.inl rfl)); replace HB := am (hb); replace HI0 := am (hi); (try clear hb); (try clear hb2); (try clear hk); (try clear hi); have p10 : 0 ≤ (t7 : Int) := of_decide_eq_true Z6; have q10 : t7 < (l1.length : Int) := of_decide_eq_true Z6; obtain ⟨ad10, e10, hx10_0⟩ := Kd.at_int HR1.out t7 p10 q10; cases e10; replace hx10_0 := keep_cell HK.out hx10_0 (by first | (rw [add_block]; exact hf1 _ rfl Z70) | exact hf1 _ rfl Z70 | exact hf1 ad10 rfl Z70); replace p10 := eq_true p10; replace q10 := eq_true q10))
 go_ret
 exact ⟨Z109, Z1, Z4, Z2⟩

/-! ### Fta: function 41 -/
def Fta.f (s0_0 : List Int) (s0_1 : Int) (s0_2 : Int) : Option (Int × Int × Int) := (Fd.f s0_0 s0_1 s0_2 8).bind fun bt3 => (if bt3.1 = 0 then ((FY.f s0_0 bt3.2.1 bt3.2.2 (([(-1), 0, 1, 2, 100000, 100001] : List Int))).bind fun bt4 => (some (bt4.1, bt4.2.1, bt4.2.2))) else (if bt3.1 = 1 then ((Fd.f s0_0 bt3.2.1 bt3.2.2 100000).bind fun bt5 => (some (wrap64 (1 + bt5.1), bt5.2.1, bt5.2.2))) else ((Fd.f s0_0 bt3.2.1 bt3.2.2 150).bind fun bt6 => (some (wrap64 (1 + bt6.1), bt6.2.1, bt6.2.2)))))
theorem Fta.calls (g : Nat) (s0_0 : List Int) (s0_1 : Int) (s0_2 : Int) (r1 : Int) (r2 : Int) (r3 : Int) (w0 w : World) (hI : IsS47 w0 w g s0_0 s0_1 s0_2) (hB : Below w0.heap.size w0 w) (h : Fta.f s0_0 s0_1 s0_2 = some (r1, r2, r3)) :
  Calls Try.prog 41 #[.pointer (some ⟨g, 0, none⟩)] w fun e w' => e = .returned (.int .i64 r1) ∧ IsS47 w0 w' g s0_0 r2 r3 ∧ Below w0.heap.size w0 w' ∧ KeepBut w w' g none := by
 have HI0 := am hI
 have HK := am (KeepBut.refl w g none)
 have HL := am hB.size
 clear hI
 have HW0 := am hB.size
 have HB := am hB
 clear hB
 have H : ((Fd.f s0_0 s0_1 s0_2 8).bind fun bt17 => (if bt17.1 = 0 then ((FY.f s0_0 bt17.2.1 bt17.2.2 (([(-1), 0, 1, 2, 100000, 100001] : List Int))).bind fun bt18 => (some (bt18.1, bt18.2.1, bt18.2.2))) else (if bt17.1 = 1 then ((Fd.f s0_0 bt17.2.1 bt17.2.2 100000).bind fun bt19 => (some (wrap64 (1 + bt19.1), bt19.2.1, bt19.2.2))) else ((Fd.f s0_0 bt17.2.1 bt17.2.2 150).bind fun bt21 => (some (wrap64 (1 + bt21.1), bt21.2.1, bt21.2.2)))))) = some (r1, r2, r3) := h
 clear h
 replace H := Option.bind_eq_some_iff.mp H
 obtain ⟨⟨t17, t22, t23⟩, A20, H⟩ := H
 try dsimp only at H
 have A2 := am A20
 clear A20
 by_cases c3 : t17 = 0
 ·
  rw [if_pos c3] at H
  have c3b0 : (t17 == 0) = true := beq_iff_eq.mpr c3
  have c3b1 : (t17 != 0) = false := bne_eq_false_iff_eq.mpr c3
  clear c3
  obtain ⟨y24, hy24⟩ : ∃ y_ : List Int, y_ = (([(-1), 0, 1, 2, 100000, 100001] : List Int)) := ⟨_, rfl⟩
  replace H : ((FY.f s0_0 t22 t23 y24).bind fun bt18 => (some (bt18.1, bt18.2.1, bt18.2.2))) = some (r1, r2, r3) := by first | (rw [hy24]; with_reducible exact H) | (have H2_ := (Option.bind_some _ _).symm.trans H; rw [hy24]; with_reducible exact H2_) | (have H2_ := (Option.bind_some _ _).symm.trans H; with_reducible exact H2_) | with_reducible exact H | (rw [hy24]; exact H) | exact H
  have Ny24 := am hy24
  clear hy24
  replace H := Option.bind_eq_some_iff.mp H
  obtain ⟨⟨t18, t25, t26⟩, A40, H⟩ := H
  try dsimp only at H
  have A4 := am A40
  clear A40
  simp only [Option.some.injEq, Prod.mk.injEq] at H
  obtain ⟨rfl, rfl, rfl⟩ := H
  go_enter Try.func41, Try.ntmps41
  go_wp2_with (first | ((with_reducible refine gate_callee (f := 44) rfl ?_); refine gL 4 rfl Try.func44 #[.pointer (some ⟨g, 0, none⟩), .int .i64 8] ?_; (with_reducible refine (Fd.calls g s0_0 s0_1 s0_2 8 t17 t22 t23 w0 _ ?side1 ?side2 A2.out).mono ?_); (case side1 => exact Z1); (case side2 => exact Z4); rintro e w5 ⟨rfl, hi, hb, hk⟩; refine ⟨_, rfl, ?_⟩; replace HK := am (KeepBut.trans Z2 hk (.inl rfl)); replace HB := am (hb); replace HI0 := am (hi); (try clear hb); (try clear hb2); (try clear hk); (try clear hi)) | ((with_reducible refine gate_dst (N := 8) rfl ?_); refine Kd.R_lit (Kd.int .i64) _ 3 ?hg (N := 8) ?hd (xs := ([(-1), 0, 1, 2, 100000, 100001] : List Int)) (inner := [.int .i64 (-1), .int .i64 0, .int .i64 1, .int .i64 2, .int .i64 100000, .int .i64 100001]) (ok := fun _ => True) (okp := fun _ => True) ?hr ?hp (fun _ hk => hk) trivial (Below.refl _ _) (Nat.le_refl _) Z43 ?_; (case hd => rfl); (case hg => rfl); (case hr => exact Z111); (case hp => exact (Reps.one (show Kd.M (Kd.int .i64) _ _ _ (-1) [.int .i64 (-1)] from rfl) (Reps.one (show Kd.M (Kd.int .i64) _ _ _ 0 [.int .i64 0] from rfl) (Reps.one (show Kd.M (Kd.int .i64) _ _ _ 1 [.int .i64 1] from rfl) (Reps.one (show Kd.M (Kd.int .i64) _ _ _ 2 [.int .i64 2] from rfl) (Reps.one (show Kd.M (Kd.int .i64) _ _ _ 100000 [.int .i64 100000] from rfl) (Reps.one (show Kd.M (Kd.int .i64) _ _ _ 100001 [.int .i64 100001] from rfl) (Reps.none _ _)))))))); intro v27 w6 ho7 hb hg_ hnew_; clear hg_ hnew_; (first | rw [← Ny24.out] at ho7 | (simp only [Int.reduceToNat] at ho7; rw [← Ny24.out] at ho7)); have HO28 := am (Kd.R_lower ho7 (keep_size (w := w) (g := g) (row := none) Z2)); replace HK := am (KeepBut.trans Z2 (KeepBut.of_below hb g none) (.inl rfl)); replace HB := am (below_step Z4 hb); replace HI0 := am (IsS47.below Z1 hb); clear hb ho7; obtain ⟨Ao8, co8, eo8⟩ := Kd.R_slice HO28.out; subst eo8) | ((with_reducible refine gate_callee (f := 72) rfl ?_); refine gL 9 rfl Try.func72 #[.pointer (some ⟨g, 0, none⟩), .slice Ao8 y24.length co8] ?_; (with_reducible refine (FY.calls g s0_0 t22 t23 _ _ y24 t18 t25 t26 w0 _ ?side1 ?side2 ?side3 ?side4 ?side5 A4.out).mono ?_); (case side1 => exact Z1); (case side2 => exact Z4); (case side3 => exact uD HO28); (case side4 => exact (Kd.R_reads' HO28.out).2.1); (case side5 => exact far_slice (IsS47.own_ne HI0.out HO28.out Z16)); rintro e w9 ⟨rfl, hi, hb, hk⟩; refine ⟨_, rfl, ?_⟩; replace HO28 := am (Kd.R_mono (Kd.R_keep (IsS47.apart (show IsS47 w0 _ g s0_0 t22 t23 from Z1) (uR HO28) Z16) hk (fun _ h => h.2)) (fun _ h => h.1)); replace HK := am (KeepBut.trans Z2 hk (.inl rfl)); replace HB := am (hb); replace HI0 := am (hi); (try clear hb); (try clear hb2); (try clear hk); (try clear hi)))
  go_ret
  exact ⟨Z109, Z1, Z4, Z2⟩
 rw [if_neg c3] at H
 have c3b0 : (t17 == 0) = false := beq_eq_false_iff_ne.mpr c3
 have c3b1 : (t17 != 0) = true := bne_iff_ne.mpr c3
 by_cases c10 : t17 = 1
 ·
  rw [if_pos c10] at H
  have c10b0 : (t17 == 1) = true := beq_iff_eq.mpr c10
  have c10b1 : (t17 != 1) = false := bne_eq_false_iff_eq.mpr c10
  clear c10
  replace H := Option.bind_eq_some_iff.mp H
  obtain ⟨⟨t19, t29, t30⟩, A31, H⟩ := H
  try dsimp only at H
  have A11 := am A31
  clear A31
  simp only [Option.some.injEq, Prod.mk.injEq] at H
  obtain ⟨rfl, rfl, rfl⟩ := H
  go_enter Try.func41, Try.ntmps41
  go_wp2_with (first | ((with_reducible refine gate_callee (f := 44) rfl ?_); refine gL 4 rfl Try.func44 #[.pointer (some ⟨g, 0, none⟩), .int .i64 8] ?_; (with_reducible refine (Fd.calls g s0_0 s0_1 s0_2 8 t17 t22 t23 w0 _ ?side1 ?side2 A2.out).mono ?_); (case side1 => exact Z1); (case side2 => exact Z4); rintro e w12 ⟨rfl, hi, hb, hk⟩; refine ⟨_, rfl, ?_⟩; replace HK := am (KeepBut.trans Z2 hk (.inl rfl)); replace HB := am (hb); replace HI0 := am (hi); (try clear hb); (try clear hb2); (try clear hk); (try clear hi)) | ((with_reducible refine gate_callee (f := 44) rfl ?_); refine gL 13 rfl Try.func44 #[.pointer (some ⟨g, 0, none⟩), .int .i64 100000] ?_; (with_reducible refine (Fd.calls g s0_0 t22 t23 100000 t19 t29 t30 w0 _ ?side1 ?side2 A11.out).mono ?_); (case side1 => exact Z1); (case side2 => exact Z4); rintro e w13 ⟨rfl, hi, hb, hk⟩; refine ⟨_, rfl, ?_⟩; replace HK := am (KeepBut.trans Z2 hk (.inl rfl)); replace HB := am (hb); replace HI0 := am (hi); (try clear hb); (try clear hb2); (try clear hk); (try clear hi)))
  go_ret
  exact ⟨Z109, Z1, Z4, Z2⟩
 rw [if_neg c10] at H
 have c10b0 : (t17 == 1) = false := beq_eq_false_iff_ne.mpr c10
 have c10b1 : (t17 != 1) = true := bne_iff_ne.mpr c10
 replace H := Option.bind_eq_some_iff.mp H
 obtain ⟨⟨t21, t32, t33⟩, A34, H⟩ := H
 try dsimp only at H
 have A14 := am A34
 clear A34
 simp only [Option.some.injEq, Prod.mk.injEq] at H
 obtain ⟨rfl, rfl, rfl⟩ := H
 go_enter Try.func41, Try.ntmps41
 go_wp2_with (first | ((with_reducible refine gate_callee (f := 44) rfl ?_); refine gL 4 rfl Try.func44 #[.pointer (some ⟨g, 0, none⟩), .int .i64 8] ?_; (with_reducible refine (Fd.calls g s0_0 s0_1 s0_2 8 t17 t22 t23 w0 _ ?side1 ?side2 A2.out).mono ?_); (case side1 => exact Z1); (case side2 => exact Z4); rintro e w15 ⟨rfl, hi, hb, hk⟩; refine ⟨_, rfl, ?_⟩; replace HK := am (KeepBut.trans Z2 hk (.inl rfl)); replace HB := am (hb); replace HI0 := am (hi); (try clear hb); (try clear hb2); (try clear hk); (try clear hi)) | ((with_reducible refine gate_callee (f := 44) rfl ?_); refine gL 16 rfl Try.func44 #[.pointer (some ⟨g, 0, none⟩), .int .i64 150] ?_; (with_reducible refine (Fd.calls g s0_0 t22 t23 150 t21 t32 t33 w0 _ ?side1 ?side2 A14.out).mono ?_); (case side1 => exact Z1); (case side2 => exact Z4); rintro e w16 ⟨rfl, hi, hb, hk⟩; refine ⟨_, rfl, ?_⟩; replace HK := am (KeepBut.trans Z2 hk (.inl rfl)); replace HB := am (hb); replace HI0 := am (hi); (try clear hb); (try clear hb2); (try clear hk); (try clear hi)))
 go_ret
 exact ⟨Z109, Z1, Z4, Z2⟩

/-! ### Ffa: function 73 -/
def Ffa.f (s0_0 : List Int) (s0_1 : Int) (s0_2 : Int) (a1 : Int) : Option (Bool × Int × Int) := (Fd.f s0_0 s0_1 s0_2 a1).bind fun bt3 => (some ((bt3.1 == 0), bt3.2.1, bt3.2.2))
theorem Ffa.calls (g : Nat) (s0_0 : List Int) (s0_1 : Int) (s0_2 : Int) (a1 : Int) (r1 : Bool) (r2 : Int) (r3 : Int) (w0 w : World) (hI : IsS47 w0 w g s0_0 s0_1 s0_2) (hB : Below w0.heap.size w0 w) (h : Ffa.f s0_0 s0_1 s0_2 a1 = some (r1, r2, r3)) :
  Calls Try.prog 73 #[.pointer (some ⟨g, 0, none⟩), .int .i64 a1] w fun e w' => e = .returned (.bool r1) ∧ IsS47 w0 w' g s0_0 r2 r3 ∧ Below w0.heap.size w0 w' ∧ KeepBut w w' g none := by
 have HI0 := am hI
 have HK := am (KeepBut.refl w g none)
 have HL := am hB.size
 clear hI
 have HW0 := am hB.size
 have HB := am hB
 clear hB
 have H : ((Fd.f s0_0 s0_1 s0_2 a1).bind fun bt5 => (some ((bt5.1 == 0), bt5.2.1, bt5.2.2))) = some (r1, r2, r3) := h
 clear h
 replace H := Option.bind_eq_some_iff.mp H
 obtain ⟨⟨t5, t6, t7⟩, A30, H⟩ := H
 try dsimp only at H
 have A3 := am A30
 clear A30
 simp only [Option.some.injEq, Prod.mk.injEq] at H
 obtain ⟨rfl, rfl, rfl⟩ := H
 go_enter Try.func73, Try.ntmps73
 go_wp2_with (first | ((with_reducible refine gate_callee (f := 44) rfl ?_); refine gL 7 rfl Try.func44 #[.pointer (some ⟨g, 0, none⟩), .int .i64 a1] ?_; (with_reducible refine (Fd.calls g s0_0 s0_1 s0_2 a1 t5 t6 t7 w0 _ ?side1 ?side2 A3.out).mono ?_); (case side1 => exact Z1); (case side2 => exact Z4); rintro e w4 ⟨rfl, hi, hb, hk⟩; refine ⟨_, rfl, ?_⟩; replace HK := am (KeepBut.trans Z2 hk (.inl rfl)); replace HB := am (hb); replace HI0 := am (hi); (try clear hb); (try clear hb2); (try clear hk); (try clear hi)))
 go_ret
 exact ⟨Z109, Z1, Z4, Z2⟩

/-! ### Fga: function 74 -/
def Fga.f (l0 : List Int) : Option (List Int) := (some (([] : List Int) : List Int)).bind fun y2 => (if y2.length + l0.length < 17592186044416 then (some (y2 ++ l0)) else (none))
theorem Fga.calls (A0 : Option Addr) (c0 : Nat) (l0 : List Int) (r : List Int) (w : World) (hr0 : Kd.C (Kd.int .i64) w A0 l0.length l0) (hc0 : l0.length ≤ c0) (h : Fga.f l0 = some r) :
  Calls Try.prog 74 #[.slice A0 l0.length c0] w fun e w' => ∃ v0_ : Value, e = .returned (v0_) ∧ Kd.R (Kd.int .i64) 3 w' w.heap.size (fun _ => True) v0_ r ∧ Below w.heap.size w w' := by
 have HR0 := am hr0
 have HC0 := am hc0
 clear hr0 hc0
 have HB := am (Below.refl w.heap.size w)
 have H : ((some (([] : List Int) : List Int)).bind fun y6 => (if y6.length + l0.length < 17592186044416 then (some (y6 ++ l0)) else (none))) = some r := h
 clear h
 obtain ⟨y6, hy6⟩ : ∃ y_ : List Int, y_ = (([] : List Int)) := ⟨_, rfl⟩
 replace H : (if y6.length + l0.length < 17592186044416 then (some (y6 ++ l0)) else (none)) = some r := by first | (rw [hy6]; with_reducible exact H) | (have H2_ := (Option.bind_some _ _).symm.trans H; rw [hy6]; with_reducible exact H2_) | (have H2_ := (Option.bind_some _ _).symm.trans H; with_reducible exact H2_) | with_reducible exact H | (rw [hy6]; exact H) | exact H
 have Ny6 := am hy6
 clear hy6
 by_cases c2 : y6.length + l0.length < 17592186044416
 rotate_left
 ·
  rw [if_neg c2] at H
  exact absurd H Z43
 rw [if_pos c2] at H
 have LMc2 := am c2
 clear c2
 obtain ⟨y7, hy7⟩ : ∃ y_ : List Int, y_ = (y6 ++ l0) := ⟨_, rfl⟩
 replace H : (some y7) = some r := by first | (rw [hy7]; with_reducible exact H) | (have H2_ := (Option.bind_some _ _).symm.trans H; rw [hy7]; with_reducible exact H2_) | (have H2_ := (Option.bind_some _ _).symm.trans H; with_reducible exact H2_) | with_reducible exact H | (rw [hy7]; exact H) | exact H
 have Ny7 := am hy7
 clear hy7
 obtain rfl := Option.some.inj H
 go_enter Try.func74, Try.ntmps74
 go_wp2_with (first | ((with_reducible refine gate_dst (N := 3) rfl ?_); refine Kd.R_lit (Kd.int .i64) _ 3 ?hg (N := 3) ?hd (xs := ([] : List Int)) (inner := []) (ok := fun _ => True) (okp := fun _ => True) ?hr ?hp (fun _ hk => hk) trivial (Below.refl _ _) (Nat.le_refl _) Z43 ?_; (case hd => rfl); (case hg => rfl); (case hr => exact Z111); (case hp => exact (Reps.none _ _)); intro v8 w3 ho4 hb hg_ hnew_; clear hg_ hnew_; (first | rw [← Ny6.out] at ho4 | (simp only [Int.reduceToNat] at ho4; rw [← Ny6.out] at ho4)); have HO9 := am (Kd.R_lower ho4 (below_size (uN HB))); replace HB := am (below_step (uN HB) hb); clear hb ho4) | ((with_reducible refine gate_builtin (b := .append) (xs := #[.tmp 3, .tmp 4]) rfl ?_); at_builtin; refine Kd.R_append_rows (Kd.int .i64) (w0 := w) w.heap.size rfl (.tmp 3) (.tmp 4) 24 3 (.int .i64 0) 8 rfl Try.underlying24 info3 rfl Z16 Z70 v8 y6 l0 _ _ _ (fun _ => True) (fun _ => False) rfl rfl ?aO ?aR (fun _ _ h => h) (fun _ h => h.elim) ?aF ?aB ?aS ?aL ?_; (case aR => exact uC HR0 HB); (case aB => exact (uN HB)); (case aF => exact (fun _ _ => trivial)); (case aO => exact (uR HO9)); (case aS => exact (below_size (uN HB))); (case aL => have := LMc2.out; omega); intro v10 w5 ho hb hg hat; rw [← Ny7.out] at ho; replace HB := am (hb); have HO11 := am (ho); clear HO9; clear ho hb hg hat))
 go_ret
 exact ⟨_, Z109, Z108, uN HB⟩

end Go.Proofs.Ytllaofiopnhdgaa.PFnSparseParts
