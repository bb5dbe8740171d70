-- made by wip/tools/myprint.py over the kit's print, for this claim
import Derived.Test.YtllaofiopnhdgaaPFnSparsePartsx0
import Derived.Test.YtllaofiopnhdgaaPFnSparsePartsx1
namespace Go.Proofs.Ytllaofiopnhdgaa.PFnSparseParts
open Go.RowKit Go.Proofs.YtllaofiopnhdgaaW.PrintWords Go.Proofs.YtllaofiopnhdgaaW.PrintLast Go.Proofs.YtllaofiopnhdgaaW.PrintMore
open List (setIfInBounds_toArray set_cons_zero set_cons_succ)
attribute [local go_sem] max2_int min2_int max_two min_two max_three min_three max_four min_four   -- for this text's walks alone
set_option linter.unusedVariables false
set_option linter.unusedSimpArgs false

set_option maxHeartbeats 8000000
set_option maxRecDepth 100000
/-! ### Fy: function 58 -/
def Fy.f (a0_0 : Int) (l0_1 : List Int) (a1 : Int) (a2 : Bool) : Option (List Int) := if 0 ≤ (wrap64 (Int.tdiv a1 16)) then (if (wrap64 (Int.tdiv a1 16)) < (l0_1.length : Int) then (if 0 ≤ (Int.tmod a1 16) then ((some (l0_1.set ((wrap64 (Int.tdiv a1 16)) : Int).toNat (Go.bits .andNot .i64 (rd l0_1 (wrap64 (Int.tdiv a1 16))) (shl .i64 1 (Int.tmod a1 16))) : List Int)).bind fun y3 => (if a2 = true then (some (y3.set ((wrap64 (Int.tdiv a1 16)) : Int).toNat (Go.bits .or .i64 (rd y3 (wrap64 (Int.tdiv a1 16))) (shl .i64 1 (Int.tmod a1 16))))) else (some y3))) else (none)) else (none)) else (none)
def Fy.T0 : Bool × List (List Nat × List Nat) := (true, [([], []), ([0], [0]), ([1], [1]), ([2], [2]), ([], []), ([4], [4]), ([3, 5], [3, 5]), ([6], [6]), ([], []), ([8], [8]), ([9], [9]), ([7, 10], [7, 10]), ([3, 5, 0, 1, 2, 3, 4, 5, 6, 7, 8, 9, 10, 11], [3, 5]), ([12, 11, 0, 1, 2, 3, 4, 5, 6, 7, 8, 9, 10, 11], [11, 12])])
def Fy.B0 : List Nat := [0, 1, 3, 7, 0, 16, 63, 127, 0, 256, 768, 2047, 4095, 8191]
theorem Fy.tab0 : rtab .any (opsOf Try.f58 0) = Fy.T0 := by kernel_rfl
theorem Fy.bits0 : waitsOk Fy.T0.2 Fy.B0 = true := by kernel_rfl
def Fy.T2 : Bool × List (List Nat × List Nat) := (true, [([], []), ([0], [0]), ([1], [1]), ([2], [2]), ([], []), ([4], [4]), ([3, 5], [3, 5]), ([6], [6]), ([], []), ([8], [8]), ([9], [9]), ([7, 10], [7, 10]), ([3, 5, 0, 1, 2, 3, 4, 5, 6, 7, 8, 9, 10, 11], [3, 5]), ([12, 11, 0, 1, 2, 3, 4, 5, 6, 7, 8, 9, 10, 11], [11, 12])])
def Fy.B2 : List Nat := [0, 1, 3, 7, 0, 16, 63, 127, 0, 256, 768, 2047, 4095, 8191]
theorem Fy.tab2 : rtab .any (opsOf Try.f58 2) = Fy.T2 := by kernel_rfl
theorem Fy.bits2 : waitsOk Fy.T2.2 Fy.B2 = true := by kernel_rfl
theorem Fy.calls (g0_0 : Nat) (a0_0 : Int) (P0_1_ : Nat → Prop) (u23_ : Value) (l0_1 : List Int) (a1 : Int) (a2 : Bool) (r : List Int) (w0 w : World) (hB : Below w0.heap.size w0 w) (hb0_0 : w.heap[g0_0]? = some (.cells #[.int .i64 a0_0, u23_] 26 (0, 0))) (ho0_1 : Kd.R (Kd.int .i64) 3 w w0.heap.size P0_1_ u23_ l0_1) (h : Fy.f a0_0 l0_1 a1 a2 = some r) :
  Calls Try.prog 58 #[.pointer (some ⟨g0_0, 0, none⟩), .int .i64 a1, .bool a2] w fun e w' => e = .returned (.tuple #[]) ∧ Kd.R (Kd.int .i64) 3 w' w0.heap.size (fun k_ => (P0_1_ k_ ∨ w.heap.size ≤ k_)) u23_ r ∧ Below w0.heap.size w0 w' ∧ Kept w w' (fun k_ => P0_1_ k_) := by
 have HO0_1 := am (show Kd.R (Kd.int .i64) 3 w w0.heap.size (fun k_ => (P0_1_ k_ ∨ w.heap.size ≤ k_)) u23_ l0_1 from Kd.R_mono ho0_1 (fun k_ hk => (.inl hk)))
 have HK := am (Kept.refl w (fun k_ => P0_1_ k_))
 have BK24 := am hb0_0
 clear hb0_0
 have HW0 := am hB.size
 have HB := am hB
 clear hB
 have H : (if 0 ≤ (wrap64 (Int.tdiv a1 16)) then (if (wrap64 (Int.tdiv a1 16)) < (l0_1.length : Int) then (if 0 ≤ (Int.tmod a1 16) then ((some (l0_1.set ((wrap64 (Int.tdiv a1 16)) : Int).toNat (Go.bits .andNot .i64 (rd l0_1 (wrap64 (Int.tdiv a1 16))) (shl .i64 1 (Int.tmod a1 16))) : List Int)).bind fun y25 => (if a2 = true then (some (y25.set ((wrap64 (Int.tdiv a1 16)) : Int).toNat (Go.bits .or .i64 (rd y25 (wrap64 (Int.tdiv a1 16))) (shl .i64 1 (Int.tmod a1 16))))) else (some y25))) else (none)) else (none)) else (none)) = some r := h
 clear h
 obtain ⟨ji4, hji4⟩ : ∃ j_ : Int, (wrap64 (Int.tdiv a1 16)) = j_ := ⟨_, rfl⟩
 replace H : (if 0 ≤ (ji4) then (if (ji4) < (l0_1.length : Int) then (if 0 ≤ (Int.tmod a1 16) then ((some (l0_1.set ((ji4) : Int).toNat (Go.bits .andNot .i64 (rd l0_1 (ji4)) (shl .i64 1 (Int.tmod a1 16))) : List Int)).bind fun y25 => (if a2 = true then (some (y25.set ((ji4) : Int).toNat (Go.bits .or .i64 (rd y25 (ji4)) (shl .i64 1 (Int.tmod a1 16))))) else (some y25))) else (none)) else (none)) else (none)) = some r := by first | (rw [hji4] at H; exact H) | (simp only [hji4] at H ⊢; exact H)
 have hji4w : (IntKind.i64.wrap (Int.tdiv a1 16)) = ji4 := (i64_w _).trans hji4
 by_cases c5 : 0 ≤ (ji4)
 rotate_left
 ·
  rw [if_neg c5] at H
  exact absurd H Z43
 rw [if_pos c5] at H
 have c5b0 := decide_eq_true c5
 clear c5
 by_cases c6 : (ji4) < (l0_1.length : Int)
 rotate_left
 ·
  rw [if_neg c6] at H
  exact absurd H Z43
 rw [if_pos c6] at H
 have c6b0 := decide_eq_true c6
 clear c6
 obtain ⟨ji7, hji7⟩ : ∃ j_ : Int, (Int.tmod a1 16) = j_ := ⟨_, rfl⟩
 replace H : (if 0 ≤ (ji7) then ((some (l0_1.set ((ji4) : Int).toNat (Go.bits .andNot .i64 (rd l0_1 (ji4)) (shl .i64 1 (ji7))) : List Int)).bind fun y25 => (if a2 = true then (some (y25.set ((ji4) : Int).toNat (Go.bits .or .i64 (rd y25 (ji4)) (shl .i64 1 (ji7))))) else (some y25))) else (none)) = some r := by first | (rw [hji7] at H; exact H) | (simp only [hji7] at H ⊢; exact H)
 by_cases c8 : 0 ≤ (ji7)
 rotate_left
 ·
  rw [if_neg c8] at H
  exact absurd H Z43
 rw [if_pos c8] at H
 have c8b0 := eq_true c8
 have c8b1 := decide_eq_true c8
 clear c8
 obtain ⟨ji9, hji9⟩ : ∃ j_ : Int, (shl .i64 1 (ji7)) = j_ := ⟨_, rfl⟩
 replace H : ((some (l0_1.set ((ji4) : Int).toNat (Go.bits .andNot .i64 (rd l0_1 (ji4)) (ji9)) : List Int)).bind fun y25 => (if a2 = true then (some (y25.set ((ji4) : Int).toNat (Go.bits .or .i64 (rd y25 (ji4)) (ji9)))) else (some y25))) = some r := by first | (rw [hji9] at H; exact H) | (simp only [hji9] at H ⊢; exact H)
 have hji9_ : (IntKind.i64.wrap (1 * 2 ^ min (ji7).toNat 64)) = ji9 := hji9
 have hji9z : (ji7) ≤ 64 → (IntKind.i64.wrap (1 * 2 ^ (ji7).toNat)) = ji9 := shl_small hji9
 have hji9u : (IntKind.i64.wrap (2 ^ min (ji7).toNat 64)) = ji9 := by have h_ := hji9_; rw [Int.one_mul] at h_; exact h_
 have hji9v : (ji7) ≤ 64 → (IntKind.i64.wrap (2 ^ (ji7).toNat)) = ji9 := fun hle_ => by have h_ := hji9z hle_; rw [Int.one_mul] at h_; exact h_
 have hji9y : (wrap64 (1 * 2 ^ min (ji7).toNat 64)) = ji9 := (i64_w _).symm.trans hji9_
 have hji9x : (ji7) ≤ 64 → (wrap64 (1 * 2 ^ (ji7).toNat)) = ji9 := fun h_ => (i64_w _).symm.trans (hji9z h_)
 obtain ⟨y25, hy25⟩ : ∃ y_ : List Int, y_ = (l0_1.set ((ji4) : Int).toNat (Go.bits .andNot .i64 (rd l0_1 (ji4)) (ji9))) := ⟨_, rfl⟩
 replace H : (if a2 = true then (some (y25.set ((ji4) : Int).toNat (Go.bits .or .i64 (rd y25 (ji4)) (ji9)))) else (some y25)) = some r := by first | (rw [hy25]; with_reducible exact H) | (have H2_ := (Option.bind_some _ _).symm.trans H; rw [hy25]; with_reducible exact H2_) | (have H2_ := (Option.bind_some _ _).symm.trans H; with_reducible exact H2_) | with_reducible exact H | (rw [hy25]; exact H) | exact H
 have Ny25 := am hy25
 clear hy25
 by_cases c11 : a2 = true
 ·
  subst c11
  rw [if_pos rfl] at H
  have c12b0 := eq_true (of_decide_eq_true Z6 : 0 ≤ (ji7))
  obtain ⟨y27, hy27⟩ : ∃ y_ : List Int, y_ = (y25.set ((ji4) : Int).toNat (Go.bits .or .i64 (rd y25 (ji4)) (ji9))) := ⟨_, rfl⟩
  replace H : (some y27) = some r := by first | (rw [hy27]; with_reducible exact H) | (have H2_ := (Option.bind_some _ _).symm.trans H; rw [hy27]; with_reducible exact H2_) | (have H2_ := (Option.bind_some _ _).symm.trans H; with_reducible exact H2_) | with_reducible exact H | (rw [hy27]; exact H) | exact H
  have Ny27 := am hy27
  clear hy27
  obtain rfl := Option.some.inj H
  go_enter Try.func58, Try.ntmps58
  try go_wp2
  replace HO0_1 := am (Kd.R_drew HO0_1.out)
  replace BK24 := am (blk_drew BK24.out)
  replace HK := am (Kept.drew HK.out)
  replace HB := am (below_drew1 HB.out)
  obtain ⟨Ao15, co15, eo15⟩ := Kd.R_slice HO0_1.out
  (first | subst eo15 | (injection eo15 with f1_ f2_ f3_; have f4_ := f1_.symm; have f5_ := f3_.symm; clear f1_ f2_ f3_; subst f4_; subst f5_))
  have p28 : 0 ≤ ((ji4) : Int) := of_decide_eq_true Z6
  have q28 : (ji4) < (l0_1.length : Int) := of_decide_eq_true Z6
  obtain ⟨ad28, e28, hx28_0⟩ := Kd.at_int (Kd.R_reads' HO0_1.out).2.2 (ji4) p28 q28
  cases e28
  replace p28 := eq_true p28
  replace q28 := eq_true q28
  have p10 : 0 ≤ ((ji4) : Int) := of_decide_eq_true Z6
  have q10 : ((ji4) : Int) < ((l0_1.length : Int) : Int) := of_decide_eq_true Z6
  obtain ⟨go10, co10, eo10, gb10, gl10, cl10, HG10⟩ := Kd.R_form HO0_1.out Z70
  (first | cases eo10 | (injection eo10 with ea_ en_ ec_; (first | subst ea_ | (injection ea_ with ea_; subst ea_)); subst ec_; clear en_))
  have GB10 := am gb10
  have GG10 := am HG10
  clear gb10 gl10 HG10
  have HMgo10 := am (show (P0_1_ go10 ∨ w.heap.size ≤ go10) from (HO0_1.out.1 _ rfl))
  (first | simp only [add_plain] at hx28_0 | skip)
  obtain ⟨hx10_0, hf10_0⟩ := Kd.R_celln 0 HO0_1.out ((ji4) : Int) p10 q10
  replace p10 := eq_true p10
  replace q10 := eq_true q10
  have HP16 := Kd.R_putn HO0_1.out ((ji4) : Int) (Go.bits .andNot .i64 (rd l0_1 (ji4)) (ji9))
  rw [← Ny25.out] at HP16
  have HQ16 := am HP16
  clear HP16
  refine start_ (n := 14) (S := fun w' => w'.cell? ⟨g0_0, 0, none⟩ = some (.int .i64 a0_0) ∧ w'.cell? ⟨g0_0, 1, none⟩ = some (.slice (some ⟨go10, 0, none⟩) l0_1.length co15) ∧ w'.cell? ⟨go10, ((ji4)).toNat, none⟩ = some (.int .i64 (rd l0_1 (ji4)))) (ds := [13]) (bA 14 0) Z112 rfl rfl ⟨bc BK24 0, bc BK24 1, hx28_0⟩ (fun hHeld => ?_); refine with_tabW Fy.tab0 Fy.bits0 (fun HT_ HW_ => ?_)
  generalize w.drew = w14 at HO0_1 BK24 HK HB GG10 HQ16 hf10_0 hx10_0 hx28_0 hHeld ⊢
  refine pS 0 6 (bA 14 1) ?_
  refine pS 1 7 (bA 14 3) ?_
  refine pS 2 8 (bA 14 7) ?_
  refine pS 4 10 (bA 14 23) ?_
  refine pS 5 11 (bA 14 55) ?_
  refine pS 8 14 (bA 14 311) ?_
  refine pS 9 15 (bA 14 823) ?_
  refine pS 10 16 (bA 14 1847) ?_
  refine tS3 3 9 (bA 14 1855) hHeld ?_
  refine pS 6 12 (bA 14 1919) ?_
  refine tS3 7 13 (bA 14 2047) hHeld ?_
  refine pS 11 17 (bA 14 4095) ?_
  refine pS 12 18 (bA 14 8191) ?_
  refine last_ (i := 13) (N := none) (bA 14 16383) rfl rfl (one_of HT_.out Z112) Z16 (fun K hK => ?_)
  refine skip_ (w1 := ?_) Z63 rfl ?_ ?_
  rotate_left
  ·
   go_simp
   rfl
  refine hK.out _ _ ?_
  clear hK K
  refine done_ (done_of HT_.out Z112) ?_
  try go_wp2
  have n0_ : Aside0 (Kd.R (Kd.int .i64) 3 (w14.setCell ⟨go10, ((ji4) : Int).toNat, none⟩ (.int .i64 (Go.bits .andNot .i64 (rd l0_1 (ji4)) (ji9)))) w0.heap.size (fun k_ => (P0_1_ k_ ∨ w.heap.size ≤ k_)) (.slice (some ⟨go10, 0, none⟩) l0_1.length co15) y25) := ⟨by (with_reducible repeat (first | apply Kd.R_alloc | apply Kd.R_drewN | apply Kd.R_drew)); exact HQ16.out⟩
  have n1_ : Aside0 ((w14.setCell ⟨go10, ((ji4) : Int).toNat, none⟩ (.int .i64 (Go.bits .andNot .i64 (rd l0_1 (ji4)) (ji9)))).heap[g0_0]? = some (.cells #[.int .i64 a0_0, .slice (some ⟨go10, 0, none⟩) l0_1.length co15] 26 (0, 0))) := ⟨by refine uW ?_; refine blk_far ?_ (by have h_ := Kd.R_ne HO0_1.out BK24.out Z16; intro e_; exact h_ (by rw [e_]; rfl)) _; refine uW ?_; exact BK24.out⟩
  have n2_ : Aside0 (Kept w (w14.setCell ⟨go10, ((ji4) : Int).toNat, none⟩ (.int .i64 (Go.bits .andNot .i64 (rd l0_1 (ji4)) (ji9)))) (fun k_ => P0_1_ k_)) := ⟨Z67⟩
  have n3_ : Aside0 (Below w0.heap.size w0 (w14.setCell ⟨go10, ((ji4) : Int).toNat, none⟩ (.int .i64 (Go.bits .andNot .i64 (rd l0_1 (ji4)) (ji9))))) := ⟨Z69⟩
  (try clear HO0_1)
  (try clear BK24)
  (try clear HK)
  (try clear HB)
  generalize (w14.setCell ⟨go10, ((ji4) : Int).toNat, none⟩ (.int .i64 (Go.bits .andNot .i64 (rd l0_1 (ji4)) (ji9)))) = w17 at n0_ n1_ n2_ n3_ ⊢
  have HO0_1 := n0_
  have BK24 := n1_
  have HK := n2_
  have HB := n3_
  clear n0_ n1_ n2_ n3_
  replace HO0_1 := am (Kd.R_drew HO0_1.out)
  replace BK24 := am (blk_drew BK24.out)
  replace HK := am (Kept.drew HK.out)
  replace HB := am (below_drew1 HB.out)
  have p29 : 0 ≤ ((ji4) : Int) := of_decide_eq_true Z6
  have q29 : (ji4) < (y25.length : Int) := (by have h_ : ((ji4) : Int) < ((l0_1.length : Int) : Int) := of_decide_eq_true Z6; first | (have e_ := (Kd.R_reads' HO0_1.out).1; omega) | simpa only [Ny25.out, List.length_set] using h_)
  have ql114 : (((ji4) : Int) < ((l0_1.length : Int) : Int)) = True := eq_true (of_decide_eq_true Z6)
  obtain ⟨ad29, e29, hx29_0⟩ := Kd.at_int (Kd.R_reads' HO0_1.out).2.2 (ji4) p29 q29
  obtain rfl : (⟨go10, 0, none⟩ : Addr) = ad29 := (by injection e29)
  (first | simp only [add_plain] at hx29_0 | simp only [add_at] at hx29_0 | simp only [Addr.add, Nat.zero_add] at hx29_0 | skip)
  replace p29 := eq_true p29
  replace q29 := eq_true q29
  have p13 : 0 ≤ ((ji4) : Int) := of_decide_eq_true Z6
  have q13 : ((ji4) : Int) < ((l0_1.length : Int) : Int) := of_decide_eq_true Z6
  obtain ⟨hx13_0, hf13_0⟩ := Kd.R_celln 0 HO0_1.out ((ji4) : Int) p13 q13
  replace p13 := eq_true p13
  replace q13 := eq_true q13
  have HP19 := Kd.R_putn HO0_1.out ((ji4) : Int) (Go.bits .or .i64 (rd y25 (ji4)) (ji9))
  rw [← Ny27.out] at HP19
  have HQ19 := am HP19
  clear HP19
  refine start_ (n := 14) (S := fun w' => w'.cell? ⟨g0_0, 0, none⟩ = some (.int .i64 a0_0) ∧ w'.cell? ⟨g0_0, 1, none⟩ = some (.slice (some ⟨go10, 0, none⟩) l0_1.length co15) ∧ w'.cell? ⟨go10, ((ji4)).toNat, none⟩ = some (.int .i64 (rd y25 (ji4)))) (ds := [13]) (bA 14 0) Z112 rfl rfl ⟨bc BK24 0, bc BK24 1, hx29_0⟩ (fun hHeld => ?_); refine with_tabW Fy.tab2 Fy.bits2 (fun HT_ HW_ => ?_)
  generalize w17.drew = w18 at HO0_1 BK24 HK HB HQ16 HQ19 hf13_0 hx29_0 hx13_0 hHeld ⊢
  refine pS 0 20 (bA 14 1) ?_
  refine pS 1 21 (bA 14 3) ?_
  refine pS 2 22 (bA 14 7) ?_
  refine pS 4 24 (bA 14 23) ?_
  refine pS 5 25 (bA 14 55) ?_
  refine pS 8 28 (bA 14 311) ?_
  refine pS 9 29 (bA 14 823) ?_
  refine pS 10 30 (bA 14 1847) ?_
  refine tS3 3 23 (bA 14 1855) hHeld ?_
  refine pS 6 26 (bA 14 1919) ?_
  refine tS3 7 27 (bA 14 2047) hHeld ?_
  refine pS 11 31 (bA 14 4095) ?_
  refine pS 12 32 (bA 14 8191) ?_
  refine last_ (i := 13) (N := none) (bA 14 16383) rfl rfl (one_of HT_.out Z112) Z16 (fun K hK => ?_)
  refine skip_ (w1 := ?_) Z63 rfl ?_ ?_
  rotate_left
  ·
   go_simp
   rfl
  refine hK.out _ _ ?_
  clear hK K
  refine done_ (done_of HT_.out Z112) ?_
  try go_wp2
  first | go_end0 | ((try simp only [Exit.inBlock, Exit.then]); refine bodyPost_ret (results_none rfl _ _ _) rfl ?_)
  exact ⟨Z133, by (with_reducible repeat (first | apply Kd.R_alloc | apply Kd.R_drewN | apply Kd.R_drew)); exact HQ19.out, Z69, Z67⟩
 replace c11 := Bool.eq_false_iff.mpr c11
 subst c11
 rw [if_neg (show ¬ (false = true) from Z16)] at H
 obtain rfl := Option.some.inj H
 go_enter Try.func58, Try.ntmps58
 try go_wp2
 replace HO0_1 := am (Kd.R_drew HO0_1.out)
 replace BK24 := am (blk_drew BK24.out)
 replace HK := am (Kept.drew HK.out)
 replace HB := am (below_drew1 HB.out)
 obtain ⟨Ao21, co21, eo21⟩ := Kd.R_slice HO0_1.out
 (first | subst eo21 | (injection eo21 with f1_ f2_ f3_; have f4_ := f1_.symm; have f5_ := f3_.symm; clear f1_ f2_ f3_; subst f4_; subst f5_))
 have p28 : 0 ≤ ((ji4) : Int) := of_decide_eq_true Z6
 have q28 : (ji4) < (l0_1.length : Int) := of_decide_eq_true Z6
 obtain ⟨ad28, e28, hx28_0⟩ := Kd.at_int (Kd.R_reads' HO0_1.out).2.2 (ji4) p28 q28
 cases e28
 replace p28 := eq_true p28
 replace q28 := eq_true q28
 have p10 : 0 ≤ ((ji4) : Int) := of_decide_eq_true Z6
 have q10 : ((ji4) : Int) < ((l0_1.length : Int) : Int) := of_decide_eq_true Z6
 obtain ⟨go10, co10, eo10, gb10, gl10, cl10, HG10⟩ := Kd.R_form HO0_1.out Z70
 (first | cases eo10 | (injection eo10 with ea_ en_ ec_; (first | subst ea_ | (injection ea_ with ea_; subst ea_)); subst ec_; clear en_))
 have GB10 := am gb10
 have GG10 := am HG10
 clear gb10 gl10 HG10
 have HMgo10 := am (show (P0_1_ go10 ∨ w.heap.size ≤ go10) from (HO0_1.out.1 _ rfl))
 (first | simp only [add_plain] at hx28_0 | skip)
 obtain ⟨hx10_0, hf10_0⟩ := Kd.R_celln 0 HO0_1.out ((ji4) : Int) p10 q10
 replace p10 := eq_true p10
 replace q10 := eq_true q10
 have HP22 := Kd.R_putn HO0_1.out ((ji4) : Int) (Go.bits .andNot .i64 (rd l0_1 (ji4)) (ji9))
 rw [← Ny25.out] at HP22
 have HQ22 := am HP22
 clear HP22
 refine start_ (n := 14) (S := fun w' => w'.cell? ⟨g0_0, 0, none⟩ = some (.int .i64 a0_0) ∧ w'.cell? ⟨g0_0, 1, none⟩ = some (.slice (some ⟨go10, 0, none⟩) l0_1.length co21) ∧ w'.cell? ⟨go10, ((ji4)).toNat, none⟩ = some (.int .i64 (rd l0_1 (ji4)))) (ds := [13]) (bA 14 0) Z112 rfl rfl ⟨bc BK24 0, bc BK24 1, hx28_0⟩ (fun hHeld => ?_); refine with_tabW Fy.tab0 Fy.bits0 (fun HT_ HW_ => ?_)
 generalize w.drew = w20 at HO0_1 BK24 HK HB GG10 HQ22 hf10_0 hx10_0 hx28_0 hHeld ⊢
 refine pS 0 6 (bA 14 1) ?_
 refine pS 1 7 (bA 14 3) ?_
 refine pS 2 8 (bA 14 7) ?_
 refine pS 4 10 (bA 14 23) ?_
 refine pS 5 11 (bA 14 55) ?_
 refine pS 8 14 (bA 14 311) ?_
 refine pS 9 15 (bA 14 823) ?_
 refine pS 10 16 (bA 14 1847) ?_
 refine tS3 3 9 (bA 14 1855) hHeld ?_
 refine pS 6 12 (bA 14 1919) ?_
 refine tS3 7 13 (bA 14 2047) hHeld ?_
 refine pS 11 17 (bA 14 4095) ?_
 refine pS 12 18 (bA 14 8191) ?_
 refine last_ (i := 13) (N := none) (bA 14 16383) rfl rfl (one_of HT_.out Z112) Z16 (fun K hK => ?_)
 refine skip_ (w1 := ?_) Z63 rfl ?_ ?_
 rotate_left
 ·
  go_simp
  rfl
 refine hK.out _ _ ?_
 clear hK K
 refine done_ (done_of HT_.out Z112) ?_
 try go_wp2
 first | go_end0 | ((try simp only [Exit.inBlock, Exit.then]); refine bodyPost_ret (results_none rfl _ _ _) rfl ?_)
 exact ⟨Z133, by (with_reducible repeat (first | apply Kd.R_alloc | apply Kd.R_drewN | apply Kd.R_drew)); exact HQ22.out, Z69, Z67⟩

/-! ### FC: function 84 -/
def FC.l0 : Nat → Int → Int → Int → Int → Int → List Int → Option (List Int)
 | 0, _, _, _, _, _, _ => none
 | k + 1, x1, x3, x9, x10, x2, x4 => if x10 < x9 then (if 0 ≤ x10 then ((Fy.f x2 x4 (wrap64 (x1 + x10)) ((Go.bits .and .i64 (shr .i64 x3 x10) 1) == 1)).bind fun t5 => (FC.l0 k x1 x3 x9 (wrap64 (x10 + 1)) x2 t5)) else (none)) else (some x4)
def FC.f (k : Nat) (a0_0 : Int) (l0_1 : List Int) (a1 : Int) (a2 : Int) (a3 : Int) : Option (List Int) := FC.l0 k a1 a3 a2 0 a0_0 l0_1
theorem FC.mono_l : ∀ k, (∀ y0 y1 y2 y3 y4 y5, LeO (FC.l0 k y0 y1 y2 y3 y4 y5) (FC.l0 (k + 1) y0 y1 y2 y3 y4 y5))
 | 0 => fun _ _ _ _ _ _ r h => by simp [FC.l0] at h | k + 1 => by
  have ih0 := FC.mono_l k
  ·
   intro y0 y1 y2 y3 y4 y5
   unfold FC.l0
   exact Mo1
theorem FC.mono : ∀ a0 a1 a2 a3 a4 k, LeO (FC.f k a0 a1 a2 a3 a4) (FC.f (k + 1) a0 a1 a2 a3 a4) := by
 intro a0 a1 a2 a3 a4 k
 have ih0 := FC.mono_l k
 unfold FC.f
 exact Mo1
theorem FC.calls (k : Nat) (g0_0 : Nat) (a0_0 : Int) (P0_1_ : Nat → Prop) (u4_ : Value) (l0_1 : List Int) (a1 : Int) (a2 : Int) (a3 : Int) (r : List Int) (w0 w : World) (hB : Below w0.heap.size w0 w) (hb0_0 : w.heap[g0_0]? = some (.cells #[.int .i64 a0_0, u4_] 26 (0, 0))) (ho0_1 : Kd.R (Kd.int .i64) 3 w w0.heap.size P0_1_ u4_ l0_1) (h : FC.f k a0_0 l0_1 a1 a2 a3 = some r) :
  Calls Try.prog 84 #[.pointer (some ⟨g0_0, 0, none⟩), .int .i64 a1, .int .i64 a2, .int .i64 a3] w fun e w' => e = .returned (.tuple #[]) ∧ Kd.R (Kd.int .i64) 3 w' w0.heap.size (fun k_ => (P0_1_ k_ ∨ w.heap.size ≤ k_)) u4_ r ∧ Below w0.heap.size w0 w' ∧ Kept w w' (fun k_ => P0_1_ k_) := by
 have HO0_1 := am (show Kd.R (Kd.int .i64) 3 w w0.heap.size (fun k_ => (P0_1_ k_ ∨ w.heap.size ≤ k_)) u4_ l0_1 from Kd.R_mono ho0_1 (fun k_ hk => (.inl hk)))
 have HK := am (Kept.refl w (fun k_ => P0_1_ k_))
 have BK11 := am hb0_0
 clear hb0_0
 have HW0 := am hB.size
 have HB := am hB
 clear hB
 have H : (FC.l0 k a1 a3 a2 0 a0_0 l0_1) = some r := h
 clear h
 have H' := am H
 clear H
 go_enter Try.func84, Try.ntmps84
 go_wp2
 go_loopg [10] k (fun kq v10 w' => ∃ (x10_1 : Int) (x12_1 : Int) (x13_1 : List Int), v10 = .int .i64 x10_1 ∧ Aside0 (FC.l0 kq a1 a3 a2 x10_1 x12_1 x13_1 = some r) ∧ Aside0 (kq ≤ k) ∧ Aside0 (Kd.R (Kd.int .i64) 3 w' w0.heap.size (fun k_ => (P0_1_ k_ ∨ w.heap.size ≤ k_)) u4_ x13_1) ∧ Aside0 (w'.heap[g0_0]? = some (.cells #[.int .i64 x12_1, u4_] 26 (0, 0))) ∧ Aside0 (Kept w w' (fun k_ => P0_1_ k_)) ∧ Aside0 (Below w0.heap.size w0 w'))
 case atStart => exact ⟨(0), (a0_0), (l0_1), Z110, H', ⟨Nat.le_refl _⟩, ⟨by (with_reducible repeat (first | apply Kd.R_alloc | apply Kd.R_drewN | apply Kd.R_drew)); exact HO0_1.out⟩, ⟨pb BK11⟩, ⟨Z64⟩, ⟨Z30⟩⟩
 case round =>
  clear H'
  try clear p2
  try clear HO_13
  obtain ⟨x10_1, x12_1, x13_1, rfl, HA, HK1, HO_13, BK11, HK, HB⟩ := hrel
  cases gk with
  | zero => exact absurd HA.out (by simp [FC.l0])
  | succ k1 =>
   have H := HA.out
   clear HA
   simp only [FC.l0] at H
   by_cases c5 : x10_1 < a2
   rotate_left
   ·
    rw [if_neg c5] at H
    have c5b0 := decide_eq_false c5
    clear c5
    obtain rfl := Option.some.inj H
    go_wp2
    first | go_end0 | ((try simp only [Exit.inBlock, Exit.then]); refine bodyPost_ret (results_none rfl _ _ _) rfl ?_)
    exact ⟨Z109, Z105, Z30, Z64⟩
   rw [if_pos c5] at H
   have c5b0 := decide_eq_true c5
   clear c5
   by_cases c6 : 0 ≤ x10_1
   rotate_left
   ·
    rw [if_neg c6] at H
    exact absurd H Z43
   rw [if_pos c6] at H
   have c6b0 := eq_true c6
   have c6b1 := decide_eq_true c6
   clear c6
   obtain ⟨ji7, hji7⟩ : ∃ j_ : Int, (shr .i64 a3 x10_1) = j_ := ⟨_, rfl⟩
   replace H : ((Fy.f x12_1 x13_1 (wrap64 (a1 + x10_1)) ((Go.bits .and .i64 (ji7) 1) == 1)).bind fun t14 => (FC.l0 k1 a1 a3 a2 (wrap64 (x10_1 + 1)) x12_1 t14)) = some r := by first | (rw [hji7] at H; exact H) | (simp only [hji7] at H ⊢; exact H)
   have hji7_ : (a3 / 2 ^ min x10_1.toNat 64) = ji7 := hji7
   have hji7z : x10_1 ≤ 64 → (a3 / 2 ^ x10_1.toNat) = ji7 := shr_small hji7
   replace H := Option.bind_eq_some_iff.mp H
   obtain ⟨t14, A80, H⟩ := H
   try dsimp only at H
   have A8 := am A80
   clear A80
   have H' := am H
   clear H
   obtain ⟨Ao9, co9, eo9⟩ := Kd.R_slice HO_13.out
   subst eo9
   go_wp2_with (first | ((with_reducible refine gate_callee (f := 58) rfl ?_); refine goesL_ (some 22) rfl rfl Try.func58 Z112 rfl #[.pointer (some ⟨g0_0, 0, none⟩), .int .i64 (wrap64 (a1 + x10_1)), .bool ((Go.bits .and .i64 (ji7) 1) == 1)] rfl (by (try simp only [List.map_toArray, List.map_cons, List.map_nil]); first | done | (simp only [hji7]; rfl) | rfl | (simp only [List.length_drop, List.length_take]; rfl)) ?_; (with_reducible refine (Fy.calls g0_0 x12_1 (fun k_ => some k_ = (.slice Ao9 x13_1.length co9 : Value).ownBlock) (.slice Ao9 x13_1.length co9) x13_1 (wrap64 (a1 + x10_1)) ((Go.bits .and .i64 (ji7) 1) == 1) t14 w0 _ ?side1 ?side2 ?side3 A8.out).mono ?_); (case side1 => exact Z30); (case side2 => exact (uK BK11)); (case side3 => exact Kd.R_tight rfl HO_13.out); rintro e w10 ⟨rfl, hy0, hb, hkp⟩; refine ⟨_, rfl, ?_⟩; replace BK11 := am (blk_kept (uK BK11) hkp (fun hs_ => (fun e_ => (Kd.R_ne HO_13.out BK11.out Z16) e_) hs_)); replace HK := am (Kept.then_ (S := (fun k_ => P0_1_ k_)) Z64 hkp (fun k_ hs_ => (fun e_ => (HO_13.out.1 k_ e_.symm)) hs_)); replace HO_13 := am (Kd.R_reok rfl hy0 (fun k_ e_ => HO_13.out.1 k_ e_)); replace HB := am (hb); (try clear hb); (try clear hkp); (try clear hy0)))
   go_roundg k1
   case measure => have := HK1.out; omega
   case rel => exact ⟨(wrap64 (x10_1 + 1)), (x12_1), (t14), Z110, H', ⟨by have := HK1.out; omega⟩, ⟨Z105⟩, ⟨pb BK11⟩, ⟨Z64⟩, ⟨Z30⟩⟩

/-! ### FD: function 59 -/
def FD.l0 : Nat → Int → List Int → Int → Int → Int → List Int → Option (Int × List Int)
 | 0, _, _, _, _, _, _ => none
 | k + 1, x1, x13, x14, x15, x2, x3 => if x15 < x14 then (if 0 ≤ x15 then (if x15 < (x13.length : Int) then ((FC.f k x2 x3 (wrap64 (x15 * x1)) x1 (rd x13 x15)).bind fun t4 => (FD.l0 k x1 x13 x14 (wrap64 (x15 + 1)) x2 t4)) else (none)) else (none)) else (some (x2, x3))
def FD.f (k : Nat) (l0 : List Int) (a1 : Int) : Option (Int × List Int) := (Fea.f (wrap64 ((l0.length : Int) * a1))).bind fun bt2 => (FD.l0 k a1 l0 (l0.length : Int) 0 bt2.1 bt2.2)
theorem FD.mono_l : ∀ k, (∀ y0 y1 y2 y3 y4 y5, LeO (FD.l0 k y0 y1 y2 y3 y4 y5) (FD.l0 (k + 1) y0 y1 y2 y3 y4 y5))
 | 0 => fun _ _ _ _ _ _ r h => by simp [FD.l0] at h | k + 1 => by
  have ih0 := FD.mono_l k
  ·
   intro y0 y1 y2 y3 y4 y5
   unfold FD.l0
   exact Mo3
theorem FD.mono : ∀ a0 a1 k, LeO (FD.f k a0 a1) (FD.f (k + 1) a0 a1) := by
 intro a0 a1 k
 have ih0 := FD.mono_l k
 unfold FD.f
 exact Mo3
theorem FD.calls (k : Nat) (A0 : Option Addr) (c0 : Nat) (l0 : List Int) (a1 : Int) (r1 : Int) (r2 : List Int) (w : World) (hr0 : Kd.C (Kd.int .i64) w A0 l0.length l0) (hc0 : l0.length ≤ c0) (h : FD.f k l0 a1 = some (r1, r2)) :
  Calls Try.prog 59 #[.slice A0 l0.length c0, .int .i64 a1] w fun e w' => ∃ v1_ : Value, e = .returned (.agg #[.int .i64 r1, v1_]) ∧ Kd.R (Kd.int .i64) 3 w' w.heap.size (fun _ => True) v1_ r2 ∧ Below w.heap.size w w' := by
 have hu26 := Try.underlying26
 have HR0 := am hr0
 have HC0 := am hc0
 clear hr0 hc0
 have HB := am (Below.refl w.heap.size w)
 have H : ((Fea.f (wrap64 ((l0.length : Int) * a1))).bind fun bt20 => (FD.l0 k a1 l0 (l0.length : Int) 0 bt20.1 bt20.2)) = some (r1, r2) := h
 clear h
 replace H := Option.bind_eq_some_iff.mp H
 obtain ⟨⟨t20, t21⟩, A30, H⟩ := H
 try dsimp only at H
 have A3 := am A30
 clear A30
 have H' := am H
 clear H
 go_enter Try.func59, Try.ntmps59
 go_wp2_with (first | ((with_reducible refine gate_dst (N := 4) rfl ?_); refine box_event ?hg (N := 4) ?hd (cs := #[.int .i64 0, .slice none 0 0]) (t := 26) ?hr ?_; (case hd => rfl); (case hg => rfl); (case hr => exact Z111); intro gb22 hg w4 hbox hb; have BK22 := am (hbox); have GW22 := nG HB hg; have GE22 := nG HB hg; have GI22 := gI GE22; replace HB := am (below_step (uN HB) hb); clear hb hbox hg) | ((with_reducible refine gate_callee (f := 57) rfl ?_); refine gL 12 rfl Try.func57 #[.int .i64 (wrap64 ((l0.length : Int) * a1))] ?_; (with_reducible refine (Fea.calls (wrap64 ((l0.length : Int) * a1)) t20 t21 _ A3.out).mono ?_); rintro e w5 ⟨v23, rfl, ho0, hb⟩; refine ⟨_, rfl, ?_⟩; have HO24 := am (Kd.R_lower ho0 (below_size Z60)); replace BK22 := kB BK22 hb; replace HB := am (below_step Z60 hb); (try clear hb); (try clear hb2); (try clear hk); (try clear hi); (try clear ho0)) | ((with_reducible refine gate_dst (N := 5) rfl ?_); refine box_event ?hg (N := 5) ?hd (cs := #[.int .i64 0, .slice none 0 0]) (t := 26) ?hr ?_; (case hd => rfl); (case hg => rfl); (case hr => exact Z111); intro gb25 hg w6 hbox hb; replace HO24 := rB HO24 hb; have BK25 := am (hbox); have GW25 := am ((by rw [hg]; exact (below_size Z60) : w.heap.size ≤ gb25)); have GE25 := am ((by rw [hg]; exact (below_size Z60) : w.heap.size ≤ gb25)); replace HB := am (below_step Z60 hb); have NB22_25 := nL BK22 hg; have NB25_22 := nR BK22 hg; replace BK22 := kB BK22 hb; clear hb hbox hg; have hnb7 := NB25_22.out; have hnc7 := NB22_25.out; obtain ⟨hcz8_0, hcz8_1, hfz8_0, hfz8_1⟩ := ce2 BK25; obtain ⟨Ao9, co9, eo9⟩ := Kd.R_slice HO24.out; subst eo9))
 go_loopg [15] k (fun kq v15 w' => ∃ (x15_1 : Int) (x27_1 : List Int) (u27 : Value), v15 = .int .i64 x15_1 ∧ Aside0 (FD.l0 kq a1 l0 (l0.length : Int) x15_1 t20 x27_1 = some (r1, r2)) ∧ Aside0 (kq ≤ k) ∧ Aside0 (Kd.R (Kd.int .i64) 3 w' w.heap.size (fun _ => True) u27 x27_1) ∧ Aside0 (w'.heap[gb22]? = some (.cells #[.int .i64 0, (.slice none 0 0)] 26 (0, 0))) ∧ Aside0 (w'.heap[gb25]? = some (.cells #[.int .i64 t20, u27] 26 (0, 0))) ∧ Aside0 (Below w.heap.size w w'))
 case atStart => exact ⟨(0), (t21), (.slice Ao9 t21.length co9), Z110, H', ⟨Nat.le_refl _⟩, ⟨by (with_reducible repeat (first | apply Kd.R_alloc | apply Kd.R_drewN | apply Kd.R_drew)); exact Kd.R_mono (fT HO24 BK25 Z16) (fun _ hk => trivial)⟩, ⟨pf NB22_25 (pf NB22_25 (pb BK22))⟩, ⟨pT (pp 1 (pp 0 (pb BK25)))⟩, ⟨Z61⟩⟩
 case round =>
  clear H'
  try clear p2
  try clear c5
  try clear p6
  try clear c7
  try clear hcz8_0 hcz8_1
  try clear hfz8_0 hfz8_1
  try clear HO_27
  obtain ⟨x15_1, x27_1, u27, rfl, HA, HK1, HO_27, BK22, BK25, HB⟩ := hrel
  cases gk with
  | zero => exact absurd HA.out (by simp [FD.l0])
  | succ k1 =>
   have H := HA.out
   clear HA
   simp only [FD.l0] at H
   by_cases c10 : x15_1 < (l0.length : Int)
   rotate_left
   ·
    rw [if_neg c10] at H
    have c10b0 := decide_eq_false c10
    clear c10
    simp only [Option.some.injEq, Prod.mk.injEq] at H
    obtain ⟨rfl, rfl⟩ := H
    have hnb16 := NB25_22.out
    have hnc16 := NB22_25.out
    obtain ⟨hcz17_0, hcz17_1, hfz17_0, hfz17_1⟩ := ce2 BK25
    obtain ⟨hcz18_0, hcz18_1, hfz18_0, hfz18_1⟩ := ce2 BK22
    obtain ⟨Ao19, co19, eo19⟩ := Kd.R_slice HO_27.out
    subst eo19
    go_wp2
    refine bodyPost_ret (results_cell_row rfl _ _ gb22 26 #[.int .i64 t20, .slice Ao19 x27_1.length co19] (0, 0) _ rfl (pT (pp 1 (pp 0 (pb BK22)))) Try.underlying26 rfl Z112) rfl ?_
    exact ⟨_, Z109, by (with_reducible repeat (first | apply Kd.R_alloc | apply Kd.R_drewN | apply Kd.R_drew)); exact Kd.R_mono (fT HO_27 BK22 Z16) (fun _ hk => trivial), Z61⟩
   rw [if_pos c10] at H
   have c10b0 := decide_eq_true c10
   clear c10
   by_cases c11 : 0 ≤ x15_1
   rotate_left
   ·
    rw [if_neg c11] at H
    exact absurd H Z43
   rw [if_pos c11] at H
   have c11b0 := decide_eq_true c11
   clear c11
   by_cases c12 : x15_1 < (l0.length : Int)
   rotate_left
   ·
    rw [if_neg c12] at H
    exact absurd H Z43
   rw [if_pos c12] at H
   have c12b0 := decide_eq_true c12
   clear c12
   replace H := Option.bind_eq_some_iff.mp H
   obtain ⟨t28, A29, H⟩ := H
   try dsimp only at H
   have A13 := am A29
   clear A29
   have H' := am H
   clear H
   have p31 : 0 ≤ (x15_1 : Int) := of_decide_eq_true Z6
   have q31 : x15_1 < (l0.length : Int) := of_decide_eq_true Z6
   obtain ⟨ad31, e31, hx31_0⟩ := Kd.at_int HR0.out x15_1 p31 q31
   cases e31
   replace hx31_0 := (HB.out.cell (World.block_lt_of_cell? w _ hx31_0)).trans hx31_0
   replace p31 := eq_true p31
   replace q31 := eq_true q31
   obtain ⟨Ao14, co14, eo14⟩ := Kd.R_slice HO_27.out
   subst eo14
   go_wp2_with (first | ((with_reducible refine gate_callee (f := 84) rfl ?_); refine gL 25 rfl Try.func84 #[.pointer (some ⟨gb25, 0, none⟩), .int .i64 (wrap64 (x15_1 * a1)), .int .i64 a1, .int .i64 (rd l0 x15_1)] ?_; (with_reducible refine (FC.calls k1 gb25 t20 (fun k_ => some k_ = (.slice Ao14 x27_1.length co14 : Value).ownBlock) (.slice Ao14 x27_1.length co14) x27_1 (wrap64 (x15_1 * a1)) a1 (rd l0 x15_1) t28 w _ ?side1 ?side2 ?side3 A13.out).mono ?_); (case side1 => exact Z61); (case side2 => exact (uK BK25)); (case side3 => exact Kd.R_tight rfl HO_27.out); rintro e w15 ⟨rfl, hy0, hb, hkp⟩; refine ⟨_, rfl, ?_⟩; replace BK22 := am (blk_kept (uK BK22) hkp (fun hs_ => (fun e_ => (Kd.R_ne HO_27.out BK22.out Z16) e_) hs_)); replace BK25 := am (blk_kept (uK BK25) hkp (fun hs_ => (fun e_ => (Kd.R_ne HO_27.out BK25.out Z16) e_) hs_)); replace HO_27 := am (Kd.R_reok rfl hy0 (fun k_ e_ => HO_27.out.1 k_ e_)); replace HB := am (hb); (try clear hb); (try clear hkp); (try clear hy0)))
   go_roundg k1
   case measure => have := HK1.out; omega
   case rel => exact ⟨(wrap64 (x15_1 + 1)), (t28), (.slice Ao14 x27_1.length co14), Z110, H', ⟨by have := HK1.out; omega⟩, ⟨by (with_reducible repeat (first | apply Kd.R_alloc | apply Kd.R_drewN | apply Kd.R_drew)); exact HO_27.out⟩, ⟨pb BK22⟩, ⟨pb BK25⟩, ⟨Z61⟩⟩

end Go.Proofs.Ytllaofiopnhdgaa.PFnSparseParts
