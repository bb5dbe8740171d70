-- made by wip/tools/myprint.py over the kit's print, for this claim
import Derived.Test.YtllaofiopnhdgaaPFnSparseCountsx0
import Derived.Test.YtllaofiopnhdgaaPFnSparseCountsx7
namespace Go.Proofs.Ytllaofiopnhdgaa.PFnSparseCounts
open Go.RowKit Go.Proofs.YtllaofiopnhdgaaW.PrintWords Go.Proofs.YtllaofiopnhdgaaW.PrintLast Go.Proofs.YtllaofiopnhdgaaW.PrintMore
open List (setIfInBounds_toArray set_cons_zero set_cons_succ)
attribute [local go_sem] max2_int min2_int max_two min_two max_three min_three max_four min_four   -- for this text's walks alone
set_option linter.unusedVariables false
set_option linter.unusedSimpArgs false

/-! ### impl_Bits_set_in26_0: function 58 -/
def impl_Bits_set_in26_0.f (a0_0 : Int) (l0_1 : List Int) (a1 : Int) (a2 : Bool) : Option (List Int) := if 0 ≤ (wrap64 (Int.tdiv a1 16)) then (if (wrap64 (Int.tdiv a1 16)) < (l0_1.length : Int) then (if 0 ≤ (Int.tmod a1 16) then ((some (l0_1.set ((wrap64 (Int.tdiv a1 16)) : Int).toNat (Go.bits .andNot .i64 (rd l0_1 (wrap64 (Int.tdiv a1 16))) (shl .i64 1 (Int.tmod a1 16))) : List Int)).bind fun y385 => (if a2 = true then (some (y385.set ((wrap64 (Int.tdiv a1 16)) : Int).toNat (Go.bits .or .i64 (rd y385 (wrap64 (Int.tdiv a1 16))) (shl .i64 1 (Int.tmod a1 16))))) else (some y385))) else (none)) else (none)) else (none)
def impl_Bits_set_in26_0.T0 : Bool × List (List Nat × List Nat) := (true, [([], []), ([0], [0]), ([1], [1]), ([2], [2]), ([], []), ([4], [4]), ([3, 5], [3, 5]), ([6], [6]), ([], []), ([8], [8]), ([9], [9]), ([7, 10], [7, 10]), ([3, 5, 0, 1, 2, 3, 4, 5, 6, 7, 8, 9, 10, 11], [3, 5]), ([12, 11, 0, 1, 2, 3, 4, 5, 6, 7, 8, 9, 10, 11], [11, 12])])
def impl_Bits_set_in26_0.B0 : List Nat := [0, 1, 3, 7, 0, 16, 63, 127, 0, 256, 768, 2047, 4095, 8191]
theorem impl_Bits_set_in26_0.tab0 : rtab .any (opsOf Try.f58 0) = impl_Bits_set_in26_0.T0 := by kernel_rfl
theorem impl_Bits_set_in26_0.bits0 : waitsOk impl_Bits_set_in26_0.T0.2 impl_Bits_set_in26_0.B0 = true := by kernel_rfl
def impl_Bits_set_in26_0.T2 : Bool × List (List Nat × List Nat) := (true, [([], []), ([0], [0]), ([1], [1]), ([2], [2]), ([], []), ([4], [4]), ([3, 5], [3, 5]), ([6], [6]), ([], []), ([8], [8]), ([9], [9]), ([7, 10], [7, 10]), ([3, 5, 0, 1, 2, 3, 4, 5, 6, 7, 8, 9, 10, 11], [3, 5]), ([12, 11, 0, 1, 2, 3, 4, 5, 6, 7, 8, 9, 10, 11], [11, 12])])
def impl_Bits_set_in26_0.B2 : List Nat := [0, 1, 3, 7, 0, 16, 63, 127, 0, 256, 768, 2047, 4095, 8191]
theorem impl_Bits_set_in26_0.tab2 : rtab .any (opsOf Try.f58 2) = impl_Bits_set_in26_0.T2 := by kernel_rfl
theorem impl_Bits_set_in26_0.bits2 : waitsOk impl_Bits_set_in26_0.T2.2 impl_Bits_set_in26_0.B2 = true := by kernel_rfl
set_option maxHeartbeats 8000000 in
set_option maxRecDepth 100000 in
theorem impl_Bits_set_in26_0.calls (g0_0 : Nat) (a0_0 : Int) (P0_1_ : Nat → Prop) (u9000_ : Value) (l0_1 : List Int) (a1 : Int) (a2 : Bool) (r : List Int) (w0 w : World) (hB : Below w0.heap.size w0 w) (hb0_0 : w.heap[g0_0]? = some (.cells #[.int .i64 a0_0, u9000_] 26 (0, 0))) (ho0_1 : Kd.R (Kd.int .i64) 3 w w0.heap.size P0_1_ u9000_ l0_1) (h : impl_Bits_set_in26_0.f a0_0 l0_1 a1 a2 = some r) :
  Calls Try.prog 58 #[.pointer (some ⟨g0_0, 0, none⟩), .int .i64 a1, .bool a2] w fun e w' => e = .returned (.tuple #[]) ∧ Kd.R (Kd.int .i64) 3 w' w0.heap.size (fun k_ => (P0_1_ k_ ∨ w.heap.size ≤ k_)) u9000_ r ∧ Below w0.heap.size w0 w' ∧ Kept w w' (fun k_ => P0_1_ k_) := by
 have HO0_1 := Aside0.mk (show Kd.R (Kd.int .i64) 3 w w0.heap.size (fun k_ => (P0_1_ k_ ∨ w.heap.size ≤ k_)) u9000_ l0_1 from Kd.R_mono ho0_1 (fun k_ hk => (.inl hk)))
 have HK := Aside0.mk (Kept.refl w (fun k_ => P0_1_ k_))
 have BK383 := Aside0.mk hb0_0
 clear hb0_0
 have HW0 := Aside0.mk hB.size
 have HB := Aside0.mk hB
 clear hB
 have H : (if 0 ≤ (wrap64 (Int.tdiv a1 16)) then (if (wrap64 (Int.tdiv a1 16)) < (l0_1.length : Int) then (if 0 ≤ (Int.tmod a1 16) then ((some (l0_1.set ((wrap64 (Int.tdiv a1 16)) : Int).toNat (Go.bits .andNot .i64 (rd l0_1 (wrap64 (Int.tdiv a1 16))) (shl .i64 1 (Int.tmod a1 16))) : List Int)).bind fun y385 => (if a2 = true then (some (y385.set ((wrap64 (Int.tdiv a1 16)) : Int).toNat (Go.bits .or .i64 (rd y385 (wrap64 (Int.tdiv a1 16))) (shl .i64 1 (Int.tmod a1 16))))) else (some y385))) else (none)) else (none)) else (none)) = some r := h
 clear h
 obtain ⟨ji4, hji4⟩ : ∃ j_ : Int, (wrap64 (Int.tdiv a1 16)) = j_ := ⟨_, rfl⟩
 replace H : (if 0 ≤ (ji4) then (if (ji4) < (l0_1.length : Int) then (if 0 ≤ (Int.tmod a1 16) then ((some (l0_1.set ((ji4) : Int).toNat (Go.bits .andNot .i64 (rd l0_1 (ji4)) (shl .i64 1 (Int.tmod a1 16))) : List Int)).bind fun y385 => (if a2 = true then (some (y385.set ((ji4) : Int).toNat (Go.bits .or .i64 (rd y385 (ji4)) (shl .i64 1 (Int.tmod a1 16))))) else (some y385))) else (none)) else (none)) else (none)) = some r := by first | (rw [hji4] at H; exact H) | (simp only [hji4] at H ⊢; exact H)
 have hji4w : (IntKind.i64.wrap (Int.tdiv a1 16)) = ji4 := (i64_w _).trans hji4
 by_cases c5 : 0 ≤ (ji4)
 ·
  rw [if_pos c5] at H
  have c5b0 : decide (0 ≤ (ji4)) = true := decide_eq_true c5
  clear c5
  by_cases c6 : (ji4) < (l0_1.length : Int)
  ·
   rw [if_pos c6] at H
   have c6b0 : decide ((ji4) < (l0_1.length : Int)) = true := decide_eq_true c6
   clear c6
   obtain ⟨ji7, hji7⟩ : ∃ j_ : Int, (Int.tmod a1 16) = j_ := ⟨_, rfl⟩
   replace H : (if 0 ≤ (ji7) then ((some (l0_1.set ((ji4) : Int).toNat (Go.bits .andNot .i64 (rd l0_1 (ji4)) (shl .i64 1 (ji7))) : List Int)).bind fun y385 => (if a2 = true then (some (y385.set ((ji4) : Int).toNat (Go.bits .or .i64 (rd y385 (ji4)) (shl .i64 1 (ji7))))) else (some y385))) else (none)) = some r := by first | (rw [hji7] at H; exact H) | (simp only [hji7] at H ⊢; exact H)
   by_cases c8 : 0 ≤ (ji7)
   ·
    rw [if_pos c8] at H
    have c8b0 := eq_true c8
    have c8b1 : decide (0 ≤ (ji7)) = true := decide_eq_true c8
    clear c8
    obtain ⟨ji9, hji9⟩ : ∃ j_ : Int, (shl .i64 1 (ji7)) = j_ := ⟨_, rfl⟩
    replace H : ((some (l0_1.set ((ji4) : Int).toNat (Go.bits .andNot .i64 (rd l0_1 (ji4)) (ji9)) : List Int)).bind fun y385 => (if a2 = true then (some (y385.set ((ji4) : Int).toNat (Go.bits .or .i64 (rd y385 (ji4)) (ji9)))) else (some y385))) = some r := by first | (rw [hji9] at H; exact H) | (simp only [hji9] at H ⊢; exact H)
    have hji9_ : (IntKind.i64.wrap (1 * 2 ^ min (ji7).toNat 64)) = ji9 := hji9
    have hji9z : (ji7) ≤ 64 → (IntKind.i64.wrap (1 * 2 ^ (ji7).toNat)) = ji9 := shl_small hji9
    have hji9u : (IntKind.i64.wrap (2 ^ min (ji7).toNat 64)) = ji9 := by have h_ := hji9_; rw [Int.one_mul] at h_; exact h_
    have hji9v : (ji7) ≤ 64 → (IntKind.i64.wrap (2 ^ (ji7).toNat)) = ji9 := fun hle_ => by have h_ := hji9z hle_; rw [Int.one_mul] at h_; exact h_
    have hji9y : (wrap64 (1 * 2 ^ min (ji7).toNat 64)) = ji9 := (i64_w _).symm.trans hji9_
    have hji9x : (ji7) ≤ 64 → (wrap64 (1 * 2 ^ (ji7).toNat)) = ji9 := fun h_ => (i64_w _).symm.trans (hji9z h_)
    obtain ⟨y385, hy385⟩ : ∃ y_ : List Int, y_ = (l0_1.set ((ji4) : Int).toNat (Go.bits .andNot .i64 (rd l0_1 (ji4)) (ji9))) := ⟨_, rfl⟩
    replace H : (if a2 = true then (some (y385.set ((ji4) : Int).toNat (Go.bits .or .i64 (rd y385 (ji4)) (ji9)))) else (some y385)) = some r := by first | (rw [hy385]; with_reducible exact H) | (have H2_ := (Option.bind_some _ _).symm.trans H; rw [hy385]; with_reducible exact H2_) | (have H2_ := (Option.bind_some _ _).symm.trans H; with_reducible exact H2_) | with_reducible exact H | (rw [hy385]; exact H) | exact H
    have Ny385 := Aside0.mk hy385
    clear hy385
    by_cases c11 : a2 = true
    ·
     subst c11
     rw [if_pos rfl] at H
     have c12b0 := eq_true (of_decide_eq_true Z6 : 0 ≤ (ji7))
     obtain ⟨y387, hy387⟩ : ∃ y_ : List Int, y_ = (y385.set ((ji4) : Int).toNat (Go.bits .or .i64 (rd y385 (ji4)) (ji9))) := ⟨_, rfl⟩
     replace H : (some y387) = some r := by first | (rw [hy387]; with_reducible exact H) | (have H2_ := (Option.bind_some _ _).symm.trans H; rw [hy387]; with_reducible exact H2_) | (have H2_ := (Option.bind_some _ _).symm.trans H; with_reducible exact H2_) | with_reducible exact H | (rw [hy387]; exact H) | exact H
     have Ny387 := Aside0.mk hy387
     clear hy387
     obtain rfl := Option.some.inj H
     go_enter Try.func58, Try.ntmps58
     try go_wp2
     replace HO0_1 := Aside0.mk (Kd.R_drew HO0_1.out)
     replace BK383 := Aside0.mk (blk_drew BK383.out)
     replace HK := Aside0.mk (Kept.drew HK.out)
     replace HB := Aside0.mk (below_drew1 HB.out)
     obtain ⟨Ao15, co15, eo15⟩ := Kd.R_slice HO0_1.out
     (first | subst eo15 | (injection eo15 with f1_ f2_ f3_; have f4_ := f1_.symm; have f5_ := f3_.symm; clear f1_ f2_ f3_; subst f4_; subst f5_))
     have p384 : 0 ≤ ((ji4) : Int) := of_decide_eq_true Z6
     have q384 : (ji4) < (l0_1.length : Int) := of_decide_eq_true Z6
     obtain ⟨ad384, e384, hx384_0⟩ := Kd.at_int (Kd.R_reads' HO0_1.out).2.2 (ji4) p384 q384
     cases e384
     replace p384 := eq_true p384
     replace q384 := eq_true q384
     have p10 : 0 ≤ ((ji4) : Int) := of_decide_eq_true Z6
     have q10 : ((ji4) : Int) < ((l0_1.length : Int) : Int) := of_decide_eq_true Z6
     obtain ⟨go10, co10, eo10, gb10, gl10, cl10, HG10⟩ := Kd.R_form HO0_1.out Z69
     (first | cases eo10 | (injection eo10 with ea_ en_ ec_; (first | subst ea_ | (injection ea_ with ea_; subst ea_)); subst ec_; clear en_))
     have GB10 := Aside0.mk gb10
     have GG10 := Aside0.mk HG10
     clear gb10 gl10 HG10
     have HMgo10 := Aside0.mk (show (P0_1_ go10 ∨ w.heap.size ≤ go10) from (HO0_1.out.1 _ rfl))
     (first | simp only [add_plain] at hx384_0 | skip)
     obtain ⟨hx10_0, hf10_0⟩ := Kd.R_celln 0 HO0_1.out ((ji4) : Int) p10 q10
     replace p10 := eq_true p10
     replace q10 := eq_true q10
     have HP16 := Kd.R_putn HO0_1.out ((ji4) : Int) (Go.bits .andNot .i64 (rd l0_1 (ji4)) (ji9))
     rw [← Ny385.out] at HP16
     have HQ16 := Aside0.mk HP16
     clear HP16
     refine start_ (n := 14) (S := fun w' => w'.cell? ⟨g0_0, 0, none⟩ = some (.int .i64 a0_0) ∧ w'.cell? ⟨g0_0, 1, none⟩ = some (.slice (some ⟨go10, 0, none⟩) l0_1.length co15) ∧ w'.cell? ⟨go10, ((ji4)).toNat, none⟩ = some (.int .i64 (rd l0_1 (ji4)))) (ds := [13]) (bA 14 0) Z92 rfl rfl ⟨bc BK383 0, bc BK383 1, hx384_0⟩ (fun hHeld => ?_); refine with_tabW impl_Bits_set_in26_0.tab0 impl_Bits_set_in26_0.bits0 (fun HT_ HW_ => ?_)
     generalize w.drew = w14 at HO0_1 BK383 HK HB GG10 HQ16 hf10_0 hx10_0 hx384_0 hHeld ⊢
     refine pS 0 6 (bA 14 1) ?_
     refine pS 1 7 (bA 14 3) ?_
     refine pS 2 8 (bA 14 7) ?_
     refine pS 4 10 (bA 14 23) ?_
     refine pS 5 11 (bA 14 55) ?_
     refine pS 8 14 (bA 14 311) ?_
     refine pS 9 15 (bA 14 823) ?_
     refine pS 10 16 (bA 14 1847) ?_
     refine tS3 3 9 (bA 14 1855) hHeld ?_
     refine pS 6 12 (bA 14 1919) ?_
     refine tS3 7 13 (bA 14 2047) hHeld ?_
     refine pS 11 17 (bA 14 4095) ?_
     refine pS 12 18 (bA 14 8191) ?_
     refine last_ (i := 13) (N := none) (bA 14 16383) rfl rfl (one_of HT_.out Z92) Z19 (fun K hK => ?_)
     refine skip_ (w1 := ?_) Z63 rfl ?_ ?_
     rotate_left
     ·
      go_simp
      rfl
     refine hK.out _ _ ?_
     clear hK K
     refine done_ (done_of HT_.out Z92) ?_
     try go_wp2
     have n0_ : Aside0 (Kd.R (Kd.int .i64) 3 (w14.setCell ⟨go10, ((ji4) : Int).toNat, none⟩ (.int .i64 (Go.bits .andNot .i64 (rd l0_1 (ji4)) (ji9)))) w0.heap.size (fun k_ => (P0_1_ k_ ∨ w.heap.size ≤ k_)) (.slice (some ⟨go10, 0, none⟩) l0_1.length co15) y385) := ⟨by (with_reducible repeat (first | apply Kd.R_alloc | apply Kd.R_drewN | apply Kd.R_drew)); exact HQ16.out⟩
     have n1_ : Aside0 ((w14.setCell ⟨go10, ((ji4) : Int).toNat, none⟩ (.int .i64 (Go.bits .andNot .i64 (rd l0_1 (ji4)) (ji9)))).heap[g0_0]? = some (.cells #[.int .i64 a0_0, .slice (some ⟨go10, 0, none⟩) l0_1.length co15] 26 (0, 0))) := ⟨by refine uW ?_; refine blk_far ?_ (by have h_ := Kd.R_ne HO0_1.out BK383.out Z19; intro e_; exact h_ (by rw [e_]; rfl)) _; refine uW ?_; exact BK383.out⟩
     have n2_ : Aside0 (Kept w (w14.setCell ⟨go10, ((ji4) : Int).toNat, none⟩ (.int .i64 (Go.bits .andNot .i64 (rd l0_1 (ji4)) (ji9)))) (fun k_ => P0_1_ k_)) := ⟨Z61⟩
     have n3_ : Aside0 (Below w0.heap.size w0 (w14.setCell ⟨go10, ((ji4) : Int).toNat, none⟩ (.int .i64 (Go.bits .andNot .i64 (rd l0_1 (ji4)) (ji9))))) := ⟨Z62⟩
     (try clear HO0_1)
     (try clear BK383)
     (try clear HK)
     (try clear HB)
     generalize (w14.setCell ⟨go10, ((ji4) : Int).toNat, none⟩ (.int .i64 (Go.bits .andNot .i64 (rd l0_1 (ji4)) (ji9)))) = w17 at n0_ n1_ n2_ n3_ ⊢
     have HO0_1 := n0_
     have BK383 := n1_
     have HK := n2_
     have HB := n3_
     clear n0_ n1_ n2_ n3_
     replace HO0_1 := Aside0.mk (Kd.R_drew HO0_1.out)
     replace BK383 := Aside0.mk (blk_drew BK383.out)
     replace HK := Aside0.mk (Kept.drew HK.out)
     replace HB := Aside0.mk (below_drew1 HB.out)
     have p386 : 0 ≤ ((ji4) : Int) := of_decide_eq_true Z6
     have q386 : (ji4) < (y385.length : Int) := (by have h_ : ((ji4) : Int) < ((l0_1.length : Int) : Int) := of_decide_eq_true Z6; first | (have e_ := (Kd.R_reads' HO0_1.out).1; omega) | simpa only [Ny385.out, List.length_set] using h_)
     have ql386 : (((ji4) : Int) < ((l0_1.length : Int) : Int)) = True := eq_true (of_decide_eq_true Z6)
     obtain ⟨ad386, e386, hx386_0⟩ := Kd.at_int (Kd.R_reads' HO0_1.out).2.2 (ji4) p386 q386
     obtain rfl : (⟨go10, 0, none⟩ : Addr) = ad386 := (by injection e386)
     (first | simp only [add_plain] at hx386_0 | simp only [add_at] at hx386_0 | simp only [Addr.add, Nat.zero_add] at hx386_0 | skip)
     replace p386 := eq_true p386
     replace q386 := eq_true q386
     have p13 : 0 ≤ ((ji4) : Int) := of_decide_eq_true Z6
     have q13 : ((ji4) : Int) < ((l0_1.length : Int) : Int) := of_decide_eq_true Z6
     obtain ⟨hx13_0, hf13_0⟩ := Kd.R_celln 0 HO0_1.out ((ji4) : Int) p13 q13
     replace p13 := eq_true p13
     replace q13 := eq_true q13
     have HP19 := Kd.R_putn HO0_1.out ((ji4) : Int) (Go.bits .or .i64 (rd y385 (ji4)) (ji9))
     rw [← Ny387.out] at HP19
     have HQ19 := Aside0.mk HP19
     clear HP19
     refine start_ (n := 14) (S := fun w' => w'.cell? ⟨g0_0, 0, none⟩ = some (.int .i64 a0_0) ∧ w'.cell? ⟨g0_0, 1, none⟩ = some (.slice (some ⟨go10, 0, none⟩) l0_1.length co15) ∧ w'.cell? ⟨go10, ((ji4)).toNat, none⟩ = some (.int .i64 (rd y385 (ji4)))) (ds := [13]) (bA 14 0) Z92 rfl rfl ⟨bc BK383 0, bc BK383 1, hx386_0⟩ (fun hHeld => ?_); refine with_tabW impl_Bits_set_in26_0.tab2 impl_Bits_set_in26_0.bits2 (fun HT_ HW_ => ?_)
     generalize w17.drew = w18 at HO0_1 BK383 HK HB HQ16 HQ19 hf13_0 hx13_0 hx386_0 hHeld ⊢
     refine pS 0 20 (bA 14 1) ?_
     refine pS 1 21 (bA 14 3) ?_
     refine pS 2 22 (bA 14 7) ?_
     refine pS 4 24 (bA 14 23) ?_
     refine pS 5 25 (bA 14 55) ?_
     refine pS 8 28 (bA 14 311) ?_
     refine pS 9 29 (bA 14 823) ?_
     refine pS 10 30 (bA 14 1847) ?_
     refine tS3 3 23 (bA 14 1855) hHeld ?_
     refine pS 6 26 (bA 14 1919) ?_
     refine tS3 7 27 (bA 14 2047) hHeld ?_
     refine pS 11 31 (bA 14 4095) ?_
     refine pS 12 32 (bA 14 8191) ?_
     refine last_ (i := 13) (N := none) (bA 14 16383) rfl rfl (one_of HT_.out Z92) Z19 (fun K hK => ?_)
     refine skip_ (w1 := ?_) Z63 rfl ?_ ?_
     rotate_left
     ·
      go_simp
      rfl
     refine hK.out _ _ ?_
     clear hK K
     refine done_ (done_of HT_.out Z92) ?_
     try go_wp2
     first | go_end0 | ((try simp only [Exit.inBlock, Exit.then]); refine bodyPost_ret (results_none rfl _ _ _) rfl ?_)
     exact ⟨Z98, by (with_reducible repeat (first | apply Kd.R_alloc | apply Kd.R_drewN | apply Kd.R_drew)); exact HQ19.out, Z62, Z61⟩
    replace c11 := Bool.eq_false_iff.mpr c11
    subst c11
    rw [if_neg (show ¬ (false = true) from Z19)] at H
    obtain rfl := Option.some.inj H
    go_enter Try.func58, Try.ntmps58
    try go_wp2
    replace HO0_1 := Aside0.mk (Kd.R_drew HO0_1.out)
    replace BK383 := Aside0.mk (blk_drew BK383.out)
    replace HK := Aside0.mk (Kept.drew HK.out)
    replace HB := Aside0.mk (below_drew1 HB.out)
    obtain ⟨Ao21, co21, eo21⟩ := Kd.R_slice HO0_1.out
    (first | subst eo21 | (injection eo21 with f1_ f2_ f3_; have f4_ := f1_.symm; have f5_ := f3_.symm; clear f1_ f2_ f3_; subst f4_; subst f5_))
    have p384 : 0 ≤ ((ji4) : Int) := of_decide_eq_true Z6
    have q384 : (ji4) < (l0_1.length : Int) := of_decide_eq_true Z6
    obtain ⟨ad384, e384, hx384_0⟩ := Kd.at_int (Kd.R_reads' HO0_1.out).2.2 (ji4) p384 q384
    cases e384
    replace p384 := eq_true p384
    replace q384 := eq_true q384
    have p10 : 0 ≤ ((ji4) : Int) := of_decide_eq_true Z6
    have q10 : ((ji4) : Int) < ((l0_1.length : Int) : Int) := of_decide_eq_true Z6
    obtain ⟨go10, co10, eo10, gb10, gl10, cl10, HG10⟩ := Kd.R_form HO0_1.out Z69
    (first | cases eo10 | (injection eo10 with ea_ en_ ec_; (first | subst ea_ | (injection ea_ with ea_; subst ea_)); subst ec_; clear en_))
    have GB10 := Aside0.mk gb10
    have GG10 := Aside0.mk HG10
    clear gb10 gl10 HG10
    have HMgo10 := Aside0.mk (show (P0_1_ go10 ∨ w.heap.size ≤ go10) from (HO0_1.out.1 _ rfl))
    (first | simp only [add_plain] at hx384_0 | skip)
    obtain ⟨hx10_0, hf10_0⟩ := Kd.R_celln 0 HO0_1.out ((ji4) : Int) p10 q10
    replace p10 := eq_true p10
    replace q10 := eq_true q10
    have HP22 := Kd.R_putn HO0_1.out ((ji4) : Int) (Go.bits .andNot .i64 (rd l0_1 (ji4)) (ji9))
    rw [← Ny385.out] at HP22
    have HQ22 := Aside0.mk HP22
    clear HP22
    refine start_ (n := 14) (S := fun w' => w'.cell? ⟨g0_0, 0, none⟩ = some (.int .i64 a0_0) ∧ w'.cell? ⟨g0_0, 1, none⟩ = some (.slice (some ⟨go10, 0, none⟩) l0_1.length co21) ∧ w'.cell? ⟨go10, ((ji4)).toNat, none⟩ = some (.int .i64 (rd l0_1 (ji4)))) (ds := [13]) (bA 14 0) Z92 rfl rfl ⟨bc BK383 0, bc BK383 1, hx384_0⟩ (fun hHeld => ?_); refine with_tabW impl_Bits_set_in26_0.tab0 impl_Bits_set_in26_0.bits0 (fun HT_ HW_ => ?_)
    generalize w.drew = w20 at HO0_1 BK383 HK HB GG10 HQ22 hf10_0 hx10_0 hx384_0 hHeld ⊢
    refine pS 0 6 (bA 14 1) ?_
    refine pS 1 7 (bA 14 3) ?_
    refine pS 2 8 (bA 14 7) ?_
    refine pS 4 10 (bA 14 23) ?_
    refine pS 5 11 (bA 14 55) ?_
    refine pS 8 14 (bA 14 311) ?_
    refine pS 9 15 (bA 14 823) ?_
    refine pS 10 16 (bA 14 1847) ?_
    refine tS3 3 9 (bA 14 1855) hHeld ?_
    refine pS 6 12 (bA 14 1919) ?_
    refine tS3 7 13 (bA 14 2047) hHeld ?_
    refine pS 11 17 (bA 14 4095) ?_
    refine pS 12 18 (bA 14 8191) ?_
    refine last_ (i := 13) (N := none) (bA 14 16383) rfl rfl (one_of HT_.out Z92) Z19 (fun K hK => ?_)
    refine skip_ (w1 := ?_) Z63 rfl ?_ ?_
    rotate_left
    ·
     go_simp
     rfl
    refine hK.out _ _ ?_
    clear hK K
    refine done_ (done_of HT_.out Z92) ?_
    try go_wp2
    first | go_end0 | ((try simp only [Exit.inBlock, Exit.then]); refine bodyPost_ret (results_none rfl _ _ _) rfl ?_)
    exact ⟨Z98, by (with_reducible repeat (first | apply Kd.R_alloc | apply Kd.R_drewN | apply Kd.R_drew)); exact HQ22.out, Z62, Z61⟩
   rw [if_neg c8] at H
   exact absurd H Z37
  rw [if_neg c6] at H
  exact absurd H Z37
 rw [if_neg c5] at H
 exact absurd H Z37

/-! ### impl_Bits_setField_in26_0: function 84 -/
def impl_Bits_setField_in26_0.l0 : Nat → Int → Int → Int → Int → Int → List Int → Option (List Int)
 | 0, _, _, _, _, _, _ => none
 | k + 1, x1, x3, x9, x10, x389000, x389001 => if x10 < x9 then (if 0 ≤ x10 then ((impl_Bits_set_in26_0.f x389000 x389001 (wrap64 (x1 + x10)) ((Go.bits .and .i64 (shr .i64 x3 x10) 1) == 1)).bind fun t389 => (impl_Bits_setField_in26_0.l0 k x1 x3 x9 (wrap64 (x10 + 1)) x389000 t389)) else (none)) else (some x389001)
def impl_Bits_setField_in26_0.f (k : Nat) (a0_0 : Int) (l0_1 : List Int) (a1 : Int) (a2 : Int) (a3 : Int) : Option (List Int) := impl_Bits_setField_in26_0.l0 k a1 a3 a2 0 a0_0 l0_1
theorem impl_Bits_setField_in26_0.mono_l : ∀ k, (∀ y0 y1 y2 y3 y4 y5, LeO (impl_Bits_setField_in26_0.l0 k y0 y1 y2 y3 y4 y5) (impl_Bits_setField_in26_0.l0 (k + 1) y0 y1 y2 y3 y4 y5))
 | 0 => fun _ _ _ _ _ _ r h => by simp [impl_Bits_setField_in26_0.l0] at h | k + 1 => by
  have ih0 := impl_Bits_setField_in26_0.mono_l k
  ·
   intro y0 y1 y2 y3 y4 y5
   unfold impl_Bits_setField_in26_0.l0
   repeat' first
   | with_reducible first | exact ih0 .. | exact LeO.refl _ | exact LeO.none _ | refine LeO.ite ?_ ?_ | refine LeO.bind ?_ (fun _ => ?_)
   | exact ih0 .. | exact LeO.none _ | refine LeO.ite ?_ ?_ | refine LeO.bind ?_ (fun _ => ?_)
theorem impl_Bits_setField_in26_0.mono : ∀ a0 a1 a2 a3 a4 k, LeO (impl_Bits_setField_in26_0.f k a0 a1 a2 a3 a4) (impl_Bits_setField_in26_0.f (k + 1) a0 a1 a2 a3 a4) := by
 intro a0 a1 a2 a3 a4 k
 have ih0 := impl_Bits_setField_in26_0.mono_l k
 unfold impl_Bits_setField_in26_0.f
 repeat' first
   | with_reducible first | exact ih0 .. | exact LeO.refl _ | exact LeO.none _ | refine LeO.ite ?_ ?_ | refine LeO.bind ?_ (fun _ => ?_)
   | exact ih0 .. | exact LeO.none _ | refine LeO.ite ?_ ?_ | refine LeO.bind ?_ (fun _ => ?_)
set_option maxHeartbeats 8000000 in
set_option maxRecDepth 100000 in
theorem impl_Bits_setField_in26_0.calls (k : Nat) (g0_0 : Nat) (a0_0 : Int) (P0_1_ : Nat → Prop) (u9000_ : Value) (l0_1 : List Int) (a1 : Int) (a2 : Int) (a3 : Int) (r : List Int) (w0 w : World) (hB : Below w0.heap.size w0 w) (hb0_0 : w.heap[g0_0]? = some (.cells #[.int .i64 a0_0, u9000_] 26 (0, 0))) (ho0_1 : Kd.R (Kd.int .i64) 3 w w0.heap.size P0_1_ u9000_ l0_1) (h : impl_Bits_setField_in26_0.f k a0_0 l0_1 a1 a2 a3 = some r) :
  Calls Try.prog 84 #[.pointer (some ⟨g0_0, 0, none⟩), .int .i64 a1, .int .i64 a2, .int .i64 a3] w fun e w' => e = .returned (.tuple #[]) ∧ Kd.R (Kd.int .i64) 3 w' w0.heap.size (fun k_ => (P0_1_ k_ ∨ w.heap.size ≤ k_)) u9000_ r ∧ Below w0.heap.size w0 w' ∧ Kept w w' (fun k_ => P0_1_ k_) := by
 have HO0_1 := Aside0.mk (show Kd.R (Kd.int .i64) 3 w w0.heap.size (fun k_ => (P0_1_ k_ ∨ w.heap.size ≤ k_)) u9000_ l0_1 from Kd.R_mono ho0_1 (fun k_ hk => (.inl hk)))
 have HK := Aside0.mk (Kept.refl w (fun k_ => P0_1_ k_))
 have BK388 := Aside0.mk hb0_0
 clear hb0_0
 have HW0 := Aside0.mk hB.size
 have HB := Aside0.mk hB
 clear hB
 have H : (impl_Bits_setField_in26_0.l0 k a1 a3 a2 0 a0_0 l0_1) = some r := h
 clear h
 have H' := Aside0.mk H
 clear H
 go_enter Try.func84, Try.ntmps84
 go_wp2
 go_loopg [10] k (fun kq v10 w' => ∃ (x10_1 : Int) (x389000_1 : Int) (x389001_1 : List Int), v10 = .int .i64 x10_1 ∧ Aside0 (impl_Bits_setField_in26_0.l0 kq a1 a3 a2 x10_1 x389000_1 x389001_1 = some r) ∧ Aside0 (kq ≤ k) ∧ Aside0 (Kd.R (Kd.int .i64) 3 w' w0.heap.size (fun k_ => (P0_1_ k_ ∨ w.heap.size ≤ k_)) u9000_ x389001_1) ∧ Aside0 (w'.heap[g0_0]? = some (.cells #[.int .i64 x389000_1, u9000_] 26 (0, 0))) ∧ Aside0 (Kept w w' (fun k_ => P0_1_ k_)) ∧ Aside0 (Below w0.heap.size w0 w'))
 case atStart => exact ⟨(0), (a0_0), (l0_1), Z91, H', ⟨Nat.le_refl _⟩, ⟨by (with_reducible repeat (first | apply Kd.R_alloc | apply Kd.R_drewN | apply Kd.R_drew)); exact HO0_1.out⟩, ⟨by refine uW ?_; exact BK388.out⟩, ⟨Z56⟩, ⟨Z58⟩⟩
 case round =>
  clear H'
  try clear p2
  try clear HO_389001
  obtain ⟨x10_1, x389000_1, x389001_1, rfl, HA, HK1, HO_389001, BK388, HK, HB⟩ := hrel
  cases gk with
  | zero => exact absurd HA.out (by simp [impl_Bits_setField_in26_0.l0])
  | succ k1 =>
   have H := HA.out
   clear HA
   simp only [impl_Bits_setField_in26_0.l0] at H
   by_cases c5 : x10_1 < a2
   ·
    rw [if_pos c5] at H
    have c5b0 : decide (x10_1 < a2) = true := decide_eq_true c5
    clear c5
    by_cases c6 : 0 ≤ x10_1
    ·
     rw [if_pos c6] at H
     have c6b0 := eq_true c6
     have c6b1 : decide (0 ≤ x10_1) = true := decide_eq_true c6
     clear c6
     obtain ⟨ji7, hji7⟩ : ∃ j_ : Int, (shr .i64 a3 x10_1) = j_ := ⟨_, rfl⟩
     replace H : ((impl_Bits_set_in26_0.f x389000_1 x389001_1 (wrap64 (a1 + x10_1)) ((Go.bits .and .i64 (ji7) 1) == 1)).bind fun t389 => (impl_Bits_setField_in26_0.l0 k1 a1 a3 a2 (wrap64 (x10_1 + 1)) x389000_1 t389)) = some r := by first | (rw [hji7] at H; exact H) | (simp only [hji7] at H ⊢; exact H)
     have hji7_ : (a3 / 2 ^ min x10_1.toNat 64) = ji7 := hji7
     have hji7z : x10_1 ≤ 64 → (a3 / 2 ^ x10_1.toNat) = ji7 := shr_small hji7
     replace H := Option.bind_eq_some_iff.mp H
     obtain ⟨t389, A80, H⟩ := H
     try dsimp only at H
     have A8 := Aside0.mk A80
     clear A80
     have H' := Aside0.mk H
     clear H
     obtain ⟨Ao9, co9, eo9⟩ := Kd.R_slice HO_389001.out
     subst eo9
     go_wp2_with (first | ((with_reducible refine gate_callee (f := 58) rfl ?_); refine goesL_ (some 22) rfl rfl Try.func58 Z92 rfl #[.pointer (some ⟨g0_0, 0, none⟩), .int .i64 (wrap64 (a1 + x10_1)), .bool ((Go.bits .and .i64 (ji7) 1) == 1)] rfl (by (try simp only [List.map_toArray, List.map_cons, List.map_nil]); first | done | (simp only [hji7]; rfl) | rfl | (simp only [List.length_drop, List.length_take]; rfl)) ?_; (with_reducible refine (impl_Bits_set_in26_0.calls g0_0 x389000_1 (fun k_ => some k_ = (.slice Ao9 x389001_1.length co9 : Value).ownBlock) (.slice Ao9 x389001_1.length co9) x389001_1 (wrap64 (a1 + x10_1)) ((Go.bits .and .i64 (ji7) 1) == 1) t389 w0 _ ?side1 ?side2 ?side3 A8.out).mono ?_); (case side1 => exact Z58); (case side2 => exact (uK BK388)); (case side3 => exact Kd.R_tight rfl HO_389001.out); rintro e w10 ⟨rfl, hy0, hb, hkp⟩; refine ⟨_, rfl, ?_⟩; replace BK388 := Aside0.mk (blk_kept (uK BK388) hkp (fun hs_ => (fun e_ => (Kd.R_ne HO_389001.out BK388.out Z19) e_) hs_)); replace HK := Aside0.mk (Kept.then_ (S := (fun k_ => P0_1_ k_)) Z56 hkp (fun k_ hs_ => (fun e_ => (HO_389001.out.1 k_ e_.symm)) hs_)); replace HO_389001 := Aside0.mk (Kd.R_reok rfl hy0 (fun k_ e_ => HO_389001.out.1 k_ e_)); replace HB := Aside0.mk (hb); (try clear hb); (try clear hkp); (try clear hy0)))
     go_roundg k1
     case measure => have := HK1.out; omega
     case rel => exact ⟨(wrap64 (x10_1 + 1)), (x389000_1), (t389), Z91, H', ⟨by have := HK1.out; omega⟩, ⟨Z82⟩, ⟨by refine uW ?_; exact BK388.out⟩, ⟨Z56⟩, ⟨Z58⟩⟩
    rw [if_neg c6] at H
    exact absurd H Z37
   rw [if_neg c5] at H
   have c5b0 : decide (x10_1 < a2) = false := decide_eq_false c5
   clear c5
   obtain rfl := Option.some.inj H
   go_wp2
   first | go_end0 | ((try simp only [Exit.inBlock, Exit.then]); refine bodyPost_ret (results_none rfl _ _ _) rfl ?_)
   exact ⟨Z90, Z82, Z58, Z56⟩

/-! ### impl_fields: function 59 -/
def impl_fields.l0 : Nat → Int → List Int → Int → Int → Int → List Int → Option (Int × List Int)
 | 0, _, _, _, _, _, _ => none
 | k + 1, x1, x13, x14, x15, x396000, x396001 => if x15 < x14 then (if 0 ≤ x15 then (if x15 < (x13.length : Int) then ((impl_Bits_setField_in26_0.f k x396000 x396001 (wrap64 (x15 * x1)) x1 (rd x13 x15)).bind fun t397 => (impl_fields.l0 k x1 x13 x14 (wrap64 (x15 + 1)) x396000 t397)) else (none)) else (none)) else (some (x396000, x396001))
def impl_fields.f (k : Nat) (l0 : List Int) (a1 : Int) : Option (Int × List Int) := (impl_blank.f (wrap64 ((l0.length : Int) * a1))).bind fun bt391 => (impl_fields.l0 k a1 l0 (l0.length : Int) 0 bt391.1 bt391.2)
theorem impl_fields.mono_l : ∀ k, (∀ y0 y1 y2 y3 y4 y5, LeO (impl_fields.l0 k y0 y1 y2 y3 y4 y5) (impl_fields.l0 (k + 1) y0 y1 y2 y3 y4 y5))
 | 0 => fun _ _ _ _ _ _ r h => by simp [impl_fields.l0] at h | k + 1 => by
  have ih0 := impl_fields.mono_l k
  ·
   intro y0 y1 y2 y3 y4 y5
   unfold impl_fields.l0
   repeat' first
   | with_reducible first | exact ih0 .. | exact impl_Bits_setField_in26_0.mono .. | exact LeO.refl _ | exact LeO.none _ | refine LeO.ite ?_ ?_ | refine LeO.bind ?_ (fun _ => ?_)
   | exact ih0 .. | exact impl_Bits_setField_in26_0.mono .. | exact LeO.none _ | refine LeO.ite ?_ ?_ | refine LeO.bind ?_ (fun _ => ?_)
theorem impl_fields.mono : ∀ a0 a1 k, LeO (impl_fields.f k a0 a1) (impl_fields.f (k + 1) a0 a1) := by
 intro a0 a1 k
 have ih0 := impl_fields.mono_l k
 unfold impl_fields.f
 repeat' first
   | with_reducible first | exact ih0 .. | exact impl_Bits_setField_in26_0.mono .. | exact LeO.refl _ | exact LeO.none _ | refine LeO.ite ?_ ?_ | refine LeO.bind ?_ (fun _ => ?_)
   | exact ih0 .. | exact impl_Bits_setField_in26_0.mono .. | exact LeO.none _ | refine LeO.ite ?_ ?_ | refine LeO.bind ?_ (fun _ => ?_)
set_option maxHeartbeats 8000000 in
set_option maxRecDepth 100000 in
theorem impl_fields.calls (k : Nat) (A0 : Option Addr) (c0 : Nat) (l0 : List Int) (a1 : Int) (r1 : Int) (r2 : List Int) (w : World) (hr0 : Kd.C (Kd.int .i64) w A0 l0.length l0) (hc0 : l0.length ≤ c0) (h : impl_fields.f k l0 a1 = some (r1, r2)) :
  Calls Try.prog 59 #[.slice A0 l0.length c0, .int .i64 a1] w fun e w' => ∃ v1_ : Value, e = .returned (.agg #[.int .i64 r1, v1_]) ∧ Kd.R (Kd.int .i64) 3 w' w.heap.size (fun _ => True) v1_ r2 ∧ Below w.heap.size w w' := by
 have hu26 := Try.underlying26
 have HR0 := Aside0.mk hr0
 have HC0 := Aside0.mk hc0
 clear hr0 hc0
 have HB := Aside0.mk (Below.refl w.heap.size w)
 have H : ((impl_blank.f (wrap64 ((l0.length : Int) * a1))).bind fun bt391 => (impl_fields.l0 k a1 l0 (l0.length : Int) 0 bt391.1 bt391.2)) = some (r1, r2) := h
 clear h
 replace H := Option.bind_eq_some_iff.mp H
 obtain ⟨⟨t391, t392⟩, A30, H⟩ := H
 try dsimp only at H
 have A3 := Aside0.mk A30
 clear A30
 have H' := Aside0.mk H
 clear H
 go_enter Try.func59, Try.ntmps59
 go_wp2_with (first | ((with_reducible refine gate_dst (N := 4) rfl ?_); refine box_event ?hg (N := 4) ?hd (cs := #[.int .i64 0, .slice none 0 0]) (t := 26) ?hr ?_; (case hd => rfl); (case hg => rfl); (case hr => exact Z93); intro gb390 hg w4 hbox hb; have BK390 := Aside0.mk (hbox); have GW390 := nG HB hg; have GE390 := nG HB hg; have GI390 := gI GE390; replace HB := Aside0.mk (below_step (uN HB) hb); clear hb hbox hg) | ((with_reducible refine gate_callee (f := 57) rfl ?_); refine goesL_ (some 12) rfl rfl Try.func57 Z92 rfl #[.int .i64 (wrap64 ((l0.length : Int) * a1))] rfl Z89 ?_; (with_reducible refine (impl_blank.calls (wrap64 ((l0.length : Int) * a1)) t391 t392 _ A3.out).mono ?_); rintro e w5 ⟨v393, rfl, ho0, hb⟩; refine ⟨_, rfl, ?_⟩; have HO394 := Aside0.mk (Kd.R_lower ho0 (below_size Z51)); replace BK390 := kB BK390 hb; replace HB := Aside0.mk (below_step Z51 hb); (try clear hb); (try clear hb2); (try clear hk); (try clear hi); (try clear ho0)) | ((with_reducible refine gate_dst (N := 5) rfl ?_); refine box_event ?hg (N := 5) ?hd (cs := #[.int .i64 0, .slice none 0 0]) (t := 26) ?hr ?_; (case hd => rfl); (case hg => rfl); (case hr => exact Z93); intro gb395 hg w6 hbox hb; replace HO394 := Aside0.mk (Kd.R_below (uR HO394) hb); have BK395 := Aside0.mk (hbox); have GW395 := Aside0.mk ((by rw [hg]; exact (below_size Z51) : w.heap.size ≤ gb395)); have GE395 := Aside0.mk ((by rw [hg]; exact (below_size Z51) : w.heap.size ≤ gb395)); replace HB := Aside0.mk (below_step Z51 hb); have NB390_395 := nL BK390 hg; have NB395_390 := nR BK390 hg; replace BK390 := kB BK390 hb; clear hb hbox hg; have hnb7 := NB395_390.out; have hnc7 := NB390_395.out; obtain ⟨hcz8_0, hcz8_1, hfz8_0, hfz8_1⟩ := ce2 BK395; obtain ⟨Ao9, co9, eo9⟩ := Kd.R_slice HO394.out; subst eo9))
 go_loopg [15] k (fun kq v15 w' => ∃ (x15_1 : Int) (x396001_1 : List Int) (u396001 : Value), v15 = .int .i64 x15_1 ∧ Aside0 (impl_fields.l0 kq a1 l0 (l0.length : Int) x15_1 t391 x396001_1 = some (r1, r2)) ∧ Aside0 (kq ≤ k) ∧ Aside0 (Kd.R (Kd.int .i64) 3 w' w.heap.size (fun _ => True) u396001 x396001_1) ∧ Aside0 (w'.heap[gb390]? = some (.cells #[.int .i64 0, (.slice none 0 0)] 26 (0, 0))) ∧ Aside0 (w'.heap[gb395]? = some (.cells #[.int .i64 t391, u396001] 26 (0, 0))) ∧ Aside0 (Below w.heap.size w w'))
 case atStart => exact ⟨(0), (t392), (.slice Ao9 t392.length co9), Z91, H', ⟨Nat.le_refl _⟩, ⟨by (with_reducible repeat (first | apply Kd.R_alloc | apply Kd.R_drewN | apply Kd.R_drew)); exact Kd.R_mono (Kd.R_far (p := ⟨gb395, 1, none⟩) (Kd.R_far (p := ⟨gb395, 0, none⟩) (Kd.R_types HO394.out BK395.out Z19) (fun _ hk => hk.2) (.int .i64 t391)) (fun _ hk => hk.2) (.slice Ao9 t392.length co9)) (fun _ hk => trivial)⟩, ⟨by refine uW ?_; refine blk_far ?_ NB390_395.out _; refine uW ?_; refine blk_far ?_ NB390_395.out _; refine uW ?_; exact BK390.out⟩, ⟨by refine uW ?_; refine blk_put (cs := #[.int .i64 t391, .slice none 0 0]) ?_ 1 _ rfl; refine uW ?_; refine blk_put (cs := #[.int .i64 0, .slice none 0 0]) ?_ 0 _ rfl; refine uW ?_; exact BK395.out⟩, ⟨Z53⟩⟩
 case round =>
  clear H'
  try clear p2
  try clear c5
  try clear p6
  try clear c7
  try clear hcz8_0
  try clear hcz8_1
  try clear hfz8_0
  try clear hfz8_1
  try clear HO_396001
  obtain ⟨x15_1, x396001_1, u396001, rfl, HA, HK1, HO_396001, BK390, BK395, HB⟩ := hrel
  cases gk with
  | zero => exact absurd HA.out (by simp [impl_fields.l0])
  | succ k1 =>
   have H := HA.out
   clear HA
   simp only [impl_fields.l0] at H
   by_cases c10 : x15_1 < (l0.length : Int)
   ·
    rw [if_pos c10] at H
    have c10b0 : decide (x15_1 < (l0.length : Int)) = true := decide_eq_true c10
    clear c10
    by_cases c11 : 0 ≤ x15_1
    ·
     rw [if_pos c11] at H
     have c11b0 : decide (0 ≤ x15_1) = true := decide_eq_true c11
     clear c11
     by_cases c12 : x15_1 < (l0.length : Int)
     ·
      rw [if_pos c12] at H
      have c12b0 : decide (x15_1 < (l0.length : Int)) = true := decide_eq_true c12
      clear c12
      replace H := Option.bind_eq_some_iff.mp H
      obtain ⟨t397, A130, H⟩ := H
      try dsimp only at H
      have A13 := Aside0.mk A130
      clear A130
      have H' := Aside0.mk H
      clear H
      have p396 : 0 ≤ (x15_1 : Int) := of_decide_eq_true Z6
      have q396 : x15_1 < (l0.length : Int) := of_decide_eq_true Z6
      obtain ⟨ad396, e396, hx396_0⟩ := Kd.at_int HR0.out x15_1 p396 q396
      cases e396
      replace hx396_0 := (HB.out.cell (World.block_lt_of_cell? w _ hx396_0)).trans hx396_0
      replace p396 := eq_true p396
      replace q396 := eq_true q396
      obtain ⟨Ao14, co14, eo14⟩ := Kd.R_slice HO_396001.out
      subst eo14
      go_wp2_with (first | ((with_reducible refine gate_callee (f := 84) rfl ?_); refine goesL_ (some 25) rfl rfl Try.func84 Z92 rfl #[.pointer (some ⟨gb395, 0, none⟩), .int .i64 (wrap64 (x15_1 * a1)), .int .i64 a1, .int .i64 (rd l0 x15_1)] rfl Z89 ?_; (with_reducible refine (impl_Bits_setField_in26_0.calls k1 gb395 t391 (fun k_ => some k_ = (.slice Ao14 x396001_1.length co14 : Value).ownBlock) (.slice Ao14 x396001_1.length co14) x396001_1 (wrap64 (x15_1 * a1)) a1 (rd l0 x15_1) t397 w _ ?side1 ?side2 ?side3 A13.out).mono ?_); (case side1 => exact Z53); (case side2 => exact (uK BK395)); (case side3 => exact Kd.R_tight rfl HO_396001.out); rintro e w15 ⟨rfl, hy0, hb, hkp⟩; refine ⟨_, rfl, ?_⟩; replace BK390 := Aside0.mk (blk_kept (uK BK390) hkp (fun hs_ => (fun e_ => (Kd.R_ne HO_396001.out BK390.out Z19) e_) hs_)); replace BK395 := Aside0.mk (blk_kept (uK BK395) hkp (fun hs_ => (fun e_ => (Kd.R_ne HO_396001.out BK395.out Z19) e_) hs_)); replace HO_396001 := Aside0.mk (Kd.R_reok rfl hy0 (fun k_ e_ => HO_396001.out.1 k_ e_)); replace HB := Aside0.mk (hb); (try clear hb); (try clear hkp); (try clear hy0)))
      go_roundg k1
      case measure => have := HK1.out; omega
      case rel => exact ⟨(wrap64 (x15_1 + 1)), (t397), (.slice Ao14 x396001_1.length co14), Z91, H', ⟨by have := HK1.out; omega⟩, ⟨by (with_reducible repeat (first | apply Kd.R_alloc | apply Kd.R_drewN | apply Kd.R_drew)); exact HO_396001.out⟩, ⟨by refine uW ?_; exact BK390.out⟩, ⟨by refine uW ?_; exact BK395.out⟩, ⟨Z53⟩⟩
     rw [if_neg c12] at H
     exact absurd H Z37
    rw [if_neg c11] at H
    exact absurd H Z37
   rw [if_neg c10] at H
   have c10b0 : decide (x15_1 < (l0.length : Int)) = false := decide_eq_false c10
   clear c10
   simp only [Option.some.injEq, Prod.mk.injEq] at H
   obtain ⟨rfl, rfl⟩ := H
   have hnb16 := NB395_390.out
   have hnc16 := NB390_395.out
   obtain ⟨hcz17_0, hcz17_1, hfz17_0, hfz17_1⟩ := ce2 BK395
   obtain ⟨hcz18_0, hcz18_1, hfz18_0, hfz18_1⟩ := ce2 BK390
   obtain ⟨Ao19, co19, eo19⟩ := Kd.R_slice HO_396001.out
   subst eo19
   go_wp2
   refine bodyPost_ret (results_cell_row rfl _ _ gb390 26 #[.int .i64 t391, .slice Ao19 x396001_1.length co19] (0, 0) _ rfl (by refine uW ?_; refine blk_put (cs := #[.int .i64 t391, .slice none 0 0]) ?_ 1 _ rfl; refine uW ?_; refine blk_put (cs := #[.int .i64 0, .slice none 0 0]) ?_ 0 _ rfl; refine uW ?_; exact BK390.out) Try.underlying26 rfl Z92) rfl ?_
   exact ⟨_, Z90, by (with_reducible repeat (first | apply Kd.R_alloc | apply Kd.R_drewN | apply Kd.R_drew)); exact Kd.R_mono (Kd.R_far (p := ⟨gb390, 1, none⟩) (Kd.R_far (p := ⟨gb390, 0, none⟩) (Kd.R_types HO_396001.out BK390.out Z19) (fun _ hk => hk.2) (.int .i64 t391)) (fun _ hk => hk.2) (.slice Ao19 x396001_1.length co19)) (fun _ hk => trivial), Z53⟩

end Go.Proofs.Ytllaofiopnhdgaa.PFnSparseCounts
