-- made by wip/tools/myprint.py over the kit's print, for this claim
import Derived.Test.YtllaofiopnhdgaaPFnSparsePartsx0
import Derived.Test.YtllaofiopnhdgaaPFnSparsePartsx1
import Derived.Test.YtllaofiopnhdgaaPFnSparsePartsx5
namespace Go.Proofs.Ytllaofiopnhdgaa.PFnSparseParts
open Go.RowKit Go.Proofs.YtllaofiopnhdgaaW.PrintWords Go.Proofs.YtllaofiopnhdgaaW.PrintLast Go.Proofs.YtllaofiopnhdgaaW.PrintMore
open List (setIfInBounds_toArray set_cons_zero set_cons_succ)
attribute [local go_sem] max2_int min2_int max_two min_two max_three min_three max_four min_four   -- for this text's walks alone
set_option linter.unusedVariables false
set_option linter.unusedSimpArgs false

set_option maxHeartbeats 8000000
set_option maxRecDepth 100000
/-! ### FW: function 11 -/
def FW.f (k : Nat) (a0_0 : Int) (a0_1 : Int) (a0_2 : Int) (a0_3 : Int) (l0_4 : List Int) (a0_5 : Int) (l0_6 : List Int) (a1 : Int) : Option (Bool × Bool) := (Fa.f k a0_0 a0_1 a0_2 a0_3 l0_4 a0_5 l0_6).bind fun bt7 => (if bt7.2 = true then ((Fr.f a1 0 (wrap64 (a0_1 - 1))).bind fun t8 => (if t8 = true then ((FS.f k bt7.1 a1).bind fun t9 => (some (t9, true))) else (some (false, false)))) else (some (false, false)))
theorem FW.mono : ∀ a0 a1 a2 a3 a4 a5 a6 a7 k, LeO (FW.f k a0 a1 a2 a3 a4 a5 a6 a7) (FW.f (k + 1) a0 a1 a2 a3 a4 a5 a6 a7) := by
 intro a0 a1 a2 a3 a4 a5 a6 a7 k
 unfold FW.f
 repeat' first
   | with_reducible first | exact Fa.mono .. | exact FS.mono .. | exact LeO.refl _ | exact LeO.none _ | refine LeO.ite ?_ ?_ | refine LeO.bind ?_ (fun _ => ?_)
   | exact Fa.mono .. | exact FS.mono .. | exact LeO.none _ | refine LeO.ite ?_ ?_ | refine LeO.bind ?_ (fun _ => ?_)
theorem FW.calls (k : Nat) (a0_0 : Int) (a0_1 : Int) (a0_2 : Int) (a0_3 : Int) (A0_4 : Option Addr) (c0_4 : Nat) (l0_4 : List Int) (a0_5 : Int) (A0_6 : Option Addr) (c0_6 : Nat) (l0_6 : List Int) (a1 : Int) (r1 : Bool) (r2 : Bool) (w : World) (hr0_4 : Kd.C (Kd.int .i64) w A0_4 l0_4.length l0_4) (hc0_4 : l0_4.length ≤ c0_4) (hr0_6 : Kd.C (Kd.int .i64) w A0_6 l0_6.length l0_6) (hc0_6 : l0_6.length ≤ c0_6) (h : FW.f k a0_0 a0_1 a0_2 a0_3 l0_4 a0_5 l0_6 a1 = some (r1, r2)) :
  Calls Try.prog 11 #[.agg #[.int .i64 a0_0, .int .i64 a0_1, .int .i64 a0_2, .int .i64 a0_3, .slice A0_4 l0_4.length c0_4, .int .i64 a0_5, .slice A0_6 l0_6.length c0_6], .int .i64 a1] w fun e w' => e = .returned (.tuple #[.bool r1, .bool r2]) ∧ Below w.heap.size w w' := by
 have hu28 := Try.underlying28
 have HR0_4 := am hr0_4
 have HC0_4 := am hc0_4
 clear hr0_4 hc0_4
 have HR0_6 := am hr0_6
 have HC0_6 := am hc0_6
 clear hr0_6 hc0_6
 have HB := am (Below.refl w.heap.size w)
 have H : ((Fa.f k a0_0 a0_1 a0_2 a0_3 l0_4 a0_5 l0_6).bind fun bt17 => (if bt17.2 = true then ((Fr.f a1 0 (wrap64 (a0_1 - 1))).bind fun t18 => (if t18 = true then ((FS.f k bt17.1 a1).bind fun t19 => (some (t19, true))) else (some (false, false)))) else (some (false, false)))) = some (r1, r2) := h
 clear h
 replace H := Option.bind_eq_some_iff.mp H
 obtain ⟨⟨t17, t20⟩, A30, H⟩ := H
 try dsimp only at H
 have A3 := am A30
 clear A30
 by_cases c4 : t20 = true
 rotate_left
 ·
  replace c4 := Bool.eq_false_iff.mpr c4
  subst c4
  rw [if_neg (show ¬ (false = true) from Z16)] at H
  simp only [Option.some.injEq, Prod.mk.injEq] at H
  obtain ⟨rfl, rfl⟩ := H
  go_enter Try.func11, Try.ntmps11
  go_wp2_with (first | ((with_reducible refine gate_dst (N := 2) rfl ?_); refine box_event ?hg (N := 2) ?hd (cs := #[.int .i64 a0_0, .int .i64 a0_1, .int .i64 a0_2, .int .i64 a0_3, .slice A0_4 l0_4.length c0_4, .int .i64 a0_5, .slice A0_6 l0_6.length c0_6]) (t := 28) ?hr ?_; (case hd => rfl); (case hg => rfl); (case hr => exact Z111); intro gb21 hg w15 hbox hb; have BK21 := am (hbox); have GW21 := nG HB hg; have GE21 := nG HB hg; have GI21 := gI GE21; replace HB := am (below_step (uN HB) hb); clear hb hbox hg) | ((with_reducible refine gate_callee (f := 22) rfl ?_); refine gL 9 rfl Try.func22 #[.pointer (some ⟨gb21, 0, none⟩)] ?_; (with_reducible refine (Fa.calls k gb21 a0_0 a0_1 a0_2 a0_3 A0_4 c0_4 l0_4 a0_5 A0_6 c0_6 l0_6 t17 false _ ?side1 ?side2 ?side3 ?side4 ?side5 A3.out).mono ?_); (case side1 => exact (uK BK21)); (case side2 => exact uC HR0_4 HB); (case side3 => exact HC0_4.out); (case side4 => exact uC HR0_6 HB); (case side5 => exact HC0_6.out); rintro e w16 ⟨v23, rfl, ho0, hb⟩; refine ⟨_, rfl, ?_⟩; have HO24 := am (Kd.R_lower ho0 (below_size Z24)); replace BK21 := kB BK21 hb; replace HB := am (below_step Z24 hb); (try clear hb); (try clear hb2); (try clear hk); (try clear hi); (try clear ho0)))
  go_ret2
  exact ⟨Z109, Z24⟩
 subst c4
 rw [if_pos rfl] at H
 replace H := Option.bind_eq_some_iff.mp H
 obtain ⟨t18, A50, H⟩ := H
 try dsimp only at H
 have A5 := am A50
 clear A50
 by_cases c6 : t18 = true
 rotate_left
 ·
  replace c6 := Bool.eq_false_iff.mpr c6
  subst c6
  rw [if_neg (show ¬ (false = true) from Z16)] at H
  simp only [Option.some.injEq, Prod.mk.injEq] at H
  obtain ⟨rfl, rfl⟩ := H
  go_enter Try.func11, Try.ntmps11
  go_wp2_with (first | ((with_reducible refine gate_dst (N := 2) rfl ?_); refine box_event ?hg (N := 2) ?hd (cs := #[.int .i64 a0_0, .int .i64 a0_1, .int .i64 a0_2, .int .i64 a0_3, .slice A0_4 l0_4.length c0_4, .int .i64 a0_5, .slice A0_6 l0_6.length c0_6]) (t := 28) ?hr ?_; (case hd => rfl); (case hg => rfl); (case hr => exact Z111); intro gb21 hg w12 hbox hb; have BK21 := am (hbox); have GW21 := nG HB hg; have GE21 := nG HB hg; have GI21 := gI GE21; replace HB := am (below_step (uN HB) hb); clear hb hbox hg) | ((with_reducible refine gate_callee (f := 22) rfl ?_); refine gL 9 rfl Try.func22 #[.pointer (some ⟨gb21, 0, none⟩)] ?_; (with_reducible refine (Fa.calls k gb21 a0_0 a0_1 a0_2 a0_3 A0_4 c0_4 l0_4 a0_5 A0_6 c0_6 l0_6 t17 true _ ?side1 ?side2 ?side3 ?side4 ?side5 A3.out).mono ?_); (case side1 => exact (uK BK21)); (case side2 => exact uC HR0_4 HB); (case side3 => exact HC0_4.out); (case side4 => exact uC HR0_6 HB); (case side5 => exact HC0_6.out); rintro e w13 ⟨v23, rfl, ho0, hb⟩; refine ⟨_, rfl, ?_⟩; have HO24 := am (Kd.R_lower ho0 (below_size Z24)); replace BK21 := kB BK21 hb; replace HB := am (below_step Z24 hb); (try clear hb); (try clear hb2); (try clear hk); (try clear hi); (try clear ho0); obtain ⟨hcz14_0, hcz14_1, hcz14_2, hcz14_3, hcz14_4, hcz14_5, hcz14_6, hfz14_0, hfz14_1, hfz14_2, hfz14_3, hfz14_4, hfz14_5, hfz14_6⟩ := ce7 BK21) | (go_at_call 23; (with_reducible refine (Fr.calls a1 0 (wrap64 (a0_1 - 1)) false _ A5.out).mono ?_); rintro e w' ⟨rfl, ⟨nd, rfl⟩⟩))
  go_ret2
  exact ⟨Z109, Z24⟩
 subst c6
 rw [if_pos rfl] at H
 replace H := Option.bind_eq_some_iff.mp H
 obtain ⟨t19, A70, H⟩ := H
 try dsimp only at H
 have A7 := am A70
 clear A70
 simp only [Option.some.injEq, Prod.mk.injEq] at H
 obtain ⟨rfl, rfl⟩ := H
 go_enter Try.func11, Try.ntmps11
 go_wp2_with (first | ((with_reducible refine gate_dst (N := 2) rfl ?_); refine box_event ?hg (N := 2) ?hd (cs := #[.int .i64 a0_0, .int .i64 a0_1, .int .i64 a0_2, .int .i64 a0_3, .slice A0_4 l0_4.length c0_4, .int .i64 a0_5, .slice A0_6 l0_6.length c0_6]) (t := 28) ?hr ?_; (case hd => rfl); (case hg => rfl); (case hr => exact Z111); intro gb21 hg w8 hbox hb; have BK21 := am (hbox); have GW21 := nG HB hg; have GE21 := nG HB hg; have GI21 := gI GE21; replace HB := am (below_step (uN HB) hb); clear hb hbox hg) | ((with_reducible refine gate_callee (f := 22) rfl ?_); refine gL 9 rfl Try.func22 #[.pointer (some ⟨gb21, 0, none⟩)] ?_; (with_reducible refine (Fa.calls k gb21 a0_0 a0_1 a0_2 a0_3 A0_4 c0_4 l0_4 a0_5 A0_6 c0_6 l0_6 t17 true _ ?side1 ?side2 ?side3 ?side4 ?side5 A3.out).mono ?_); (case side1 => exact (uK BK21)); (case side2 => exact uC HR0_4 HB); (case side3 => exact HC0_4.out); (case side4 => exact uC HR0_6 HB); (case side5 => exact HC0_6.out); rintro e w9 ⟨v23, rfl, ho0, hb⟩; refine ⟨_, rfl, ?_⟩; have HO24 := am (Kd.R_lower ho0 (below_size Z24)); replace BK21 := kB BK21 hb; replace HB := am (below_step Z24 hb); (try clear hb); (try clear hb2); (try clear hk); (try clear hi); (try clear ho0); obtain ⟨hcz10_0, hcz10_1, hcz10_2, hcz10_3, hcz10_4, hcz10_5, hcz10_6, hfz10_0, hfz10_1, hfz10_2, hfz10_3, hfz10_4, hfz10_5, hfz10_6⟩ := ce7 BK21) | (go_at_call 23; (with_reducible refine (Fr.calls a1 0 (wrap64 (a0_1 - 1)) true _ A5.out).mono ?_); rintro e w' ⟨rfl, ⟨nd, rfl⟩⟩; obtain ⟨Ao11, co11, eo11⟩ := Kd.R_slice HO24.out; subst eo11) | ((with_reducible refine gate_callee (f := 27) rfl ?_); refine gL 24 rfl Try.func27 #[.slice Ao11 t17.length co11, .int .i64 a1] ?_; (with_reducible refine (FS.calls k _ _ t17 a1 t19 _ ?side1 ?side2 A7.out).mono ?_); (case side1 => exact uD HO24); (case side2 => exact (Kd.R_reads' HO24.out).2.1); rintro e w' ⟨rfl, ⟨nd, rfl⟩⟩; refine ⟨_, rfl, ?_⟩))
 go_ret2
 exact ⟨Z109, Z24⟩

/-! ### Fca: function 76 -/
def Fca.f (a0 : Int) : Option (Int × List Int) := if 0 ≤ (wrap64 (Int.tdiv (wrap64 (a0 + 15)) 16)) then (if (wrap64 (Int.tdiv (wrap64 (a0 + 15)) 16) : Int).toNat ≤ 35184372088832 then (some (a0, (List.replicate (wrap64 (Int.tdiv (wrap64 (a0 + 15)) 16) : Int).toNat 0))) else (none)) else (none)
theorem Fca.calls (a0 : Int) (r1 : Int) (r2 : List Int) (w : World) (h : Fca.f a0 = some (r1, r2)) :
  Calls Try.prog 76 #[.int .i64 a0] w fun e w' => ∃ v1_ : Value, e = .returned (.agg #[.int .i64 r1, v1_]) ∧ Kd.R (Kd.int .i64) 3 w' w.heap.size (fun _ => True) v1_ r2 ∧ Below w.heap.size w w' := by
 have hu26 := Try.underlying26
 have HB := am (Below.refl w.heap.size w)
 have H : (if 0 ≤ (wrap64 (Int.tdiv (wrap64 (a0 + 15)) 16)) then (if (wrap64 (Int.tdiv (wrap64 (a0 + 15)) 16) : Int).toNat ≤ 35184372088832 then (some (a0, (List.replicate (wrap64 (Int.tdiv (wrap64 (a0 + 15)) 16) : Int).toNat 0))) else (none)) else (none)) = some (r1, r2) := h
 clear h
 obtain ⟨ji2, hji2⟩ : ∃ j_ : Int, (wrap64 (Int.tdiv (wrap64 (a0 + 15)) 16)) = j_ := ⟨_, rfl⟩
 replace H : (if 0 ≤ (ji2) then (if (ji2 : Int).toNat ≤ 35184372088832 then (some (a0, (List.replicate (ji2 : Int).toNat 0))) else (none)) else (none)) = some (r1, r2) := by first | (rw [hji2] at H; exact H) | (simp only [hji2] at H ⊢; exact H)
 have hji2w : (IntKind.i64.wrap (Int.tdiv (wrap64 (a0 + 15)) 16)) = ji2 := (i64_w _).trans hji2
 by_cases c3 : 0 ≤ (ji2)
 rotate_left
 ·
  rw [if_neg c3] at H
  exact absurd H Z43
 rw [if_pos c3] at H
 have c3b0 := eq_true c3
 have c3b1 := decide_eq_true c3
 clear c3
 by_cases c4 : (ji2 : Int).toNat ≤ 35184372088832
 rotate_left
 ·
  rw [if_neg c4] at H
  exact absurd H Z43
 rw [if_pos c4] at H
 have c4b0 := eq_true c4
 have c4b1 := decide_eq_true c4
 clear c4
 obtain ⟨y10, hy10⟩ : ∃ y_ : List Int, y_ = (List.replicate (ji2 : Int).toNat 0) := ⟨_, rfl⟩
 replace H : (some (a0, y10)) = some (r1, r2) := by first | (rw [hy10]; with_reducible exact H) | (have H2_ := (Option.bind_some _ _).symm.trans H; rw [hy10]; with_reducible exact H2_) | (have H2_ := (Option.bind_some _ _).symm.trans H; with_reducible exact H2_) | with_reducible exact H | (rw [hy10]; exact H) | exact H
 have Ny10 := am hy10
 clear hy10
 simp only [Option.some.injEq, Prod.mk.injEq] at H
 obtain ⟨rfl, rfl⟩ := H
 go_enter Try.func76, Try.ntmps76
 go_wp2_with (first | ((with_reducible refine gate_dst (N := 2) rfl ?_); refine box_event ?hg (N := 2) ?hd (cs := #[.int .i64 0, .slice none 0 0]) (t := 26) ?hr ?_; (case hd => rfl); (case hg => rfl); (case hr => exact Z111); intro gb11 hg w5 hbox hb; have BK11 := am (hbox); have GW11 := nG HB hg; have GE11 := nG HB hg; have GI11 := gI GE11; replace HB := am (below_step (uN HB) hb); clear hb hbox hg) | ((with_reducible refine gate_dst (N := 7) rfl ?_); refine Kd.R_make (Kd.int .i64) _ 3 rfl (N := 7) rfl 24 _ _ rfl ji2 rfl rfl Try.underlying24 (.int .i64 0) 8 info3 rfl Z16 Z70 0 (ok := fun _ => True) (okp := fun _ => True) rfl (fun _ hk => hk) trivial (of_decide_eq_true Z6) (Nat.le_trans (Nat.mul_le_mul_right _ (of_decide_eq_true Z6 : ji2.toNat ≤ 35184372088832)) Z70) (Below.refl _ _) (Nat.le_refl _) ?_; intro v12 w6 ho7 hb hg_ hnew_; clear hg_ hnew_; (first | rw [← Ny10.out] at ho7 | (simp only [Int.reduceToNat] at ho7; rw [← Ny10.out] at ho7)); have HO13 := am (Kd.R_lower ho7 (below_size Z30)); replace BK11 := kB BK11 hb; replace HB := am (below_step Z30 hb); clear hb ho7; obtain ⟨Ao8, co8, eo8⟩ := Kd.R_slice HO13.out; subst eo8; obtain ⟨hcz9_0, hcz9_1, hfz9_0, hfz9_1⟩ := ce2 BK11))
 refine bodyPost_ret (results_cell_row rfl _ _ gb11 26 #[.int .i64 a0, .slice Ao8 y10.length co8] (0, 0) _ rfl (pT (pp 1 (pp 0 (pb BK11)))) Try.underlying26 rfl Z112) rfl ?_
 exact ⟨_, by first | rfl | (simp [errW_none, errW_some] <;> rfl) | (simp only [← hji2]; first | rfl | (simp [errW_none, errW_some] <;> rfl)) | (simp [*, errW_none, errW_some] <;> rfl), by (with_reducible repeat (first | apply Kd.R_alloc | apply Kd.R_drewN | apply Kd.R_drew)); exact Kd.R_mono (fT HO13 BK11 Z16) (fun _ hk => trivial), Z30⟩

/-! ### FT: function 77 -/
def FT.f (a0_0 : Int) (l0_1 : List Int) (a1 : Int) : Option (List Int) := if 0 ≤ (wrap64 (Int.tdiv a1 16)) then (if (wrap64 (Int.tdiv a1 16)) < (l0_1.length : Int) then (if 0 ≤ (Int.tmod a1 16) then (some (l0_1.set ((wrap64 (Int.tdiv a1 16)) : Int).toNat (Go.bits .or .i64 (rd l0_1 (wrap64 (Int.tdiv a1 16))) (shl .i64 1 (Int.tmod a1 16))))) else (none)) else (none)) else (none)
def FT.T1 : Bool × List (List Nat × List Nat) := (true, [([], []), ([0], [0]), ([], []), ([2], [2]), ([1, 3], [1, 3]), ([4], [4]), ([], []), ([6], [6]), ([7], [7]), ([5, 8], [5, 8]), ([1, 3, 0, 1, 2, 3, 4, 5, 6, 7, 8, 9], [1, 3]), ([10, 9, 0, 1, 2, 3, 4, 5, 6, 7, 8, 9], [9, 10])])
def FT.B1 : List Nat := [0, 1, 0, 4, 15, 31, 0, 64, 192, 511, 1023, 2047]
theorem FT.tab1 : rtab .any (opsOf Try.f77 1) = FT.T1 := by kernel_rfl
theorem FT.bits1 : waitsOk FT.T1.2 FT.B1 = true := by kernel_rfl
theorem FT.calls (a0_0 : Int) (P0_1_ : Nat → Prop) (u14_ : Value) (l0_1 : List Int) (a1 : Int) (r : List Int) (w0 w : World) (hB : Below w0.heap.size w0 w) (ho0_1 : Kd.R (Kd.int .i64) 3 w w0.heap.size P0_1_ u14_ l0_1) (h : FT.f a0_0 l0_1 a1 = some r) :
  Calls Try.prog 77 #[.agg #[.int .i64 a0_0, u14_], .int .i64 a1] w fun e w' => e = .returned (.tuple #[]) ∧ Kd.R (Kd.int .i64) 3 w' w0.heap.size (fun k_ => (P0_1_ k_ ∨ w.heap.size ≤ k_)) u14_ r ∧ Below w0.heap.size w0 w' ∧ Kept w w' (fun k_ => P0_1_ k_) := by
 have hu26 := Try.underlying26
 have HO0_1 := am (show Kd.R (Kd.int .i64) 3 w w0.heap.size (fun k_ => (P0_1_ k_ ∨ w.heap.size ≤ k_)) u14_ l0_1 from Kd.R_mono ho0_1 (fun k_ hk => (.inl hk)))
 have HK := am (Kept.refl w (fun k_ => P0_1_ k_))
 have HW0 := am hB.size
 have HB := am hB
 clear hB
 have H : (if 0 ≤ (wrap64 (Int.tdiv a1 16)) then (if (wrap64 (Int.tdiv a1 16)) < (l0_1.length : Int) then (if 0 ≤ (Int.tmod a1 16) then (some (l0_1.set ((wrap64 (Int.tdiv a1 16)) : Int).toNat (Go.bits .or .i64 (rd l0_1 (wrap64 (Int.tdiv a1 16))) (shl .i64 1 (Int.tmod a1 16))))) else (none)) else (none)) else (none)) = some r := h
 clear h
 obtain ⟨ji3, hji3⟩ : ∃ j_ : Int, (wrap64 (Int.tdiv a1 16)) = j_ := ⟨_, rfl⟩
 replace H : (if 0 ≤ (ji3) then (if (ji3) < (l0_1.length : Int) then (if 0 ≤ (Int.tmod a1 16) then (some (l0_1.set ((ji3) : Int).toNat (Go.bits .or .i64 (rd l0_1 (ji3)) (shl .i64 1 (Int.tmod a1 16))))) else (none)) else (none)) else (none)) = some r := by first | (rw [hji3] at H; exact H) | (simp only [hji3] at H ⊢; exact H)
 have hji3w : (IntKind.i64.wrap (Int.tdiv a1 16)) = ji3 := (i64_w _).trans hji3
 by_cases c4 : 0 ≤ (ji3)
 rotate_left
 ·
  rw [if_neg c4] at H
  exact absurd H Z43
 rw [if_pos c4] at H
 have c4b0 := decide_eq_true c4
 clear c4
 by_cases c5 : (ji3) < (l0_1.length : Int)
 rotate_left
 ·
  rw [if_neg c5] at H
  exact absurd H Z43
 rw [if_pos c5] at H
 have c5b0 := decide_eq_true c5
 clear c5
 obtain ⟨ji6, hji6⟩ : ∃ j_ : Int, (Int.tmod a1 16) = j_ := ⟨_, rfl⟩
 replace H : (if 0 ≤ (ji6) then (some (l0_1.set ((ji3) : Int).toNat (Go.bits .or .i64 (rd l0_1 (ji3)) (shl .i64 1 (ji6))))) else (none)) = some r := by first | (rw [hji6] at H; exact H) | (simp only [hji6] at H ⊢; exact H)
 by_cases c7 : 0 ≤ (ji6)
 rotate_left
 ·
  rw [if_neg c7] at H
  exact absurd H Z43
 rw [if_pos c7] at H
 have c7b0 := eq_true c7
 have c7b1 := decide_eq_true c7
 clear c7
 obtain ⟨ji8, hji8⟩ : ∃ j_ : Int, (shl .i64 1 (ji6)) = j_ := ⟨_, rfl⟩
 replace H : (some (l0_1.set ((ji3) : Int).toNat (Go.bits .or .i64 (rd l0_1 (ji3)) (ji8)))) = some r := by first | (rw [hji8] at H; exact H) | (simp only [hji8] at H ⊢; exact H)
 have hji8_ : (IntKind.i64.wrap (1 * 2 ^ min (ji6).toNat 64)) = ji8 := hji8
 have hji8z : (ji6) ≤ 64 → (IntKind.i64.wrap (1 * 2 ^ (ji6).toNat)) = ji8 := shl_small hji8
 have hji8u : (IntKind.i64.wrap (2 ^ min (ji6).toNat 64)) = ji8 := by have h_ := hji8_; rw [Int.one_mul] at h_; exact h_
 have hji8v : (ji6) ≤ 64 → (IntKind.i64.wrap (2 ^ (ji6).toNat)) = ji8 := fun hle_ => by have h_ := hji8z hle_; rw [Int.one_mul] at h_; exact h_
 have hji8y : (wrap64 (1 * 2 ^ min (ji6).toNat 64)) = ji8 := (i64_w _).symm.trans hji8_
 have hji8x : (ji6) ≤ 64 → (wrap64 (1 * 2 ^ (ji6).toNat)) = ji8 := fun h_ => (i64_w _).symm.trans (hji8z h_)
 obtain ⟨y15, hy15⟩ : ∃ y_ : List Int, y_ = (l0_1.set ((ji3) : Int).toNat (Go.bits .or .i64 (rd l0_1 (ji3)) (ji8))) := ⟨_, rfl⟩
 replace H : (some y15) = some r := by first | (rw [hy15]; with_reducible exact H) | (have H2_ := (Option.bind_some _ _).symm.trans H; rw [hy15]; with_reducible exact H2_) | (have H2_ := (Option.bind_some _ _).symm.trans H; with_reducible exact H2_) | with_reducible exact H | (rw [hy15]; exact H) | exact H
 have Ny15 := am hy15
 clear hy15
 obtain rfl := Option.some.inj H
 obtain ⟨Ao10, co10, eo10⟩ := Kd.R_slice HO0_1.out
 subst eo10
 go_enter Try.func77, Try.ntmps77
 try go_wp2_with (first | ((with_reducible refine gate_dst (N := 2) rfl ?_); refine box_event ?hg (N := 2) ?hd (cs := #[.int .i64 a0_0, .slice Ao10 l0_1.length co10]) (t := 26) ?hr ?_; (case hd => rfl); (case hg => rfl); (case hr => exact Z111); intro gb16 hg w11 hbox hb; replace HO0_1 := rB HO0_1 hb; have BK16 := am (hbox); have GW16 := am ((by rw [hg]; exact (by first | exact HK.out.1 | exact (show Kept w _ (fun k_ => P0_1_ k_) from Z62).1) : w.heap.size ≤ gb16)); replace HK := am (Kept.below (S := (fun k_ => P0_1_ k_)) Z62 hb); have GE16 := am ((by rw [hg]; exact (below_size (uN HB)) : w0.heap.size ≤ gb16)); replace HB := am (below_step (uN HB) hb); clear hb hbox hg))
 replace HO0_1 := am (Kd.R_drew HO0_1.out)
 replace BK16 := am (blk_drew BK16.out)
 replace HK := am (Kept.drew HK.out)
 replace HB := am (below_drew1 HB.out)
 have p17 : 0 ≤ ((ji3) : Int) := of_decide_eq_true Z6
 have q17 : (ji3) < (l0_1.length : Int) := of_decide_eq_true Z6
 obtain ⟨ad17, e17, hx17_0⟩ := Kd.at_int (Kd.R_reads' HO0_1.out).2.2 (ji3) p17 q17
 cases e17
 replace p17 := eq_true p17
 replace q17 := eq_true q17
 have p9 : 0 ≤ ((ji3) : Int) := of_decide_eq_true Z6
 have q9 : ((ji3) : Int) < ((l0_1.length : Int) : Int) := of_decide_eq_true Z6
 obtain ⟨go9, co9, eo9, gb9, gl9, cl9, HG9⟩ := Kd.R_form HO0_1.out Z70
 (first | cases eo9 | (injection eo9 with ea_ en_ ec_; (first | subst ea_ | (injection ea_ with ea_; subst ea_)); subst ec_; clear en_))
 have GB9 := am gb9
 have GG9 := am HG9
 clear gb9 gl9 HG9
 have HMgo9 := am (show (P0_1_ go9 ∨ w.heap.size ≤ go9) from (HO0_1.out.1 _ rfl))
 (first | simp only [add_plain] at hx17_0 | skip)
 obtain ⟨hx9_0, hf9_0⟩ := Kd.R_celln 0 HO0_1.out ((ji3) : Int) p9 q9
 replace p9 := eq_true p9
 replace q9 := eq_true q9
 have HP13 := Kd.R_putn HO0_1.out ((ji3) : Int) (Go.bits .or .i64 (rd l0_1 (ji3)) (ji8))
 rw [← Ny15.out] at HP13
 have HQ13 := am HP13
 clear HP13
 refine start_ (n := 12) (S := fun w' => w'.cell? ⟨gb16, 0, none⟩ = some (.int .i64 a0_0) ∧ w'.cell? ⟨gb16, 1, none⟩ = some (.slice (some ⟨go9, 0, none⟩) l0_1.length co10) ∧ w'.cell? ⟨go9, ((ji3)).toNat, none⟩ = some (.int .i64 (rd l0_1 (ji3)))) (ds := [11]) (bA 12 0) Z112 rfl rfl ⟨bc BK16 0, bc BK16 1, hx17_0⟩ (fun hHeld => ?_); refine with_tabW FT.tab1 FT.bits1 (fun HT_ HW_ => ?_)
 generalize w11.drew = w12 at HO0_1 BK16 HK HB GG9 HQ13 hf9_0 hx17_0 hx9_0 hHeld ⊢
 refine pS 0 4 (bA 12 1) ?_
 refine pS 2 6 (bA 12 5) ?_
 refine pS 3 7 (bA 12 13) ?_
 refine pS 6 10 (bA 12 77) ?_
 refine pS 7 11 (bA 12 205) ?_
 refine pS 8 12 (bA 12 461) ?_
 refine tS3 1 5 (bA 12 463) hHeld ?_
 refine pS 4 8 (bA 12 479) ?_
 refine tS3 5 9 (bA 12 511) hHeld ?_
 refine pS 9 13 (bA 12 1023) ?_
 refine pS 10 14 (bA 12 2047) ?_
 refine last_ (i := 11) (N := none) (bA 12 4095) rfl rfl (one_of HT_.out Z112) Z16 (fun K hK => ?_)
 refine skip_ (w1 := ?_) Z63 rfl ?_ ?_
 rotate_left
 ·
  go_simp
  rfl
 refine hK.out _ _ ?_
 clear hK K
 refine done_ (done_of HT_.out Z112) ?_
 try go_wp2
 first | go_end0 | ((try simp only [Exit.inBlock, Exit.then]); refine bodyPost_ret (results_none rfl _ _ _) rfl ?_)
 exact ⟨Z130, by (with_reducible repeat (first | apply Kd.R_alloc | apply Kd.R_drewN | apply Kd.R_drew)); exact HQ13.out, by repeat (first | (with_reducible first | exact HB.out | apply below_alloc | apply pw_below_drewN | apply below_drew1 | refine below_set ?_ GB9.out | refine below_set ?_ GE16.out) | exact HB.out), by repeat (first | (with_reducible first | exact HK.out | apply Kept.alloc | apply Kept.drewN | apply Kept.drew | refine Kept.setCell ?_ HMgo9.out _ | refine Kept.setCell ?_ (.inr GW16.out) _) | exact HK.out)⟩

/-! ### Fm: function 46 -/
def Fm.l0 : Nat → List Bool → Int → Int → Int → List Int → Option (Int × List Int)
 | 0, _, _, _, _, _ => none
 | k + 1, x9, x10, x11, x1, x2 => if x11 < x10 then (if 0 ≤ x11 then (if x11 < (x9.length : Int) then (if rdOf false x9 x11 = true then ((FT.f x1 x2 x11).bind fun t3 => (Fm.l0 k x9 x10 (wrap64 (x11 + 1)) x1 t3)) else (Fm.l0 k x9 x10 (wrap64 (x11 + 1)) x1 x2)) else (none)) else (none)) else (some (x1, x2))
def Fm.f (k : Nat) (l0 : List Bool) : Option (Int × List Int) := (Fca.f (l0.length : Int)).bind fun bt1 => (Fm.l0 k l0 (l0.length : Int) 0 bt1.1 bt1.2)
theorem Fm.mono_l : ∀ k, (∀ y0 y1 y2 y3 y4, LeO (Fm.l0 k y0 y1 y2 y3 y4) (Fm.l0 (k + 1) y0 y1 y2 y3 y4))
 | 0 => fun _ _ _ _ _ r h => by simp [Fm.l0] at h | k + 1 => by
  have ih0 := Fm.mono_l k
  ·
   intro y0 y1 y2 y3 y4
   unfold Fm.l0
   exact Mo1
theorem Fm.mono : ∀ a0 k, LeO (Fm.f k a0) (Fm.f (k + 1) a0) := by
 intro a0 k
 have ih0 := Fm.mono_l k
 unfold Fm.f
 exact Mo1
theorem Fm.calls (k : Nat) (A0 : Option Addr) (c0 : Nat) (l0 : List Bool) (r1 : Int) (r2 : List Int) (w : World) (hr0 : Kd.C Kd.bool w A0 l0.length l0) (hc0 : l0.length ≤ c0) (h : Fm.f k l0 = some (r1, r2)) :
  Calls Try.prog 46 #[.slice A0 l0.length c0] w fun e w' => ∃ v1_ : Value, e = .returned (.agg #[.int .i64 r1, v1_]) ∧ Kd.R (Kd.int .i64) 3 w' w.heap.size (fun _ => True) v1_ r2 ∧ Below w.heap.size w w' := by
 have hu26 := Try.underlying26
 have HR0 := am hr0
 have HC0 := am hc0
 clear hr0 hc0
 have HB := am (Below.refl w.heap.size w)
 have H : ((Fca.f (l0.length : Int)).bind fun bt23 => (Fm.l0 k l0 (l0.length : Int) 0 bt23.1 bt23.2)) = some (r1, r2) := h
 clear h
 replace H := Option.bind_eq_some_iff.mp H
 obtain ⟨⟨t23, t24⟩, A20, H⟩ := H
 try dsimp only at H
 have A2 := am A20
 clear A20
 have H' := am H
 clear H
 go_enter Try.func46, Try.ntmps46
 go_wp2_with (first | ((with_reducible refine gate_dst (N := 2) rfl ?_); refine box_event ?hg (N := 2) ?hd (cs := #[.int .i64 0, .slice none 0 0]) (t := 26) ?hr ?_; (case hd => rfl); (case hg => rfl); (case hr => exact Z111); intro gb25 hg w3 hbox hb; have BK25 := am (hbox); have GW25 := nG HB hg; have GE25 := nG HB hg; have GI25 := gI GE25; replace HB := am (below_step (uN HB) hb); clear hb hbox hg) | ((with_reducible refine gate_callee (f := 76) rfl ?_); refine gL 8 rfl Try.func76 #[.int .i64 (l0.length : Int)] ?_; (with_reducible refine (Fca.calls (l0.length : Int) t23 t24 _ A2.out).mono ?_); rintro e w4 ⟨v27, rfl, ho0, hb⟩; refine ⟨_, rfl, ?_⟩; have HO28 := am (Kd.R_lower ho0 (below_size Z59)); replace BK25 := kB BK25 hb; replace HB := am (below_step Z59 hb); (try clear hb); (try clear hb2); (try clear hk); (try clear hi); (try clear ho0)) | ((with_reducible refine gate_dst (N := 3) rfl ?_); refine box_event ?hg (N := 3) ?hd (cs := #[.int .i64 0, .slice none 0 0]) (t := 26) ?hr ?_; (case hd => rfl); (case hg => rfl); (case hr => exact Z111); intro gb29 hg w5 hbox hb; replace HO28 := rB HO28 hb; have BK29 := am (hbox); have GW29 := am ((by rw [hg]; exact (below_size Z59) : w.heap.size ≤ gb29)); have GE29 := am ((by rw [hg]; exact (below_size Z59) : w.heap.size ≤ gb29)); replace HB := am (below_step Z59 hb); have NB25_29 := nL BK25 hg; have NB29_25 := nR BK25 hg; replace BK25 := kB BK25 hb; clear hb hbox hg; have hnb6 := NB29_25.out; have hnc6 := NB25_29.out; obtain ⟨hcz7_0, hcz7_1, hfz7_0, hfz7_1⟩ := ce2 BK29; obtain ⟨Ao8, co8, eo8⟩ := Kd.R_slice HO28.out; subst eo8))
 go_loopg [11] k (fun kq v11 w' => ∃ (x11_1 : Int) (x30_1 : List Int) (u30 : Value), v11 = .int .i64 x11_1 ∧ Aside0 (Fm.l0 kq l0 (l0.length : Int) x11_1 t23 x30_1 = some (r1, r2)) ∧ Aside0 (kq ≤ k) ∧ Aside0 (Kd.R (Kd.int .i64) 3 w' w.heap.size (fun _ => True) u30 x30_1) ∧ Aside0 (w'.heap[gb25]? = some (.cells #[.int .i64 0, (.slice none 0 0)] 26 (0, 0))) ∧ Aside0 (w'.heap[gb29]? = some (.cells #[.int .i64 t23, u30] 26 (0, 0))) ∧ Aside0 (Below w.heap.size w w'))
 case atStart => exact ⟨(0), (t24), (.slice Ao8 t24.length co8), Z110, H', ⟨Nat.le_refl _⟩, ⟨by (with_reducible repeat (first | apply Kd.R_alloc | apply Kd.R_drewN | apply Kd.R_drew)); exact Kd.R_mono (fT HO28 BK29 Z16) (fun _ hk => trivial)⟩, ⟨pf NB25_29 (pf NB25_29 (pb BK25))⟩, ⟨pT (pp 1 (pp 0 (pb BK29)))⟩, ⟨Z55⟩⟩
 case round =>
  clear H'
  try clear p2
  try clear c4
  try clear c6
  try clear c7
  try clear hcz7_0 hcz7_1
  try clear hfz7_0 hfz7_1
  try clear HO_30
  obtain ⟨x11_1, x30_1, u30, rfl, HA, HK1, HO_30, BK25, BK29, HB⟩ := hrel
  cases gk with
  | zero => exact absurd HA.out (by simp [Fm.l0])
  | succ k1 =>
   have H := HA.out
   clear HA
   simp only [Fm.l0] at H
   by_cases c9 : x11_1 < (l0.length : Int)
   rotate_left
   ·
    rw [if_neg c9] at H
    have c9b0 := decide_eq_false c9
    clear c9
    simp only [Option.some.injEq, Prod.mk.injEq] at H
    obtain ⟨rfl, rfl⟩ := H
    have hnb19 := NB29_25.out
    have hnc19 := NB25_29.out
    obtain ⟨hcz20_0, hcz20_1, hfz20_0, hfz20_1⟩ := ce2 BK29
    obtain ⟨hcz21_0, hcz21_1, hfz21_0, hfz21_1⟩ := ce2 BK25
    obtain ⟨Ao22, co22, eo22⟩ := Kd.R_slice HO_30.out
    subst eo22
    go_wp2
    refine bodyPost_ret (results_cell_row rfl _ _ gb25 26 #[.int .i64 t23, .slice Ao22 x30_1.length co22] (0, 0) _ rfl (pT (pp 1 (pp 0 (pb BK25)))) Try.underlying26 rfl Z112) rfl ?_
    exact ⟨_, Z109, by (with_reducible repeat (first | apply Kd.R_alloc | apply Kd.R_drewN | apply Kd.R_drew)); exact Kd.R_mono (fT HO_30 BK25 Z16) (fun _ hk => trivial), Z55⟩
   rw [if_pos c9] at H
   have c9b0 := decide_eq_true c9
   clear c9
   by_cases c10 : 0 ≤ x11_1
   rotate_left
   ·
    rw [if_neg c10] at H
    exact absurd H Z43
   rw [if_pos c10] at H
   have c10b0 := decide_eq_true c10
   clear c10
   by_cases c11 : x11_1 < (l0.length : Int)
   rotate_left
   ·
    rw [if_neg c11] at H
    exact absurd H Z43
   rw [if_pos c11] at H
   have c11b0 := decide_eq_true c11
   clear c11
   obtain ⟨bq12, hbq12⟩ : ∃ b_ : Bool, b_ = (rdOf false l0 x11_1) := ⟨_, rfl⟩
   replace H : (if bq12 = true then ((FT.f t23 x30_1 x11_1).bind fun t31 => (Fm.l0 k1 l0 (l0.length : Int) (wrap64 (x11_1 + 1)) t23 t31)) else (Fm.l0 k1 l0 (l0.length : Int) (wrap64 (x11_1 + 1)) t23 x30_1)) = some (r1, r2) := by rw [← hbq12] at H; exact H
   have Nbq12 := am hbq12
   clear hbq12
   by_cases c13 : bq12 = true
   rotate_left
   ·
    replace c13 := Bool.eq_false_iff.mpr c13
    subst c13
    rw [if_neg (show ¬ (false = true) from Z16)] at H
    have H' := am H
    clear H
    have p33 : 0 ≤ (x11_1 : Int) := of_decide_eq_true Z6
    have q33 : x11_1 < (l0.length : Int) := of_decide_eq_true Z6
    obtain ⟨ad33, e33, hx33_0⟩ := Kd.at_bool HR0.out x11_1 p33 q33
    (try rw [← Nbq12.out] at hx33_0)
    cases e33
    replace hx33_0 := (HB.out.cell (World.block_lt_of_cell? w _ hx33_0)).trans hx33_0
    replace p33 := eq_true p33
    replace q33 := eq_true q33
    go_wp2
    go_roundg k1
    case measure => have := HK1.out; omega
    case rel => exact ⟨(wrap64 (x11_1 + 1)), (x30_1), (u30), Z110, H', ⟨by have := HK1.out; omega⟩, ⟨Z104⟩, ⟨pb BK25⟩, ⟨pb BK29⟩, ⟨Z55⟩⟩
   subst c13
   rw [if_pos rfl] at H
   replace H := Option.bind_eq_some_iff.mp H
   obtain ⟨t31, A32, H⟩ := H
   try dsimp only at H
   have A14 := am A32
   clear A32
   have H' := am H
   clear H
   have p33 : 0 ≤ (x11_1 : Int) := of_decide_eq_true Z6
   have q33 : x11_1 < (l0.length : Int) := of_decide_eq_true Z6
   obtain ⟨ad33, e33, hx33_0⟩ := Kd.at_bool HR0.out x11_1 p33 q33
   (try rw [← Nbq12.out] at hx33_0)
   cases e33
   replace hx33_0 := (HB.out.cell (World.block_lt_of_cell? w _ hx33_0)).trans hx33_0
   replace p33 := eq_true p33
   replace q33 := eq_true q33
   have hnb15 := NB29_25.out
   have hnc15 := NB25_29.out
   obtain ⟨hcz16_0, hcz16_1, hfz16_0, hfz16_1⟩ := ce2 BK29
   obtain ⟨Ao17, co17, eo17⟩ := Kd.R_slice HO_30.out
   subst eo17
   go_wp2_with (first | ((with_reducible refine gate_callee (f := 77) rfl ?_); refine gL 19 rfl Try.func77 #[.agg #[.int .i64 t23, .slice Ao17 x30_1.length co17], .int .i64 x11_1] ?_; (with_reducible refine (FT.calls t23 (fun k_ => some k_ = (.slice Ao17 x30_1.length co17 : Value).ownBlock) (.slice Ao17 x30_1.length co17) x30_1 x11_1 t31 w _ ?side1 ?side2 A14.out).mono ?_); (case side1 => exact Z55); (case side2 => exact Kd.R_tight rfl HO_30.out); rintro e w18 ⟨rfl, hy0, hb, hkp⟩; refine ⟨_, rfl, ?_⟩; replace BK25 := am (blk_kept (uK BK25) hkp (fun hs_ => (fun e_ => (Kd.R_ne HO_30.out BK25.out Z16) e_) hs_)); replace BK29 := am (blk_kept (uK BK29) hkp (fun hs_ => (fun e_ => (Kd.R_ne HO_30.out BK29.out Z16) e_) hs_)); replace HO_30 := am (Kd.R_reok rfl hy0 (fun k_ e_ => HO_30.out.1 k_ e_)); replace HB := am (hb); (try clear hb); (try clear hkp); (try clear hy0)))
   go_roundg k1
   case measure => have := HK1.out; omega
   case rel => exact ⟨(wrap64 (x11_1 + 1)), (t31), (.slice Ao17 x30_1.length co17), Z110, H', ⟨by have := HK1.out; omega⟩, ⟨Z104⟩, ⟨pb BK25⟩, ⟨pb BK29⟩, ⟨Z55⟩⟩

/-! ### FP: function 48 -/
def FP.f (a0 : Int) (a1 : Int) : Option (Int) := if a0 > a1 then (some a0) else (some a1)
theorem FP.calls (a0 : Int) (a1 : Int) (r : Int) (w : World) (h : FP.f a0 a1 = some r) :
    Calls Try.prog 48 #[.int .i64 a0, .int .i64 a1] w fun e w' => e = .returned (.int .i64 r) ∧ Drawn0 w w' := by
  have H : (if a0 > a1 then (some a0) else (some a1)) = some r := h
  clear h
  by_cases c3 : a0 > a1
  · rw [if_pos c3] at H
    have c3b0 := decide_eq_true c3
    clear c3
    obtain rfl := Option.some.inj H
    go_enter Try.func48, Try.ntmps48
    go_wp2
    go_ret
    exact ⟨Z110, Z22⟩
  · rw [if_neg c3] at H
    have c3b0 := decide_eq_false c3
    clear c3
    obtain rfl := Option.some.inj H
    go_enter Try.func48, Try.ntmps48
    go_wp2
    go_ret
    exact ⟨Z110, Z22⟩

/-! ### Fs: function 61 -/
def Fs.l0 : Nat → Int → Int → Int → Option (Int)
 | 0, _, _, _ => none
 | k + 1, x0, x1, x5 => (FP.f x0 1).bind fun t2 => (if 0 ≤ (wrap64 (x5 + 1)) then (if (shl .i64 t2 (wrap64 (x5 + 1))) ≤ x1 then (Fs.l0 k x0 x1 (wrap64 (x5 + 1))) else (some x5)) else (none))
def Fs.f (k : Nat) (a0 : Int) (a1 : Int) : Option (Int) := Fs.l0 k a0 a1 0
theorem Fs.mono_l : ∀ k, (∀ y0 y1 y2, LeO (Fs.l0 k y0 y1 y2) (Fs.l0 (k + 1) y0 y1 y2))
 | 0 => fun _ _ _ r h => by simp [Fs.l0] at h | k + 1 => by
  have ih0 := Fs.mono_l k
  ·
   intro y0 y1 y2
   unfold Fs.l0
   exact Mo1
theorem Fs.mono : ∀ a0 a1 k, LeO (Fs.f k a0 a1) (Fs.f (k + 1) a0 a1) := by
 intro a0 a1 k
 have ih0 := Fs.mono_l k
 unfold Fs.f
 exact Mo1
theorem Fs.calls (k : Nat) (a0 : Int) (a1 : Int) (r : Int) (w : World) (h : Fs.f k a0 a1 = some r) :
  Calls Try.prog 61 #[.int .i64 a0, .int .i64 a1] w fun e w' => e = .returned (.int .i64 r) ∧ Drawn0 w w' := by
 have H : (Fs.l0 k a0 a1 0) = some r := h
 clear h
 have H' := am H
 clear H
 go_enter Try.func61, Try.ntmps61
 go_wp2
 go_loopg [5] k (fun kq v5 w' => ∃ (x5_1 : Int), v5 = .int .i64 x5_1 ∧ Aside0 (Fs.l0 kq a0 a1 x5_1 = some r) ∧ Aside0 (kq ≤ k) ∧ Drawn0 w w')
 case atStart => exact ⟨(0), Z110, H', ⟨Nat.le_refl _⟩, Z22⟩
 case round =>
  clear H'
  try clear p2
  obtain ⟨x5_1, rfl, HA, HK1, ⟨m1, rfl⟩⟩ := hrel
  cases gk with
  | zero => exact absurd HA.out (by simp [Fs.l0])
  | succ k1 =>
   have H := HA.out
   clear HA
   simp only [Fs.l0] at H
   replace H := Option.bind_eq_some_iff.mp H
   obtain ⟨t8, A30, H⟩ := H
   try dsimp only at H
   have A3 := am A30
   clear A30
   obtain ⟨ji4, hji4⟩ : ∃ j_ : Int, (wrap64 (x5_1 + 1)) = j_ := ⟨_, rfl⟩
   replace H : (if 0 ≤ (ji4) then (if (shl .i64 t8 (ji4)) ≤ a1 then (Fs.l0 k1 a0 a1 ji4) else (some x5_1)) else (none)) = some r := by first | (rw [hji4] at H; exact H) | (simp only [hji4] at H ⊢; exact H)
   (try rw [hji4] at A3)
   have hji4w : (IntKind.i64.wrap (x5_1 + 1)) = ji4 := (i64_w _).trans hji4
   by_cases c5 : 0 ≤ (ji4)
   rotate_left
   ·
    rw [if_neg c5] at H
    exact absurd H Z43
   rw [if_pos c5] at H
   have c5b0 := eq_true c5
   have c5b1 := decide_eq_true c5
   clear c5
   obtain ⟨ji6, hji6⟩ : ∃ j_ : Int, (shl .i64 t8 (ji4)) = j_ := ⟨_, rfl⟩
   replace H : (if (ji6) ≤ a1 then (Fs.l0 k1 a0 a1 ji4) else (some x5_1)) = some r := by first | (rw [hji6] at H; exact H) | (simp only [hji6] at H ⊢; exact H)
   (try rw [hji6] at A3)
   have hji6_ : (IntKind.i64.wrap (t8 * 2 ^ min (ji4).toNat 64)) = ji6 := hji6
   have hji6z : (ji4) ≤ 64 → (IntKind.i64.wrap (t8 * 2 ^ (ji4).toNat)) = ji6 := shl_small hji6
   have hji6y : (wrap64 (t8 * 2 ^ min (ji4).toNat 64)) = ji6 := (i64_w _).symm.trans hji6_
   have hji6x : (ji4) ≤ 64 → (wrap64 (t8 * 2 ^ (ji4).toNat)) = ji6 := fun h_ => (i64_w _).symm.trans (hji6z h_)
   by_cases c7 : (ji6) ≤ a1
   rotate_left
   ·
    rw [if_neg c7] at H
    have c7b0 := decide_eq_false c7
    clear c7
    obtain rfl := Option.some.inj H
    go_wp2_with (first | ((with_reducible refine gate_callee (f := 48) rfl ?_); refine gL 7 rfl Try.func48 #[.int .i64 a0, .int .i64 1] ?_; (with_reducible refine (FP.calls a0 1 t8 _ A3.out).mono ?_); rintro e w' ⟨rfl, ⟨nd, rfl⟩⟩; refine ⟨_, rfl, ?_⟩))
    go_ret
    exact ⟨by first | rfl | (simp; done) | (simp only [← hji4, ← hji6] <;> (first | rfl | simp)) | (simp [*]; done), Z22⟩
   rw [if_pos c7] at H
   have c7b0 := decide_eq_true c7
   clear c7
   have H' := am H
   clear H
   go_wp2_with (first | ((with_reducible refine gate_callee (f := 48) rfl ?_); refine gL 7 rfl Try.func48 #[.int .i64 a0, .int .i64 1] ?_; (with_reducible refine (FP.calls a0 1 t8 _ A3.out).mono ?_); rintro e w' ⟨rfl, ⟨nd, rfl⟩⟩; refine ⟨_, rfl, ?_⟩))
   go_roundg k1
   case measure => have := HK1.out; omega
   case rel => exact ⟨(ji4), (by first | rfl | (simp; done) | (simp only [← hji4] <;> (first | rfl | simp)) | (simp [*]; done)), H', ⟨by have := HK1.out; omega⟩, Z22⟩

/-! ### Fx: function 64 -/
def Fx.l0 : Nat → List Bool → Int → Int → Int → Int → Option (List Bool)
 | 0, _, _, _, _, _ => none
 | k + 1, x0, x1, x2, x3, x8 => if x8 < x2 then (if 0 ≤ x8 then (if 0 ≤ (wrap64 (x1 + x8)) then (if (wrap64 (x1 + x8)) < (x0.length : Int) then (Fx.l0 k (x0.set ((wrap64 (x1 + x8)) : Int).toNat ((Go.bits .and .i64 (shr .i64 x3 x8) 1) == 1)) x1 x2 x3 (wrap64 (x8 + 1))) else (none)) else (none)) else (none)) else (some x0)
def Fx.f (k : Nat) (l0 : List Bool) (a1 : Int) (a2 : Int) (a3 : Int) : Option (List Bool) := Fx.l0 k l0 a1 a2 a3 0
theorem Fx.mono_l : ∀ k, (∀ y0 y1 y2 y3 y4, LeO (Fx.l0 k y0 y1 y2 y3 y4) (Fx.l0 (k + 1) y0 y1 y2 y3 y4))
 | 0 => fun _ _ _ _ _ r h => by simp [Fx.l0] at h | k + 1 => by
  have ih0 := Fx.mono_l k
  ·
   intro y0 y1 y2 y3 y4
   unfold Fx.l0
   exact Mo1
theorem Fx.mono : ∀ a0 a1 a2 a3 k, LeO (Fx.f k a0 a1 a2 a3) (Fx.f (k + 1) a0 a1 a2 a3) := by
 intro a0 a1 a2 a3 k
 have ih0 := Fx.mono_l k
 unfold Fx.f
 exact Mo1
theorem Fx.calls (k : Nat) (P0_ : Nat → Prop) (u4_ : Value) (l0 : List Bool) (a1 : Int) (a2 : Int) (a3 : Int) (r : List Bool) (w0 w : World) (hB : Below w0.heap.size w0 w) (ho0 : Kd.R Kd.bool 4 w w0.heap.size P0_ u4_ l0) (h : Fx.f k l0 a1 a2 a3 = some r) :
  Calls Try.prog 64 #[u4_, .int .i64 a1, .int .i64 a2, .int .i64 a3] w fun e w' => e = .returned (.tuple #[]) ∧ Kd.R Kd.bool 4 w' w0.heap.size (fun k_ => (P0_ k_ ∨ w.heap.size ≤ k_)) u4_ r ∧ Below w0.heap.size w0 w' ∧ Kept w w' (fun k_ => P0_ k_) := by
 have HO0 := am (show Kd.R Kd.bool 4 w w0.heap.size (fun k_ => (P0_ k_ ∨ w.heap.size ≤ k_)) u4_ l0 from Kd.R_mono ho0 (fun k_ hk => (.inl hk)))
 have HK := am (Kept.refl w (fun k_ => P0_ k_))
 have HW0 := am hB.size
 have HB := am hB
 clear hB
 have H : (Fx.l0 k l0 a1 a2 a3 0) = some r := h
 clear h
 have H' := am H
 clear H
 go_enter Try.func64, Try.ntmps64
 go_wp2
 go_loopg [8] k (fun kq v8 w' => ∃ (x0_1 : List Bool) (x8_1 : Int), v8 = .int .i64 x8_1 ∧ Aside0 (Fx.l0 kq x0_1 a1 a2 a3 x8_1 = some r) ∧ Aside0 (kq ≤ k) ∧ Aside0 (Kd.R Kd.bool 4 w' w0.heap.size (fun k_ => (P0_ k_ ∨ w.heap.size ≤ k_)) u4_ x0_1) ∧ Aside0 (Kept w w' (fun k_ => P0_ k_)) ∧ Aside0 (Below w0.heap.size w0 w'))
 case atStart => exact ⟨(l0), (0), Z110, H', ⟨Nat.le_refl _⟩, ⟨by (with_reducible repeat (first | apply Kd.R_alloc | apply Kd.R_drewN | apply Kd.R_drew)); exact HO0.out⟩, ⟨Z62⟩, ⟨uN HB⟩⟩
 case round =>
  clear H'
  try clear p2
  try clear HO_0
  obtain ⟨x0_1, x8_1, rfl, HA, HK1, HO_0, HK, HB⟩ := hrel
  cases gk with
  | zero => exact absurd HA.out (by simp [Fx.l0])
  | succ k1 =>
   have H := HA.out
   clear HA
   simp only [Fx.l0] at H
   by_cases c5 : x8_1 < a2
   rotate_left
   ·
    rw [if_neg c5] at H
    have c5b0 := decide_eq_false c5
    clear c5
    obtain rfl := Option.some.inj H
    go_wp2
    first | go_end0 | ((try simp only [Exit.inBlock, Exit.then]); refine bodyPost_ret (results_none rfl _ _ _) rfl ?_)
    exact ⟨Z109, Z106, uN HB, Z62⟩
   rw [if_pos c5] at H
   have c5b0 := decide_eq_true c5
   clear c5
   by_cases c6 : 0 ≤ x8_1
   rotate_left
   ·
    rw [if_neg c6] at H
    exact absurd H Z43
   rw [if_pos c6] at H
   have c6b0 := eq_true c6
   have c6b1 := decide_eq_true c6
   clear c6
   obtain ⟨ji7, hji7⟩ : ∃ j_ : Int, (shr .i64 a3 x8_1) = j_ := ⟨_, rfl⟩
   replace H : (if 0 ≤ (wrap64 (a1 + x8_1)) then (if (wrap64 (a1 + x8_1)) < (x0_1.length : Int) then (Fx.l0 k1 (x0_1.set ((wrap64 (a1 + x8_1)) : Int).toNat ((Go.bits .and .i64 (ji7) 1) == 1)) a1 a2 a3 (wrap64 (x8_1 + 1))) else (none)) else (none)) = some r := by first | (rw [hji7] at H; exact H) | (simp only [hji7] at H ⊢; exact H)
   have hji7_ : (a3 / 2 ^ min x8_1.toNat 64) = ji7 := hji7
   have hji7z : x8_1 ≤ 64 → (a3 / 2 ^ x8_1.toNat) = ji7 := shr_small hji7
   obtain ⟨ji8, hji8⟩ : ∃ j_ : Int, (wrap64 (a1 + x8_1)) = j_ := ⟨_, rfl⟩
   replace H : (if 0 ≤ (ji8) then (if (ji8) < (x0_1.length : Int) then (Fx.l0 k1 (x0_1.set ((ji8) : Int).toNat ((Go.bits .and .i64 (ji7) 1) == 1)) a1 a2 a3 (wrap64 (x8_1 + 1))) else (none)) else (none)) = some r := by first | (rw [hji8] at H; exact H) | (simp only [hji8] at H ⊢; exact H)
   have hji8w : (IntKind.i64.wrap (a1 + x8_1)) = ji8 := (i64_w _).trans hji8
   by_cases c9 : 0 ≤ (ji8)
   rotate_left
   ·
    rw [if_neg c9] at H
    exact absurd H Z43
   rw [if_pos c9] at H
   have c9b0 := decide_eq_true c9
   clear c9
   by_cases c10 : (ji8) < (x0_1.length : Int)
   rotate_left
   ·
    rw [if_neg c10] at H
    exact absurd H Z43
   rw [if_pos c10] at H
   have c10b0 := decide_eq_true c10
   clear c10
   obtain ⟨y14, hy14⟩ : ∃ y_ : List Bool, y_ = (x0_1.set ((ji8) : Int).toNat ((Go.bits .and .i64 (ji7) 1) == 1)) := ⟨_, rfl⟩
   replace H : (Fx.l0 k1 y14 a1 a2 a3 (wrap64 (x8_1 + 1))) = some r := by first | (rw [hy14]; with_reducible exact H) | (have H2_ := (Option.bind_some _ _).symm.trans H; rw [hy14]; with_reducible exact H2_) | (have H2_ := (Option.bind_some _ _).symm.trans H; with_reducible exact H2_) | with_reducible exact H | (rw [hy14]; exact H) | exact H
   have Ny14 := am hy14
   clear hy14
   have H' := am H
   clear H
   have p11 : 0 ≤ ((ji8) : Int) := of_decide_eq_true Z6
   have q11 : ((ji8) : Int) < ((x0_1.length : Int) : Int) := of_decide_eq_true Z6
   obtain ⟨go11, co11, eo11, gb11, gl11, cl11, HG11⟩ := Kd.R_form HO_0.out Z70
   (first | cases eo11 | (injection eo11 with ea_ en_ ec_; (first | subst ea_ | (injection ea_ with ea_; subst ea_)); subst ec_; clear en_))
   have GB11 := am gb11
   have GG11 := am HG11
   clear gb11 gl11 HG11
   have HMgo11 := am (show (P0_ go11 ∨ w.heap.size ≤ go11) from (HO_0.out.1 _ rfl))
   obtain ⟨hx11_0, hf11_0⟩ := Kd.R_celln false HO_0.out ((ji8) : Int) p11 q11
   replace p11 := eq_true p11
   replace q11 := eq_true q11
   have HP12 := Kd.R_putg HO_0.out ((ji8) : Int) ((Go.bits .and .i64 (ji7) 1) == 1)
   go_wp2_with (first | ((with_reducible refine gate_store (t := 4) (p := 23) rfl ?_); refine store_event (t := 4) (p := 23) (v := ?vo_w13) (w1 := (wr.setCell ⟨go11, ((ji8) : Int).toNat, none⟩ (.bool ((Go.bits .and .i64 (ji7) 1) == 1)))) ?hg ?ho ?hn ?hr ?_; (case ho => rfl); (case hg => rfl); (case hn => rfl); (case hr => exact Z111); intro w13 hw; have hg : wr.grownBy w13 (some go11) := (by rw [hw]; exact HP12.2); have hp_ : Kd.R Kd.bool 4 w13 w0.heap.size (fun k_ => (P0_ k_ ∨ w.heap.size ≤ k_)) (.slice (some ⟨go11, 0, none⟩) x0_1.length co11) y14 := (by rw [hw, Ny14.out]; exact HP12.1); clear HP12; replace HB := am ((by rw [hw]; exact below_set (HB.out) GB11.out : Below w0.heap.size w0 w13)); replace HK := am (Kept.of_grown (S := (fun k_ => P0_ k_)) hg Z62 (fun k_ e_ => (HO_0.out.1 k_ e_))); replace HO_0 := am (hp_); clear hg hw hp_))
   go_roundg k1
   case measure => have := HK1.out; omega
   case rel => exact ⟨(y14), (wrap64 (x8_1 + 1)), Z110, H', ⟨by have := HK1.out; omega⟩, ⟨Z106⟩, ⟨Z62⟩, ⟨uN HB⟩⟩

end Go.Proofs.Ytllaofiopnhdgaa.PFnSparseParts
