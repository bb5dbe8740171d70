-- made by wip/tools/myprint.py over the kit's print, for this claim
import Derived.Test.YtllaofiopnhdgaaPFnSparseCountsx0
import Derived.Test.YtllaofiopnhdgaaPFnSparseCountsx7
import Derived.Test.YtllaofiopnhdgaaPFnSparseCountsx9
import Derived.Test.YtllaofiopnhdgaaPFnSparseCountsx10
namespace Go.Proofs.Ytllaofiopnhdgaa.PFnSparseCounts
open Go.RowKit Go.Proofs.YtllaofiopnhdgaaW.PrintWords Go.Proofs.YtllaofiopnhdgaaW.PrintLast Go.Proofs.YtllaofiopnhdgaaW.PrintMore
open List (setIfInBounds_toArray set_cons_zero set_cons_succ)
attribute [local go_sem] max2_int min2_int max_two min_two max_three min_three max_four min_four   -- for this text's walks alone
set_option linter.unusedVariables false
set_option linter.unusedSimpArgs false

/-! ### impl_Sparse_numbers_in28_0: function 22 -/
mutual
def impl_Sparse_numbers_in28_0.j0 : Nat → Int → Bool → Int → Int → Int → Int → List Int → Int → List Int → Option (List Int × Bool)
 | 0, _, _, _, _, _, _, _, _, _ => none
 | k + 1, x4, x61, x440000, x440001, x440002, x440003, x440004, x440005, x440006 => if x61 = true then (some (([] : List Int), false)) else (impl_Sparse_numbers_in28_0.l0 k x4 (([] : List Int)) x440005 0 x440000 x440001 x440002 x440003 x440004 x440005 x440006)
def impl_Sparse_numbers_in28_0.l0 : Nat → Int → List Int → Int → Int → Int → Int → Int → Int → List Int → Int → List Int → Option (List Int × Bool)
 | 0, _, _, _, _, _, _, _, _, _, _, _ => none
 | k + 1, x4, x6, x67, x68, x440000, x440001, x440002, x440003, x440004, x440005, x440006 => if x68 < x67 then ((impl_Bits_at_in28_5.f x440000 x440001 x440002 x440003 x440004 x440005 x440006 x68).bind fun t447 => (if t447 = true then (if (x6.length : Int) < x440000 then (if 0 ≤ x4 then ((impl_Bits_field_in28_3.f k x440000 x440001 x440002 x440003 x440004 x440005 x440006 (wrap64 ((x6.length : Int) * x4)) x4).bind fun t448 => (if x6.length < 17592186044416 then (impl_Sparse_numbers_in28_0.l0 k x4 (x6 ++ [Go.bits .or .i64 (shl .i64 (wrap64 (x68 - (x6.length : Int))) x4) t448]) x67 (wrap64 (x68 + 1)) x440000 x440001 x440002 x440003 x440004 x440005 x440006) else (none))) else (none)) else (impl_Sparse_numbers_in28_0.l0 k x4 x6 x67 (wrap64 (x68 + 1)) x440000 x440001 x440002 x440003 x440004 x440005 x440006)) else (impl_Sparse_numbers_in28_0.l0 k x4 x6 x67 (wrap64 (x68 + 1)) x440000 x440001 x440002 x440003 x440004 x440005 x440006))) else (if (x6.length : Int) = x440000 then ((impl_sortedOk.f k x6 x440001).bind fun t452 => (impl_Sparse_numbers_in28_0.j2 k x6 (!t452) x440000 x440001 x440002 x440003 x440004 x440005 x440006)) else (impl_Sparse_numbers_in28_0.j2 k x6 true x440000 x440001 x440002 x440003 x440004 x440005 x440006))
def impl_Sparse_numbers_in28_0.j2 : Nat → List Int → Bool → Int → Int → Int → Int → List Int → Int → List Int → Option (List Int × Bool)
 | 0, _, _, _, _, _, _, _, _, _ => none
 | k + 1, x6, x119, x440000, x440001, x440002, x440003, x440004, x440005, x440006 => if x119 = true then (some (([] : List Int), false)) else ((impl_sparse.f k x6 x440001).bind fun bt453 => ((impl_sameBits.f k bt453.2.2.2.1 bt453.2.2.2.2.1 x440003 x440004).bind fun t465 => (if t465 = true then ((impl_sameBits.f k bt453.2.2.2.2.2.1 bt453.2.2.2.2.2.2 x440005 x440006).bind fun t466 => (some (x6, t466))) else (some (x6, false)))))
end
def impl_Sparse_numbers_in28_0.f (k : Nat) (a0_0 : Int) (a0_1 : Int) (a0_2 : Int) (a0_3 : Int) (l0_4 : List Int) (a0_5 : Int) (l0_6 : List Int) : Option (List Int × Bool) := (impl_WidthFor.f k a0_0 a0_1).bind fun bt440 => (if bt440.2 = true then (if bt440.1 = a0_2 then ((impl_IsBits.f k a0_3 l0_4).bind fun t442 => (if t442 = true then ((impl_IsBits.f k a0_5 l0_6).bind fun t443 => (if t443 = true then (impl_Sparse_numbers_in28_0.j0 k bt440.1 (a0_3 != (wrap64 (bt440.1 * a0_0))) a0_0 a0_1 a0_2 a0_3 l0_4 a0_5 l0_6) else (impl_Sparse_numbers_in28_0.j0 k bt440.1 true a0_0 a0_1 a0_2 a0_3 l0_4 a0_5 l0_6))) else (impl_Sparse_numbers_in28_0.j0 k bt440.1 true a0_0 a0_1 a0_2 a0_3 l0_4 a0_5 l0_6))) else (impl_Sparse_numbers_in28_0.j0 k bt440.1 true a0_0 a0_1 a0_2 a0_3 l0_4 a0_5 l0_6)) else (impl_Sparse_numbers_in28_0.j0 k bt440.1 true a0_0 a0_1 a0_2 a0_3 l0_4 a0_5 l0_6))
theorem impl_Sparse_numbers_in28_0.mono_l : ∀ k, (∀ y0 y1 y2 y3 y4 y5 y6 y7 y8, LeO (impl_Sparse_numbers_in28_0.j0 k y0 y1 y2 y3 y4 y5 y6 y7 y8) (impl_Sparse_numbers_in28_0.j0 (k + 1) y0 y1 y2 y3 y4 y5 y6 y7 y8)) ∧ (∀ y0 y1 y2 y3 y4 y5 y6 y7 y8 y9 y10, LeO (impl_Sparse_numbers_in28_0.l0 k y0 y1 y2 y3 y4 y5 y6 y7 y8 y9 y10) (impl_Sparse_numbers_in28_0.l0 (k + 1) y0 y1 y2 y3 y4 y5 y6 y7 y8 y9 y10)) ∧ (∀ y0 y1 y2 y3 y4 y5 y6 y7 y8, LeO (impl_Sparse_numbers_in28_0.j2 k y0 y1 y2 y3 y4 y5 y6 y7 y8) (impl_Sparse_numbers_in28_0.j2 (k + 1) y0 y1 y2 y3 y4 y5 y6 y7 y8))
 | 0 => ⟨fun _ _ _ _ _ _ _ _ _ r h => by simp [impl_Sparse_numbers_in28_0.j0] at h, fun _ _ _ _ _ _ _ _ _ _ _ r h => by simp [impl_Sparse_numbers_in28_0.l0] at h, fun _ _ _ _ _ _ _ _ _ r h => by simp [impl_Sparse_numbers_in28_0.j2] at h⟩ | k + 1 => by
  obtain ⟨ih0, ih1, ih2⟩ := impl_Sparse_numbers_in28_0.mono_l k
  refine ⟨?_, ?_, ?_⟩
  ·
   intro y0 y1 y2 y3 y4 y5 y6 y7 y8
   unfold impl_Sparse_numbers_in28_0.j0
   repeat' first
   | with_reducible first | exact ih0 .. | exact ih1 .. | exact ih2 .. | exact impl_Bits_field_in28_3.mono .. | exact impl_IsBits.mono .. | exact impl_WidthFor.mono .. | exact impl_sameBits.mono .. | exact impl_sortedOk.mono .. | exact impl_sparse.mono .. | exact LeO.refl _ | exact LeO.none _ | refine LeO.ite ?_ ?_ | refine LeO.bind ?_ (fun _ => ?_)
   | exact ih0 .. | exact ih1 .. | exact ih2 .. | exact impl_Bits_field_in28_3.mono .. | exact impl_IsBits.mono .. | exact impl_WidthFor.mono .. | exact impl_sameBits.mono .. | exact impl_sortedOk.mono .. | exact impl_sparse.mono .. | exact LeO.none _ | refine LeO.ite ?_ ?_ | refine LeO.bind ?_ (fun _ => ?_)
  ·
   intro y0 y1 y2 y3 y4 y5 y6 y7 y8 y9 y10
   unfold impl_Sparse_numbers_in28_0.l0
   repeat' first
   | with_reducible first | exact ih0 .. | exact ih1 .. | exact ih2 .. | exact impl_Bits_field_in28_3.mono .. | exact impl_IsBits.mono .. | exact impl_WidthFor.mono .. | exact impl_sameBits.mono .. | exact impl_sortedOk.mono .. | exact impl_sparse.mono .. | exact LeO.refl _ | exact LeO.none _ | refine LeO.ite ?_ ?_ | refine LeO.bind ?_ (fun _ => ?_)
   | exact ih0 .. | exact ih1 .. | exact ih2 .. | exact impl_Bits_field_in28_3.mono .. | exact impl_IsBits.mono .. | exact impl_WidthFor.mono .. | exact impl_sameBits.mono .. | exact impl_sortedOk.mono .. | exact impl_sparse.mono .. | exact LeO.none _ | refine LeO.ite ?_ ?_ | refine LeO.bind ?_ (fun _ => ?_)
  intro y0 y1 y2 y3 y4 y5 y6 y7 y8
  unfold impl_Sparse_numbers_in28_0.j2
  repeat' first
  | with_reducible first | exact ih0 .. | exact ih1 .. | exact ih2 .. | exact impl_Bits_field_in28_3.mono .. | exact impl_IsBits.mono .. | exact impl_WidthFor.mono .. | exact impl_sameBits.mono .. | exact impl_sortedOk.mono .. | exact impl_sparse.mono .. | exact LeO.refl _ | exact LeO.none _ | refine LeO.ite ?_ ?_ | refine LeO.bind ?_ (fun _ => ?_)
  | exact ih0 .. | exact ih1 .. | exact ih2 .. | exact impl_Bits_field_in28_3.mono .. | exact impl_IsBits.mono .. | exact impl_WidthFor.mono .. | exact impl_sameBits.mono .. | exact impl_sortedOk.mono .. | exact impl_sparse.mono .. | exact LeO.none _ | refine LeO.ite ?_ ?_ | refine LeO.bind ?_ (fun _ => ?_)
theorem impl_Sparse_numbers_in28_0.mono : ∀ a0 a1 a2 a3 a4 a5 a6 k, LeO (impl_Sparse_numbers_in28_0.f k a0 a1 a2 a3 a4 a5 a6) (impl_Sparse_numbers_in28_0.f (k + 1) a0 a1 a2 a3 a4 a5 a6) := by
 intro a0 a1 a2 a3 a4 a5 a6 k
 obtain ⟨ih0, ih1, ih2⟩ := impl_Sparse_numbers_in28_0.mono_l k
 unfold impl_Sparse_numbers_in28_0.f
 repeat' first
   | with_reducible first | exact ih0 .. | exact ih1 .. | exact ih2 .. | exact impl_Bits_field_in28_3.mono .. | exact impl_IsBits.mono .. | exact impl_WidthFor.mono .. | exact impl_sameBits.mono .. | exact impl_sortedOk.mono .. | exact impl_sparse.mono .. | exact LeO.refl _ | exact LeO.none _ | refine LeO.ite ?_ ?_ | refine LeO.bind ?_ (fun _ => ?_)
   | exact ih0 .. | exact ih1 .. | exact ih2 .. | exact impl_Bits_field_in28_3.mono .. | exact impl_IsBits.mono .. | exact impl_WidthFor.mono .. | exact impl_sameBits.mono .. | exact impl_sortedOk.mono .. | exact impl_sparse.mono .. | exact LeO.none _ | refine LeO.ite ?_ ?_ | refine LeO.bind ?_ (fun _ => ?_)
def impl_Sparse_numbers_in28_0.T1 : Bool × List (List Nat × List Nat) := (true, [([], []), ([0], [0]), ([1], [1]), ([2], [2]), ([], []), ([4], [4]), ([5], [5]), ([6], [6]), ([3, 7], [3, 7]), ([8], [8]), ([9], [9]), ([9], [9]), ([10, 8, 0, 1, 2, 3, 4, 5, 6, 7, 8, 9, 10], [10]), ([11, 12, 0, 1, 2, 3, 4, 5, 6, 7, 8, 9, 10, 11, 12], [11])])
def impl_Sparse_numbers_in28_0.B1 : List Nat := [0, 1, 3, 7, 0, 16, 48, 112, 255, 511, 1023, 1023, 2047, 8191]
theorem impl_Sparse_numbers_in28_0.tab1 : rtab .any (opsOf Try.f22 1) = impl_Sparse_numbers_in28_0.T1 := by kernel_rfl
theorem impl_Sparse_numbers_in28_0.bits1 : waitsOk impl_Sparse_numbers_in28_0.T1.2 impl_Sparse_numbers_in28_0.B1 = true := by kernel_rfl
def impl_Sparse_numbers_in28_0.T2 : Bool × List (List Nat × List Nat) := (true, [([], []), ([0], [0]), ([1], [1]), ([2], [2]), ([2], [2]), ([4, 2], [2, 4]), ([5, 2], [2, 5]), ([6, 2], [2, 6]), ([3, 7, 2], [2, 3, 7]), ([2, 8], [2, 8]), ([9, 2], [9]), ([10], [10]), ([11, 10], [10, 11]), ([12, 10], [10, 12]), ([13, 10], [10, 13]), ([14, 10, 10], [10, 14]), ([15, 10], [10, 15]), ([10, 16], [10, 16]), ([17, 15], [17]), ([18], [18]), ([19, 18], [18, 19]), ([20, 18], [18, 20]), ([21, 18], [18, 21]), ([22, 18, 18], [18, 22]), ([23, 18], [18, 23]), ([18, 24], [18, 24]), ([25, 23], [25]), ([26], [26]), ([27, 26], [26, 27]), ([28, 26], [26, 28]), ([29, 26], [26, 29]), ([30, 26], [26, 30]), ([26], [26]), ([26], [26]), ([33, 26], [26, 33]), ([34, 26], [26, 34]), ([35, 26], [26, 35]), ([32, 36, 26], [26, 32, 36]), ([31, 37, 26], [26, 31, 37]), ([26, 38], [26, 38])])
def impl_Sparse_numbers_in28_0.B2 : List Nat := [0, 1, 3, 7, 7, 23, 55, 119, 255, 511, 1023, 2047, 4095, 8191, 16383, 32767, 65535, 131071, 262143, 524287, 1048575, 2097151, 4194303, 8388607, 16777215, 33554431, 67108863, 134217727, 268435455, 536870911, 1073741823, 2147483647, 134217727, 134217727, 8724152319, 25904021503, 60263759871, 133278203903, 274877906943, 549755813887]
theorem impl_Sparse_numbers_in28_0.tab2 : rtab .any (opsOf Try.f22 2) = impl_Sparse_numbers_in28_0.T2 := by kernel_rfl
theorem impl_Sparse_numbers_in28_0.bits2 : waitsOk impl_Sparse_numbers_in28_0.T2.2 impl_Sparse_numbers_in28_0.B2 = true := by kernel_rfl
def impl_Sparse_numbers_in28_0.T10 : Bool × List (List Nat × List Nat) := (true, [([], []), ([], []), ([], []), ([1, 2], [1, 2]), ([], []), ([3, 4], [3, 4]), ([], []), ([6], [6]), ([7], [7]), ([], []), ([], []), ([9, 10], [9, 10]), ([], []), ([8, 11, 12], [8, 11, 12]), ([5, 13], [5, 13]), ([14], [14]), ([0, 15, 13], [0, 15]), ([16, 16, 0, 1, 2, 3, 4, 5, 6, 7, 8, 9, 10, 11, 12, 13, 14, 15, 16], [0, 16])])
def impl_Sparse_numbers_in28_0.B10 : List Nat := [0, 0, 0, 6, 0, 30, 0, 64, 192, 0, 0, 1536, 0, 8128, 16382, 32766, 65535, 131071]
theorem impl_Sparse_numbers_in28_0.tab10 : rtab .any (opsOf Try.f22 10) = impl_Sparse_numbers_in28_0.T10 := by kernel_rfl
theorem impl_Sparse_numbers_in28_0.bits10 : waitsOk impl_Sparse_numbers_in28_0.T10.2 impl_Sparse_numbers_in28_0.B10 = true := by kernel_rfl
def impl_Sparse_numbers_in28_0.T15 : Bool × List (List Nat × List Nat) := (true, [([], []), ([], []), ([1], [1]), ([], []), ([3], [3]), ([4], [4]), ([5], [5]), ([2, 6], [2, 6]), ([7, 7], [7]), ([8], [8]), ([9, 8], [8, 9]), ([8], [8]), ([11, 8], [8, 11]), ([12, 8], [8, 12]), ([13, 8], [8, 13]), ([10, 14, 8, 8], [8, 10, 14]), ([8, 15], [8, 15]), ([0, 15, 0], [0]), ([16, 17, 0, 1, 2, 3, 4, 5, 6, 7, 8, 9, 10, 11, 12, 13, 14, 15, 16, 17], [16])])
def impl_Sparse_numbers_in28_0.B15 : List Nat := [0, 0, 2, 0, 8, 24, 56, 126, 254, 510, 1022, 510, 2558, 6654, 14846, 32766, 65534, 65535, 262143]
theorem impl_Sparse_numbers_in28_0.tab15 : rtab .any (opsOf Try.f22 15) = impl_Sparse_numbers_in28_0.T15 := by kernel_rfl
theorem impl_Sparse_numbers_in28_0.bits15 : waitsOk impl_Sparse_numbers_in28_0.T15.2 impl_Sparse_numbers_in28_0.B15 = true := by kernel_rfl
set_option maxHeartbeats 8000000 in
set_option maxRecDepth 100000 in
theorem impl_Sparse_numbers_in28_0.calls (k : Nat) (g0_0 : Nat) (a0_0 : Int) (a0_1 : Int) (a0_2 : Int) (a0_3 : Int) (A0_4 : Option Addr) (c0_4 : Nat) (l0_4 : List Int) (a0_5 : Int) (A0_6 : Option Addr) (c0_6 : Nat) (l0_6 : List Int) (r1 : List Int) (r2 : Bool) (w : World) (hb0_0 : w.heap[g0_0]? = some (.cells #[.int .i64 a0_0, .int .i64 a0_1, .int .i64 a0_2, .int .i64 a0_3, .slice A0_4 l0_4.length c0_4, .int .i64 a0_5, .slice A0_6 l0_6.length c0_6] 28 (0, 0))) (hr0_4 : Kd.C (Kd.int .i64) w A0_4 l0_4.length l0_4) (hc0_4 : l0_4.length ≤ c0_4) (hr0_6 : Kd.C (Kd.int .i64) w A0_6 l0_6.length l0_6) (hc0_6 : l0_6.length ≤ c0_6) (h : impl_Sparse_numbers_in28_0.f k a0_0 a0_1 a0_2 a0_3 l0_4 a0_5 l0_6 = some (r1, r2)) :
  Calls Try.prog 22 #[.pointer (some ⟨g0_0, 0, none⟩)] w fun e w' => ∃ v0_ : Value, e = .returned (.tuple #[v0_, .bool r2]) ∧ Kd.R (Kd.int .i64) 3 w' w.heap.size (fun _ => True) v0_ r1 ∧ Below w.heap.size w w' := by
 have hu26 := Try.underlying26
 have hu28 := Try.underlying28
 have HR0_4 := Aside0.mk hr0_4
 have HC0_4 := Aside0.mk hc0_4
 clear hr0_4 hc0_4
 have HR0_6 := Aside0.mk hr0_6
 have HC0_6 := Aside0.mk hc0_6
 clear hr0_6 hc0_6
 have BK439 := Aside0.mk hb0_0
 clear hb0_0
 have HB := Aside0.mk (Below.refl w.heap.size w)
 have H : ((impl_WidthFor.f k a0_0 a0_1).bind fun bt440 => (if bt440.2 = true then (if bt440.1 = a0_2 then ((impl_IsBits.f k a0_3 l0_4).bind fun t442 => (if t442 = true then ((impl_IsBits.f k a0_5 l0_6).bind fun t443 => (if t443 = true then (impl_Sparse_numbers_in28_0.j0 k bt440.1 (a0_3 != (wrap64 (bt440.1 * a0_0))) a0_0 a0_1 a0_2 a0_3 l0_4 a0_5 l0_6) else (impl_Sparse_numbers_in28_0.j0 k bt440.1 true a0_0 a0_1 a0_2 a0_3 l0_4 a0_5 l0_6))) else (impl_Sparse_numbers_in28_0.j0 k bt440.1 true a0_0 a0_1 a0_2 a0_3 l0_4 a0_5 l0_6))) else (impl_Sparse_numbers_in28_0.j0 k bt440.1 true a0_0 a0_1 a0_2 a0_3 l0_4 a0_5 l0_6)) else (impl_Sparse_numbers_in28_0.j0 k bt440.1 true a0_0 a0_1 a0_2 a0_3 l0_4 a0_5 l0_6))) = some (r1, r2) := h
 clear h
 replace H := Option.bind_eq_some_iff.mp H
 obtain ⟨⟨t440, t441⟩, A20, H⟩ := H
 try dsimp only at H
 have A2 := Aside0.mk A20
 clear A20
 have HC3 := Aside0.mk H
 clear H
 go_enter Try.func22, Try.ntmps22
 try go_wp2
 replace BK439 := Aside0.mk (blk_drew BK439.out)
 replace HB := Aside0.mk (below_drew1 HB.out)
 refine start_ (n := 14) (S := fun w' => w'.cell? ⟨g0_0, 0, none⟩ = some (.int .i64 a0_0) ∧ w'.cell? ⟨g0_0, 1, none⟩ = some (.int .i64 a0_1) ∧ w'.cell? ⟨g0_0, 2, none⟩ = some (.int .i64 a0_2) ∧ w'.cell? ⟨g0_0, 3, none⟩ = some (.int .i64 a0_3) ∧ w'.cell? ⟨g0_0, 4, none⟩ = some (.slice A0_4 l0_4.length c0_4) ∧ w'.cell? ⟨g0_0, 5, none⟩ = some (.int .i64 a0_5) ∧ w'.cell? ⟨g0_0, 6, none⟩ = some (.slice A0_6 l0_6.length c0_6)) (ds := []) (bA 14 0) Z92 rfl rfl ⟨bc BK439 0, bc BK439 1, bc BK439 2, bc BK439 3, bc BK439 4, bc BK439 5, bc BK439 6⟩ (fun hHeld => ?_); refine with_tabW impl_Sparse_numbers_in28_0.tab1 impl_Sparse_numbers_in28_0.bits1 (fun HT_ HW_ => ?_)
 generalize w.drew = w4 at BK439 HB hHeld ⊢
 refine pS 0 11 (bA 14 1) ?_
 refine pS 1 12 (bA 14 3) ?_
 refine pS 2 13 (bA 14 7) ?_
 refine pS 4 15 (bA 14 23) ?_
 refine pS 5 16 (bA 14 55) ?_
 refine pS 6 17 (bA 14 119) ?_
 refine tS7 3 14 (bA 14 127) hHeld ?_
 refine tS7 7 18 (bA 14 255) hHeld ?_
 refine one_ (i := 8) (N := some 19) (bA 14 511) rfl rfl (one_of HT_.out Z92) Z19 (fun K hK => ?_)
 refine goes_ Try.func49 Z92 rfl #[.int .i64 a0_0, .int .i64 a0_1] Z63 rfl rfl Z89 ?_
 with_reducible refine (impl_WidthFor.calls k a0_0 a0_1 t440 t441 _ A2.out).mono ?_
 rintro e w5 ⟨rfl, hb⟩
 refine ⟨_, rfl, ?_⟩
 replace BK439 := kB BK439 hb
 replace HB := Aside0.mk (below_step Z10 hb)
 (try clear hb)
 (try clear hb2)
 (try clear hk)
 (try clear hi)
 refine hK.out _ _ ⟨bc BK439 0, bc BK439 1, bc BK439 2, bc BK439 3, bc BK439 4, bc BK439 5, bc BK439 6⟩ (fun hHeld => ?_)
 clear hK K
 refine norm_ (a' := ?_) ?_ ?_
 rotate_left
 ·
  show Act.put _ (some 19) _ = _
  simp only [Act.put, setIfInBounds_toArray, set_cons_zero, set_cons_succ, i64_w, i32_w]
  rfl
 refine pS 9 10 (bA 14 1023) ?_
 refine pS 10 20 (bA 14 2047) ?_
 refine pS 11 21 (bA 14 4095) ?_
 refine pS 12 4 (bA 14 8191) ?_
 refine pS 13 5 (bA 14 16383) ?_
 refine done_ (done_of HT_.out Z92) ?_
 go_upto_region 2 with (fail)
 go_cut [61] (fun v61 wc => ∃ (kq : Nat) (x61_2 : Bool), v61 = .bool x61_2 ∧ Aside0 (impl_Sparse_numbers_in28_0.j0 kq t440 x61_2 a0_0 a0_1 a0_2 a0_3 l0_4 a0_5 l0_6 = some (r1, r2)) ∧ Aside0 (kq ≤ k) ∧ Aside0 (wc.heap[g0_0]? = some (.cells #[.int .i64 a0_0, .int .i64 a0_1, .int .i64 a0_2, .int .i64 a0_3, (.slice A0_4 l0_4.length c0_4), .int .i64 a0_5, (.slice A0_6 l0_6.length c0_6)] 28 (0, 0))) ∧ Aside0 (Below w.heap.size w wc))
 case first =>
  have H := HC3.out
  clear HC3
  by_cases c6 : t441 = true
  ·
   subst c6
   rw [if_pos rfl] at H
   by_cases c7 : t440 = a0_2
   ·
    rw [if_pos c7] at H
    have c7b0 : (t440 == a0_2) = true := beq_iff_eq.mpr c7
    have c7b1 : (t440 != a0_2) = false := bne_eq_false_iff_eq.mpr c7
    clear c7
    (first | rw [c7b0] | (simp only [i64_w, i32_w]; rw [c7b0]) | skip)
    replace H := Option.bind_eq_some_iff.mp H
    obtain ⟨t442, A80, H⟩ := H
    try dsimp only at H
    have A8 := Aside0.mk A80
    clear A80
    by_cases c9 : t442 = true
    ·
     subst c9
     rw [if_pos rfl] at H
     replace H := Option.bind_eq_some_iff.mp H
     obtain ⟨t443, A100, H⟩ := H
     try dsimp only at H
     have A10 := Aside0.mk A100
     clear A100
     by_cases c11 : t443 = true
     ·
      subst c11
      rw [if_pos rfl] at H
      have H' := Aside0.mk H
      clear H
      try go_wp2
      replace BK439 := Aside0.mk (blk_drew BK439.out)
      replace HB := Aside0.mk (below_drew1 HB.out)
      refine start_ (n := 40) (S := fun w' => w'.cell? ⟨g0_0, 0, none⟩ = some (.int .i64 a0_0) ∧ w'.cell? ⟨g0_0, 1, none⟩ = some (.int .i64 a0_1) ∧ w'.cell? ⟨g0_0, 2, none⟩ = some (.int .i64 a0_2) ∧ w'.cell? ⟨g0_0, 3, none⟩ = some (.int .i64 a0_3) ∧ w'.cell? ⟨g0_0, 4, none⟩ = some (.slice A0_4 l0_4.length c0_4) ∧ w'.cell? ⟨g0_0, 5, none⟩ = some (.int .i64 a0_5) ∧ w'.cell? ⟨g0_0, 6, none⟩ = some (.slice A0_6 l0_6.length c0_6)) (ds := []) (bA 40 0) Z92 rfl rfl ⟨bc BK439 0, bc BK439 1, bc BK439 2, bc BK439 3, bc BK439 4, bc BK439 5, bc BK439 6⟩ (fun hHeld => ?_); refine with_tabW impl_Sparse_numbers_in28_0.tab2 impl_Sparse_numbers_in28_0.bits2 (fun HT_ HW_ => ?_)
      generalize w5.drew = w12 at BK439 HB hHeld ⊢
      refine pS 0 22 (bA 40 1) ?_
      refine pS 1 23 (bA 40 3) ?_
      refine pS 2 24 (bA 40 7) ?_
      refine pS 3 25 (bA 40 15) ?_
      refine pS 4 26 (bA 40 31) ?_
      refine pS 5 27 (bA 40 63) ?_
      refine pS 6 28 (bA 40 127) ?_
      refine tS7 7 29 (bA 40 255) hHeld ?_
      refine pS 8 30 (bA 40 511) ?_
      refine pS 9 31 (bA 40 1023) ?_
      refine pS 10 32 (bA 40 2047) ?_
      refine pS 11 33 (bA 40 4095) ?_
      refine pS 12 34 (bA 40 8191) ?_
      refine pS 13 35 (bA 40 16383) ?_
      refine tS7 14 36 (bA 40 32767) hHeld ?_
      refine one_ (i := 15) (N := some 37) (bA 40 65535) rfl rfl (one_of HT_.out Z92) Z19 (fun K hK => ?_)
      refine goes_ Try.func50 Z92 rfl #[.agg #[.int .i64 a0_3, .slice A0_4 l0_4.length c0_4]] Z63 rfl rfl Z89 ?_
      with_reducible refine (impl_IsBits.calls k a0_3 _ _ l0_4 true _ ?side1 ?side2 A8.out).mono ?_
      (case side1 => exact uC HR0_4 HB)
      (case side2 => exact HC0_4.out)
      rintro e w13 ⟨rfl, hb⟩
      refine ⟨_, rfl, ?_⟩
      replace BK439 := kB BK439 hb
      replace HB := Aside0.mk (below_step Z10 hb)
      (try clear hb)
      (try clear hb2)
      (try clear hk)
      (try clear hi)
      refine hK.out _ _ ⟨bc BK439 0, bc BK439 1, bc BK439 2, bc BK439 3, bc BK439 4, bc BK439 5, bc BK439 6⟩ (fun hHeld => ?_)
      clear hK K
      refine norm_ (a' := ?_) ?_ ?_
      rotate_left
      ·
       show Act.put _ (some 37) _ = _
       simp only [Act.put, setIfInBounds_toArray, set_cons_zero, set_cons_succ, i64_w, i32_w]
       rfl
      refine pS 16 38 (bA 40 131071) ?_
      refine pS 17 39 (bA 40 262143) ?_
      refine pS 18 40 (bA 40 524287) ?_
      refine pS 19 41 (bA 40 1048575) ?_
      refine pS 20 42 (bA 40 2097151) ?_
      refine pS 21 43 (bA 40 4194303) ?_
      refine tS7 22 44 (bA 40 8388607) hHeld ?_
      refine one_ (i := 23) (N := some 45) (bA 40 16777215) rfl rfl (one_of HT_.out Z92) Z19 (fun K hK => ?_)
      refine goes_ Try.func50 Z92 rfl #[.agg #[.int .i64 a0_5, .slice A0_6 l0_6.length c0_6]] Z63 rfl rfl Z89 ?_
      with_reducible refine (impl_IsBits.calls k a0_5 _ _ l0_6 true _ ?side1 ?side2 A10.out).mono ?_
      (case side1 => exact uC HR0_6 HB)
      (case side2 => exact HC0_6.out)
      rintro e w14 ⟨rfl, hb⟩
      refine ⟨_, rfl, ?_⟩
      replace BK439 := kB BK439 hb
      replace HB := Aside0.mk (below_step Z10 hb)
      (try clear hb)
      (try clear hb2)
      (try clear hk)
      (try clear hi)
      refine hK.out _ _ ⟨bc BK439 0, bc BK439 1, bc BK439 2, bc BK439 3, bc BK439 4, bc BK439 5, bc BK439 6⟩ (fun hHeld => ?_)
      clear hK K
      refine norm_ (a' := ?_) ?_ ?_
      rotate_left
      ·
       show Act.put _ (some 45) _ = _
       simp only [Act.put, setIfInBounds_toArray, set_cons_zero, set_cons_succ, i64_w, i32_w]
       rfl
      refine pS 24 46 (bA 40 33554431) ?_
      refine pS 25 47 (bA 40 67108863) ?_
      refine pS 26 48 (bA 40 134217727) ?_
      refine pS 27 49 (bA 40 268435455) ?_
      refine pS 28 50 (bA 40 536870911) ?_
      refine pS 29 51 (bA 40 1073741823) ?_
      refine pS 30 52 (bA 40 2147483647) ?_
      refine pS 32 54 (bA 40 6442450943) ?_
      refine pS 33 55 (bA 40 15032385535) ?_
      refine pS 34 56 (bA 40 32212254719) ?_
      refine pS 35 57 (bA 40 66571993087) ?_
      refine tS7 31 53 (bA 40 68719476735) hHeld ?_
      refine tS7 36 58 (bA 40 137438953471) hHeld ?_
      refine pS 37 59 (bA 40 274877906943) ?_
      refine pS 38 60 (bA 40 549755813887) ?_
      refine pS 39 61 (bA 40 1099511627775) ?_
      refine done_ (done_of HT_.out Z92) ?_
      try go_wp2
      go_meet
      case rel => exact ⟨_, ((a0_3 != (wrap64 (t440 * a0_0)))), Z91, H', ⟨Z96⟩, ⟨by refine uW ?_; exact BK439.out⟩, ⟨Z10⟩⟩
     replace c11 := Bool.eq_false_iff.mpr c11
     subst c11
     rw [if_neg (show ¬ (false = true) from Z19)] at H
     have H' := Aside0.mk H
     clear H
     try go_wp2
     replace BK439 := Aside0.mk (blk_drew BK439.out)
     replace HB := Aside0.mk (below_drew1 HB.out)
     refine start_ (n := 40) (S := fun w' => w'.cell? ⟨g0_0, 0, none⟩ = some (.int .i64 a0_0) ∧ w'.cell? ⟨g0_0, 1, none⟩ = some (.int .i64 a0_1) ∧ w'.cell? ⟨g0_0, 2, none⟩ = some (.int .i64 a0_2) ∧ w'.cell? ⟨g0_0, 3, none⟩ = some (.int .i64 a0_3) ∧ w'.cell? ⟨g0_0, 4, none⟩ = some (.slice A0_4 l0_4.length c0_4) ∧ w'.cell? ⟨g0_0, 5, none⟩ = some (.int .i64 a0_5) ∧ w'.cell? ⟨g0_0, 6, none⟩ = some (.slice A0_6 l0_6.length c0_6)) (ds := []) (bA 40 0) Z92 rfl rfl ⟨bc BK439 0, bc BK439 1, bc BK439 2, bc BK439 3, bc BK439 4, bc BK439 5, bc BK439 6⟩ (fun hHeld => ?_); refine with_tabW impl_Sparse_numbers_in28_0.tab2 impl_Sparse_numbers_in28_0.bits2 (fun HT_ HW_ => ?_)
     generalize w5.drew = w15 at BK439 HB hHeld ⊢
     refine pS 0 22 (bA 40 1) ?_
     refine pS 1 23 (bA 40 3) ?_
     refine pS 2 24 (bA 40 7) ?_
     refine pS 3 25 (bA 40 15) ?_
     refine pS 4 26 (bA 40 31) ?_
     refine pS 5 27 (bA 40 63) ?_
     refine pS 6 28 (bA 40 127) ?_
     refine tS7 7 29 (bA 40 255) hHeld ?_
     refine pS 8 30 (bA 40 511) ?_
     refine pS 9 31 (bA 40 1023) ?_
     refine pS 10 32 (bA 40 2047) ?_
     refine pS 11 33 (bA 40 4095) ?_
     refine pS 12 34 (bA 40 8191) ?_
     refine pS 13 35 (bA 40 16383) ?_
     refine tS7 14 36 (bA 40 32767) hHeld ?_
     refine one_ (i := 15) (N := some 37) (bA 40 65535) rfl rfl (one_of HT_.out Z92) Z19 (fun K hK => ?_)
     refine goes_ Try.func50 Z92 rfl #[.agg #[.int .i64 a0_3, .slice A0_4 l0_4.length c0_4]] Z63 rfl rfl Z89 ?_
     with_reducible refine (impl_IsBits.calls k a0_3 _ _ l0_4 true _ ?side1 ?side2 A8.out).mono ?_
     (case side1 => exact uC HR0_4 HB)
     (case side2 => exact HC0_4.out)
     rintro e w16 ⟨rfl, hb⟩
     refine ⟨_, rfl, ?_⟩
     replace BK439 := kB BK439 hb
     replace HB := Aside0.mk (below_step Z10 hb)
     (try clear hb)
     (try clear hb2)
     (try clear hk)
     (try clear hi)
     refine hK.out _ _ ⟨bc BK439 0, bc BK439 1, bc BK439 2, bc BK439 3, bc BK439 4, bc BK439 5, bc BK439 6⟩ (fun hHeld => ?_)
     clear hK K
     refine norm_ (a' := ?_) ?_ ?_
     rotate_left
     ·
      show Act.put _ (some 37) _ = _
      simp only [Act.put, setIfInBounds_toArray, set_cons_zero, set_cons_succ, i64_w, i32_w]
      rfl
     refine pS 16 38 (bA 40 131071) ?_
     refine pS 17 39 (bA 40 262143) ?_
     refine pS 18 40 (bA 40 524287) ?_
     refine pS 19 41 (bA 40 1048575) ?_
     refine pS 20 42 (bA 40 2097151) ?_
     refine pS 21 43 (bA 40 4194303) ?_
     refine tS7 22 44 (bA 40 8388607) hHeld ?_
     refine one_ (i := 23) (N := some 45) (bA 40 16777215) rfl rfl (one_of HT_.out Z92) Z19 (fun K hK => ?_)
     refine goes_ Try.func50 Z92 rfl #[.agg #[.int .i64 a0_5, .slice A0_6 l0_6.length c0_6]] Z63 rfl rfl Z89 ?_
     with_reducible refine (impl_IsBits.calls k a0_5 _ _ l0_6 false _ ?side1 ?side2 A10.out).mono ?_
     (case side1 => exact uC HR0_6 HB)
     (case side2 => exact HC0_6.out)
     rintro e w17 ⟨rfl, hb⟩
     refine ⟨_, rfl, ?_⟩
     replace BK439 := kB BK439 hb
     replace HB := Aside0.mk (below_step Z10 hb)
     (try clear hb)
     (try clear hb2)
     (try clear hk)
     (try clear hi)
     refine hK.out _ _ ⟨bc BK439 0, bc BK439 1, bc BK439 2, bc BK439 3, bc BK439 4, bc BK439 5, bc BK439 6⟩ (fun hHeld => ?_)
     clear hK K
     refine norm_ (a' := ?_) ?_ ?_
     rotate_left
     ·
      show Act.put _ (some 45) _ = _
      simp only [Act.put, setIfInBounds_toArray, set_cons_zero, set_cons_succ, i64_w, i32_w]
      rfl
     refine pS 24 46 (bA 40 33554431) ?_
     refine pS 25 47 (bA 40 67108863) ?_
     refine pS 26 48 (bA 40 134217727) ?_
     refine pU 27 49 (bA 40 268435455) ?_
     refine pU 28 50 (bA 40 536870911) ?_
     refine pU 29 51 (bA 40 1073741823) ?_
     refine pU 30 52 (bA 40 2147483647) ?_
     refine pU 31 53 (bA 40 4294967295) ?_
     refine pU 32 54 (bA 40 8589934591) ?_
     refine pU 33 55 (bA 40 17179869183) ?_
     refine pU 34 56 (bA 40 34359738367) ?_
     refine pU 35 57 (bA 40 68719476735) ?_
     refine pU 36 58 (bA 40 137438953471) ?_
     refine pU 37 59 (bA 40 274877906943) ?_
     refine pU 38 60 (bA 40 549755813887) ?_
     refine pS 39 61 (bA 40 1099511627775) ?_
     refine done_ (done_of HT_.out Z92) ?_
     try go_wp2
     go_meet
     case rel => exact ⟨_, (true), Z91, H', ⟨Z96⟩, ⟨by refine uW ?_; exact BK439.out⟩, ⟨Z10⟩⟩
    replace c9 := Bool.eq_false_iff.mpr c9
    subst c9
    rw [if_neg (show ¬ (false = true) from Z19)] at H
    have H' := Aside0.mk H
    clear H
    try go_wp2
    replace BK439 := Aside0.mk (blk_drew BK439.out)
    replace HB := Aside0.mk (below_drew1 HB.out)
    refine start_ (n := 40) (S := fun w' => w'.cell? ⟨g0_0, 0, none⟩ = some (.int .i64 a0_0) ∧ w'.cell? ⟨g0_0, 1, none⟩ = some (.int .i64 a0_1) ∧ w'.cell? ⟨g0_0, 2, none⟩ = some (.int .i64 a0_2) ∧ w'.cell? ⟨g0_0, 3, none⟩ = some (.int .i64 a0_3) ∧ w'.cell? ⟨g0_0, 4, none⟩ = some (.slice A0_4 l0_4.length c0_4) ∧ w'.cell? ⟨g0_0, 5, none⟩ = some (.int .i64 a0_5) ∧ w'.cell? ⟨g0_0, 6, none⟩ = some (.slice A0_6 l0_6.length c0_6)) (ds := []) (bA 40 0) Z92 rfl rfl ⟨bc BK439 0, bc BK439 1, bc BK439 2, bc BK439 3, bc BK439 4, bc BK439 5, bc BK439 6⟩ (fun hHeld => ?_); refine with_tabW impl_Sparse_numbers_in28_0.tab2 impl_Sparse_numbers_in28_0.bits2 (fun HT_ HW_ => ?_)
    generalize w5.drew = w18 at BK439 HB hHeld ⊢
    refine pS 0 22 (bA 40 1) ?_
    refine pS 1 23 (bA 40 3) ?_
    refine pS 2 24 (bA 40 7) ?_
    refine pS 3 25 (bA 40 15) ?_
    refine pS 4 26 (bA 40 31) ?_
    refine pS 5 27 (bA 40 63) ?_
    refine pS 6 28 (bA 40 127) ?_
    refine tS7 7 29 (bA 40 255) hHeld ?_
    refine pS 8 30 (bA 40 511) ?_
    refine pS 9 31 (bA 40 1023) ?_
    refine pS 10 32 (bA 40 2047) ?_
    refine pS 11 33 (bA 40 4095) ?_
    refine pS 12 34 (bA 40 8191) ?_
    refine pS 13 35 (bA 40 16383) ?_
    refine tS7 14 36 (bA 40 32767) hHeld ?_
    refine one_ (i := 15) (N := some 37) (bA 40 65535) rfl rfl (one_of HT_.out Z92) Z19 (fun K hK => ?_)
    refine goes_ Try.func50 Z92 rfl #[.agg #[.int .i64 a0_3, .slice A0_4 l0_4.length c0_4]] Z63 rfl rfl Z89 ?_
    with_reducible refine (impl_IsBits.calls k a0_3 _ _ l0_4 false _ ?side1 ?side2 A8.out).mono ?_
    (case side1 => exact uC HR0_4 HB)
    (case side2 => exact HC0_4.out)
    rintro e w19 ⟨rfl, hb⟩
    refine ⟨_, rfl, ?_⟩
    replace BK439 := kB BK439 hb
    replace HB := Aside0.mk (below_step Z10 hb)
    (try clear hb)
    (try clear hb2)
    (try clear hk)
    (try clear hi)
    refine hK.out _ _ ⟨bc BK439 0, bc BK439 1, bc BK439 2, bc BK439 3, bc BK439 4, bc BK439 5, bc BK439 6⟩ (fun hHeld => ?_)
    clear hK K
    refine norm_ (a' := ?_) ?_ ?_
    rotate_left
    ·
     show Act.put _ (some 37) _ = _
     simp only [Act.put, setIfInBounds_toArray, set_cons_zero, set_cons_succ, i64_w, i32_w]
     rfl
    refine pS 16 38 (bA 40 131071) ?_
    refine pS 17 39 (bA 40 262143) ?_
    refine pS 18 40 (bA 40 524287) ?_
    refine pU 19 41 (bA 40 1048575) ?_
    refine pU 20 42 (bA 40 2097151) ?_
    refine pU 21 43 (bA 40 4194303) ?_
    refine pU 22 44 (bA 40 8388607) ?_
    refine pU 23 45 (bA 40 16777215) ?_
    refine pU 24 46 (bA 40 33554431) ?_
    refine pS 25 47 (bA 40 67108863) ?_
    refine pS 26 48 (bA 40 134217727) ?_
    refine pU 27 49 (bA 40 268435455) ?_
    refine pU 28 50 (bA 40 536870911) ?_
    refine pU 29 51 (bA 40 1073741823) ?_
    refine pU 30 52 (bA 40 2147483647) ?_
    refine pU 31 53 (bA 40 4294967295) ?_
    refine pU 32 54 (bA 40 8589934591) ?_
    refine pU 33 55 (bA 40 17179869183) ?_
    refine pU 34 56 (bA 40 34359738367) ?_
    refine pU 35 57 (bA 40 68719476735) ?_
    refine pU 36 58 (bA 40 137438953471) ?_
    refine pU 37 59 (bA 40 274877906943) ?_
    refine pU 38 60 (bA 40 549755813887) ?_
    refine pS 39 61 (bA 40 1099511627775) ?_
    refine done_ (done_of HT_.out Z92) ?_
    try go_wp2
    go_meet
    case rel => exact ⟨_, (true), Z91, H', ⟨Z96⟩, ⟨by refine uW ?_; exact BK439.out⟩, ⟨Z10⟩⟩
   rw [if_neg c7] at H
   have c7b0 : (t440 == a0_2) = false := beq_eq_false_iff_ne.mpr c7
   have c7b1 : (t440 != a0_2) = true := bne_iff_ne.mpr c7
   (first | rw [c7b0] | (simp only [i64_w, i32_w]; rw [c7b0]) | skip)
   have H' := Aside0.mk H
   clear H
   try go_wp2
   replace BK439 := Aside0.mk (blk_drew BK439.out)
   replace HB := Aside0.mk (below_drew1 HB.out)
   refine start_ (n := 40) (S := fun w' => w'.cell? ⟨g0_0, 0, none⟩ = some (.int .i64 a0_0) ∧ w'.cell? ⟨g0_0, 1, none⟩ = some (.int .i64 a0_1) ∧ w'.cell? ⟨g0_0, 2, none⟩ = some (.int .i64 a0_2) ∧ w'.cell? ⟨g0_0, 3, none⟩ = some (.int .i64 a0_3) ∧ w'.cell? ⟨g0_0, 4, none⟩ = some (.slice A0_4 l0_4.length c0_4) ∧ w'.cell? ⟨g0_0, 5, none⟩ = some (.int .i64 a0_5) ∧ w'.cell? ⟨g0_0, 6, none⟩ = some (.slice A0_6 l0_6.length c0_6)) (ds := []) (bA 40 0) Z92 rfl rfl ⟨bc BK439 0, bc BK439 1, bc BK439 2, bc BK439 3, bc BK439 4, bc BK439 5, bc BK439 6⟩ (fun hHeld => ?_); refine with_tabW impl_Sparse_numbers_in28_0.tab2 impl_Sparse_numbers_in28_0.bits2 (fun HT_ HW_ => ?_)
   generalize w5.drew = w20 at BK439 HB hHeld ⊢
   refine pS 0 22 (bA 40 1) ?_
   refine pS 1 23 (bA 40 3) ?_
   refine pS 2 24 (bA 40 7) ?_
   refine pS 3 25 (bA 40 15) ?_
   refine pS 4 26 (bA 40 31) ?_
   refine pS 5 27 (bA 40 63) ?_
   refine pS 6 28 (bA 40 127) ?_
   refine tS7 7 29 (bA 40 255) hHeld ?_
   refine pS 8 30 (bA 40 511) ?_
   refine pS 9 31 (bA 40 1023) ?_
   refine pS 10 32 (bA 40 2047) ?_
   refine pU 11 33 (bA 40 4095) ?_
   refine pU 12 34 (bA 40 8191) ?_
   refine pU 13 35 (bA 40 16383) ?_
   refine pU 14 36 (bA 40 32767) ?_
   refine pU 15 37 (bA 40 65535) ?_
   refine pU 16 38 (bA 40 131071) ?_
   refine pS 17 39 (bA 40 262143) ?_
   refine pS 18 40 (bA 40 524287) ?_
   refine pU 19 41 (bA 40 1048575) ?_
   refine pU 20 42 (bA 40 2097151) ?_
   refine pU 21 43 (bA 40 4194303) ?_
   refine pU 22 44 (bA 40 8388607) ?_
   refine pU 23 45 (bA 40 16777215) ?_
   refine pU 24 46 (bA 40 33554431) ?_
   refine pS 25 47 (bA 40 67108863) ?_
   refine pS 26 48 (bA 40 134217727) ?_
   refine pU 27 49 (bA 40 268435455) ?_
   refine pU 28 50 (bA 40 536870911) ?_
   refine pU 29 51 (bA 40 1073741823) ?_
   refine pU 30 52 (bA 40 2147483647) ?_
   refine pU 31 53 (bA 40 4294967295) ?_
   refine pU 32 54 (bA 40 8589934591) ?_
   refine pU 33 55 (bA 40 17179869183) ?_
   refine pU 34 56 (bA 40 34359738367) ?_
   refine pU 35 57 (bA 40 68719476735) ?_
   refine pU 36 58 (bA 40 137438953471) ?_
   refine pU 37 59 (bA 40 274877906943) ?_
   refine pU 38 60 (bA 40 549755813887) ?_
   refine pS 39 61 (bA 40 1099511627775) ?_
   refine done_ (done_of HT_.out Z92) ?_
   try go_wp2
   go_meet
   case rel => exact ⟨_, (true), Z91, H', ⟨Z96⟩, ⟨by refine uW ?_; exact BK439.out⟩, ⟨Z10⟩⟩
  replace c6 := Bool.eq_false_iff.mpr c6
  subst c6
  rw [if_neg (show ¬ (false = true) from Z19)] at H
  have H' := Aside0.mk H
  clear H
  try go_wp2
  replace BK439 := Aside0.mk (blk_drew BK439.out)
  replace HB := Aside0.mk (below_drew1 HB.out)
  refine start_ (n := 40) (S := fun w' => True) (ds := []) (bA 40 0) Z92 rfl rfl trivial (fun hHeld => ?_); refine with_tabW impl_Sparse_numbers_in28_0.tab2 impl_Sparse_numbers_in28_0.bits2 (fun HT_ HW_ => ?_)
  generalize w5.drew = w21 at BK439 HB hHeld ⊢
  refine pS 0 22 (bA 40 1) ?_
  refine pS 1 23 (bA 40 3) ?_
  refine pS 2 24 (bA 40 7) ?_
  refine pU 3 25 (bA 40 15) ?_
  refine pU 4 26 (bA 40 31) ?_
  refine pU 5 27 (bA 40 63) ?_
  refine pU 6 28 (bA 40 127) ?_
  refine pU 7 29 (bA 40 255) ?_
  refine pU 8 30 (bA 40 511) ?_
  refine pS 9 31 (bA 40 1023) ?_
  refine pS 10 32 (bA 40 2047) ?_
  refine pU 11 33 (bA 40 4095) ?_
  refine pU 12 34 (bA 40 8191) ?_
  refine pU 13 35 (bA 40 16383) ?_
  refine pU 14 36 (bA 40 32767) ?_
  refine pU 15 37 (bA 40 65535) ?_
  refine pU 16 38 (bA 40 131071) ?_
  refine pS 17 39 (bA 40 262143) ?_
  refine pS 18 40 (bA 40 524287) ?_
  refine pU 19 41 (bA 40 1048575) ?_
  refine pU 20 42 (bA 40 2097151) ?_
  refine pU 21 43 (bA 40 4194303) ?_
  refine pU 22 44 (bA 40 8388607) ?_
  refine pU 23 45 (bA 40 16777215) ?_
  refine pU 24 46 (bA 40 33554431) ?_
  refine pS 25 47 (bA 40 67108863) ?_
  refine pS 26 48 (bA 40 134217727) ?_
  refine pU 27 49 (bA 40 268435455) ?_
  refine pU 28 50 (bA 40 536870911) ?_
  refine pU 29 51 (bA 40 1073741823) ?_
  refine pU 30 52 (bA 40 2147483647) ?_
  refine pU 31 53 (bA 40 4294967295) ?_
  refine pU 32 54 (bA 40 8589934591) ?_
  refine pU 33 55 (bA 40 17179869183) ?_
  refine pU 34 56 (bA 40 34359738367) ?_
  refine pU 35 57 (bA 40 68719476735) ?_
  refine pU 36 58 (bA 40 137438953471) ?_
  refine pU 37 59 (bA 40 274877906943) ?_
  refine pU 38 60 (bA 40 549755813887) ?_
  refine pS 39 61 (bA 40 1099511627775) ?_
  refine done_ (done_of HT_.out Z92) ?_
  try go_wp2
  go_meet
  case rel => exact ⟨_, (true), Z91, H', ⟨Z96⟩, ⟨by refine uW ?_; exact BK439.out⟩, ⟨Z10⟩⟩
 case rest =>
  clear HC3
  try clear p2
  try clear c6
  try clear c7
  try clear c7b0
  try clear c7b1
  obtain ⟨kq, x61_2, rfl, HA, HJ2, BK439, HB⟩ := hcut
  cases kq with
  | zero => exact absurd HA.out (by simp [impl_Sparse_numbers_in28_0.j0])
  | succ kj2 =>
   have H := HA.out
   clear HA
   simp only [impl_Sparse_numbers_in28_0.j0] at H
   by_cases c22 : x61_2 = true
   ·
    subst c22
    rw [if_pos rfl] at H
    simp only [Option.some.injEq, Prod.mk.injEq] at H
    obtain ⟨rfl, rfl⟩ := H
    go_wp2
    go_ret2
    exact ⟨_, Z90, Z40, Z10⟩
   replace c22 := Bool.eq_false_iff.mpr c22
   subst c22
   rw [if_neg (show ¬ (false = true) from Z19)] at H
   obtain ⟨y444, hy444⟩ : ∃ y_ : List Int, y_ = (([] : List Int)) := ⟨_, rfl⟩
   replace H : (impl_Sparse_numbers_in28_0.l0 kj2 t440 y444 a0_5 0 a0_0 a0_1 a0_2 a0_3 l0_4 a0_5 l0_6) = some (r1, r2) := by first | (rw [hy444]; with_reducible exact H) | (have H2_ := (Option.bind_some _ _).symm.trans H; rw [hy444]; with_reducible exact H2_) | (have H2_ := (Option.bind_some _ _).symm.trans H; with_reducible exact H2_) | with_reducible exact H | (rw [hy444]; exact H) | exact H
   have Ny444 := Aside0.mk hy444
   clear hy444
   have H' := Aside0.mk H
   clear H
   go_wp2_with (first | ((with_reducible refine gate_dst (N := 62) rfl ?_); refine Kd.R_lit (Kd.int .i64) _ 3 ?hg (N := 62) ?hd (xs := ([] : List Int)) (inner := []) (ok := fun _ => True) (okp := fun _ => True) ?hr ?hp (fun _ hk => hk) trivial (Below.refl _ _) (Nat.le_refl _) Z37 ?_; (case hd => rfl); (case hg => rfl); (case hr => exact Z93); (case hp => exact (Reps.none _ _)); intro v445 w23 ho24 hb hg_ hnew_; clear hg_ hnew_; (first | rw [← Ny444.out] at ho24 | (simp only [Int.reduceToNat] at ho24; rw [← Ny444.out] at ho24)); have HO446 := Aside0.mk (Kd.R_lower ho24 (below_size Z10)); replace BK439 := kB BK439 hb; replace HB := Aside0.mk (below_step Z10 hb); clear hb ho24; have hcz25_0 : w23.cell? ⟨g0_0, 0, none⟩ = some (.int .i64 a0_0) := bc BK439 0; have hcz25_1 : w23.cell? ⟨g0_0, 1, none⟩ = some (.int .i64 a0_1) := bc BK439 1; have hcz25_2 : w23.cell? ⟨g0_0, 2, none⟩ = some (.int .i64 a0_2) := bc BK439 2; have hcz25_3 : w23.cell? ⟨g0_0, 3, none⟩ = some (.int .i64 a0_3) := bc BK439 3; have hcz25_4 : w23.cell? ⟨g0_0, 4, none⟩ = some (.slice A0_4 l0_4.length c0_4) := bc BK439 4; have hcz25_5 : w23.cell? ⟨g0_0, 5, none⟩ = some (.int .i64 a0_5) := bc BK439 5; have hcz25_6 : w23.cell? ⟨g0_0, 6, none⟩ = some (.slice A0_6 l0_6.length c0_6) := bc BK439 6; have hfz25_0 := blk_frozen BK439.out 0; have hfz25_1 := blk_frozen BK439.out 1; have hfz25_2 := blk_frozen BK439.out 2; have hfz25_3 := blk_frozen BK439.out 3; have hfz25_4 := blk_frozen BK439.out 4; have hfz25_5 := blk_frozen BK439.out 5; have hfz25_6 := blk_frozen BK439.out 6))
   go_loopg [6, 68] kj2 (fun kq v6 v68 w' => ∃ (x6_2 : List Int) (x68_2 : Int), v68 = .int .i64 x68_2 ∧ Aside0 (impl_Sparse_numbers_in28_0.l0 kq t440 x6_2 a0_5 x68_2 a0_0 a0_1 a0_2 a0_3 l0_4 a0_5 l0_6 = some (r1, r2)) ∧ Aside0 (kq ≤ kj2) ∧ Aside0 (Kd.R (Kd.int .i64) 3 w' w.heap.size (fun _ => True) v6 x6_2) ∧ Aside0 (w'.heap[g0_0]? = some (.cells #[.int .i64 a0_0, .int .i64 a0_1, .int .i64 a0_2, .int .i64 a0_3, (.slice A0_4 l0_4.length c0_4), .int .i64 a0_5, (.slice A0_6 l0_6.length c0_6)] 28 (0, 0))) ∧ Aside0 (Below w.heap.size w w'))
   case atStart => exact ⟨(y444), (0), Z91, H', ⟨Nat.le_refl _⟩, ⟨by (with_reducible repeat (first | apply Kd.R_alloc | apply Kd.R_drewN | apply Kd.R_drew)); exact HO446.out⟩, ⟨by refine uW ?_; exact BK439.out⟩, ⟨Z10⟩⟩
   case round =>
    clear H'
    try clear c2
    try clear p2
    try clear c6
    try clear c7
    try clear c7b0
    try clear c7b1
    try clear c22
    try clear hcz25_0
    try clear hcz25_1
    try clear hcz25_2
    try clear hcz25_3
    try clear hcz25_4
    try clear hcz25_5
    try clear hcz25_6
    try clear hfz25_0
    try clear hfz25_1
    try clear hfz25_2
    try clear hfz25_3
    try clear hfz25_4
    try clear hfz25_5
    try clear hfz25_6
    try clear p2
    try clear HO_6
    obtain ⟨x6_2, x68_2, rfl, HA, HK2, HO_6, BK439, HB⟩ := hrel
    cases gk with
    | zero => exact absurd HA.out (by simp [impl_Sparse_numbers_in28_0.l0])
    | succ k2 =>
     have H := HA.out
     clear HA
     simp only [impl_Sparse_numbers_in28_0.l0] at H
     by_cases c26 : x68_2 < a0_5
     ·
      rw [if_pos c26] at H
      have c26b0 : decide (x68_2 < a0_5) = true := decide_eq_true c26
      clear c26
      replace H := Option.bind_eq_some_iff.mp H
      obtain ⟨t447, A270, H⟩ := H
      try dsimp only at H
      have A27 := Aside0.mk A270
      clear A270
      by_cases c28 : t447 = true
      ·
       subst c28
       rw [if_pos rfl] at H
       by_cases c29 : (x6_2.length : Int) < a0_0
       ·
        rw [if_pos c29] at H
        have c29b0 : decide ((x6_2.length : Int) < a0_0) = true := decide_eq_true c29
        clear c29
        by_cases c30 : 0 ≤ t440
        ·
         rw [if_pos c30] at H
         have c30b0 := eq_true c30
         have c30b1 : decide (0 ≤ t440) = true := decide_eq_true c30
         clear c30
         obtain ⟨ji31, hji31⟩ : ∃ j_ : Int, (shl .i64 (wrap64 (x68_2 - (x6_2.length : Int))) t440) = j_ := ⟨_, rfl⟩
         replace H : ((impl_Bits_field_in28_3.f k2 a0_0 a0_1 a0_2 a0_3 l0_4 a0_5 l0_6 (wrap64 ((x6_2.length : Int) * t440)) t440).bind fun t448 => (if x6_2.length < 17592186044416 then (impl_Sparse_numbers_in28_0.l0 k2 t440 (x6_2 ++ [Go.bits .or .i64 (ji31) t448]) a0_5 (wrap64 (x68_2 + 1)) a0_0 a0_1 a0_2 a0_3 l0_4 a0_5 l0_6) else (none))) = some (r1, r2) := by first | (rw [hji31] at H; exact H) | (simp only [hji31] at H ⊢; exact H)
         (try rw [hji31] at A27)
         have hji31_ : (IntKind.i64.wrap ((wrap64 (x68_2 - (x6_2.length : Int))) * 2 ^ min t440.toNat 64)) = ji31 := hji31
         have hji31z : t440 ≤ 64 → (IntKind.i64.wrap ((wrap64 (x68_2 - (x6_2.length : Int))) * 2 ^ t440.toNat)) = ji31 := shl_small hji31
         have hji31y : (wrap64 ((wrap64 (x68_2 - (x6_2.length : Int))) * 2 ^ min t440.toNat 64)) = ji31 := (i64_w _).symm.trans hji31_
         have hji31x : t440 ≤ 64 → (wrap64 ((wrap64 (x68_2 - (x6_2.length : Int))) * 2 ^ t440.toNat)) = ji31 := fun h_ => (i64_w _).symm.trans (hji31z h_)
         replace H := Option.bind_eq_some_iff.mp H
         obtain ⟨t448, A320, H⟩ := H
         try dsimp only at H
         have A32 := Aside0.mk A320
         clear A320
         by_cases c33 : x6_2.length < 17592186044416
         ·
          rw [if_pos c33] at H
          have LMc33 := Aside0.mk c33
          clear c33
          obtain ⟨y449, hy449⟩ : ∃ y_ : List Int, y_ = (x6_2 ++ [Go.bits .or .i64 (ji31) t448]) := ⟨_, rfl⟩
          replace H : (impl_Sparse_numbers_in28_0.l0 k2 t440 y449 a0_5 (wrap64 (x68_2 + 1)) a0_0 a0_1 a0_2 a0_3 l0_4 a0_5 l0_6) = some (r1, r2) := by first | (rw [hy449]; with_reducible exact H) | (have H2_ := (Option.bind_some _ _).symm.trans H; rw [hy449]; with_reducible exact H2_) | (have H2_ := (Option.bind_some _ _).symm.trans H; with_reducible exact H2_) | with_reducible exact H | (rw [hy449]; exact H) | exact H
          have Ny449 := Aside0.mk hy449
          clear hy449
          have H' := Aside0.mk H
          clear H
          obtain ⟨Ao34, co34, eo34⟩ := Kd.R_slice HO_6.out
          subst eo34
          try go_wp2_with (first | ((with_reducible refine gate_callee (f := 51) rfl ?_); refine goesL_ (some 77) rfl rfl Try.func51 Z92 rfl #[.pointer (some ⟨g0_0, 5, none⟩), .int .i64 x68_2] rfl Z89 ?_; (with_reducible refine (impl_Bits_at_in28_5.calls g0_0 a0_0 a0_1 a0_2 a0_3 A0_4 c0_4 l0_4 a0_5 A0_6 c0_6 l0_6 x68_2 true _ ?side1 ?side2 ?side3 ?side4 ?side5 A27.out).mono ?_); (case side1 => exact (uK BK439)); (case side2 => exact uC HR0_4 HB); (case side3 => exact HC0_4.out); (case side4 => exact uC HR0_6 HB); (case side5 => exact HC0_6.out); rintro e w35 ⟨rfl, hb⟩; refine ⟨_, rfl, ?_⟩; replace HO_6 := Aside0.mk (Kd.R_below (uR HO_6) hb); replace BK439 := kB BK439 hb; replace HB := Aside0.mk (below_step Z10 hb); (try clear hb); (try clear hb2); (try clear hk); (try clear hi); have hcz36_0 : w35.cell? ⟨g0_0, 0, none⟩ = some (.int .i64 a0_0) := bc BK439 0; have hcz36_1 : w35.cell? ⟨g0_0, 1, none⟩ = some (.int .i64 a0_1) := bc BK439 1; have hcz36_2 : w35.cell? ⟨g0_0, 2, none⟩ = some (.int .i64 a0_2) := bc BK439 2; have hcz36_3 : w35.cell? ⟨g0_0, 3, none⟩ = some (.int .i64 a0_3) := bc BK439 3; have hcz36_4 : w35.cell? ⟨g0_0, 4, none⟩ = some (.slice A0_4 l0_4.length c0_4) := bc BK439 4; have hcz36_5 : w35.cell? ⟨g0_0, 5, none⟩ = some (.int .i64 a0_5) := bc BK439 5; have hcz36_6 : w35.cell? ⟨g0_0, 6, none⟩ = some (.slice A0_6 l0_6.length c0_6) := bc BK439 6; have hfz36_0 := blk_frozen BK439.out 0; have hfz36_1 := blk_frozen BK439.out 1; have hfz36_2 := blk_frozen BK439.out 2; have hfz36_3 := blk_frozen BK439.out 3; have hfz36_4 := blk_frozen BK439.out 4; have hfz36_5 := blk_frozen BK439.out 5; have hfz36_6 := blk_frozen BK439.out 6))
          replace HO_6 := Aside0.mk (Kd.R_drew HO_6.out)
          replace BK439 := Aside0.mk (blk_drew BK439.out)
          replace HB := Aside0.mk (below_drew1 HB.out)
          refine start_ (n := 18) (S := fun w' => True) (ds := []) (bA 18 0) Z92 rfl rfl trivial (fun hHeld => ?_); refine with_tabW impl_Sparse_numbers_in28_0.tab10 impl_Sparse_numbers_in28_0.bits10 (fun HT_ HW_ => ?_)
          generalize w35.drew = w37 at HO_6 BK439 HB hHeld ⊢
          refine pS 0 86 (bA 18 1) ?_
          refine pS 1 87 (bA 18 3) ?_
          refine pS 2 88 (bA 18 7) ?_
          refine pS 3 89 (bA 18 15) ?_
          refine pS 4 90 (bA 18 31) ?_
          refine pS 5 91 (bA 18 63) ?_
          refine pS 6 92 (bA 18 127) ?_
          refine pS 7 93 (bA 18 255) ?_
          refine pS 8 94 (bA 18 511) ?_
          refine pS 9 95 (bA 18 1023) ?_
          refine pS 10 96 (bA 18 2047) ?_
          refine pS 11 97 (bA 18 4095) ?_
          refine pS 12 98 (bA 18 8191) ?_
          refine one_ (i := 13) (N := some 99) (bA 18 16383) rfl rfl (one_of HT_.out Z92) Z19 (fun K hK => ?_)
          refine goes_ Try.func52 Z92 rfl #[.pointer (some ⟨g0_0, 3, none⟩), .int .i64 (wrap64 ((x6_2.length : Int) * t440)), .int .i64 t440] Z63 rfl rfl Z89 ?_
          with_reducible refine (impl_Bits_field_in28_3.calls k2 g0_0 a0_0 a0_1 a0_2 a0_3 A0_4 c0_4 l0_4 a0_5 A0_6 c0_6 l0_6 (wrap64 ((x6_2.length : Int) * t440)) t440 t448 _ ?side1 ?side2 ?side3 ?side4 ?side5 A32.out).mono ?_
          (case side1 => exact (uK BK439))
          (case side2 => exact uC HR0_4 HB)
          (case side3 => exact HC0_4.out)
          (case side4 => exact uC HR0_6 HB)
          (case side5 => exact HC0_6.out)
          rintro e w38 ⟨rfl, hb⟩
          refine ⟨_, rfl, ?_⟩
          replace HO_6 := Aside0.mk (Kd.R_below (uR HO_6) hb)
          replace BK439 := kB BK439 hb
          replace HB := Aside0.mk (below_step Z10 hb)
          (try clear hb)
          (try clear hb2)
          (try clear hk)
          (try clear hi)
          refine hK.out _ _ trivial (fun hHeld => ?_)
          clear hK K
          refine norm_ (a' := ?_) ?_ ?_
          rotate_left
          ·
           show Act.put _ (some 99) _ = _
           simp only [Act.put, setIfInBounds_toArray, set_cons_zero, set_cons_succ, i64_w, i32_w]
           rfl
          refine pS 14 100 (bA 18 32767) ?_
          refine one_ (i := 15) (N := some 101) (bA 18 65535) rfl rfl (one_of HT_.out Z92) Z19 (fun K hK => ?_)
          refine value_ (w1 := ?_) (v := ?_) Z63 rfl ?_ ?_
          rotate_left 2
          ·
           go_simp
           constructor
           ·
            rfl
           rfl
          refine hK.out _ _ trivial (fun hHeld => ?_)
          clear hK K
          refine norm_ (a' := ?_) ?_ ?_
          rotate_left
          ·
           show Act.put _ (some 101) _ = _
           simp only [Act.put, setIfInBounds_toArray, set_cons_zero, set_cons_succ, i64_w, i32_w]
           rfl
          refine one_ (i := 16) (N := some 102) (bA 18 131071) rfl rfl (one_of HT_.out Z92) Z19 (fun K hK => ?_)
          refine Kd.R_append_step (Kd.int .i64) (w0 := w) w.heap.size Z63 (.tmp 86) (.tmp 101) 24 3 (.int .i64 0) 8 rfl Try.underlying24 info3 rfl Z19 Z69 (.slice Ao34 x6_2.length co34) x6_2 (Go.bits .or .i64 (ji31) t448) [.int .i64 (Go.bits .or .i64 (ji31) t448)] (fun _ => True) (fun _ => False) rfl rfl ?aP (fun _ hk => hk.elim) ?aF ?aO ?aB ?aS ?aL ?_
          (case aP => exact rfl)
          (case aB => exact Z10)
          (case aF => exact (fun _ _ => trivial))
          (case aO => exact (uR HO_6))
          (case aS => exact (below_size Z10))
          (case aL => have := LMc33.out; omega)
          intro v450 w39 ho hb hg hat
          rw [← Ny449.out] at ho
          replace BK439 := Aside0.mk (blk_grown (g := g0_0) (o := .cells #[.int .i64 a0_0, .int .i64 a0_1, .int .i64 a0_2, .int .i64 a0_3, .slice A0_4 l0_4.length c0_4, .int .i64 a0_5, .slice A0_6 l0_6.length c0_6] 28 (0, 0)) (uK BK439) hg (Kd.R_ne HO_6.out BK439.out Z19))
          replace HB := Aside0.mk (hb)
          have HO451 := Aside0.mk (ho)
          clear HO_6
          clear ho hb hg hat
          refine hK.out _ _ trivial (fun hHeld => ?_)
          clear hK K
          refine norm_ (a' := ?_) ?_ ?_
          rotate_left
          ·
           show Act.put _ (some 102) _ = _
           simp only [Act.put, setIfInBounds_toArray, set_cons_zero, set_cons_succ, i64_w, i32_w]
           rfl
          refine pS 17 6 (bA 18 262143) ?_
          refine done_ (done_of HT_.out Z92) ?_
          try go_wp2
          go_roundg k2
          case measure => have := HJ2.out; have := HK2.out; omega
          case rel => exact ⟨(y449), (wrap64 (x68_2 + 1)), Z91, H', ⟨by have := HJ2.out; have := HK2.out; omega⟩, ⟨by (with_reducible repeat (first | apply Kd.R_alloc | apply Kd.R_drewN | apply Kd.R_drew)); exact HO451.out⟩, ⟨by refine uW ?_; exact BK439.out⟩, ⟨Z10⟩⟩
         rw [if_neg c33] at H
         exact absurd H Z37
        rw [if_neg c30] at H
        exact absurd H Z37
       rw [if_neg c29] at H
       have c29b0 : decide ((x6_2.length : Int) < a0_0) = false := decide_eq_false c29
       clear c29
       have H' := Aside0.mk H
       clear H
       obtain ⟨Ao40, co40, eo40⟩ := Kd.R_slice HO_6.out
       subst eo40
       go_wp2_with (first | ((with_reducible refine gate_callee (f := 51) rfl ?_); refine goesL_ (some 77) rfl rfl Try.func51 Z92 rfl #[.pointer (some ⟨g0_0, 5, none⟩), .int .i64 x68_2] rfl Z89 ?_; (with_reducible refine (impl_Bits_at_in28_5.calls g0_0 a0_0 a0_1 a0_2 a0_3 A0_4 c0_4 l0_4 a0_5 A0_6 c0_6 l0_6 x68_2 true _ ?side1 ?side2 ?side3 ?side4 ?side5 A27.out).mono ?_); (case side1 => exact (uK BK439)); (case side2 => exact uC HR0_4 HB); (case side3 => exact HC0_4.out); (case side4 => exact uC HR0_6 HB); (case side5 => exact HC0_6.out); rintro e w41 ⟨rfl, hb⟩; refine ⟨_, rfl, ?_⟩; replace HO_6 := Aside0.mk (Kd.R_below (uR HO_6) hb); replace BK439 := kB BK439 hb; replace HB := Aside0.mk (below_step Z10 hb); (try clear hb); (try clear hb2); (try clear hk); (try clear hi); have hcz42_0 : w41.cell? ⟨g0_0, 0, none⟩ = some (.int .i64 a0_0) := bc BK439 0; have hcz42_1 : w41.cell? ⟨g0_0, 1, none⟩ = some (.int .i64 a0_1) := bc BK439 1; have hcz42_2 : w41.cell? ⟨g0_0, 2, none⟩ = some (.int .i64 a0_2) := bc BK439 2; have hcz42_3 : w41.cell? ⟨g0_0, 3, none⟩ = some (.int .i64 a0_3) := bc BK439 3; have hcz42_4 : w41.cell? ⟨g0_0, 4, none⟩ = some (.slice A0_4 l0_4.length c0_4) := bc BK439 4; have hcz42_5 : w41.cell? ⟨g0_0, 5, none⟩ = some (.int .i64 a0_5) := bc BK439 5; have hcz42_6 : w41.cell? ⟨g0_0, 6, none⟩ = some (.slice A0_6 l0_6.length c0_6) := bc BK439 6; have hfz42_0 := blk_frozen BK439.out 0; have hfz42_1 := blk_frozen BK439.out 1; have hfz42_2 := blk_frozen BK439.out 2; have hfz42_3 := blk_frozen BK439.out 3; have hfz42_4 := blk_frozen BK439.out 4; have hfz42_5 := blk_frozen BK439.out 5; have hfz42_6 := blk_frozen BK439.out 6))
       go_roundg k2
       case measure => have := HJ2.out; have := HK2.out; omega
       case rel => exact ⟨(x6_2), (wrap64 (x68_2 + 1)), Z91, H', ⟨by have := HJ2.out; have := HK2.out; omega⟩, ⟨Z66⟩, ⟨by refine uW ?_; exact BK439.out⟩, ⟨Z10⟩⟩
      replace c28 := Bool.eq_false_iff.mpr c28
      subst c28
      rw [if_neg (show ¬ (false = true) from Z19)] at H
      have H' := Aside0.mk H
      clear H
      obtain ⟨Ao43, co43, eo43⟩ := Kd.R_slice HO_6.out
      subst eo43
      go_wp2_with (first | ((with_reducible refine gate_callee (f := 51) rfl ?_); refine goesL_ (some 77) rfl rfl Try.func51 Z92 rfl #[.pointer (some ⟨g0_0, 5, none⟩), .int .i64 x68_2] rfl Z89 ?_; (with_reducible refine (impl_Bits_at_in28_5.calls g0_0 a0_0 a0_1 a0_2 a0_3 A0_4 c0_4 l0_4 a0_5 A0_6 c0_6 l0_6 x68_2 false _ ?side1 ?side2 ?side3 ?side4 ?side5 A27.out).mono ?_); (case side1 => exact (uK BK439)); (case side2 => exact uC HR0_4 HB); (case side3 => exact HC0_4.out); (case side4 => exact uC HR0_6 HB); (case side5 => exact HC0_6.out); rintro e w44 ⟨rfl, hb⟩; refine ⟨_, rfl, ?_⟩; replace HO_6 := Aside0.mk (Kd.R_below (uR HO_6) hb); replace BK439 := kB BK439 hb; replace HB := Aside0.mk (below_step Z10 hb); (try clear hb); (try clear hb2); (try clear hk); (try clear hi)))
      go_roundg k2
      case measure => have := HJ2.out; have := HK2.out; omega
      case rel => exact ⟨(x6_2), (wrap64 (x68_2 + 1)), Z91, H', ⟨by have := HJ2.out; have := HK2.out; omega⟩, ⟨Z66⟩, ⟨by refine uW ?_; exact BK439.out⟩, ⟨Z10⟩⟩
     rw [if_neg c26] at H
     have c26b0 : decide (x68_2 < a0_5) = false := decide_eq_false c26
     clear c26
     have HC45 := Aside0.mk H
     clear H
     go_upto_region 12 with (fail)
     go_cut [119] (fun v119 wc => ∃ (kq : Nat) (x119_44 : Bool), v119 = .bool x119_44 ∧ Aside0 (impl_Sparse_numbers_in28_0.j2 kq x6_2 x119_44 a0_0 a0_1 a0_2 a0_3 l0_4 a0_5 l0_6 = some (r1, r2)) ∧ Aside0 (kq ≤ k2) ∧ Aside0 (Kd.R (Kd.int .i64) 3 wc w.heap.size (fun _ => True) u6 x6_2) ∧ Aside0 (wc.heap[g0_0]? = some (.cells #[.int .i64 a0_0, .int .i64 a0_1, .int .i64 a0_2, .int .i64 a0_3, (.slice A0_4 l0_4.length c0_4), .int .i64 a0_5, (.slice A0_6 l0_6.length c0_6)] 28 (0, 0))) ∧ Aside0 (Below w.heap.size w wc))
     case first =>
      have H := HC45.out
      clear HC45
      by_cases c46 : (x6_2.length : Int) = a0_0
      ·
       rw [if_pos c46] at H
       have c46b0 : ((x6_2.length : Int) == a0_0) = true := beq_iff_eq.mpr c46
       have c46b1 : ((x6_2.length : Int) != a0_0) = false := bne_eq_false_iff_eq.mpr c46
       clear c46
       (first | rw [c46b0] | (simp only [i64_w, i32_w]; rw [c46b0]) | skip)
       replace H := Option.bind_eq_some_iff.mp H
       obtain ⟨t452, A470, H⟩ := H
       try dsimp only at H
       have A47 := Aside0.mk A470
       clear A470
       have H' := Aside0.mk H
       clear H
       obtain ⟨Ao48, co48, eo48⟩ := Kd.R_slice HO_6.out
       subst eo48
       have hcz49_0 : wr.cell? ⟨g0_0, 0, none⟩ = some (.int .i64 a0_0) := bc BK439 0
       have hcz49_1 : wr.cell? ⟨g0_0, 1, none⟩ = some (.int .i64 a0_1) := bc BK439 1
       have hcz49_2 : wr.cell? ⟨g0_0, 2, none⟩ = some (.int .i64 a0_2) := bc BK439 2
       have hcz49_3 : wr.cell? ⟨g0_0, 3, none⟩ = some (.int .i64 a0_3) := bc BK439 3
       have hcz49_4 : wr.cell? ⟨g0_0, 4, none⟩ = some (.slice A0_4 l0_4.length c0_4) := bc BK439 4
       have hcz49_5 : wr.cell? ⟨g0_0, 5, none⟩ = some (.int .i64 a0_5) := bc BK439 5
       have hcz49_6 : wr.cell? ⟨g0_0, 6, none⟩ = some (.slice A0_6 l0_6.length c0_6) := bc BK439 6
       have hfz49_0 := blk_frozen BK439.out 0
       have hfz49_1 := blk_frozen BK439.out 1
       have hfz49_2 := blk_frozen BK439.out 2
       have hfz49_3 := blk_frozen BK439.out 3
       have hfz49_4 := blk_frozen BK439.out 4
       have hfz49_5 := blk_frozen BK439.out 5
       have hfz49_6 := blk_frozen BK439.out 6
       go_wp2_with (first | (go_at_call 53; (with_reducible refine (impl_sortedOk.calls k2 _ _ x6_2 a0_1 t452 _ ?side1 ?side2 A47.out).mono ?_); (case side1 => exact uD HO_6); (case side2 => exact (Kd.R_reads' HO_6.out).2.1); rintro e w' ⟨rfl, ⟨nd, rfl⟩⟩))
       go_meet
       case rel => exact ⟨_, (!t452), Z91, H', ⟨by have := HJ2.out; have := HK2.out; first | omega | exact Nat.le_refl _⟩, ⟨Z66⟩, ⟨by refine uW ?_; exact BK439.out⟩, ⟨Z10⟩⟩
      rw [if_neg c46] at H
      have c46b0 : ((x6_2.length : Int) == a0_0) = false := beq_eq_false_iff_ne.mpr c46
      have c46b1 : ((x6_2.length : Int) != a0_0) = true := bne_iff_ne.mpr c46
      (first | rw [c46b0] | (simp only [i64_w, i32_w]; rw [c46b0]) | skip)
      have H' := Aside0.mk H
      clear H
      obtain ⟨Ao50, co50, eo50⟩ := Kd.R_slice HO_6.out
      subst eo50
      have hcz51_0 : wr.cell? ⟨g0_0, 0, none⟩ = some (.int .i64 a0_0) := bc BK439 0
      have hcz51_1 : wr.cell? ⟨g0_0, 1, none⟩ = some (.int .i64 a0_1) := bc BK439 1
      have hcz51_2 : wr.cell? ⟨g0_0, 2, none⟩ = some (.int .i64 a0_2) := bc BK439 2
      have hcz51_3 : wr.cell? ⟨g0_0, 3, none⟩ = some (.int .i64 a0_3) := bc BK439 3
      have hcz51_4 : wr.cell? ⟨g0_0, 4, none⟩ = some (.slice A0_4 l0_4.length c0_4) := bc BK439 4
      have hcz51_5 : wr.cell? ⟨g0_0, 5, none⟩ = some (.int .i64 a0_5) := bc BK439 5
      have hcz51_6 : wr.cell? ⟨g0_0, 6, none⟩ = some (.slice A0_6 l0_6.length c0_6) := bc BK439 6
      have hfz51_0 := blk_frozen BK439.out 0
      have hfz51_1 := blk_frozen BK439.out 1
      have hfz51_2 := blk_frozen BK439.out 2
      have hfz51_3 := blk_frozen BK439.out 3
      have hfz51_4 := blk_frozen BK439.out 4
      have hfz51_5 := blk_frozen BK439.out 5
      have hfz51_6 := blk_frozen BK439.out 6
      go_wp2
      go_meet
      case rel => exact ⟨_, (true), Z91, H', ⟨by have := HJ2.out; have := HK2.out; first | omega | exact Nat.le_refl _⟩, ⟨Z66⟩, ⟨by refine uW ?_; exact BK439.out⟩, ⟨Z10⟩⟩
     case rest =>
      clear HC45
      try clear c2
      try clear p2
      try clear c3
      try clear c4
      try clear c6
      try clear p6
      try clear c7
      try clear c7b0
      try clear c7b1
      try clear c8
      try clear c22
      try clear c26
      try clear c26b0
      try clear c28
      try clear c29
      try clear c29b0
      try clear c30
      try clear c30b0
      try clear c30b1
      try clear c33
      try clear c46
      try clear c46b0
      try clear c46b1
      try clear hcz25_0
      try clear hcz25_1
      try clear hcz25_2
      try clear hcz25_3
      try clear hcz25_4
      try clear hcz25_5
      try clear hcz25_6
      try clear hcz36_0
      try clear hcz36_1
      try clear hcz36_2
      try clear hcz36_3
      try clear hcz36_4
      try clear hcz36_5
      try clear hcz36_6
      try clear hcz42_0
      try clear hcz42_1
      try clear hcz42_2
      try clear hcz42_3
      try clear hcz42_4
      try clear hcz42_5
      try clear hcz42_6
      try clear hcz49_0
      try clear hcz49_1
      try clear hcz49_2
      try clear hcz49_3
      try clear hcz49_4
      try clear hcz49_5
      try clear hcz49_6
      try clear hcz51_0
      try clear hcz51_1
      try clear hcz51_2
      try clear hcz51_3
      try clear hcz51_4
      try clear hcz51_5
      try clear hcz51_6
      try clear hfz25_0
      try clear hfz25_1
      try clear hfz25_2
      try clear hfz25_3
      try clear hfz25_4
      try clear hfz25_5
      try clear hfz25_6
      try clear hfz36_0
      try clear hfz36_1
      try clear hfz36_2
      try clear hfz36_3
      try clear hfz36_4
      try clear hfz36_5
      try clear hfz36_6
      try clear hfz42_0
      try clear hfz42_1
      try clear hfz42_2
      try clear hfz42_3
      try clear hfz42_4
      try clear hfz42_5
      try clear hfz42_6
      try clear hfz49_0
      try clear hfz49_1
      try clear hfz49_2
      try clear hfz49_3
      try clear hfz49_4
      try clear hfz49_5
      try clear hfz49_6
      try clear hfz51_0
      try clear hfz51_1
      try clear hfz51_2
      try clear hfz51_3
      try clear hfz51_4
      try clear hfz51_5
      try clear hfz51_6
      try clear p2
      obtain ⟨kq, x119_44, rfl, HA, HJ44, HO_6, BK439, HB⟩ := hcut
      cases kq with
      | zero => exact absurd HA.out (by simp [impl_Sparse_numbers_in28_0.j2])
      | succ kj44 =>
       have H := HA.out
       clear HA
       simp only [impl_Sparse_numbers_in28_0.j2] at H
       by_cases c52 : x119_44 = true
       ·
        subst c52
        rw [if_pos rfl] at H
        simp only [Option.some.injEq, Prod.mk.injEq] at H
        obtain ⟨rfl, rfl⟩ := H
        go_wp2
        go_ret2
        exact ⟨_, Z90, Z40, Z10⟩
       replace c52 := Bool.eq_false_iff.mpr c52
       subst c52
       rw [if_neg (show ¬ (false = true) from Z19)] at H
       replace H := Option.bind_eq_some_iff.mp H
       obtain ⟨⟨t453, t454, t455, t456, t457, t460, t461⟩, A530, H⟩ := H
       try dsimp only at H
       have A53 := Aside0.mk A530
       clear A530
       replace H := Option.bind_eq_some_iff.mp H
       obtain ⟨t465, A540, H⟩ := H
       try dsimp only at H
       have A54 := Aside0.mk A540
       clear A540
       by_cases c55 : t465 = true
       ·
        subst c55
        rw [if_pos rfl] at H
        replace H := Option.bind_eq_some_iff.mp H
        obtain ⟨t466, A560, H⟩ := H
        try dsimp only at H
        have A56 := Aside0.mk A560
        clear A560
        simp only [Option.some.injEq, Prod.mk.injEq] at H
        obtain ⟨rfl, rfl⟩ := H
        have hcz57_0 : wc.cell? ⟨g0_0, 0, none⟩ = some (.int .i64 a0_0) := bc BK439 0
        have hcz57_1 : wc.cell? ⟨g0_0, 1, none⟩ = some (.int .i64 a0_1) := bc BK439 1
        have hcz57_2 : wc.cell? ⟨g0_0, 2, none⟩ = some (.int .i64 a0_2) := bc BK439 2
        have hcz57_3 : wc.cell? ⟨g0_0, 3, none⟩ = some (.int .i64 a0_3) := bc BK439 3
        have hcz57_4 : wc.cell? ⟨g0_0, 4, none⟩ = some (.slice A0_4 l0_4.length c0_4) := bc BK439 4
        have hcz57_5 : wc.cell? ⟨g0_0, 5, none⟩ = some (.int .i64 a0_5) := bc BK439 5
        have hcz57_6 : wc.cell? ⟨g0_0, 6, none⟩ = some (.slice A0_6 l0_6.length c0_6) := bc BK439 6
        have hfz57_0 := blk_frozen BK439.out 0
        have hfz57_1 := blk_frozen BK439.out 1
        have hfz57_2 := blk_frozen BK439.out 2
        have hfz57_3 := blk_frozen BK439.out 3
        have hfz57_4 := blk_frozen BK439.out 4
        have hfz57_5 := blk_frozen BK439.out 5
        have hfz57_6 := blk_frozen BK439.out 6
        obtain ⟨Ao58, co58, eo58⟩ := Kd.R_slice HO_6.out
        subst eo58
        try go_wp2_with (first | ((with_reducible refine gate_callee (f := 28) rfl ?_); refine goesL_ (some 125) rfl rfl Try.func28 Z92 rfl #[.slice Ao58 x6_2.length co58, .int .i64 a0_1] rfl Z89 ?_; (with_reducible refine (impl_sparse.calls kj44 _ _ x6_2 a0_1 t453 t454 t455 t456 t457 t460 t461 _ ?side1 ?side2 A53.out).mono ?_); (case side1 => exact uD HO_6); (case side2 => exact (Kd.R_reads' HO_6.out).2.1); rintro e w59 ⟨v458, v462, rfl, ho0, ho1, hb⟩; refine ⟨_, rfl, ?_⟩; have HO459 := Aside0.mk (Kd.R_lower (Kd.R_new' ho0 (Kd.R_lt (uR HO_6))) (below_size Z10)); have HO463 := Aside0.mk (Kd.R_lower (Kd.R_new' ho1 (Kd.R_lt (uR HO_6))) (below_size Z10)); replace HO_6 := Aside0.mk (Kd.R_mono (Kd.R_told (Kd.R_told (Kd.R_old (uR HO_6) hb) (Kd.R_base ho0)) (Kd.R_base ho1)) (fun _ h_ => h_.1)); replace BK439 := kB BK439 hb; replace HB := Aside0.mk (below_step Z10 hb); (try clear hb); (try clear hb2); (try clear hk); (try clear hi); (try clear ho0); (try clear ho1)) | ((with_reducible refine gate_dst (N := 9) rfl ?_); refine box_event ?hg (N := 9) ?hd (cs := #[.int .i64 0, .int .i64 0, .int .i64 0, .int .i64 0, .slice none 0 0, .int .i64 0, .slice none 0 0]) (t := 28) ?hr ?_; (case hd => rfl); (case hg => rfl); (case hr => exact Z93); intro gb464 hg w60 hbox hb; replace HO_6 := Aside0.mk (Kd.R_below (uR HO_6) hb); replace HO459 := Aside0.mk (Kd.R_below (uR HO459) hb); replace HO463 := Aside0.mk (Kd.R_below (uR HO463) hb); have BK464 := Aside0.mk (hbox); have GW464 := Aside0.mk ((by rw [hg]; exact (below_size Z10) : w.heap.size ≤ gb464)); have GE464 := Aside0.mk ((by rw [hg]; exact (below_size Z10) : w.heap.size ≤ gb464)); replace HB := Aside0.mk (below_step Z10 hb); have NB439_464 := nL BK439 hg; have NB464_439 := nR BK439 hg; replace BK439 := kB BK439 hb; clear hb hbox hg; have hnb61 := NB464_439.out; have hnc61 := NB439_464.out; have hcz62_0 : w60.cell? ⟨gb464, 0, none⟩ = some (.int .i64 0) := bc BK464 0; have hcz62_1 : w60.cell? ⟨gb464, 1, none⟩ = some (.int .i64 0) := bc BK464 1; have hcz62_2 : w60.cell? ⟨gb464, 2, none⟩ = some (.int .i64 0) := bc BK464 2; have hcz62_3 : w60.cell? ⟨gb464, 3, none⟩ = some (.int .i64 0) := bc BK464 3; have hcz62_4 : w60.cell? ⟨gb464, 4, none⟩ = some (.slice none 0 0) := bc BK464 4; have hcz62_5 : w60.cell? ⟨gb464, 5, none⟩ = some (.int .i64 0) := bc BK464 5; have hcz62_6 : w60.cell? ⟨gb464, 6, none⟩ = some (.slice none 0 0) := bc BK464 6; have hfz62_0 := blk_frozen BK464.out 0; have hfz62_1 := blk_frozen BK464.out 1; have hfz62_2 := blk_frozen BK464.out 2; have hfz62_3 := blk_frozen BK464.out 3; have hfz62_4 := blk_frozen BK464.out 4; have hfz62_5 := blk_frozen BK464.out 5; have hfz62_6 := blk_frozen BK464.out 6; obtain ⟨Ao63, co63, eo63⟩ := Kd.R_slice HO459.out; subst eo63; obtain ⟨Ao64, co64, eo64⟩ := Kd.R_slice HO463.out; subst eo64))
        have n0_ : Aside0 (Kd.R (Kd.int .i64) 3 (((((((w60.setCell ⟨gb464, 0, none⟩ (.int .i64 t453)).setCell ⟨gb464, 1, none⟩ (.int .i64 t454)).setCell ⟨gb464, 2, none⟩ (.int .i64 t455)).setCell ⟨gb464, 3, none⟩ (.int .i64 t456)).setCell ⟨gb464, 4, none⟩ (.slice Ao63 t457.length co63)).setCell ⟨gb464, 5, none⟩ (.int .i64 t460)).setCell ⟨gb464, 6, none⟩ (.slice Ao64 t461.length co64)) w.heap.size (fun k_ => some k_ ≠ (.slice Ao63 t457.length co63 : Value).ownBlock ∧ some k_ ≠ (.slice Ao64 t461.length co64 : Value).ownBlock) (.slice Ao58 x6_2.length co58) x6_2) := ⟨by (with_reducible repeat (first | apply Kd.R_alloc | apply Kd.R_drewN | apply Kd.R_drew)); exact Kd.R_mono (Kd.R_far (p := ⟨gb464, 6, none⟩) (Kd.R_far (p := ⟨gb464, 5, none⟩) (Kd.R_far (p := ⟨gb464, 4, none⟩) (Kd.R_far (p := ⟨gb464, 3, none⟩) (Kd.R_far (p := ⟨gb464, 2, none⟩) (Kd.R_far (p := ⟨gb464, 1, none⟩) (Kd.R_far (p := ⟨gb464, 0, none⟩) (Kd.R_types HO_6.out BK464.out Z19) (fun _ hk => hk.2) (.int .i64 t453)) (fun _ hk => hk.2) (.int .i64 t454)) (fun _ hk => hk.2) (.int .i64 t455)) (fun _ hk => hk.2) (.int .i64 t456)) (fun _ hk => hk.2) (.slice Ao63 t457.length co63)) (fun _ hk => hk.2) (.int .i64 t460)) (fun _ hk => hk.2) (.slice Ao64 t461.length co64)) (fun _ hk => ⟨hk.1.1.2, hk.1.2⟩)⟩
        have n1_ : Aside0 (Kd.R (Kd.int .i64) 3 (((((((w60.setCell ⟨gb464, 0, none⟩ (.int .i64 t453)).setCell ⟨gb464, 1, none⟩ (.int .i64 t454)).setCell ⟨gb464, 2, none⟩ (.int .i64 t455)).setCell ⟨gb464, 3, none⟩ (.int .i64 t456)).setCell ⟨gb464, 4, none⟩ (.slice Ao63 t457.length co63)).setCell ⟨gb464, 5, none⟩ (.int .i64 t460)).setCell ⟨gb464, 6, none⟩ (.slice Ao64 t461.length co64)) w.heap.size (fun k_ => some k_ ≠ (.slice Ao58 x6_2.length co58 : Value).ownBlock ∧ some k_ ≠ (.slice Ao64 t461.length co64 : Value).ownBlock) (.slice Ao63 t457.length co63) t457) := ⟨by (with_reducible repeat (first | apply Kd.R_alloc | apply Kd.R_drewN | apply Kd.R_drew)); exact Kd.R_mono (Kd.R_far (p := ⟨gb464, 6, none⟩) (Kd.R_far (p := ⟨gb464, 5, none⟩) (Kd.R_far (p := ⟨gb464, 4, none⟩) (Kd.R_far (p := ⟨gb464, 3, none⟩) (Kd.R_far (p := ⟨gb464, 2, none⟩) (Kd.R_far (p := ⟨gb464, 1, none⟩) (Kd.R_far (p := ⟨gb464, 0, none⟩) (Kd.R_types HO459.out BK464.out Z19) (fun _ hk => hk.2) (.int .i64 t453)) (fun _ hk => hk.2) (.int .i64 t454)) (fun _ hk => hk.2) (.int .i64 t455)) (fun _ hk => hk.2) (.int .i64 t456)) (fun _ hk => hk.2) (.slice Ao63 t457.length co63)) (fun _ hk => hk.2) (.int .i64 t460)) (fun _ hk => hk.2) (.slice Ao64 t461.length co64)) (fun _ hk => ⟨hk.1.2, hk.1.1⟩)⟩
        have n2_ : Aside0 (Kd.R (Kd.int .i64) 3 (((((((w60.setCell ⟨gb464, 0, none⟩ (.int .i64 t453)).setCell ⟨gb464, 1, none⟩ (.int .i64 t454)).setCell ⟨gb464, 2, none⟩ (.int .i64 t455)).setCell ⟨gb464, 3, none⟩ (.int .i64 t456)).setCell ⟨gb464, 4, none⟩ (.slice Ao63 t457.length co63)).setCell ⟨gb464, 5, none⟩ (.int .i64 t460)).setCell ⟨gb464, 6, none⟩ (.slice Ao64 t461.length co64)) w.heap.size (fun k_ => some k_ ≠ (.slice Ao58 x6_2.length co58 : Value).ownBlock ∧ some k_ ≠ (.slice Ao63 t457.length co63 : Value).ownBlock) (.slice Ao64 t461.length co64) t461) := ⟨by (with_reducible repeat (first | apply Kd.R_alloc | apply Kd.R_drewN | apply Kd.R_drew)); exact Kd.R_mono (Kd.R_far (p := ⟨gb464, 6, none⟩) (Kd.R_far (p := ⟨gb464, 5, none⟩) (Kd.R_far (p := ⟨gb464, 4, none⟩) (Kd.R_far (p := ⟨gb464, 3, none⟩) (Kd.R_far (p := ⟨gb464, 2, none⟩) (Kd.R_far (p := ⟨gb464, 1, none⟩) (Kd.R_far (p := ⟨gb464, 0, none⟩) (Kd.R_types HO463.out BK464.out Z19) (fun _ hk => hk.2) (.int .i64 t453)) (fun _ hk => hk.2) (.int .i64 t454)) (fun _ hk => hk.2) (.int .i64 t455)) (fun _ hk => hk.2) (.int .i64 t456)) (fun _ hk => hk.2) (.slice Ao63 t457.length co63)) (fun _ hk => hk.2) (.int .i64 t460)) (fun _ hk => hk.2) (.slice Ao64 t461.length co64)) (fun _ hk => ⟨hk.1.2, hk.1.1⟩)⟩
        have n3_ : Aside0 ((((((((w60.setCell ⟨gb464, 0, none⟩ (.int .i64 t453)).setCell ⟨gb464, 1, none⟩ (.int .i64 t454)).setCell ⟨gb464, 2, none⟩ (.int .i64 t455)).setCell ⟨gb464, 3, none⟩ (.int .i64 t456)).setCell ⟨gb464, 4, none⟩ (.slice Ao63 t457.length co63)).setCell ⟨gb464, 5, none⟩ (.int .i64 t460)).setCell ⟨gb464, 6, none⟩ (.slice Ao64 t461.length co64)).heap[g0_0]? = some (.cells #[.int .i64 a0_0, .int .i64 a0_1, .int .i64 a0_2, .int .i64 a0_3, .slice A0_4 l0_4.length c0_4, .int .i64 a0_5, .slice A0_6 l0_6.length c0_6] 28 (0, 0))) := ⟨by refine uW ?_; refine blk_far ?_ NB439_464.out _; refine uW ?_; refine blk_far ?_ NB439_464.out _; refine uW ?_; refine blk_far ?_ NB439_464.out _; refine uW ?_; refine blk_far ?_ NB439_464.out _; refine uW ?_; refine blk_far ?_ NB439_464.out _; refine uW ?_; refine blk_far ?_ NB439_464.out _; refine uW ?_; refine blk_far ?_ NB439_464.out _; refine uW ?_; exact BK439.out⟩
        have n4_ : Aside0 ((((((((w60.setCell ⟨gb464, 0, none⟩ (.int .i64 t453)).setCell ⟨gb464, 1, none⟩ (.int .i64 t454)).setCell ⟨gb464, 2, none⟩ (.int .i64 t455)).setCell ⟨gb464, 3, none⟩ (.int .i64 t456)).setCell ⟨gb464, 4, none⟩ (.slice Ao63 t457.length co63)).setCell ⟨gb464, 5, none⟩ (.int .i64 t460)).setCell ⟨gb464, 6, none⟩ (.slice Ao64 t461.length co64)).heap[gb464]? = some (.cells #[.int .i64 t453, .int .i64 t454, .int .i64 t455, .int .i64 t456, .slice Ao63 t457.length co63, .int .i64 t460, .slice Ao64 t461.length co64] 28 (0, 0))) := ⟨by refine uW ?_; refine blk_put (cs := #[.int .i64 t453, .int .i64 t454, .int .i64 t455, .int .i64 t456, .slice Ao63 t457.length co63, .int .i64 t460, .slice none 0 0]) ?_ 6 _ rfl; refine uW ?_; refine blk_put (cs := #[.int .i64 t453, .int .i64 t454, .int .i64 t455, .int .i64 t456, .slice Ao63 t457.length co63, .int .i64 0, .slice none 0 0]) ?_ 5 _ rfl; refine uW ?_; refine blk_put (cs := #[.int .i64 t453, .int .i64 t454, .int .i64 t455, .int .i64 t456, .slice none 0 0, .int .i64 0, .slice none 0 0]) ?_ 4 _ rfl; refine uW ?_; refine blk_put (cs := #[.int .i64 t453, .int .i64 t454, .int .i64 t455, .int .i64 0, .slice none 0 0, .int .i64 0, .slice none 0 0]) ?_ 3 _ rfl; refine uW ?_; refine blk_put (cs := #[.int .i64 t453, .int .i64 t454, .int .i64 0, .int .i64 0, .slice none 0 0, .int .i64 0, .slice none 0 0]) ?_ 2 _ rfl; refine uW ?_; refine blk_put (cs := #[.int .i64 t453, .int .i64 0, .int .i64 0, .int .i64 0, .slice none 0 0, .int .i64 0, .slice none 0 0]) ?_ 1 _ rfl; refine uW ?_; refine blk_put (cs := #[.int .i64 0, .int .i64 0, .int .i64 0, .int .i64 0, .slice none 0 0, .int .i64 0, .slice none 0 0]) ?_ 0 _ rfl; refine uW ?_; exact BK464.out⟩
        have n5_ : Aside0 (Below w.heap.size w (((((((w60.setCell ⟨gb464, 0, none⟩ (.int .i64 t453)).setCell ⟨gb464, 1, none⟩ (.int .i64 t454)).setCell ⟨gb464, 2, none⟩ (.int .i64 t455)).setCell ⟨gb464, 3, none⟩ (.int .i64 t456)).setCell ⟨gb464, 4, none⟩ (.slice Ao63 t457.length co63)).setCell ⟨gb464, 5, none⟩ (.int .i64 t460)).setCell ⟨gb464, 6, none⟩ (.slice Ao64 t461.length co64))) := ⟨Z34⟩
        (try clear HO_6)
        (try clear HO459)
        (try clear HO463)
        (try clear BK439)
        (try clear BK464)
        (try clear HB)
        generalize (((((((w60.setCell ⟨gb464, 0, none⟩ (.int .i64 t453)).setCell ⟨gb464, 1, none⟩ (.int .i64 t454)).setCell ⟨gb464, 2, none⟩ (.int .i64 t455)).setCell ⟨gb464, 3, none⟩ (.int .i64 t456)).setCell ⟨gb464, 4, none⟩ (.slice Ao63 t457.length co63)).setCell ⟨gb464, 5, none⟩ (.int .i64 t460)).setCell ⟨gb464, 6, none⟩ (.slice Ao64 t461.length co64)) = w65 at n0_ n1_ n2_ n3_ n4_ n5_ ⊢
        have HO_6 := n0_
        have HO459 := n1_
        have HO463 := n2_
        have BK439 := n3_
        have BK464 := n4_
        have HB := n5_
        clear n0_ n1_ n2_ n3_ n4_ n5_
        replace HO_6 := Aside0.mk (Kd.R_drew HO_6.out)
        replace HO459 := Aside0.mk (Kd.R_drew HO459.out)
        replace HO463 := Aside0.mk (Kd.R_drew HO463.out)
        replace BK439 := Aside0.mk (blk_drew BK439.out)
        replace BK464 := Aside0.mk (blk_drew BK464.out)
        replace HB := Aside0.mk (below_drew1 HB.out)
        refine start_ (n := 19) (S := fun w' => w'.cell? ⟨gb464, 0, none⟩ = some (.int .i64 t453) ∧ w'.cell? ⟨gb464, 1, none⟩ = some (.int .i64 t454) ∧ w'.cell? ⟨gb464, 2, none⟩ = some (.int .i64 t455) ∧ w'.cell? ⟨gb464, 3, none⟩ = some (.int .i64 t456) ∧ w'.cell? ⟨gb464, 4, none⟩ = some (.slice Ao63 t457.length co63) ∧ w'.cell? ⟨gb464, 5, none⟩ = some (.int .i64 t460) ∧ w'.cell? ⟨gb464, 6, none⟩ = some (.slice Ao64 t461.length co64) ∧ w'.cell? ⟨g0_0, 0, none⟩ = some (.int .i64 a0_0) ∧ w'.cell? ⟨g0_0, 1, none⟩ = some (.int .i64 a0_1) ∧ w'.cell? ⟨g0_0, 2, none⟩ = some (.int .i64 a0_2) ∧ w'.cell? ⟨g0_0, 3, none⟩ = some (.int .i64 a0_3) ∧ w'.cell? ⟨g0_0, 4, none⟩ = some (.slice A0_4 l0_4.length c0_4) ∧ w'.cell? ⟨g0_0, 5, none⟩ = some (.int .i64 a0_5) ∧ w'.cell? ⟨g0_0, 6, none⟩ = some (.slice A0_6 l0_6.length c0_6)) (ds := []) (bA 19 0) Z92 rfl rfl ⟨bc BK464 0, bc BK464 1, bc BK464 2, bc BK464 3, bc BK464 4, bc BK464 5, bc BK464 6, bc BK439 0, bc BK439 1, bc BK439 2, bc BK439 3, bc BK439 4, bc BK439 5, bc BK439 6⟩ (fun hHeld => ?_); refine with_tabW impl_Sparse_numbers_in28_0.tab15 impl_Sparse_numbers_in28_0.bits15 (fun HT_ HW_ => ?_)
        generalize w65.drew = w66 at HO_6 HO459 HO463 BK439 BK464 HB hHeld ⊢
        refine pS 0 126 (bA 19 1) ?_
        refine pS 1 127 (bA 19 3) ?_
        refine pS 3 129 (bA 19 11) ?_
        refine pS 4 130 (bA 19 27) ?_
        refine pS 5 131 (bA 19 59) ?_
        refine tS14 2 128 (bA 19 63) hHeld ?_
        refine tS14 6 132 (bA 19 127) hHeld ?_
        refine one_ (i := 7) (N := some 133) (bA 19 255) rfl rfl (one_of HT_.out Z92) Z19 (fun K hK => ?_)
        refine goes_ Try.func54 Z92 rfl #[.agg #[.int .i64 t456, .slice Ao63 t457.length co63], .agg #[.int .i64 a0_3, .slice A0_4 l0_4.length c0_4]] Z63 rfl rfl Z89 ?_
        with_reducible refine (impl_sameBits.calls kj44 t456 _ _ t457 a0_3 _ _ l0_4 true _ ?side1 ?side2 ?side3 ?side4 A54.out).mono ?_
        (case side1 => exact uD HO459)
        (case side2 => exact (Kd.R_reads' HO459.out).2.1)
        (case side3 => exact uC HR0_4 HB)
        (case side4 => exact HC0_4.out)
        rintro e w67 ⟨rfl, hb⟩
        refine ⟨_, rfl, ?_⟩
        replace HO_6 := Aside0.mk (Kd.R_below (uR HO_6) hb)
        replace HO459 := Aside0.mk (Kd.R_below (uR HO459) hb)
        replace HO463 := Aside0.mk (Kd.R_below (uR HO463) hb)
        replace BK439 := kB BK439 hb
        replace BK464 := kB BK464 hb
        replace HB := Aside0.mk (below_step Z34 hb)
        (try clear hb)
        (try clear hb2)
        (try clear hk)
        (try clear hi)
        refine hK.out _ _ ⟨bc BK464 0, bc BK464 1, bc BK464 2, bc BK464 3, bc BK464 4, bc BK464 5, bc BK464 6, bc BK439 0, bc BK439 1, bc BK439 2, bc BK439 3, bc BK439 4, bc BK439 5, bc BK439 6⟩ (fun hHeld => ?_)
        clear hK K
        refine norm_ (a' := ?_) ?_ ?_
        rotate_left
        ·
         show Act.put _ (some 133) _ = _
         simp only [Act.put, setIfInBounds_toArray, set_cons_zero, set_cons_succ, i64_w, i32_w]
         rfl
        refine pS 8 134 (bA 19 511) ?_
        refine pS 9 135 (bA 19 1023) ?_
        refine pS 11 137 (bA 19 3071) ?_
        refine pS 12 138 (bA 19 7167) ?_
        refine pS 13 139 (bA 19 15359) ?_
        refine tS14 10 136 (bA 19 16383) hHeld ?_
        refine tS14 14 140 (bA 19 32767) hHeld ?_
        refine one_ (i := 15) (N := some 141) (bA 19 65535) rfl rfl (one_of HT_.out Z92) Z19 (fun K hK => ?_)
        refine goes_ Try.func54 Z92 rfl #[.agg #[.int .i64 t460, .slice Ao64 t461.length co64], .agg #[.int .i64 a0_5, .slice A0_6 l0_6.length c0_6]] Z63 rfl rfl Z89 ?_
        with_reducible refine (impl_sameBits.calls kj44 t460 _ _ t461 a0_5 _ _ l0_6 t466 _ ?side1 ?side2 ?side3 ?side4 A56.out).mono ?_
        (case side1 => exact uD HO463)
        (case side2 => exact (Kd.R_reads' HO463.out).2.1)
        (case side3 => exact uC HR0_6 HB)
        (case side4 => exact HC0_6.out)
        rintro e w68 ⟨rfl, hb⟩
        refine ⟨_, rfl, ?_⟩
        replace HO_6 := Aside0.mk (Kd.R_below (uR HO_6) hb)
        replace HO459 := Aside0.mk (Kd.R_below (uR HO459) hb)
        replace HO463 := Aside0.mk (Kd.R_below (uR HO463) hb)
        replace BK439 := kB BK439 hb
        replace BK464 := kB BK464 hb
        replace HB := Aside0.mk (below_step Z34 hb)
        (try clear hb)
        (try clear hb2)
        (try clear hk)
        (try clear hi)
        refine hK.out _ _ ⟨bc BK464 0, bc BK464 1, bc BK464 2, bc BK464 3, bc BK464 4, bc BK464 5, bc BK464 6, bc BK439 0, bc BK439 1, bc BK439 2, bc BK439 3, bc BK439 4, bc BK439 5, bc BK439 6⟩ (fun hHeld => ?_)
        clear hK K
        refine norm_ (a' := ?_) ?_ ?_
        rotate_left
        ·
         show Act.put _ (some 141) _ = _
         simp only [Act.put, setIfInBounds_toArray, set_cons_zero, set_cons_succ, i64_w, i32_w]
         rfl
        refine pS 16 142 (bA 19 131071) ?_
        refine pS 17 2 (bA 19 262143) ?_
        refine pS 18 3 (bA 19 524287) ?_
        refine done_ (done_of HT_.out Z92) ?_
        try go_wp2
        go_ret2
        exact ⟨_, Z90, Z77, Z34⟩
       replace c55 := Bool.eq_false_iff.mpr c55
       subst c55
       rw [if_neg (show ¬ (false = true) from Z19)] at H
       simp only [Option.some.injEq, Prod.mk.injEq] at H
       obtain ⟨rfl, rfl⟩ := H
       have hcz69_0 : wc.cell? ⟨g0_0, 0, none⟩ = some (.int .i64 a0_0) := bc BK439 0
       have hcz69_1 : wc.cell? ⟨g0_0, 1, none⟩ = some (.int .i64 a0_1) := bc BK439 1
       have hcz69_2 : wc.cell? ⟨g0_0, 2, none⟩ = some (.int .i64 a0_2) := bc BK439 2
       have hcz69_3 : wc.cell? ⟨g0_0, 3, none⟩ = some (.int .i64 a0_3) := bc BK439 3
       have hcz69_4 : wc.cell? ⟨g0_0, 4, none⟩ = some (.slice A0_4 l0_4.length c0_4) := bc BK439 4
       have hcz69_5 : wc.cell? ⟨g0_0, 5, none⟩ = some (.int .i64 a0_5) := bc BK439 5
       have hcz69_6 : wc.cell? ⟨g0_0, 6, none⟩ = some (.slice A0_6 l0_6.length c0_6) := bc BK439 6
       have hfz69_0 := blk_frozen BK439.out 0
       have hfz69_1 := blk_frozen BK439.out 1
       have hfz69_2 := blk_frozen BK439.out 2
       have hfz69_3 := blk_frozen BK439.out 3
       have hfz69_4 := blk_frozen BK439.out 4
       have hfz69_5 := blk_frozen BK439.out 5
       have hfz69_6 := blk_frozen BK439.out 6
       obtain ⟨Ao70, co70, eo70⟩ := Kd.R_slice HO_6.out
       subst eo70
       try go_wp2_with (first | ((with_reducible refine gate_callee (f := 28) rfl ?_); refine goesL_ (some 125) rfl rfl Try.func28 Z92 rfl #[.slice Ao70 x6_2.length co70, .int .i64 a0_1] rfl Z89 ?_; (with_reducible refine (impl_sparse.calls kj44 _ _ x6_2 a0_1 t453 t454 t455 t456 t457 t460 t461 _ ?side1 ?side2 A53.out).mono ?_); (case side1 => exact uD HO_6); (case side2 => exact (Kd.R_reads' HO_6.out).2.1); rintro e w71 ⟨v458, v462, rfl, ho0, ho1, hb⟩; refine ⟨_, rfl, ?_⟩; have HO459 := Aside0.mk (Kd.R_lower (Kd.R_new' ho0 (Kd.R_lt (uR HO_6))) (below_size Z10)); have HO463 := Aside0.mk (Kd.R_lower (Kd.R_new' ho1 (Kd.R_lt (uR HO_6))) (below_size Z10)); replace HO_6 := Aside0.mk (Kd.R_mono (Kd.R_told (Kd.R_told (Kd.R_old (uR HO_6) hb) (Kd.R_base ho0)) (Kd.R_base ho1)) (fun _ h_ => h_.1)); replace BK439 := kB BK439 hb; replace HB := Aside0.mk (below_step Z10 hb); (try clear hb); (try clear hb2); (try clear hk); (try clear hi); (try clear ho0); (try clear ho1)) | ((with_reducible refine gate_dst (N := 9) rfl ?_); refine box_event ?hg (N := 9) ?hd (cs := #[.int .i64 0, .int .i64 0, .int .i64 0, .int .i64 0, .slice none 0 0, .int .i64 0, .slice none 0 0]) (t := 28) ?hr ?_; (case hd => rfl); (case hg => rfl); (case hr => exact Z93); intro gb464 hg w72 hbox hb; replace HO_6 := Aside0.mk (Kd.R_below (uR HO_6) hb); replace HO459 := Aside0.mk (Kd.R_below (uR HO459) hb); replace HO463 := Aside0.mk (Kd.R_below (uR HO463) hb); have BK464 := Aside0.mk (hbox); have GW464 := Aside0.mk ((by rw [hg]; exact (below_size Z10) : w.heap.size ≤ gb464)); have GE464 := Aside0.mk ((by rw [hg]; exact (below_size Z10) : w.heap.size ≤ gb464)); replace HB := Aside0.mk (below_step Z10 hb); have NB439_464 := nL BK439 hg; have NB464_439 := nR BK439 hg; replace BK439 := kB BK439 hb; clear hb hbox hg; have hnb73 := NB464_439.out; have hnc73 := NB439_464.out; have hcz74_0 : w72.cell? ⟨gb464, 0, none⟩ = some (.int .i64 0) := bc BK464 0; have hcz74_1 : w72.cell? ⟨gb464, 1, none⟩ = some (.int .i64 0) := bc BK464 1; have hcz74_2 : w72.cell? ⟨gb464, 2, none⟩ = some (.int .i64 0) := bc BK464 2; have hcz74_3 : w72.cell? ⟨gb464, 3, none⟩ = some (.int .i64 0) := bc BK464 3; have hcz74_4 : w72.cell? ⟨gb464, 4, none⟩ = some (.slice none 0 0) := bc BK464 4; have hcz74_5 : w72.cell? ⟨gb464, 5, none⟩ = some (.int .i64 0) := bc BK464 5; have hcz74_6 : w72.cell? ⟨gb464, 6, none⟩ = some (.slice none 0 0) := bc BK464 6; have hfz74_0 := blk_frozen BK464.out 0; have hfz74_1 := blk_frozen BK464.out 1; have hfz74_2 := blk_frozen BK464.out 2; have hfz74_3 := blk_frozen BK464.out 3; have hfz74_4 := blk_frozen BK464.out 4; have hfz74_5 := blk_frozen BK464.out 5; have hfz74_6 := blk_frozen BK464.out 6; obtain ⟨Ao75, co75, eo75⟩ := Kd.R_slice HO459.out; subst eo75; obtain ⟨Ao76, co76, eo76⟩ := Kd.R_slice HO463.out; subst eo76))
       have n0_ : Aside0 (Kd.R (Kd.int .i64) 3 (((((((w72.setCell ⟨gb464, 0, none⟩ (.int .i64 t453)).setCell ⟨gb464, 1, none⟩ (.int .i64 t454)).setCell ⟨gb464, 2, none⟩ (.int .i64 t455)).setCell ⟨gb464, 3, none⟩ (.int .i64 t456)).setCell ⟨gb464, 4, none⟩ (.slice Ao75 t457.length co75)).setCell ⟨gb464, 5, none⟩ (.int .i64 t460)).setCell ⟨gb464, 6, none⟩ (.slice Ao76 t461.length co76)) w.heap.size (fun k_ => some k_ ≠ (.slice Ao75 t457.length co75 : Value).ownBlock ∧ some k_ ≠ (.slice Ao76 t461.length co76 : Value).ownBlock) (.slice Ao70 x6_2.length co70) x6_2) := ⟨by (with_reducible repeat (first | apply Kd.R_alloc | apply Kd.R_drewN | apply Kd.R_drew)); exact Kd.R_mono (Kd.R_far (p := ⟨gb464, 6, none⟩) (Kd.R_far (p := ⟨gb464, 5, none⟩) (Kd.R_far (p := ⟨gb464, 4, none⟩) (Kd.R_far (p := ⟨gb464, 3, none⟩) (Kd.R_far (p := ⟨gb464, 2, none⟩) (Kd.R_far (p := ⟨gb464, 1, none⟩) (Kd.R_far (p := ⟨gb464, 0, none⟩) (Kd.R_types HO_6.out BK464.out Z19) (fun _ hk => hk.2) (.int .i64 t453)) (fun _ hk => hk.2) (.int .i64 t454)) (fun _ hk => hk.2) (.int .i64 t455)) (fun _ hk => hk.2) (.int .i64 t456)) (fun _ hk => hk.2) (.slice Ao75 t457.length co75)) (fun _ hk => hk.2) (.int .i64 t460)) (fun _ hk => hk.2) (.slice Ao76 t461.length co76)) (fun _ hk => ⟨hk.1.1.2, hk.1.2⟩)⟩
       have n1_ : Aside0 (Kd.R (Kd.int .i64) 3 (((((((w72.setCell ⟨gb464, 0, none⟩ (.int .i64 t453)).setCell ⟨gb464, 1, none⟩ (.int .i64 t454)).setCell ⟨gb464, 2, none⟩ (.int .i64 t455)).setCell ⟨gb464, 3, none⟩ (.int .i64 t456)).setCell ⟨gb464, 4, none⟩ (.slice Ao75 t457.length co75)).setCell ⟨gb464, 5, none⟩ (.int .i64 t460)).setCell ⟨gb464, 6, none⟩ (.slice Ao76 t461.length co76)) w.heap.size (fun k_ => some k_ ≠ (.slice Ao70 x6_2.length co70 : Value).ownBlock ∧ some k_ ≠ (.slice Ao76 t461.length co76 : Value).ownBlock) (.slice Ao75 t457.length co75) t457) := ⟨by (with_reducible repeat (first | apply Kd.R_alloc | apply Kd.R_drewN | apply Kd.R_drew)); exact Kd.R_mono (Kd.R_far (p := ⟨gb464, 6, none⟩) (Kd.R_far (p := ⟨gb464, 5, none⟩) (Kd.R_far (p := ⟨gb464, 4, none⟩) (Kd.R_far (p := ⟨gb464, 3, none⟩) (Kd.R_far (p := ⟨gb464, 2, none⟩) (Kd.R_far (p := ⟨gb464, 1, none⟩) (Kd.R_far (p := ⟨gb464, 0, none⟩) (Kd.R_types HO459.out BK464.out Z19) (fun _ hk => hk.2) (.int .i64 t453)) (fun _ hk => hk.2) (.int .i64 t454)) (fun _ hk => hk.2) (.int .i64 t455)) (fun _ hk => hk.2) (.int .i64 t456)) (fun _ hk => hk.2) (.slice Ao75 t457.length co75)) (fun _ hk => hk.2) (.int .i64 t460)) (fun _ hk => hk.2) (.slice Ao76 t461.length co76)) (fun _ hk => ⟨hk.1.2, hk.1.1⟩)⟩
       have n2_ : Aside0 (Kd.R (Kd.int .i64) 3 (((((((w72.setCell ⟨gb464, 0, none⟩ (.int .i64 t453)).setCell ⟨gb464, 1, none⟩ (.int .i64 t454)).setCell ⟨gb464, 2, none⟩ (.int .i64 t455)).setCell ⟨gb464, 3, none⟩ (.int .i64 t456)).setCell ⟨gb464, 4, none⟩ (.slice Ao75 t457.length co75)).setCell ⟨gb464, 5, none⟩ (.int .i64 t460)).setCell ⟨gb464, 6, none⟩ (.slice Ao76 t461.length co76)) w.heap.size (fun k_ => some k_ ≠ (.slice Ao70 x6_2.length co70 : Value).ownBlock ∧ some k_ ≠ (.slice Ao75 t457.length co75 : Value).ownBlock) (.slice Ao76 t461.length co76) t461) := ⟨by (with_reducible repeat (first | apply Kd.R_alloc | apply Kd.R_drewN | apply Kd.R_drew)); exact Kd.R_mono (Kd.R_far (p := ⟨gb464, 6, none⟩) (Kd.R_far (p := ⟨gb464, 5, none⟩) (Kd.R_far (p := ⟨gb464, 4, none⟩) (Kd.R_far (p := ⟨gb464, 3, none⟩) (Kd.R_far (p := ⟨gb464, 2, none⟩) (Kd.R_far (p := ⟨gb464, 1, none⟩) (Kd.R_far (p := ⟨gb464, 0, none⟩) (Kd.R_types HO463.out BK464.out Z19) (fun _ hk => hk.2) (.int .i64 t453)) (fun _ hk => hk.2) (.int .i64 t454)) (fun _ hk => hk.2) (.int .i64 t455)) (fun _ hk => hk.2) (.int .i64 t456)) (fun _ hk => hk.2) (.slice Ao75 t457.length co75)) (fun _ hk => hk.2) (.int .i64 t460)) (fun _ hk => hk.2) (.slice Ao76 t461.length co76)) (fun _ hk => ⟨hk.1.2, hk.1.1⟩)⟩
       have n3_ : Aside0 ((((((((w72.setCell ⟨gb464, 0, none⟩ (.int .i64 t453)).setCell ⟨gb464, 1, none⟩ (.int .i64 t454)).setCell ⟨gb464, 2, none⟩ (.int .i64 t455)).setCell ⟨gb464, 3, none⟩ (.int .i64 t456)).setCell ⟨gb464, 4, none⟩ (.slice Ao75 t457.length co75)).setCell ⟨gb464, 5, none⟩ (.int .i64 t460)).setCell ⟨gb464, 6, none⟩ (.slice Ao76 t461.length co76)).heap[g0_0]? = some (.cells #[.int .i64 a0_0, .int .i64 a0_1, .int .i64 a0_2, .int .i64 a0_3, .slice A0_4 l0_4.length c0_4, .int .i64 a0_5, .slice A0_6 l0_6.length c0_6] 28 (0, 0))) := ⟨by refine uW ?_; refine blk_far ?_ NB439_464.out _; refine uW ?_; refine blk_far ?_ NB439_464.out _; refine uW ?_; refine blk_far ?_ NB439_464.out _; refine uW ?_; refine blk_far ?_ NB439_464.out _; refine uW ?_; refine blk_far ?_ NB439_464.out _; refine uW ?_; refine blk_far ?_ NB439_464.out _; refine uW ?_; refine blk_far ?_ NB439_464.out _; refine uW ?_; exact BK439.out⟩
       have n4_ : Aside0 ((((((((w72.setCell ⟨gb464, 0, none⟩ (.int .i64 t453)).setCell ⟨gb464, 1, none⟩ (.int .i64 t454)).setCell ⟨gb464, 2, none⟩ (.int .i64 t455)).setCell ⟨gb464, 3, none⟩ (.int .i64 t456)).setCell ⟨gb464, 4, none⟩ (.slice Ao75 t457.length co75)).setCell ⟨gb464, 5, none⟩ (.int .i64 t460)).setCell ⟨gb464, 6, none⟩ (.slice Ao76 t461.length co76)).heap[gb464]? = some (.cells #[.int .i64 t453, .int .i64 t454, .int .i64 t455, .int .i64 t456, .slice Ao75 t457.length co75, .int .i64 t460, .slice Ao76 t461.length co76] 28 (0, 0))) := ⟨by refine uW ?_; refine blk_put (cs := #[.int .i64 t453, .int .i64 t454, .int .i64 t455, .int .i64 t456, .slice Ao75 t457.length co75, .int .i64 t460, .slice none 0 0]) ?_ 6 _ rfl; refine uW ?_; refine blk_put (cs := #[.int .i64 t453, .int .i64 t454, .int .i64 t455, .int .i64 t456, .slice Ao75 t457.length co75, .int .i64 0, .slice none 0 0]) ?_ 5 _ rfl; refine uW ?_; refine blk_put (cs := #[.int .i64 t453, .int .i64 t454, .int .i64 t455, .int .i64 t456, .slice none 0 0, .int .i64 0, .slice none 0 0]) ?_ 4 _ rfl; refine uW ?_; refine blk_put (cs := #[.int .i64 t453, .int .i64 t454, .int .i64 t455, .int .i64 0, .slice none 0 0, .int .i64 0, .slice none 0 0]) ?_ 3 _ rfl; refine uW ?_; refine blk_put (cs := #[.int .i64 t453, .int .i64 t454, .int .i64 0, .int .i64 0, .slice none 0 0, .int .i64 0, .slice none 0 0]) ?_ 2 _ rfl; refine uW ?_; refine blk_put (cs := #[.int .i64 t453, .int .i64 0, .int .i64 0, .int .i64 0, .slice none 0 0, .int .i64 0, .slice none 0 0]) ?_ 1 _ rfl; refine uW ?_; refine blk_put (cs := #[.int .i64 0, .int .i64 0, .int .i64 0, .int .i64 0, .slice none 0 0, .int .i64 0, .slice none 0 0]) ?_ 0 _ rfl; refine uW ?_; exact BK464.out⟩
       have n5_ : Aside0 (Below w.heap.size w (((((((w72.setCell ⟨gb464, 0, none⟩ (.int .i64 t453)).setCell ⟨gb464, 1, none⟩ (.int .i64 t454)).setCell ⟨gb464, 2, none⟩ (.int .i64 t455)).setCell ⟨gb464, 3, none⟩ (.int .i64 t456)).setCell ⟨gb464, 4, none⟩ (.slice Ao75 t457.length co75)).setCell ⟨gb464, 5, none⟩ (.int .i64 t460)).setCell ⟨gb464, 6, none⟩ (.slice Ao76 t461.length co76))) := ⟨Z34⟩
       (try clear HO_6)
       (try clear HO459)
       (try clear HO463)
       (try clear BK439)
       (try clear BK464)
       (try clear HB)
       generalize (((((((w72.setCell ⟨gb464, 0, none⟩ (.int .i64 t453)).setCell ⟨gb464, 1, none⟩ (.int .i64 t454)).setCell ⟨gb464, 2, none⟩ (.int .i64 t455)).setCell ⟨gb464, 3, none⟩ (.int .i64 t456)).setCell ⟨gb464, 4, none⟩ (.slice Ao75 t457.length co75)).setCell ⟨gb464, 5, none⟩ (.int .i64 t460)).setCell ⟨gb464, 6, none⟩ (.slice Ao76 t461.length co76)) = w77 at n0_ n1_ n2_ n3_ n4_ n5_ ⊢
       have HO_6 := n0_
       have HO459 := n1_
       have HO463 := n2_
       have BK439 := n3_
       have BK464 := n4_
       have HB := n5_
       clear n0_ n1_ n2_ n3_ n4_ n5_
       replace HO_6 := Aside0.mk (Kd.R_drew HO_6.out)
       replace HO459 := Aside0.mk (Kd.R_drew HO459.out)
       replace HO463 := Aside0.mk (Kd.R_drew HO463.out)
       replace BK439 := Aside0.mk (blk_drew BK439.out)
       replace BK464 := Aside0.mk (blk_drew BK464.out)
       replace HB := Aside0.mk (below_drew1 HB.out)
       refine start_ (n := 19) (S := fun w' => w'.cell? ⟨gb464, 0, none⟩ = some (.int .i64 t453) ∧ w'.cell? ⟨gb464, 1, none⟩ = some (.int .i64 t454) ∧ w'.cell? ⟨gb464, 2, none⟩ = some (.int .i64 t455) ∧ w'.cell? ⟨gb464, 3, none⟩ = some (.int .i64 t456) ∧ w'.cell? ⟨gb464, 4, none⟩ = some (.slice Ao75 t457.length co75) ∧ w'.cell? ⟨gb464, 5, none⟩ = some (.int .i64 t460) ∧ w'.cell? ⟨gb464, 6, none⟩ = some (.slice Ao76 t461.length co76) ∧ w'.cell? ⟨g0_0, 0, none⟩ = some (.int .i64 a0_0) ∧ w'.cell? ⟨g0_0, 1, none⟩ = some (.int .i64 a0_1) ∧ w'.cell? ⟨g0_0, 2, none⟩ = some (.int .i64 a0_2) ∧ w'.cell? ⟨g0_0, 3, none⟩ = some (.int .i64 a0_3) ∧ w'.cell? ⟨g0_0, 4, none⟩ = some (.slice A0_4 l0_4.length c0_4) ∧ w'.cell? ⟨g0_0, 5, none⟩ = some (.int .i64 a0_5) ∧ w'.cell? ⟨g0_0, 6, none⟩ = some (.slice A0_6 l0_6.length c0_6)) (ds := []) (bA 19 0) Z92 rfl rfl ⟨bc BK464 0, bc BK464 1, bc BK464 2, bc BK464 3, bc BK464 4, bc BK464 5, bc BK464 6, bc BK439 0, bc BK439 1, bc BK439 2, bc BK439 3, bc BK439 4, bc BK439 5, bc BK439 6⟩ (fun hHeld => ?_); refine with_tabW impl_Sparse_numbers_in28_0.tab15 impl_Sparse_numbers_in28_0.bits15 (fun HT_ HW_ => ?_)
       generalize w77.drew = w78 at HO_6 HO459 HO463 BK439 BK464 HB hHeld ⊢
       refine pS 0 126 (bA 19 1) ?_
       refine pS 1 127 (bA 19 3) ?_
       refine pS 3 129 (bA 19 11) ?_
       refine pS 4 130 (bA 19 27) ?_
       refine pS 5 131 (bA 19 59) ?_
       refine tS14 2 128 (bA 19 63) hHeld ?_
       refine tS14 6 132 (bA 19 127) hHeld ?_
       refine one_ (i := 7) (N := some 133) (bA 19 255) rfl rfl (one_of HT_.out Z92) Z19 (fun K hK => ?_)
       refine goes_ Try.func54 Z92 rfl #[.agg #[.int .i64 t456, .slice Ao75 t457.length co75], .agg #[.int .i64 a0_3, .slice A0_4 l0_4.length c0_4]] Z63 rfl rfl Z89 ?_
       with_reducible refine (impl_sameBits.calls kj44 t456 _ _ t457 a0_3 _ _ l0_4 false _ ?side1 ?side2 ?side3 ?side4 A54.out).mono ?_
       (case side1 => exact uD HO459)
       (case side2 => exact (Kd.R_reads' HO459.out).2.1)
       (case side3 => exact uC HR0_4 HB)
       (case side4 => exact HC0_4.out)
       rintro e w79 ⟨rfl, hb⟩
       refine ⟨_, rfl, ?_⟩
       replace HO_6 := Aside0.mk (Kd.R_below (uR HO_6) hb)
       replace HO459 := Aside0.mk (Kd.R_below (uR HO459) hb)
       replace HO463 := Aside0.mk (Kd.R_below (uR HO463) hb)
       replace BK439 := kB BK439 hb
       replace BK464 := kB BK464 hb
       replace HB := Aside0.mk (below_step Z34 hb)
       (try clear hb)
       (try clear hb2)
       (try clear hk)
       (try clear hi)
       refine hK.out _ _ ⟨bc BK464 0, bc BK464 1, bc BK464 2, bc BK464 3, bc BK464 4, bc BK464 5, bc BK464 6, bc BK439 0, bc BK439 1, bc BK439 2, bc BK439 3, bc BK439 4, bc BK439 5, bc BK439 6⟩ (fun hHeld => ?_)
       clear hK K
       refine norm_ (a' := ?_) ?_ ?_
       rotate_left
       ·
        show Act.put _ (some 133) _ = _
        simp only [Act.put, setIfInBounds_toArray, set_cons_zero, set_cons_succ, i64_w, i32_w]
        rfl
       refine pS 8 134 (bA 19 511) ?_
       refine pU 9 135 (bA 19 1023) ?_
       refine pU 10 136 (bA 19 2047) ?_
       refine pU 11 137 (bA 19 4095) ?_
       refine pU 12 138 (bA 19 8191) ?_
       refine pU 13 139 (bA 19 16383) ?_
       refine pU 14 140 (bA 19 32767) ?_
       refine pU 15 141 (bA 19 65535) ?_
       refine pS 16 142 (bA 19 131071) ?_
       refine pS 17 2 (bA 19 262143) ?_
       refine pS 18 3 (bA 19 524287) ?_
       refine done_ (done_of HT_.out Z92) ?_
       try go_wp2
       go_ret2
       exact ⟨_, Z90, Z77, Z34⟩

end Go.Proofs.Ytllaofiopnhdgaa.PFnSparseCounts
