-- made by wip/tools/myprint.py over the kit's print, for this claim
import Derived.Test.YtllaofiopnhdgaaPFnSparseCountsx0
import Derived.Test.YtllaofiopnhdgaaPFnSparseCountsx1
import Derived.Test.YtllaofiopnhdgaaPFnSparseCountsx2
import Derived.Test.YtllaofiopnhdgaaPFnSparseCountsx4
import Derived.Test.YtllaofiopnhdgaaPFnSparseCountsx12
import Derived.Test.YtllaofiopnhdgaaPFnSparseCountsx13
namespace Go.Proofs.Ytllaofiopnhdgaa.PFnSparseCounts
open Go.RowKit Go.Proofs.YtllaofiopnhdgaaW.PrintWords Go.Proofs.YtllaofiopnhdgaaW.PrintLast Go.Proofs.YtllaofiopnhdgaaW.PrintMore
open List (setIfInBounds_toArray set_cons_zero set_cons_succ)
attribute [local go_sem] max2_int min2_int max_two min_two max_three min_three max_four min_four   -- for this text's walks alone
set_option linter.unusedVariables false
set_option linter.unusedSimpArgs false

/-! ### spec_spGood: function 29 -/
mutual
def spec_spGood.j0 : Nat → Bool → Int → Int → Int → Int → List Int → Int → List Int → Option (Bool)
 | 0, _, _, _, _, _, _, _, _ => none
 | k + 1, x24, x495000, x495001, x495002, x495003, x495004, x495005, x495006 => if x24 = true then (some false) else ((spec_biGood.f k x495003 x495004).bind fun t498 => (if t498 = true then ((spec_biGood.f k x495005 x495006).bind fun t499 => (if t499 = true then (if x495003 = (wrap64 (x495000 * x495002)) then (if 0 ≤ x495002 then (spec_spGood.j1 k (x495005 != (wrap64 ((wrap64 (x495000 + (shr .i64 (wrap64 (x495001 - 1)) x495002))) + 1))) x495000 x495001 x495002 x495003 x495004 x495005 x495006) else (none)) else (spec_spGood.j1 k true x495000 x495001 x495002 x495003 x495004 x495005 x495006)) else (spec_spGood.j1 k true x495000 x495001 x495002 x495003 x495004 x495005 x495006))) else (spec_spGood.j1 k true x495000 x495001 x495002 x495003 x495004 x495005 x495006)))
def spec_spGood.j1 : Nat → Bool → Int → Int → Int → Int → List Int → Int → List Int → Option (Bool)
 | 0, _, _, _, _, _, _, _, _ => none
 | k + 1, x61, x495000, x495001, x495002, x495003, x495004, x495005, x495006 => if x61 = true then (some false) else ((spec_spList.f k x495000 x495001 x495002 x495003 x495004 x495005 x495006).bind fun t500 => (if (t500.length : Int) = x495000 then ((spec_spSorted.f k t500 x495001).bind fun t503 => (spec_spGood.j2 k t500 (!t503) x495000 x495001 x495002 x495003 x495004 x495005 x495006)) else (spec_spGood.j2 k t500 true x495000 x495001 x495002 x495003 x495004 x495005 x495006)))
def spec_spGood.j2 : Nat → List Int → Bool → Int → Int → Int → Int → List Int → Int → List Int → Option (Bool)
 | 0, _, _, _, _, _, _, _, _, _ => none
 | k + 1, x3, x75, x495000, x495001, x495002, x495003, x495004, x495005, x495006 => if x75 = true then (some false) else ((spec_spOf.f k x3 x495001).bind fun bt504 => ((spec_biSame.f k x495003 x495004 bt504.2.2.2.1 bt504.2.2.2.2.1).bind fun t516 => (if t516 = true then ((spec_biSame.f k x495005 x495006 bt504.2.2.2.2.2.1 bt504.2.2.2.2.2.2).bind fun t517 => (some t517)) else (some false))))
end
def spec_spGood.f (k : Nat) (a0_0 : Int) (a0_1 : Int) (a0_2 : Int) (a0_3 : Int) (l0_4 : List Int) (a0_5 : Int) (l0_6 : List Int) : Option (Bool) := (spec_l1In.f a0_0 0 60).bind fun t495 => (if t495 = true then ((spec_spLimit.f a0_1).bind fun t496 => (if t496 = true then ((spec_spWidth.f k a0_0 a0_1).bind fun t497 => (spec_spGood.j0 k (a0_2 != t497) a0_0 a0_1 a0_2 a0_3 l0_4 a0_5 l0_6)) else (spec_spGood.j0 k true a0_0 a0_1 a0_2 a0_3 l0_4 a0_5 l0_6))) else (spec_spGood.j0 k true a0_0 a0_1 a0_2 a0_3 l0_4 a0_5 l0_6))
theorem spec_spGood.mono_l : ∀ k, (∀ y0 y1 y2 y3 y4 y5 y6 y7, LeO (spec_spGood.j0 k y0 y1 y2 y3 y4 y5 y6 y7) (spec_spGood.j0 (k + 1) y0 y1 y2 y3 y4 y5 y6 y7)) ∧ (∀ y0 y1 y2 y3 y4 y5 y6 y7, LeO (spec_spGood.j1 k y0 y1 y2 y3 y4 y5 y6 y7) (spec_spGood.j1 (k + 1) y0 y1 y2 y3 y4 y5 y6 y7)) ∧ (∀ y0 y1 y2 y3 y4 y5 y6 y7 y8, LeO (spec_spGood.j2 k y0 y1 y2 y3 y4 y5 y6 y7 y8) (spec_spGood.j2 (k + 1) y0 y1 y2 y3 y4 y5 y6 y7 y8))
 | 0 => ⟨fun _ _ _ _ _ _ _ _ r h => by simp [spec_spGood.j0] at h, fun _ _ _ _ _ _ _ _ r h => by simp [spec_spGood.j1] at h, fun _ _ _ _ _ _ _ _ _ r h => by simp [spec_spGood.j2] at h⟩ | k + 1 => by
  obtain ⟨ih0, ih1, ih2⟩ := spec_spGood.mono_l k
  refine ⟨?_, ?_, ?_⟩
  ·
   intro y0 y1 y2 y3 y4 y5 y6 y7
   unfold spec_spGood.j0
   repeat' first
   | with_reducible first | exact ih0 .. | exact ih1 .. | exact ih2 .. | exact spec_biGood.mono .. | exact spec_biSame.mono .. | exact spec_spList.mono .. | exact spec_spOf.mono .. | exact spec_spSorted.mono .. | exact spec_spWidth.mono .. | exact LeO.refl _ | exact LeO.none _ | refine LeO.ite ?_ ?_ | refine LeO.bind ?_ (fun _ => ?_)
   | exact ih0 .. | exact ih1 .. | exact ih2 .. | exact spec_biGood.mono .. | exact spec_biSame.mono .. | exact spec_spList.mono .. | exact spec_spOf.mono .. | exact spec_spSorted.mono .. | exact spec_spWidth.mono .. | exact LeO.none _ | refine LeO.ite ?_ ?_ | refine LeO.bind ?_ (fun _ => ?_)
  ·
   intro y0 y1 y2 y3 y4 y5 y6 y7
   unfold spec_spGood.j1
   repeat' first
   | with_reducible first | exact ih0 .. | exact ih1 .. | exact ih2 .. | exact spec_biGood.mono .. | exact spec_biSame.mono .. | exact spec_spList.mono .. | exact spec_spOf.mono .. | exact spec_spSorted.mono .. | exact spec_spWidth.mono .. | exact LeO.refl _ | exact LeO.none _ | refine LeO.ite ?_ ?_ | refine LeO.bind ?_ (fun _ => ?_)
   | exact ih0 .. | exact ih1 .. | exact ih2 .. | exact spec_biGood.mono .. | exact spec_biSame.mono .. | exact spec_spList.mono .. | exact spec_spOf.mono .. | exact spec_spSorted.mono .. | exact spec_spWidth.mono .. | exact LeO.none _ | refine LeO.ite ?_ ?_ | refine LeO.bind ?_ (fun _ => ?_)
  intro y0 y1 y2 y3 y4 y5 y6 y7 y8
  unfold spec_spGood.j2
  repeat' first
  | with_reducible first | exact ih0 .. | exact ih1 .. | exact ih2 .. | exact spec_biGood.mono .. | exact spec_biSame.mono .. | exact spec_spList.mono .. | exact spec_spOf.mono .. | exact spec_spSorted.mono .. | exact spec_spWidth.mono .. | exact LeO.refl _ | exact LeO.none _ | refine LeO.ite ?_ ?_ | refine LeO.bind ?_ (fun _ => ?_)
  | exact ih0 .. | exact ih1 .. | exact ih2 .. | exact spec_biGood.mono .. | exact spec_biSame.mono .. | exact spec_spList.mono .. | exact spec_spOf.mono .. | exact spec_spSorted.mono .. | exact spec_spWidth.mono .. | exact LeO.none _ | refine LeO.ite ?_ ?_ | refine LeO.bind ?_ (fun _ => ?_)
theorem spec_spGood.mono : ∀ a0 a1 a2 a3 a4 a5 a6 k, LeO (spec_spGood.f k a0 a1 a2 a3 a4 a5 a6) (spec_spGood.f (k + 1) a0 a1 a2 a3 a4 a5 a6) := by
 intro a0 a1 a2 a3 a4 a5 a6 k
 obtain ⟨ih0, ih1, ih2⟩ := spec_spGood.mono_l k
 unfold spec_spGood.f
 repeat' first
   | with_reducible first | exact ih0 .. | exact ih1 .. | exact ih2 .. | exact spec_biGood.mono .. | exact spec_biSame.mono .. | exact spec_spList.mono .. | exact spec_spOf.mono .. | exact spec_spSorted.mono .. | exact spec_spWidth.mono .. | exact LeO.refl _ | exact LeO.none _ | refine LeO.ite ?_ ?_ | refine LeO.bind ?_ (fun _ => ?_)
   | exact ih0 .. | exact ih1 .. | exact ih2 .. | exact spec_biGood.mono .. | exact spec_biSame.mono .. | exact spec_spList.mono .. | exact spec_spOf.mono .. | exact spec_spSorted.mono .. | exact spec_spWidth.mono .. | exact LeO.none _ | refine LeO.ite ?_ ?_ | refine LeO.bind ?_ (fun _ => ?_)
def spec_spGood.T1 : Bool × List (List Nat × List Nat) := (true, [([], []), ([0], [0]), ([1], [1]), ([2], [2]), ([3, 2], [3]), ([4], [4]), ([5, 4], [4, 5]), ([6, 4, 4], [4, 6]), ([7, 4], [4, 7]), ([4, 8], [4, 8]), ([9, 7], [9]), ([10], [10]), ([11, 10], [10, 11]), ([10], [10]), ([13, 10], [10, 13]), ([10], [10]), ([15, 10], [10, 15]), ([14, 16, 10, 10], [10, 14, 16]), ([12, 17, 10], [10, 12, 17]), ([10, 18], [10, 18])])
def spec_spGood.B1 : List Nat := [0, 1, 3, 7, 15, 31, 63, 127, 255, 511, 1023, 2047, 4095, 2047, 10239, 2047, 34815, 124927, 262143, 524287]
theorem spec_spGood.tab1 : rtab .any (opsOf Try.f29 1) = spec_spGood.T1 := by kernel_rfl
theorem spec_spGood.bits1 : waitsOk spec_spGood.T1.2 spec_spGood.B1 = true := by kernel_rfl
def spec_spGood.T3 : Bool × List (List Nat × List Nat) := (true, [([], []), ([0], [0]), ([1], [1]), ([2], [2]), ([3, 2], [3]), ([4], [4]), ([5, 4], [4, 5]), ([6, 4, 4], [4, 6]), ([7, 4], [4, 7]), ([4, 8], [4, 8]), ([9, 7], [9]), ([10], [10]), ([11, 10], [10, 11]), ([12, 10], [10, 12]), ([10], [10]), ([14, 10], [10, 14]), ([10], [10]), ([16, 10], [10, 16]), ([15, 17, 10], [10, 15, 17]), ([13, 18, 10], [10, 13, 18]), ([10, 19], [10, 19]), ([20, 10], [20]), ([21], [21]), ([22, 21], [21, 22]), ([23, 21], [21, 23]), ([21], [21]), ([25, 21], [21, 25]), ([21], [21]), ([27, 21], [21, 27]), ([28, 21], [21, 28]), ([21], [21]), ([30, 21], [21, 30]), ([29, 31, 21], [21, 29, 31]), ([26, 32, 21], [21, 26, 32]), ([33, 21], [21, 33]), ([24, 34, 21], [21, 24, 34]), ([21, 35], [21, 35])])
def spec_spGood.B3 : List Nat := [0, 1, 3, 7, 15, 31, 63, 127, 255, 511, 1023, 2047, 4095, 8191, 2047, 18431, 2047, 67583, 247807, 524287, 1048575, 2097151, 4194303, 8388607, 16777215, 4194303, 37748735, 4194303, 138412031, 406847487, 4194303, 1077936127, 4164943871, 8560574463, 17150509055, 34359738367, 68719476735]
theorem spec_spGood.tab3 : rtab .any (opsOf Try.f29 3) = spec_spGood.T3 := by kernel_rfl
theorem spec_spGood.bits3 : waitsOk spec_spGood.T3.2 spec_spGood.B3 = true := by kernel_rfl
set_option maxHeartbeats 8000000 in
set_option maxRecDepth 100000 in
theorem spec_spGood.calls (k : Nat) (a0_0 : Int) (a0_1 : Int) (a0_2 : Int) (a0_3 : Int) (A0_4 : Option Addr) (c0_4 : Nat) (l0_4 : List Int) (a0_5 : Int) (A0_6 : Option Addr) (c0_6 : Nat) (l0_6 : List Int) (r : Bool) (w : World) (hr0_4 : Kd.C (Kd.int .i64) w A0_4 l0_4.length l0_4) (hc0_4 : l0_4.length ≤ c0_4) (hr0_6 : Kd.C (Kd.int .i64) w A0_6 l0_6.length l0_6) (hc0_6 : l0_6.length ≤ c0_6) (h : spec_spGood.f k a0_0 a0_1 a0_2 a0_3 l0_4 a0_5 l0_6 = some r) :
  Calls Try.prog 29 #[.agg #[.int .i64 a0_0, .int .i64 a0_1, .int .i64 a0_2, .int .i64 a0_3, .slice A0_4 l0_4.length c0_4, .int .i64 a0_5, .slice A0_6 l0_6.length c0_6]] w fun e w' => e = .returned (.bool r) ∧ Below w.heap.size w w' := by
 have hu28 := Try.underlying28
 have hu26 := Try.underlying26
 have HR0_4 := Aside0.mk hr0_4
 have HC0_4 := Aside0.mk hc0_4
 clear hr0_4 hc0_4
 have HR0_6 := Aside0.mk hr0_6
 have HC0_6 := Aside0.mk hc0_6
 clear hr0_6 hc0_6
 have HB := Aside0.mk (Below.refl w.heap.size w)
 have H : ((spec_l1In.f a0_0 0 60).bind fun t495 => (if t495 = true then ((spec_spLimit.f a0_1).bind fun t496 => (if t496 = true then ((spec_spWidth.f k a0_0 a0_1).bind fun t497 => (spec_spGood.j0 k (a0_2 != t497) a0_0 a0_1 a0_2 a0_3 l0_4 a0_5 l0_6)) else (spec_spGood.j0 k true a0_0 a0_1 a0_2 a0_3 l0_4 a0_5 l0_6))) else (spec_spGood.j0 k true a0_0 a0_1 a0_2 a0_3 l0_4 a0_5 l0_6))) = some r := h
 clear h
 have HC2 := Aside0.mk H
 clear H
 go_enter Try.func29, Try.ntmps29
 go_upto_region 1 with (first | ((with_reducible refine gate_dst (N := 1) rfl ?_); refine box_event ?hg (N := 1) ?hd (cs := #[.int .i64 a0_0, .int .i64 a0_1, .int .i64 a0_2, .int .i64 a0_3, .slice A0_4 l0_4.length c0_4, .int .i64 a0_5, .slice A0_6 l0_6.length c0_6]) (t := 28) ?hr ?_; (case hd => rfl); (case hg => rfl); (case hr => exact Z93); intro gb494 hg w3 hbox hb; have BK494 := Aside0.mk (hbox); have GW494 := nG HB hg; have GE494 := nG HB hg; have GI494 := gI GE494; replace HB := Aside0.mk (below_step (uN HB) hb); clear hb hbox hg))
 (try simp only [Act.put, setIfInBounds_toArray, set_cons_zero, set_cons_succ])
 go_cut [24] (fun v24 wc => ∃ (kq : Nat) (x24_1 : Bool), v24 = .bool x24_1 ∧ Aside0 (spec_spGood.j0 kq x24_1 a0_0 a0_1 a0_2 a0_3 l0_4 a0_5 l0_6 = some r) ∧ Aside0 (kq ≤ k) ∧ Aside0 (wc.heap[gb494]? = some (.cells #[.int .i64 a0_0, .int .i64 a0_1, .int .i64 a0_2, .int .i64 a0_3, (.slice A0_4 l0_4.length c0_4), .int .i64 a0_5, (.slice A0_6 l0_6.length c0_6)] 28 (0, 0))) ∧ Aside0 (Below w.heap.size w wc))
 case first =>
  have H := HC2.out
  clear HC2
  replace H := Option.bind_eq_some_iff.mp H
  obtain ⟨t495, A40, H⟩ := H
  try dsimp only at H
  have A4 := Aside0.mk A40
  clear A40
  by_cases c5 : t495 = true
  ·
   subst c5
   rw [if_pos rfl] at H
   replace H := Option.bind_eq_some_iff.mp H
   obtain ⟨t496, A60, H⟩ := H
   try dsimp only at H
   have A6 := Aside0.mk A60
   clear A60
   by_cases c7 : t496 = true
   ·
    subst c7
    rw [if_pos rfl] at H
    replace H := Option.bind_eq_some_iff.mp H
    obtain ⟨t497, A80, H⟩ := H
    try dsimp only at H
    have A8 := Aside0.mk A80
    clear A80
    have H' := Aside0.mk H
    clear H
    try go_wp2
    replace BK494 := Aside0.mk (blk_drew BK494.out)
    replace HB := Aside0.mk (below_drew1 HB.out)
    refine start_ (n := 20) (S := fun w' => w'.cell? ⟨gb494, 0, none⟩ = some (.int .i64 a0_0) ∧ w'.cell? ⟨gb494, 1, none⟩ = some (.int .i64 a0_1) ∧ w'.cell? ⟨gb494, 2, none⟩ = some (.int .i64 a0_2) ∧ w'.cell? ⟨gb494, 3, none⟩ = some (.int .i64 a0_3) ∧ w'.cell? ⟨gb494, 4, none⟩ = some (.slice A0_4 l0_4.length c0_4) ∧ w'.cell? ⟨gb494, 5, none⟩ = some (.int .i64 a0_5) ∧ w'.cell? ⟨gb494, 6, none⟩ = some (.slice A0_6 l0_6.length c0_6)) (ds := []) (bA 20 0) Z92 rfl rfl ⟨bc BK494 0, bc BK494 1, bc BK494 2, bc BK494 3, bc BK494 4, bc BK494 5, bc BK494 6⟩ (fun hHeld => ?_); refine with_tabW spec_spGood.tab1 spec_spGood.bits1 (fun HT_ HW_ => ?_)
    generalize w3.drew = w9 at BK494 HB hHeld ⊢
    refine pS 0 5 (bA 20 1) ?_
    refine tS7 1 6 (bA 20 3) hHeld ?_
    refine one_ (i := 2) (N := some 7) (bA 20 7) rfl rfl (one_of HT_.out Z92) Z19 (fun K hK => ?_)
    refine goes_ Try.func30 Z92 rfl #[.int .i64 a0_0, .int .i64 0, .int .i64 60] Z63 rfl rfl Z89 ?_
    with_reducible refine (spec_l1In.calls a0_0 0 60 true _ A4.out).mono ?_
    rintro e w' ⟨rfl, ⟨nd, rfl⟩⟩
    refine ⟨_, rfl, ?_⟩
    refine hK.out _ _ ⟨bc BK494 0, bc BK494 1, bc BK494 2, bc BK494 3, bc BK494 4, bc BK494 5, bc BK494 6⟩ (fun hHeld => ?_)
    clear hK K
    refine norm_ (a' := ?_) ?_ ?_
    rotate_left
    ·
     show Act.put _ (some 7) _ = _
     simp only [Act.put, setIfInBounds_toArray, set_cons_zero, set_cons_succ, i64_w, i32_w]
     rfl
    refine pS 3 8 (bA 20 15) ?_
    refine pS 4 9 (bA 20 31) ?_
    refine pS 5 10 (bA 20 63) ?_
    refine tS7 6 11 (bA 20 127) hHeld ?_
    refine one_ (i := 7) (N := some 12) (bA 20 255) rfl rfl (one_of HT_.out Z92) Z19 (fun K hK => ?_)
    refine goes_ Try.func60 Z92 rfl #[.int .i64 a0_1] Z63 rfl rfl Z89 ?_
    with_reducible refine (spec_spLimit.calls a0_1 true _ A6.out).mono ?_
    rintro e w' ⟨rfl, ⟨nd, rfl⟩⟩
    refine ⟨_, rfl, ?_⟩
    refine hK.out _ _ ⟨bc BK494 0, bc BK494 1, bc BK494 2, bc BK494 3, bc BK494 4, bc BK494 5, bc BK494 6⟩ (fun hHeld => ?_)
    clear hK K
    refine norm_ (a' := ?_) ?_ ?_
    rotate_left
    ·
     show Act.put _ (some 12) _ = _
     simp only [Act.put, setIfInBounds_toArray, set_cons_zero, set_cons_succ, i64_w, i32_w]
     rfl
    refine pS 8 13 (bA 20 511) ?_
    refine pS 9 14 (bA 20 1023) ?_
    refine pS 10 15 (bA 20 2047) ?_
    refine pS 11 16 (bA 20 4095) ?_
    refine pS 13 18 (bA 20 12287) ?_
    refine pS 15 20 (bA 20 45055) ?_
    refine tS7 12 17 (bA 20 49151) hHeld ?_
    refine tS7 14 19 (bA 20 65535) hHeld ?_
    refine tS7 16 21 (bA 20 131071) hHeld ?_
    refine one_ (i := 17) (N := some 22) (bA 20 262143) rfl rfl (one_of HT_.out Z92) Z19 (fun K hK => ?_)
    refine goes_ Try.func61 Z92 rfl #[.int .i64 a0_0, .int .i64 a0_1] Z63 rfl rfl Z89 ?_
    with_reducible refine (spec_spWidth.calls k a0_0 a0_1 t497 _ A8.out).mono ?_
    rintro e w' ⟨rfl, ⟨nd, rfl⟩⟩
    refine ⟨_, rfl, ?_⟩
    refine hK.out _ _ ⟨bc BK494 0, bc BK494 1, bc BK494 2, bc BK494 3, bc BK494 4, bc BK494 5, bc BK494 6⟩ (fun hHeld => ?_)
    clear hK K
    refine norm_ (a' := ?_) ?_ ?_
    rotate_left
    ·
     show Act.put _ (some 22) _ = _
     simp only [Act.put, setIfInBounds_toArray, set_cons_zero, set_cons_succ, i64_w, i32_w]
     rfl
    refine pS 18 23 (bA 20 524287) ?_
    refine pS 19 24 (bA 20 1048575) ?_
    refine done_ (done_of HT_.out Z92) ?_
    try go_wp2
    go_meet
    case rel => exact ⟨_, ((a0_2 != t497)), Z91, H', ⟨Z96⟩, ⟨by refine uW ?_; exact BK494.out⟩, ⟨Z14⟩⟩
   replace c7 := Bool.eq_false_iff.mpr c7
   subst c7
   rw [if_neg (show ¬ (false = true) from Z19)] at H
   have H' := Aside0.mk H
   clear H
   try go_wp2
   replace BK494 := Aside0.mk (blk_drew BK494.out)
   replace HB := Aside0.mk (below_drew1 HB.out)
   refine start_ (n := 20) (S := fun w' => w'.cell? ⟨gb494, 0, none⟩ = some (.int .i64 a0_0) ∧ w'.cell? ⟨gb494, 1, none⟩ = some (.int .i64 a0_1) ∧ w'.cell? ⟨gb494, 2, none⟩ = some (.int .i64 a0_2) ∧ w'.cell? ⟨gb494, 3, none⟩ = some (.int .i64 a0_3) ∧ w'.cell? ⟨gb494, 4, none⟩ = some (.slice A0_4 l0_4.length c0_4) ∧ w'.cell? ⟨gb494, 5, none⟩ = some (.int .i64 a0_5) ∧ w'.cell? ⟨gb494, 6, none⟩ = some (.slice A0_6 l0_6.length c0_6)) (ds := []) (bA 20 0) Z92 rfl rfl ⟨bc BK494 0, bc BK494 1, bc BK494 2, bc BK494 3, bc BK494 4, bc BK494 5, bc BK494 6⟩ (fun hHeld => ?_); refine with_tabW spec_spGood.tab1 spec_spGood.bits1 (fun HT_ HW_ => ?_)
   generalize w3.drew = w10 at BK494 HB hHeld ⊢
   refine pS 0 5 (bA 20 1) ?_
   refine tS7 1 6 (bA 20 3) hHeld ?_
   refine one_ (i := 2) (N := some 7) (bA 20 7) rfl rfl (one_of HT_.out Z92) Z19 (fun K hK => ?_)
   refine goes_ Try.func30 Z92 rfl #[.int .i64 a0_0, .int .i64 0, .int .i64 60] Z63 rfl rfl Z89 ?_
   with_reducible refine (spec_l1In.calls a0_0 0 60 true _ A4.out).mono ?_
   rintro e w' ⟨rfl, ⟨nd, rfl⟩⟩
   refine ⟨_, rfl, ?_⟩
   refine hK.out _ _ ⟨bc BK494 0, bc BK494 1, bc BK494 2, bc BK494 3, bc BK494 4, bc BK494 5, bc BK494 6⟩ (fun hHeld => ?_)
   clear hK K
   refine norm_ (a' := ?_) ?_ ?_
   rotate_left
   ·
    show Act.put _ (some 7) _ = _
    simp only [Act.put, setIfInBounds_toArray, set_cons_zero, set_cons_succ, i64_w, i32_w]
    rfl
   refine pS 3 8 (bA 20 15) ?_
   refine pS 4 9 (bA 20 31) ?_
   refine pS 5 10 (bA 20 63) ?_
   refine tS7 6 11 (bA 20 127) hHeld ?_
   refine one_ (i := 7) (N := some 12) (bA 20 255) rfl rfl (one_of HT_.out Z92) Z19 (fun K hK => ?_)
   refine goes_ Try.func60 Z92 rfl #[.int .i64 a0_1] Z63 rfl rfl Z89 ?_
   with_reducible refine (spec_spLimit.calls a0_1 false _ A6.out).mono ?_
   rintro e w' ⟨rfl, ⟨nd, rfl⟩⟩
   refine ⟨_, rfl, ?_⟩
   refine hK.out _ _ ⟨bc BK494 0, bc BK494 1, bc BK494 2, bc BK494 3, bc BK494 4, bc BK494 5, bc BK494 6⟩ (fun hHeld => ?_)
   clear hK K
   refine norm_ (a' := ?_) ?_ ?_
   rotate_left
   ·
    show Act.put _ (some 12) _ = _
    simp only [Act.put, setIfInBounds_toArray, set_cons_zero, set_cons_succ, i64_w, i32_w]
    rfl
   refine pS 8 13 (bA 20 511) ?_
   refine pS 9 14 (bA 20 1023) ?_
   refine pS 10 15 (bA 20 2047) ?_
   refine pU 11 16 (bA 20 4095) ?_
   refine pU 12 17 (bA 20 8191) ?_
   refine pU 13 18 (bA 20 16383) ?_
   refine pU 14 19 (bA 20 32767) ?_
   refine pU 15 20 (bA 20 65535) ?_
   refine pU 16 21 (bA 20 131071) ?_
   refine pU 17 22 (bA 20 262143) ?_
   refine pU 18 23 (bA 20 524287) ?_
   refine pS 19 24 (bA 20 1048575) ?_
   refine done_ (done_of HT_.out Z92) ?_
   try go_wp2
   go_meet
   case rel => exact ⟨_, (true), Z91, H', ⟨Z96⟩, ⟨by refine uW ?_; exact BK494.out⟩, ⟨Z14⟩⟩
  replace c5 := Bool.eq_false_iff.mpr c5
  subst c5
  rw [if_neg (show ¬ (false = true) from Z19)] at H
  have H' := Aside0.mk H
  clear H
  try go_wp2
  replace BK494 := Aside0.mk (blk_drew BK494.out)
  replace HB := Aside0.mk (below_drew1 HB.out)
  refine start_ (n := 20) (S := fun w' => w'.cell? ⟨gb494, 0, none⟩ = some (.int .i64 a0_0) ∧ w'.cell? ⟨gb494, 1, none⟩ = some (.int .i64 a0_1) ∧ w'.cell? ⟨gb494, 2, none⟩ = some (.int .i64 a0_2) ∧ w'.cell? ⟨gb494, 3, none⟩ = some (.int .i64 a0_3) ∧ w'.cell? ⟨gb494, 4, none⟩ = some (.slice A0_4 l0_4.length c0_4) ∧ w'.cell? ⟨gb494, 5, none⟩ = some (.int .i64 a0_5) ∧ w'.cell? ⟨gb494, 6, none⟩ = some (.slice A0_6 l0_6.length c0_6)) (ds := []) (bA 20 0) Z92 rfl rfl ⟨bc BK494 0, bc BK494 1, bc BK494 2, bc BK494 3, bc BK494 4, bc BK494 5, bc BK494 6⟩ (fun hHeld => ?_); refine with_tabW spec_spGood.tab1 spec_spGood.bits1 (fun HT_ HW_ => ?_)
  generalize w3.drew = w11 at BK494 HB hHeld ⊢
  refine pS 0 5 (bA 20 1) ?_
  refine tS7 1 6 (bA 20 3) hHeld ?_
  refine one_ (i := 2) (N := some 7) (bA 20 7) rfl rfl (one_of HT_.out Z92) Z19 (fun K hK => ?_)
  refine goes_ Try.func30 Z92 rfl #[.int .i64 a0_0, .int .i64 0, .int .i64 60] Z63 rfl rfl Z89 ?_
  with_reducible refine (spec_l1In.calls a0_0 0 60 false _ A4.out).mono ?_
  rintro e w' ⟨rfl, ⟨nd, rfl⟩⟩
  refine ⟨_, rfl, ?_⟩
  refine hK.out _ _ ⟨bc BK494 0, bc BK494 1, bc BK494 2, bc BK494 3, bc BK494 4, bc BK494 5, bc BK494 6⟩ (fun hHeld => ?_)
  clear hK K
  refine norm_ (a' := ?_) ?_ ?_
  rotate_left
  ·
   show Act.put _ (some 7) _ = _
   simp only [Act.put, setIfInBounds_toArray, set_cons_zero, set_cons_succ, i64_w, i32_w]
   rfl
  refine pS 3 8 (bA 20 15) ?_
  refine pS 4 9 (bA 20 31) ?_
  refine pU 5 10 (bA 20 63) ?_
  refine pU 6 11 (bA 20 127) ?_
  refine pU 7 12 (bA 20 255) ?_
  refine pU 8 13 (bA 20 511) ?_
  refine pS 9 14 (bA 20 1023) ?_
  refine pS 10 15 (bA 20 2047) ?_
  refine pU 11 16 (bA 20 4095) ?_
  refine pU 12 17 (bA 20 8191) ?_
  refine pU 13 18 (bA 20 16383) ?_
  refine pU 14 19 (bA 20 32767) ?_
  refine pU 15 20 (bA 20 65535) ?_
  refine pU 16 21 (bA 20 131071) ?_
  refine pU 17 22 (bA 20 262143) ?_
  refine pU 18 23 (bA 20 524287) ?_
  refine pS 19 24 (bA 20 1048575) ?_
  refine done_ (done_of HT_.out Z92) ?_
  try go_wp2
  go_meet
  case rel => exact ⟨_, (true), Z91, H', ⟨Z96⟩, ⟨by refine uW ?_; exact BK494.out⟩, ⟨Z14⟩⟩
 case rest =>
  clear HC2
  try clear c2
  try clear p2
  try clear c3
  try clear c5
  try clear c6
  try clear c7
  obtain ⟨kq, x24_1, rfl, HA, HJ1, BK494, HB⟩ := hcut
  cases kq with
  | zero => exact absurd HA.out (by simp [spec_spGood.j0])
  | succ kj1 =>
   have H := HA.out
   clear HA
   simp only [spec_spGood.j0] at H
   by_cases c12 : x24_1 = true
   ·
    subst c12
    rw [if_pos rfl] at H
    obtain rfl := Option.some.inj H
    go_wp2
    go_ret
    exact ⟨Z90, Z14⟩
   replace c12 := Bool.eq_false_iff.mpr c12
   subst c12
   rw [if_neg (show ¬ (false = true) from Z19)] at H
   have HC13 := Aside0.mk H
   clear H
   go_upto_region 3 with (fail)
   go_cut [61] (fun v61 wc => ∃ (kq : Nat) (x61_12 : Bool), v61 = .bool x61_12 ∧ Aside0 (spec_spGood.j1 kq x61_12 a0_0 a0_1 a0_2 a0_3 l0_4 a0_5 l0_6 = some r) ∧ Aside0 (kq ≤ kj1) ∧ Aside0 (wc.heap[gb494]? = some (.cells #[.int .i64 a0_0, .int .i64 a0_1, .int .i64 a0_2, .int .i64 a0_3, (.slice A0_4 l0_4.length c0_4), .int .i64 a0_5, (.slice A0_6 l0_6.length c0_6)] 28 (0, 0))) ∧ Aside0 (Below w.heap.size w wc))
   case first =>
    have H := HC13.out
    clear HC13
    replace H := Option.bind_eq_some_iff.mp H
    obtain ⟨t498, A140, H⟩ := H
    try dsimp only at H
    have A14 := Aside0.mk A140
    clear A140
    by_cases c15 : t498 = true
    ·
     subst c15
     rw [if_pos rfl] at H
     replace H := Option.bind_eq_some_iff.mp H
     obtain ⟨t499, A160, H⟩ := H
     try dsimp only at H
     have A16 := Aside0.mk A160
     clear A160
     by_cases c17 : t499 = true
     ·
      subst c17
      rw [if_pos rfl] at H
      by_cases c18 : a0_3 = (wrap64 (a0_0 * a0_2))
      ·
       rw [if_pos c18] at H
       have c18b0 : (a0_3 == (wrap64 (a0_0 * a0_2))) = true := beq_iff_eq.mpr c18
       have c18b1 : (a0_3 != (wrap64 (a0_0 * a0_2))) = false := bne_eq_false_iff_eq.mpr c18
       clear c18
       (first | rw [c18b0] | (simp only [i64_w, i32_w]; rw [c18b0]) | skip)
       by_cases c19 : 0 ≤ a0_2
       ·
        rw [if_pos c19] at H
        have c19b0 := eq_true c19
        have c19b1 : decide (0 ≤ a0_2) = true := decide_eq_true c19
        clear c19
        obtain ⟨ji20, hji20⟩ : ∃ j_ : Int, (shr .i64 (wrap64 (a0_1 - 1)) a0_2) = j_ := ⟨_, rfl⟩
        replace H : (spec_spGood.j1 kj1 (a0_5 != (wrap64 ((wrap64 (a0_0 + (ji20))) + 1))) a0_0 a0_1 a0_2 a0_3 l0_4 a0_5 l0_6) = some r := by first | (rw [hji20] at H; exact H) | (simp only [hji20] at H ⊢; exact H)
        (try rw [hji20] at A14)
        (try rw [hji20] at A16)
        have hji20_ : ((wrap64 (a0_1 - 1)) / 2 ^ min a0_2.toNat 64) = ji20 := hji20
        have hji20z : a0_2 ≤ 64 → ((wrap64 (a0_1 - 1)) / 2 ^ a0_2.toNat) = ji20 := shr_small hji20
        have H' := Aside0.mk H
        clear H
        try go_wp2
        replace BK494 := Aside0.mk (blk_drew BK494.out)
        replace HB := Aside0.mk (below_drew1 HB.out)
        refine start_ (n := 37) (S := fun w' => w'.cell? ⟨gb494, 0, none⟩ = some (.int .i64 a0_0) ∧ w'.cell? ⟨gb494, 1, none⟩ = some (.int .i64 a0_1) ∧ w'.cell? ⟨gb494, 2, none⟩ = some (.int .i64 a0_2) ∧ w'.cell? ⟨gb494, 3, none⟩ = some (.int .i64 a0_3) ∧ w'.cell? ⟨gb494, 4, none⟩ = some (.slice A0_4 l0_4.length c0_4) ∧ w'.cell? ⟨gb494, 5, none⟩ = some (.int .i64 a0_5) ∧ w'.cell? ⟨gb494, 6, none⟩ = some (.slice A0_6 l0_6.length c0_6)) (ds := []) (bA 37 0) Z92 rfl rfl ⟨bc BK494 0, bc BK494 1, bc BK494 2, bc BK494 3, bc BK494 4, bc BK494 5, bc BK494 6⟩ (fun hHeld => ?_); refine with_tabW spec_spGood.tab3 spec_spGood.bits3 (fun HT_ HW_ => ?_)
        generalize wc.drew = w21 at BK494 HB hHeld ⊢
        refine pS 0 25 (bA 37 1) ?_
        refine tS7 1 26 (bA 37 3) hHeld ?_
        refine one_ (i := 2) (N := some 27) (bA 37 7) rfl rfl (one_of HT_.out Z92) Z19 (fun K hK => ?_)
        refine goes_ Try.func62 Z92 rfl #[.agg #[.int .i64 a0_3, .slice A0_4 l0_4.length c0_4]] Z63 rfl rfl Z89 ?_
        with_reducible refine (spec_biGood.calls kj1 a0_3 _ _ l0_4 true _ ?side1 ?side2 A14.out).mono ?_
        (case side1 => exact uC HR0_4 HB)
        (case side2 => exact HC0_4.out)
        rintro e w22 ⟨rfl, hb⟩
        refine ⟨_, rfl, ?_⟩
        replace BK494 := kB BK494 hb
        replace HB := Aside0.mk (below_step Z14 hb)
        (try clear hb)
        (try clear hb2)
        (try clear hk)
        (try clear hi)
        refine hK.out _ _ ⟨bc BK494 0, bc BK494 1, bc BK494 2, bc BK494 3, bc BK494 4, bc BK494 5, bc BK494 6⟩ (fun hHeld => ?_)
        clear hK K
        refine norm_ (a' := ?_) ?_ ?_
        rotate_left
        ·
         show Act.put _ (some 27) _ = _
         simp only [Act.put, setIfInBounds_toArray, set_cons_zero, set_cons_succ, i64_w, i32_w]
         rfl
        refine pS 3 28 (bA 37 15) ?_
        refine pS 4 29 (bA 37 31) ?_
        refine pS 5 30 (bA 37 63) ?_
        refine tS7 6 31 (bA 37 127) hHeld ?_
        refine one_ (i := 7) (N := some 32) (bA 37 255) rfl rfl (one_of HT_.out Z92) Z19 (fun K hK => ?_)
        refine goes_ Try.func62 Z92 rfl #[.agg #[.int .i64 a0_5, .slice A0_6 l0_6.length c0_6]] Z63 rfl rfl Z89 ?_
        with_reducible refine (spec_biGood.calls kj1 a0_5 _ _ l0_6 true _ ?side1 ?side2 A16.out).mono ?_
        (case side1 => exact uC HR0_6 HB)
        (case side2 => exact HC0_6.out)
        rintro e w23 ⟨rfl, hb⟩
        refine ⟨_, rfl, ?_⟩
        replace BK494 := kB BK494 hb
        replace HB := Aside0.mk (below_step Z14 hb)
        (try clear hb)
        (try clear hb2)
        (try clear hk)
        (try clear hi)
        refine hK.out _ _ ⟨bc BK494 0, bc BK494 1, bc BK494 2, bc BK494 3, bc BK494 4, bc BK494 5, bc BK494 6⟩ (fun hHeld => ?_)
        clear hK K
        refine norm_ (a' := ?_) ?_ ?_
        rotate_left
        ·
         show Act.put _ (some 32) _ = _
         simp only [Act.put, setIfInBounds_toArray, set_cons_zero, set_cons_succ, i64_w, i32_w]
         rfl
        refine pS 8 33 (bA 37 511) ?_
        refine pS 9 34 (bA 37 1023) ?_
        refine pS 10 35 (bA 37 2047) ?_
        refine pS 11 36 (bA 37 4095) ?_
        refine pS 12 37 (bA 37 8191) ?_
        refine pS 14 39 (bA 37 24575) ?_
        refine pS 16 41 (bA 37 90111) ?_
        refine tS7 13 38 (bA 37 98303) hHeld ?_
        refine tS7 15 40 (bA 37 131071) hHeld ?_
        refine tS7 17 42 (bA 37 262143) hHeld ?_
        refine pS 18 43 (bA 37 524287) ?_
        refine pS 19 44 (bA 37 1048575) ?_
        refine pS 20 45 (bA 37 2097151) ?_
        refine pS 21 46 (bA 37 4194303) ?_
        refine pS 22 47 (bA 37 8388607) ?_
        refine pS 23 48 (bA 37 16777215) ?_
        refine pS 25 50 (bA 37 50331647) ?_
        refine pS 27 52 (bA 37 184549375) ?_
        refine pS 30 55 (bA 37 1258291199) ?_
        refine tS7 24 49 (bA 37 1275068415) hHeld ?_
        refine tS7 26 51 (bA 37 1342177279) hHeld ?_
        refine tS7 28 53 (bA 37 1610612735) hHeld ?_
        refine pS 29 54 (bA 37 2147483647) ?_
        refine tS7 31 56 (bA 37 4294967295) hHeld ?_
        refine pS 32 57 (bA 37 8589934591) ?_
        refine pS 33 58 (bA 37 17179869183) ?_
        refine pS 34 59 (bA 37 34359738367) ?_
        refine pS 35 60 (bA 37 68719476735) ?_
        refine pS 36 61 (bA 37 137438953471) ?_
        refine done_ (done_of HT_.out Z92) ?_
        try go_wp2
        go_meet
        case rel => exact ⟨_, ((a0_5 != (wrap64 ((wrap64 (a0_0 + (ji20))) + 1)))), (by first | rfl | (simp; done) | (simp only [← hji20] <;> (first | rfl | simp)) | (simp [*]; done)), H', ⟨by have := HJ1.out; first | omega | exact Nat.le_refl _⟩, ⟨by refine uW ?_; exact BK494.out⟩, ⟨Z14⟩⟩
       rw [if_neg c19] at H
       exact absurd H Z37
      rw [if_neg c18] at H
      have c18b0 : (a0_3 == (wrap64 (a0_0 * a0_2))) = false := beq_eq_false_iff_ne.mpr c18
      have c18b1 : (a0_3 != (wrap64 (a0_0 * a0_2))) = true := bne_iff_ne.mpr c18
      (first | rw [c18b0] | (simp only [i64_w, i32_w]; rw [c18b0]) | skip)
      have H' := Aside0.mk H
      clear H
      try go_wp2
      replace BK494 := Aside0.mk (blk_drew BK494.out)
      replace HB := Aside0.mk (below_drew1 HB.out)
      refine start_ (n := 37) (S := fun w' => w'.cell? ⟨gb494, 0, none⟩ = some (.int .i64 a0_0) ∧ w'.cell? ⟨gb494, 1, none⟩ = some (.int .i64 a0_1) ∧ w'.cell? ⟨gb494, 2, none⟩ = some (.int .i64 a0_2) ∧ w'.cell? ⟨gb494, 3, none⟩ = some (.int .i64 a0_3) ∧ w'.cell? ⟨gb494, 4, none⟩ = some (.slice A0_4 l0_4.length c0_4) ∧ w'.cell? ⟨gb494, 5, none⟩ = some (.int .i64 a0_5) ∧ w'.cell? ⟨gb494, 6, none⟩ = some (.slice A0_6 l0_6.length c0_6)) (ds := []) (bA 37 0) Z92 rfl rfl ⟨bc BK494 0, bc BK494 1, bc BK494 2, bc BK494 3, bc BK494 4, bc BK494 5, bc BK494 6⟩ (fun hHeld => ?_); refine with_tabW spec_spGood.tab3 spec_spGood.bits3 (fun HT_ HW_ => ?_)
      generalize wc.drew = w24 at BK494 HB hHeld ⊢
      refine pS 0 25 (bA 37 1) ?_
      refine tS7 1 26 (bA 37 3) hHeld ?_
      refine one_ (i := 2) (N := some 27) (bA 37 7) rfl rfl (one_of HT_.out Z92) Z19 (fun K hK => ?_)
      refine goes_ Try.func62 Z92 rfl #[.agg #[.int .i64 a0_3, .slice A0_4 l0_4.length c0_4]] Z63 rfl rfl Z89 ?_
      with_reducible refine (spec_biGood.calls kj1 a0_3 _ _ l0_4 true _ ?side1 ?side2 A14.out).mono ?_
      (case side1 => exact uC HR0_4 HB)
      (case side2 => exact HC0_4.out)
      rintro e w25 ⟨rfl, hb⟩
      refine ⟨_, rfl, ?_⟩
      replace BK494 := kB BK494 hb
      replace HB := Aside0.mk (below_step Z14 hb)
      (try clear hb)
      (try clear hb2)
      (try clear hk)
      (try clear hi)
      refine hK.out _ _ ⟨bc BK494 0, bc BK494 1, bc BK494 2, bc BK494 3, bc BK494 4, bc BK494 5, bc BK494 6⟩ (fun hHeld => ?_)
      clear hK K
      refine norm_ (a' := ?_) ?_ ?_
      rotate_left
      ·
       show Act.put _ (some 27) _ = _
       simp only [Act.put, setIfInBounds_toArray, set_cons_zero, set_cons_succ, i64_w, i32_w]
       rfl
      refine pS 3 28 (bA 37 15) ?_
      refine pS 4 29 (bA 37 31) ?_
      refine pS 5 30 (bA 37 63) ?_
      refine tS7 6 31 (bA 37 127) hHeld ?_
      refine one_ (i := 7) (N := some 32) (bA 37 255) rfl rfl (one_of HT_.out Z92) Z19 (fun K hK => ?_)
      refine goes_ Try.func62 Z92 rfl #[.agg #[.int .i64 a0_5, .slice A0_6 l0_6.length c0_6]] Z63 rfl rfl Z89 ?_
      with_reducible refine (spec_biGood.calls kj1 a0_5 _ _ l0_6 true _ ?side1 ?side2 A16.out).mono ?_
      (case side1 => exact uC HR0_6 HB)
      (case side2 => exact HC0_6.out)
      rintro e w26 ⟨rfl, hb⟩
      refine ⟨_, rfl, ?_⟩
      replace BK494 := kB BK494 hb
      replace HB := Aside0.mk (below_step Z14 hb)
      (try clear hb)
      (try clear hb2)
      (try clear hk)
      (try clear hi)
      refine hK.out _ _ ⟨bc BK494 0, bc BK494 1, bc BK494 2, bc BK494 3, bc BK494 4, bc BK494 5, bc BK494 6⟩ (fun hHeld => ?_)
      clear hK K
      refine norm_ (a' := ?_) ?_ ?_
      rotate_left
      ·
       show Act.put _ (some 32) _ = _
       simp only [Act.put, setIfInBounds_toArray, set_cons_zero, set_cons_succ, i64_w, i32_w]
       rfl
      refine pS 8 33 (bA 37 511) ?_
      refine pS 9 34 (bA 37 1023) ?_
      refine pS 10 35 (bA 37 2047) ?_
      refine pS 11 36 (bA 37 4095) ?_
      refine pS 12 37 (bA 37 8191) ?_
      refine pS 14 39 (bA 37 24575) ?_
      refine pS 16 41 (bA 37 90111) ?_
      refine tS7 13 38 (bA 37 98303) hHeld ?_
      refine tS7 15 40 (bA 37 131071) hHeld ?_
      refine tS7 17 42 (bA 37 262143) hHeld ?_
      refine pS 18 43 (bA 37 524287) ?_
      refine pS 19 44 (bA 37 1048575) ?_
      refine pS 20 45 (bA 37 2097151) ?_
      refine pS 21 46 (bA 37 4194303) ?_
      refine pU 22 47 (bA 37 8388607) ?_
      refine pU 23 48 (bA 37 16777215) ?_
      refine pU 24 49 (bA 37 33554431) ?_
      refine pU 25 50 (bA 37 67108863) ?_
      refine pU 26 51 (bA 37 134217727) ?_
      refine pU 27 52 (bA 37 268435455) ?_
      refine pU 28 53 (bA 37 536870911) ?_
      refine pU 29 54 (bA 37 1073741823) ?_
      refine pU 30 55 (bA 37 2147483647) ?_
      refine pU 31 56 (bA 37 4294967295) ?_
      refine pU 32 57 (bA 37 8589934591) ?_
      refine pU 33 58 (bA 37 17179869183) ?_
      refine pU 34 59 (bA 37 34359738367) ?_
      refine pU 35 60 (bA 37 68719476735) ?_
      refine pS 36 61 (bA 37 137438953471) ?_
      refine done_ (done_of HT_.out Z92) ?_
      try go_wp2
      go_meet
      case rel => exact ⟨_, (true), Z91, H', ⟨by have := HJ1.out; first | omega | exact Nat.le_refl _⟩, ⟨by refine uW ?_; exact BK494.out⟩, ⟨Z14⟩⟩
     replace c17 := Bool.eq_false_iff.mpr c17
     subst c17
     rw [if_neg (show ¬ (false = true) from Z19)] at H
     have H' := Aside0.mk H
     clear H
     try go_wp2
     replace BK494 := Aside0.mk (blk_drew BK494.out)
     replace HB := Aside0.mk (below_drew1 HB.out)
     refine start_ (n := 37) (S := fun w' => w'.cell? ⟨gb494, 0, none⟩ = some (.int .i64 a0_0) ∧ w'.cell? ⟨gb494, 1, none⟩ = some (.int .i64 a0_1) ∧ w'.cell? ⟨gb494, 2, none⟩ = some (.int .i64 a0_2) ∧ w'.cell? ⟨gb494, 3, none⟩ = some (.int .i64 a0_3) ∧ w'.cell? ⟨gb494, 4, none⟩ = some (.slice A0_4 l0_4.length c0_4) ∧ w'.cell? ⟨gb494, 5, none⟩ = some (.int .i64 a0_5) ∧ w'.cell? ⟨gb494, 6, none⟩ = some (.slice A0_6 l0_6.length c0_6)) (ds := []) (bA 37 0) Z92 rfl rfl ⟨bc BK494 0, bc BK494 1, bc BK494 2, bc BK494 3, bc BK494 4, bc BK494 5, bc BK494 6⟩ (fun hHeld => ?_); refine with_tabW spec_spGood.tab3 spec_spGood.bits3 (fun HT_ HW_ => ?_)
     generalize wc.drew = w27 at BK494 HB hHeld ⊢
     refine pS 0 25 (bA 37 1) ?_
     refine tS7 1 26 (bA 37 3) hHeld ?_
     refine one_ (i := 2) (N := some 27) (bA 37 7) rfl rfl (one_of HT_.out Z92) Z19 (fun K hK => ?_)
     refine goes_ Try.func62 Z92 rfl #[.agg #[.int .i64 a0_3, .slice A0_4 l0_4.length c0_4]] Z63 rfl rfl Z89 ?_
     with_reducible refine (spec_biGood.calls kj1 a0_3 _ _ l0_4 true _ ?side1 ?side2 A14.out).mono ?_
     (case side1 => exact uC HR0_4 HB)
     (case side2 => exact HC0_4.out)
     rintro e w28 ⟨rfl, hb⟩
     refine ⟨_, rfl, ?_⟩
     replace BK494 := kB BK494 hb
     replace HB := Aside0.mk (below_step Z14 hb)
     (try clear hb)
     (try clear hb2)
     (try clear hk)
     (try clear hi)
     refine hK.out _ _ ⟨bc BK494 0, bc BK494 1, bc BK494 2, bc BK494 3, bc BK494 4, bc BK494 5, bc BK494 6⟩ (fun hHeld => ?_)
     clear hK K
     refine norm_ (a' := ?_) ?_ ?_
     rotate_left
     ·
      show Act.put _ (some 27) _ = _
      simp only [Act.put, setIfInBounds_toArray, set_cons_zero, set_cons_succ, i64_w, i32_w]
      rfl
     refine pS 3 28 (bA 37 15) ?_
     refine pS 4 29 (bA 37 31) ?_
     refine pS 5 30 (bA 37 63) ?_
     refine tS7 6 31 (bA 37 127) hHeld ?_
     refine one_ (i := 7) (N := some 32) (bA 37 255) rfl rfl (one_of HT_.out Z92) Z19 (fun K hK => ?_)
     refine goes_ Try.func62 Z92 rfl #[.agg #[.int .i64 a0_5, .slice A0_6 l0_6.length c0_6]] Z63 rfl rfl Z89 ?_
     with_reducible refine (spec_biGood.calls kj1 a0_5 _ _ l0_6 false _ ?side1 ?side2 A16.out).mono ?_
     (case side1 => exact uC HR0_6 HB)
     (case side2 => exact HC0_6.out)
     rintro e w29 ⟨rfl, hb⟩
     refine ⟨_, rfl, ?_⟩
     replace BK494 := kB BK494 hb
     replace HB := Aside0.mk (below_step Z14 hb)
     (try clear hb)
     (try clear hb2)
     (try clear hk)
     (try clear hi)
     refine hK.out _ _ ⟨bc BK494 0, bc BK494 1, bc BK494 2, bc BK494 3, bc BK494 4, bc BK494 5, bc BK494 6⟩ (fun hHeld => ?_)
     clear hK K
     refine norm_ (a' := ?_) ?_ ?_
     rotate_left
     ·
      show Act.put _ (some 32) _ = _
      simp only [Act.put, setIfInBounds_toArray, set_cons_zero, set_cons_succ, i64_w, i32_w]
      rfl
     refine pS 8 33 (bA 37 511) ?_
     refine pS 9 34 (bA 37 1023) ?_
     refine pS 10 35 (bA 37 2047) ?_
     refine pU 11 36 (bA 37 4095) ?_
     refine pU 12 37 (bA 37 8191) ?_
     refine pU 13 38 (bA 37 16383) ?_
     refine pU 14 39 (bA 37 32767) ?_
     refine pU 15 40 (bA 37 65535) ?_
     refine pU 16 41 (bA 37 131071) ?_
     refine pU 17 42 (bA 37 262143) ?_
     refine pU 18 43 (bA 37 524287) ?_
     refine pU 19 44 (bA 37 1048575) ?_
     refine pS 20 45 (bA 37 2097151) ?_
     refine pS 21 46 (bA 37 4194303) ?_
     refine pU 22 47 (bA 37 8388607) ?_
     refine pU 23 48 (bA 37 16777215) ?_
     refine pU 24 49 (bA 37 33554431) ?_
     refine pU 25 50 (bA 37 67108863) ?_
     refine pU 26 51 (bA 37 134217727) ?_
     refine pU 27 52 (bA 37 268435455) ?_
     refine pU 28 53 (bA 37 536870911) ?_
     refine pU 29 54 (bA 37 1073741823) ?_
     refine pU 30 55 (bA 37 2147483647) ?_
     refine pU 31 56 (bA 37 4294967295) ?_
     refine pU 32 57 (bA 37 8589934591) ?_
     refine pU 33 58 (bA 37 17179869183) ?_
     refine pU 34 59 (bA 37 34359738367) ?_
     refine pU 35 60 (bA 37 68719476735) ?_
     refine pS 36 61 (bA 37 137438953471) ?_
     refine done_ (done_of HT_.out Z92) ?_
     try go_wp2
     go_meet
     case rel => exact ⟨_, (true), Z91, H', ⟨by have := HJ1.out; first | omega | exact Nat.le_refl _⟩, ⟨by refine uW ?_; exact BK494.out⟩, ⟨Z14⟩⟩
    replace c15 := Bool.eq_false_iff.mpr c15
    subst c15
    rw [if_neg (show ¬ (false = true) from Z19)] at H
    have H' := Aside0.mk H
    clear H
    try go_wp2
    replace BK494 := Aside0.mk (blk_drew BK494.out)
    replace HB := Aside0.mk (below_drew1 HB.out)
    refine start_ (n := 37) (S := fun w' => w'.cell? ⟨gb494, 0, none⟩ = some (.int .i64 a0_0) ∧ w'.cell? ⟨gb494, 1, none⟩ = some (.int .i64 a0_1) ∧ w'.cell? ⟨gb494, 2, none⟩ = some (.int .i64 a0_2) ∧ w'.cell? ⟨gb494, 3, none⟩ = some (.int .i64 a0_3) ∧ w'.cell? ⟨gb494, 4, none⟩ = some (.slice A0_4 l0_4.length c0_4) ∧ w'.cell? ⟨gb494, 5, none⟩ = some (.int .i64 a0_5) ∧ w'.cell? ⟨gb494, 6, none⟩ = some (.slice A0_6 l0_6.length c0_6)) (ds := []) (bA 37 0) Z92 rfl rfl ⟨bc BK494 0, bc BK494 1, bc BK494 2, bc BK494 3, bc BK494 4, bc BK494 5, bc BK494 6⟩ (fun hHeld => ?_); refine with_tabW spec_spGood.tab3 spec_spGood.bits3 (fun HT_ HW_ => ?_)
    generalize wc.drew = w30 at BK494 HB hHeld ⊢
    refine pS 0 25 (bA 37 1) ?_
    refine tS7 1 26 (bA 37 3) hHeld ?_
    refine one_ (i := 2) (N := some 27) (bA 37 7) rfl rfl (one_of HT_.out Z92) Z19 (fun K hK => ?_)
    refine goes_ Try.func62 Z92 rfl #[.agg #[.int .i64 a0_3, .slice A0_4 l0_4.length c0_4]] Z63 rfl rfl Z89 ?_
    with_reducible refine (spec_biGood.calls kj1 a0_3 _ _ l0_4 false _ ?side1 ?side2 A14.out).mono ?_
    (case side1 => exact uC HR0_4 HB)
    (case side2 => exact HC0_4.out)
    rintro e w31 ⟨rfl, hb⟩
    refine ⟨_, rfl, ?_⟩
    replace BK494 := kB BK494 hb
    replace HB := Aside0.mk (below_step Z14 hb)
    (try clear hb)
    (try clear hb2)
    (try clear hk)
    (try clear hi)
    refine hK.out _ _ ⟨bc BK494 0, bc BK494 1, bc BK494 2, bc BK494 3, bc BK494 4, bc BK494 5, bc BK494 6⟩ (fun hHeld => ?_)
    clear hK K
    refine norm_ (a' := ?_) ?_ ?_
    rotate_left
    ·
     show Act.put _ (some 27) _ = _
     simp only [Act.put, setIfInBounds_toArray, set_cons_zero, set_cons_succ, i64_w, i32_w]
     rfl
    refine pS 3 28 (bA 37 15) ?_
    refine pS 4 29 (bA 37 31) ?_
    refine pU 5 30 (bA 37 63) ?_
    refine pU 6 31 (bA 37 127) ?_
    refine pU 7 32 (bA 37 255) ?_
    refine pU 8 33 (bA 37 511) ?_
    refine pS 9 34 (bA 37 1023) ?_
    refine pS 10 35 (bA 37 2047) ?_
    refine pU 11 36 (bA 37 4095) ?_
    refine pU 12 37 (bA 37 8191) ?_
    refine pU 13 38 (bA 37 16383) ?_
    refine pU 14 39 (bA 37 32767) ?_
    refine pU 15 40 (bA 37 65535) ?_
    refine pU 16 41 (bA 37 131071) ?_
    refine pU 17 42 (bA 37 262143) ?_
    refine pU 18 43 (bA 37 524287) ?_
    refine pU 19 44 (bA 37 1048575) ?_
    refine pS 20 45 (bA 37 2097151) ?_
    refine pS 21 46 (bA 37 4194303) ?_
    refine pU 22 47 (bA 37 8388607) ?_
    refine pU 23 48 (bA 37 16777215) ?_
    refine pU 24 49 (bA 37 33554431) ?_
    refine pU 25 50 (bA 37 67108863) ?_
    refine pU 26 51 (bA 37 134217727) ?_
    refine pU 27 52 (bA 37 268435455) ?_
    refine pU 28 53 (bA 37 536870911) ?_
    refine pU 29 54 (bA 37 1073741823) ?_
    refine pU 30 55 (bA 37 2147483647) ?_
    refine pU 31 56 (bA 37 4294967295) ?_
    refine pU 32 57 (bA 37 8589934591) ?_
    refine pU 33 58 (bA 37 17179869183) ?_
    refine pU 34 59 (bA 37 34359738367) ?_
    refine pU 35 60 (bA 37 68719476735) ?_
    refine pS 36 61 (bA 37 137438953471) ?_
    refine done_ (done_of HT_.out Z92) ?_
    try go_wp2
    go_meet
    case rel => exact ⟨_, (true), Z91, H', ⟨by have := HJ1.out; first | omega | exact Nat.le_refl _⟩, ⟨by refine uW ?_; exact BK494.out⟩, ⟨Z14⟩⟩
   case rest =>
    clear HC13
    try clear c1
    try clear p2
    try clear c6
    try clear c15
    try clear c17
    obtain ⟨kq, x61_12, rfl, HA, HJ12, BK494, HB⟩ := hcut
    cases kq with
    | zero => exact absurd HA.out (by simp [spec_spGood.j1])
    | succ kj12 =>
     have H := HA.out
     clear HA
     simp only [spec_spGood.j1] at H
     by_cases c32 : x61_12 = true
     ·
      subst c32
      rw [if_pos rfl] at H
      obtain rfl := Option.some.inj H
      go_wp2
      go_ret
      exact ⟨Z90, Z14⟩
     replace c32 := Bool.eq_false_iff.mpr c32
     subst c32
     rw [if_neg (show ¬ (false = true) from Z19)] at H
     replace H := Option.bind_eq_some_iff.mp H
     obtain ⟨t500, A330, H⟩ := H
     try dsimp only at H
     have A33 := Aside0.mk A330
     clear A330
     have HC34 := Aside0.mk H
     clear H
     have hcz35_0 : wc.cell? ⟨gb494, 0, none⟩ = some (.int .i64 a0_0) := bc BK494 0
     have hcz35_1 : wc.cell? ⟨gb494, 1, none⟩ = some (.int .i64 a0_1) := bc BK494 1
     have hcz35_2 : wc.cell? ⟨gb494, 2, none⟩ = some (.int .i64 a0_2) := bc BK494 2
     have hcz35_3 : wc.cell? ⟨gb494, 3, none⟩ = some (.int .i64 a0_3) := bc BK494 3
     have hcz35_4 : wc.cell? ⟨gb494, 4, none⟩ = some (.slice A0_4 l0_4.length c0_4) := bc BK494 4
     have hcz35_5 : wc.cell? ⟨gb494, 5, none⟩ = some (.int .i64 a0_5) := bc BK494 5
     have hcz35_6 : wc.cell? ⟨gb494, 6, none⟩ = some (.slice A0_6 l0_6.length c0_6) := bc BK494 6
     have hfz35_0 := blk_frozen BK494.out 0
     have hfz35_1 := blk_frozen BK494.out 1
     have hfz35_2 := blk_frozen BK494.out 2
     have hfz35_3 := blk_frozen BK494.out 3
     have hfz35_4 := blk_frozen BK494.out 4
     have hfz35_5 := blk_frozen BK494.out 5
     have hfz35_6 := blk_frozen BK494.out 6
     go_upto_region 6 with (first | ((with_reducible refine gate_callee (f := 32) rfl ?_); refine goesL_ (some 63) rfl rfl Try.func32 Z92 rfl #[.agg #[.int .i64 a0_0, .int .i64 a0_1, .int .i64 a0_2, .int .i64 a0_3, .slice A0_4 l0_4.length c0_4, .int .i64 a0_5, .slice A0_6 l0_6.length c0_6]] rfl Z89 ?_; (with_reducible refine (spec_spList.calls kj12 a0_0 a0_1 a0_2 a0_3 _ _ l0_4 a0_5 _ _ l0_6 t500 _ ?side1 ?side2 ?side3 ?side4 A33.out).mono ?_); (case side1 => exact uC HR0_4 HB); (case side2 => exact HC0_4.out); (case side3 => exact uC HR0_6 HB); (case side4 => exact HC0_6.out); rintro e w36 ⟨v501, rfl, ho0, hb⟩; refine ⟨_, rfl, ?_⟩; have HO502 := Aside0.mk (Kd.R_lower ho0 (below_size Z14)); replace BK494 := kB BK494 hb; replace HB := Aside0.mk (below_step Z14 hb); (try clear hb); (try clear hb2); (try clear hk); (try clear hi); (try clear ho0)))
     (try simp only [Act.put, setIfInBounds_toArray, set_cons_zero, set_cons_succ])
     go_cut [75] (fun v75 wc => ∃ (kq : Nat) (x75_33 : Bool), v75 = .bool x75_33 ∧ Aside0 (spec_spGood.j2 kq t500 x75_33 a0_0 a0_1 a0_2 a0_3 l0_4 a0_5 l0_6 = some r) ∧ Aside0 (kq ≤ kj12) ∧ Aside0 (Kd.R (Kd.int .i64) 3 wc w.heap.size (fun _ => True) v501 t500) ∧ Aside0 (wc.heap[gb494]? = some (.cells #[.int .i64 a0_0, .int .i64 a0_1, .int .i64 a0_2, .int .i64 a0_3, (.slice A0_4 l0_4.length c0_4), .int .i64 a0_5, (.slice A0_6 l0_6.length c0_6)] 28 (0, 0))) ∧ Aside0 (Below w.heap.size w wc))
     case first =>
      have H := HC34.out
      clear HC34
      by_cases c37 : (t500.length : Int) = a0_0
      ·
       rw [if_pos c37] at H
       have c37b0 : ((t500.length : Int) == a0_0) = true := beq_iff_eq.mpr c37
       have c37b1 : ((t500.length : Int) != a0_0) = false := bne_eq_false_iff_eq.mpr c37
       clear c37
       (first | rw [c37b0] | (simp only [i64_w, i32_w]; rw [c37b0]) | skip)
       replace H := Option.bind_eq_some_iff.mp H
       obtain ⟨t503, A380, H⟩ := H
       try dsimp only at H
       have A38 := Aside0.mk A380
       clear A380
       have H' := Aside0.mk H
       clear H
       obtain ⟨Ao39, co39, eo39⟩ := Kd.R_slice HO502.out
       subst eo39
       have hcz40_0 : w36.cell? ⟨gb494, 0, none⟩ = some (.int .i64 a0_0) := bc BK494 0
       have hcz40_1 : w36.cell? ⟨gb494, 1, none⟩ = some (.int .i64 a0_1) := bc BK494 1
       have hcz40_2 : w36.cell? ⟨gb494, 2, none⟩ = some (.int .i64 a0_2) := bc BK494 2
       have hcz40_3 : w36.cell? ⟨gb494, 3, none⟩ = some (.int .i64 a0_3) := bc BK494 3
       have hcz40_4 : w36.cell? ⟨gb494, 4, none⟩ = some (.slice A0_4 l0_4.length c0_4) := bc BK494 4
       have hcz40_5 : w36.cell? ⟨gb494, 5, none⟩ = some (.int .i64 a0_5) := bc BK494 5
       have hcz40_6 : w36.cell? ⟨gb494, 6, none⟩ = some (.slice A0_6 l0_6.length c0_6) := bc BK494 6
       have hfz40_0 := blk_frozen BK494.out 0
       have hfz40_1 := blk_frozen BK494.out 1
       have hfz40_2 := blk_frozen BK494.out 2
       have hfz40_3 := blk_frozen BK494.out 3
       have hfz40_4 := blk_frozen BK494.out 4
       have hfz40_5 := blk_frozen BK494.out 5
       have hfz40_6 := blk_frozen BK494.out 6
       go_wp2_with (first | (go_at_call 43; (with_reducible refine (spec_spSorted.calls kj12 _ _ t500 a0_1 t503 _ ?side1 ?side2 A38.out).mono ?_); (case side1 => exact uD HO502); (case side2 => exact (Kd.R_reads' HO502.out).2.1); rintro e w' ⟨rfl, ⟨nd, rfl⟩⟩))
       go_meet
       case rel => exact ⟨_, (!t503), Z91, H', ⟨by have := HJ1.out; have := HJ12.out; first | omega | exact Nat.le_refl _⟩, ⟨Z86⟩, ⟨by refine uW ?_; exact BK494.out⟩, ⟨Z14⟩⟩
      rw [if_neg c37] at H
      have c37b0 : ((t500.length : Int) == a0_0) = false := beq_eq_false_iff_ne.mpr c37
      have c37b1 : ((t500.length : Int) != a0_0) = true := bne_iff_ne.mpr c37
      (first | rw [c37b0] | (simp only [i64_w, i32_w]; rw [c37b0]) | skip)
      have H' := Aside0.mk H
      clear H
      obtain ⟨Ao41, co41, eo41⟩ := Kd.R_slice HO502.out
      subst eo41
      have hcz42_0 : w36.cell? ⟨gb494, 0, none⟩ = some (.int .i64 a0_0) := bc BK494 0
      have hcz42_1 : w36.cell? ⟨gb494, 1, none⟩ = some (.int .i64 a0_1) := bc BK494 1
      have hcz42_2 : w36.cell? ⟨gb494, 2, none⟩ = some (.int .i64 a0_2) := bc BK494 2
      have hcz42_3 : w36.cell? ⟨gb494, 3, none⟩ = some (.int .i64 a0_3) := bc BK494 3
      have hcz42_4 : w36.cell? ⟨gb494, 4, none⟩ = some (.slice A0_4 l0_4.length c0_4) := bc BK494 4
      have hcz42_5 : w36.cell? ⟨gb494, 5, none⟩ = some (.int .i64 a0_5) := bc BK494 5
      have hcz42_6 : w36.cell? ⟨gb494, 6, none⟩ = some (.slice A0_6 l0_6.length c0_6) := bc BK494 6
      have hfz42_0 := blk_frozen BK494.out 0
      have hfz42_1 := blk_frozen BK494.out 1
      have hfz42_2 := blk_frozen BK494.out 2
      have hfz42_3 := blk_frozen BK494.out 3
      have hfz42_4 := blk_frozen BK494.out 4
      have hfz42_5 := blk_frozen BK494.out 5
      have hfz42_6 := blk_frozen BK494.out 6
      go_wp2
      go_meet
      case rel => exact ⟨_, (true), Z91, H', ⟨by have := HJ1.out; have := HJ12.out; first | omega | exact Nat.le_refl _⟩, ⟨Z86⟩, ⟨by refine uW ?_; exact BK494.out⟩, ⟨Z14⟩⟩
     case rest =>
      clear HC34
      try clear c1
      try clear p2
      try clear c3
      try clear c6
      try clear c15
      try clear c17
      try clear c32
      try clear c37
      try clear c37b0
      try clear c37b1
      try clear hcz35_0
      try clear hcz35_1
      try clear hcz35_2
      try clear hcz35_3
      try clear hcz35_4
      try clear hcz35_5
      try clear hcz35_6
      try clear hcz40_0
      try clear hcz40_1
      try clear hcz40_2
      try clear hcz40_3
      try clear hcz40_4
      try clear hcz40_5
      try clear hcz40_6
      try clear hcz42_0
      try clear hcz42_1
      try clear hcz42_2
      try clear hcz42_3
      try clear hcz42_4
      try clear hcz42_5
      try clear hcz42_6
      try clear hfz35_0
      try clear hfz35_1
      try clear hfz35_2
      try clear hfz35_3
      try clear hfz35_4
      try clear hfz35_5
      try clear hfz35_6
      try clear hfz40_0
      try clear hfz40_1
      try clear hfz40_2
      try clear hfz40_3
      try clear hfz40_4
      try clear hfz40_5
      try clear hfz40_6
      try clear hfz42_0
      try clear hfz42_1
      try clear hfz42_2
      try clear hfz42_3
      try clear hfz42_4
      try clear hfz42_5
      try clear hfz42_6
      try clear p2
      obtain ⟨kq, x75_33, rfl, HA, HJ33, HO_3, BK494, HB⟩ := hcut
      cases kq with
      | zero => exact absurd HA.out (by simp [spec_spGood.j2])
      | succ kj33 =>
       have H := HA.out
       clear HA
       simp only [spec_spGood.j2] at H
       by_cases c43 : x75_33 = true
       ·
        subst c43
        rw [if_pos rfl] at H
        obtain rfl := Option.some.inj H
        go_wp2
        go_ret
        exact ⟨Z90, Z14⟩
       replace c43 := Bool.eq_false_iff.mpr c43
       subst c43
       rw [if_neg (show ¬ (false = true) from Z19)] at H
       replace H := Option.bind_eq_some_iff.mp H
       obtain ⟨⟨t504, t505, t506, t507, t508, t511, t512⟩, A440, H⟩ := H
       try dsimp only at H
       have A44 := Aside0.mk A440
       clear A440
       replace H := Option.bind_eq_some_iff.mp H
       obtain ⟨t516, A450, H⟩ := H
       try dsimp only at H
       have A45 := Aside0.mk A450
       clear A450
       by_cases c46 : t516 = true
       ·
        subst c46
        rw [if_pos rfl] at H
        replace H := Option.bind_eq_some_iff.mp H
        obtain ⟨t517, A470, H⟩ := H
        try dsimp only at H
        have A47 := Aside0.mk A470
        clear A470
        obtain rfl := Option.some.inj H
        have hcz48_0 : wc.cell? ⟨gb494, 0, none⟩ = some (.int .i64 a0_0) := bc BK494 0
        have hcz48_1 : wc.cell? ⟨gb494, 1, none⟩ = some (.int .i64 a0_1) := bc BK494 1
        have hcz48_2 : wc.cell? ⟨gb494, 2, none⟩ = some (.int .i64 a0_2) := bc BK494 2
        have hcz48_3 : wc.cell? ⟨gb494, 3, none⟩ = some (.int .i64 a0_3) := bc BK494 3
        have hcz48_4 : wc.cell? ⟨gb494, 4, none⟩ = some (.slice A0_4 l0_4.length c0_4) := bc BK494 4
        have hcz48_5 : wc.cell? ⟨gb494, 5, none⟩ = some (.int .i64 a0_5) := bc BK494 5
        have hcz48_6 : wc.cell? ⟨gb494, 6, none⟩ = some (.slice A0_6 l0_6.length c0_6) := bc BK494 6
        have hfz48_0 := blk_frozen BK494.out 0
        have hfz48_1 := blk_frozen BK494.out 1
        have hfz48_2 := blk_frozen BK494.out 2
        have hfz48_3 := blk_frozen BK494.out 3
        have hfz48_4 := blk_frozen BK494.out 4
        have hfz48_5 := blk_frozen BK494.out 5
        have hfz48_6 := blk_frozen BK494.out 6
        obtain ⟨Ao49, co49, eo49⟩ := Kd.R_slice HO_3.out
        subst eo49
        go_wp2_with (first | ((with_reducible refine gate_callee (f := 31) rfl ?_); refine goesL_ (some 79) rfl rfl Try.func31 Z92 rfl #[.slice Ao49 t500.length co49, .int .i64 a0_1] rfl Z89 ?_; (with_reducible refine (spec_spOf.calls kj33 _ _ t500 a0_1 t504 t505 t506 t507 t508 t511 t512 _ ?side1 ?side2 A44.out).mono ?_); (case side1 => exact uD HO_3); (case side2 => exact (Kd.R_reads' HO_3.out).2.1); rintro e w50 ⟨v509, v513, rfl, ho0, ho1, hb⟩; refine ⟨_, rfl, ?_⟩; have HO510 := Aside0.mk (Kd.R_lower (Kd.R_new' ho0 (Kd.R_lt (uR HO_3))) (below_size Z14)); have HO514 := Aside0.mk (Kd.R_lower (Kd.R_new' ho1 (Kd.R_lt (uR HO_3))) (below_size Z14)); replace HO_3 := Aside0.mk (Kd.R_mono (Kd.R_told (Kd.R_told (Kd.R_old (uR HO_3) hb) (Kd.R_base ho0)) (Kd.R_base ho1)) (fun _ h_ => h_.1)); replace BK494 := kB BK494 hb; replace HB := Aside0.mk (below_step Z14 hb); (try clear hb); (try clear hb2); (try clear hk); (try clear hi); (try clear ho0); (try clear ho1)) | ((with_reducible refine gate_dst (N := 4) rfl ?_); refine box_event ?hg (N := 4) ?hd (cs := #[.int .i64 0, .int .i64 0, .int .i64 0, .int .i64 0, .slice none 0 0, .int .i64 0, .slice none 0 0]) (t := 28) ?hr ?_; (case hd => rfl); (case hg => rfl); (case hr => exact Z93); intro gb515 hg w51 hbox hb; replace HO_3 := Aside0.mk (Kd.R_below (uR HO_3) hb); replace HO510 := Aside0.mk (Kd.R_below (uR HO510) hb); replace HO514 := Aside0.mk (Kd.R_below (uR HO514) hb); have BK515 := Aside0.mk (hbox); have GW515 := Aside0.mk ((by rw [hg]; exact (below_size Z14) : w.heap.size ≤ gb515)); have GE515 := Aside0.mk ((by rw [hg]; exact (below_size Z14) : w.heap.size ≤ gb515)); replace HB := Aside0.mk (below_step Z14 hb); have NB494_515 := nL BK494 hg; have NB515_494 := nR BK494 hg; replace BK494 := kB BK494 hb; clear hb hbox hg; have hnb52 := NB515_494.out; have hnc52 := NB494_515.out; have hcz53_0 : w51.cell? ⟨gb515, 0, none⟩ = some (.int .i64 0) := bc BK515 0; have hcz53_1 : w51.cell? ⟨gb515, 1, none⟩ = some (.int .i64 0) := bc BK515 1; have hcz53_2 : w51.cell? ⟨gb515, 2, none⟩ = some (.int .i64 0) := bc BK515 2; have hcz53_3 : w51.cell? ⟨gb515, 3, none⟩ = some (.int .i64 0) := bc BK515 3; have hcz53_4 : w51.cell? ⟨gb515, 4, none⟩ = some (.slice none 0 0) := bc BK515 4; have hcz53_5 : w51.cell? ⟨gb515, 5, none⟩ = some (.int .i64 0) := bc BK515 5; have hcz53_6 : w51.cell? ⟨gb515, 6, none⟩ = some (.slice none 0 0) := bc BK515 6; have hfz53_0 := blk_frozen BK515.out 0; have hfz53_1 := blk_frozen BK515.out 1; have hfz53_2 := blk_frozen BK515.out 2; have hfz53_3 := blk_frozen BK515.out 3; have hfz53_4 := blk_frozen BK515.out 4; have hfz53_5 := blk_frozen BK515.out 5; have hfz53_6 := blk_frozen BK515.out 6; obtain ⟨Ao54, co54, eo54⟩ := Kd.R_slice HO510.out; subst eo54; obtain ⟨Ao55, co55, eo55⟩ := Kd.R_slice HO514.out; subst eo55; have hcz56_0 : w51.cell? ⟨gb494, 0, none⟩ = some (.int .i64 a0_0) := bc BK494 0; have hcz56_1 : w51.cell? ⟨gb494, 1, none⟩ = some (.int .i64 a0_1) := bc BK494 1; have hcz56_2 : w51.cell? ⟨gb494, 2, none⟩ = some (.int .i64 a0_2) := bc BK494 2; have hcz56_3 : w51.cell? ⟨gb494, 3, none⟩ = some (.int .i64 a0_3) := bc BK494 3; have hcz56_4 : w51.cell? ⟨gb494, 4, none⟩ = some (.slice A0_4 l0_4.length c0_4) := bc BK494 4; have hcz56_5 : w51.cell? ⟨gb494, 5, none⟩ = some (.int .i64 a0_5) := bc BK494 5; have hcz56_6 : w51.cell? ⟨gb494, 6, none⟩ = some (.slice A0_6 l0_6.length c0_6) := bc BK494 6; have hfz56_0 := blk_frozen BK494.out 0; have hfz56_1 := blk_frozen BK494.out 1; have hfz56_2 := blk_frozen BK494.out 2; have hfz56_3 := blk_frozen BK494.out 3; have hfz56_4 := blk_frozen BK494.out 4; have hfz56_5 := blk_frozen BK494.out 5; have hfz56_6 := blk_frozen BK494.out 6) | ((with_reducible refine gate_callee (f := 63) rfl ?_); refine goesL_ (some 84) rfl rfl Try.func63 Z92 rfl #[.agg #[.int .i64 a0_3, .slice A0_4 l0_4.length c0_4], .agg #[.int .i64 t507, .slice Ao54 t508.length co54]] rfl Z89 ?_; (with_reducible refine (spec_biSame.calls kj33 a0_3 _ _ l0_4 t507 _ _ t508 true _ ?side1 ?side2 ?side3 ?side4 A45.out).mono ?_); (case side1 => exact Kd.C_below HR0_4.out Z33); (case side2 => exact HC0_4.out); (case side3 => refine (Kd.R_reads' (e := 3) (base := w.heap.size) (ok := fun k_ => (some k_ ≠ (.slice Ao55 t512.length co55 : Value).ownBlock ∧ some k_ ≠ (.slice Ao49 t500.length co49 : Value).ownBlock)) (n := t508.length) (c := co54) ?_).2.2; exact (fS HO510 BK515 Z19)); (case side4 => exact (Kd.R_reads' HO510.out).2.1); rintro e w57 ⟨rfl, hb⟩; refine ⟨_, rfl, ?_⟩; replace HO_3 := Aside0.mk (Kd.R_below (fS HO_3 BK515 Z19) hb); replace HO510 := Aside0.mk (Kd.R_below (fS HO510 BK515 Z19) hb); replace HO514 := Aside0.mk (Kd.R_below (fS HO514 BK515 Z19) hb); replace BK494 := Aside0.mk (blk_below (g := gb494) (o := .cells #[.int .i64 a0_0, .int .i64 a0_1, .int .i64 a0_2, .int .i64 a0_3, .slice A0_4 l0_4.length c0_4, .int .i64 a0_5, .slice A0_6 l0_6.length c0_6] 28 (0, 0)) (by refine uW ?_; refine blk_far ?_ NB494_515.out _; refine uW ?_; refine blk_far ?_ NB494_515.out _; refine uW ?_; refine blk_far ?_ NB494_515.out _; refine uW ?_; refine blk_far ?_ NB494_515.out _; refine uW ?_; refine blk_far ?_ NB494_515.out _; refine uW ?_; refine blk_far ?_ NB494_515.out _; refine uW ?_; refine blk_far ?_ NB494_515.out _; refine uW ?_; exact BK494.out) hb); replace BK515 := Aside0.mk (blk_below (g := gb515) (o := .cells #[.int .i64 t504, .int .i64 t505, .int .i64 t506, .int .i64 t507, .slice Ao54 t508.length co54, .int .i64 t511, .slice Ao55 t512.length co55] 28 (0, 0)) (by refine uW ?_; refine blk_put (cs := #[.int .i64 t504, .int .i64 t505, .int .i64 t506, .int .i64 t507, .slice Ao54 t508.length co54, .int .i64 t511, .slice none 0 0]) ?_ 6 _ rfl; refine uW ?_; refine blk_put (cs := #[.int .i64 t504, .int .i64 t505, .int .i64 t506, .int .i64 t507, .slice Ao54 t508.length co54, .int .i64 0, .slice none 0 0]) ?_ 5 _ rfl; refine uW ?_; refine blk_put (cs := #[.int .i64 t504, .int .i64 t505, .int .i64 t506, .int .i64 t507, .slice none 0 0, .int .i64 0, .slice none 0 0]) ?_ 4 _ rfl; refine uW ?_; refine blk_put (cs := #[.int .i64 t504, .int .i64 t505, .int .i64 t506, .int .i64 0, .slice none 0 0, .int .i64 0, .slice none 0 0]) ?_ 3 _ rfl; refine uW ?_; refine blk_put (cs := #[.int .i64 t504, .int .i64 t505, .int .i64 0, .int .i64 0, .slice none 0 0, .int .i64 0, .slice none 0 0]) ?_ 2 _ rfl; refine uW ?_; refine blk_put (cs := #[.int .i64 t504, .int .i64 0, .int .i64 0, .int .i64 0, .slice none 0 0, .int .i64 0, .slice none 0 0]) ?_ 1 _ rfl; refine uW ?_; refine blk_put (cs := #[.int .i64 0, .int .i64 0, .int .i64 0, .int .i64 0, .slice none 0 0, .int .i64 0, .slice none 0 0]) ?_ 0 _ rfl; refine uW ?_; exact BK515.out) hb); replace HB := Aside0.mk (below_step Z33 hb); (try clear hb); (try clear hb2); (try clear hk); (try clear hi); have hcz58_0 : w57.cell? ⟨gb494, 0, none⟩ = some (.int .i64 a0_0) := bc BK494 0; have hcz58_1 : w57.cell? ⟨gb494, 1, none⟩ = some (.int .i64 a0_1) := bc BK494 1; have hcz58_2 : w57.cell? ⟨gb494, 2, none⟩ = some (.int .i64 a0_2) := bc BK494 2; have hcz58_3 : w57.cell? ⟨gb494, 3, none⟩ = some (.int .i64 a0_3) := bc BK494 3; have hcz58_4 : w57.cell? ⟨gb494, 4, none⟩ = some (.slice A0_4 l0_4.length c0_4) := bc BK494 4; have hcz58_5 : w57.cell? ⟨gb494, 5, none⟩ = some (.int .i64 a0_5) := bc BK494 5; have hcz58_6 : w57.cell? ⟨gb494, 6, none⟩ = some (.slice A0_6 l0_6.length c0_6) := bc BK494 6; have hfz58_0 := blk_frozen BK494.out 0; have hfz58_1 := blk_frozen BK494.out 1; have hfz58_2 := blk_frozen BK494.out 2; have hfz58_3 := blk_frozen BK494.out 3; have hfz58_4 := blk_frozen BK494.out 4; have hfz58_5 := blk_frozen BK494.out 5; have hfz58_6 := blk_frozen BK494.out 6; have hcz59_0 : w57.cell? ⟨gb515, 0, none⟩ = some (.int .i64 t504) := bc BK515 0; have hcz59_1 : w57.cell? ⟨gb515, 1, none⟩ = some (.int .i64 t505) := bc BK515 1; have hcz59_2 : w57.cell? ⟨gb515, 2, none⟩ = some (.int .i64 t506) := bc BK515 2; have hcz59_3 : w57.cell? ⟨gb515, 3, none⟩ = some (.int .i64 t507) := bc BK515 3; have hcz59_4 : w57.cell? ⟨gb515, 4, none⟩ = some (.slice Ao54 t508.length co54) := bc BK515 4; have hcz59_5 : w57.cell? ⟨gb515, 5, none⟩ = some (.int .i64 t511) := bc BK515 5; have hcz59_6 : w57.cell? ⟨gb515, 6, none⟩ = some (.slice Ao55 t512.length co55) := bc BK515 6; have hfz59_0 := blk_frozen BK515.out 0; have hfz59_1 := blk_frozen BK515.out 1; have hfz59_2 := blk_frozen BK515.out 2; have hfz59_3 := blk_frozen BK515.out 3; have hfz59_4 := blk_frozen BK515.out 4; have hfz59_5 := blk_frozen BK515.out 5; have hfz59_6 := blk_frozen BK515.out 6) | (go_at_call 63; (with_reducible refine (spec_biSame.calls kj33 a0_5 _ _ l0_6 t511 _ _ t512 t517 _ ?side1 ?side2 ?side3 ?side4 A47.out).mono ?_); (case side1 => exact uC HR0_6 HB); (case side2 => exact HC0_6.out); (case side3 => exact uD HO514); (case side4 => exact (Kd.R_reads' HO514.out).2.1); rintro e w60 ⟨rfl, hb⟩; replace HO_3 := Aside0.mk (Kd.R_below (uR HO_3) hb); replace HO510 := Aside0.mk (Kd.R_below (uR HO510) hb); replace HO514 := Aside0.mk (Kd.R_below (uR HO514) hb); replace BK494 := kB BK494 hb; replace BK515 := kB BK515 hb; replace HB := Aside0.mk (below_step Z33 hb); (try clear hb); (try clear hb2); (try clear hk); (try clear hi)))
        go_ret
        exact ⟨Z90, Z33⟩
       replace c46 := Bool.eq_false_iff.mpr c46
       subst c46
       rw [if_neg (show ¬ (false = true) from Z19)] at H
       obtain rfl := Option.some.inj H
       have hcz61_0 : wc.cell? ⟨gb494, 0, none⟩ = some (.int .i64 a0_0) := bc BK494 0
       have hcz61_1 : wc.cell? ⟨gb494, 1, none⟩ = some (.int .i64 a0_1) := bc BK494 1
       have hcz61_2 : wc.cell? ⟨gb494, 2, none⟩ = some (.int .i64 a0_2) := bc BK494 2
       have hcz61_3 : wc.cell? ⟨gb494, 3, none⟩ = some (.int .i64 a0_3) := bc BK494 3
       have hcz61_4 : wc.cell? ⟨gb494, 4, none⟩ = some (.slice A0_4 l0_4.length c0_4) := bc BK494 4
       have hcz61_5 : wc.cell? ⟨gb494, 5, none⟩ = some (.int .i64 a0_5) := bc BK494 5
       have hcz61_6 : wc.cell? ⟨gb494, 6, none⟩ = some (.slice A0_6 l0_6.length c0_6) := bc BK494 6
       have hfz61_0 := blk_frozen BK494.out 0
       have hfz61_1 := blk_frozen BK494.out 1
       have hfz61_2 := blk_frozen BK494.out 2
       have hfz61_3 := blk_frozen BK494.out 3
       have hfz61_4 := blk_frozen BK494.out 4
       have hfz61_5 := blk_frozen BK494.out 5
       have hfz61_6 := blk_frozen BK494.out 6
       obtain ⟨Ao62, co62, eo62⟩ := Kd.R_slice HO_3.out
       subst eo62
       go_wp2_with (first | ((with_reducible refine gate_callee (f := 31) rfl ?_); refine goesL_ (some 79) rfl rfl Try.func31 Z92 rfl #[.slice Ao62 t500.length co62, .int .i64 a0_1] rfl Z89 ?_; (with_reducible refine (spec_spOf.calls kj33 _ _ t500 a0_1 t504 t505 t506 t507 t508 t511 t512 _ ?side1 ?side2 A44.out).mono ?_); (case side1 => exact uD HO_3); (case side2 => exact (Kd.R_reads' HO_3.out).2.1); rintro e w63 ⟨v509, v513, rfl, ho0, ho1, hb⟩; refine ⟨_, rfl, ?_⟩; have HO510 := Aside0.mk (Kd.R_lower (Kd.R_new' ho0 (Kd.R_lt (uR HO_3))) (below_size Z14)); have HO514 := Aside0.mk (Kd.R_lower (Kd.R_new' ho1 (Kd.R_lt (uR HO_3))) (below_size Z14)); replace HO_3 := Aside0.mk (Kd.R_mono (Kd.R_told (Kd.R_told (Kd.R_old (uR HO_3) hb) (Kd.R_base ho0)) (Kd.R_base ho1)) (fun _ h_ => h_.1)); replace BK494 := kB BK494 hb; replace HB := Aside0.mk (below_step Z14 hb); (try clear hb); (try clear hb2); (try clear hk); (try clear hi); (try clear ho0); (try clear ho1)) | ((with_reducible refine gate_dst (N := 4) rfl ?_); refine box_event ?hg (N := 4) ?hd (cs := #[.int .i64 0, .int .i64 0, .int .i64 0, .int .i64 0, .slice none 0 0, .int .i64 0, .slice none 0 0]) (t := 28) ?hr ?_; (case hd => rfl); (case hg => rfl); (case hr => exact Z93); intro gb515 hg w64 hbox hb; replace HO_3 := Aside0.mk (Kd.R_below (uR HO_3) hb); replace HO510 := Aside0.mk (Kd.R_below (uR HO510) hb); replace HO514 := Aside0.mk (Kd.R_below (uR HO514) hb); have BK515 := Aside0.mk (hbox); have GW515 := Aside0.mk ((by rw [hg]; exact (below_size Z14) : w.heap.size ≤ gb515)); have GE515 := Aside0.mk ((by rw [hg]; exact (below_size Z14) : w.heap.size ≤ gb515)); replace HB := Aside0.mk (below_step Z14 hb); have NB494_515 := nL BK494 hg; have NB515_494 := nR BK494 hg; replace BK494 := kB BK494 hb; clear hb hbox hg; have hnb65 := NB515_494.out; have hnc65 := NB494_515.out; have hcz66_0 : w64.cell? ⟨gb515, 0, none⟩ = some (.int .i64 0) := bc BK515 0; have hcz66_1 : w64.cell? ⟨gb515, 1, none⟩ = some (.int .i64 0) := bc BK515 1; have hcz66_2 : w64.cell? ⟨gb515, 2, none⟩ = some (.int .i64 0) := bc BK515 2; have hcz66_3 : w64.cell? ⟨gb515, 3, none⟩ = some (.int .i64 0) := bc BK515 3; have hcz66_4 : w64.cell? ⟨gb515, 4, none⟩ = some (.slice none 0 0) := bc BK515 4; have hcz66_5 : w64.cell? ⟨gb515, 5, none⟩ = some (.int .i64 0) := bc BK515 5; have hcz66_6 : w64.cell? ⟨gb515, 6, none⟩ = some (.slice none 0 0) := bc BK515 6; have hfz66_0 := blk_frozen BK515.out 0; have hfz66_1 := blk_frozen BK515.out 1; have hfz66_2 := blk_frozen BK515.out 2; have hfz66_3 := blk_frozen BK515.out 3; have hfz66_4 := blk_frozen BK515.out 4; have hfz66_5 := blk_frozen BK515.out 5; have hfz66_6 := blk_frozen BK515.out 6; obtain ⟨Ao67, co67, eo67⟩ := Kd.R_slice HO510.out; subst eo67; obtain ⟨Ao68, co68, eo68⟩ := Kd.R_slice HO514.out; subst eo68; have hcz69_0 : w64.cell? ⟨gb494, 0, none⟩ = some (.int .i64 a0_0) := bc BK494 0; have hcz69_1 : w64.cell? ⟨gb494, 1, none⟩ = some (.int .i64 a0_1) := bc BK494 1; have hcz69_2 : w64.cell? ⟨gb494, 2, none⟩ = some (.int .i64 a0_2) := bc BK494 2; have hcz69_3 : w64.cell? ⟨gb494, 3, none⟩ = some (.int .i64 a0_3) := bc BK494 3; have hcz69_4 : w64.cell? ⟨gb494, 4, none⟩ = some (.slice A0_4 l0_4.length c0_4) := bc BK494 4; have hcz69_5 : w64.cell? ⟨gb494, 5, none⟩ = some (.int .i64 a0_5) := bc BK494 5; have hcz69_6 : w64.cell? ⟨gb494, 6, none⟩ = some (.slice A0_6 l0_6.length c0_6) := bc BK494 6; have hfz69_0 := blk_frozen BK494.out 0; have hfz69_1 := blk_frozen BK494.out 1; have hfz69_2 := blk_frozen BK494.out 2; have hfz69_3 := blk_frozen BK494.out 3; have hfz69_4 := blk_frozen BK494.out 4; have hfz69_5 := blk_frozen BK494.out 5; have hfz69_6 := blk_frozen BK494.out 6) | ((with_reducible refine gate_callee (f := 63) rfl ?_); refine goesL_ (some 84) rfl rfl Try.func63 Z92 rfl #[.agg #[.int .i64 a0_3, .slice A0_4 l0_4.length c0_4], .agg #[.int .i64 t507, .slice Ao67 t508.length co67]] rfl Z89 ?_; (with_reducible refine (spec_biSame.calls kj33 a0_3 _ _ l0_4 t507 _ _ t508 false _ ?side1 ?side2 ?side3 ?side4 A45.out).mono ?_); (case side1 => exact Kd.C_below HR0_4.out Z33); (case side2 => exact HC0_4.out); (case side3 => refine (Kd.R_reads' (e := 3) (base := w.heap.size) (ok := fun k_ => (some k_ ≠ (.slice Ao68 t512.length co68 : Value).ownBlock ∧ some k_ ≠ (.slice Ao62 t500.length co62 : Value).ownBlock)) (n := t508.length) (c := co67) ?_).2.2; exact (fS HO510 BK515 Z19)); (case side4 => exact (Kd.R_reads' HO510.out).2.1); rintro e w70 ⟨rfl, hb⟩; refine ⟨_, rfl, ?_⟩; replace HO_3 := Aside0.mk (Kd.R_below (fS HO_3 BK515 Z19) hb); replace HO510 := Aside0.mk (Kd.R_below (fS HO510 BK515 Z19) hb); replace HO514 := Aside0.mk (Kd.R_below (fS HO514 BK515 Z19) hb); replace BK494 := Aside0.mk (blk_below (g := gb494) (o := .cells #[.int .i64 a0_0, .int .i64 a0_1, .int .i64 a0_2, .int .i64 a0_3, .slice A0_4 l0_4.length c0_4, .int .i64 a0_5, .slice A0_6 l0_6.length c0_6] 28 (0, 0)) (by refine uW ?_; refine blk_far ?_ NB494_515.out _; refine uW ?_; refine blk_far ?_ NB494_515.out _; refine uW ?_; refine blk_far ?_ NB494_515.out _; refine uW ?_; refine blk_far ?_ NB494_515.out _; refine uW ?_; refine blk_far ?_ NB494_515.out _; refine uW ?_; refine blk_far ?_ NB494_515.out _; refine uW ?_; refine blk_far ?_ NB494_515.out _; refine uW ?_; exact BK494.out) hb); replace BK515 := Aside0.mk (blk_below (g := gb515) (o := .cells #[.int .i64 t504, .int .i64 t505, .int .i64 t506, .int .i64 t507, .slice Ao67 t508.length co67, .int .i64 t511, .slice Ao68 t512.length co68] 28 (0, 0)) (by refine uW ?_; refine blk_put (cs := #[.int .i64 t504, .int .i64 t505, .int .i64 t506, .int .i64 t507, .slice Ao67 t508.length co67, .int .i64 t511, .slice none 0 0]) ?_ 6 _ rfl; refine uW ?_; refine blk_put (cs := #[.int .i64 t504, .int .i64 t505, .int .i64 t506, .int .i64 t507, .slice Ao67 t508.length co67, .int .i64 0, .slice none 0 0]) ?_ 5 _ rfl; refine uW ?_; refine blk_put (cs := #[.int .i64 t504, .int .i64 t505, .int .i64 t506, .int .i64 t507, .slice none 0 0, .int .i64 0, .slice none 0 0]) ?_ 4 _ rfl; refine uW ?_; refine blk_put (cs := #[.int .i64 t504, .int .i64 t505, .int .i64 t506, .int .i64 0, .slice none 0 0, .int .i64 0, .slice none 0 0]) ?_ 3 _ rfl; refine uW ?_; refine blk_put (cs := #[.int .i64 t504, .int .i64 t505, .int .i64 0, .int .i64 0, .slice none 0 0, .int .i64 0, .slice none 0 0]) ?_ 2 _ rfl; refine uW ?_; refine blk_put (cs := #[.int .i64 t504, .int .i64 0, .int .i64 0, .int .i64 0, .slice none 0 0, .int .i64 0, .slice none 0 0]) ?_ 1 _ rfl; refine uW ?_; refine blk_put (cs := #[.int .i64 0, .int .i64 0, .int .i64 0, .int .i64 0, .slice none 0 0, .int .i64 0, .slice none 0 0]) ?_ 0 _ rfl; refine uW ?_; exact BK515.out) hb); replace HB := Aside0.mk (below_step Z33 hb); (try clear hb); (try clear hb2); (try clear hk); (try clear hi)))
       go_ret
       exact ⟨Z90, Z33⟩

end Go.Proofs.Ytllaofiopnhdgaa.PFnSparseCounts
