-- made by wip/tools/myprint.py over the kit's print, for this claim
import Derived.Test.YtllaofiopnhdgaaPFnSparsePartsx0
import Derived.Test.YtllaofiopnhdgaaPFnSparsePartsx6
import Derived.Test.YtllaofiopnhdgaaPFnSparsePartsx7
import Derived.Test.YtllaofiopnhdgaaPFnSparsePartsx9
import Derived.Test.YtllaofiopnhdgaaPFnSparsePartsx13
import Derived.Test.YtllaofiopnhdgaaPFnSparsePartsx14
namespace Go.Proofs.Ytllaofiopnhdgaa.PFnSparseParts
open Go.RowKit Go.Proofs.YtllaofiopnhdgaaW.PrintWords Go.Proofs.YtllaofiopnhdgaaW.PrintLast Go.Proofs.YtllaofiopnhdgaaW.PrintMore
open List (setIfInBounds_toArray set_cons_zero set_cons_succ)
attribute [local go_sem] max2_int min2_int max_two min_two max_three min_three max_four min_four   -- for this text's walks alone
set_option linter.unusedVariables false
set_option linter.unusedSimpArgs false

/-! ### Fb: function 29 -/
mutual
def Fb.j0 : Nat → Bool → Int → Int → Int → Int → List Int → Int → List Int → Option (Bool)
 | 0, _, _, _, _, _, _, _, _ => none
 | k + 1, x24, x2, x3, x4, x5, x6, x7, x8 => if x24 = true then (some false) else ((FO.f k x5 x6).bind fun t9 => (if t9 = true then ((FO.f k x7 x8).bind fun t10 => (if t10 = true then (if x5 = (wrap64 (x2 * x4)) then (if 0 ≤ x4 then (Fb.j1 k (x7 != (wrap64 ((wrap64 (x2 + (shr .i64 (wrap64 (x3 - 1)) x4))) + 1))) x2 x3 x4 x5 x6 x7 x8) else (none)) else (Fb.j1 k true x2 x3 x4 x5 x6 x7 x8)) else (Fb.j1 k true x2 x3 x4 x5 x6 x7 x8))) else (Fb.j1 k true x2 x3 x4 x5 x6 x7 x8)))
def Fb.j1 : Nat → Bool → Int → Int → Int → Int → List Int → Int → List Int → Option (Bool)
 | 0, _, _, _, _, _, _, _, _ => none
 | k + 1, x61, x3, x4, x5, x6, x7, x8, x9 => if x61 = true then (some false) else ((Fh.f k x3 x4 x5 x6 x7 x8 x9).bind fun t10 => (if (t10.length : Int) = x3 then ((Fv.f k t10 x4).bind fun t11 => (Fb.j2 k t10 (!t11) x3 x4 x5 x6 x7 x8 x9)) else (Fb.j2 k t10 true x3 x4 x5 x6 x7 x8 x9)))
def Fb.j2 : Nat → List Int → Bool → Int → Int → Int → Int → List Int → Int → List Int → Option (Bool)
 | 0, _, _, _, _, _, _, _, _, _ => none
 | k + 1, x3, x75, x1, x4, x5, x6, x7, x8, x9 => if x75 = true then (some false) else ((Fk.f k x3 x4).bind fun bt10 => ((FV.f k x6 x7 bt10.2.2.2.1 bt10.2.2.2.2.1).bind fun t11 => (if t11 = true then ((FV.f k x8 x9 bt10.2.2.2.2.2.1 bt10.2.2.2.2.2.2).bind fun t12 => (some t12)) else (some false))))
end
def Fb.f (k : Nat) (a0_0 : Int) (a0_1 : Int) (a0_2 : Int) (a0_3 : Int) (l0_4 : List Int) (a0_5 : Int) (l0_6 : List Int) : Option (Bool) := (Fp.f a0_0 0 60).bind fun t7 => (if t7 = true then ((Fja.f a0_1).bind fun t8 => (if t8 = true then ((Fs.f k a0_0 a0_1).bind fun t9 => (Fb.j0 k (a0_2 != t9) a0_0 a0_1 a0_2 a0_3 l0_4 a0_5 l0_6)) else (Fb.j0 k true a0_0 a0_1 a0_2 a0_3 l0_4 a0_5 l0_6))) else (Fb.j0 k true a0_0 a0_1 a0_2 a0_3 l0_4 a0_5 l0_6))
theorem Fb.mono_l : ∀ k, (∀ y0 y1 y2 y3 y4 y5 y6 y7, LeO (Fb.j0 k y0 y1 y2 y3 y4 y5 y6 y7) (Fb.j0 (k + 1) y0 y1 y2 y3 y4 y5 y6 y7)) ∧ (∀ y0 y1 y2 y3 y4 y5 y6 y7, LeO (Fb.j1 k y0 y1 y2 y3 y4 y5 y6 y7) (Fb.j1 (k + 1) y0 y1 y2 y3 y4 y5 y6 y7)) ∧ (∀ y0 y1 y2 y3 y4 y5 y6 y7 y8, LeO (Fb.j2 k y0 y1 y2 y3 y4 y5 y6 y7 y8) (Fb.j2 (k + 1) y0 y1 y2 y3 y4 y5 y6 y7 y8))
 | 0 => ⟨fun _ _ _ _ _ _ _ _ r h => by simp [Fb.j0] at h, fun _ _ _ _ _ _ _ _ r h => by simp [Fb.j1] at h, fun _ _ _ _ _ _ _ _ _ r h => by simp [Fb.j2] at h⟩ | k + 1 => by
  obtain ⟨ih0, ih1, ih2⟩ := Fb.mono_l k
  refine ⟨?_, ?_, ?_⟩
  ·
   intro y0 y1 y2 y3 y4 y5 y6 y7
   unfold Fb.j0
   exact Mo11
  ·
   intro y0 y1 y2 y3 y4 y5 y6 y7
   unfold Fb.j1
   exact Mo11
  intro y0 y1 y2 y3 y4 y5 y6 y7 y8
  unfold Fb.j2
  exact Mo11
theorem Fb.mono : ∀ a0 a1 a2 a3 a4 a5 a6 k, LeO (Fb.f k a0 a1 a2 a3 a4 a5 a6) (Fb.f (k + 1) a0 a1 a2 a3 a4 a5 a6) := by
 intro a0 a1 a2 a3 a4 a5 a6 k
 obtain ⟨ih0, ih1, ih2⟩ := Fb.mono_l k
 unfold Fb.f
 exact Mo11
def Fb.T1 : Bool × List (List Nat × List Nat) := (true, [([], []), ([0], [0]), ([1], [1]), ([2], [2]), ([3, 2], [3]), ([4], [4]), ([5, 4], [4, 5]), ([6, 4, 4], [4, 6]), ([7, 4], [4, 7]), ([4, 8], [4, 8]), ([9, 7], [9]), ([10], [10]), ([11, 10], [10, 11]), ([10], [10]), ([13, 10], [10, 13]), ([10], [10]), ([15, 10], [10, 15]), ([14, 16, 10, 10], [10, 14, 16]), ([12, 17, 10], [10, 12, 17]), ([10, 18], [10, 18])])
def Fb.B1 : List Nat := [0, 1, 3, 7, 15, 31, 63, 127, 255, 511, 1023, 2047, 4095, 2047, 10239, 2047, 34815, 124927, 262143, 524287]
theorem Fb.tab1 : rtab .any (opsOf Try.f29 1) = Fb.T1 := by kernel_rfl
theorem Fb.bits1 : waitsOk Fb.T1.2 Fb.B1 = true := by kernel_rfl
def Fb.T3 : Bool × List (List Nat × List Nat) := (true, [([], []), ([0], [0]), ([1], [1]), ([2], [2]), ([3, 2], [3]), ([4], [4]), ([5, 4], [4, 5]), ([6, 4, 4], [4, 6]), ([7, 4], [4, 7]), ([4, 8], [4, 8]), ([9, 7], [9]), ([10], [10]), ([11, 10], [10, 11]), ([12, 10], [10, 12]), ([10], [10]), ([14, 10], [10, 14]), ([10], [10]), ([16, 10], [10, 16]), ([15, 17, 10], [10, 15, 17]), ([13, 18, 10], [10, 13, 18]), ([10, 19], [10, 19]), ([20, 10], [20]), ([21], [21]), ([22, 21], [21, 22]), ([23, 21], [21, 23]), ([21], [21]), ([25, 21], [21, 25]), ([21], [21]), ([27, 21], [21, 27]), ([28, 21], [21, 28]), ([21], [21]), ([30, 21], [21, 30]), ([29, 31, 21], [21, 29, 31]), ([26, 32, 21], [21, 26, 32]), ([33, 21], [21, 33]), ([24, 34, 21], [21, 24, 34]), ([21, 35], [21, 35])])
def Fb.B3 : List Nat := [0, 1, 3, 7, 15, 31, 63, 127, 255, 511, 1023, 2047, 4095, 8191, 2047, 18431, 2047, 67583, 247807, 524287, 1048575, 2097151, 4194303, 8388607, 16777215, 4194303, 37748735, 4194303, 138412031, 406847487, 4194303, 1077936127, 4164943871, 8560574463, 17150509055, 34359738367, 68719476735]
theorem Fb.tab3 : rtab .any (opsOf Try.f29 3) = Fb.T3 := by kernel_rfl
theorem Fb.bits3 : waitsOk Fb.T3.2 Fb.B3 = true := by kernel_rfl
set_option maxHeartbeats 8000000 in
set_option maxRecDepth 100000 in
theorem Fb.calls (k : Nat) (a0_0 : Int) (a0_1 : Int) (a0_2 : Int) (a0_3 : Int) (A0_4 : Option Addr) (c0_4 : Nat) (l0_4 : List Int) (a0_5 : Int) (A0_6 : Option Addr) (c0_6 : Nat) (l0_6 : List Int) (r : Bool) (w : World) (hr0_4 : Kd.C (Kd.int .i64) w A0_4 l0_4.length l0_4) (hc0_4 : l0_4.length ≤ c0_4) (hr0_6 : Kd.C (Kd.int .i64) w A0_6 l0_6.length l0_6) (hc0_6 : l0_6.length ≤ c0_6) (h : Fb.f k a0_0 a0_1 a0_2 a0_3 l0_4 a0_5 l0_6 = some r) :
  Calls Try.prog 29 #[.agg #[.int .i64 a0_0, .int .i64 a0_1, .int .i64 a0_2, .int .i64 a0_3, .slice A0_4 l0_4.length c0_4, .int .i64 a0_5, .slice A0_6 l0_6.length c0_6]] w fun e w' => e = .returned (.bool r) ∧ Below w.heap.size w w' := by
 have hu28 := Try.underlying28
 have hu26 := Try.underlying26
 have HR0_4 := am hr0_4
 have HC0_4 := am hc0_4
 clear hr0_4 hc0_4
 have HR0_6 := am hr0_6
 have HC0_6 := am hc0_6
 clear hr0_6 hc0_6
 have HB := am (Below.refl w.heap.size w)
 have H : ((Fp.f a0_0 0 60).bind fun t71 => (if t71 = true then ((Fja.f a0_1).bind fun t72 => (if t72 = true then ((Fs.f k a0_0 a0_1).bind fun t73 => (Fb.j0 k (a0_2 != t73) a0_0 a0_1 a0_2 a0_3 l0_4 a0_5 l0_6)) else (Fb.j0 k true a0_0 a0_1 a0_2 a0_3 l0_4 a0_5 l0_6))) else (Fb.j0 k true a0_0 a0_1 a0_2 a0_3 l0_4 a0_5 l0_6))) = some r := h
 clear h
 have HC2 := am H
 clear H
 go_enter Try.func29, Try.ntmps29
 go_upto_region 1 with (first | ((with_reducible refine gate_dst (N := 1) rfl ?_); refine box_event ?hg (N := 1) ?hd (cs := #[.int .i64 a0_0, .int .i64 a0_1, .int .i64 a0_2, .int .i64 a0_3, .slice A0_4 l0_4.length c0_4, .int .i64 a0_5, .slice A0_6 l0_6.length c0_6]) (t := 28) ?hr ?_; (case hd => rfl); (case hg => rfl); (case hr => exact Z111); intro gb74 hg w3 hbox hb; have BK74 := am (hbox); have GW74 := nG HB hg; have GE74 := nG HB hg; have GI74 := gI GE74; replace HB := am (below_step (uN HB) hb); clear hb hbox hg))
 (try simp only [Act.put, setIfInBounds_toArray, set_cons_zero, set_cons_succ])
 go_cut [24] (fun v24 wc => ∃ (kq : Nat) (x24_1 : Bool), v24 = .bool x24_1 ∧ Aside0 (Fb.j0 kq x24_1 a0_0 a0_1 a0_2 a0_3 l0_4 a0_5 l0_6 = some r) ∧ Aside0 (kq ≤ k) ∧ Aside0 (wc.heap[gb74]? = some (.cells #[.int .i64 a0_0, .int .i64 a0_1, .int .i64 a0_2, .int .i64 a0_3, (.slice A0_4 l0_4.length c0_4), .int .i64 a0_5, (.slice A0_6 l0_6.length c0_6)] 28 (0, 0))) ∧ Aside0 (Below w.heap.size w wc))
 case first =>
  have H := HC2.out
  clear HC2
  replace H := Option.bind_eq_some_iff.mp H
  obtain ⟨t71, A40, H⟩ := H
  try dsimp only at H
  have A4 := am A40
  clear A40
  by_cases c5 : t71 = true
  ·
   subst c5
   rw [if_pos rfl] at H
   replace H := Option.bind_eq_some_iff.mp H
   obtain ⟨t72, A60, H⟩ := H
   try dsimp only at H
   have A6 := am A60
   clear A60
   by_cases c7 : t72 = true
   ·
    subst c7
    rw [if_pos rfl] at H
    replace H := Option.bind_eq_some_iff.mp H
    obtain ⟨t73, A80, H⟩ := H
    try dsimp only at H
    have A8 := am A80
    clear A80
    have H' := am H
    clear H
    try go_wp2
    replace BK74 := am (blk_drew BK74.out)
    replace HB := am (below_drew1 HB.out)
    refine start_ (n := 20) (S := fun w' => w'.cell? ⟨gb74, 0, none⟩ = some (.int .i64 a0_0) ∧ w'.cell? ⟨gb74, 1, none⟩ = some (.int .i64 a0_1) ∧ w'.cell? ⟨gb74, 2, none⟩ = some (.int .i64 a0_2) ∧ w'.cell? ⟨gb74, 3, none⟩ = some (.int .i64 a0_3) ∧ w'.cell? ⟨gb74, 4, none⟩ = some (.slice A0_4 l0_4.length c0_4) ∧ w'.cell? ⟨gb74, 5, none⟩ = some (.int .i64 a0_5) ∧ w'.cell? ⟨gb74, 6, none⟩ = some (.slice A0_6 l0_6.length c0_6)) (ds := []) (bA 20 0) Z112 rfl rfl ⟨bc BK74 0, bc BK74 1, bc BK74 2, bc BK74 3, bc BK74 4, bc BK74 5, bc BK74 6⟩ (fun hHeld => ?_); refine with_tabW Fb.tab1 Fb.bits1 (fun HT_ HW_ => ?_)
    generalize w3.drew = w9 at BK74 HB hHeld ⊢
    refine pS 0 5 (bA 20 1) ?_
    refine tS7 1 6 (bA 20 3) hHeld ?_
    refine one_ (i := 2) (N := some 7) (bA 20 7) rfl rfl (one_of HT_.out Z112) Z16 (fun K hK => ?_)
    refine goes_ Try.func30 Z112 rfl #[.int .i64 a0_0, .int .i64 0, .int .i64 60] Z63 rfl rfl Z113 ?_
    with_reducible refine (Fp.calls a0_0 0 60 true _ A4.out).mono ?_
    rintro e w' ⟨rfl, ⟨nd, rfl⟩⟩
    refine ⟨_, rfl, ?_⟩
    refine hK.out _ _ ⟨bc BK74 0, bc BK74 1, bc BK74 2, bc BK74 3, bc BK74 4, bc BK74 5, bc BK74 6⟩ (fun hHeld => ?_)
    clear hK K
    refine norm_ (a' := ?_) ?_ ?_
    rotate_left
    ·
     show Act.put _ (some 7) _ = _
     simp only [Act.put, setIfInBounds_toArray, set_cons_zero, set_cons_succ, i64_w, i32_w]
     rfl
    refine pS 3 8 (bA 20 15) ?_
    refine pS 4 9 (bA 20 31) ?_
    refine pS 5 10 (bA 20 63) ?_
    refine tS7 6 11 (bA 20 127) hHeld ?_
    refine one_ (i := 7) (N := some 12) (bA 20 255) rfl rfl (one_of HT_.out Z112) Z16 (fun K hK => ?_)
    refine goes_ Try.func60 Z112 rfl #[.int .i64 a0_1] Z63 rfl rfl Z113 ?_
    with_reducible refine (Fja.calls a0_1 true _ A6.out).mono ?_
    rintro e w' ⟨rfl, ⟨nd, rfl⟩⟩
    refine ⟨_, rfl, ?_⟩
    refine hK.out _ _ ⟨bc BK74 0, bc BK74 1, bc BK74 2, bc BK74 3, bc BK74 4, bc BK74 5, bc BK74 6⟩ (fun hHeld => ?_)
    clear hK K
    refine norm_ (a' := ?_) ?_ ?_
    rotate_left
    ·
     show Act.put _ (some 12) _ = _
     simp only [Act.put, setIfInBounds_toArray, set_cons_zero, set_cons_succ, i64_w, i32_w]
     rfl
    refine pS 8 13 (bA 20 511) ?_
    refine pS 9 14 (bA 20 1023) ?_
    refine pS 10 15 (bA 20 2047) ?_
    refine pS 11 16 (bA 20 4095) ?_
    refine pS 13 18 (bA 20 12287) ?_
    refine pS 15 20 (bA 20 45055) ?_
    refine tS7 12 17 (bA 20 49151) hHeld ?_
    refine tS7 14 19 (bA 20 65535) hHeld ?_
    refine tS7 16 21 (bA 20 131071) hHeld ?_
    refine one_ (i := 17) (N := some 22) (bA 20 262143) rfl rfl (one_of HT_.out Z112) Z16 (fun K hK => ?_)
    refine goes_ Try.func61 Z112 rfl #[.int .i64 a0_0, .int .i64 a0_1] Z63 rfl rfl Z113 ?_
    with_reducible refine (Fs.calls k a0_0 a0_1 t73 _ A8.out).mono ?_
    rintro e w' ⟨rfl, ⟨nd, rfl⟩⟩
    refine ⟨_, rfl, ?_⟩
    refine hK.out _ _ ⟨bc BK74 0, bc BK74 1, bc BK74 2, bc BK74 3, bc BK74 4, bc BK74 5, bc BK74 6⟩ (fun hHeld => ?_)
    clear hK K
    refine norm_ (a' := ?_) ?_ ?_
    rotate_left
    ·
     show Act.put _ (some 22) _ = _
     simp only [Act.put, setIfInBounds_toArray, set_cons_zero, set_cons_succ, i64_w, i32_w]
     rfl
    refine pS 18 23 (bA 20 524287) ?_
    refine pS 19 24 (bA 20 1048575) ?_
    refine done_ (done_of HT_.out Z112) ?_
    try go_wp2
    go_meet
    case rel => exact ⟨_, ((a0_2 != t73)), Z110, H', ⟨Z129⟩, ⟨pb BK74⟩, ⟨Z15⟩⟩
   replace c7 := Bool.eq_false_iff.mpr c7
   subst c7
   rw [if_neg (show ¬ (false = true) from Z16)] at H
   have H' := am H
   clear H
   try go_wp2
   replace BK74 := am (blk_drew BK74.out)
   replace HB := am (below_drew1 HB.out)
   refine start_ (n := 20) (S := fun w' => w'.cell? ⟨gb74, 0, none⟩ = some (.int .i64 a0_0) ∧ w'.cell? ⟨gb74, 1, none⟩ = some (.int .i64 a0_1) ∧ w'.cell? ⟨gb74, 2, none⟩ = some (.int .i64 a0_2) ∧ w'.cell? ⟨gb74, 3, none⟩ = some (.int .i64 a0_3) ∧ w'.cell? ⟨gb74, 4, none⟩ = some (.slice A0_4 l0_4.length c0_4) ∧ w'.cell? ⟨gb74, 5, none⟩ = some (.int .i64 a0_5) ∧ w'.cell? ⟨gb74, 6, none⟩ = some (.slice A0_6 l0_6.length c0_6)) (ds := []) (bA 20 0) Z112 rfl rfl ⟨bc BK74 0, bc BK74 1, bc BK74 2, bc BK74 3, bc BK74 4, bc BK74 5, bc BK74 6⟩ (fun hHeld => ?_); refine with_tabW Fb.tab1 Fb.bits1 (fun HT_ HW_ => ?_)
   generalize w3.drew = w10 at BK74 HB hHeld ⊢
   refine pS 0 5 (bA 20 1) ?_
   refine tS7 1 6 (bA 20 3) hHeld ?_
   refine one_ (i := 2) (N := some 7) (bA 20 7) rfl rfl (one_of HT_.out Z112) Z16 (fun K hK => ?_)
   refine goes_ Try.func30 Z112 rfl #[.int .i64 a0_0, .int .i64 0, .int .i64 60] Z63 rfl rfl Z113 ?_
   with_reducible refine (Fp.calls a0_0 0 60 true _ A4.out).mono ?_
   rintro e w' ⟨rfl, ⟨nd, rfl⟩⟩
   refine ⟨_, rfl, ?_⟩
   refine hK.out _ _ ⟨bc BK74 0, bc BK74 1, bc BK74 2, bc BK74 3, bc BK74 4, bc BK74 5, bc BK74 6⟩ (fun hHeld => ?_)
   clear hK K
   refine norm_ (a' := ?_) ?_ ?_
   rotate_left
   ·
    show Act.put _ (some 7) _ = _
    simp only [Act.put, setIfInBounds_toArray, set_cons_zero, set_cons_succ, i64_w, i32_w]
    rfl
   refine pS 3 8 (bA 20 15) ?_
   refine pS 4 9 (bA 20 31) ?_
   refine pS 5 10 (bA 20 63) ?_
   refine tS7 6 11 (bA 20 127) hHeld ?_
   refine one_ (i := 7) (N := some 12) (bA 20 255) rfl rfl (one_of HT_.out Z112) Z16 (fun K hK => ?_)
   refine goes_ Try.func60 Z112 rfl #[.int .i64 a0_1] Z63 rfl rfl Z113 ?_
   with_reducible refine (Fja.calls a0_1 false _ A6.out).mono ?_
   rintro e w' ⟨rfl, ⟨nd, rfl⟩⟩
   refine ⟨_, rfl, ?_⟩
   refine hK.out _ _ ⟨bc BK74 0, bc BK74 1, bc BK74 2, bc BK74 3, bc BK74 4, bc BK74 5, bc BK74 6⟩ (fun hHeld => ?_)
   clear hK K
   refine norm_ (a' := ?_) ?_ ?_
   rotate_left
   ·
    show Act.put _ (some 12) _ = _
    simp only [Act.put, setIfInBounds_toArray, set_cons_zero, set_cons_succ, i64_w, i32_w]
    rfl
   refine pS 8 13 (bA 20 511) ?_
   refine pS 9 14 (bA 20 1023) ?_
   refine pS 10 15 (bA 20 2047) ?_
   refine pU 11 16 (bA 20 4095) ?_
   refine pU 12 17 (bA 20 8191) ?_
   refine pU 13 18 (bA 20 16383) ?_
   refine pU 14 19 (bA 20 32767) ?_
   refine pU 15 20 (bA 20 65535) ?_
   refine pU 16 21 (bA 20 131071) ?_
   refine pU 17 22 (bA 20 262143) ?_
   refine pU 18 23 (bA 20 524287) ?_
   refine pS 19 24 (bA 20 1048575) ?_
   refine done_ (done_of HT_.out Z112) ?_
   try go_wp2
   go_meet
   case rel => exact ⟨_, (true), Z110, H', ⟨Z129⟩, ⟨pb BK74⟩, ⟨Z15⟩⟩
  replace c5 := Bool.eq_false_iff.mpr c5
  subst c5
  rw [if_neg (show ¬ (false = true) from Z16)] at H
  have H' := am H
  clear H
  try go_wp2
  replace BK74 := am (blk_drew BK74.out)
  replace HB := am (below_drew1 HB.out)
  refine start_ (n := 20) (S := fun w' => w'.cell? ⟨gb74, 0, none⟩ = some (.int .i64 a0_0) ∧ w'.cell? ⟨gb74, 1, none⟩ = some (.int .i64 a0_1) ∧ w'.cell? ⟨gb74, 2, none⟩ = some (.int .i64 a0_2) ∧ w'.cell? ⟨gb74, 3, none⟩ = some (.int .i64 a0_3) ∧ w'.cell? ⟨gb74, 4, none⟩ = some (.slice A0_4 l0_4.length c0_4) ∧ w'.cell? ⟨gb74, 5, none⟩ = some (.int .i64 a0_5) ∧ w'.cell? ⟨gb74, 6, none⟩ = some (.slice A0_6 l0_6.length c0_6)) (ds := []) (bA 20 0) Z112 rfl rfl ⟨bc BK74 0, bc BK74 1, bc BK74 2, bc BK74 3, bc BK74 4, bc BK74 5, bc BK74 6⟩ (fun hHeld => ?_); refine with_tabW Fb.tab1 Fb.bits1 (fun HT_ HW_ => ?_)
  generalize w3.drew = w11 at BK74 HB hHeld ⊢
  refine pS 0 5 (bA 20 1) ?_
  refine tS7 1 6 (bA 20 3) hHeld ?_
  refine one_ (i := 2) (N := some 7) (bA 20 7) rfl rfl (one_of HT_.out Z112) Z16 (fun K hK => ?_)
  refine goes_ Try.func30 Z112 rfl #[.int .i64 a0_0, .int .i64 0, .int .i64 60] Z63 rfl rfl Z113 ?_
  with_reducible refine (Fp.calls a0_0 0 60 false _ A4.out).mono ?_
  rintro e w' ⟨rfl, ⟨nd, rfl⟩⟩
  refine ⟨_, rfl, ?_⟩
  refine hK.out _ _ ⟨bc BK74 0, bc BK74 1, bc BK74 2, bc BK74 3, bc BK74 4, bc BK74 5, bc BK74 6⟩ (fun hHeld => ?_)
  clear hK K
  refine norm_ (a' := ?_) ?_ ?_
  rotate_left
  ·
   show Act.put _ (some 7) _ = _
   simp only [Act.put, setIfInBounds_toArray, set_cons_zero, set_cons_succ, i64_w, i32_w]
   rfl
  refine pS 3 8 (bA 20 15) ?_
  refine pS 4 9 (bA 20 31) ?_
  refine pU 5 10 (bA 20 63) ?_
  refine pU 6 11 (bA 20 127) ?_
  refine pU 7 12 (bA 20 255) ?_
  refine pU 8 13 (bA 20 511) ?_
  refine pS 9 14 (bA 20 1023) ?_
  refine pS 10 15 (bA 20 2047) ?_
  refine pU 11 16 (bA 20 4095) ?_
  refine pU 12 17 (bA 20 8191) ?_
  refine pU 13 18 (bA 20 16383) ?_
  refine pU 14 19 (bA 20 32767) ?_
  refine pU 15 20 (bA 20 65535) ?_
  refine pU 16 21 (bA 20 131071) ?_
  refine pU 17 22 (bA 20 262143) ?_
  refine pU 18 23 (bA 20 524287) ?_
  refine pS 19 24 (bA 20 1048575) ?_
  refine done_ (done_of HT_.out Z112) ?_
  try go_wp2
  go_meet
  case rel => exact ⟨_, (true), Z110, H', ⟨Z129⟩, ⟨pb BK74⟩, ⟨Z15⟩⟩
 case rest =>
  clear HC2
  try clear c2
  try clear p2
  try clear c3
  try clear c5
  try clear c6
  try clear c7
  obtain ⟨kq, x24_1, rfl, HA, HJ1, BK74, HB⟩ := hcut
  cases kq with
  | zero => exact absurd HA.out (by simp [Fb.j0])
  | succ kj1 =>
   have H := HA.out
   clear HA
   simp only [Fb.j0] at H
   by_cases c12 : x24_1 = true
   ·
    subst c12
    rw [if_pos rfl] at H
    obtain rfl := Option.some.inj H
    go_wp2
    go_ret
    exact ⟨Z109, Z15⟩
   replace c12 := Bool.eq_false_iff.mpr c12
   subst c12
   rw [if_neg (show ¬ (false = true) from Z16)] at H
   have HC13 := am H
   clear H
   go_upto_region 3 with (fail)
   go_cut [61] (fun v61 wc => ∃ (kq : Nat) (x61_12 : Bool), v61 = .bool x61_12 ∧ Aside0 (Fb.j1 kq x61_12 a0_0 a0_1 a0_2 a0_3 l0_4 a0_5 l0_6 = some r) ∧ Aside0 (kq ≤ kj1) ∧ Aside0 (wc.heap[gb74]? = some (.cells #[.int .i64 a0_0, .int .i64 a0_1, .int .i64 a0_2, .int .i64 a0_3, (.slice A0_4 l0_4.length c0_4), .int .i64 a0_5, (.slice A0_6 l0_6.length c0_6)] 28 (0, 0))) ∧ Aside0 (Below w.heap.size w wc))
   case first =>
    have H := HC13.out
    clear HC13
    replace H := Option.bind_eq_some_iff.mp H
    obtain ⟨t76, A78, H⟩ := H
    try dsimp only at H
    have A14 := am A78
    clear A78
    by_cases c15 : t76 = true
    ·
     subst c15
     rw [if_pos rfl] at H
     replace H := Option.bind_eq_some_iff.mp H
     obtain ⟨t77, A79, H⟩ := H
     try dsimp only at H
     have A16 := am A79
     clear A79
     by_cases c17 : t77 = true
     ·
      subst c17
      rw [if_pos rfl] at H
      by_cases c18 : a0_3 = (wrap64 (a0_0 * a0_2))
      ·
       rw [if_pos c18] at H
       have c18b0 : (a0_3 == (wrap64 (a0_0 * a0_2))) = true := beq_iff_eq.mpr c18
       have c18b1 : (a0_3 != (wrap64 (a0_0 * a0_2))) = false := bne_eq_false_iff_eq.mpr c18
       clear c18
       (first | rw [c18b0] | (simp only [i64_w, i32_w]; rw [c18b0]) | skip)
       by_cases c19 : 0 ≤ a0_2
       rotate_left
       ·
        rw [if_neg c19] at H
        exact absurd H Z43
       rw [if_pos c19] at H
       have c19b0 := eq_true c19
       have c19b1 := decide_eq_true c19
       clear c19
       obtain ⟨ji20, hji20⟩ : ∃ j_ : Int, (shr .i64 (wrap64 (a0_1 - 1)) a0_2) = j_ := ⟨_, rfl⟩
       replace H : (Fb.j1 kj1 (a0_5 != (wrap64 ((wrap64 (a0_0 + (ji20))) + 1))) a0_0 a0_1 a0_2 a0_3 l0_4 a0_5 l0_6) = some r := by first | (rw [hji20] at H; exact H) | (simp only [hji20] at H ⊢; exact H)
       (try rw [hji20] at A14)
       (try rw [hji20] at A16)
       have hji20_ : ((wrap64 (a0_1 - 1)) / 2 ^ min a0_2.toNat 64) = ji20 := hji20
       have hji20z : a0_2 ≤ 64 → ((wrap64 (a0_1 - 1)) / 2 ^ a0_2.toNat) = ji20 := shr_small hji20
       have H' := am H
       clear H
       try go_wp2
       replace BK74 := am (blk_drew BK74.out)
       replace HB := am (below_drew1 HB.out)
       refine start_ (n := 37) (S := fun w' => w'.cell? ⟨gb74, 0, none⟩ = some (.int .i64 a0_0) ∧ w'.cell? ⟨gb74, 1, none⟩ = some (.int .i64 a0_1) ∧ w'.cell? ⟨gb74, 2, none⟩ = some (.int .i64 a0_2) ∧ w'.cell? ⟨gb74, 3, none⟩ = some (.int .i64 a0_3) ∧ w'.cell? ⟨gb74, 4, none⟩ = some (.slice A0_4 l0_4.length c0_4) ∧ w'.cell? ⟨gb74, 5, none⟩ = some (.int .i64 a0_5) ∧ w'.cell? ⟨gb74, 6, none⟩ = some (.slice A0_6 l0_6.length c0_6)) (ds := []) (bA 37 0) Z112 rfl rfl ⟨bc BK74 0, bc BK74 1, bc BK74 2, bc BK74 3, bc BK74 4, bc BK74 5, bc BK74 6⟩ (fun hHeld => ?_); refine with_tabW Fb.tab3 Fb.bits3 (fun HT_ HW_ => ?_)
       generalize wc.drew = w21 at BK74 HB hHeld ⊢
       refine pS 0 25 (bA 37 1) ?_
       refine tS7 1 26 (bA 37 3) hHeld ?_
       refine one_ (i := 2) (N := some 27) (bA 37 7) rfl rfl (one_of HT_.out Z112) Z16 (fun K hK => ?_)
       refine goes_ Try.func62 Z112 rfl #[.agg #[.int .i64 a0_3, .slice A0_4 l0_4.length c0_4]] Z63 rfl rfl Z113 ?_
       with_reducible refine (FO.calls kj1 a0_3 _ _ l0_4 true _ ?side1 ?side2 A14.out).mono ?_
       (case side1 => exact uC HR0_4 HB)
       (case side2 => exact HC0_4.out)
       rintro e w22 ⟨rfl, hb⟩
       refine ⟨_, rfl, ?_⟩
       replace BK74 := kB BK74 hb
       replace HB := am (below_step Z15 hb)
       (try clear hb)
       (try clear hb2)
       (try clear hk)
       (try clear hi)
       refine hK.out _ _ ⟨bc BK74 0, bc BK74 1, bc BK74 2, bc BK74 3, bc BK74 4, bc BK74 5, bc BK74 6⟩ (fun hHeld => ?_)
       clear hK K
       refine norm_ (a' := ?_) ?_ ?_
       rotate_left
       ·
        show Act.put _ (some 27) _ = _
        simp only [Act.put, setIfInBounds_toArray, set_cons_zero, set_cons_succ, i64_w, i32_w]
        rfl
       refine pS 3 28 (bA 37 15) ?_
       refine pS 4 29 (bA 37 31) ?_
       refine pS 5 30 (bA 37 63) ?_
       refine tS7 6 31 (bA 37 127) hHeld ?_
       refine one_ (i := 7) (N := some 32) (bA 37 255) rfl rfl (one_of HT_.out Z112) Z16 (fun K hK => ?_)
       refine goes_ Try.func62 Z112 rfl #[.agg #[.int .i64 a0_5, .slice A0_6 l0_6.length c0_6]] Z63 rfl rfl Z113 ?_
       with_reducible refine (FO.calls kj1 a0_5 _ _ l0_6 true _ ?side1 ?side2 A16.out).mono ?_
       (case side1 => exact uC HR0_6 HB)
       (case side2 => exact HC0_6.out)
       rintro e w23 ⟨rfl, hb⟩
       refine ⟨_, rfl, ?_⟩
       replace BK74 := kB BK74 hb
       replace HB := am (below_step Z15 hb)
       (try clear hb)
       (try clear hb2)
       (try clear hk)
       (try clear hi)
       refine hK.out _ _ ⟨bc BK74 0, bc BK74 1, bc BK74 2, bc BK74 3, bc BK74 4, bc BK74 5, bc BK74 6⟩ (fun hHeld => ?_)
       clear hK K
       refine norm_ (a' := ?_) ?_ ?_
       rotate_left
       ·
        show Act.put _ (some 32) _ = _
        simp only [Act.put, setIfInBounds_toArray, set_cons_zero, set_cons_succ, i64_w, i32_w]
        rfl
       refine pS 8 33 (bA 37 511) ?_
       refine pS 9 34 (bA 37 1023) ?_
       refine pS 10 35 (bA 37 2047) ?_
       refine pS 11 36 (bA 37 4095) ?_
       refine pS 12 37 (bA 37 8191) ?_
       refine pS 14 39 (bA 37 24575) ?_
       refine pS 16 41 (bA 37 90111) ?_
       refine tS7 13 38 (bA 37 98303) hHeld ?_
       refine tS7 15 40 (bA 37 131071) hHeld ?_
       refine tS7 17 42 (bA 37 262143) hHeld ?_
       refine pS 18 43 (bA 37 524287) ?_
       refine pS 19 44 (bA 37 1048575) ?_
       refine pS 20 45 (bA 37 2097151) ?_
       refine pS 21 46 (bA 37 4194303) ?_
       refine pS 22 47 (bA 37 8388607) ?_
       refine pS 23 48 (bA 37 16777215) ?_
       refine pS 25 50 (bA 37 50331647) ?_
       refine pS 27 52 (bA 37 184549375) ?_
       refine pS 30 55 (bA 37 1258291199) ?_
       refine tS7 24 49 (bA 37 1275068415) hHeld ?_
       refine tS7 26 51 (bA 37 1342177279) hHeld ?_
       refine tS7 28 53 (bA 37 1610612735) hHeld ?_
       refine pS 29 54 (bA 37 2147483647) ?_
       refine tS7 31 56 (bA 37 4294967295) hHeld ?_
       refine pS 32 57 (bA 37 8589934591) ?_
       refine pS 33 58 (bA 37 17179869183) ?_
       refine pS 34 59 (bA 37 34359738367) ?_
       refine pS 35 60 (bA 37 68719476735) ?_
       refine pS 36 61 (bA 37 137438953471) ?_
       refine done_ (done_of HT_.out Z112) ?_
       try go_wp2
       go_meet
       case rel => exact ⟨_, ((a0_5 != (wrap64 ((wrap64 (a0_0 + (ji20))) + 1)))), (by first | rfl | (simp; done) | (simp only [← hji20] <;> (first | rfl | simp)) | (simp [*]; done)), H', ⟨by have := HJ1.out; first | omega | exact Nat.le_refl _⟩, ⟨pb BK74⟩, ⟨Z15⟩⟩
      rw [if_neg c18] at H
      have c18b0 : (a0_3 == (wrap64 (a0_0 * a0_2))) = false := beq_eq_false_iff_ne.mpr c18
      have c18b1 : (a0_3 != (wrap64 (a0_0 * a0_2))) = true := bne_iff_ne.mpr c18
      (first | rw [c18b0] | (simp only [i64_w, i32_w]; rw [c18b0]) | skip)
      have H' := am H
      clear H
      try go_wp2
      replace BK74 := am (blk_drew BK74.out)
      replace HB := am (below_drew1 HB.out)
      refine start_ (n := 37) (S := fun w' => w'.cell? ⟨gb74, 0, none⟩ = some (.int .i64 a0_0) ∧ w'.cell? ⟨gb74, 1, none⟩ = some (.int .i64 a0_1) ∧ w'.cell? ⟨gb74, 2, none⟩ = some (.int .i64 a0_2) ∧ w'.cell? ⟨gb74, 3, none⟩ = some (.int .i64 a0_3) ∧ w'.cell? ⟨gb74, 4, none⟩ = some (.slice A0_4 l0_4.length c0_4) ∧ w'.cell? ⟨gb74, 5, none⟩ = some (.int .i64 a0_5) ∧ w'.cell? ⟨gb74, 6, none⟩ = some (.slice A0_6 l0_6.length c0_6)) (ds := []) (bA 37 0) Z112 rfl rfl ⟨bc BK74 0, bc BK74 1, bc BK74 2, bc BK74 3, bc BK74 4, bc BK74 5, bc BK74 6⟩ (fun hHeld => ?_); refine with_tabW Fb.tab3 Fb.bits3 (fun HT_ HW_ => ?_)
      generalize wc.drew = w24 at BK74 HB hHeld ⊢
      refine pS 0 25 (bA 37 1) ?_
      refine tS7 1 26 (bA 37 3) hHeld ?_
      refine one_ (i := 2) (N := some 27) (bA 37 7) rfl rfl (one_of HT_.out Z112) Z16 (fun K hK => ?_)
      refine goes_ Try.func62 Z112 rfl #[.agg #[.int .i64 a0_3, .slice A0_4 l0_4.length c0_4]] Z63 rfl rfl Z113 ?_
      with_reducible refine (FO.calls kj1 a0_3 _ _ l0_4 true _ ?side1 ?side2 A14.out).mono ?_
      (case side1 => exact uC HR0_4 HB)
      (case side2 => exact HC0_4.out)
      rintro e w25 ⟨rfl, hb⟩
      refine ⟨_, rfl, ?_⟩
      replace BK74 := kB BK74 hb
      replace HB := am (below_step Z15 hb)
      (try clear hb)
      (try clear hb2)
      (try clear hk)
      (try clear hi)
      refine hK.out _ _ ⟨bc BK74 0, bc BK74 1, bc BK74 2, bc BK74 3, bc BK74 4, bc BK74 5, bc BK74 6⟩ (fun hHeld => ?_)
      clear hK K
      refine norm_ (a' := ?_) ?_ ?_
      rotate_left
      ·
       show Act.put _ (some 27) _ = _
       simp only [Act.put, setIfInBounds_toArray, set_cons_zero, set_cons_succ, i64_w, i32_w]
       rfl
      refine pS 3 28 (bA 37 15) ?_
      refine pS 4 29 (bA 37 31) ?_
      refine pS 5 30 (bA 37 63) ?_
      refine tS7 6 31 (bA 37 127) hHeld ?_
      refine one_ (i := 7) (N := some 32) (bA 37 255) rfl rfl (one_of HT_.out Z112) Z16 (fun K hK => ?_)
      refine goes_ Try.func62 Z112 rfl #[.agg #[.int .i64 a0_5, .slice A0_6 l0_6.length c0_6]] Z63 rfl rfl Z113 ?_
      with_reducible refine (FO.calls kj1 a0_5 _ _ l0_6 true _ ?side1 ?side2 A16.out).mono ?_
      (case side1 => exact uC HR0_6 HB)
      (case side2 => exact HC0_6.out)
      rintro e w26 ⟨rfl, hb⟩
      refine ⟨_, rfl, ?_⟩
      replace BK74 := kB BK74 hb
      replace HB := am (below_step Z15 hb)
      (try clear hb)
      (try clear hb2)
      (try clear hk)
      (try clear hi)
      refine hK.out _ _ ⟨bc BK74 0, bc BK74 1, bc BK74 2, bc BK74 3, bc BK74 4, bc BK74 5, bc BK74 6⟩ (fun hHeld => ?_)
      clear hK K
      refine norm_ (a' := ?_) ?_ ?_
      rotate_left
      ·
       show Act.put _ (some 32) _ = _
       simp only [Act.put, setIfInBounds_toArray, set_cons_zero, set_cons_succ, i64_w, i32_w]
       rfl
      refine pS 8 33 (bA 37 511) ?_
      refine pS 9 34 (bA 37 1023) ?_
      refine pS 10 35 (bA 37 2047) ?_
      refine pS 11 36 (bA 37 4095) ?_
      refine pS 12 37 (bA 37 8191) ?_
      refine pS 14 39 (bA 37 24575) ?_
      refine pS 16 41 (bA 37 90111) ?_
      refine tS7 13 38 (bA 37 98303) hHeld ?_
      refine tS7 15 40 (bA 37 131071) hHeld ?_
      refine tS7 17 42 (bA 37 262143) hHeld ?_
      refine pS 18 43 (bA 37 524287) ?_
      refine pS 19 44 (bA 37 1048575) ?_
      refine pS 20 45 (bA 37 2097151) ?_
      refine pS 21 46 (bA 37 4194303) ?_
      refine pU 22 47 (bA 37 8388607) ?_
      refine pU 23 48 (bA 37 16777215) ?_
      refine pU 24 49 (bA 37 33554431) ?_
      refine pU 25 50 (bA 37 67108863) ?_
      refine pU 26 51 (bA 37 134217727) ?_
      refine pU 27 52 (bA 37 268435455) ?_
      refine pU 28 53 (bA 37 536870911) ?_
      refine pU 29 54 (bA 37 1073741823) ?_
      refine pU 30 55 (bA 37 2147483647) ?_
      refine pU 31 56 (bA 37 4294967295) ?_
      refine pU 32 57 (bA 37 8589934591) ?_
      refine pU 33 58 (bA 37 17179869183) ?_
      refine pU 34 59 (bA 37 34359738367) ?_
      refine pU 35 60 (bA 37 68719476735) ?_
      refine pS 36 61 (bA 37 137438953471) ?_
      refine done_ (done_of HT_.out Z112) ?_
      try go_wp2
      go_meet
      case rel => exact ⟨_, (true), Z110, H', ⟨by have := HJ1.out; first | omega | exact Nat.le_refl _⟩, ⟨pb BK74⟩, ⟨Z15⟩⟩
     replace c17 := Bool.eq_false_iff.mpr c17
     subst c17
     rw [if_neg (show ¬ (false = true) from Z16)] at H
     have H' := am H
     clear H
     try go_wp2
     replace BK74 := am (blk_drew BK74.out)
     replace HB := am (below_drew1 HB.out)
     refine start_ (n := 37) (S := fun w' => w'.cell? ⟨gb74, 0, none⟩ = some (.int .i64 a0_0) ∧ w'.cell? ⟨gb74, 1, none⟩ = some (.int .i64 a0_1) ∧ w'.cell? ⟨gb74, 2, none⟩ = some (.int .i64 a0_2) ∧ w'.cell? ⟨gb74, 3, none⟩ = some (.int .i64 a0_3) ∧ w'.cell? ⟨gb74, 4, none⟩ = some (.slice A0_4 l0_4.length c0_4) ∧ w'.cell? ⟨gb74, 5, none⟩ = some (.int .i64 a0_5) ∧ w'.cell? ⟨gb74, 6, none⟩ = some (.slice A0_6 l0_6.length c0_6)) (ds := []) (bA 37 0) Z112 rfl rfl ⟨bc BK74 0, bc BK74 1, bc BK74 2, bc BK74 3, bc BK74 4, bc BK74 5, bc BK74 6⟩ (fun hHeld => ?_); refine with_tabW Fb.tab3 Fb.bits3 (fun HT_ HW_ => ?_)
     generalize wc.drew = w27 at BK74 HB hHeld ⊢
     refine pS 0 25 (bA 37 1) ?_
     refine tS7 1 26 (bA 37 3) hHeld ?_
     refine one_ (i := 2) (N := some 27) (bA 37 7) rfl rfl (one_of HT_.out Z112) Z16 (fun K hK => ?_)
     refine goes_ Try.func62 Z112 rfl #[.agg #[.int .i64 a0_3, .slice A0_4 l0_4.length c0_4]] Z63 rfl rfl Z113 ?_
     with_reducible refine (FO.calls kj1 a0_3 _ _ l0_4 true _ ?side1 ?side2 A14.out).mono ?_
     (case side1 => exact uC HR0_4 HB)
     (case side2 => exact HC0_4.out)
     rintro e w28 ⟨rfl, hb⟩
     refine ⟨_, rfl, ?_⟩
     replace BK74 := kB BK74 hb
     replace HB := am (below_step Z15 hb)
     (try clear hb)
     (try clear hb2)
     (try clear hk)
     (try clear hi)
     refine hK.out _ _ ⟨bc BK74 0, bc BK74 1, bc BK74 2, bc BK74 3, bc BK74 4, bc BK74 5, bc BK74 6⟩ (fun hHeld => ?_)
     clear hK K
     refine norm_ (a' := ?_) ?_ ?_
     rotate_left
     ·
      show Act.put _ (some 27) _ = _
      simp only [Act.put, setIfInBounds_toArray, set_cons_zero, set_cons_succ, i64_w, i32_w]
      rfl
     refine pS 3 28 (bA 37 15) ?_
     refine pS 4 29 (bA 37 31) ?_
     refine pS 5 30 (bA 37 63) ?_
     refine tS7 6 31 (bA 37 127) hHeld ?_
     refine one_ (i := 7) (N := some 32) (bA 37 255) rfl rfl (one_of HT_.out Z112) Z16 (fun K hK => ?_)
     refine goes_ Try.func62 Z112 rfl #[.agg #[.int .i64 a0_5, .slice A0_6 l0_6.length c0_6]] Z63 rfl rfl Z113 ?_
     with_reducible refine (FO.calls kj1 a0_5 _ _ l0_6 false _ ?side1 ?side2 A16.out).mono ?_
     (case side1 => exact uC HR0_6 HB)
     (case side2 => exact HC0_6.out)
     rintro e w29 ⟨rfl, hb⟩
     refine ⟨_, rfl, ?_⟩
     replace BK74 := kB BK74 hb
     replace HB := am (below_step Z15 hb)
     (try clear hb)
     (try clear hb2)
     (try clear hk)
     (try clear hi)
     refine hK.out _ _ ⟨bc BK74 0, bc BK74 1, bc BK74 2, bc BK74 3, bc BK74 4, bc BK74 5, bc BK74 6⟩ (fun hHeld => ?_)
     clear hK K
     refine norm_ (a' := ?_) ?_ ?_
     rotate_left
     ·
      show Act.put _ (some 32) _ = _
      simp only [Act.put, setIfInBounds_toArray, set_cons_zero, set_cons_succ, i64_w, i32_w]
      rfl
     refine pS 8 33 (bA 37 511) ?_
     refine pS 9 34 (bA 37 1023) ?_
     refine pS 10 35 (bA 37 2047) ?_
     refine pU 11 36 (bA 37 4095) ?_
     refine pU 12 37 (bA 37 8191) ?_
     refine pU 13 38 (bA 37 16383) ?_
     refine pU 14 39 (bA 37 32767) ?_
     refine pU 15 40 (bA 37 65535) ?_
     refine pU 16 41 (bA 37 131071) ?_
     refine pU 17 42 (bA 37 262143) ?_
     refine pU 18 43 (bA 37 524287) ?_
     refine pU 19 44 (bA 37 1048575) ?_
     refine pS 20 45 (bA 37 2097151) ?_
     refine pS 21 46 (bA 37 4194303) ?_
     refine pU 22 47 (bA 37 8388607) ?_
     refine pU 23 48 (bA 37 16777215) ?_
     refine pU 24 49 (bA 37 33554431) ?_
     refine pU 25 50 (bA 37 67108863) ?_
     refine pU 26 51 (bA 37 134217727) ?_
     refine pU 27 52 (bA 37 268435455) ?_
     refine pU 28 53 (bA 37 536870911) ?_
     refine pU 29 54 (bA 37 1073741823) ?_
     refine pU 30 55 (bA 37 2147483647) ?_
     refine pU 31 56 (bA 37 4294967295) ?_
     refine pU 32 57 (bA 37 8589934591) ?_
     refine pU 33 58 (bA 37 17179869183) ?_
     refine pU 34 59 (bA 37 34359738367) ?_
     refine pU 35 60 (bA 37 68719476735) ?_
     refine pS 36 61 (bA 37 137438953471) ?_
     refine done_ (done_of HT_.out Z112) ?_
     try go_wp2
     go_meet
     case rel => exact ⟨_, (true), Z110, H', ⟨by have := HJ1.out; first | omega | exact Nat.le_refl _⟩, ⟨pb BK74⟩, ⟨Z15⟩⟩
    replace c15 := Bool.eq_false_iff.mpr c15
    subst c15
    rw [if_neg (show ¬ (false = true) from Z16)] at H
    have H' := am H
    clear H
    try go_wp2
    replace BK74 := am (blk_drew BK74.out)
    replace HB := am (below_drew1 HB.out)
    refine start_ (n := 37) (S := fun w' => w'.cell? ⟨gb74, 0, none⟩ = some (.int .i64 a0_0) ∧ w'.cell? ⟨gb74, 1, none⟩ = some (.int .i64 a0_1) ∧ w'.cell? ⟨gb74, 2, none⟩ = some (.int .i64 a0_2) ∧ w'.cell? ⟨gb74, 3, none⟩ = some (.int .i64 a0_3) ∧ w'.cell? ⟨gb74, 4, none⟩ = some (.slice A0_4 l0_4.length c0_4) ∧ w'.cell? ⟨gb74, 5, none⟩ = some (.int .i64 a0_5) ∧ w'.cell? ⟨gb74, 6, none⟩ = some (.slice A0_6 l0_6.length c0_6)) (ds := []) (bA 37 0) Z112 rfl rfl ⟨bc BK74 0, bc BK74 1, bc BK74 2, bc BK74 3, bc BK74 4, bc BK74 5, bc BK74 6⟩ (fun hHeld => ?_); refine with_tabW Fb.tab3 Fb.bits3 (fun HT_ HW_ => ?_)
    generalize wc.drew = w30 at BK74 HB hHeld ⊢
    refine pS 0 25 (bA 37 1) ?_
    refine tS7 1 26 (bA 37 3) hHeld ?_
    refine one_ (i := 2) (N := some 27) (bA 37 7) rfl rfl (one_of HT_.out Z112) Z16 (fun K hK => ?_)
    refine goes_ Try.func62 Z112 rfl #[.agg #[.int .i64 a0_3, .slice A0_4 l0_4.length c0_4]] Z63 rfl rfl Z113 ?_
    with_reducible refine (FO.calls kj1 a0_3 _ _ l0_4 false _ ?side1 ?side2 A14.out).mono ?_
    (case side1 => exact uC HR0_4 HB)
    (case side2 => exact HC0_4.out)
    rintro e w31 ⟨rfl, hb⟩
    refine ⟨_, rfl, ?_⟩
    replace BK74 := kB BK74 hb
    replace HB := am (below_step Z15 hb)
    (try clear hb)
    (try clear hb2)
    (try clear hk)
    (try clear hi)
    refine hK.out _ _ ⟨bc BK74 0, bc BK74 1, bc BK74 2, bc BK74 3, bc BK74 4, bc BK74 5, bc BK74 6⟩ (fun hHeld => ?_)
    clear hK K
    refine norm_ (a' := ?_) ?_ ?_
    rotate_left
    ·
     show Act.put _ (some 27) _ = _
     simp only [Act.put, setIfInBounds_toArray, set_cons_zero, set_cons_succ, i64_w, i32_w]
     rfl
    refine pS 3 28 (bA 37 15) ?_
    refine pS 4 29 (bA 37 31) ?_
    refine pU 5 30 (bA 37 63) ?_
    refine pU 6 31 (bA 37 127) ?_
    refine pU 7 32 (bA 37 255) ?_
    refine pU 8 33 (bA 37 511) ?_
    refine pS 9 34 (bA 37 1023) ?_
    refine pS 10 35 (bA 37 2047) ?_
    refine pU 11 36 (bA 37 4095) ?_
    refine pU 12 37 (bA 37 8191) ?_
    refine pU 13 38 (bA 37 16383) ?_
    refine pU 14 39 (bA 37 32767) ?_
    refine pU 15 40 (bA 37 65535) ?_
    refine pU 16 41 (bA 37 131071) ?_
    refine pU 17 42 (bA 37 262143) ?_
    refine pU 18 43 (bA 37 524287) ?_
    refine pU 19 44 (bA 37 1048575) ?_
    refine pS 20 45 (bA 37 2097151) ?_
    refine pS 21 46 (bA 37 4194303) ?_
    refine pU 22 47 (bA 37 8388607) ?_
    refine pU 23 48 (bA 37 16777215) ?_
    refine pU 24 49 (bA 37 33554431) ?_
    refine pU 25 50 (bA 37 67108863) ?_
    refine pU 26 51 (bA 37 134217727) ?_
    refine pU 27 52 (bA 37 268435455) ?_
    refine pU 28 53 (bA 37 536870911) ?_
    refine pU 29 54 (bA 37 1073741823) ?_
    refine pU 30 55 (bA 37 2147483647) ?_
    refine pU 31 56 (bA 37 4294967295) ?_
    refine pU 32 57 (bA 37 8589934591) ?_
    refine pU 33 58 (bA 37 17179869183) ?_
    refine pU 34 59 (bA 37 34359738367) ?_
    refine pU 35 60 (bA 37 68719476735) ?_
    refine pS 36 61 (bA 37 137438953471) ?_
    refine done_ (done_of HT_.out Z112) ?_
    try go_wp2
    go_meet
    case rel => exact ⟨_, (true), Z110, H', ⟨by have := HJ1.out; first | omega | exact Nat.le_refl _⟩, ⟨pb BK74⟩, ⟨Z15⟩⟩
   case rest =>
    clear HC13
    try clear c1
    try clear p2
    try clear c6
    try clear c15
    try clear c17
    obtain ⟨kq, x61_12, rfl, HA, HJ12, BK74, HB⟩ := hcut
    cases kq with
    | zero => exact absurd HA.out (by simp [Fb.j1])
    | succ kj12 =>
     have H := HA.out
     clear HA
     simp only [Fb.j1] at H
     by_cases c32 : x61_12 = true
     ·
      subst c32
      rw [if_pos rfl] at H
      obtain rfl := Option.some.inj H
      go_wp2
      go_ret
      exact ⟨Z109, Z15⟩
     replace c32 := Bool.eq_false_iff.mpr c32
     subst c32
     rw [if_neg (show ¬ (false = true) from Z16)] at H
     replace H := Option.bind_eq_some_iff.mp H
     obtain ⟨t81, A83, H⟩ := H
     try dsimp only at H
     have A33 := am A83
     clear A83
     have HC34 := am H
     clear H
     obtain ⟨hcz35_0, hcz35_1, hcz35_2, hcz35_3, hcz35_4, hcz35_5, hcz35_6, hfz35_0, hfz35_1, hfz35_2, hfz35_3, hfz35_4, hfz35_5, hfz35_6⟩ := ce7 BK74
     go_upto_region 6 with (first | ((with_reducible refine gate_callee (f := 32) rfl ?_); refine gL 63 rfl Try.func32 #[.agg #[.int .i64 a0_0, .int .i64 a0_1, .int .i64 a0_2, .int .i64 a0_3, .slice A0_4 l0_4.length c0_4, .int .i64 a0_5, .slice A0_6 l0_6.length c0_6]] ?_; (with_reducible refine (Fh.calls kj12 a0_0 a0_1 a0_2 a0_3 _ _ l0_4 a0_5 _ _ l0_6 t81 _ ?side1 ?side2 ?side3 ?side4 A33.out).mono ?_); (case side1 => exact uC HR0_4 HB); (case side2 => exact HC0_4.out); (case side3 => exact uC HR0_6 HB); (case side4 => exact HC0_6.out); rintro e w36 ⟨v84, rfl, ho0, hb⟩; refine ⟨_, rfl, ?_⟩; have HO85 := am (Kd.R_lower ho0 (below_size Z15)); replace BK74 := kB BK74 hb; replace HB := am (below_step Z15 hb); (try clear hb); (try clear hb2); (try clear hk); (try clear hi); (try clear ho0)))
     (try simp only [Act.put, setIfInBounds_toArray, set_cons_zero, set_cons_succ])
     go_cut [75] (fun v75 wc => ∃ (kq : Nat) (x75_33 : Bool), v75 = .bool x75_33 ∧ Aside0 (Fb.j2 kq t81 x75_33 a0_0 a0_1 a0_2 a0_3 l0_4 a0_5 l0_6 = some r) ∧ Aside0 (kq ≤ kj12) ∧ Aside0 (Kd.R (Kd.int .i64) 3 wc w.heap.size (fun _ => True) v84 t81) ∧ Aside0 (wc.heap[gb74]? = some (.cells #[.int .i64 a0_0, .int .i64 a0_1, .int .i64 a0_2, .int .i64 a0_3, (.slice A0_4 l0_4.length c0_4), .int .i64 a0_5, (.slice A0_6 l0_6.length c0_6)] 28 (0, 0))) ∧ Aside0 (Below w.heap.size w wc))
     case first =>
      have H := HC34.out
      clear HC34
      by_cases c37 : (t81.length : Int) = a0_0
      rotate_left
      ·
       rw [if_neg c37] at H
       have c37b0 : ((t81.length : Int) == a0_0) = false := beq_eq_false_iff_ne.mpr c37
       have c37b1 : ((t81.length : Int) != a0_0) = true := bne_iff_ne.mpr c37
       (first | rw [c37b0] | (simp only [i64_w, i32_w]; rw [c37b0]) | skip)
       have H' := am H
       clear H
       obtain ⟨Ao41, co41, eo41⟩ := Kd.R_slice HO85.out
       subst eo41
       obtain ⟨hcz42_0, hcz42_1, hcz42_2, hcz42_3, hcz42_4, hcz42_5, hcz42_6, hfz42_0, hfz42_1, hfz42_2, hfz42_3, hfz42_4, hfz42_5, hfz42_6⟩ := ce7 BK74
       go_wp2
       go_meet
       case rel => exact ⟨_, (true), Z110, H', ⟨by have := HJ1.out; have := HJ12.out; first | omega | exact Nat.le_refl _⟩, ⟨Z107⟩, ⟨pb BK74⟩, ⟨Z15⟩⟩
      rw [if_pos c37] at H
      have c37b0 : ((t81.length : Int) == a0_0) = true := beq_iff_eq.mpr c37
      have c37b1 : ((t81.length : Int) != a0_0) = false := bne_eq_false_iff_eq.mpr c37
      clear c37
      (first | rw [c37b0] | (simp only [i64_w, i32_w]; rw [c37b0]) | skip)
      replace H := Option.bind_eq_some_iff.mp H
      obtain ⟨t82, A86, H⟩ := H
      try dsimp only at H
      have A38 := am A86
      clear A86
      have H' := am H
      clear H
      obtain ⟨Ao39, co39, eo39⟩ := Kd.R_slice HO85.out
      subst eo39
      obtain ⟨hcz40_0, hcz40_1, hcz40_2, hcz40_3, hcz40_4, hcz40_5, hcz40_6, hfz40_0, hfz40_1, hfz40_2, hfz40_3, hfz40_4, hfz40_5, hfz40_6⟩ := ce7 BK74
      go_wp2_with (first | (go_at_call 43; (with_reducible refine (Fv.calls kj12 _ _ t81 a0_1 t82 _ ?side1 ?side2 A38.out).mono ?_); (case side1 => exact uD HO85); (case side2 => exact (Kd.R_reads' HO85.out).2.1); rintro e w' ⟨rfl, ⟨nd, rfl⟩⟩))
      go_meet
      case rel => exact ⟨_, (!t82), Z110, H', ⟨by have := HJ1.out; have := HJ12.out; first | omega | exact Nat.le_refl _⟩, ⟨Z107⟩, ⟨pb BK74⟩, ⟨Z15⟩⟩
     case rest =>
      clear HC34
      try clear c1
      try clear p2
      try clear c3
      try clear c6
      try clear c15
      try clear c17
      try clear c32
      try clear c37
      try clear c37b0
      try clear c37b1
      try clear hcz35_0 hcz35_1 hcz35_2 hcz35_3 hcz35_4 hcz35_5 hcz35_6 hcz40_0 hcz40_1 hcz40_2 hcz40_3 hcz40_4 hcz40_5 hcz40_6 hcz42_0 hcz42_1 hcz42_2 hcz42_3 hcz42_4 hcz42_5 hcz42_6
      try clear hfz35_0 hfz35_1 hfz35_2 hfz35_3 hfz35_4 hfz35_5 hfz35_6 hfz40_0 hfz40_1 hfz40_2 hfz40_3 hfz40_4 hfz40_5 hfz40_6 hfz42_0 hfz42_1 hfz42_2 hfz42_3 hfz42_4 hfz42_5 hfz42_6
      try clear p2
      obtain ⟨kq, x75_33, rfl, HA, HJ33, HO_3, BK74, HB⟩ := hcut
      cases kq with
      | zero => exact absurd HA.out (by simp [Fb.j2])
      | succ kj33 =>
       have H := HA.out
       clear HA
       simp only [Fb.j2] at H
       by_cases c43 : x75_33 = true
       ·
        subst c43
        rw [if_pos rfl] at H
        obtain rfl := Option.some.inj H
        go_wp2
        go_ret
        exact ⟨Z109, Z15⟩
       replace c43 := Bool.eq_false_iff.mpr c43
       subst c43
       rw [if_neg (show ¬ (false = true) from Z16)] at H
       replace H := Option.bind_eq_some_iff.mp H
       obtain ⟨⟨t87, t90, t91, t92, t93, t94, t95⟩, A96, H⟩ := H
       try dsimp only at H
       have A44 := am A96
       clear A96
       replace H := Option.bind_eq_some_iff.mp H
       obtain ⟨t88, A97, H⟩ := H
       try dsimp only at H
       have A45 := am A97
       clear A97
       by_cases c46 : t88 = true
       ·
        subst c46
        rw [if_pos rfl] at H
        replace H := Option.bind_eq_some_iff.mp H
        obtain ⟨t89, A98, H⟩ := H
        try dsimp only at H
        have A47 := am A98
        clear A98
        obtain rfl := Option.some.inj H
        obtain ⟨hcz48_0, hcz48_1, hcz48_2, hcz48_3, hcz48_4, hcz48_5, hcz48_6, hfz48_0, hfz48_1, hfz48_2, hfz48_3, hfz48_4, hfz48_5, hfz48_6⟩ := ce7 BK74
        obtain ⟨Ao49, co49, eo49⟩ := Kd.R_slice HO_3.out
        subst eo49
        go_wp2_with (first | ((with_reducible refine gate_callee (f := 31) rfl ?_); refine gL 79 rfl Try.func31 #[.slice Ao49 t81.length co49, .int .i64 a0_1] ?_; (with_reducible refine (Fk.calls kj33 _ _ t81 a0_1 t87 t90 t91 t92 t93 t94 t95 _ ?side1 ?side2 A44.out).mono ?_); (case side1 => exact uD HO_3); (case side2 => exact (Kd.R_reads' HO_3.out).2.1); rintro e w50 ⟨v99, v100, rfl, ho0, ho1, hb⟩; refine ⟨_, rfl, ?_⟩; have HO101 := am (Kd.R_lower (Kd.R_new' ho0 (Kd.R_lt (uR HO_3))) (below_size Z15)); have HO102 := am (Kd.R_lower (Kd.R_new' ho1 (Kd.R_lt (uR HO_3))) (below_size Z15)); replace HO_3 := am (Kd.R_mono (Kd.R_told (Kd.R_told (Kd.R_old (uR HO_3) hb) (Kd.R_base ho0)) (Kd.R_base ho1)) (fun _ h_ => h_.1)); replace BK74 := kB BK74 hb; replace HB := am (below_step Z15 hb); (try clear hb); (try clear hb2); (try clear hk); (try clear hi); (try clear ho0); (try clear ho1)) | ((with_reducible refine gate_dst (N := 4) rfl ?_); refine box_event ?hg (N := 4) ?hd (cs := #[.int .i64 0, .int .i64 0, .int .i64 0, .int .i64 0, .slice none 0 0, .int .i64 0, .slice none 0 0]) (t := 28) ?hr ?_; (case hd => rfl); (case hg => rfl); (case hr => exact Z111); intro gb103 hg w51 hbox hb; replace HO_3 := rB HO_3 hb; replace HO101 := rB HO101 hb; replace HO102 := rB HO102 hb; have BK103 := am (hbox); have GW103 := am ((by rw [hg]; exact (below_size Z15) : w.heap.size ≤ gb103)); have GE103 := am ((by rw [hg]; exact (below_size Z15) : w.heap.size ≤ gb103)); replace HB := am (below_step Z15 hb); have NB74_103 := nL BK74 hg; have NB103_74 := nR BK74 hg; replace BK74 := kB BK74 hb; clear hb hbox hg; have hnb52 := NB103_74.out; have hnc52 := NB74_103.out; obtain ⟨hcz53_0, hcz53_1, hcz53_2, hcz53_3, hcz53_4, hcz53_5, hcz53_6, hfz53_0, hfz53_1, hfz53_2, hfz53_3, hfz53_4, hfz53_5, hfz53_6⟩ := ce7 BK103; obtain ⟨Ao54, co54, eo54⟩ := Kd.R_slice HO101.out; subst eo54; obtain ⟨Ao55, co55, eo55⟩ := Kd.R_slice HO102.out; subst eo55; obtain ⟨hcz56_0, hcz56_1, hcz56_2, hcz56_3, hcz56_4, hcz56_5, hcz56_6, hfz56_0, hfz56_1, hfz56_2, hfz56_3, hfz56_4, hfz56_5, hfz56_6⟩ := ce7 BK74) | ((with_reducible refine gate_callee (f := 63) rfl ?_); refine gL 84 rfl Try.func63 #[.agg #[.int .i64 a0_3, .slice A0_4 l0_4.length c0_4], .agg #[.int .i64 t92, .slice Ao54 t93.length co54]] ?_; (with_reducible refine (FV.calls kj33 a0_3 _ _ l0_4 t92 _ _ t93 true _ ?side1 ?side2 ?side3 ?side4 A45.out).mono ?_); (case side1 => exact Kd.C_below HR0_4.out Z45); (case side2 => exact HC0_4.out); (case side3 => refine (Kd.R_reads' (e := 3) (base := w.heap.size) (ok := fun k_ => (some k_ ≠ (.slice Ao55 t95.length co55 : Value).ownBlock ∧ some k_ ≠ (.slice Ao49 t81.length co49 : Value).ownBlock)) (n := t93.length) (c := co54) ?_).2.2; exact (fS HO101 BK103 Z16)); (case side4 => exact (Kd.R_reads' HO101.out).2.1); rintro e w57 ⟨rfl, hb⟩; refine ⟨_, rfl, ?_⟩; replace HO_3 := am (Kd.R_below (fS HO_3 BK103 Z16) hb); replace HO101 := am (Kd.R_below (fS HO101 BK103 Z16) hb); replace HO102 := am (Kd.R_below (fS HO102 BK103 Z16) hb); replace BK74 := am (blk_below (g := gb74) (o := .cells #[.int .i64 a0_0, .int .i64 a0_1, .int .i64 a0_2, .int .i64 a0_3, .slice A0_4 l0_4.length c0_4, .int .i64 a0_5, .slice A0_6 l0_6.length c0_6] 28 (0, 0)) (pf NB74_103 (pf NB74_103 (pf NB74_103 (pf NB74_103 (pf NB74_103 (pf NB74_103 (pf NB74_103 (pb BK74)))))))) hb); replace BK103 := am (blk_below (g := gb103) (o := .cells #[.int .i64 t87, .int .i64 t90, .int .i64 t91, .int .i64 t92, .slice Ao54 t93.length co54, .int .i64 t94, .slice Ao55 t95.length co55] 28 (0, 0)) (pT (pp 6 (pp 5 (pp 4 (pp 3 (pp 2 (pp 1 (pp 0 (pb BK103))))))))) hb); replace HB := am (below_step Z45 hb); (try clear hb); (try clear hb2); (try clear hk); (try clear hi); obtain ⟨hcz58_0, hcz58_1, hcz58_2, hcz58_3, hcz58_4, hcz58_5, hcz58_6, hfz58_0, hfz58_1, hfz58_2, hfz58_3, hfz58_4, hfz58_5, hfz58_6⟩ := ce7 BK74; obtain ⟨hcz59_0, hcz59_1, hcz59_2, hcz59_3, hcz59_4, hcz59_5, hcz59_6, hfz59_0, hfz59_1, hfz59_2, hfz59_3, hfz59_4, hfz59_5, hfz59_6⟩ := ce7 BK103) | (go_at_call 63; (with_reducible refine (FV.calls kj33 a0_5 _ _ l0_6 t94 _ _ t95 t89 _ ?side1 ?side2 ?side3 ?side4 A47.out).mono ?_); (case side1 => exact uC HR0_6 HB); (case side2 => exact HC0_6.out); (case side3 => exact uD HO102); (case side4 => exact (Kd.R_reads' HO102.out).2.1); rintro e w60 ⟨rfl, hb⟩; replace HO_3 := rB HO_3 hb; replace HO101 := rB HO101 hb; replace HO102 := rB HO102 hb; replace BK74 := kB BK74 hb; replace BK103 := kB BK103 hb; replace HB := am (below_step Z45 hb); (try clear hb); (try clear hb2); (try clear hk); (try clear hi)))
        go_ret
        exact ⟨Z109, Z45⟩
       replace c46 := Bool.eq_false_iff.mpr c46
       subst c46
       rw [if_neg (show ¬ (false = true) from Z16)] at H
       obtain rfl := Option.some.inj H
       obtain ⟨hcz61_0, hcz61_1, hcz61_2, hcz61_3, hcz61_4, hcz61_5, hcz61_6, hfz61_0, hfz61_1, hfz61_2, hfz61_3, hfz61_4, hfz61_5, hfz61_6⟩ := ce7 BK74
       obtain ⟨Ao62, co62, eo62⟩ := Kd.R_slice HO_3.out
       subst eo62
       go_wp2_with (first | ((with_reducible refine gate_callee (f := 31) rfl ?_); refine gL 79 rfl Try.func31 #[.slice Ao62 t81.length co62, .int .i64 a0_1] ?_; (with_reducible refine (Fk.calls kj33 _ _ t81 a0_1 t87 t90 t91 t92 t93 t94 t95 _ ?side1 ?side2 A44.out).mono ?_); (case side1 => exact uD HO_3); (case side2 => exact (Kd.R_reads' HO_3.out).2.1); rintro e w63 ⟨v99, v100, rfl, ho0, ho1, hb⟩; refine ⟨_, rfl, ?_⟩; have HO101 := am (Kd.R_lower (Kd.R_new' ho0 (Kd.R_lt (uR HO_3))) (below_size Z15)); have HO102 := am (Kd.R_lower (Kd.R_new' ho1 (Kd.R_lt (uR HO_3))) (below_size Z15)); replace HO_3 := am (Kd.R_mono (Kd.R_told (Kd.R_told (Kd.R_old (uR HO_3) hb) (Kd.R_base ho0)) (Kd.R_base ho1)) (fun _ h_ => h_.1)); replace BK74 := kB BK74 hb; replace HB := am (below_step Z15 hb); (try clear hb); (try clear hb2); (try clear hk); (try clear hi); (try clear ho0); (try clear ho1)) | ((with_reducible refine gate_dst (N := 4) rfl ?_); refine box_event ?hg (N := 4) ?hd (cs := #[.int .i64 0, .int .i64 0, .int .i64 0, .int .i64 0, .slice none 0 0, .int .i64 0, .slice none 0 0]) (t := 28) ?hr ?_; (case hd => rfl); (case hg => rfl); (case hr => exact Z111); intro gb103 hg w64 hbox hb; replace HO_3 := rB HO_3 hb; replace HO101 := rB HO101 hb; replace HO102 := rB HO102 hb; have BK103 := am (hbox); have GW103 := am ((by rw [hg]; exact (below_size Z15) : w.heap.size ≤ gb103)); have GE103 := am ((by rw [hg]; exact (below_size Z15) : w.heap.size ≤ gb103)); replace HB := am (below_step Z15 hb); have NB74_103 := nL BK74 hg; have NB103_74 := nR BK74 hg; replace BK74 := kB BK74 hb; clear hb hbox hg; have hnb65 := NB103_74.out; have hnc65 := NB74_103.out; obtain ⟨hcz66_0, hcz66_1, hcz66_2, hcz66_3, hcz66_4, hcz66_5, hcz66_6, hfz66_0, hfz66_1, hfz66_2, hfz66_3, hfz66_4, hfz66_5, hfz66_6⟩ := ce7 BK103; obtain ⟨Ao67, co67, eo67⟩ := Kd.R_slice HO101.out; subst eo67; obtain ⟨Ao68, co68, eo68⟩ := Kd.R_slice HO102.out; subst eo68; obtain ⟨hcz69_0, hcz69_1, hcz69_2, hcz69_3, hcz69_4, hcz69_5, hcz69_6, hfz69_0, hfz69_1, hfz69_2, hfz69_3, hfz69_4, hfz69_5, hfz69_6⟩ := ce7 BK74) | ((with_reducible refine gate_callee (f := 63) rfl ?_); refine gL 84 rfl Try.func63 #[.agg #[.int .i64 a0_3, .slice A0_4 l0_4.length c0_4], .agg #[.int .i64 t92, .slice Ao67 t93.length co67]] ?_; (with_reducible refine (FV.calls kj33 a0_3 _ _ l0_4 t92 _ _ t93 false _ ?side1 ?side2 ?side3 ?side4 A45.out).mono ?_); (case side1 => exact Kd.C_below HR0_4.out Z45); (case side2 => exact HC0_4.out); (case side3 => refine (Kd.R_reads' (e := 3) (base := w.heap.size) (ok := fun k_ => (some k_ ≠ (.slice Ao68 t95.length co68 : Value).ownBlock ∧ some k_ ≠ (.slice Ao62 t81.length co62 : Value).ownBlock)) (n := t93.length) (c := co67) ?_).2.2; exact (fS HO101 BK103 Z16)); (case side4 => exact (Kd.R_reads' HO101.out).2.1); rintro e w70 ⟨rfl, hb⟩; refine ⟨_, rfl, ?_⟩; replace HO_3 := am (Kd.R_below (fS HO_3 BK103 Z16) hb); replace HO101 := am (Kd.R_below (fS HO101 BK103 Z16) hb); replace HO102 := am (Kd.R_below (fS HO102 BK103 Z16) hb); replace BK74 := am (blk_below (g := gb74) (o := .cells #[.int .i64 a0_0, .int .i64 a0_1, .int .i64 a0_2, .int .i64 a0_3, .slice A0_4 l0_4.length c0_4, .int .i64 a0_5, .slice A0_6 l0_6.length c0_6] 28 (0, 0)) (pf NB74_103 (pf NB74_103 (pf NB74_103 (pf NB74_103 (pf NB74_103 (pf NB74_103 (pf NB74_103 (pb BK74)))))))) hb); replace BK103 := am (blk_below (g := gb103) (o := .cells #[.int .i64 t87, .int .i64 t90, .int .i64 t91, .int .i64 t92, .slice Ao67 t93.length co67, .int .i64 t94, .slice Ao68 t95.length co68] 28 (0, 0)) (pT (pp 6 (pp 5 (pp 4 (pp 3 (pp 2 (pp 1 (pp 0 (pb BK103))))))))) hb); replace HB := am (below_step Z45 hb); (try clear hb); (try clear hb2); (try clear hk); (try clear hi)))
       go_ret
       exact ⟨Z109, Z45⟩

end Go.Proofs.Ytllaofiopnhdgaa.PFnSparseParts
