-- made by wip/tools/myprint.py over the kit's print, for this claim
import Derived.Test.YtllaofiopnhdgaaPFnSparsePartsx0
import Derived.Test.YtllaofiopnhdgaaPFnSparsePartsx1
import Derived.Test.YtllaofiopnhdgaaPFnSparsePartsx3
import Derived.Test.YtllaofiopnhdgaaPFnSparsePartsx4
namespace Go.Proofs.Ytllaofiopnhdgaa.PFnSparseParts
open Go.RowKit Go.Proofs.YtllaofiopnhdgaaW.PrintWords Go.Proofs.YtllaofiopnhdgaaW.PrintLast Go.Proofs.YtllaofiopnhdgaaW.PrintMore
open List (setIfInBounds_toArray set_cons_zero set_cons_succ)
attribute [local go_sem] max2_int min2_int max_two min_two max_three min_three max_four min_four   -- for this text's walks alone
set_option linter.unusedVariables false
set_option linter.unusedSimpArgs false

/-! ### Fa: function 22 -/
mutual
def Fa.j0 : Nat → Int → Bool → Int → Int → Int → Int → List Int → Int → List Int → Option (List Int × Bool)
 | 0, _, _, _, _, _, _, _, _, _ => none
 | k + 1, x4, x61, x1, x2, x3, x5, x6, x7, x8 => if x61 = true then (some (([] : List Int), false)) else (Fa.l0 k x4 (([] : List Int)) x7 0 x1 x2 x3 x5 x6 x7 x8)
def Fa.l0 : Nat → Int → List Int → Int → Int → Int → Int → Int → Int → List Int → Int → List Int → Option (List Int × Bool)
 | 0, _, _, _, _, _, _, _, _, _, _, _ => none
 | k + 1, x4, x6, x67, x68, x1, x7, x8, x9, x10, x11, x12 => if x68 < x67 then ((Fna.f x1 x7 x8 x9 x10 x11 x12 x68).bind fun t13 => (if t13 = true then (if (x6.length : Int) < x1 then (if 0 ≤ x4 then ((Fz.f k x1 x7 x8 x9 x10 x11 x12 (wrap64 ((x6.length : Int) * x4)) x4).bind fun t14 => (if x6.length < 17592186044416 then (Fa.l0 k x4 (x6 ++ [Go.bits .or .i64 (shl .i64 (wrap64 (x68 - (x6.length : Int))) x4) t14]) x67 (wrap64 (x68 + 1)) x1 x7 x8 x9 x10 x11 x12) else (none))) else (none)) else (Fa.l0 k x4 x6 x67 (wrap64 (x68 + 1)) x1 x7 x8 x9 x10 x11 x12)) else (Fa.l0 k x4 x6 x67 (wrap64 (x68 + 1)) x1 x7 x8 x9 x10 x11 x12))) else (if (x6.length : Int) = x1 then ((FB.f k x6 x7).bind fun t15 => (Fa.j2 k x6 (!t15) x1 x7 x8 x9 x10 x11 x12)) else (Fa.j2 k x6 true x1 x7 x8 x9 x10 x11 x12))
def Fa.j2 : Nat → List Int → Bool → Int → Int → Int → Int → List Int → Int → List Int → Option (List Int × Bool)
 | 0, _, _, _, _, _, _, _, _, _ => none
 | k + 1, x6, x1, x3, x4, x5, x7, x8, x9, x10 => if x1 = true then (some (([] : List Int), false)) else ((Fi.f k x6 x4).bind fun bt11 => ((FU.f k bt11.2.2.2.1 bt11.2.2.2.2.1 x7 x8).bind fun t12 => (if t12 = true then ((FU.f k bt11.2.2.2.2.2.1 bt11.2.2.2.2.2.2 x9 x10).bind fun t13 => (some (x6, t13))) else (some (x6, false)))))
end
def Fa.f (k : Nat) (a0_0 : Int) (a0_1 : Int) (a0_2 : Int) (a0_3 : Int) (l0_4 : List Int) (a0_5 : Int) (l0_6 : List Int) : Option (List Int × Bool) := (Fj.f k a0_0 a0_1).bind fun bt7 => (if bt7.2 = true then (if bt7.1 = a0_2 then ((Fl.f k a0_3 l0_4).bind fun t8 => (if t8 = true then ((Fl.f k a0_5 l0_6).bind fun t9 => (if t9 = true then (Fa.j0 k bt7.1 (a0_3 != (wrap64 (bt7.1 * a0_0))) a0_0 a0_1 a0_2 a0_3 l0_4 a0_5 l0_6) else (Fa.j0 k bt7.1 true a0_0 a0_1 a0_2 a0_3 l0_4 a0_5 l0_6))) else (Fa.j0 k bt7.1 true a0_0 a0_1 a0_2 a0_3 l0_4 a0_5 l0_6))) else (Fa.j0 k bt7.1 true a0_0 a0_1 a0_2 a0_3 l0_4 a0_5 l0_6)) else (Fa.j0 k bt7.1 true a0_0 a0_1 a0_2 a0_3 l0_4 a0_5 l0_6))
theorem Fa.mono_l : ∀ k, (∀ y0 y1 y2 y3 y4 y5 y6 y7 y8, LeO (Fa.j0 k y0 y1 y2 y3 y4 y5 y6 y7 y8) (Fa.j0 (k + 1) y0 y1 y2 y3 y4 y5 y6 y7 y8)) ∧ (∀ y0 y1 y2 y3 y4 y5 y6 y7 y8 y9 y10, LeO (Fa.l0 k y0 y1 y2 y3 y4 y5 y6 y7 y8 y9 y10) (Fa.l0 (k + 1) y0 y1 y2 y3 y4 y5 y6 y7 y8 y9 y10)) ∧ (∀ y0 y1 y2 y3 y4 y5 y6 y7 y8, LeO (Fa.j2 k y0 y1 y2 y3 y4 y5 y6 y7 y8) (Fa.j2 (k + 1) y0 y1 y2 y3 y4 y5 y6 y7 y8))
 | 0 => ⟨fun _ _ _ _ _ _ _ _ _ r h => by simp [Fa.j0] at h, fun _ _ _ _ _ _ _ _ _ _ _ r h => by simp [Fa.l0] at h, fun _ _ _ _ _ _ _ _ _ r h => by simp [Fa.j2] at h⟩ | k + 1 => by
  obtain ⟨ih0, ih1, ih2⟩ := Fa.mono_l k
  refine ⟨?_, ?_, ?_⟩
  ·
   intro y0 y1 y2 y3 y4 y5 y6 y7 y8
   unfold Fa.j0
   exact Mo5
  ·
   intro y0 y1 y2 y3 y4 y5 y6 y7 y8 y9 y10
   unfold Fa.l0
   exact Mo5
  intro y0 y1 y2 y3 y4 y5 y6 y7 y8
  unfold Fa.j2
  exact Mo5
theorem Fa.mono : ∀ a0 a1 a2 a3 a4 a5 a6 k, LeO (Fa.f k a0 a1 a2 a3 a4 a5 a6) (Fa.f (k + 1) a0 a1 a2 a3 a4 a5 a6) := by
 intro a0 a1 a2 a3 a4 a5 a6 k
 obtain ⟨ih0, ih1, ih2⟩ := Fa.mono_l k
 unfold Fa.f
 exact Mo5
def Fa.T1 : Bool × List (List Nat × List Nat) := (true, [([], []), ([0], [0]), ([1], [1]), ([2], [2]), ([], []), ([4], [4]), ([5], [5]), ([6], [6]), ([3, 7], [3, 7]), ([8], [8]), ([9], [9]), ([9], [9]), ([10, 8, 0, 1, 2, 3, 4, 5, 6, 7, 8, 9, 10], [10]), ([11, 12, 0, 1, 2, 3, 4, 5, 6, 7, 8, 9, 10, 11, 12], [11])])
def Fa.B1 : List Nat := [0, 1, 3, 7, 0, 16, 48, 112, 255, 511, 1023, 1023, 2047, 8191]
theorem Fa.tab1 : rtab .any (opsOf Try.f22 1) = Fa.T1 := by kernel_rfl
theorem Fa.bits1 : waitsOk Fa.T1.2 Fa.B1 = true := by kernel_rfl
def Fa.T2 : Bool × List (List Nat × List Nat) := (true, [([], []), ([0], [0]), ([1], [1]), ([2], [2]), ([2], [2]), ([4, 2], [2, 4]), ([5, 2], [2, 5]), ([6, 2], [2, 6]), ([3, 7, 2], [2, 3, 7]), ([2, 8], [2, 8]), ([9, 2], [9]), ([10], [10]), ([11, 10], [10, 11]), ([12, 10], [10, 12]), ([13, 10], [10, 13]), ([14, 10, 10], [10, 14]), ([15, 10], [10, 15]), ([10, 16], [10, 16]), ([17, 15], [17]), ([18], [18]), ([19, 18], [18, 19]), ([20, 18], [18, 20]), ([21, 18], [18, 21]), ([22, 18, 18], [18, 22]), ([23, 18], [18, 23]), ([18, 24], [18, 24]), ([25, 23], [25]), ([26], [26]), ([27, 26], [26, 27]), ([28, 26], [26, 28]), ([29, 26], [26, 29]), ([30, 26], [26, 30]), ([26], [26]), ([26], [26]), ([33, 26], [26, 33]), ([34, 26], [26, 34]), ([35, 26], [26, 35]), ([32, 36, 26], [26, 32, 36]), ([31, 37, 26], [26, 31, 37]), ([26, 38], [26, 38])])
def Fa.B2 : List Nat := [0, 1, 3, 7, 7, 23, 55, 119, 255, 511, 1023, 2047, 4095, 8191, 16383, 32767, 65535, 131071, 262143, 524287, 1048575, 2097151, 4194303, 8388607, 16777215, 33554431, 67108863, 134217727, 268435455, 536870911, 1073741823, 2147483647, 134217727, 134217727, 8724152319, 25904021503, 60263759871, 133278203903, 274877906943, 549755813887]
theorem Fa.tab2 : rtab .any (opsOf Try.f22 2) = Fa.T2 := by kernel_rfl
theorem Fa.bits2 : waitsOk Fa.T2.2 Fa.B2 = true := by kernel_rfl
def Fa.T10 : Bool × List (List Nat × List Nat) := (true, [([], []), ([], []), ([], []), ([1, 2], [1, 2]), ([], []), ([3, 4], [3, 4]), ([], []), ([6], [6]), ([7], [7]), ([], []), ([], []), ([9, 10], [9, 10]), ([], []), ([8, 11, 12], [8, 11, 12]), ([5, 13], [5, 13]), ([14], [14]), ([0, 15, 13], [0, 15]), ([16, 16, 0, 1, 2, 3, 4, 5, 6, 7, 8, 9, 10, 11, 12, 13, 14, 15, 16], [0, 16])])
def Fa.B10 : List Nat := [0, 0, 0, 6, 0, 30, 0, 64, 192, 0, 0, 1536, 0, 8128, 16382, 32766, 65535, 131071]
theorem Fa.tab10 : rtab .any (opsOf Try.f22 10) = Fa.T10 := by kernel_rfl
theorem Fa.bits10 : waitsOk Fa.T10.2 Fa.B10 = true := by kernel_rfl
def Fa.T15 : Bool × List (List Nat × List Nat) := (true, [([], []), ([], []), ([1], [1]), ([], []), ([3], [3]), ([4], [4]), ([5], [5]), ([2, 6], [2, 6]), ([7, 7], [7]), ([8], [8]), ([9, 8], [8, 9]), ([8], [8]), ([11, 8], [8, 11]), ([12, 8], [8, 12]), ([13, 8], [8, 13]), ([10, 14, 8, 8], [8, 10, 14]), ([8, 15], [8, 15]), ([0, 15, 0], [0]), ([16, 17, 0, 1, 2, 3, 4, 5, 6, 7, 8, 9, 10, 11, 12, 13, 14, 15, 16, 17], [16])])
def Fa.B15 : List Nat := [0, 0, 2, 0, 8, 24, 56, 126, 254, 510, 1022, 510, 2558, 6654, 14846, 32766, 65534, 65535, 262143]
theorem Fa.tab15 : rtab .any (opsOf Try.f22 15) = Fa.T15 := by kernel_rfl
theorem Fa.bits15 : waitsOk Fa.T15.2 Fa.B15 = true := by kernel_rfl
set_option maxHeartbeats 8000000 in
set_option maxRecDepth 100000 in
theorem Fa.calls (k : Nat) (g0_0 : Nat) (a0_0 : Int) (a0_1 : Int) (a0_2 : Int) (a0_3 : Int) (A0_4 : Option Addr) (c0_4 : Nat) (l0_4 : List Int) (a0_5 : Int) (A0_6 : Option Addr) (c0_6 : Nat) (l0_6 : List Int) (r1 : List Int) (r2 : Bool) (w : World) (hb0_0 : w.heap[g0_0]? = some (.cells #[.int .i64 a0_0, .int .i64 a0_1, .int .i64 a0_2, .int .i64 a0_3, .slice A0_4 l0_4.length c0_4, .int .i64 a0_5, .slice A0_6 l0_6.length c0_6] 28 (0, 0))) (hr0_4 : Kd.C (Kd.int .i64) w A0_4 l0_4.length l0_4) (hc0_4 : l0_4.length ≤ c0_4) (hr0_6 : Kd.C (Kd.int .i64) w A0_6 l0_6.length l0_6) (hc0_6 : l0_6.length ≤ c0_6) (h : Fa.f k a0_0 a0_1 a0_2 a0_3 l0_4 a0_5 l0_6 = some (r1, r2)) :
  Calls Try.prog 22 #[.pointer (some ⟨g0_0, 0, none⟩)] w fun e w' => ∃ v0_ : Value, e = .returned (.tuple #[v0_, .bool r2]) ∧ Kd.R (Kd.int .i64) 3 w' w.heap.size (fun _ => True) v0_ r1 ∧ Below w.heap.size w w' := by
 have hu26 := Try.underlying26
 have hu28 := Try.underlying28
 have HR0_4 := am hr0_4
 have HC0_4 := am hc0_4
 clear hr0_4 hc0_4
 have HR0_6 := am hr0_6
 have HC0_6 := am hc0_6
 clear hr0_6 hc0_6
 have BK81 := am hb0_0
 clear hb0_0
 have HB := am (Below.refl w.heap.size w)
 have H : ((Fj.f k a0_0 a0_1).bind fun bt82 => (if bt82.2 = true then (if bt82.1 = a0_2 then ((Fl.f k a0_3 l0_4).bind fun t83 => (if t83 = true then ((Fl.f k a0_5 l0_6).bind fun t84 => (if t84 = true then (Fa.j0 k bt82.1 (a0_3 != (wrap64 (bt82.1 * a0_0))) a0_0 a0_1 a0_2 a0_3 l0_4 a0_5 l0_6) else (Fa.j0 k bt82.1 true a0_0 a0_1 a0_2 a0_3 l0_4 a0_5 l0_6))) else (Fa.j0 k bt82.1 true a0_0 a0_1 a0_2 a0_3 l0_4 a0_5 l0_6))) else (Fa.j0 k bt82.1 true a0_0 a0_1 a0_2 a0_3 l0_4 a0_5 l0_6)) else (Fa.j0 k bt82.1 true a0_0 a0_1 a0_2 a0_3 l0_4 a0_5 l0_6))) = some (r1, r2) := h
 clear h
 replace H := Option.bind_eq_some_iff.mp H
 obtain ⟨⟨t82, t85⟩, A20, H⟩ := H
 try dsimp only at H
 have A2 := am A20
 clear A20
 have HC3 := am H
 clear H
 go_enter Try.func22, Try.ntmps22
 try go_wp2
 replace BK81 := am (blk_drew BK81.out)
 replace HB := am (below_drew1 HB.out)
 refine start_ (n := 14) (S := fun w' => w'.cell? ⟨g0_0, 0, none⟩ = some (.int .i64 a0_0) ∧ w'.cell? ⟨g0_0, 1, none⟩ = some (.int .i64 a0_1) ∧ w'.cell? ⟨g0_0, 2, none⟩ = some (.int .i64 a0_2) ∧ w'.cell? ⟨g0_0, 3, none⟩ = some (.int .i64 a0_3) ∧ w'.cell? ⟨g0_0, 4, none⟩ = some (.slice A0_4 l0_4.length c0_4) ∧ w'.cell? ⟨g0_0, 5, none⟩ = some (.int .i64 a0_5) ∧ w'.cell? ⟨g0_0, 6, none⟩ = some (.slice A0_6 l0_6.length c0_6)) (ds := []) (bA 14 0) Z112 rfl rfl ⟨bc BK81 0, bc BK81 1, bc BK81 2, bc BK81 3, bc BK81 4, bc BK81 5, bc BK81 6⟩ (fun hHeld => ?_); refine with_tabW Fa.tab1 Fa.bits1 (fun HT_ HW_ => ?_)
 generalize w.drew = w4 at BK81 HB hHeld ⊢
 refine pS 0 11 (bA 14 1) ?_
 refine pS 1 12 (bA 14 3) ?_
 refine pS 2 13 (bA 14 7) ?_
 refine pS 4 15 (bA 14 23) ?_
 refine pS 5 16 (bA 14 55) ?_
 refine pS 6 17 (bA 14 119) ?_
 refine tS7 3 14 (bA 14 127) hHeld ?_
 refine tS7 7 18 (bA 14 255) hHeld ?_
 refine one_ (i := 8) (N := some 19) (bA 14 511) rfl rfl (one_of HT_.out Z112) Z16 (fun K hK => ?_)
 refine goes_ Try.func49 Z112 rfl #[.int .i64 a0_0, .int .i64 a0_1] Z63 rfl rfl Z113 ?_
 with_reducible refine (Fj.calls k a0_0 a0_1 t82 t85 _ A2.out).mono ?_
 rintro e w5 ⟨rfl, hb⟩
 refine ⟨_, rfl, ?_⟩
 replace BK81 := kB BK81 hb
 replace HB := am (below_step Z11 hb)
 (try clear hb)
 (try clear hb2)
 (try clear hk)
 (try clear hi)
 refine hK.out _ _ ⟨bc BK81 0, bc BK81 1, bc BK81 2, bc BK81 3, bc BK81 4, bc BK81 5, bc BK81 6⟩ (fun hHeld => ?_)
 clear hK K
 refine norm_ (a' := ?_) ?_ ?_
 rotate_left
 ·
  show Act.put _ (some 19) _ = _
  simp only [Act.put, setIfInBounds_toArray, set_cons_zero, set_cons_succ, i64_w, i32_w]
  rfl
 refine pS 9 10 (bA 14 1023) ?_
 refine pS 10 20 (bA 14 2047) ?_
 refine pS 11 21 (bA 14 4095) ?_
 refine pS 12 4 (bA 14 8191) ?_
 refine pS 13 5 (bA 14 16383) ?_
 refine done_ (done_of HT_.out Z112) ?_
 go_upto_region 2 with (fail)
 go_cut [61] (fun v61 wc => ∃ (kq : Nat) (x61_2 : Bool), v61 = .bool x61_2 ∧ Aside0 (Fa.j0 kq t82 x61_2 a0_0 a0_1 a0_2 a0_3 l0_4 a0_5 l0_6 = some (r1, r2)) ∧ Aside0 (kq ≤ k) ∧ Aside0 (wc.heap[g0_0]? = some (.cells #[.int .i64 a0_0, .int .i64 a0_1, .int .i64 a0_2, .int .i64 a0_3, (.slice A0_4 l0_4.length c0_4), .int .i64 a0_5, (.slice A0_6 l0_6.length c0_6)] 28 (0, 0))) ∧ Aside0 (Below w.heap.size w wc))
 case first =>
  have H := HC3.out
  clear HC3
  by_cases c6 : t85 = true
  rotate_left
  ·
   replace c6 := Bool.eq_false_iff.mpr c6
   subst c6
   rw [if_neg (show ¬ (false = true) from Z16)] at H
   have H' := am H
   clear H
   try go_wp2
   replace BK81 := am (blk_drew BK81.out)
   replace HB := am (below_drew1 HB.out)
   refine start_ (n := 40) (S := fun w' => True) (ds := []) (bA 40 0) Z112 rfl rfl trivial (fun hHeld => ?_); refine with_tabW Fa.tab2 Fa.bits2 (fun HT_ HW_ => ?_)
   generalize w5.drew = w21 at BK81 HB hHeld ⊢
   refine pS 0 22 (bA 40 1) ?_
   refine pS 1 23 (bA 40 3) ?_
   refine pS 2 24 (bA 40 7) ?_
   refine pU 3 25 (bA 40 15) ?_
   refine pU 4 26 (bA 40 31) ?_
   refine pU 5 27 (bA 40 63) ?_
   refine pU 6 28 (bA 40 127) ?_
   refine pU 7 29 (bA 40 255) ?_
   refine pU 8 30 (bA 40 511) ?_
   refine pS 9 31 (bA 40 1023) ?_
   refine pS 10 32 (bA 40 2047) ?_
   refine pU 11 33 (bA 40 4095) ?_
   refine pU 12 34 (bA 40 8191) ?_
   refine pU 13 35 (bA 40 16383) ?_
   refine pU 14 36 (bA 40 32767) ?_
   refine pU 15 37 (bA 40 65535) ?_
   refine pU 16 38 (bA 40 131071) ?_
   refine pS 17 39 (bA 40 262143) ?_
   refine pS 18 40 (bA 40 524287) ?_
   refine pU 19 41 (bA 40 1048575) ?_
   refine pU 20 42 (bA 40 2097151) ?_
   refine pU 21 43 (bA 40 4194303) ?_
   refine pU 22 44 (bA 40 8388607) ?_
   refine pU 23 45 (bA 40 16777215) ?_
   refine pU 24 46 (bA 40 33554431) ?_
   refine pS 25 47 (bA 40 67108863) ?_
   refine pS 26 48 (bA 40 134217727) ?_
   refine pU 27 49 (bA 40 268435455) ?_
   refine pU 28 50 (bA 40 536870911) ?_
   refine pU 29 51 (bA 40 1073741823) ?_
   refine pU 30 52 (bA 40 2147483647) ?_
   refine pU 31 53 (bA 40 4294967295) ?_
   refine pU 32 54 (bA 40 8589934591) ?_
   refine pU 33 55 (bA 40 17179869183) ?_
   refine pU 34 56 (bA 40 34359738367) ?_
   refine pU 35 57 (bA 40 68719476735) ?_
   refine pU 36 58 (bA 40 137438953471) ?_
   refine pU 37 59 (bA 40 274877906943) ?_
   refine pU 38 60 (bA 40 549755813887) ?_
   refine pS 39 61 (bA 40 1099511627775) ?_
   refine done_ (done_of HT_.out Z112) ?_
   try go_wp2
   go_meet
   case rel => exact ⟨_, (true), Z110, H', ⟨Z129⟩, ⟨pb BK81⟩, ⟨Z11⟩⟩
  subst c6
  rw [if_pos rfl] at H
  by_cases c7 : t82 = a0_2
  ·
   rw [if_pos c7] at H
   have c7b0 : (t82 == a0_2) = true := beq_iff_eq.mpr c7
   have c7b1 : (t82 != a0_2) = false := bne_eq_false_iff_eq.mpr c7
   clear c7
   (first | rw [c7b0] | (simp only [i64_w, i32_w]; rw [c7b0]) | skip)
   replace H := Option.bind_eq_some_iff.mp H
   obtain ⟨t83, A80, H⟩ := H
   try dsimp only at H
   have A8 := am A80
   clear A80
   by_cases c9 : t83 = true
   ·
    subst c9
    rw [if_pos rfl] at H
    replace H := Option.bind_eq_some_iff.mp H
    obtain ⟨t84, A86, H⟩ := H
    try dsimp only at H
    have A10 := am A86
    clear A86
    by_cases c11 : t84 = true
    ·
     subst c11
     rw [if_pos rfl] at H
     have H' := am H
     clear H
     try go_wp2
     replace BK81 := am (blk_drew BK81.out)
     replace HB := am (below_drew1 HB.out)
     refine start_ (n := 40) (S := fun w' => w'.cell? ⟨g0_0, 0, none⟩ = some (.int .i64 a0_0) ∧ w'.cell? ⟨g0_0, 1, none⟩ = some (.int .i64 a0_1) ∧ w'.cell? ⟨g0_0, 2, none⟩ = some (.int .i64 a0_2) ∧ w'.cell? ⟨g0_0, 3, none⟩ = some (.int .i64 a0_3) ∧ w'.cell? ⟨g0_0, 4, none⟩ = some (.slice A0_4 l0_4.length c0_4) ∧ w'.cell? ⟨g0_0, 5, none⟩ = some (.int .i64 a0_5) ∧ w'.cell? ⟨g0_0, 6, none⟩ = some (.slice A0_6 l0_6.length c0_6)) (ds := []) (bA 40 0) Z112 rfl rfl ⟨bc BK81 0, bc BK81 1, bc BK81 2, bc BK81 3, bc BK81 4, bc BK81 5, bc BK81 6⟩ (fun hHeld => ?_); refine with_tabW Fa.tab2 Fa.bits2 (fun HT_ HW_ => ?_)
     generalize w5.drew = w12 at BK81 HB hHeld ⊢
     refine pS 0 22 (bA 40 1) ?_
     refine pS 1 23 (bA 40 3) ?_
     refine pS 2 24 (bA 40 7) ?_
     refine pS 3 25 (bA 40 15) ?_
     refine pS 4 26 (bA 40 31) ?_
     refine pS 5 27 (bA 40 63) ?_
     refine pS 6 28 (bA 40 127) ?_
     refine tS7 7 29 (bA 40 255) hHeld ?_
     refine pS 8 30 (bA 40 511) ?_
     refine pS 9 31 (bA 40 1023) ?_
     refine pS 10 32 (bA 40 2047) ?_
     refine pS 11 33 (bA 40 4095) ?_
     refine pS 12 34 (bA 40 8191) ?_
     refine pS 13 35 (bA 40 16383) ?_
     refine tS7 14 36 (bA 40 32767) hHeld ?_
     refine one_ (i := 15) (N := some 37) (bA 40 65535) rfl rfl (one_of HT_.out Z112) Z16 (fun K hK => ?_)
     refine goes_ Try.func50 Z112 rfl #[.agg #[.int .i64 a0_3, .slice A0_4 l0_4.length c0_4]] Z63 rfl rfl Z113 ?_
     with_reducible refine (Fl.calls k a0_3 _ _ l0_4 true _ ?side1 ?side2 A8.out).mono ?_
     (case side1 => exact uC HR0_4 HB)
     (case side2 => exact HC0_4.out)
     rintro e w13 ⟨rfl, hb⟩
     refine ⟨_, rfl, ?_⟩
     replace BK81 := kB BK81 hb
     replace HB := am (below_step Z11 hb)
     (try clear hb)
     (try clear hb2)
     (try clear hk)
     (try clear hi)
     refine hK.out _ _ ⟨bc BK81 0, bc BK81 1, bc BK81 2, bc BK81 3, bc BK81 4, bc BK81 5, bc BK81 6⟩ (fun hHeld => ?_)
     clear hK K
     refine norm_ (a' := ?_) ?_ ?_
     rotate_left
     ·
      show Act.put _ (some 37) _ = _
      simp only [Act.put, setIfInBounds_toArray, set_cons_zero, set_cons_succ, i64_w, i32_w]
      rfl
     refine pS 16 38 (bA 40 131071) ?_
     refine pS 17 39 (bA 40 262143) ?_
     refine pS 18 40 (bA 40 524287) ?_
     refine pS 19 41 (bA 40 1048575) ?_
     refine pS 20 42 (bA 40 2097151) ?_
     refine pS 21 43 (bA 40 4194303) ?_
     refine tS7 22 44 (bA 40 8388607) hHeld ?_
     refine one_ (i := 23) (N := some 45) (bA 40 16777215) rfl rfl (one_of HT_.out Z112) Z16 (fun K hK => ?_)
     refine goes_ Try.func50 Z112 rfl #[.agg #[.int .i64 a0_5, .slice A0_6 l0_6.length c0_6]] Z63 rfl rfl Z113 ?_
     with_reducible refine (Fl.calls k a0_5 _ _ l0_6 true _ ?side1 ?side2 A10.out).mono ?_
     (case side1 => exact uC HR0_6 HB)
     (case side2 => exact HC0_6.out)
     rintro e w14 ⟨rfl, hb⟩
     refine ⟨_, rfl, ?_⟩
     replace BK81 := kB BK81 hb
     replace HB := am (below_step Z11 hb)
     (try clear hb)
     (try clear hb2)
     (try clear hk)
     (try clear hi)
     refine hK.out _ _ ⟨bc BK81 0, bc BK81 1, bc BK81 2, bc BK81 3, bc BK81 4, bc BK81 5, bc BK81 6⟩ (fun hHeld => ?_)
     clear hK K
     refine norm_ (a' := ?_) ?_ ?_
     rotate_left
     ·
      show Act.put _ (some 45) _ = _
      simp only [Act.put, setIfInBounds_toArray, set_cons_zero, set_cons_succ, i64_w, i32_w]
      rfl
     refine pS 24 46 (bA 40 33554431) ?_
     refine pS 25 47 (bA 40 67108863) ?_
     refine pS 26 48 (bA 40 134217727) ?_
     refine pS 27 49 (bA 40 268435455) ?_
     refine pS 28 50 (bA 40 536870911) ?_
     refine pS 29 51 (bA 40 1073741823) ?_
     refine pS 30 52 (bA 40 2147483647) ?_
     refine pS 32 54 (bA 40 6442450943) ?_
     refine pS 33 55 (bA 40 15032385535) ?_
     refine pS 34 56 (bA 40 32212254719) ?_
     refine pS 35 57 (bA 40 66571993087) ?_
     refine tS7 31 53 (bA 40 68719476735) hHeld ?_
     refine tS7 36 58 (bA 40 137438953471) hHeld ?_
     refine pS 37 59 (bA 40 274877906943) ?_
     refine pS 38 60 (bA 40 549755813887) ?_
     refine pS 39 61 (bA 40 1099511627775) ?_
     refine done_ (done_of HT_.out Z112) ?_
     try go_wp2
     go_meet
     case rel => exact ⟨_, ((a0_3 != (wrap64 (t82 * a0_0)))), Z110, H', ⟨Z129⟩, ⟨pb BK81⟩, ⟨Z11⟩⟩
    replace c11 := Bool.eq_false_iff.mpr c11
    subst c11
    rw [if_neg (show ¬ (false = true) from Z16)] at H
    have H' := am H
    clear H
    try go_wp2
    replace BK81 := am (blk_drew BK81.out)
    replace HB := am (below_drew1 HB.out)
    refine start_ (n := 40) (S := fun w' => w'.cell? ⟨g0_0, 0, none⟩ = some (.int .i64 a0_0) ∧ w'.cell? ⟨g0_0, 1, none⟩ = some (.int .i64 a0_1) ∧ w'.cell? ⟨g0_0, 2, none⟩ = some (.int .i64 a0_2) ∧ w'.cell? ⟨g0_0, 3, none⟩ = some (.int .i64 a0_3) ∧ w'.cell? ⟨g0_0, 4, none⟩ = some (.slice A0_4 l0_4.length c0_4) ∧ w'.cell? ⟨g0_0, 5, none⟩ = some (.int .i64 a0_5) ∧ w'.cell? ⟨g0_0, 6, none⟩ = some (.slice A0_6 l0_6.length c0_6)) (ds := []) (bA 40 0) Z112 rfl rfl ⟨bc BK81 0, bc BK81 1, bc BK81 2, bc BK81 3, bc BK81 4, bc BK81 5, bc BK81 6⟩ (fun hHeld => ?_); refine with_tabW Fa.tab2 Fa.bits2 (fun HT_ HW_ => ?_)
    generalize w5.drew = w15 at BK81 HB hHeld ⊢
    refine pS 0 22 (bA 40 1) ?_
    refine pS 1 23 (bA 40 3) ?_
    refine pS 2 24 (bA 40 7) ?_
    refine pS 3 25 (bA 40 15) ?_
    refine pS 4 26 (bA 40 31) ?_
    refine pS 5 27 (bA 40 63) ?_
    refine pS 6 28 (bA 40 127) ?_
    refine tS7 7 29 (bA 40 255) hHeld ?_
    refine pS 8 30 (bA 40 511) ?_
    refine pS 9 31 (bA 40 1023) ?_
    refine pS 10 32 (bA 40 2047) ?_
    refine pS 11 33 (bA 40 4095) ?_
    refine pS 12 34 (bA 40 8191) ?_
    refine pS 13 35 (bA 40 16383) ?_
    refine tS7 14 36 (bA 40 32767) hHeld ?_
    refine one_ (i := 15) (N := some 37) (bA 40 65535) rfl rfl (one_of HT_.out Z112) Z16 (fun K hK => ?_)
    refine goes_ Try.func50 Z112 rfl #[.agg #[.int .i64 a0_3, .slice A0_4 l0_4.length c0_4]] Z63 rfl rfl Z113 ?_
    with_reducible refine (Fl.calls k a0_3 _ _ l0_4 true _ ?side1 ?side2 A8.out).mono ?_
    (case side1 => exact uC HR0_4 HB)
    (case side2 => exact HC0_4.out)
    rintro e w16 ⟨rfl, hb⟩
    refine ⟨_, rfl, ?_⟩
    replace BK81 := kB BK81 hb
    replace HB := am (below_step Z11 hb)
    (try clear hb)
    (try clear hb2)
    (try clear hk)
    (try clear hi)
    refine hK.out _ _ ⟨bc BK81 0, bc BK81 1, bc BK81 2, bc BK81 3, bc BK81 4, bc BK81 5, bc BK81 6⟩ (fun hHeld => ?_)
    clear hK K
    refine norm_ (a' := ?_) ?_ ?_
    rotate_left
    ·
     show Act.put _ (some 37) _ = _
     simp only [Act.put, setIfInBounds_toArray, set_cons_zero, set_cons_succ, i64_w, i32_w]
     rfl
    refine pS 16 38 (bA 40 131071) ?_
    refine pS 17 39 (bA 40 262143) ?_
    refine pS 18 40 (bA 40 524287) ?_
    refine pS 19 41 (bA 40 1048575) ?_
    refine pS 20 42 (bA 40 2097151) ?_
    refine pS 21 43 (bA 40 4194303) ?_
    refine tS7 22 44 (bA 40 8388607) hHeld ?_
    refine one_ (i := 23) (N := some 45) (bA 40 16777215) rfl rfl (one_of HT_.out Z112) Z16 (fun K hK => ?_)
    refine goes_ Try.func50 Z112 rfl #[.agg #[.int .i64 a0_5, .slice A0_6 l0_6.length c0_6]] Z63 rfl rfl Z113 ?_
    with_reducible refine (Fl.calls k a0_5 _ _ l0_6 false _ ?side1 ?side2 A10.out).mono ?_
    (case side1 => exact uC HR0_6 HB)
    (case side2 => exact HC0_6.out)
    rintro e w17 ⟨rfl, hb⟩
    refine ⟨_, rfl, ?_⟩
    replace BK81 := kB BK81 hb
    replace HB := am (below_step Z11 hb)
    (try clear hb)
    (try clear hb2)
    (try clear hk)
    (try clear hi)
    refine hK.out _ _ ⟨bc BK81 0, bc BK81 1, bc BK81 2, bc BK81 3, bc BK81 4, bc BK81 5, bc BK81 6⟩ (fun hHeld => ?_)
    clear hK K
    refine norm_ (a' := ?_) ?_ ?_
    rotate_left
    ·
     show Act.put _ (some 45) _ = _
     simp only [Act.put, setIfInBounds_toArray, set_cons_zero, set_cons_succ, i64_w, i32_w]
     rfl
    refine pS 24 46 (bA 40 33554431) ?_
    refine pS 25 47 (bA 40 67108863) ?_
    refine pS 26 48 (bA 40 134217727) ?_
    refine pU 27 49 (bA 40 268435455) ?_
    refine pU 28 50 (bA 40 536870911) ?_
    refine pU 29 51 (bA 40 1073741823) ?_
    refine pU 30 52 (bA 40 2147483647) ?_
    refine pU 31 53 (bA 40 4294967295) ?_
    refine pU 32 54 (bA 40 8589934591) ?_
    refine pU 33 55 (bA 40 17179869183) ?_
    refine pU 34 56 (bA 40 34359738367) ?_
    refine pU 35 57 (bA 40 68719476735) ?_
    refine pU 36 58 (bA 40 137438953471) ?_
    refine pU 37 59 (bA 40 274877906943) ?_
    refine pU 38 60 (bA 40 549755813887) ?_
    refine pS 39 61 (bA 40 1099511627775) ?_
    refine done_ (done_of HT_.out Z112) ?_
    try go_wp2
    go_meet
    case rel => exact ⟨_, (true), Z110, H', ⟨Z129⟩, ⟨pb BK81⟩, ⟨Z11⟩⟩
   replace c9 := Bool.eq_false_iff.mpr c9
   subst c9
   rw [if_neg (show ¬ (false = true) from Z16)] at H
   have H' := am H
   clear H
   try go_wp2
   replace BK81 := am (blk_drew BK81.out)
   replace HB := am (below_drew1 HB.out)
   refine start_ (n := 40) (S := fun w' => w'.cell? ⟨g0_0, 0, none⟩ = some (.int .i64 a0_0) ∧ w'.cell? ⟨g0_0, 1, none⟩ = some (.int .i64 a0_1) ∧ w'.cell? ⟨g0_0, 2, none⟩ = some (.int .i64 a0_2) ∧ w'.cell? ⟨g0_0, 3, none⟩ = some (.int .i64 a0_3) ∧ w'.cell? ⟨g0_0, 4, none⟩ = some (.slice A0_4 l0_4.length c0_4) ∧ w'.cell? ⟨g0_0, 5, none⟩ = some (.int .i64 a0_5) ∧ w'.cell? ⟨g0_0, 6, none⟩ = some (.slice A0_6 l0_6.length c0_6)) (ds := []) (bA 40 0) Z112 rfl rfl ⟨bc BK81 0, bc BK81 1, bc BK81 2, bc BK81 3, bc BK81 4, bc BK81 5, bc BK81 6⟩ (fun hHeld => ?_); refine with_tabW Fa.tab2 Fa.bits2 (fun HT_ HW_ => ?_)
   generalize w5.drew = w18 at BK81 HB hHeld ⊢
   refine pS 0 22 (bA 40 1) ?_
   refine pS 1 23 (bA 40 3) ?_
   refine pS 2 24 (bA 40 7) ?_
   refine pS 3 25 (bA 40 15) ?_
   refine pS 4 26 (bA 40 31) ?_
   refine pS 5 27 (bA 40 63) ?_
   refine pS 6 28 (bA 40 127) ?_
   refine tS7 7 29 (bA 40 255) hHeld ?_
   refine pS 8 30 (bA 40 511) ?_
   refine pS 9 31 (bA 40 1023) ?_
   refine pS 10 32 (bA 40 2047) ?_
   refine pS 11 33 (bA 40 4095) ?_
   refine pS 12 34 (bA 40 8191) ?_
   refine pS 13 35 (bA 40 16383) ?_
   refine tS7 14 36 (bA 40 32767) hHeld ?_
   refine one_ (i := 15) (N := some 37) (bA 40 65535) rfl rfl (one_of HT_.out Z112) Z16 (fun K hK => ?_)
   refine goes_ Try.func50 Z112 rfl #[.agg #[.int .i64 a0_3, .slice A0_4 l0_4.length c0_4]] Z63 rfl rfl Z113 ?_
   with_reducible refine (Fl.calls k a0_3 _ _ l0_4 false _ ?side1 ?side2 A8.out).mono ?_
   (case side1 => exact uC HR0_4 HB)
   (case side2 => exact HC0_4.out)
   rintro e w19 ⟨rfl, hb⟩
   refine ⟨_, rfl, ?_⟩
   replace BK81 := kB BK81 hb
   replace HB := am (below_step Z11 hb)
   (try clear hb)
   (try clear hb2)
   (try clear hk)
   (try clear hi)
   refine hK.out _ _ ⟨bc BK81 0, bc BK81 1, bc BK81 2, bc BK81 3, bc BK81 4, bc BK81 5, bc BK81 6⟩ (fun hHeld => ?_)
   clear hK K
   refine norm_ (a' := ?_) ?_ ?_
   rotate_left
   ·
    show Act.put _ (some 37) _ = _
    simp only [Act.put, setIfInBounds_toArray, set_cons_zero, set_cons_succ, i64_w, i32_w]
    rfl
   refine pS 16 38 (bA 40 131071) ?_
   refine pS 17 39 (bA 40 262143) ?_
   refine pS 18 40 (bA 40 524287) ?_
   refine pU 19 41 (bA 40 1048575) ?_
   refine pU 20 42 (bA 40 2097151) ?_
   refine pU 21 43 (bA 40 4194303) ?_
   refine pU 22 44 (bA 40 8388607) ?_
   refine pU 23 45 (bA 40 16777215) ?_
   refine pU 24 46 (bA 40 33554431) ?_
   refine pS 25 47 (bA 40 67108863) ?_
   refine pS 26 48 (bA 40 134217727) ?_
   refine pU 27 49 (bA 40 268435455) ?_
   refine pU 28 50 (bA 40 536870911) ?_
   refine pU 29 51 (bA 40 1073741823) ?_
   refine pU 30 52 (bA 40 2147483647) ?_
   refine pU 31 53 (bA 40 4294967295) ?_
   refine pU 32 54 (bA 40 8589934591) ?_
   refine pU 33 55 (bA 40 17179869183) ?_
   refine pU 34 56 (bA 40 34359738367) ?_
   refine pU 35 57 (bA 40 68719476735) ?_
   refine pU 36 58 (bA 40 137438953471) ?_
   refine pU 37 59 (bA 40 274877906943) ?_
   refine pU 38 60 (bA 40 549755813887) ?_
   refine pS 39 61 (bA 40 1099511627775) ?_
   refine done_ (done_of HT_.out Z112) ?_
   try go_wp2
   go_meet
   case rel => exact ⟨_, (true), Z110, H', ⟨Z129⟩, ⟨pb BK81⟩, ⟨Z11⟩⟩
  rw [if_neg c7] at H
  have c7b0 : (t82 == a0_2) = false := beq_eq_false_iff_ne.mpr c7
  have c7b1 : (t82 != a0_2) = true := bne_iff_ne.mpr c7
  (first | rw [c7b0] | (simp only [i64_w, i32_w]; rw [c7b0]) | skip)
  have H' := am H
  clear H
  try go_wp2
  replace BK81 := am (blk_drew BK81.out)
  replace HB := am (below_drew1 HB.out)
  refine start_ (n := 40) (S := fun w' => w'.cell? ⟨g0_0, 0, none⟩ = some (.int .i64 a0_0) ∧ w'.cell? ⟨g0_0, 1, none⟩ = some (.int .i64 a0_1) ∧ w'.cell? ⟨g0_0, 2, none⟩ = some (.int .i64 a0_2) ∧ w'.cell? ⟨g0_0, 3, none⟩ = some (.int .i64 a0_3) ∧ w'.cell? ⟨g0_0, 4, none⟩ = some (.slice A0_4 l0_4.length c0_4) ∧ w'.cell? ⟨g0_0, 5, none⟩ = some (.int .i64 a0_5) ∧ w'.cell? ⟨g0_0, 6, none⟩ = some (.slice A0_6 l0_6.length c0_6)) (ds := []) (bA 40 0) Z112 rfl rfl ⟨bc BK81 0, bc BK81 1, bc BK81 2, bc BK81 3, bc BK81 4, bc BK81 5, bc BK81 6⟩ (fun hHeld => ?_); refine with_tabW Fa.tab2 Fa.bits2 (fun HT_ HW_ => ?_)
  generalize w5.drew = w20 at BK81 HB hHeld ⊢
  refine pS 0 22 (bA 40 1) ?_
  refine pS 1 23 (bA 40 3) ?_
  refine pS 2 24 (bA 40 7) ?_
  refine pS 3 25 (bA 40 15) ?_
  refine pS 4 26 (bA 40 31) ?_
  refine pS 5 27 (bA 40 63) ?_
  refine pS 6 28 (bA 40 127) ?_
  refine tS7 7 29 (bA 40 255) hHeld ?_
  refine pS 8 30 (bA 40 511) ?_
  refine pS 9 31 (bA 40 1023) ?_
  refine pS 10 32 (bA 40 2047) ?_
  refine pU 11 33 (bA 40 4095) ?_
  refine pU 12 34 (bA 40 8191) ?_
  refine pU 13 35 (bA 40 16383) ?_
  refine pU 14 36 (bA 40 32767) ?_
  refine pU 15 37 (bA 40 65535) ?_
  refine pU 16 38 (bA 40 131071) ?_
  refine pS 17 39 (bA 40 262143) ?_
  refine pS 18 40 (bA 40 524287) ?_
  refine pU 19 41 (bA 40 1048575) ?_
  refine pU 20 42 (bA 40 2097151) ?_
  refine pU 21 43 (bA 40 4194303) ?_
  refine pU 22 44 (bA 40 8388607) ?_
  refine pU 23 45 (bA 40 16777215) ?_
  refine pU 24 46 (bA 40 33554431) ?_
  refine pS 25 47 (bA 40 67108863) ?_
  refine pS 26 48 (bA 40 134217727) ?_
  refine pU 27 49 (bA 40 268435455) ?_
  refine pU 28 50 (bA 40 536870911) ?_
  refine pU 29 51 (bA 40 1073741823) ?_
  refine pU 30 52 (bA 40 2147483647) ?_
  refine pU 31 53 (bA 40 4294967295) ?_
  refine pU 32 54 (bA 40 8589934591) ?_
  refine pU 33 55 (bA 40 17179869183) ?_
  refine pU 34 56 (bA 40 34359738367) ?_
  refine pU 35 57 (bA 40 68719476735) ?_
  refine pU 36 58 (bA 40 137438953471) ?_
  refine pU 37 59 (bA 40 274877906943) ?_
  refine pU 38 60 (bA 40 549755813887) ?_
  refine pS 39 61 (bA 40 1099511627775) ?_
  refine done_ (done_of HT_.out Z112) ?_
  try go_wp2
  go_meet
  case rel => exact ⟨_, (true), Z110, H', ⟨Z129⟩, ⟨pb BK81⟩, ⟨Z11⟩⟩
 case rest =>
  clear HC3
  try clear p2
  try clear c6
  try clear c7
  try clear c7b0
  try clear c7b1
  obtain ⟨kq, x61_2, rfl, HA, HJ2, BK81, HB⟩ := hcut
  cases kq with
  | zero => exact absurd HA.out (by simp [Fa.j0])
  | succ kj2 =>
   have H := HA.out
   clear HA
   simp only [Fa.j0] at H
   by_cases c22 : x61_2 = true
   ·
    subst c22
    rw [if_pos rfl] at H
    simp only [Option.some.injEq, Prod.mk.injEq] at H
    obtain ⟨rfl, rfl⟩ := H
    go_wp2
    go_ret2
    exact ⟨_, Z109, Z23, Z11⟩
   replace c22 := Bool.eq_false_iff.mpr c22
   subst c22
   rw [if_neg (show ¬ (false = true) from Z16)] at H
   obtain ⟨y87, hy87⟩ : ∃ y_ : List Int, y_ = (([] : List Int)) := ⟨_, rfl⟩
   replace H : (Fa.l0 kj2 t82 y87 a0_5 0 a0_0 a0_1 a0_2 a0_3 l0_4 a0_5 l0_6) = some (r1, r2) := by first | (rw [hy87]; with_reducible exact H) | (have H2_ := (Option.bind_some _ _).symm.trans H; rw [hy87]; with_reducible exact H2_) | (have H2_ := (Option.bind_some _ _).symm.trans H; with_reducible exact H2_) | with_reducible exact H | (rw [hy87]; exact H) | exact H
   have Ny87 := am hy87
   clear hy87
   have H' := am H
   clear H
   go_wp2_with (first | ((with_reducible refine gate_dst (N := 62) rfl ?_); refine Kd.R_lit (Kd.int .i64) _ 3 ?hg (N := 62) ?hd (xs := ([] : List Int)) (inner := []) (ok := fun _ => True) (okp := fun _ => True) ?hr ?hp (fun _ hk => hk) trivial (Below.refl _ _) (Nat.le_refl _) Z43 ?_; (case hd => rfl); (case hg => rfl); (case hr => exact Z111); (case hp => exact (Reps.none _ _)); intro v88 w23 ho24 hb hg_ hnew_; clear hg_ hnew_; (first | rw [← Ny87.out] at ho24 | (simp only [Int.reduceToNat] at ho24; rw [← Ny87.out] at ho24)); have HO89 := am (Kd.R_lower ho24 (below_size Z11)); replace BK81 := kB BK81 hb; replace HB := am (below_step Z11 hb); clear hb ho24; obtain ⟨hcz25_0, hcz25_1, hcz25_2, hcz25_3, hcz25_4, hcz25_5, hcz25_6, hfz25_0, hfz25_1, hfz25_2, hfz25_3, hfz25_4, hfz25_5, hfz25_6⟩ := ce7 BK81))
   go_loopg [6, 68] kj2 (fun kq v6 v68 w' => ∃ (x6_2 : List Int) (x68_2 : Int), v68 = .int .i64 x68_2 ∧ Aside0 (Fa.l0 kq t82 x6_2 a0_5 x68_2 a0_0 a0_1 a0_2 a0_3 l0_4 a0_5 l0_6 = some (r1, r2)) ∧ Aside0 (kq ≤ kj2) ∧ Aside0 (Kd.R (Kd.int .i64) 3 w' w.heap.size (fun _ => True) v6 x6_2) ∧ Aside0 (w'.heap[g0_0]? = some (.cells #[.int .i64 a0_0, .int .i64 a0_1, .int .i64 a0_2, .int .i64 a0_3, (.slice A0_4 l0_4.length c0_4), .int .i64 a0_5, (.slice A0_6 l0_6.length c0_6)] 28 (0, 0))) ∧ Aside0 (Below w.heap.size w w'))
   case atStart => exact ⟨(y87), (0), Z110, H', ⟨Nat.le_refl _⟩, ⟨by (with_reducible repeat (first | apply Kd.R_alloc | apply Kd.R_drewN | apply Kd.R_drew)); exact HO89.out⟩, ⟨pb BK81⟩, ⟨Z11⟩⟩
   case round =>
    clear H'
    try clear c2
    try clear p2
    try clear c6
    try clear c7
    try clear c7b0
    try clear c7b1
    try clear c22
    try clear hcz25_0 hcz25_1 hcz25_2 hcz25_3 hcz25_4 hcz25_5 hcz25_6
    try clear hfz25_0 hfz25_1 hfz25_2 hfz25_3 hfz25_4 hfz25_5 hfz25_6
    try clear p2
    try clear HO_6
    obtain ⟨x6_2, x68_2, rfl, HA, HK2, HO_6, BK81, HB⟩ := hrel
    cases gk with
    | zero => exact absurd HA.out (by simp [Fa.l0])
    | succ k2 =>
     have H := HA.out
     clear HA
     simp only [Fa.l0] at H
     by_cases c26 : x68_2 < a0_5
     ·
      rw [if_pos c26] at H
      have c26b0 := decide_eq_true c26
      clear c26
      replace H := Option.bind_eq_some_iff.mp H
      obtain ⟨t90, A91, H⟩ := H
      try dsimp only at H
      have A27 := am A91
      clear A91
      by_cases c28 : t90 = true
      rotate_left
      ·
       replace c28 := Bool.eq_false_iff.mpr c28
       subst c28
       rw [if_neg (show ¬ (false = true) from Z16)] at H
       have H' := am H
       clear H
       obtain ⟨Ao43, co43, eo43⟩ := Kd.R_slice HO_6.out
       subst eo43
       go_wp2_with (first | ((with_reducible refine gate_callee (f := 51) rfl ?_); refine gL 77 rfl Try.func51 #[.pointer (some ⟨g0_0, 5, none⟩), .int .i64 x68_2] ?_; (with_reducible refine (Fna.calls g0_0 a0_0 a0_1 a0_2 a0_3 A0_4 c0_4 l0_4 a0_5 A0_6 c0_6 l0_6 x68_2 false _ ?side1 ?side2 ?side3 ?side4 ?side5 A27.out).mono ?_); (case side1 => exact (uK BK81)); (case side2 => exact uC HR0_4 HB); (case side3 => exact HC0_4.out); (case side4 => exact uC HR0_6 HB); (case side5 => exact HC0_6.out); rintro e w44 ⟨rfl, hb⟩; refine ⟨_, rfl, ?_⟩; replace HO_6 := rB HO_6 hb; replace BK81 := kB BK81 hb; replace HB := am (below_step Z11 hb); (try clear hb); (try clear hb2); (try clear hk); (try clear hi)))
       go_roundg k2
       case measure => have := HJ2.out; have := HK2.out; omega
       case rel => exact ⟨(x6_2), (wrap64 (x68_2 + 1)), Z110, H', ⟨by have := HJ2.out; have := HK2.out; omega⟩, ⟨Z73⟩, ⟨pb BK81⟩, ⟨Z11⟩⟩
      subst c28
      rw [if_pos rfl] at H
      by_cases c29 : (x6_2.length : Int) < a0_0
      rotate_left
      ·
       rw [if_neg c29] at H
       have c29b0 := decide_eq_false c29
       clear c29
       have H' := am H
       clear H
       obtain ⟨Ao40, co40, eo40⟩ := Kd.R_slice HO_6.out
       subst eo40
       go_wp2_with (first | ((with_reducible refine gate_callee (f := 51) rfl ?_); refine gL 77 rfl Try.func51 #[.pointer (some ⟨g0_0, 5, none⟩), .int .i64 x68_2] ?_; (with_reducible refine (Fna.calls g0_0 a0_0 a0_1 a0_2 a0_3 A0_4 c0_4 l0_4 a0_5 A0_6 c0_6 l0_6 x68_2 true _ ?side1 ?side2 ?side3 ?side4 ?side5 A27.out).mono ?_); (case side1 => exact (uK BK81)); (case side2 => exact uC HR0_4 HB); (case side3 => exact HC0_4.out); (case side4 => exact uC HR0_6 HB); (case side5 => exact HC0_6.out); rintro e w41 ⟨rfl, hb⟩; refine ⟨_, rfl, ?_⟩; replace HO_6 := rB HO_6 hb; replace BK81 := kB BK81 hb; replace HB := am (below_step Z11 hb); (try clear hb); (try clear hb2); (try clear hk); (try clear hi); obtain ⟨hcz42_0, hcz42_1, hcz42_2, hcz42_3, hcz42_4, hcz42_5, hcz42_6, hfz42_0, hfz42_1, hfz42_2, hfz42_3, hfz42_4, hfz42_5, hfz42_6⟩ := ce7 BK81))
       go_roundg k2
       case measure => have := HJ2.out; have := HK2.out; omega
       case rel => exact ⟨(x6_2), (wrap64 (x68_2 + 1)), Z110, H', ⟨by have := HJ2.out; have := HK2.out; omega⟩, ⟨Z73⟩, ⟨pb BK81⟩, ⟨Z11⟩⟩
      rw [if_pos c29] at H
      have c29b0 := decide_eq_true c29
      clear c29
      by_cases c30 : 0 ≤ t82
      rotate_left
      ·
       rw [if_neg c30] at H
       exact absurd H Z43
      rw [if_pos c30] at H
      have c30b0 := eq_true c30
      have c30b1 := decide_eq_true c30
      clear c30
      obtain ⟨ji31, hji31⟩ : ∃ j_ : Int, (shl .i64 (wrap64 (x68_2 - (x6_2.length : Int))) t82) = j_ := ⟨_, rfl⟩
      replace H : ((Fz.f k2 a0_0 a0_1 a0_2 a0_3 l0_4 a0_5 l0_6 (wrap64 ((x6_2.length : Int) * t82)) t82).bind fun t92 => (if x6_2.length < 17592186044416 then (Fa.l0 k2 t82 (x6_2 ++ [Go.bits .or .i64 (ji31) t92]) a0_5 (wrap64 (x68_2 + 1)) a0_0 a0_1 a0_2 a0_3 l0_4 a0_5 l0_6) else (none))) = some (r1, r2) := by first | (rw [hji31] at H; exact H) | (simp only [hji31] at H ⊢; exact H)
      (try rw [hji31] at A27)
      have hji31_ : (IntKind.i64.wrap ((wrap64 (x68_2 - (x6_2.length : Int))) * 2 ^ min t82.toNat 64)) = ji31 := hji31
      have hji31z : t82 ≤ 64 → (IntKind.i64.wrap ((wrap64 (x68_2 - (x6_2.length : Int))) * 2 ^ t82.toNat)) = ji31 := shl_small hji31
      have hji31y : (wrap64 ((wrap64 (x68_2 - (x6_2.length : Int))) * 2 ^ min t82.toNat 64)) = ji31 := (i64_w _).symm.trans hji31_
      have hji31x : t82 ≤ 64 → (wrap64 ((wrap64 (x68_2 - (x6_2.length : Int))) * 2 ^ t82.toNat)) = ji31 := fun h_ => (i64_w _).symm.trans (hji31z h_)
      replace H := Option.bind_eq_some_iff.mp H
      obtain ⟨t92, A93, H⟩ := H
      try dsimp only at H
      have A32 := am A93
      clear A93
      by_cases c33 : x6_2.length < 17592186044416
      rotate_left
      ·
       rw [if_neg c33] at H
       exact absurd H Z43
      rw [if_pos c33] at H
      have LMc33 := am c33
      clear c33
      obtain ⟨y94, hy94⟩ : ∃ y_ : List Int, y_ = (x6_2 ++ [Go.bits .or .i64 (ji31) t92]) := ⟨_, rfl⟩
      replace H : (Fa.l0 k2 t82 y94 a0_5 (wrap64 (x68_2 + 1)) a0_0 a0_1 a0_2 a0_3 l0_4 a0_5 l0_6) = some (r1, r2) := by first | (rw [hy94]; with_reducible exact H) | (have H2_ := (Option.bind_some _ _).symm.trans H; rw [hy94]; with_reducible exact H2_) | (have H2_ := (Option.bind_some _ _).symm.trans H; with_reducible exact H2_) | with_reducible exact H | (rw [hy94]; exact H) | exact H
      have Ny94 := am hy94
      clear hy94
      have H' := am H
      clear H
      obtain ⟨Ao34, co34, eo34⟩ := Kd.R_slice HO_6.out
      subst eo34
      try go_wp2_with (first | ((with_reducible refine gate_callee (f := 51) rfl ?_); refine gL 77 rfl Try.func51 #[.pointer (some ⟨g0_0, 5, none⟩), .int .i64 x68_2] ?_; (with_reducible refine (Fna.calls g0_0 a0_0 a0_1 a0_2 a0_3 A0_4 c0_4 l0_4 a0_5 A0_6 c0_6 l0_6 x68_2 true _ ?side1 ?side2 ?side3 ?side4 ?side5 A27.out).mono ?_); (case side1 => exact (uK BK81)); (case side2 => exact uC HR0_4 HB); (case side3 => exact HC0_4.out); (case side4 => exact uC HR0_6 HB); (case side5 => exact HC0_6.out); rintro e w35 ⟨rfl, hb⟩; refine ⟨_, rfl, ?_⟩; replace HO_6 := rB HO_6 hb; replace BK81 := kB BK81 hb; replace HB := am (below_step Z11 hb); (try clear hb); (try clear hb2); (try clear hk); (try clear hi); obtain ⟨hcz36_0, hcz36_1, hcz36_2, hcz36_3, hcz36_4, hcz36_5, hcz36_6, hfz36_0, hfz36_1, hfz36_2, hfz36_3, hfz36_4, hfz36_5, hfz36_6⟩ := ce7 BK81))
      replace HO_6 := am (Kd.R_drew HO_6.out)
      replace BK81 := am (blk_drew BK81.out)
      replace HB := am (below_drew1 HB.out)
      refine start_ (n := 18) (S := fun w' => True) (ds := []) (bA 18 0) Z112 rfl rfl trivial (fun hHeld => ?_); refine with_tabW Fa.tab10 Fa.bits10 (fun HT_ HW_ => ?_)
      generalize w35.drew = w37 at HO_6 BK81 HB hHeld ⊢
      refine pS 0 86 (bA 18 1) ?_
      refine pS 1 87 (bA 18 3) ?_
      refine pS 2 88 (bA 18 7) ?_
      refine pS 3 89 (bA 18 15) ?_
      refine pS 4 90 (bA 18 31) ?_
      refine pS 5 91 (bA 18 63) ?_
      refine pS 6 92 (bA 18 127) ?_
      refine pS 7 93 (bA 18 255) ?_
      refine pS 8 94 (bA 18 511) ?_
      refine pS 9 95 (bA 18 1023) ?_
      refine pS 10 96 (bA 18 2047) ?_
      refine pS 11 97 (bA 18 4095) ?_
      refine pS 12 98 (bA 18 8191) ?_
      refine one_ (i := 13) (N := some 99) (bA 18 16383) rfl rfl (one_of HT_.out Z112) Z16 (fun K hK => ?_)
      refine goes_ Try.func52 Z112 rfl #[.pointer (some ⟨g0_0, 3, none⟩), .int .i64 (wrap64 ((x6_2.length : Int) * t82)), .int .i64 t82] Z63 rfl rfl Z113 ?_
      with_reducible refine (Fz.calls k2 g0_0 a0_0 a0_1 a0_2 a0_3 A0_4 c0_4 l0_4 a0_5 A0_6 c0_6 l0_6 (wrap64 ((x6_2.length : Int) * t82)) t82 t92 _ ?side1 ?side2 ?side3 ?side4 ?side5 A32.out).mono ?_
      (case side1 => exact (uK BK81))
      (case side2 => exact uC HR0_4 HB)
      (case side3 => exact HC0_4.out)
      (case side4 => exact uC HR0_6 HB)
      (case side5 => exact HC0_6.out)
      rintro e w38 ⟨rfl, hb⟩
      refine ⟨_, rfl, ?_⟩
      replace HO_6 := rB HO_6 hb
      replace BK81 := kB BK81 hb
      replace HB := am (below_step Z11 hb)
      (try clear hb)
      (try clear hb2)
      (try clear hk)
      (try clear hi)
      refine hK.out _ _ trivial (fun hHeld => ?_)
      clear hK K
      refine norm_ (a' := ?_) ?_ ?_
      rotate_left
      ·
       show Act.put _ (some 99) _ = _
       simp only [Act.put, setIfInBounds_toArray, set_cons_zero, set_cons_succ, i64_w, i32_w]
       rfl
      refine pS 14 100 (bA 18 32767) ?_
      refine one_ (i := 15) (N := some 101) (bA 18 65535) rfl rfl (one_of HT_.out Z112) Z16 (fun K hK => ?_)
      refine value_ (w1 := ?_) (v := ?_) Z63 rfl ?_ ?_
      rotate_left 2
      ·
       go_simp
       constructor
       ·
        rfl
       rfl
      refine hK.out _ _ trivial (fun hHeld => ?_)
      clear hK K
      refine norm_ (a' := ?_) ?_ ?_
      rotate_left
      ·
       show Act.put _ (some 101) _ = _
       simp only [Act.put, setIfInBounds_toArray, set_cons_zero, set_cons_succ, i64_w, i32_w]
       rfl
      refine one_ (i := 16) (N := some 102) (bA 18 131071) rfl rfl (one_of HT_.out Z112) Z16 (fun K hK => ?_)
      refine Kd.R_append_step (Kd.int .i64) (w0 := w) w.heap.size Z63 (.tmp 86) (.tmp 101) 24 3 (.int .i64 0) 8 rfl Try.underlying24 info3 rfl Z16 Z70 (.slice Ao34 x6_2.length co34) x6_2 (Go.bits .or .i64 (ji31) t92) [.int .i64 (Go.bits .or .i64 (ji31) t92)] (fun _ => True) (fun _ => False) rfl rfl ?aP (fun _ hk => hk.elim) ?aF ?aO ?aB ?aS ?aL ?_
      (case aP => exact rfl)
      (case aB => exact Z11)
      (case aF => exact (fun _ _ => trivial))
      (case aO => exact (uR HO_6))
      (case aS => exact (below_size Z11))
      (case aL => have := LMc33.out; omega)
      intro v95 w39 ho hb hg hat
      rw [← Ny94.out] at ho
      replace BK81 := am (blk_grown (g := g0_0) (o := .cells #[.int .i64 a0_0, .int .i64 a0_1, .int .i64 a0_2, .int .i64 a0_3, .slice A0_4 l0_4.length c0_4, .int .i64 a0_5, .slice A0_6 l0_6.length c0_6] 28 (0, 0)) (uK BK81) hg (Kd.R_ne HO_6.out BK81.out Z16))
      replace HB := am (hb)
      have HO96 := am (ho)
      clear HO_6
      clear ho hb hg hat
      refine hK.out _ _ trivial (fun hHeld => ?_)
      clear hK K
      refine norm_ (a' := ?_) ?_ ?_
      rotate_left
      ·
       show Act.put _ (some 102) _ = _
       simp only [Act.put, setIfInBounds_toArray, set_cons_zero, set_cons_succ, i64_w, i32_w]
       rfl
      refine pS 17 6 (bA 18 262143) ?_
      refine done_ (done_of HT_.out Z112) ?_
      try go_wp2
      go_roundg k2
      case measure => have := HJ2.out; have := HK2.out; omega
      case rel => exact ⟨(y94), (wrap64 (x68_2 + 1)), Z110, H', ⟨by have := HJ2.out; have := HK2.out; omega⟩, ⟨by (with_reducible repeat (first | apply Kd.R_alloc | apply Kd.R_drewN | apply Kd.R_drew)); exact HO96.out⟩, ⟨pb BK81⟩, ⟨Z11⟩⟩
     rw [if_neg c26] at H
     have c26b0 := decide_eq_false c26
     clear c26
     have HC45 := am H
     clear H
     go_upto_region 12 with (fail)
     go_cut [119] (fun v97 wc => ∃ (kq : Nat) (x97_44 : Bool), v97 = .bool x97_44 ∧ Aside0 (Fa.j2 kq x6_2 x97_44 a0_0 a0_1 a0_2 a0_3 l0_4 a0_5 l0_6 = some (r1, r2)) ∧ Aside0 (kq ≤ k2) ∧ Aside0 (Kd.R (Kd.int .i64) 3 wc w.heap.size (fun _ => True) u6 x6_2) ∧ Aside0 (wc.heap[g0_0]? = some (.cells #[.int .i64 a0_0, .int .i64 a0_1, .int .i64 a0_2, .int .i64 a0_3, (.slice A0_4 l0_4.length c0_4), .int .i64 a0_5, (.slice A0_6 l0_6.length c0_6)] 28 (0, 0))) ∧ Aside0 (Below w.heap.size w wc))
     case first =>
      have H := HC45.out
      clear HC45
      by_cases c46 : (x6_2.length : Int) = a0_0
      rotate_left
      ·
       rw [if_neg c46] at H
       have c46b0 : ((x6_2.length : Int) == a0_0) = false := beq_eq_false_iff_ne.mpr c46
       have c46b1 : ((x6_2.length : Int) != a0_0) = true := bne_iff_ne.mpr c46
       (first | rw [c46b0] | (simp only [i64_w, i32_w]; rw [c46b0]) | skip)
       have H' := am H
       clear H
       obtain ⟨Ao50, co50, eo50⟩ := Kd.R_slice HO_6.out
       subst eo50
       obtain ⟨hcz51_0, hcz51_1, hcz51_2, hcz51_3, hcz51_4, hcz51_5, hcz51_6, hfz51_0, hfz51_1, hfz51_2, hfz51_3, hfz51_4, hfz51_5, hfz51_6⟩ := ce7 BK81
       go_wp2
       go_meet
       case rel => exact ⟨_, (true), Z110, H', ⟨by have := HJ2.out; have := HK2.out; first | omega | exact Nat.le_refl _⟩, ⟨Z73⟩, ⟨pb BK81⟩, ⟨Z11⟩⟩
      rw [if_pos c46] at H
      have c46b0 : ((x6_2.length : Int) == a0_0) = true := beq_iff_eq.mpr c46
      have c46b1 : ((x6_2.length : Int) != a0_0) = false := bne_eq_false_iff_eq.mpr c46
      clear c46
      (first | rw [c46b0] | (simp only [i64_w, i32_w]; rw [c46b0]) | skip)
      replace H := Option.bind_eq_some_iff.mp H
      obtain ⟨t98, A99, H⟩ := H
      try dsimp only at H
      have A47 := am A99
      clear A99
      have H' := am H
      clear H
      obtain ⟨Ao48, co48, eo48⟩ := Kd.R_slice HO_6.out
      subst eo48
      obtain ⟨hcz49_0, hcz49_1, hcz49_2, hcz49_3, hcz49_4, hcz49_5, hcz49_6, hfz49_0, hfz49_1, hfz49_2, hfz49_3, hfz49_4, hfz49_5, hfz49_6⟩ := ce7 BK81
      go_wp2_with (first | (go_at_call 53; (with_reducible refine (FB.calls k2 _ _ x6_2 a0_1 t98 _ ?side1 ?side2 A47.out).mono ?_); (case side1 => exact uD HO_6); (case side2 => exact (Kd.R_reads' HO_6.out).2.1); rintro e w' ⟨rfl, ⟨nd, rfl⟩⟩))
      go_meet
      case rel => exact ⟨_, (!t98), Z110, H', ⟨by have := HJ2.out; have := HK2.out; first | omega | exact Nat.le_refl _⟩, ⟨Z73⟩, ⟨pb BK81⟩, ⟨Z11⟩⟩
     case rest =>
      clear HC45
      try clear c2
      try clear p2
      try clear c3
      try clear c4
      try clear c6
      try clear p6
      try clear c7
      try clear c7b0
      try clear c7b1
      try clear c8
      try clear c22
      try clear c26
      try clear c26b0
      try clear c28
      try clear c29
      try clear c29b0
      try clear c30
      try clear c30b0
      try clear c30b1
      try clear c33
      try clear c46
      try clear c46b0
      try clear c46b1
      try clear hcz25_0 hcz25_1 hcz25_2 hcz25_3 hcz25_4 hcz25_5 hcz25_6 hcz36_0 hcz36_1 hcz36_2 hcz36_3 hcz36_4 hcz36_5 hcz36_6 hcz42_0 hcz42_1 hcz42_2 hcz42_3 hcz42_4 hcz42_5 hcz42_6 hcz49_0 hcz49_1 hcz49_2 hcz49_3 hcz49_4 hcz49_5 hcz49_6 hcz51_0 hcz51_1 hcz51_2 hcz51_3 hcz51_4 hcz51_5 hcz51_6
      try clear hfz25_0 hfz25_1 hfz25_2 hfz25_3 hfz25_4 hfz25_5 hfz25_6 hfz36_0 hfz36_1 hfz36_2 hfz36_3 hfz36_4 hfz36_5 hfz36_6 hfz42_0 hfz42_1 hfz42_2 hfz42_3 hfz42_4 hfz42_5 hfz42_6 hfz49_0 hfz49_1 hfz49_2 hfz49_3 hfz49_4 hfz49_5 hfz49_6 hfz51_0 hfz51_1 hfz51_2 hfz51_3 hfz51_4 hfz51_5 hfz51_6
      try clear p2
      obtain ⟨kq, x97_44, rfl, HA, HJ44, HO_6, BK81, HB⟩ := hcut
      cases kq with
      | zero => exact absurd HA.out (by simp [Fa.j2])
      | succ kj44 =>
       have H := HA.out
       clear HA
       simp only [Fa.j2] at H
       by_cases c52 : x97_44 = true
       ·
        subst c52
        rw [if_pos rfl] at H
        simp only [Option.some.injEq, Prod.mk.injEq] at H
        obtain ⟨rfl, rfl⟩ := H
        go_wp2
        go_ret2
        exact ⟨_, Z109, Z23, Z11⟩
       replace c52 := Bool.eq_false_iff.mpr c52
       subst c52
       rw [if_neg (show ¬ (false = true) from Z16)] at H
       replace H := Option.bind_eq_some_iff.mp H
       obtain ⟨⟨t101, t104, t105, t106, t107, t108, t109⟩, A110, H⟩ := H
       try dsimp only at H
       have A53 := am A110
       clear A110
       replace H := Option.bind_eq_some_iff.mp H
       obtain ⟨t102, A111, H⟩ := H
       try dsimp only at H
       have A54 := am A111
       clear A111
       by_cases c55 : t102 = true
       ·
        subst c55
        rw [if_pos rfl] at H
        replace H := Option.bind_eq_some_iff.mp H
        obtain ⟨t103, A112, H⟩ := H
        try dsimp only at H
        have A56 := am A112
        clear A112
        simp only [Option.some.injEq, Prod.mk.injEq] at H
        obtain ⟨rfl, rfl⟩ := H
        obtain ⟨hcz57_0, hcz57_1, hcz57_2, hcz57_3, hcz57_4, hcz57_5, hcz57_6, hfz57_0, hfz57_1, hfz57_2, hfz57_3, hfz57_4, hfz57_5, hfz57_6⟩ := ce7 BK81
        obtain ⟨Ao58, co58, eo58⟩ := Kd.R_slice HO_6.out
        subst eo58
        try go_wp2_with (first | ((with_reducible refine gate_callee (f := 28) rfl ?_); refine gL 125 rfl Try.func28 #[.slice Ao58 x6_2.length co58, .int .i64 a0_1] ?_; (with_reducible refine (Fi.calls kj44 _ _ x6_2 a0_1 t101 t104 t105 t106 t107 t108 t109 _ ?side1 ?side2 A53.out).mono ?_); (case side1 => exact uD HO_6); (case side2 => exact (Kd.R_reads' HO_6.out).2.1); rintro e w59 ⟨v113, v114, rfl, ho0, ho1, hb⟩; refine ⟨_, rfl, ?_⟩; have HO115 := am (Kd.R_lower (Kd.R_new' ho0 (Kd.R_lt (uR HO_6))) (below_size Z11)); have HO116 := am (Kd.R_lower (Kd.R_new' ho1 (Kd.R_lt (uR HO_6))) (below_size Z11)); replace HO_6 := am (Kd.R_mono (Kd.R_told (Kd.R_told (Kd.R_old (uR HO_6) hb) (Kd.R_base ho0)) (Kd.R_base ho1)) (fun _ h_ => h_.1)); replace BK81 := kB BK81 hb; replace HB := am (below_step Z11 hb); (try clear hb); (try clear hb2); (try clear hk); (try clear hi); (try clear ho0); (try clear ho1)) | ((with_reducible refine gate_dst (N := 9) rfl ?_); refine box_event ?hg (N := 9) ?hd (cs := #[.int .i64 0, .int .i64 0, .int .i64 0, .int .i64 0, .slice none 0 0, .int .i64 0, .slice none 0 0]) (t := 28) ?hr ?_; (case hd => rfl); (case hg => rfl); (case hr => exact Z111); intro gb117 hg w60 hbox hb; replace HO_6 := rB HO_6 hb; replace HO115 := rB HO115 hb; replace HO116 := rB HO116 hb; have BK117 := am (hbox); have GW117 := am ((by rw [hg]; exact (below_size Z11) : w.heap.size ≤ gb117)); have GE117 := am ((by rw [hg]; exact (below_size Z11) : w.heap.size ≤ gb117)); replace HB := am (below_step Z11 hb); have NB81_117 := nL BK81 hg; have NB117_81 := nR BK81 hg; replace BK81 := kB BK81 hb; clear hb hbox hg; have hnb61 := NB117_81.out; have hnc61 := NB81_117.out; obtain ⟨hcz62_0, hcz62_1, hcz62_2, hcz62_3, hcz62_4, hcz62_5, hcz62_6, hfz62_0, hfz62_1, hfz62_2, hfz62_3, hfz62_4, hfz62_5, hfz62_6⟩ := ce7 BK117; obtain ⟨Ao63, co63, eo63⟩ := Kd.R_slice HO115.out; subst eo63; obtain ⟨Ao64, co64, eo64⟩ := Kd.R_slice HO116.out; subst eo64))
        have n0_ : Aside0 (Kd.R (Kd.int .i64) 3 (((((((w60.setCell ⟨gb117, 0, none⟩ (.int .i64 t101)).setCell ⟨gb117, 1, none⟩ (.int .i64 t104)).setCell ⟨gb117, 2, none⟩ (.int .i64 t105)).setCell ⟨gb117, 3, none⟩ (.int .i64 t106)).setCell ⟨gb117, 4, none⟩ (.slice Ao63 t107.length co63)).setCell ⟨gb117, 5, none⟩ (.int .i64 t108)).setCell ⟨gb117, 6, none⟩ (.slice Ao64 t109.length co64)) w.heap.size (fun k_ => some k_ ≠ (.slice Ao63 t107.length co63 : Value).ownBlock ∧ some k_ ≠ (.slice Ao64 t109.length co64 : Value).ownBlock) (.slice Ao58 x6_2.length co58) x6_2) := ⟨Z134⟩
        have n1_ : Aside0 (Kd.R (Kd.int .i64) 3 (((((((w60.setCell ⟨gb117, 0, none⟩ (.int .i64 t101)).setCell ⟨gb117, 1, none⟩ (.int .i64 t104)).setCell ⟨gb117, 2, none⟩ (.int .i64 t105)).setCell ⟨gb117, 3, none⟩ (.int .i64 t106)).setCell ⟨gb117, 4, none⟩ (.slice Ao63 t107.length co63)).setCell ⟨gb117, 5, none⟩ (.int .i64 t108)).setCell ⟨gb117, 6, none⟩ (.slice Ao64 t109.length co64)) w.heap.size (fun k_ => some k_ ≠ (.slice Ao58 x6_2.length co58 : Value).ownBlock ∧ some k_ ≠ (.slice Ao64 t109.length co64 : Value).ownBlock) (.slice Ao63 t107.length co63) t107) := ⟨Z136⟩
        have n2_ : Aside0 (Kd.R (Kd.int .i64) 3 (((((((w60.setCell ⟨gb117, 0, none⟩ (.int .i64 t101)).setCell ⟨gb117, 1, none⟩ (.int .i64 t104)).setCell ⟨gb117, 2, none⟩ (.int .i64 t105)).setCell ⟨gb117, 3, none⟩ (.int .i64 t106)).setCell ⟨gb117, 4, none⟩ (.slice Ao63 t107.length co63)).setCell ⟨gb117, 5, none⟩ (.int .i64 t108)).setCell ⟨gb117, 6, none⟩ (.slice Ao64 t109.length co64)) w.heap.size (fun k_ => some k_ ≠ (.slice Ao58 x6_2.length co58 : Value).ownBlock ∧ some k_ ≠ (.slice Ao63 t107.length co63 : Value).ownBlock) (.slice Ao64 t109.length co64) t109) := ⟨Z135⟩
        have n3_ : Aside0 ((((((((w60.setCell ⟨gb117, 0, none⟩ (.int .i64 t101)).setCell ⟨gb117, 1, none⟩ (.int .i64 t104)).setCell ⟨gb117, 2, none⟩ (.int .i64 t105)).setCell ⟨gb117, 3, none⟩ (.int .i64 t106)).setCell ⟨gb117, 4, none⟩ (.slice Ao63 t107.length co63)).setCell ⟨gb117, 5, none⟩ (.int .i64 t108)).setCell ⟨gb117, 6, none⟩ (.slice Ao64 t109.length co64)).heap[g0_0]? = some (.cells #[.int .i64 a0_0, .int .i64 a0_1, .int .i64 a0_2, .int .i64 a0_3, .slice A0_4 l0_4.length c0_4, .int .i64 a0_5, .slice A0_6 l0_6.length c0_6] 28 (0, 0))) := ⟨pf NB81_117 (pf NB81_117 (pf NB81_117 (pf NB81_117 (pf NB81_117 (pf NB81_117 (pf NB81_117 (pb BK81)))))))⟩
        have n4_ : Aside0 ((((((((w60.setCell ⟨gb117, 0, none⟩ (.int .i64 t101)).setCell ⟨gb117, 1, none⟩ (.int .i64 t104)).setCell ⟨gb117, 2, none⟩ (.int .i64 t105)).setCell ⟨gb117, 3, none⟩ (.int .i64 t106)).setCell ⟨gb117, 4, none⟩ (.slice Ao63 t107.length co63)).setCell ⟨gb117, 5, none⟩ (.int .i64 t108)).setCell ⟨gb117, 6, none⟩ (.slice Ao64 t109.length co64)).heap[gb117]? = some (.cells #[.int .i64 t101, .int .i64 t104, .int .i64 t105, .int .i64 t106, .slice Ao63 t107.length co63, .int .i64 t108, .slice Ao64 t109.length co64] 28 (0, 0))) := ⟨pT (pp 6 (pp 5 (pp 4 (pp 3 (pp 2 (pp 1 (pp 0 (pb BK117))))))))⟩
        have n5_ : Aside0 (Below w.heap.size w (((((((w60.setCell ⟨gb117, 0, none⟩ (.int .i64 t101)).setCell ⟨gb117, 1, none⟩ (.int .i64 t104)).setCell ⟨gb117, 2, none⟩ (.int .i64 t105)).setCell ⟨gb117, 3, none⟩ (.int .i64 t106)).setCell ⟨gb117, 4, none⟩ (.slice Ao63 t107.length co63)).setCell ⟨gb117, 5, none⟩ (.int .i64 t108)).setCell ⟨gb117, 6, none⟩ (.slice Ao64 t109.length co64))) := ⟨Z44⟩
        (try clear HO_6)
        (try clear HO115)
        (try clear HO116)
        (try clear BK81)
        (try clear BK117)
        (try clear HB)
        generalize (((((((w60.setCell ⟨gb117, 0, none⟩ (.int .i64 t101)).setCell ⟨gb117, 1, none⟩ (.int .i64 t104)).setCell ⟨gb117, 2, none⟩ (.int .i64 t105)).setCell ⟨gb117, 3, none⟩ (.int .i64 t106)).setCell ⟨gb117, 4, none⟩ (.slice Ao63 t107.length co63)).setCell ⟨gb117, 5, none⟩ (.int .i64 t108)).setCell ⟨gb117, 6, none⟩ (.slice Ao64 t109.length co64)) = w65 at n0_ n1_ n2_ n3_ n4_ n5_ ⊢
        have HO_6 := n0_
        have HO115 := n1_
        have HO116 := n2_
        have BK81 := n3_
        have BK117 := n4_
        have HB := n5_
        clear n0_ n1_ n2_ n3_ n4_ n5_
        replace HO_6 := am (Kd.R_drew HO_6.out)
        replace HO115 := am (Kd.R_drew HO115.out)
        replace HO116 := am (Kd.R_drew HO116.out)
        replace BK81 := am (blk_drew BK81.out)
        replace BK117 := am (blk_drew BK117.out)
        replace HB := am (below_drew1 HB.out)
        refine start_ (n := 19) (S := fun w' => w'.cell? ⟨gb117, 0, none⟩ = some (.int .i64 t101) ∧ w'.cell? ⟨gb117, 1, none⟩ = some (.int .i64 t104) ∧ w'.cell? ⟨gb117, 2, none⟩ = some (.int .i64 t105) ∧ w'.cell? ⟨gb117, 3, none⟩ = some (.int .i64 t106) ∧ w'.cell? ⟨gb117, 4, none⟩ = some (.slice Ao63 t107.length co63) ∧ w'.cell? ⟨gb117, 5, none⟩ = some (.int .i64 t108) ∧ w'.cell? ⟨gb117, 6, none⟩ = some (.slice Ao64 t109.length co64) ∧ w'.cell? ⟨g0_0, 0, none⟩ = some (.int .i64 a0_0) ∧ w'.cell? ⟨g0_0, 1, none⟩ = some (.int .i64 a0_1) ∧ w'.cell? ⟨g0_0, 2, none⟩ = some (.int .i64 a0_2) ∧ w'.cell? ⟨g0_0, 3, none⟩ = some (.int .i64 a0_3) ∧ w'.cell? ⟨g0_0, 4, none⟩ = some (.slice A0_4 l0_4.length c0_4) ∧ w'.cell? ⟨g0_0, 5, none⟩ = some (.int .i64 a0_5) ∧ w'.cell? ⟨g0_0, 6, none⟩ = some (.slice A0_6 l0_6.length c0_6)) (ds := []) (bA 19 0) Z112 rfl rfl ⟨bc BK117 0, bc BK117 1, bc BK117 2, bc BK117 3, bc BK117 4, bc BK117 5, bc BK117 6, bc BK81 0, bc BK81 1, bc BK81 2, bc BK81 3, bc BK81 4, bc BK81 5, bc BK81 6⟩ (fun hHeld => ?_); refine with_tabW Fa.tab15 Fa.bits15 (fun HT_ HW_ => ?_)
        generalize w65.drew = w66 at HO_6 HO115 HO116 BK81 BK117 HB hHeld ⊢
        refine pS 0 126 (bA 19 1) ?_
        refine pS 1 127 (bA 19 3) ?_
        refine pS 3 129 (bA 19 11) ?_
        refine pS 4 130 (bA 19 27) ?_
        refine pS 5 131 (bA 19 59) ?_
        refine tS14 2 128 (bA 19 63) hHeld ?_
        refine tS14 6 132 (bA 19 127) hHeld ?_
        refine one_ (i := 7) (N := some 133) (bA 19 255) rfl rfl (one_of HT_.out Z112) Z16 (fun K hK => ?_)
        refine goes_ Try.func54 Z112 rfl #[.agg #[.int .i64 t106, .slice Ao63 t107.length co63], .agg #[.int .i64 a0_3, .slice A0_4 l0_4.length c0_4]] Z63 rfl rfl Z113 ?_
        with_reducible refine (FU.calls kj44 t106 _ _ t107 a0_3 _ _ l0_4 true _ ?side1 ?side2 ?side3 ?side4 A54.out).mono ?_
        (case side1 => exact uD HO115)
        (case side2 => exact (Kd.R_reads' HO115.out).2.1)
        (case side3 => exact uC HR0_4 HB)
        (case side4 => exact HC0_4.out)
        rintro e w67 ⟨rfl, hb⟩
        refine ⟨_, rfl, ?_⟩
        replace HO_6 := rB HO_6 hb
        replace HO115 := rB HO115 hb
        replace HO116 := rB HO116 hb
        replace BK81 := kB BK81 hb
        replace BK117 := kB BK117 hb
        replace HB := am (below_step Z44 hb)
        (try clear hb)
        (try clear hb2)
        (try clear hk)
        (try clear hi)
        refine hK.out _ _ ⟨bc BK117 0, bc BK117 1, bc BK117 2, bc BK117 3, bc BK117 4, bc BK117 5, bc BK117 6, bc BK81 0, bc BK81 1, bc BK81 2, bc BK81 3, bc BK81 4, bc BK81 5, bc BK81 6⟩ (fun hHeld => ?_)
        clear hK K
        refine norm_ (a' := ?_) ?_ ?_
        rotate_left
        ·
         show Act.put _ (some 133) _ = _
         simp only [Act.put, setIfInBounds_toArray, set_cons_zero, set_cons_succ, i64_w, i32_w]
         rfl
        refine pS 8 134 (bA 19 511) ?_
        refine pS 9 135 (bA 19 1023) ?_
        refine pS 11 137 (bA 19 3071) ?_
        refine pS 12 138 (bA 19 7167) ?_
        refine pS 13 139 (bA 19 15359) ?_
        refine tS14 10 136 (bA 19 16383) hHeld ?_
        refine tS14 14 140 (bA 19 32767) hHeld ?_
        refine one_ (i := 15) (N := some 141) (bA 19 65535) rfl rfl (one_of HT_.out Z112) Z16 (fun K hK => ?_)
        refine goes_ Try.func54 Z112 rfl #[.agg #[.int .i64 t108, .slice Ao64 t109.length co64], .agg #[.int .i64 a0_5, .slice A0_6 l0_6.length c0_6]] Z63 rfl rfl Z113 ?_
        with_reducible refine (FU.calls kj44 t108 _ _ t109 a0_5 _ _ l0_6 t103 _ ?side1 ?side2 ?side3 ?side4 A56.out).mono ?_
        (case side1 => exact uD HO116)
        (case side2 => exact (Kd.R_reads' HO116.out).2.1)
        (case side3 => exact uC HR0_6 HB)
        (case side4 => exact HC0_6.out)
        rintro e w68 ⟨rfl, hb⟩
        refine ⟨_, rfl, ?_⟩
        replace HO_6 := rB HO_6 hb
        replace HO115 := rB HO115 hb
        replace HO116 := rB HO116 hb
        replace BK81 := kB BK81 hb
        replace BK117 := kB BK117 hb
        replace HB := am (below_step Z44 hb)
        (try clear hb)
        (try clear hb2)
        (try clear hk)
        (try clear hi)
        refine hK.out _ _ ⟨bc BK117 0, bc BK117 1, bc BK117 2, bc BK117 3, bc BK117 4, bc BK117 5, bc BK117 6, bc BK81 0, bc BK81 1, bc BK81 2, bc BK81 3, bc BK81 4, bc BK81 5, bc BK81 6⟩ (fun hHeld => ?_)
        clear hK K
        refine norm_ (a' := ?_) ?_ ?_
        rotate_left
        ·
         show Act.put _ (some 141) _ = _
         simp only [Act.put, setIfInBounds_toArray, set_cons_zero, set_cons_succ, i64_w, i32_w]
         rfl
        refine pS 16 142 (bA 19 131071) ?_
        refine pS 17 2 (bA 19 262143) ?_
        refine pS 18 3 (bA 19 524287) ?_
        refine done_ (done_of HT_.out Z112) ?_
        try go_wp2
        go_ret2
        exact ⟨_, Z109, Z85, Z44⟩
       replace c55 := Bool.eq_false_iff.mpr c55
       subst c55
       rw [if_neg (show ¬ (false = true) from Z16)] at H
       simp only [Option.some.injEq, Prod.mk.injEq] at H
       obtain ⟨rfl, rfl⟩ := H
       obtain ⟨hcz69_0, hcz69_1, hcz69_2, hcz69_3, hcz69_4, hcz69_5, hcz69_6, hfz69_0, hfz69_1, hfz69_2, hfz69_3, hfz69_4, hfz69_5, hfz69_6⟩ := ce7 BK81
       obtain ⟨Ao70, co70, eo70⟩ := Kd.R_slice HO_6.out
       subst eo70
       try go_wp2_with (first | ((with_reducible refine gate_callee (f := 28) rfl ?_); refine gL 125 rfl Try.func28 #[.slice Ao70 x6_2.length co70, .int .i64 a0_1] ?_; (with_reducible refine (Fi.calls kj44 _ _ x6_2 a0_1 t101 t104 t105 t106 t107 t108 t109 _ ?side1 ?side2 A53.out).mono ?_); (case side1 => exact uD HO_6); (case side2 => exact (Kd.R_reads' HO_6.out).2.1); rintro e w71 ⟨v113, v114, rfl, ho0, ho1, hb⟩; refine ⟨_, rfl, ?_⟩; have HO115 := am (Kd.R_lower (Kd.R_new' ho0 (Kd.R_lt (uR HO_6))) (below_size Z11)); have HO116 := am (Kd.R_lower (Kd.R_new' ho1 (Kd.R_lt (uR HO_6))) (below_size Z11)); replace HO_6 := am (Kd.R_mono (Kd.R_told (Kd.R_told (Kd.R_old (uR HO_6) hb) (Kd.R_base ho0)) (Kd.R_base ho1)) (fun _ h_ => h_.1)); replace BK81 := kB BK81 hb; replace HB := am (below_step Z11 hb); (try clear hb); (try clear hb2); (try clear hk); (try clear hi); (try clear ho0); (try clear ho1)) | ((with_reducible refine gate_dst (N := 9) rfl ?_); refine box_event ?hg (N := 9) ?hd (cs := #[.int .i64 0, .int .i64 0, .int .i64 0, .int .i64 0, .slice none 0 0, .int .i64 0, .slice none 0 0]) (t := 28) ?hr ?_; (case hd => rfl); (case hg => rfl); (case hr => exact Z111); intro gb117 hg w72 hbox hb; replace HO_6 := rB HO_6 hb; replace HO115 := rB HO115 hb; replace HO116 := rB HO116 hb; have BK117 := am (hbox); have GW117 := am ((by rw [hg]; exact (below_size Z11) : w.heap.size ≤ gb117)); have GE117 := am ((by rw [hg]; exact (below_size Z11) : w.heap.size ≤ gb117)); replace HB := am (below_step Z11 hb); have NB81_117 := nL BK81 hg; have NB117_81 := nR BK81 hg; replace BK81 := kB BK81 hb; clear hb hbox hg; have hnb73 := NB117_81.out; have hnc73 := NB81_117.out; obtain ⟨hcz74_0, hcz74_1, hcz74_2, hcz74_3, hcz74_4, hcz74_5, hcz74_6, hfz74_0, hfz74_1, hfz74_2, hfz74_3, hfz74_4, hfz74_5, hfz74_6⟩ := ce7 BK117; obtain ⟨Ao75, co75, eo75⟩ := Kd.R_slice HO115.out; subst eo75; obtain ⟨Ao76, co76, eo76⟩ := Kd.R_slice HO116.out; subst eo76))
       have n0_ : Aside0 (Kd.R (Kd.int .i64) 3 (((((((w72.setCell ⟨gb117, 0, none⟩ (.int .i64 t101)).setCell ⟨gb117, 1, none⟩ (.int .i64 t104)).setCell ⟨gb117, 2, none⟩ (.int .i64 t105)).setCell ⟨gb117, 3, none⟩ (.int .i64 t106)).setCell ⟨gb117, 4, none⟩ (.slice Ao75 t107.length co75)).setCell ⟨gb117, 5, none⟩ (.int .i64 t108)).setCell ⟨gb117, 6, none⟩ (.slice Ao76 t109.length co76)) w.heap.size (fun k_ => some k_ ≠ (.slice Ao75 t107.length co75 : Value).ownBlock ∧ some k_ ≠ (.slice Ao76 t109.length co76 : Value).ownBlock) (.slice Ao70 x6_2.length co70) x6_2) := ⟨Z134⟩
       have n1_ : Aside0 (Kd.R (Kd.int .i64) 3 (((((((w72.setCell ⟨gb117, 0, none⟩ (.int .i64 t101)).setCell ⟨gb117, 1, none⟩ (.int .i64 t104)).setCell ⟨gb117, 2, none⟩ (.int .i64 t105)).setCell ⟨gb117, 3, none⟩ (.int .i64 t106)).setCell ⟨gb117, 4, none⟩ (.slice Ao75 t107.length co75)).setCell ⟨gb117, 5, none⟩ (.int .i64 t108)).setCell ⟨gb117, 6, none⟩ (.slice Ao76 t109.length co76)) w.heap.size (fun k_ => some k_ ≠ (.slice Ao70 x6_2.length co70 : Value).ownBlock ∧ some k_ ≠ (.slice Ao76 t109.length co76 : Value).ownBlock) (.slice Ao75 t107.length co75) t107) := ⟨Z136⟩
       have n2_ : Aside0 (Kd.R (Kd.int .i64) 3 (((((((w72.setCell ⟨gb117, 0, none⟩ (.int .i64 t101)).setCell ⟨gb117, 1, none⟩ (.int .i64 t104)).setCell ⟨gb117, 2, none⟩ (.int .i64 t105)).setCell ⟨gb117, 3, none⟩ (.int .i64 t106)).setCell ⟨gb117, 4, none⟩ (.slice Ao75 t107.length co75)).setCell ⟨gb117, 5, none⟩ (.int .i64 t108)).setCell ⟨gb117, 6, none⟩ (.slice Ao76 t109.length co76)) w.heap.size (fun k_ => some k_ ≠ (.slice Ao70 x6_2.length co70 : Value).ownBlock ∧ some k_ ≠ (.slice Ao75 t107.length co75 : Value).ownBlock) (.slice Ao76 t109.length co76) t109) := ⟨Z135⟩
       have n3_ : Aside0 ((((((((w72.setCell ⟨gb117, 0, none⟩ (.int .i64 t101)).setCell ⟨gb117, 1, none⟩ (.int .i64 t104)).setCell ⟨gb117, 2, none⟩ (.int .i64 t105)).setCell ⟨gb117, 3, none⟩ (.int .i64 t106)).setCell ⟨gb117, 4, none⟩ (.slice Ao75 t107.length co75)).setCell ⟨gb117, 5, none⟩ (.int .i64 t108)).setCell ⟨gb117, 6, none⟩ (.slice Ao76 t109.length co76)).heap[g0_0]? = some (.cells #[.int .i64 a0_0, .int .i64 a0_1, .int .i64 a0_2, .int .i64 a0_3, .slice A0_4 l0_4.length c0_4, .int .i64 a0_5, .slice A0_6 l0_6.length c0_6] 28 (0, 0))) := ⟨pf NB81_117 (pf NB81_117 (pf NB81_117 (pf NB81_117 (pf NB81_117 (pf NB81_117 (pf NB81_117 (pb BK81)))))))⟩
       have n4_ : Aside0 ((((((((w72.setCell ⟨gb117, 0, none⟩ (.int .i64 t101)).setCell ⟨gb117, 1, none⟩ (.int .i64 t104)).setCell ⟨gb117, 2, none⟩ (.int .i64 t105)).setCell ⟨gb117, 3, none⟩ (.int .i64 t106)).setCell ⟨gb117, 4, none⟩ (.slice Ao75 t107.length co75)).setCell ⟨gb117, 5, none⟩ (.int .i64 t108)).setCell ⟨gb117, 6, none⟩ (.slice Ao76 t109.length co76)).heap[gb117]? = some (.cells #[.int .i64 t101, .int .i64 t104, .int .i64 t105, .int .i64 t106, .slice Ao75 t107.length co75, .int .i64 t108, .slice Ao76 t109.length co76] 28 (0, 0))) := ⟨pT (pp 6 (pp 5 (pp 4 (pp 3 (pp 2 (pp 1 (pp 0 (pb BK117))))))))⟩
       have n5_ : Aside0 (Below w.heap.size w (((((((w72.setCell ⟨gb117, 0, none⟩ (.int .i64 t101)).setCell ⟨gb117, 1, none⟩ (.int .i64 t104)).setCell ⟨gb117, 2, none⟩ (.int .i64 t105)).setCell ⟨gb117, 3, none⟩ (.int .i64 t106)).setCell ⟨gb117, 4, none⟩ (.slice Ao75 t107.length co75)).setCell ⟨gb117, 5, none⟩ (.int .i64 t108)).setCell ⟨gb117, 6, none⟩ (.slice Ao76 t109.length co76))) := ⟨Z44⟩
       (try clear HO_6)
       (try clear HO115)
       (try clear HO116)
       (try clear BK81)
       (try clear BK117)
       (try clear HB)
       generalize (((((((w72.setCell ⟨gb117, 0, none⟩ (.int .i64 t101)).setCell ⟨gb117, 1, none⟩ (.int .i64 t104)).setCell ⟨gb117, 2, none⟩ (.int .i64 t105)).setCell ⟨gb117, 3, none⟩ (.int .i64 t106)).setCell ⟨gb117, 4, none⟩ (.slice Ao75 t107.length co75)).setCell ⟨gb117, 5, none⟩ (.int .i64 t108)).setCell ⟨gb117, 6, none⟩ (.slice Ao76 t109.length co76)) = w77 at n0_ n1_ n2_ n3_ n4_ n5_ ⊢
       have HO_6 := n0_
       have HO115 := n1_
       have HO116 := n2_
       have BK81 := n3_
       have BK117 := n4_
       have HB := n5_
       clear n0_ n1_ n2_ n3_ n4_ n5_
       replace HO_6 := am (Kd.R_drew HO_6.out)
       replace HO115 := am (Kd.R_drew HO115.out)
       replace HO116 := am (Kd.R_drew HO116.out)
       replace BK81 := am (blk_drew BK81.out)
       replace BK117 := am (blk_drew BK117.out)
       replace HB := am (below_drew1 HB.out)
       refine start_ (n := 19) (S := fun w' => w'.cell? ⟨gb117, 0, none⟩ = some (.int .i64 t101) ∧ w'.cell? ⟨gb117, 1, none⟩ = some (.int .i64 t104) ∧ w'.cell? ⟨gb117, 2, none⟩ = some (.int .i64 t105) ∧ w'.cell? ⟨gb117, 3, none⟩ = some (.int .i64 t106) ∧ w'.cell? ⟨gb117, 4, none⟩ = some (.slice Ao75 t107.length co75) ∧ w'.cell? ⟨gb117, 5, none⟩ = some (.int .i64 t108) ∧ w'.cell? ⟨gb117, 6, none⟩ = some (.slice Ao76 t109.length co76) ∧ w'.cell? ⟨g0_0, 0, none⟩ = some (.int .i64 a0_0) ∧ w'.cell? ⟨g0_0, 1, none⟩ = some (.int .i64 a0_1) ∧ w'.cell? ⟨g0_0, 2, none⟩ = some (.int .i64 a0_2) ∧ w'.cell? ⟨g0_0, 3, none⟩ = some (.int .i64 a0_3) ∧ w'.cell? ⟨g0_0, 4, none⟩ = some (.slice A0_4 l0_4.length c0_4) ∧ w'.cell? ⟨g0_0, 5, none⟩ = some (.int .i64 a0_5) ∧ w'.cell? ⟨g0_0, 6, none⟩ = some (.slice A0_6 l0_6.length c0_6)) (ds := []) (bA 19 0) Z112 rfl rfl ⟨bc BK117 0, bc BK117 1, bc BK117 2, bc BK117 3, bc BK117 4, bc BK117 5, bc BK117 6, bc BK81 0, bc BK81 1, bc BK81 2, bc BK81 3, bc BK81 4, bc BK81 5, bc BK81 6⟩ (fun hHeld => ?_); refine with_tabW Fa.tab15 Fa.bits15 (fun HT_ HW_ => ?_)
       generalize w77.drew = w78 at HO_6 HO115 HO116 BK81 BK117 HB hHeld ⊢
       refine pS 0 126 (bA 19 1) ?_
       refine pS 1 127 (bA 19 3) ?_
       refine pS 3 129 (bA 19 11) ?_
       refine pS 4 130 (bA 19 27) ?_
       refine pS 5 131 (bA 19 59) ?_
       refine tS14 2 128 (bA 19 63) hHeld ?_
       refine tS14 6 132 (bA 19 127) hHeld ?_
       refine one_ (i := 7) (N := some 133) (bA 19 255) rfl rfl (one_of HT_.out Z112) Z16 (fun K hK => ?_)
       refine goes_ Try.func54 Z112 rfl #[.agg #[.int .i64 t106, .slice Ao75 t107.length co75], .agg #[.int .i64 a0_3, .slice A0_4 l0_4.length c0_4]] Z63 rfl rfl Z113 ?_
       with_reducible refine (FU.calls kj44 t106 _ _ t107 a0_3 _ _ l0_4 false _ ?side1 ?side2 ?side3 ?side4 A54.out).mono ?_
       (case side1 => exact uD HO115)
       (case side2 => exact (Kd.R_reads' HO115.out).2.1)
       (case side3 => exact uC HR0_4 HB)
       (case side4 => exact HC0_4.out)
       rintro e w79 ⟨rfl, hb⟩
       refine ⟨_, rfl, ?_⟩
       replace HO_6 := rB HO_6 hb
       replace HO115 := rB HO115 hb
       replace HO116 := rB HO116 hb
       replace BK81 := kB BK81 hb
       replace BK117 := kB BK117 hb
       replace HB := am (below_step Z44 hb)
       (try clear hb)
       (try clear hb2)
       (try clear hk)
       (try clear hi)
       refine hK.out _ _ ⟨bc BK117 0, bc BK117 1, bc BK117 2, bc BK117 3, bc BK117 4, bc BK117 5, bc BK117 6, bc BK81 0, bc BK81 1, bc BK81 2, bc BK81 3, bc BK81 4, bc BK81 5, bc BK81 6⟩ (fun hHeld => ?_)
       clear hK K
       refine norm_ (a' := ?_) ?_ ?_
       rotate_left
       ·
        show Act.put _ (some 133) _ = _
        simp only [Act.put, setIfInBounds_toArray, set_cons_zero, set_cons_succ, i64_w, i32_w]
        rfl
       refine pS 8 134 (bA 19 511) ?_
       refine pU 9 135 (bA 19 1023) ?_
       refine pU 10 136 (bA 19 2047) ?_
       refine pU 11 137 (bA 19 4095) ?_
       refine pU 12 138 (bA 19 8191) ?_
       refine pU 13 139 (bA 19 16383) ?_
       refine pU 14 140 (bA 19 32767) ?_
       refine pU 15 141 (bA 19 65535) ?_
       refine pS 16 142 (bA 19 131071) ?_
       refine pS 17 2 (bA 19 262143) ?_
       refine pS 18 3 (bA 19 524287) ?_
       refine done_ (done_of HT_.out Z112) ?_
       try go_wp2
       go_ret2
       exact ⟨_, Z109, Z85, Z44⟩

end Go.Proofs.Ytllaofiopnhdgaa.PFnSparseParts
