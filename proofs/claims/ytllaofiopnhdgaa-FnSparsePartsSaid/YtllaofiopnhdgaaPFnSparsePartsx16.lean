-- made by wip/tools/myprint.py over the kit's print, for this claim
import Derived.Test.YtllaofiopnhdgaaPFnSparsePartsx0
import Derived.Test.YtllaofiopnhdgaaPFnSparsePartsx7
import Derived.Test.YtllaofiopnhdgaaPFnSparsePartsx9
import Derived.Test.YtllaofiopnhdgaaPFnSparsePartsx13
import Derived.Test.YtllaofiopnhdgaaPFnSparsePartsx15
namespace Go.Proofs.Ytllaofiopnhdgaa.PFnSparseParts
open Go.RowKit Go.Proofs.YtllaofiopnhdgaaW.PrintWords Go.Proofs.YtllaofiopnhdgaaW.PrintLast Go.Proofs.YtllaofiopnhdgaaW.PrintMore
open List (setIfInBounds_toArray set_cons_zero set_cons_succ)
attribute [local go_sem] max2_int min2_int max_two min_two max_three min_three max_four min_four   -- for this text's walks alone
set_option linter.unusedVariables false
set_option linter.unusedSimpArgs false

set_option maxHeartbeats 8000000
set_option maxRecDepth 100000
/-! ### Fo: function 14 -/
def Fo.j0 : Nat → Int → Int → Bool → Int → Int → Int → Int → List Int → Int → List Int → Option (Int × Int × Int × Int × List Int × Int × List Int × Bool)
 | 0, _, _, _, _, _, _, _, _, _, _ => none
 | k + 1, x1, x2, x22, x3, x4, x5, x6, x7, x8, x9 => if x22 = true then (some (0, 0, 0, 0, ([] : List Int), 0, ([] : List Int), false)) else ((Fh.f k x3 x4 x5 x6 x7 x8 x9).bind fun t10 => (if 0 ≤ x1 then (if x1 ≤ x2 then (if x2 ≤ (t10.length : Int) then ((Fk.f k ((t10.take (x2 : Int).toNat).drop (x1 : Int).toNat) x4).bind fun bt11 => (some (bt11.1, bt11.2.1, bt11.2.2.1, bt11.2.2.2.1, bt11.2.2.2.2.1, bt11.2.2.2.2.2.1, bt11.2.2.2.2.2.2, true))) else (none)) else (none)) else (none)))
def Fo.f (k : Nat) (a0_0 : Int) (a0_1 : Int) (a0_2 : Int) (a0_3 : Int) (l0_4 : List Int) (a0_5 : Int) (l0_6 : List Int) (a1 : Int) (a2 : Int) : Option (Int × Int × Int × Int × List Int × Int × List Int × Bool) := (Fb.f k a0_0 a0_1 a0_2 a0_3 l0_4 a0_5 l0_6).bind fun t7 => (if t7 = true then ((Fp.f a1 0 a2).bind fun t8 => (if t8 = true then (Fo.j0 k a1 a2 (decide (a2 > a0_0)) a0_0 a0_1 a0_2 a0_3 l0_4 a0_5 l0_6) else (Fo.j0 k a1 a2 true a0_0 a0_1 a0_2 a0_3 l0_4 a0_5 l0_6))) else (Fo.j0 k a1 a2 true a0_0 a0_1 a0_2 a0_3 l0_4 a0_5 l0_6))
theorem Fo.mono_l : ∀ k, (∀ y0 y1 y2 y3 y4 y5 y6 y7 y8 y9, LeO (Fo.j0 k y0 y1 y2 y3 y4 y5 y6 y7 y8 y9) (Fo.j0 (k + 1) y0 y1 y2 y3 y4 y5 y6 y7 y8 y9))
 | 0 => fun _ _ _ _ _ _ _ _ _ _ r h => by simp [Fo.j0] at h | k + 1 => by
  have ih0 := Fo.mono_l k
  ·
   intro y0 y1 y2 y3 y4 y5 y6 y7 y8 y9
   unfold Fo.j0
   exact Mo12
theorem Fo.mono : ∀ a0 a1 a2 a3 a4 a5 a6 a7 a8 k, LeO (Fo.f k a0 a1 a2 a3 a4 a5 a6 a7 a8) (Fo.f (k + 1) a0 a1 a2 a3 a4 a5 a6 a7 a8) := by
 intro a0 a1 a2 a3 a4 a5 a6 a7 a8 k
 have ih0 := Fo.mono_l k
 unfold Fo.f
 exact Mo12
def Fo.T3 : Bool × List (List Nat × List Nat) := (true, [([], []), ([0], [0]), ([], []), ([], []), ([1, 2, 3], [1, 2, 3]), ([], []), ([5], [5]), ([4, 6, 1], [4, 6]), ([7, 7, 0, 1, 2, 3, 4, 5, 6, 7], [7]), ([8, 0, 1, 2, 3, 4, 5, 6, 7, 8], [])])
def Fo.B3 : List Nat := [0, 1, 0, 0, 15, 0, 32, 127, 255, 511]
theorem Fo.tab3 : rtab .any (opsOf Try.f14 3) = Fo.T3 := by kernel_rfl
theorem Fo.bits3 : waitsOk Fo.T3.2 Fo.B3 = true := by kernel_rfl
theorem Fo.calls (k : Nat) (a0_0 : Int) (a0_1 : Int) (a0_2 : Int) (a0_3 : Int) (A0_4 : Option Addr) (c0_4 : Nat) (l0_4 : List Int) (a0_5 : Int) (A0_6 : Option Addr) (c0_6 : Nat) (l0_6 : List Int) (a1 : Int) (a2 : Int) (r1 : Int) (r2 : Int) (r3 : Int) (r4 : Int) (r5 : List Int) (r6 : Int) (r7 : List Int) (r8 : Bool) (w : World) (hr0_4 : Kd.C (Kd.int .i64) w A0_4 l0_4.length l0_4) (hc0_4 : l0_4.length ≤ c0_4) (hr0_6 : Kd.C (Kd.int .i64) w A0_6 l0_6.length l0_6) (hc0_6 : l0_6.length ≤ c0_6) (h : Fo.f k a0_0 a0_1 a0_2 a0_3 l0_4 a0_5 l0_6 a1 a2 = some (r1, r2, r3, r4, r5, r6, r7, r8)) :
  Calls Try.prog 14 #[.agg #[.int .i64 a0_0, .int .i64 a0_1, .int .i64 a0_2, .int .i64 a0_3, .slice A0_4 l0_4.length c0_4, .int .i64 a0_5, .slice A0_6 l0_6.length c0_6], .int .i64 a1, .int .i64 a2] w fun e w' => ∃ v4_ v6_ : Value, e = .returned (.tuple #[.agg #[.int .i64 r1, .int .i64 r2, .int .i64 r3, .int .i64 r4, v4_, .int .i64 r6, v6_], .bool r8]) ∧ Kd.R (Kd.int .i64) 3 w' w.heap.size (fun k_ => some k_ ≠ (v6_ : Value).ownBlock) v4_ r5 ∧ Kd.R (Kd.int .i64) 3 w' w.heap.size (fun k_ => some k_ ≠ (v4_ : Value).ownBlock) v6_ r7 ∧ Below w.heap.size w w' := by
 have hu28 := Try.underlying28
 have HR0_4 := am hr0_4
 have HC0_4 := am hc0_4
 clear hr0_4 hc0_4
 have HR0_6 := am hr0_6
 have HC0_6 := am hc0_6
 clear hr0_6 hc0_6
 have HB := am (Below.refl w.heap.size w)
 have H : ((Fb.f k a0_0 a0_1 a0_2 a0_3 l0_4 a0_5 l0_6).bind fun t43 => (if t43 = true then ((Fp.f a1 0 a2).bind fun t44 => (if t44 = true then (Fo.j0 k a1 a2 (decide (a2 > a0_0)) a0_0 a0_1 a0_2 a0_3 l0_4 a0_5 l0_6) else (Fo.j0 k a1 a2 true a0_0 a0_1 a0_2 a0_3 l0_4 a0_5 l0_6))) else (Fo.j0 k a1 a2 true a0_0 a0_1 a0_2 a0_3 l0_4 a0_5 l0_6))) = some (r1, r2, r3, r4, r5, r6, r7, r8) := h
 clear h
 have HC4 := am H
 clear H
 go_enter Try.func14, Try.ntmps14
 go_upto_region 1 with (first | ((with_reducible refine gate_dst (N := 3) rfl ?_); refine box_event ?hg (N := 3) ?hd (cs := #[.int .i64 a0_0, .int .i64 a0_1, .int .i64 a0_2, .int .i64 a0_3, .slice A0_4 l0_4.length c0_4, .int .i64 a0_5, .slice A0_6 l0_6.length c0_6]) (t := 28) ?hr ?_; (case hd => rfl); (case hg => rfl); (case hr => exact Z111); intro gb45 hg w5 hbox hb; have BK45 := am (hbox); have GW45 := nG HB hg; have GE45 := nG HB hg; have GI45 := gI GE45; replace HB := am (below_step (uN HB) hb); clear hb hbox hg) | ((with_reducible refine gate_dst (N := 6) rfl ?_); refine box_event ?hg (N := 6) ?hd (cs := #[.int .i64 0, .int .i64 0, .int .i64 0, .int .i64 0, .slice none 0 0, .int .i64 0, .slice none 0 0]) (t := 28) ?hr ?_; (case hd => rfl); (case hg => rfl); (case hr => exact Z111); intro gb46 hg w6 hbox hb; have BK46 := am (hbox); have GW46 := am ((by rw [hg]; exact (below_size Z41) : w.heap.size ≤ gb46)); have GE46 := am ((by rw [hg]; exact (below_size Z41) : w.heap.size ≤ gb46)); replace HB := am (below_step Z41 hb); have NB45_46 := nL BK45 hg; have NB46_45 := nR BK45 hg; replace BK45 := kB BK45 hb; clear hb hbox hg))
 (try simp only [Act.put, setIfInBounds_toArray, set_cons_zero, set_cons_succ])
 go_cut [22] (fun v22 wc => ∃ (kq : Nat) (x22_3 : Bool), v22 = .bool x22_3 ∧ Aside0 (Fo.j0 kq a1 a2 x22_3 a0_0 a0_1 a0_2 a0_3 l0_4 a0_5 l0_6 = some (r1, r2, r3, r4, r5, r6, r7, r8)) ∧ Aside0 (kq ≤ k) ∧ Aside0 (wc.heap[gb45]? = some (.cells #[.int .i64 a0_0, .int .i64 a0_1, .int .i64 a0_2, .int .i64 a0_3, (.slice A0_4 l0_4.length c0_4), .int .i64 a0_5, (.slice A0_6 l0_6.length c0_6)] 28 (0, 0))) ∧ Aside0 (wc.heap[gb46]? = some (.cells #[.int .i64 0, .int .i64 0, .int .i64 0, .int .i64 0, (.slice none 0 0), .int .i64 0, (.slice none 0 0)] 28 (0, 0))) ∧ Aside0 (Below w.heap.size w wc))
 case first =>
  have H := HC4.out
  clear HC4
  replace H := Option.bind_eq_some_iff.mp H
  obtain ⟨t43, A70, H⟩ := H
  try dsimp only at H
  have A7 := am A70
  clear A70
  by_cases c8 : t43 = true
  rotate_left
  ·
   replace c8 := Bool.eq_false_iff.mpr c8
   subst c8
   rw [if_neg (show ¬ (false = true) from Z16)] at H
   have H' := am H
   clear H
   have hnb18 := NB45_46.out
   have hnc18 := NB46_45.out
   obtain ⟨hcz19_0, hcz19_1, hcz19_2, hcz19_3, hcz19_4, hcz19_5, hcz19_6, hfz19_0, hfz19_1, hfz19_2, hfz19_3, hfz19_4, hfz19_5, hfz19_6⟩ := ce7 BK45
   go_wp2_with (first | ((with_reducible refine gate_callee (f := 29) rfl ?_); refine goesL_ (some 9) rfl rfl Try.func29 Z112 rfl #[.agg #[.int .i64 a0_0, .int .i64 a0_1, .int .i64 a0_2, .int .i64 a0_3, .slice A0_4 l0_4.length c0_4, .int .i64 a0_5, .slice A0_6 l0_6.length c0_6]] rfl Z140 ?_; (with_reducible refine (Fb.calls k a0_0 a0_1 a0_2 a0_3 _ _ l0_4 a0_5 _ _ l0_6 false _ ?side1 ?side2 ?side3 ?side4 A7.out).mono ?_); (case side1 => exact uC HR0_4 HB); (case side2 => exact HC0_4.out); (case side3 => exact uC HR0_6 HB); (case side4 => exact HC0_6.out); rintro e w20 ⟨rfl, hb⟩; refine ⟨_, rfl, ?_⟩; replace BK45 := kB BK45 hb; replace BK46 := kB BK46 hb; replace HB := am (below_step Z18 hb); (try clear hb); (try clear hb2); (try clear hk); (try clear hi)))
   go_meet
   case rel => exact ⟨_, (true), Z110, H', ⟨Z129⟩, ⟨pb BK45⟩, ⟨pb BK46⟩, ⟨Z18⟩⟩
  subst c8
  rw [if_pos rfl] at H
  replace H := Option.bind_eq_some_iff.mp H
  obtain ⟨t44, A90, H⟩ := H
  try dsimp only at H
  have A9 := am A90
  clear A90
  by_cases c10 : t44 = true
  ·
   subst c10
   rw [if_pos rfl] at H
   have H' := am H
   clear H
   have hnb11 := NB45_46.out
   have hnc11 := NB46_45.out
   obtain ⟨hcz12_0, hcz12_1, hcz12_2, hcz12_3, hcz12_4, hcz12_5, hcz12_6, hfz12_0, hfz12_1, hfz12_2, hfz12_3, hfz12_4, hfz12_5, hfz12_6⟩ := ce7 BK45
   go_wp2_with (first | ((with_reducible refine gate_callee (f := 29) rfl ?_); refine goesL_ (some 9) rfl rfl Try.func29 Z112 rfl #[.agg #[.int .i64 a0_0, .int .i64 a0_1, .int .i64 a0_2, .int .i64 a0_3, .slice A0_4 l0_4.length c0_4, .int .i64 a0_5, .slice A0_6 l0_6.length c0_6]] rfl Z140 ?_; (with_reducible refine (Fb.calls k a0_0 a0_1 a0_2 a0_3 _ _ l0_4 a0_5 _ _ l0_6 true _ ?side1 ?side2 ?side3 ?side4 A7.out).mono ?_); (case side1 => exact uC HR0_4 HB); (case side2 => exact HC0_4.out); (case side3 => exact uC HR0_6 HB); (case side4 => exact HC0_6.out); rintro e w13 ⟨rfl, hb⟩; refine ⟨_, rfl, ?_⟩; replace BK45 := kB BK45 hb; replace BK46 := kB BK46 hb; replace HB := am (below_step Z18 hb); (try clear hb); (try clear hb2); (try clear hk); (try clear hi)) | (go_at_call 30; (with_reducible refine (Fp.calls a1 0 a2 true _ A9.out).mono ?_); rintro e w' ⟨rfl, ⟨nd, rfl⟩⟩; obtain ⟨hcz14_0, hcz14_1, hcz14_2, hcz14_3, hcz14_4, hcz14_5, hcz14_6, hfz14_0, hfz14_1, hfz14_2, hfz14_3, hfz14_4, hfz14_5, hfz14_6⟩ := ce7 BK45))
   go_meet
   case rel => exact ⟨_, (decide (a2 > a0_0)), Z110, H', ⟨Z129⟩, ⟨pb BK45⟩, ⟨pb BK46⟩, ⟨Z18⟩⟩
  replace c10 := Bool.eq_false_iff.mpr c10
  subst c10
  rw [if_neg (show ¬ (false = true) from Z16)] at H
  have H' := am H
  clear H
  have hnb15 := NB45_46.out
  have hnc15 := NB46_45.out
  obtain ⟨hcz16_0, hcz16_1, hcz16_2, hcz16_3, hcz16_4, hcz16_5, hcz16_6, hfz16_0, hfz16_1, hfz16_2, hfz16_3, hfz16_4, hfz16_5, hfz16_6⟩ := ce7 BK45
  go_wp2_with (first | ((with_reducible refine gate_callee (f := 29) rfl ?_); refine goesL_ (some 9) rfl rfl Try.func29 Z112 rfl #[.agg #[.int .i64 a0_0, .int .i64 a0_1, .int .i64 a0_2, .int .i64 a0_3, .slice A0_4 l0_4.length c0_4, .int .i64 a0_5, .slice A0_6 l0_6.length c0_6]] rfl Z140 ?_; (with_reducible refine (Fb.calls k a0_0 a0_1 a0_2 a0_3 _ _ l0_4 a0_5 _ _ l0_6 true _ ?side1 ?side2 ?side3 ?side4 A7.out).mono ?_); (case side1 => exact uC HR0_4 HB); (case side2 => exact HC0_4.out); (case side3 => exact uC HR0_6 HB); (case side4 => exact HC0_6.out); rintro e w17 ⟨rfl, hb⟩; refine ⟨_, rfl, ?_⟩; replace BK45 := kB BK45 hb; replace BK46 := kB BK46 hb; replace HB := am (below_step Z18 hb); (try clear hb); (try clear hb2); (try clear hk); (try clear hi)) | (go_at_call 30; (with_reducible refine (Fp.calls a1 0 a2 false _ A9.out).mono ?_); rintro e w' ⟨rfl, ⟨nd, rfl⟩⟩))
  go_meet
  case rel => exact ⟨_, (true), Z110, H', ⟨Z129⟩, ⟨pb BK45⟩, ⟨pb BK46⟩, ⟨Z18⟩⟩
 case rest =>
  clear HC4
  try clear c1
  try clear c2
  try clear p2
  try clear c8
  try clear c10
  try clear c11
  try clear c14
  try clear c15
  try clear c18
  try clear hcz12_0 hcz12_1 hcz12_2 hcz12_3 hcz12_4 hcz12_5 hcz12_6 hcz14_0 hcz14_1 hcz14_2 hcz14_3 hcz14_4 hcz14_5 hcz14_6 hcz16_0 hcz16_1 hcz16_2 hcz16_3 hcz16_4 hcz16_5 hcz16_6 hcz19_0 hcz19_1 hcz19_2 hcz19_3 hcz19_4 hcz19_5 hcz19_6
  try clear hfz12_0 hfz12_1 hfz12_2 hfz12_3 hfz12_4 hfz12_5 hfz12_6 hfz14_0 hfz14_1 hfz14_2 hfz14_3 hfz14_4 hfz14_5 hfz14_6 hfz16_0 hfz16_1 hfz16_2 hfz16_3 hfz16_4 hfz16_5 hfz16_6 hfz19_0 hfz19_1 hfz19_2 hfz19_3 hfz19_4 hfz19_5 hfz19_6
  obtain ⟨kq, x22_3, rfl, HA, HJ3, BK45, BK46, HB⟩ := hcut
  cases kq with
  | zero => exact absurd HA.out (by simp [Fo.j0])
  | succ kj3 =>
   have H := HA.out
   clear HA
   simp only [Fo.j0] at H
   by_cases c21 : x22_3 = true
   ·
    subst c21
    rw [if_pos rfl] at H
    simp only [Option.some.injEq, Prod.mk.injEq] at H
    obtain ⟨rfl, rfl, rfl, rfl, rfl, rfl, rfl, rfl⟩ := H
    have hnb22 := NB46_45.out
    have hnc22 := NB45_46.out
    obtain ⟨hcz23_0, hcz23_1, hcz23_2, hcz23_3, hcz23_4, hcz23_5, hcz23_6, hfz23_0, hfz23_1, hfz23_2, hfz23_3, hfz23_4, hfz23_5, hfz23_6⟩ := ce7 BK46
    go_wp2
    refine bodyPost_ret (results_ct rfl _ _ gb46 28 #[.int .i64 0, .int .i64 0, .int .i64 0, .int .i64 0, .slice none 0 0, .int .i64 0, .slice none 0 0] (0, 0) _ rfl (pT (pp 6 (pp 5 (pp 4 (pp 3 (pp 2 (pp 1 (pp 0 (pb BK46))))))))) Try.underlying28 rfl Z112) rfl ?_
    exact ⟨_, _, Z109, Z23, Z23, Z18⟩
   replace c21 := Bool.eq_false_iff.mpr c21
   subst c21
   rw [if_neg (show ¬ (false = true) from Z16)] at H
   replace H := Option.bind_eq_some_iff.mp H
   obtain ⟨t47, A49, H⟩ := H
   try dsimp only at H
   have A24 := am A49
   clear A49
   by_cases c25 : 0 ≤ a1
   rotate_left
   ·
    rw [if_neg c25] at H
    exact absurd H Z43
   rw [if_pos c25] at H
   have c25b0 := eq_true c25
   have c25b1 := decide_eq_true c25
   clear c25
   by_cases c26 : a1 ≤ a2
   rotate_left
   ·
    rw [if_neg c26] at H
    exact absurd H Z43
   rw [if_pos c26] at H
   have c26b0 := eq_true c26
   have c26b1 := decide_eq_true c26
   clear c26
   by_cases c27 : a2 ≤ (t47.length : Int)
   rotate_left
   ·
    rw [if_neg c27] at H
    exact absurd H Z43
   rw [if_pos c27] at H
   have c27b0 := eq_true c27
   have c27b1 := decide_eq_true c27
   have CK27b1_ : Aside0 (a2 ≤ (t47.length : Int)) := am (of_decide_eq_true c27b1)
   clear c27
   obtain ⟨y50, hy50⟩ : ∃ y_ : List Int, y_ = ((t47.take (a2 : Int).toNat).drop (a1 : Int).toNat) := ⟨_, rfl⟩
   replace H : ((Fk.f kj3 y50 a0_1).bind fun bt48 => (some (bt48.1, bt48.2.1, bt48.2.2.1, bt48.2.2.2.1, bt48.2.2.2.2.1, bt48.2.2.2.2.2.1, bt48.2.2.2.2.2.2, true))) = some (r1, r2, r3, r4, r5, r6, r7, r8) := by first | (rw [hy50]; with_reducible exact H) | (have H2_ := (Option.bind_some _ _).symm.trans H; rw [hy50]; with_reducible exact H2_) | (have H2_ := (Option.bind_some _ _).symm.trans H; with_reducible exact H2_) | with_reducible exact H | (rw [hy50]; exact H) | exact H
   have Ny50 := am hy50
   clear hy50
   replace H := Option.bind_eq_some_iff.mp H
   obtain ⟨⟨t48, t51, t52, t53, t54, t55, t56⟩, A57, H⟩ := H
   try dsimp only at H
   have A28 := am A57
   clear A57
   simp only [Option.some.injEq, Prod.mk.injEq] at H
   obtain ⟨rfl, rfl, rfl, rfl, rfl, rfl, rfl, rfl⟩ := H
   try go_wp2
   replace BK45 := am (blk_drew BK45.out)
   replace BK46 := am (blk_drew BK46.out)
   replace HB := am (below_drew1 HB.out)
   refine start_ (n := 10) (S := fun w' => w'.cell? ⟨gb45, 0, none⟩ = some (.int .i64 a0_0) ∧ w'.cell? ⟨gb45, 1, none⟩ = some (.int .i64 a0_1) ∧ w'.cell? ⟨gb45, 2, none⟩ = some (.int .i64 a0_2) ∧ w'.cell? ⟨gb45, 3, none⟩ = some (.int .i64 a0_3) ∧ w'.cell? ⟨gb45, 4, none⟩ = some (.slice A0_4 l0_4.length c0_4) ∧ w'.cell? ⟨gb45, 5, none⟩ = some (.int .i64 a0_5) ∧ w'.cell? ⟨gb45, 6, none⟩ = some (.slice A0_6 l0_6.length c0_6)) (ds := []) (bA 10 0) Z112 rfl rfl ⟨bc BK45 0, bc BK45 1, bc BK45 2, bc BK45 3, bc BK45 4, bc BK45 5, bc BK45 6⟩ (fun hHeld => ?_); refine with_tabW Fo.tab3 Fo.bits3 (fun HT_ HW_ => ?_)
   generalize wc.drew = w29 at BK45 BK46 HB hHeld ⊢
   refine pS 2 26 (bA 10 4) ?_
   refine pS 3 27 (bA 10 12) ?_
   refine pS 5 29 (bA 10 44) ?_
   refine tS7 0 24 (bA 10 45) hHeld ?_
   refine tS7 6 30 (bA 10 109) hHeld ?_
   refine one_ (i := 1) (N := some 25) (bA 10 111) rfl rfl (one_of HT_.out Z112) Z16 (fun K hK => ?_)
   refine goes_ Try.func32 Z112 rfl #[.agg #[.int .i64 a0_0, .int .i64 a0_1, .int .i64 a0_2, .int .i64 a0_3, .slice A0_4 l0_4.length c0_4, .int .i64 a0_5, .slice A0_6 l0_6.length c0_6]] Z63 rfl rfl Z140 ?_
   with_reducible refine (Fh.calls kj3 a0_0 a0_1 a0_2 a0_3 _ _ l0_4 a0_5 _ _ l0_6 t47 _ ?side1 ?side2 ?side3 ?side4 A24.out).mono ?_
   (case side1 => exact uC HR0_4 HB)
   (case side2 => exact HC0_4.out)
   (case side3 => exact uC HR0_6 HB)
   (case side4 => exact HC0_6.out)
   rintro e w30 ⟨v58, rfl, ho0, hb⟩
   refine ⟨_, rfl, ?_⟩
   have HO59 := am (Kd.R_lower ho0 (below_size Z18))
   replace BK45 := kB BK45 hb
   replace BK46 := kB BK46 hb
   replace HB := am (below_step Z18 hb)
   (try clear hb)
   (try clear hb2)
   (try clear hk)
   (try clear hi)
   (try clear ho0)
   obtain ⟨Ao32, co32, eo32⟩ := Kd.R_slice HO59.out
   (first | subst eo32 | (injection eo32 with f1_ f2_ f3_; have f4_ := f1_.symm; have f5_ := f3_.symm; clear f1_ f2_ f3_; subst f4_; subst f5_))
   have q31 : (a2 : Int) ≤ ((t47.length : Int) : Int) := of_decide_eq_true Z6
   obtain ⟨i031, hi031, _, hsz31, _⟩ := info_parts info3
   have hroom31 : t47.length ≤ co32 := (Kd.R_reads' HO59.out).2.1
   have hC31 : Kd.C (Kd.int .i64) _ Ao32 t47.length t47 := (Kd.R_reads' HO59.out).2.2
   have ql31 : (a1 : Int) ≤ (a2 : Int) := of_decide_eq_true Z6
   have q031 : (0 : Int) ≤ (a1 : Int) := of_decide_eq_true Z6
   have hcut31 := cut_mid (P := Try.prog) 24 3 .i64 .i64 Try.underlying24 hi031 1 hsz31 Ao32 t47.length co32 a1 a2 q031 ql31 q31 hroom31
   have hr31 := Kd.C_mid (lo := (a1 : Int).toNat) (hi := (a2 : Int).toNat) (c := co32) hC31 Z70 Z70 hroom31
   obtain ⟨A31, hA31⟩ : ∃ A1, A1 = (if co32 = (a1 : Int).toNat then Ao32 else (Ao32 : Option Addr).map (·.add ((a1 : Int).toNat * 1))) := ⟨_, rfl⟩
   obtain ⟨c31, hc31⟩ : ∃ c1, c1 = co32 - (a1 : Int).toNat := ⟨_, rfl⟩
   have hy31 : y50.length = (a2 : Int).toNat - (a1 : Int).toNat := (by rw [Ny50.out, List.length_drop, List.length_take] <;> omega)
   rw [show ((t47).take (a2 : Int).toNat).drop (a1 : Int).toNat = y50 from Ny50.out.symm] at hr31
   replace hr31 : Kd.C (Kd.int .i64) _ A31 y50.length y50 := (by rw [hA31]; exact hr31)
   rw [← hy31, ← hA31, ← hc31] at hcut31
   have HR60 := am hr31
   have HC60 := am (show y50.length ≤ c31 from by rw [hy31, hc31]; exact Nat.sub_le_sub_right (Nat.le_trans Z70 hroom31) _)
   clear hr31 hC31 hroom31 hi031 hsz31 hc31
   have KY31 := am hy31
   have KA31 := am hA31
   clear hy31 hA31
   have KL31 := am (show (a2 : Int).toNat ≤ t47.length from Z70)
   have KM31 := am (show (a1 : Int).toNat ≤ (a2 : Int).toNat from Z70)
   replace q31 := eq_true q31
   refine hK.out _ _ ⟨bc BK45 0, bc BK45 1, bc BK45 2, bc BK45 3, bc BK45 4, bc BK45 5, bc BK45 6⟩ (fun hHeld => ?_)
   clear hK K
   refine norm_ (a' := ?_) ?_ ?_
   rotate_left
   ·
    show Act.put _ (some 25) _ = _
    simp only [Act.put, setIfInBounds_toArray, set_cons_zero, set_cons_succ, i64_w, i32_w]
    rfl
   refine pS 4 28 (bA 10 127) ?_
   refine one_ (i := 7) (N := some 31) (bA 10 255) rfl rfl (one_of HT_.out Z112) Z16 (fun K hK => ?_)
   refine goes_ Try.func31 Z112 rfl #[.slice A31 y50.length c31, .int .i64 a0_1] Z63 rfl rfl Z140 ?_
   with_reducible refine (Fk.calls kj3 _ _ y50 a0_1 t48 t51 t52 t53 t54 t55 t56 _ ?side1 ?side2 A28.out).mono ?_
   (case side1 => repeat (first | exact Z76 | (with_reducible refine Kd.C_alloc ?_ _) | (with_reducible refine Kd.C_drewN ?_ _) | (with_reducible refine Kd.C_drew ?_)))
   (case side2 => exact HC60.out)
   rintro e w33 ⟨v61, v62, rfl, ho0, ho1, hb⟩
   refine ⟨_, rfl, ?_⟩
   have HO63 := am (Kd.R_lower (Kd.R_new' ho0 (Kd.R_lt (uR HO59))) (below_size Z18))
   have HO65 := am (Kd.R_lower (Kd.R_new' ho1 (Kd.R_lt (uR HO59))) (below_size Z18))
   replace HO59 := am (Kd.R_mono (Kd.R_told (Kd.R_told (Kd.R_old (uR HO59) hb) (Kd.R_base ho0)) (Kd.R_base ho1)) (fun _ h_ => h_.1))
   replace BK45 := kB BK45 hb
   replace BK46 := kB BK46 hb
   replace HR60 := am (Kd.C_below Z76 hb)
   replace HB := am (below_step Z18 hb)
   (try clear hb)
   (try clear hb2)
   (try clear hk)
   (try clear hi)
   (try clear ho0)
   (try clear ho1)
   obtain ⟨Ao38, co38, eo38⟩ := Kd.R_slice HO63.out
   (first | subst eo38 | (injection eo38 with f1_ f2_ f3_; have f4_ := f1_.symm; have f5_ := f3_.symm; clear f1_ f2_ f3_; subst f4_; subst f5_))
   obtain ⟨Ao41, co41, eo41⟩ := Kd.R_slice HO65.out
   (first | subst eo41 | (injection eo41 with f1_ f2_ f3_; have f4_ := f1_.symm; have f5_ := f3_.symm; clear f1_ f2_ f3_; subst f4_; subst f5_))
   refine hK.out _ _ ⟨bc BK45 0, bc BK45 1, bc BK45 2, bc BK45 3, bc BK45 4, bc BK45 5, bc BK45 6⟩ (fun hHeld => ?_)
   clear hK K
   refine norm_ (a' := ?_) ?_ ?_
   rotate_left
   ·
    show Act.put _ (some 31) _ = _
    simp only [Act.put, setIfInBounds_toArray, set_cons_zero, set_cons_succ, i64_w, i32_w]
    rfl
   refine one_ (i := 8) (N := none) (bA 10 511) rfl rfl (one_of HT_.out Z112) Z16 (fun K hK => ?_)
   have hs34 : w33.cell? ⟨gb46, 0, none⟩ = some (.int .i64 0) := bc BK46 0
   have hfs34 := blk_frozen BK46.out 0
   have hns34_0 := NB45_46.out
   have hms34_0 := NB46_45.out
   have hs35 : w33.cell? ⟨gb46, 1, none⟩ = some (.int .i64 0) := bc BK46 1
   have hfs35 := blk_frozen BK46.out 1
   have hns35_0 := NB45_46.out
   have hms35_0 := NB46_45.out
   have hs36 : w33.cell? ⟨gb46, 2, none⟩ = some (.int .i64 0) := bc BK46 2
   have hfs36 := blk_frozen BK46.out 2
   have hns36_0 := NB45_46.out
   have hms36_0 := NB46_45.out
   have hs37 : w33.cell? ⟨gb46, 3, none⟩ = some (.int .i64 0) := bc BK46 3
   have hfs37 := blk_frozen BK46.out 3
   have hns37_0 := NB45_46.out
   have hms37_0 := NB46_45.out
   have hs39 : w33.cell? ⟨gb46, 4, none⟩ = some (.slice none 0 0) := bc BK46 4
   have hfs39 := blk_frozen BK46.out 4
   have hns39_0 := NB45_46.out
   have hms39_0 := NB46_45.out
   have hs40 : w33.cell? ⟨gb46, 5, none⟩ = some (.int .i64 0) := bc BK46 5
   have hfs40 := blk_frozen BK46.out 5
   have hns40_0 := NB45_46.out
   have hms40_0 := NB46_45.out
   have hs42 : w33.cell? ⟨gb46, 6, none⟩ = some (.slice none 0 0) := bc BK46 6
   have hfs42 := blk_frozen BK46.out 6
   have hns42_0 := NB45_46.out
   have hms42_0 := NB46_45.out
   refine skip_ (w1 := ?_) Z63 rfl ?_ ?_
   rotate_left
   ·
    go_simp
    rfl
   refine hK.out _ _ ⟨((cell_far (p := ⟨gb46, _, none⟩) NB45_46.out _).trans (((cell_far (p := ⟨gb46, _, none⟩) NB45_46.out _).trans (((cell_far (p := ⟨gb46, _, none⟩) NB45_46.out _).trans (((cell_far (p := ⟨gb46, _, none⟩) NB45_46.out _).trans (((cell_far (p := ⟨gb46, _, none⟩) NB45_46.out _).trans (((cell_far (p := ⟨gb46, _, none⟩) NB45_46.out _).trans (((cell_far (p := ⟨gb46, _, none⟩) NB45_46.out _).trans (hHeld.1)))))))))))))), ((cell_far (p := ⟨gb46, _, none⟩) NB45_46.out _).trans (((cell_far (p := ⟨gb46, _, none⟩) NB45_46.out _).trans (((cell_far (p := ⟨gb46, _, none⟩) NB45_46.out _).trans (((cell_far (p := ⟨gb46, _, none⟩) NB45_46.out _).trans (((cell_far (p := ⟨gb46, _, none⟩) NB45_46.out _).trans (((cell_far (p := ⟨gb46, _, none⟩) NB45_46.out _).trans (((cell_far (p := ⟨gb46, _, none⟩) NB45_46.out _).trans (hHeld.2.1)))))))))))))), ((cell_far (p := ⟨gb46, _, none⟩) NB45_46.out _).trans (((cell_far (p := ⟨gb46, _, none⟩) NB45_46.out _).trans (((cell_far (p := ⟨gb46, _, none⟩) NB45_46.out _).trans (((cell_far (p := ⟨gb46, _, none⟩) NB45_46.out _).trans (((cell_far (p := ⟨gb46, _, none⟩) NB45_46.out _).trans (((cell_far (p := ⟨gb46, _, none⟩) NB45_46.out _).trans (((cell_far (p := ⟨gb46, _, none⟩) NB45_46.out _).trans (hHeld.2.2.1)))))))))))))), ((cell_far (p := ⟨gb46, _, none⟩) NB45_46.out _).trans (((cell_far (p := ⟨gb46, _, none⟩) NB45_46.out _).trans (((cell_far (p := ⟨gb46, _, none⟩) NB45_46.out _).trans (((cell_far (p := ⟨gb46, _, none⟩) NB45_46.out _).trans (((cell_far (p := ⟨gb46, _, none⟩) NB45_46.out _).trans (((cell_far (p := ⟨gb46, _, none⟩) NB45_46.out _).trans (((cell_far (p := ⟨gb46, _, none⟩) NB45_46.out _).trans (hHeld.2.2.2.1)))))))))))))), ((cell_far (p := ⟨gb46, _, none⟩) NB45_46.out _).trans (((cell_far (p := ⟨gb46, _, none⟩) NB45_46.out _).trans (((cell_far (p := ⟨gb46, _, none⟩) NB45_46.out _).trans (((cell_far (p := ⟨gb46, _, none⟩) NB45_46.out _).trans (((cell_far (p := ⟨gb46, _, none⟩) NB45_46.out _).trans (((cell_far (p := ⟨gb46, _, none⟩) NB45_46.out _).trans (((cell_far (p := ⟨gb46, _, none⟩) NB45_46.out _).trans (hHeld.2.2.2.2.1)))))))))))))), ((cell_far (p := ⟨gb46, _, none⟩) NB45_46.out _).trans (((cell_far (p := ⟨gb46, _, none⟩) NB45_46.out _).trans (((cell_far (p := ⟨gb46, _, none⟩) NB45_46.out _).trans (((cell_far (p := ⟨gb46, _, none⟩) NB45_46.out _).trans (((cell_far (p := ⟨gb46, _, none⟩) NB45_46.out _).trans (((cell_far (p := ⟨gb46, _, none⟩) NB45_46.out _).trans (((cell_far (p := ⟨gb46, _, none⟩) NB45_46.out _).trans (hHeld.2.2.2.2.2.1)))))))))))))), ((cell_far (p := ⟨gb46, _, none⟩) NB45_46.out _).trans (((cell_far (p := ⟨gb46, _, none⟩) NB45_46.out _).trans (((cell_far (p := ⟨gb46, _, none⟩) NB45_46.out _).trans (((cell_far (p := ⟨gb46, _, none⟩) NB45_46.out _).trans (((cell_far (p := ⟨gb46, _, none⟩) NB45_46.out _).trans (((cell_far (p := ⟨gb46, _, none⟩) NB45_46.out _).trans (((cell_far (p := ⟨gb46, _, none⟩) NB45_46.out _).trans (hHeld.2.2.2.2.2.2))))))))))))))⟩ (fun hHeld => ?_)
   clear hK K
   refine pS 9 7 (bA 10 1023) ?_
   refine done_ (done_of HT_.out Z112) ?_
   try go_wp2
   refine bodyPost_ret (results_ct rfl _ _ gb46 28 #[.int .i64 t48, .int .i64 t51, .int .i64 t52, .int .i64 t53, .slice Ao38 t54.length co38, .int .i64 t55, .slice Ao41 t56.length co41] (0, 0) _ rfl (pT (pp 6 (pp 5 (pp 4 (pp 3 (pp 2 (pp 1 (pp 0 (pb BK46))))))))) Try.underlying28 rfl Z112) rfl ?_
   exact ⟨_, _, Z109, by (with_reducible repeat (first | apply Kd.R_alloc | apply Kd.R_drewN | apply Kd.R_drew)); exact Kd.R_mono (fT HO63 BK46 Z16) (fun _ hk => hk.1.1), by (with_reducible repeat (first | apply Kd.R_alloc | apply Kd.R_drewN | apply Kd.R_drew)); exact Kd.R_mono (fT HO65 BK46 Z16) (fun _ hk => hk.1.1), Z18⟩

/-! ### FI: function 67 -/
def FI.l0 : Nat → List Int → List Int → Int → Int → Option (Bool)
 | 0, _, _, _, _ => none
 | k + 1, x0, x1, x12, x13 => if x13 < x12 then (if 0 ≤ x13 then (if x13 < (x0.length : Int) then (if x13 < (x1.length : Int) then (if (rd x0 x13) = (rd x1 x13) then (FI.l0 k x0 x1 x12 (wrap64 (x13 + 1))) else (some false)) else (none)) else (none)) else (none)) else (some true)
def FI.f (k : Nat) (l0 : List Int) (l1 : List Int) : Option (Bool) := if (l0.length : Int) = (l1.length : Int) then (FI.l0 k l0 l1 (l0.length : Int) 0) else (some false)
theorem FI.mono_l : ∀ k, (∀ y0 y1 y2 y3, LeO (FI.l0 k y0 y1 y2 y3) (FI.l0 (k + 1) y0 y1 y2 y3))
 | 0 => fun _ _ _ _ r h => by simp [FI.l0] at h | k + 1 => by
  have ih0 := FI.mono_l k
  ·
   intro y0 y1 y2 y3
   unfold FI.l0
   exact Mo1
theorem FI.mono : ∀ a0 a1 k, LeO (FI.f k a0 a1) (FI.f (k + 1) a0 a1) := by
 intro a0 a1 k
 have ih0 := FI.mono_l k
 unfold FI.f
 exact Mo1
theorem FI.calls (k : Nat) (A0 : Option Addr) (c0 : Nat) (l0 : List Int) (A1 : Option Addr) (c1 : Nat) (l1 : List Int) (r : Bool) (w : World) (hr0 : Kd.C (Kd.int .i64) w A0 l0.length l0) (hc0 : l0.length ≤ c0) (hr1 : Kd.C (Kd.int .i64) w A1 l1.length l1) (hc1 : l1.length ≤ c1) (h : FI.f k l0 l1 = some r) :
  Calls Try.prog 67 #[.slice A0 l0.length c0, .slice A1 l1.length c1] w fun e w' => e = .returned (.bool r) ∧ Drawn0 w w' := by
 have HR0 := am hr0
 have HC0 := am hc0
 clear hr0 hc0
 have HR1 := am hr1
 have HC1 := am hc1
 clear hr1 hc1
 have H : (if (l0.length : Int) = (l1.length : Int) then (FI.l0 k l0 l1 (l0.length : Int) 0) else (some false)) = some r := h
 clear h
 by_cases c3 : (l0.length : Int) = (l1.length : Int)
 rotate_left
 ·
  rw [if_neg c3] at H
  have c3b0 : ((l0.length : Int) == (l1.length : Int)) = false := beq_eq_false_iff_ne.mpr c3
  have c3b1 : ((l0.length : Int) != (l1.length : Int)) = true := bne_iff_ne.mpr c3
  have c3b2 : (l0.length == l1.length) = false := by first | simpa using c3 | (simp at c3 ⊢; omega)
  obtain rfl := Option.some.inj H
  go_enter Try.func67, Try.ntmps67
  go_wp2
  repeat (go_quiet (fail); try go_wp2)
  go_ret
  exact ⟨Z110, Z22⟩
 rw [if_pos c3] at H
 have c3b0 : ((l0.length : Int) == (l1.length : Int)) = true := beq_iff_eq.mpr c3
 have c3b1 : ((l0.length : Int) != (l1.length : Int)) = false := bne_eq_false_iff_eq.mpr c3
 have c3b2 : (l0.length == l1.length) = true := by first | simpa using c3 | (simp at c3 ⊢; omega)
 clear c3
 have H' := am H
 clear H
 go_enter Try.func67, Try.ntmps67
 go_wp2
 repeat (go_quiet (fail); try go_wp2)
 go_loopg [13] k (fun kq v13 w' => ∃ (x13_1 : Int), v13 = .int .i64 x13_1 ∧ Aside0 (FI.l0 kq l0 l1 (l0.length : Int) x13_1 = some r) ∧ Aside0 (kq ≤ k) ∧ Drawn0 w w')
 case atStart => exact ⟨(0), Z110, H', ⟨Nat.le_refl _⟩, Z22⟩
 case round =>
  clear H'
  try clear c1
  try clear p2
  try clear c3
  try clear c3b0
  try clear c3b1
  try clear c3b2
  obtain ⟨x13_1, rfl, HA, HK1, ⟨m1, rfl⟩⟩ := hrel
  cases gk with
  | zero => exact absurd HA.out (by simp [FI.l0])
  | succ k1 =>
   have H := HA.out
   clear HA
   simp only [FI.l0] at H
   by_cases c4 : x13_1 < (l0.length : Int)
   rotate_left
   ·
    rw [if_neg c4] at H
    have c4b0 := decide_eq_false c4
    clear c4
    obtain rfl := Option.some.inj H
    go_wp2
    repeat (go_quiet (fail); try go_wp2)
    go_ret
    exact ⟨Z110, Z22⟩
   rw [if_pos c4] at H
   have c4b0 := decide_eq_true c4
   clear c4
   by_cases c5 : 0 ≤ x13_1
   rotate_left
   ·
    rw [if_neg c5] at H
    exact absurd H Z43
   rw [if_pos c5] at H
   have c5b0 := decide_eq_true c5
   clear c5
   by_cases c6 : x13_1 < (l0.length : Int)
   rotate_left
   ·
    rw [if_neg c6] at H
    exact absurd H Z43
   rw [if_pos c6] at H
   have c6b0 := decide_eq_true c6
   clear c6
   by_cases c7 : x13_1 < (l1.length : Int)
   rotate_left
   ·
    rw [if_neg c7] at H
    exact absurd H Z43
   rw [if_pos c7] at H
   have c7b0 := decide_eq_true c7
   clear c7
   by_cases c8 : (rd l0 x13_1) = (rd l1 x13_1)
   rotate_left
   ·
    rw [if_neg c8] at H
    have c8b0 : ((rd l0 x13_1) == (rd l1 x13_1)) = false := beq_eq_false_iff_ne.mpr c8
    have c8b1 : ((rd l0 x13_1) != (rd l1 x13_1)) = true := bne_iff_ne.mpr c8
    obtain rfl := Option.some.inj H
    have p9 : 0 ≤ (x13_1 : Int) := of_decide_eq_true Z6
    have q9 : x13_1 < (l0.length : Int) := of_decide_eq_true Z6
    obtain ⟨ad9, e9, hx9_0⟩ := Kd.at_int HR0.out x13_1 p9 q9
    cases e9
    replace p9 := eq_true p9
    replace q9 := eq_true q9
    have p10 : 0 ≤ (x13_1 : Int) := of_decide_eq_true Z6
    have q10 : x13_1 < (l1.length : Int) := of_decide_eq_true Z6
    obtain ⟨ad10, e10, hx10_0⟩ := Kd.at_int HR1.out x13_1 p10 q10
    cases e10
    replace p10 := eq_true p10
    replace q10 := eq_true q10
    go_wp2
    repeat (go_quiet (fail); try go_wp2)
    go_ret
    exact ⟨Z110, Z22⟩
   rw [if_pos c8] at H
   have c8b0 : ((rd l0 x13_1) == (rd l1 x13_1)) = true := beq_iff_eq.mpr c8
   have c8b1 : ((rd l0 x13_1) != (rd l1 x13_1)) = false := bne_eq_false_iff_eq.mpr c8
   clear c8
   have H' := am H
   clear H
   have p9 : 0 ≤ (x13_1 : Int) := of_decide_eq_true Z6
   have q9 : x13_1 < (l0.length : Int) := of_decide_eq_true Z6
   obtain ⟨ad9, e9, hx9_0⟩ := Kd.at_int HR0.out x13_1 p9 q9
   cases e9
   replace p9 := eq_true p9
   replace q9 := eq_true q9
   have p10 : 0 ≤ (x13_1 : Int) := of_decide_eq_true Z6
   have q10 : x13_1 < (l1.length : Int) := of_decide_eq_true Z6
   obtain ⟨ad10, e10, hx10_0⟩ := Kd.at_int HR1.out x13_1 p10 q10
   cases e10
   replace p10 := eq_true p10
   replace q10 := eq_true q10
   go_wp2
   repeat (go_quiet (fail); try go_wp2)
   go_roundg k1
   case measure => have := HK1.out; omega
   case rel => exact ⟨(wrap64 (x13_1 + 1)), Z110, H', ⟨by have := HK1.out; omega⟩, Z22⟩

/-! ### FQ: function 33 -/
def FQ.f (k : Nat) (a0_0 : Int) (l0_1 : List Int) (a1_0 : Int) (l1_1 : List Int) : Option (Bool) := if a0_0 = a1_0 then ((FI.f k l0_1 l1_1).bind fun t2 => (some t2)) else (some false)
theorem FQ.mono : ∀ a0 a1 a2 a3 k, LeO (FQ.f k a0 a1 a2 a3) (FQ.f (k + 1) a0 a1 a2 a3) := by
 intro a0 a1 a2 a3 k
 unfold FQ.f
 repeat' first
   | with_reducible first | exact FI.mono .. | exact LeO.refl _ | exact LeO.none _ | refine LeO.ite ?_ ?_ | refine LeO.bind ?_ (fun _ => ?_)
   | exact FI.mono .. | exact LeO.none _ | refine LeO.ite ?_ ?_ | refine LeO.bind ?_ (fun _ => ?_)
theorem FQ.calls (k : Nat) (a0_0 : Int) (A0_1 : Option Addr) (c0_1 : Nat) (l0_1 : List Int) (a1_0 : Int) (A1_1 : Option Addr) (c1_1 : Nat) (l1_1 : List Int) (r : Bool) (w : World) (hr0_1 : Kd.C (Kd.int .i64) w A0_1 l0_1.length l0_1) (hc0_1 : l0_1.length ≤ c0_1) (hr1_1 : Kd.C (Kd.int .i64) w A1_1 l1_1.length l1_1) (hc1_1 : l1_1.length ≤ c1_1) (h : FQ.f k a0_0 l0_1 a1_0 l1_1 = some r) :
  Calls Try.prog 33 #[.agg #[.int .i64 a0_0, .slice A0_1 l0_1.length c0_1], .agg #[.int .i64 a1_0, .slice A1_1 l1_1.length c1_1]] w fun e w' => e = .returned (.bool r) ∧ Below w.heap.size w w' := by
 have hu26 := Try.underlying26
 have HR0_1 := am hr0_1
 have HC0_1 := am hc0_1
 clear hr0_1 hc0_1
 have HR1_1 := am hr1_1
 have HC1_1 := am hc1_1
 clear hr1_1 hc1_1
 have HB := am (Below.refl w.heap.size w)
 have H : (if a0_0 = a1_0 then ((FI.f k l0_1 l1_1).bind fun t15 => (some t15)) else (some false)) = some r := h
 clear h
 by_cases c3 : a0_0 = a1_0
 rotate_left
 ·
  rw [if_neg c3] at H
  have c3b0 : (a0_0 == a1_0) = false := beq_eq_false_iff_ne.mpr c3
  have c3b1 : (a0_0 != a1_0) = true := bne_iff_ne.mpr c3
  obtain rfl := Option.some.inj H
  go_enter Try.func33, Try.ntmps33
  go_wp2_with (first | ((with_reducible refine gate_dst (N := 2) rfl ?_); refine box_event ?hg (N := 2) ?hd (cs := #[.int .i64 a0_0, .slice A0_1 l0_1.length c0_1]) (t := 26) ?hr ?_; (case hd => rfl); (case hg => rfl); (case hr => exact Z111); intro gb16 hg w10 hbox hb; have BK16 := am (hbox); have GW16 := nG HB hg; have GE16 := nG HB hg; have GI16 := gI GE16; replace HB := am (below_step (uN HB) hb); clear hb hbox hg) | ((with_reducible refine gate_dst (N := 3) rfl ?_); refine box_event ?hg (N := 3) ?hd (cs := #[.int .i64 a1_0, .slice A1_1 l1_1.length c1_1]) (t := 26) ?hr ?_; (case hd => rfl); (case hg => rfl); (case hr => exact Z111); intro gb17 hg w11 hbox hb; have BK17 := am (hbox); have GW17 := am ((by rw [hg]; exact (below_size Z25) : w.heap.size ≤ gb17)); have GE17 := am ((by rw [hg]; exact (below_size Z25) : w.heap.size ≤ gb17)); replace HB := am (below_step Z25 hb); have NB16_17 := nL BK16 hg; have NB17_16 := nR BK16 hg; replace BK16 := kB BK16 hb; clear hb hbox hg; have hnb12 := NB16_17.out; have hnc12 := NB17_16.out; obtain ⟨hcz13_0, hcz13_1, hfz13_0, hfz13_1⟩ := ce2 BK16; obtain ⟨hcz14_0, hcz14_1, hfz14_0, hfz14_1⟩ := ce2 BK17))
  go_ret
  exact ⟨Z109, Z50⟩
 rw [if_pos c3] at H
 have c3b0 : (a0_0 == a1_0) = true := beq_iff_eq.mpr c3
 have c3b1 : (a0_0 != a1_0) = false := bne_eq_false_iff_eq.mpr c3
 clear c3
 replace H := Option.bind_eq_some_iff.mp H
 obtain ⟨t15, A40, H⟩ := H
 try dsimp only at H
 have A4 := am A40
 clear A40
 obtain rfl := Option.some.inj H
 go_enter Try.func33, Try.ntmps33
 go_wp2_with (first | ((with_reducible refine gate_dst (N := 2) rfl ?_); refine box_event ?hg (N := 2) ?hd (cs := #[.int .i64 a0_0, .slice A0_1 l0_1.length c0_1]) (t := 26) ?hr ?_; (case hd => rfl); (case hg => rfl); (case hr => exact Z111); intro gb16 hg w5 hbox hb; have BK16 := am (hbox); have GW16 := nG HB hg; have GE16 := nG HB hg; have GI16 := gI GE16; replace HB := am (below_step (uN HB) hb); clear hb hbox hg) | ((with_reducible refine gate_dst (N := 3) rfl ?_); refine box_event ?hg (N := 3) ?hd (cs := #[.int .i64 a1_0, .slice A1_1 l1_1.length c1_1]) (t := 26) ?hr ?_; (case hd => rfl); (case hg => rfl); (case hr => exact Z111); intro gb17 hg w6 hbox hb; have BK17 := am (hbox); have GW17 := am ((by rw [hg]; exact (below_size Z25) : w.heap.size ≤ gb17)); have GE17 := am ((by rw [hg]; exact (below_size Z25) : w.heap.size ≤ gb17)); replace HB := am (below_step Z25 hb); have NB16_17 := nL BK16 hg; have NB17_16 := nR BK16 hg; replace BK16 := kB BK16 hb; clear hb hbox hg; have hnb7 := NB16_17.out; have hnc7 := NB17_16.out; obtain ⟨hcz8_0, hcz8_1, hfz8_0, hfz8_1⟩ := ce2 BK16; obtain ⟨hcz9_0, hcz9_1, hfz9_0, hfz9_1⟩ := ce2 BK17) | (go_at_call 67; (with_reducible refine (FI.calls k _ _ l0_1 _ _ l1_1 t15 _ ?side1 ?side2 ?side3 ?side4 A4.out).mono ?_); (case side1 => exact uC HR0_1 HB); (case side2 => exact HC0_1.out); (case side3 => exact uC HR1_1 HB); (case side4 => exact HC1_1.out); rintro e w' ⟨rfl, ⟨nd, rfl⟩⟩))
 go_ret
 exact ⟨Z109, Z50⟩

/-! ### FX: function 15 -/
def FX.f (k : Nat) (a0_0 : Int) (a0_1 : Int) (a0_2 : Int) (a0_3 : Int) (l0_4 : List Int) (a0_5 : Int) (l0_6 : List Int) (a1_0 : Int) (a1_1 : Int) (a1_2 : Int) (a1_3 : Int) (l1_4 : List Int) (a1_5 : Int) (l1_6 : List Int) : Option (Bool) := if a0_0 = a1_0 then (if a0_1 = a1_1 then (if a0_2 = a1_2 then ((FQ.f k a0_3 l0_4 a1_3 l1_4).bind fun t7 => (if t7 = true then ((FQ.f k a0_5 l0_6 a1_5 l1_6).bind fun t8 => (some t8)) else (some false))) else (some false)) else (some false)) else (some false)
theorem FX.mono : ∀ a0 a1 a2 a3 a4 a5 a6 a7 a8 a9 a10 a11 a12 a13 k, LeO (FX.f k a0 a1 a2 a3 a4 a5 a6 a7 a8 a9 a10 a11 a12 a13) (FX.f (k + 1) a0 a1 a2 a3 a4 a5 a6 a7 a8 a9 a10 a11 a12 a13) := by
 intro a0 a1 a2 a3 a4 a5 a6 a7 a8 a9 a10 a11 a12 a13 k
 unfold FX.f
 repeat' first
   | with_reducible first | exact FQ.mono .. | exact LeO.refl _ | exact LeO.none _ | refine LeO.ite ?_ ?_ | refine LeO.bind ?_ (fun _ => ?_)
   | exact FQ.mono .. | exact LeO.none _ | refine LeO.ite ?_ ?_ | refine LeO.bind ?_ (fun _ => ?_)
theorem FX.calls (k : Nat) (a0_0 : Int) (a0_1 : Int) (a0_2 : Int) (a0_3 : Int) (A0_4 : Option Addr) (c0_4 : Nat) (l0_4 : List Int) (a0_5 : Int) (A0_6 : Option Addr) (c0_6 : Nat) (l0_6 : List Int) (a1_0 : Int) (a1_1 : Int) (a1_2 : Int) (a1_3 : Int) (A1_4 : Option Addr) (c1_4 : Nat) (l1_4 : List Int) (a1_5 : Int) (A1_6 : Option Addr) (c1_6 : Nat) (l1_6 : List Int) (r : Bool) (w : World) (hr0_4 : Kd.C (Kd.int .i64) w A0_4 l0_4.length l0_4) (hc0_4 : l0_4.length ≤ c0_4) (hr0_6 : Kd.C (Kd.int .i64) w A0_6 l0_6.length l0_6) (hc0_6 : l0_6.length ≤ c0_6) (hr1_4 : Kd.C (Kd.int .i64) w A1_4 l1_4.length l1_4) (hc1_4 : l1_4.length ≤ c1_4) (hr1_6 : Kd.C (Kd.int .i64) w A1_6 l1_6.length l1_6) (hc1_6 : l1_6.length ≤ c1_6) (h : FX.f k a0_0 a0_1 a0_2 a0_3 l0_4 a0_5 l0_6 a1_0 a1_1 a1_2 a1_3 l1_4 a1_5 l1_6 = some r) :
  Calls Try.prog 15 #[.agg #[.int .i64 a0_0, .int .i64 a0_1, .int .i64 a0_2, .int .i64 a0_3, .slice A0_4 l0_4.length c0_4, .int .i64 a0_5, .slice A0_6 l0_6.length c0_6], .agg #[.int .i64 a1_0, .int .i64 a1_1, .int .i64 a1_2, .int .i64 a1_3, .slice A1_4 l1_4.length c1_4, .int .i64 a1_5, .slice A1_6 l1_6.length c1_6]] w fun e w' => e = .returned (.bool r) ∧ Below w.heap.size w w' := by
 have hu28 := Try.underlying28
 have hu26 := Try.underlying26
 have HR0_4 := am hr0_4
 have HC0_4 := am hc0_4
 clear hr0_4 hc0_4
 have HR0_6 := am hr0_6
 have HC0_6 := am hc0_6
 clear hr0_6 hc0_6
 have HR1_4 := am hr1_4
 have HC1_4 := am hc1_4
 clear hr1_4 hc1_4
 have HR1_6 := am hr1_6
 have HC1_6 := am hc1_6
 clear hr1_6 hc1_6
 have HB := am (Below.refl w.heap.size w)
 have H : (if a0_0 = a1_0 then (if a0_1 = a1_1 then (if a0_2 = a1_2 then ((FQ.f k a0_3 l0_4 a1_3 l1_4).bind fun t39 => (if t39 = true then ((FQ.f k a0_5 l0_6 a1_5 l1_6).bind fun t40 => (some t40)) else (some false))) else (some false)) else (some false)) else (some false)) = some r := h
 clear h
 by_cases c3 : a0_0 = a1_0
 ·
  rw [if_pos c3] at H
  have c3b0 : (a0_0 == a1_0) = true := beq_iff_eq.mpr c3
  have c3b1 : (a0_0 != a1_0) = false := bne_eq_false_iff_eq.mpr c3
  clear c3
  by_cases c4 : a0_1 = a1_1
  ·
   rw [if_pos c4] at H
   have c4b0 : (a0_1 == a1_1) = true := beq_iff_eq.mpr c4
   have c4b1 : (a0_1 != a1_1) = false := bne_eq_false_iff_eq.mpr c4
   clear c4
   by_cases c5 : a0_2 = a1_2
   ·
    rw [if_pos c5] at H
    have c5b0 : (a0_2 == a1_2) = true := beq_iff_eq.mpr c5
    have c5b1 : (a0_2 != a1_2) = false := bne_eq_false_iff_eq.mpr c5
    clear c5
    replace H := Option.bind_eq_some_iff.mp H
    obtain ⟨t39, A60, H⟩ := H
    try dsimp only at H
    have A6 := am A60
    clear A60
    by_cases c7 : t39 = true
    ·
     subst c7
     rw [if_pos rfl] at H
     replace H := Option.bind_eq_some_iff.mp H
     obtain ⟨t40, A80, H⟩ := H
     try dsimp only at H
     have A8 := am A80
     clear A80
     obtain rfl := Option.some.inj H
     go_enter Try.func15, Try.ntmps15
     go_wp2_with (first | ((with_reducible refine gate_dst (N := 2) rfl ?_); refine box_event ?hg (N := 2) ?hd (cs := #[.int .i64 a0_0, .int .i64 a0_1, .int .i64 a0_2, .int .i64 a0_3, .slice A0_4 l0_4.length c0_4, .int .i64 a0_5, .slice A0_6 l0_6.length c0_6]) (t := 28) ?hr ?_; (case hd => rfl); (case hg => rfl); (case hr => exact Z111); intro gb41 hg w9 hbox hb; have BK41 := am (hbox); have GW41 := nG HB hg; have GE41 := nG HB hg; have GI41 := gI GE41; replace HB := am (below_step (uN HB) hb); clear hb hbox hg) | ((with_reducible refine gate_dst (N := 3) rfl ?_); refine box_event ?hg (N := 3) ?hd (cs := #[.int .i64 a1_0, .int .i64 a1_1, .int .i64 a1_2, .int .i64 a1_3, .slice A1_4 l1_4.length c1_4, .int .i64 a1_5, .slice A1_6 l1_6.length c1_6]) (t := 28) ?hr ?_; (case hd => rfl); (case hg => rfl); (case hr => exact Z111); intro gb42 hg w10 hbox hb; have BK42 := am (hbox); have GW42 := am ((by rw [hg]; exact (below_size Z28) : w.heap.size ≤ gb42)); have GE42 := am ((by rw [hg]; exact (below_size Z28) : w.heap.size ≤ gb42)); replace HB := am (below_step Z28 hb); have NB41_42 := nL BK41 hg; have NB42_41 := nR BK41 hg; replace BK41 := kB BK41 hb; clear hb hbox hg; have hnb11 := NB41_42.out; have hnc11 := NB42_41.out; obtain ⟨hcz12_0, hcz12_1, hcz12_2, hcz12_3, hcz12_4, hcz12_5, hcz12_6, hfz12_0, hfz12_1, hfz12_2, hfz12_3, hfz12_4, hfz12_5, hfz12_6⟩ := ce7 BK41; obtain ⟨hcz13_0, hcz13_1, hcz13_2, hcz13_3, hcz13_4, hcz13_5, hcz13_6, hfz13_0, hfz13_1, hfz13_2, hfz13_3, hfz13_4, hfz13_5, hfz13_6⟩ := ce7 BK42) | (go_at_call 33; (with_reducible refine (FQ.calls k a0_3 _ _ l0_4 a1_3 _ _ l1_4 true _ ?side1 ?side2 ?side3 ?side4 A6.out).mono ?_); (case side1 => exact uC HR0_4 HB); (case side2 => exact HC0_4.out); (case side3 => exact uC HR1_4 HB); (case side4 => exact HC1_4.out); rintro e w14 ⟨rfl, hb⟩; replace BK41 := kB BK41 hb; replace BK42 := kB BK42 hb; replace HB := am (below_step Z39 hb); (try clear hb); (try clear hb2); (try clear hk); (try clear hi); obtain ⟨hcz15_0, hcz15_1, hcz15_2, hcz15_3, hcz15_4, hcz15_5, hcz15_6, hfz15_0, hfz15_1, hfz15_2, hfz15_3, hfz15_4, hfz15_5, hfz15_6⟩ := ce7 BK41; obtain ⟨hcz16_0, hcz16_1, hcz16_2, hcz16_3, hcz16_4, hcz16_5, hcz16_6, hfz16_0, hfz16_1, hfz16_2, hfz16_3, hfz16_4, hfz16_5, hfz16_6⟩ := ce7 BK42) | (go_at_call 33; (with_reducible refine (FQ.calls k a0_5 _ _ l0_6 a1_5 _ _ l1_6 t40 _ ?side1 ?side2 ?side3 ?side4 A8.out).mono ?_); (case side1 => exact uC HR0_6 HB); (case side2 => exact HC0_6.out); (case side3 => exact uC HR1_6 HB); (case side4 => exact HC1_6.out); rintro e w17 ⟨rfl, hb⟩; replace BK41 := kB BK41 hb; replace BK42 := kB BK42 hb; replace HB := am (below_step Z39 hb); (try clear hb); (try clear hb2); (try clear hk); (try clear hi)))
     go_ret
     exact ⟨Z109, Z39⟩
    replace c7 := Bool.eq_false_iff.mpr c7
    subst c7
    rw [if_neg (show ¬ (false = true) from Z16)] at H
    obtain rfl := Option.some.inj H
    go_enter Try.func15, Try.ntmps15
    go_wp2_with (first | ((with_reducible refine gate_dst (N := 2) rfl ?_); refine box_event ?hg (N := 2) ?hd (cs := #[.int .i64 a0_0, .int .i64 a0_1, .int .i64 a0_2, .int .i64 a0_3, .slice A0_4 l0_4.length c0_4, .int .i64 a0_5, .slice A0_6 l0_6.length c0_6]) (t := 28) ?hr ?_; (case hd => rfl); (case hg => rfl); (case hr => exact Z111); intro gb41 hg w18 hbox hb; have BK41 := am (hbox); have GW41 := nG HB hg; have GE41 := nG HB hg; have GI41 := gI GE41; replace HB := am (below_step (uN HB) hb); clear hb hbox hg) | ((with_reducible refine gate_dst (N := 3) rfl ?_); refine box_event ?hg (N := 3) ?hd (cs := #[.int .i64 a1_0, .int .i64 a1_1, .int .i64 a1_2, .int .i64 a1_3, .slice A1_4 l1_4.length c1_4, .int .i64 a1_5, .slice A1_6 l1_6.length c1_6]) (t := 28) ?hr ?_; (case hd => rfl); (case hg => rfl); (case hr => exact Z111); intro gb42 hg w19 hbox hb; have BK42 := am (hbox); have GW42 := am ((by rw [hg]; exact (below_size Z28) : w.heap.size ≤ gb42)); have GE42 := am ((by rw [hg]; exact (below_size Z28) : w.heap.size ≤ gb42)); replace HB := am (below_step Z28 hb); have NB41_42 := nL BK41 hg; have NB42_41 := nR BK41 hg; replace BK41 := kB BK41 hb; clear hb hbox hg; have hnb20 := NB41_42.out; have hnc20 := NB42_41.out; obtain ⟨hcz21_0, hcz21_1, hcz21_2, hcz21_3, hcz21_4, hcz21_5, hcz21_6, hfz21_0, hfz21_1, hfz21_2, hfz21_3, hfz21_4, hfz21_5, hfz21_6⟩ := ce7 BK41; obtain ⟨hcz22_0, hcz22_1, hcz22_2, hcz22_3, hcz22_4, hcz22_5, hcz22_6, hfz22_0, hfz22_1, hfz22_2, hfz22_3, hfz22_4, hfz22_5, hfz22_6⟩ := ce7 BK42) | (go_at_call 33; (with_reducible refine (FQ.calls k a0_3 _ _ l0_4 a1_3 _ _ l1_4 false _ ?side1 ?side2 ?side3 ?side4 A6.out).mono ?_); (case side1 => exact uC HR0_4 HB); (case side2 => exact HC0_4.out); (case side3 => exact uC HR1_4 HB); (case side4 => exact HC1_4.out); rintro e w23 ⟨rfl, hb⟩; replace BK41 := kB BK41 hb; replace BK42 := kB BK42 hb; replace HB := am (below_step Z39 hb); (try clear hb); (try clear hb2); (try clear hk); (try clear hi)))
    go_ret
    exact ⟨Z109, Z39⟩
   rw [if_neg c5] at H
   have c5b0 : (a0_2 == a1_2) = false := beq_eq_false_iff_ne.mpr c5
   have c5b1 : (a0_2 != a1_2) = true := bne_iff_ne.mpr c5
   obtain rfl := Option.some.inj H
   go_enter Try.func15, Try.ntmps15
   go_wp2_with (first | ((with_reducible refine gate_dst (N := 2) rfl ?_); refine box_event ?hg (N := 2) ?hd (cs := #[.int .i64 a0_0, .int .i64 a0_1, .int .i64 a0_2, .int .i64 a0_3, .slice A0_4 l0_4.length c0_4, .int .i64 a0_5, .slice A0_6 l0_6.length c0_6]) (t := 28) ?hr ?_; (case hd => rfl); (case hg => rfl); (case hr => exact Z111); intro gb41 hg w24 hbox hb; have BK41 := am (hbox); have GW41 := nG HB hg; have GE41 := nG HB hg; have GI41 := gI GE41; replace HB := am (below_step (uN HB) hb); clear hb hbox hg) | ((with_reducible refine gate_dst (N := 3) rfl ?_); refine box_event ?hg (N := 3) ?hd (cs := #[.int .i64 a1_0, .int .i64 a1_1, .int .i64 a1_2, .int .i64 a1_3, .slice A1_4 l1_4.length c1_4, .int .i64 a1_5, .slice A1_6 l1_6.length c1_6]) (t := 28) ?hr ?_; (case hd => rfl); (case hg => rfl); (case hr => exact Z111); intro gb42 hg w25 hbox hb; have BK42 := am (hbox); have GW42 := am ((by rw [hg]; exact (below_size Z28) : w.heap.size ≤ gb42)); have GE42 := am ((by rw [hg]; exact (below_size Z28) : w.heap.size ≤ gb42)); replace HB := am (below_step Z28 hb); have NB41_42 := nL BK41 hg; have NB42_41 := nR BK41 hg; replace BK41 := kB BK41 hb; clear hb hbox hg; have hnb26 := NB41_42.out; have hnc26 := NB42_41.out; obtain ⟨hcz27_0, hcz27_1, hcz27_2, hcz27_3, hcz27_4, hcz27_5, hcz27_6, hfz27_0, hfz27_1, hfz27_2, hfz27_3, hfz27_4, hfz27_5, hfz27_6⟩ := ce7 BK41; obtain ⟨hcz28_0, hcz28_1, hcz28_2, hcz28_3, hcz28_4, hcz28_5, hcz28_6, hfz28_0, hfz28_1, hfz28_2, hfz28_3, hfz28_4, hfz28_5, hfz28_6⟩ := ce7 BK42))
   go_ret
   exact ⟨Z109, Z39⟩
  rw [if_neg c4] at H
  have c4b0 : (a0_1 == a1_1) = false := beq_eq_false_iff_ne.mpr c4
  have c4b1 : (a0_1 != a1_1) = true := bne_iff_ne.mpr c4
  obtain rfl := Option.some.inj H
  go_enter Try.func15, Try.ntmps15
  go_wp2_with (first | ((with_reducible refine gate_dst (N := 2) rfl ?_); refine box_event ?hg (N := 2) ?hd (cs := #[.int .i64 a0_0, .int .i64 a0_1, .int .i64 a0_2, .int .i64 a0_3, .slice A0_4 l0_4.length c0_4, .int .i64 a0_5, .slice A0_6 l0_6.length c0_6]) (t := 28) ?hr ?_; (case hd => rfl); (case hg => rfl); (case hr => exact Z111); intro gb41 hg w29 hbox hb; have BK41 := am (hbox); have GW41 := nG HB hg; have GE41 := nG HB hg; have GI41 := gI GE41; replace HB := am (below_step (uN HB) hb); clear hb hbox hg) | ((with_reducible refine gate_dst (N := 3) rfl ?_); refine box_event ?hg (N := 3) ?hd (cs := #[.int .i64 a1_0, .int .i64 a1_1, .int .i64 a1_2, .int .i64 a1_3, .slice A1_4 l1_4.length c1_4, .int .i64 a1_5, .slice A1_6 l1_6.length c1_6]) (t := 28) ?hr ?_; (case hd => rfl); (case hg => rfl); (case hr => exact Z111); intro gb42 hg w30 hbox hb; have BK42 := am (hbox); have GW42 := am ((by rw [hg]; exact (below_size Z28) : w.heap.size ≤ gb42)); have GE42 := am ((by rw [hg]; exact (below_size Z28) : w.heap.size ≤ gb42)); replace HB := am (below_step Z28 hb); have NB41_42 := nL BK41 hg; have NB42_41 := nR BK41 hg; replace BK41 := kB BK41 hb; clear hb hbox hg; have hnb31 := NB41_42.out; have hnc31 := NB42_41.out; obtain ⟨hcz32_0, hcz32_1, hcz32_2, hcz32_3, hcz32_4, hcz32_5, hcz32_6, hfz32_0, hfz32_1, hfz32_2, hfz32_3, hfz32_4, hfz32_5, hfz32_6⟩ := ce7 BK41; obtain ⟨hcz33_0, hcz33_1, hcz33_2, hcz33_3, hcz33_4, hcz33_5, hcz33_6, hfz33_0, hfz33_1, hfz33_2, hfz33_3, hfz33_4, hfz33_5, hfz33_6⟩ := ce7 BK42))
  go_ret
  exact ⟨Z109, Z39⟩
 rw [if_neg c3] at H
 have c3b0 : (a0_0 == a1_0) = false := beq_eq_false_iff_ne.mpr c3
 have c3b1 : (a0_0 != a1_0) = true := bne_iff_ne.mpr c3
 obtain rfl := Option.some.inj H
 go_enter Try.func15, Try.ntmps15
 go_wp2_with (first | ((with_reducible refine gate_dst (N := 2) rfl ?_); refine box_event ?hg (N := 2) ?hd (cs := #[.int .i64 a0_0, .int .i64 a0_1, .int .i64 a0_2, .int .i64 a0_3, .slice A0_4 l0_4.length c0_4, .int .i64 a0_5, .slice A0_6 l0_6.length c0_6]) (t := 28) ?hr ?_; (case hd => rfl); (case hg => rfl); (case hr => exact Z111); intro gb41 hg w34 hbox hb; have BK41 := am (hbox); have GW41 := nG HB hg; have GE41 := nG HB hg; have GI41 := gI GE41; replace HB := am (below_step (uN HB) hb); clear hb hbox hg) | ((with_reducible refine gate_dst (N := 3) rfl ?_); refine box_event ?hg (N := 3) ?hd (cs := #[.int .i64 a1_0, .int .i64 a1_1, .int .i64 a1_2, .int .i64 a1_3, .slice A1_4 l1_4.length c1_4, .int .i64 a1_5, .slice A1_6 l1_6.length c1_6]) (t := 28) ?hr ?_; (case hd => rfl); (case hg => rfl); (case hr => exact Z111); intro gb42 hg w35 hbox hb; have BK42 := am (hbox); have GW42 := am ((by rw [hg]; exact (below_size Z28) : w.heap.size ≤ gb42)); have GE42 := am ((by rw [hg]; exact (below_size Z28) : w.heap.size ≤ gb42)); replace HB := am (below_step Z28 hb); have NB41_42 := nL BK41 hg; have NB42_41 := nR BK41 hg; replace BK41 := kB BK41 hb; clear hb hbox hg; have hnb36 := NB41_42.out; have hnc36 := NB42_41.out; obtain ⟨hcz37_0, hcz37_1, hcz37_2, hcz37_3, hcz37_4, hcz37_5, hcz37_6, hfz37_0, hfz37_1, hfz37_2, hfz37_3, hfz37_4, hfz37_5, hfz37_6⟩ := ce7 BK41; obtain ⟨hcz38_0, hcz38_1, hcz38_2, hcz38_3, hcz38_4, hcz38_5, hcz38_6, hfz38_0, hfz38_1, hfz38_2, hfz38_3, hfz38_4, hfz38_5, hfz38_6⟩ := ce7 BK42))
 go_ret
 exact ⟨Z109, Z39⟩

end Go.Proofs.Ytllaofiopnhdgaa.PFnSparseParts
