-- made by wip/tools/myprint.py over the kit's print, for this claim
import Derived.Test.YtllaofiopnhdgaaPFnSparseCountsx0
import Derived.Test.YtllaofiopnhdgaaPFnSparseCountsx7
import Derived.Test.YtllaofiopnhdgaaPFnSparseCountsx8
namespace Go.Proofs.Ytllaofiopnhdgaa.PFnSparseCounts
open Go.RowKit Go.Proofs.YtllaofiopnhdgaaW.PrintWords Go.Proofs.YtllaofiopnhdgaaW.PrintLast Go.Proofs.YtllaofiopnhdgaaW.PrintMore
open List (setIfInBounds_toArray set_cons_zero set_cons_succ)
attribute [local go_sem] max2_int min2_int max_two min_two max_three min_three max_four min_four   -- for this text's walks alone
set_option linter.unusedVariables false
set_option linter.unusedSimpArgs false

/-! ### impl_sparse: function 28 -/
def impl_sparse.l0 : Nat → List Int → Int → Int → List Int → List Int → Int → Int → Int → List Int → Option (Int × Int × Int × Int × List Int × Int × List Int)
 | 0, _, _, _, _, _, _, _, _, _ => none
 | k + 1, x0, x1, x5, x7, x28, x29, x30, x409000, x409001 => if x30 < x29 then (if 0 ≤ x30 then (if x30 < (x28.length : Int) then (if 0 ≤ x5 then (if x7.length < 17592186044416 then ((impl_Bits_set_in26_0.f x409000 x409001 (wrap64 ((shr .i64 (rd x28 x30) x5) + x30)) true).bind fun t413 => (impl_sparse.l0 k x0 x1 x5 (x7 ++ [Go.bits .and .i64 (rd x28 x30) (wrap64 ((shl .i64 1 x5) - 1))]) x28 x29 (wrap64 (x30 + 1)) x409000 t413)) else (none)) else (none)) else (none)) else (none)) else ((impl_fields.f k x7 x5).bind fun bt414 => (some ((x0.length : Int), x1, x5, bt414.1, bt414.2, x409000, x409001)))
def impl_sparse.f (k : Nat) (l0 : List Int) (a1 : Int) : Option (Int × Int × Int × Int × List Int × Int × List Int) := (impl_WidthFor.f k (l0.length : Int) a1).bind fun bt399 => (if 0 ≤ bt399.1 then ((impl_blank.f (wrap64 ((wrap64 ((l0.length : Int) + (shr .i64 (wrap64 (a1 - 1)) bt399.1))) + 1))).bind fun bt404 => (impl_sparse.l0 k l0 a1 bt399.1 (([] : List Int)) l0 (l0.length : Int) 0 bt404.1 bt404.2)) else (none))
theorem impl_sparse.mono_l : ∀ k, (∀ y0 y1 y2 y3 y4 y5 y6 y7 y8, LeO (impl_sparse.l0 k y0 y1 y2 y3 y4 y5 y6 y7 y8) (impl_sparse.l0 (k + 1) y0 y1 y2 y3 y4 y5 y6 y7 y8))
 | 0 => fun _ _ _ _ _ _ _ _ _ r h => by simp [impl_sparse.l0] at h | k + 1 => by
  have ih0 := impl_sparse.mono_l k
  ·
   intro y0 y1 y2 y3 y4 y5 y6 y7 y8
   unfold impl_sparse.l0
   repeat' first
   | with_reducible first | exact ih0 .. | exact impl_WidthFor.mono .. | exact impl_fields.mono .. | exact LeO.refl _ | exact LeO.none _ | refine LeO.ite ?_ ?_ | refine LeO.bind ?_ (fun _ => ?_)
   | exact ih0 .. | exact impl_WidthFor.mono .. | exact impl_fields.mono .. | exact LeO.none _ | refine LeO.ite ?_ ?_ | refine LeO.bind ?_ (fun _ => ?_)
theorem impl_sparse.mono : ∀ a0 a1 k, LeO (impl_sparse.f k a0 a1) (impl_sparse.f (k + 1) a0 a1) := by
 intro a0 a1 k
 have ih0 := impl_sparse.mono_l k
 unfold impl_sparse.f
 repeat' first
   | with_reducible first | exact ih0 .. | exact impl_WidthFor.mono .. | exact impl_fields.mono .. | exact LeO.refl _ | exact LeO.none _ | refine LeO.ite ?_ ?_ | refine LeO.bind ?_ (fun _ => ?_)
   | exact ih0 .. | exact impl_WidthFor.mono .. | exact impl_fields.mono .. | exact LeO.none _ | refine LeO.ite ?_ ?_ | refine LeO.bind ?_ (fun _ => ?_)
def impl_sparse.T9 : Bool × List (List Nat × List Nat) := (true, [([], []), ([0], [0]), ([], []), ([], []), ([], []), ([], []), ([4, 5], [4, 5]), ([], []), ([1, 2, 3, 6, 7], [1, 2, 3, 6, 7]), ([8, 6, 0, 1, 2, 3, 4, 5, 6, 7, 8], [8])])
def impl_sparse.B9 : List Nat := [0, 1, 0, 0, 0, 0, 48, 0, 255, 511]
theorem impl_sparse.tab9 : rtab .any (opsOf Try.f28 9) = impl_sparse.T9 := by kernel_rfl
theorem impl_sparse.bits9 : waitsOk impl_sparse.T9.2 impl_sparse.B9 = true := by kernel_rfl
set_option maxHeartbeats 8000000 in
set_option maxRecDepth 100000 in
theorem impl_sparse.calls (k : Nat) (A0 : Option Addr) (c0 : Nat) (l0 : List Int) (a1 : Int) (r1 : Int) (r2 : Int) (r3 : Int) (r4 : Int) (r5 : List Int) (r6 : Int) (r7 : List Int) (w : World) (hr0 : Kd.C (Kd.int .i64) w A0 l0.length l0) (hc0 : l0.length ≤ c0) (h : impl_sparse.f k l0 a1 = some (r1, r2, r3, r4, r5, r6, r7)) :
  Calls Try.prog 28 #[.slice A0 l0.length c0, .int .i64 a1] w fun e w' => ∃ v4_ v6_ : Value, e = .returned (.agg #[.int .i64 r1, .int .i64 r2, .int .i64 r3, .int .i64 r4, v4_, .int .i64 r6, v6_]) ∧ Kd.R (Kd.int .i64) 3 w' w.heap.size (fun k_ => some k_ ≠ (v6_ : Value).ownBlock) v4_ r5 ∧ Kd.R (Kd.int .i64) 3 w' w.heap.size (fun k_ => some k_ ≠ (v4_ : Value).ownBlock) v6_ r7 ∧ Below w.heap.size w w' := by
 have hu28 := Try.underlying28
 have hu26 := Try.underlying26
 have HR0 := Aside0.mk hr0
 have HC0 := Aside0.mk hc0
 clear hr0 hc0
 have HB := Aside0.mk (Below.refl w.heap.size w)
 have H : ((impl_WidthFor.f k (l0.length : Int) a1).bind fun bt399 => (if 0 ≤ bt399.1 then ((impl_blank.f (wrap64 ((wrap64 ((l0.length : Int) + (shr .i64 (wrap64 (a1 - 1)) bt399.1))) + 1))).bind fun bt404 => (impl_sparse.l0 k l0 a1 bt399.1 (([] : List Int)) l0 (l0.length : Int) 0 bt404.1 bt404.2)) else (none))) = some (r1, r2, r3, r4, r5, r6, r7) := h
 clear h
 replace H := Option.bind_eq_some_iff.mp H
 obtain ⟨⟨t399, t400⟩, A30, H⟩ := H
 try dsimp only at H
 have A3 := Aside0.mk A30
 clear A30
 obtain ⟨y401, hy401⟩ : ∃ y_ : List Int, y_ = (([] : List Int)) := ⟨_, rfl⟩
 replace H : (if 0 ≤ t399 then ((impl_blank.f (wrap64 ((wrap64 ((l0.length : Int) + (shr .i64 (wrap64 (a1 - 1)) t399))) + 1))).bind fun bt404 => (impl_sparse.l0 k l0 a1 t399 y401 l0 (l0.length : Int) 0 bt404.1 bt404.2)) else (none)) = some (r1, r2, r3, r4, r5, r6, r7) := by first | (rw [hy401]; with_reducible exact H) | (have H2_ := (Option.bind_some _ _).symm.trans H; rw [hy401]; with_reducible exact H2_) | (have H2_ := (Option.bind_some _ _).symm.trans H; with_reducible exact H2_) | with_reducible exact H | (rw [hy401]; exact H) | exact H
 have Ny401 := Aside0.mk hy401
 clear hy401
 by_cases c4 : 0 ≤ t399
 ·
  rw [if_pos c4] at H
  have c4b0 := eq_true c4
  have c4b1 : decide (0 ≤ t399) = true := decide_eq_true c4
  clear c4
  obtain ⟨ji5, hji5⟩ : ∃ j_ : Int, (shr .i64 (wrap64 (a1 - 1)) t399) = j_ := ⟨_, rfl⟩
  replace H : ((impl_blank.f (wrap64 ((wrap64 ((l0.length : Int) + (ji5))) + 1))).bind fun bt404 => (impl_sparse.l0 k l0 a1 t399 y401 l0 (l0.length : Int) 0 bt404.1 bt404.2)) = some (r1, r2, r3, r4, r5, r6, r7) := by first | (rw [hji5] at H; exact H) | (simp only [hji5] at H ⊢; exact H)
  (try rw [hji5] at A3)
  have hji5_ : ((wrap64 (a1 - 1)) / 2 ^ min t399.toNat 64) = ji5 := hji5
  have hji5z : t399 ≤ 64 → ((wrap64 (a1 - 1)) / 2 ^ t399.toNat) = ji5 := shr_small hji5
  replace H := Option.bind_eq_some_iff.mp H
  obtain ⟨⟨t404, t405⟩, A60, H⟩ := H
  try dsimp only at H
  have A6 := Aside0.mk A60
  clear A60
  have H' := Aside0.mk H
  clear H
  go_enter Try.func28, Try.ntmps28
  go_wp2_with (first | ((with_reducible refine gate_dst (N := 4) rfl ?_); refine box_event ?hg (N := 4) ?hd (cs := #[.int .i64 0, .int .i64 0, .int .i64 0, .int .i64 0, .slice none 0 0, .int .i64 0, .slice none 0 0]) (t := 28) ?hr ?_; (case hd => rfl); (case hg => rfl); (case hr => exact Z93); intro gb398 hg w7 hbox hb; have BK398 := Aside0.mk (hbox); have GW398 := nG HB hg; have GE398 := nG HB hg; have GI398 := gI GE398; replace HB := Aside0.mk (below_step (uN HB) hb); clear hb hbox hg) | ((with_reducible refine gate_callee (f := 49) rfl ?_); refine goesL_ (some 15) rfl rfl Try.func49 Z92 rfl #[.int .i64 (l0.length : Int), .int .i64 a1] rfl Z89 ?_; (with_reducible refine (impl_WidthFor.calls k (l0.length : Int) a1 t399 t400 _ A3.out).mono ?_); rintro e w8 ⟨rfl, hb⟩; refine ⟨_, rfl, ?_⟩; replace BK398 := kB BK398 hb; replace HB := Aside0.mk (below_step Z36 hb); (try clear hb); (try clear hb2); (try clear hk); (try clear hi)) | ((with_reducible refine gate_dst (N := 18) rfl ?_); refine Kd.R_lit (Kd.int .i64) _ 3 ?hg (N := 18) ?hd (xs := ([] : List Int)) (inner := []) (ok := fun _ => True) (okp := fun _ => True) ?hr ?hp (fun _ hk => hk) trivial (Below.refl _ _) (Nat.le_refl _) Z37 ?_; (case hd => rfl); (case hg => rfl); (case hr => exact Z93); (case hp => exact (Reps.none _ _)); intro v402 w9 ho10 hb hg_ hnew_; clear hg_ hnew_; (first | rw [← Ny401.out] at ho10 | (simp only [Int.reduceToNat] at ho10; rw [← Ny401.out] at ho10)); have HO403 := Aside0.mk (Kd.R_lower ho10 (below_size Z36)); replace BK398 := kB BK398 hb; replace HB := Aside0.mk (below_step Z36 hb); clear hb ho10) | ((with_reducible refine gate_callee (f := 57) rfl ?_); refine goesL_ (some 27) rfl rfl Try.func57 Z92 rfl #[.int .i64 (wrap64 ((wrap64 ((l0.length : Int) + (ji5))) + 1))] rfl (by (try simp only [List.map_toArray, List.map_cons, List.map_nil]); first | done | (simp only [hji5]; rfl) | rfl | (simp only [List.length_drop, List.length_take]; rfl)) ?_; (with_reducible refine (impl_blank.calls (wrap64 ((wrap64 ((l0.length : Int) + (ji5))) + 1)) t404 t405 _ A6.out).mono ?_); rintro e w11 ⟨v406, rfl, ho0, hb⟩; refine ⟨_, rfl, ?_⟩; have HO407 := Aside0.mk (Kd.R_lower (Kd.R_new' ho0 (Kd.R_lt (uR HO403))) (below_size Z36)); replace HO403 := Aside0.mk (Kd.R_elder' (uR HO403) (Kd.R_base ho0) hb); replace BK398 := kB BK398 hb; replace HB := Aside0.mk (below_step Z36 hb); (try clear hb); (try clear hb2); (try clear hk); (try clear hi); (try clear ho0)) | ((with_reducible refine gate_dst (N := 8) rfl ?_); refine box_event ?hg (N := 8) ?hd (cs := #[.int .i64 0, .slice none 0 0]) (t := 26) ?hr ?_; (case hd => rfl); (case hg => rfl); (case hr => exact Z93); intro gb408 hg w12 hbox hb; replace HO403 := Aside0.mk (Kd.R_below (uR HO403) hb); replace HO407 := Aside0.mk (Kd.R_below (uR HO407) hb); have BK408 := Aside0.mk (hbox); have GW408 := Aside0.mk ((by rw [hg]; exact (below_size Z36) : w.heap.size ≤ gb408)); have GE408 := Aside0.mk ((by rw [hg]; exact (below_size Z36) : w.heap.size ≤ gb408)); replace HB := Aside0.mk (below_step Z36 hb); have NB398_408 := nL BK398 hg; have NB408_398 := nR BK398 hg; replace BK398 := kB BK398 hb; clear hb hbox hg; have hnb13 := NB408_398.out; have hnc13 := NB398_408.out; obtain ⟨hcz14_0, hcz14_1, hfz14_0, hfz14_1⟩ := ce2 BK408; obtain ⟨Ao15, co15, eo15⟩ := Kd.R_slice HO407.out; subst eo15))
  go_loopg [7, 30] k (fun kq v7 v30 w' => ∃ (x7_1 : List Int) (x30_1 : Int) (x409001_1 : List Int) (u409001 : Value), v30 = .int .i64 x30_1 ∧ Aside0 (impl_sparse.l0 kq l0 a1 t399 x7_1 l0 (l0.length : Int) x30_1 t404 x409001_1 = some (r1, r2, r3, r4, r5, r6, r7)) ∧ Aside0 (kq ≤ k) ∧ Aside0 (Kd.R (Kd.int .i64) 3 w' w.heap.size (fun k_ => some k_ ≠ (u409001 : Value).ownBlock) v7 x7_1) ∧ Aside0 (Kd.R (Kd.int .i64) 3 w' w.heap.size (fun k_ => some k_ ≠ (v7 : Value).ownBlock) u409001 x409001_1) ∧ Aside0 (w'.heap[gb398]? = some (.cells #[.int .i64 0, .int .i64 0, .int .i64 0, .int .i64 0, (.slice none 0 0), .int .i64 0, (.slice none 0 0)] 28 (0, 0))) ∧ Aside0 (w'.heap[gb408]? = some (.cells #[.int .i64 t404, u409001] 26 (0, 0))) ∧ Aside0 (Below w.heap.size w w'))
  case atStart => exact ⟨(y401), (0), (t405), (.slice Ao15 t405.length co15), Z91, H', ⟨Nat.le_refl _⟩, ⟨by (with_reducible repeat (first | apply Kd.R_alloc | apply Kd.R_drewN | apply Kd.R_drew)); exact Kd.R_mono (Kd.R_far (p := ⟨gb408, 1, none⟩) (Kd.R_far (p := ⟨gb408, 0, none⟩) (Kd.R_types HO403.out BK408.out Z19) (fun _ hk => hk.2) (.int .i64 t404)) (fun _ hk => hk.2) (.slice Ao15 t405.length co15)) (fun _ hk => hk.1.2)⟩, ⟨by (with_reducible repeat (first | apply Kd.R_alloc | apply Kd.R_drewN | apply Kd.R_drew)); exact Kd.R_mono (Kd.R_far (p := ⟨gb408, 1, none⟩) (Kd.R_far (p := ⟨gb408, 0, none⟩) (Kd.R_types HO407.out BK408.out Z19) (fun _ hk => hk.2) (.int .i64 t404)) (fun _ hk => hk.2) (.slice Ao15 t405.length co15)) (fun _ hk => hk.1.2)⟩, ⟨by refine uW ?_; refine blk_far ?_ NB398_408.out _; refine uW ?_; refine blk_far ?_ NB398_408.out _; refine uW ?_; exact BK398.out⟩, ⟨by refine uW ?_; refine blk_put (cs := #[.int .i64 t404, .slice none 0 0]) ?_ 1 _ rfl; refine uW ?_; refine blk_put (cs := #[.int .i64 0, .slice none 0 0]) ?_ 0 _ rfl; refine uW ?_; exact BK408.out⟩, ⟨Z28⟩⟩
  case round =>
   clear H'
   try clear c1
   try clear c2
   try clear p2
   try clear c4
   try clear c4b0
   try clear c4b1
   try clear c5
   try clear p6
   try clear c13
   try clear hcz14_0
   try clear hcz14_1
   try clear hfz14_0
   try clear hfz14_1
   try clear HO_7
   try clear HO_409001
   obtain ⟨x7_1, x30_1, x409001_1, u409001, rfl, HA, HK1, HO_7, HO_409001, BK398, BK408, HB⟩ := hrel
   cases gk with
   | zero => exact absurd HA.out (by simp [impl_sparse.l0])
   | succ k1 =>
    have H := HA.out
    clear HA
    simp only [impl_sparse.l0] at H
    by_cases c16 : x30_1 < (l0.length : Int)
    ·
     rw [if_pos c16] at H
     have c16b0 : decide (x30_1 < (l0.length : Int)) = true := decide_eq_true c16
     clear c16
     by_cases c17 : 0 ≤ x30_1
     ·
      rw [if_pos c17] at H
      have c17b0 : decide (0 ≤ x30_1) = true := decide_eq_true c17
      clear c17
      by_cases c18 : x30_1 < (l0.length : Int)
      ·
       rw [if_pos c18] at H
       have c18b0 : decide (x30_1 < (l0.length : Int)) = true := decide_eq_true c18
       clear c18
       by_cases c19 : 0 ≤ t399
       ·
        rw [if_pos c19] at H
        have c19b0 := eq_true c19
        have c19b1 : decide (0 ≤ t399) = true := decide_eq_true c19
        clear c19
        obtain ⟨ji20, hji20⟩ : ∃ j_ : Int, (shl .i64 1 t399) = j_ := ⟨_, rfl⟩
        replace H : (if x7_1.length < 17592186044416 then ((impl_Bits_set_in26_0.f t404 x409001_1 (wrap64 ((shr .i64 (rd l0 x30_1) t399) + x30_1)) true).bind fun t413 => (impl_sparse.l0 k1 l0 a1 t399 (x7_1 ++ [Go.bits .and .i64 (rd l0 x30_1) (wrap64 ((ji20) - 1))]) l0 (l0.length : Int) (wrap64 (x30_1 + 1)) t404 t413)) else (none)) = some (r1, r2, r3, r4, r5, r6, r7) := by first | (rw [hji20] at H; exact H) | (simp only [hji20] at H ⊢; exact H)
        have hji20_ : (IntKind.i64.wrap (1 * 2 ^ min t399.toNat 64)) = ji20 := hji20
        have hji20z : t399 ≤ 64 → (IntKind.i64.wrap (1 * 2 ^ t399.toNat)) = ji20 := shl_small hji20
        have hji20u : (IntKind.i64.wrap (2 ^ min t399.toNat 64)) = ji20 := by have h_ := hji20_; rw [Int.one_mul] at h_; exact h_
        have hji20v : t399 ≤ 64 → (IntKind.i64.wrap (2 ^ t399.toNat)) = ji20 := fun hle_ => by have h_ := hji20z hle_; rw [Int.one_mul] at h_; exact h_
        have hji20y : (wrap64 (1 * 2 ^ min t399.toNat 64)) = ji20 := (i64_w _).symm.trans hji20_
        have hji20x : t399 ≤ 64 → (wrap64 (1 * 2 ^ t399.toNat)) = ji20 := fun h_ => (i64_w _).symm.trans (hji20z h_)
        by_cases c21 : x7_1.length < 17592186044416
        ·
         rw [if_pos c21] at H
         have LMc21 := Aside0.mk c21
         clear c21
         obtain ⟨y410, hy410⟩ : ∃ y_ : List Int, y_ = (x7_1 ++ [Go.bits .and .i64 (rd l0 x30_1) (wrap64 ((ji20) - 1))]) := ⟨_, rfl⟩
         replace H : ((impl_Bits_set_in26_0.f t404 x409001_1 (wrap64 ((shr .i64 (rd l0 x30_1) t399) + x30_1)) true).bind fun t413 => (impl_sparse.l0 k1 l0 a1 t399 y410 l0 (l0.length : Int) (wrap64 (x30_1 + 1)) t404 t413)) = some (r1, r2, r3, r4, r5, r6, r7) := by first | (rw [hy410]; with_reducible exact H) | (have H2_ := (Option.bind_some _ _).symm.trans H; rw [hy410]; with_reducible exact H2_) | (have H2_ := (Option.bind_some _ _).symm.trans H; with_reducible exact H2_) | with_reducible exact H | (rw [hy410]; exact H) | exact H
         have Ny410 := Aside0.mk hy410
         clear hy410
         have c22b0 := eq_true (of_decide_eq_true Z6 : 0 ≤ t399)
         obtain ⟨ji23, hji23⟩ : ∃ j_ : Int, (shr .i64 (rd l0 x30_1) t399) = j_ := ⟨_, rfl⟩
         replace H : ((impl_Bits_set_in26_0.f t404 x409001_1 (wrap64 ((ji23) + x30_1)) true).bind fun t413 => (impl_sparse.l0 k1 l0 a1 t399 y410 l0 (l0.length : Int) (wrap64 (x30_1 + 1)) t404 t413)) = some (r1, r2, r3, r4, r5, r6, r7) := by first | (rw [hji23] at H; exact H) | (simp only [hji23] at H ⊢; exact H)
         have hji23_ : ((rd l0 x30_1) / 2 ^ min t399.toNat 64) = ji23 := hji23
         have hji23z : t399 ≤ 64 → ((rd l0 x30_1) / 2 ^ t399.toNat) = ji23 := shr_small hji23
         replace H := Option.bind_eq_some_iff.mp H
         obtain ⟨t413, A240, H⟩ := H
         try dsimp only at H
         have A24 := Aside0.mk A240
         clear A240
         have H' := Aside0.mk H
         clear H
         have p409 : 0 ≤ (x30_1 : Int) := of_decide_eq_true Z6
         have q409 : x30_1 < (l0.length : Int) := of_decide_eq_true Z6
         obtain ⟨ad409, e409, hx409_0⟩ := Kd.at_int HR0.out x30_1 p409 q409
         cases e409
         replace hx409_0 := (HB.out.cell (World.block_lt_of_cell? w _ hx409_0)).trans hx409_0
         replace p409 := eq_true p409
         replace q409 := eq_true q409
         go_wp2_with (first | ((with_reducible refine gate_builtin (b := .append) (xs := #[.tmp 35, .tmp 41]) rfl ?_); at_builtin; refine Kd.R_append (Kd.int .i64) (w0 := w) w.heap.size rfl (.tmp 35) (.tmp 41) 24 3 (.int .i64 0) 8 rfl Try.underlying24 info3 rfl Z19 Z69 u7 x7_1 (Go.bits .and .i64 (rd l0 x30_1) (wrap64 ((ji20) - 1))) [.int .i64 (Go.bits .and .i64 (rd l0 x30_1) (wrap64 ((ji20) - 1)))] (fun k_ => some k_ ≠ (u409001 : Value).ownBlock) (fun _ => False) rfl rfl ?aP (fun _ hk => hk.elim) ?aF ?aO ?aB ?aS ?aL ?_; (case aP => exact rfl); (case aB => exact Z28); (case aF => exact (fun k_ hk => Kd.fresh' (Kd.R_lt (uR HO_409001)) k_ hk)); (case aO => exact (uR HO_7)); (case aS => exact (below_size Z28)); (case aL => have := LMc21.out; omega); intro v411 w25 ho hb hg hat; rw [← Ny410.out] at ho; replace HO_409001 := Aside0.mk (Kd.R_after (ok := (fun _ => True)) (by (with_reducible repeat (first | apply Kd.R_alloc | apply Kd.R_drewN | apply Kd.R_drew)); exact Kd.R_mono HO_409001.out (fun _ hk => ⟨trivial, hk⟩)) hg hat); replace BK398 := Aside0.mk (blk_grown (g := gb398) (o := .cells #[.int .i64 0, .int .i64 0, .int .i64 0, .int .i64 0, .slice none 0 0, .int .i64 0, .slice none 0 0] 28 (0, 0)) (uK BK398) hg (Kd.R_ne HO_7.out BK398.out Z19)); replace BK408 := Aside0.mk (blk_grown (g := gb408) (o := .cells #[.int .i64 t404, u409001] 26 (0, 0)) (uK BK408) hg (Kd.R_ne HO_7.out BK408.out Z19)); replace HB := Aside0.mk (hb); have HO412 := Aside0.mk (ho); clear HO_7 ho hb hg hat; obtain ⟨Ao26, co26, eo26⟩ := Kd.R_slice HO_409001.out; subst eo26) | ((with_reducible refine gate_callee (f := 58) rfl ?_); refine goesL_ (some 48) rfl rfl Try.func58 Z92 rfl #[.pointer (some ⟨gb408, 0, none⟩), .int .i64 (wrap64 ((ji23) + x30_1)), .bool true] rfl (by (try simp only [List.map_toArray, List.map_cons, List.map_nil]); first | done | (simp only [hji23]; rfl) | rfl | (simp only [List.length_drop, List.length_take]; rfl)) ?_; (with_reducible refine (impl_Bits_set_in26_0.calls gb408 t404 (fun k_ => some k_ = (.slice Ao26 x409001_1.length co26 : Value).ownBlock) (.slice Ao26 x409001_1.length co26) x409001_1 (wrap64 ((ji23) + x30_1)) true t413 w _ ?side1 ?side2 ?side3 A24.out).mono ?_); (case side1 => exact Z28); (case side2 => exact (uK BK408)); (case side3 => exact Kd.R_tight rfl HO_409001.out); rintro e w27 ⟨rfl, hy0, hb, hkp⟩; refine ⟨_, rfl, ?_⟩; replace BK398 := Aside0.mk (blk_kept (uK BK398) hkp (fun hs_ => (fun e_ => (Kd.R_ne HO_409001.out BK398.out Z19) e_) hs_)); replace BK408 := Aside0.mk (blk_kept (uK BK408) hkp (fun hs_ => (fun e_ => (Kd.R_ne HO_409001.out BK408.out Z19) e_) hs_)); replace HO_409001 := Aside0.mk (Kd.R_reok rfl hy0 (fun k_ e_ => HO_409001.out.1 k_ e_)); replace HO412 := Aside0.mk (Kd.R_mono (ok' := fun k_ => some k_ ≠ (.slice Ao26 x409001_1.length co26 : Value).ownBlock) (Kd.R_keptB (HO412.out) hkp (fun k_ hk_ hs_ => (hk_) hs_)) (fun k_ hk_ => hk_.1)); replace HB := Aside0.mk (hb); (try clear hb); (try clear hkp); (try clear hy0)))
         go_roundg k1
         case measure => have := HK1.out; omega
         case rel => exact ⟨(y410), (wrap64 (x30_1 + 1)), (t413), (.slice Ao26 x409001_1.length co26), Z91, H', ⟨by have := HK1.out; omega⟩, ⟨by (with_reducible repeat (first | apply Kd.R_alloc | apply Kd.R_drewN | apply Kd.R_drew)); exact HO412.out⟩, ⟨by (with_reducible repeat (first | apply Kd.R_alloc | apply Kd.R_drewN | apply Kd.R_drew)); exact Kd.R_mono HO_409001.out (fun _ hk => hk.2)⟩, ⟨by refine uW ?_; exact BK398.out⟩, ⟨by refine uW ?_; exact BK408.out⟩, ⟨Z28⟩⟩
        rw [if_neg c21] at H
        exact absurd H Z37
       rw [if_neg c19] at H
       exact absurd H Z37
      rw [if_neg c18] at H
      exact absurd H Z37
     rw [if_neg c17] at H
     exact absurd H Z37
    rw [if_neg c16] at H
    have c16b0 : decide (x30_1 < (l0.length : Int)) = false := decide_eq_false c16
    clear c16
    replace H := Option.bind_eq_some_iff.mp H
    obtain ⟨⟨t414, t415⟩, A280, H⟩ := H
    try dsimp only at H
    have A28 := Aside0.mk A280
    clear A280
    simp only [Option.some.injEq, Prod.mk.injEq] at H
    obtain ⟨rfl, rfl, rfl, rfl, rfl, rfl, rfl⟩ := H
    try go_wp2
    replace HO_7 := Aside0.mk (Kd.R_drew HO_7.out)
    replace HO_409001 := Aside0.mk (Kd.R_drew HO_409001.out)
    replace BK398 := Aside0.mk (blk_drew BK398.out)
    replace BK408 := Aside0.mk (blk_drew BK408.out)
    replace HB := Aside0.mk (below_drew1 HB.out)
    obtain ⟨Ao30, co30, eo30⟩ := Kd.R_slice HO_7.out
    (first | subst eo30 | (injection eo30 with f1_ f2_ f3_; have f4_ := f1_.symm; have f5_ := f3_.symm; clear f1_ f2_ f3_; subst f4_; subst f5_))
    refine start_ (n := 10) (S := fun w' => w'.cell? ⟨gb408, 0, none⟩ = some (.int .i64 t404) ∧ w'.cell? ⟨gb408, 1, none⟩ = some (u409001)) (ds := []) (bA 10 0) Z92 rfl rfl ⟨bc BK408 0, bc BK408 1⟩ (fun hHeld => ?_); refine with_tabW impl_sparse.tab9 impl_sparse.bits9 (fun HT_ HW_ => ?_)
    generalize wr.drew = w29 at HO_7 HO_409001 BK398 BK408 HB hHeld ⊢
    refine pS 0 50 (bA 10 1) ?_
    refine pS 1 51 (bA 10 3) ?_
    refine pS 2 52 (bA 10 7) ?_
    refine pS 3 53 (bA 10 15) ?_
    refine pS 4 54 (bA 10 31) ?_
    refine pS 5 55 (bA 10 63) ?_
    refine tS2 7 57 (bA 10 191) hHeld ?_
    refine one_ (i := 6) (N := some 56) (bA 10 255) rfl rfl (one_of HT_.out Z92) Z19 (fun K hK => ?_)
    refine goes_ Try.func59 Z92 rfl #[.slice Ao30 x7_1.length co30, .int .i64 t399] Z63 rfl rfl Z89 ?_
    with_reducible refine (impl_fields.calls k1 _ _ x7_1 t399 t414 t415 _ ?side1 ?side2 A28.out).mono ?_
    (case side1 => exact uD HO_7)
    (case side2 => exact (Kd.R_reads' HO_7.out).2.1)
    rintro e w31 ⟨v416, rfl, ho0, hb⟩
    refine ⟨_, rfl, ?_⟩
    have HO417 := Aside0.mk (Kd.R_lower (Kd.R_new' (Kd.R_new' ho0 (Kd.R_lt (uR HO_7))) (Kd.R_lt (uR HO_409001))) (below_size Z28))
    replace HO_7 := Aside0.mk (Kd.R_elder' (uR HO_7) (Kd.R_base ho0) hb)
    replace HO_409001 := Aside0.mk (Kd.R_elder' (uR HO_409001) (Kd.R_base ho0) hb)
    replace BK398 := kB BK398 hb
    replace BK408 := kB BK408 hb
    replace HB := Aside0.mk (below_step Z28 hb)
    (try clear hb)
    (try clear hb2)
    (try clear hk)
    (try clear hi)
    (try clear ho0)
    obtain ⟨Ao32, co32, eo32⟩ := Kd.R_slice HO_409001.out
    (first | subst eo32 | (injection eo32 with f1_ f2_ f3_; have f4_ := f1_.symm; have f5_ := f3_.symm; clear f1_ f2_ f3_; subst f4_; subst f5_))
    obtain ⟨Ao33, co33, eo33⟩ := Kd.R_slice HO417.out
    (first | subst eo33 | (injection eo33 with f1_ f2_ f3_; have f4_ := f1_.symm; have f5_ := f3_.symm; clear f1_ f2_ f3_; subst f4_; subst f5_))
    refine hK.out _ _ ⟨bc BK408 0, bc BK408 1⟩ (fun hHeld => ?_)
    clear hK K
    refine norm_ (a' := ?_) ?_ ?_
    rotate_left
    ·
     show Act.put _ (some 56) _ = _
     simp only [Act.put, setIfInBounds_toArray, set_cons_zero, set_cons_succ, i64_w, i32_w]
     rfl
    refine pS 8 58 (bA 10 511) ?_
    refine one_ (i := 9) (N := none) (bA 10 1023) rfl rfl (one_of HT_.out Z92) Z19 (fun K hK => ?_)
    have hs34 : w31.cell? ⟨gb398, 0, none⟩ = some (.int .i64 0) := bc BK398 0
    have hfs34 := blk_frozen BK398.out 0
    have hns34_1 := NB408_398.out
    have hms34_1 := NB398_408.out
    have hs35 : w31.cell? ⟨gb398, 1, none⟩ = some (.int .i64 0) := bc BK398 1
    have hfs35 := blk_frozen BK398.out 1
    have hns35_1 := NB408_398.out
    have hms35_1 := NB398_408.out
    have hs36 : w31.cell? ⟨gb398, 2, none⟩ = some (.int .i64 0) := bc BK398 2
    have hfs36 := blk_frozen BK398.out 2
    have hns36_1 := NB408_398.out
    have hms36_1 := NB398_408.out
    have hs37 : w31.cell? ⟨gb398, 3, none⟩ = some (.int .i64 0) := bc BK398 3
    have hfs37 := blk_frozen BK398.out 3
    have hns37_1 := NB408_398.out
    have hms37_1 := NB398_408.out
    have hs38 : w31.cell? ⟨gb398, 4, none⟩ = some (.slice none 0 0) := bc BK398 4
    have hfs38 := blk_frozen BK398.out 4
    have hns38_1 := NB408_398.out
    have hms38_1 := NB398_408.out
    have hs39 : w31.cell? ⟨gb398, 5, none⟩ = some (.int .i64 0) := bc BK398 5
    have hfs39 := blk_frozen BK398.out 5
    have hns39_1 := NB408_398.out
    have hms39_1 := NB398_408.out
    have hs40 : w31.cell? ⟨gb398, 6, none⟩ = some (.slice none 0 0) := bc BK398 6
    have hfs40 := blk_frozen BK398.out 6
    have hns40_1 := NB408_398.out
    have hms40_1 := NB398_408.out
    refine skip_ (w1 := ?_) Z63 rfl ?_ ?_
    rotate_left
    ·
     go_simp
     rfl
    refine hK.out _ _ ⟨((cell_far (p := ⟨gb398, _, none⟩) NB408_398.out _).trans (((cell_far (p := ⟨gb398, _, none⟩) NB408_398.out _).trans (((cell_far (p := ⟨gb398, _, none⟩) NB408_398.out _).trans (((cell_far (p := ⟨gb398, _, none⟩) NB408_398.out _).trans (((cell_far (p := ⟨gb398, _, none⟩) NB408_398.out _).trans (((cell_far (p := ⟨gb398, _, none⟩) NB408_398.out _).trans (((cell_far (p := ⟨gb398, _, none⟩) NB408_398.out _).trans (hHeld.1)))))))))))))), ((cell_far (p := ⟨gb398, _, none⟩) NB408_398.out _).trans (((cell_far (p := ⟨gb398, _, none⟩) NB408_398.out _).trans (((cell_far (p := ⟨gb398, _, none⟩) NB408_398.out _).trans (((cell_far (p := ⟨gb398, _, none⟩) NB408_398.out _).trans (((cell_far (p := ⟨gb398, _, none⟩) NB408_398.out _).trans (((cell_far (p := ⟨gb398, _, none⟩) NB408_398.out _).trans (((cell_far (p := ⟨gb398, _, none⟩) NB408_398.out _).trans (hHeld.2))))))))))))))⟩ (fun hHeld => ?_)
    clear hK K
    refine done_ (done_of HT_.out Z92) ?_
    try go_wp2
    refine bodyPost_ret (results_cell_row rfl _ _ gb398 28 #[.int .i64 (l0.length : Int), .int .i64 a1, .int .i64 t399, .int .i64 t414, .slice Ao33 t415.length co33, .int .i64 t404, .slice Ao32 x409001_1.length co32] (0, 0) _ rfl (by refine uW ?_; refine blk_put (cs := #[.int .i64 (l0.length : Int), .int .i64 a1, .int .i64 t399, .int .i64 t414, .slice Ao33 t415.length co33, .int .i64 t404, .slice none 0 0]) ?_ 6 _ rfl; refine uW ?_; refine blk_put (cs := #[.int .i64 (l0.length : Int), .int .i64 a1, .int .i64 t399, .int .i64 t414, .slice Ao33 t415.length co33, .int .i64 0, .slice none 0 0]) ?_ 5 _ rfl; refine uW ?_; refine blk_put (cs := #[.int .i64 (l0.length : Int), .int .i64 a1, .int .i64 t399, .int .i64 t414, .slice none 0 0, .int .i64 0, .slice none 0 0]) ?_ 4 _ rfl; refine uW ?_; refine blk_put (cs := #[.int .i64 (l0.length : Int), .int .i64 a1, .int .i64 t399, .int .i64 0, .slice none 0 0, .int .i64 0, .slice none 0 0]) ?_ 3 _ rfl; refine uW ?_; refine blk_put (cs := #[.int .i64 (l0.length : Int), .int .i64 a1, .int .i64 0, .int .i64 0, .slice none 0 0, .int .i64 0, .slice none 0 0]) ?_ 2 _ rfl; refine uW ?_; refine blk_put (cs := #[.int .i64 (l0.length : Int), .int .i64 0, .int .i64 0, .int .i64 0, .slice none 0 0, .int .i64 0, .slice none 0 0]) ?_ 1 _ rfl; refine uW ?_; refine blk_put (cs := #[.int .i64 0, .int .i64 0, .int .i64 0, .int .i64 0, .slice none 0 0, .int .i64 0, .slice none 0 0]) ?_ 0 _ rfl; refine uW ?_; exact BK398.out) Try.underlying28 rfl Z92) rfl ?_
    exact ⟨_, _, by first | rfl | (simp [errW_none, errW_some] <;> rfl) | (simp only [← hji5]; first | rfl | (simp [errW_none, errW_some] <;> rfl)) | (simp [*, errW_none, errW_some] <;> rfl), by (with_reducible repeat (first | apply Kd.R_alloc | apply Kd.R_drewN | apply Kd.R_drew)); exact Kd.R_mono (Kd.R_far (p := ⟨gb398, 6, none⟩) (Kd.R_far (p := ⟨gb398, 5, none⟩) (Kd.R_far (p := ⟨gb398, 4, none⟩) (Kd.R_far (p := ⟨gb398, 3, none⟩) (Kd.R_far (p := ⟨gb398, 2, none⟩) (Kd.R_far (p := ⟨gb398, 1, none⟩) (Kd.R_far (p := ⟨gb398, 0, none⟩) (Kd.R_types HO417.out BK398.out Z19) (fun _ hk => hk.2) (.int .i64 (l0.length : Int))) (fun _ hk => hk.2) (.int .i64 a1)) (fun _ hk => hk.2) (.int .i64 t399)) (fun _ hk => hk.2) (.int .i64 t414)) (fun _ hk => hk.2) (.slice Ao33 t415.length co33)) (fun _ hk => hk.2) (.int .i64 t404)) (fun _ hk => hk.2) (.slice Ao32 x409001_1.length co32)) (fun _ hk => hk.1.2), by (with_reducible repeat (first | apply Kd.R_alloc | apply Kd.R_drewN | apply Kd.R_drew)); exact Kd.R_mono (Kd.R_far (p := ⟨gb398, 6, none⟩) (Kd.R_far (p := ⟨gb398, 5, none⟩) (Kd.R_far (p := ⟨gb398, 4, none⟩) (Kd.R_far (p := ⟨gb398, 3, none⟩) (Kd.R_far (p := ⟨gb398, 2, none⟩) (Kd.R_far (p := ⟨gb398, 1, none⟩) (Kd.R_far (p := ⟨gb398, 0, none⟩) (Kd.R_types HO_409001.out BK398.out Z19) (fun _ hk => hk.2) (.int .i64 (l0.length : Int))) (fun _ hk => hk.2) (.int .i64 a1)) (fun _ hk => hk.2) (.int .i64 t399)) (fun _ hk => hk.2) (.int .i64 t414)) (fun _ hk => hk.2) (.slice Ao33 t415.length co33)) (fun _ hk => hk.2) (.int .i64 t404)) (fun _ hk => hk.2) (.slice Ao32 x409001_1.length co32)) (fun _ hk => hk.1.2), Z28⟩
 rw [if_neg c4] at H
 exact absurd H Z37

/-! ### impl_IsBits: function 50 -/
mutual
def impl_IsBits.j0 : Nat → Bool → Int → List Int → Option (Bool)
 | 0, _, _, _ => none
 | k + 1, x18, x419000, x419001 => if x18 = true then (some false) else (impl_IsBits.l0 k x419001 (x419001.length : Int) 0 x419000 x419001)
def impl_IsBits.l0 : Nat → List Int → Int → Int → Int → List Int → Option (Bool)
 | 0, _, _, _, _, _ => none
 | k + 1, x20, x21, x22, x419000, x419001 => if x22 < x21 then (if 0 ≤ x22 then (if x22 < (x20.length : Int) then ((impl_in.f (rd x20 x22) 0 65535).bind fun t422 => (if t422 = true then (impl_IsBits.l0 k x20 x21 (wrap64 (x22 + 1)) x419000 x419001) else (some false))) else (none)) else (none)) else (if (Int.tmod x419000 16) = 0 then (some true) else (if 0 ≤ (wrap64 ((x419001.length : Int) - 1)) then (if (wrap64 ((x419001.length : Int) - 1)) < (x419001.length : Int) then (if 0 ≤ (Int.tmod x419000 16) then (some ((shr .i64 (rd x419001 (wrap64 ((x419001.length : Int) - 1))) (Int.tmod x419000 16)) == 0)) else (none)) else (none)) else (none)))
end
def impl_IsBits.f (k : Nat) (a0_0 : Int) (l0_1 : List Int) : Option (Bool) := (impl_in.f a0_0 0 4096).bind fun t419 => (if t419 = true then ((impl_words.f a0_0).bind fun t420 => (impl_IsBits.j0 k ((l0_1.length : Int) != t420) a0_0 l0_1)) else (impl_IsBits.j0 k true a0_0 l0_1))
theorem impl_IsBits.mono_l : ∀ k, (∀ y0 y1 y2, LeO (impl_IsBits.j0 k y0 y1 y2) (impl_IsBits.j0 (k + 1) y0 y1 y2)) ∧ (∀ y0 y1 y2 y3 y4, LeO (impl_IsBits.l0 k y0 y1 y2 y3 y4) (impl_IsBits.l0 (k + 1) y0 y1 y2 y3 y4))
 | 0 => ⟨fun _ _ _ r h => by simp [impl_IsBits.j0] at h, fun _ _ _ _ _ r h => by simp [impl_IsBits.l0] at h⟩ | k + 1 => by
  obtain ⟨ih0, ih1⟩ := impl_IsBits.mono_l k
  refine ⟨?_, ?_⟩
  ·
   intro y0 y1 y2
   unfold impl_IsBits.j0
   repeat' first
   | with_reducible first | exact ih0 .. | exact ih1 .. | exact LeO.refl _ | exact LeO.none _ | refine LeO.ite ?_ ?_ | refine LeO.bind ?_ (fun _ => ?_)
   | exact ih0 .. | exact ih1 .. | exact LeO.none _ | refine LeO.ite ?_ ?_ | refine LeO.bind ?_ (fun _ => ?_)
  intro y0 y1 y2 y3 y4
  unfold impl_IsBits.l0
  repeat' first
  | with_reducible first | exact ih0 .. | exact ih1 .. | exact LeO.refl _ | exact LeO.none _ | refine LeO.ite ?_ ?_ | refine LeO.bind ?_ (fun _ => ?_)
  | exact ih0 .. | exact ih1 .. | exact LeO.none _ | refine LeO.ite ?_ ?_ | refine LeO.bind ?_ (fun _ => ?_)
theorem impl_IsBits.mono : ∀ a0 a1 k, LeO (impl_IsBits.f k a0 a1) (impl_IsBits.f (k + 1) a0 a1) := by
 intro a0 a1 k
 obtain ⟨ih0, ih1⟩ := impl_IsBits.mono_l k
 unfold impl_IsBits.f
 repeat' first
   | with_reducible first | exact ih0 .. | exact ih1 .. | exact LeO.refl _ | exact LeO.none _ | refine LeO.ite ?_ ?_ | refine LeO.bind ?_ (fun _ => ?_)
   | exact ih0 .. | exact ih1 .. | exact LeO.none _ | refine LeO.ite ?_ ?_ | refine LeO.bind ?_ (fun _ => ?_)
set_option maxHeartbeats 8000000 in
set_option maxRecDepth 100000 in
theorem impl_IsBits.calls (k : Nat) (a0_0 : Int) (A0_1 : Option Addr) (c0_1 : Nat) (l0_1 : List Int) (r : Bool) (w : World) (hr0_1 : Kd.C (Kd.int .i64) w A0_1 l0_1.length l0_1) (hc0_1 : l0_1.length ≤ c0_1) (h : impl_IsBits.f k a0_0 l0_1 = some r) :
  Calls Try.prog 50 #[.agg #[.int .i64 a0_0, .slice A0_1 l0_1.length c0_1]] w fun e w' => e = .returned (.bool r) ∧ Below w.heap.size w w' := by
 have hu26 := Try.underlying26
 have HR0_1 := Aside0.mk hr0_1
 have HC0_1 := Aside0.mk hc0_1
 clear hr0_1 hc0_1
 have HB := Aside0.mk (Below.refl w.heap.size w)
 have H : ((impl_in.f a0_0 0 4096).bind fun t419 => (if t419 = true then ((impl_words.f a0_0).bind fun t420 => (impl_IsBits.j0 k ((l0_1.length : Int) != t420) a0_0 l0_1)) else (impl_IsBits.j0 k true a0_0 l0_1))) = some r := h
 clear h
 have HC2 := Aside0.mk H
 clear H
 go_enter Try.func50, Try.ntmps50
 go_upto_region 1 with (first | ((with_reducible refine gate_dst (N := 1) rfl ?_); (try (refine gate_guard Z63 ?_; dsimp only)); refine box_event ?hg (N := 1) ?hd (cs := #[.int .i64 a0_0, .slice A0_1 l0_1.length c0_1]) (t := 26) ?hr ?_; (case hd => rfl); (case hg => rfl); (case hr => exact Z93); intro gb418 hg w3 hbox hb; have BK418 := Aside0.mk (hbox); have GW418 := nG HB hg; have GE418 := nG HB hg; have GI418 := gI GE418; replace HB := Aside0.mk (below_step (uN HB) hb); clear hb hbox hg))
 repeat (go_quiet (first | ((with_reducible refine gate_dst (N := 1) rfl ?_); (try (refine gate_guard Z63 ?_; dsimp only)); refine box_event ?hg (N := 1) ?hd (cs := #[.int .i64 a0_0, .slice A0_1 l0_1.length c0_1]) (t := 26) ?hr ?_; (case hd => rfl); (case hg => rfl); (case hr => exact Z93); intro gb418 hg w3 hbox hb; have BK418 := Aside0.mk (hbox); have GW418 := nG HB hg; have GE418 := nG HB hg; have GI418 := gI GE418; replace HB := Aside0.mk (below_step (uN HB) hb); clear hb hbox hg)); go_upto_region 1 with (first | ((with_reducible refine gate_dst (N := 1) rfl ?_); (try (refine gate_guard Z63 ?_; dsimp only)); refine box_event ?hg (N := 1) ?hd (cs := #[.int .i64 a0_0, .slice A0_1 l0_1.length c0_1]) (t := 26) ?hr ?_; (case hd => rfl); (case hg => rfl); (case hr => exact Z93); intro gb418 hg w3 hbox hb; have BK418 := Aside0.mk (hbox); have GW418 := nG HB hg; have GE418 := nG HB hg; have GI418 := gI GE418; replace HB := Aside0.mk (below_step (uN HB) hb); clear hb hbox hg)))
 (try simp only [Act.put, setIfInBounds_toArray, set_cons_zero, set_cons_succ])
 go_cut [18] (fun v18 wc => ∃ (kq : Nat) (x18_1 : Bool), v18 = .bool x18_1 ∧ Aside0 (impl_IsBits.j0 kq x18_1 a0_0 l0_1 = some r) ∧ Aside0 (kq ≤ k) ∧ Aside0 (wc.heap[gb418]? = some (.cells #[.int .i64 a0_0, (.slice A0_1 l0_1.length c0_1)] 26 (0, 0))) ∧ Aside0 (Below w.heap.size w wc))
 case first =>
  have H := HC2.out
  clear HC2
  replace H := Option.bind_eq_some_iff.mp H
  obtain ⟨t419, A40, H⟩ := H
  try dsimp only at H
  have A4 := Aside0.mk A40
  clear A40
  by_cases c5 : t419 = true
  ·
   subst c5
   rw [if_pos rfl] at H
   replace H := Option.bind_eq_some_iff.mp H
   obtain ⟨t420, A60, H⟩ := H
   try dsimp only at H
   have A6 := Aside0.mk A60
   clear A60
   have H' := Aside0.mk H
   clear H
   obtain ⟨hcz7_0, hcz7_1, hfz7_0, hfz7_1⟩ := ce2 BK418
   go_wp2_with (first | (go_at_call 23; (with_reducible refine (impl_in.calls a0_0 0 4096 true _ A4.out).mono ?_); rintro e w' ⟨rfl, ⟨nd, rfl⟩⟩; (try first | exact ⟨rfl, _, World.drewN_drewN _ _ _⟩ | exact ⟨rfl, _, Eq.trans (World.drewN_drewN _ _ _) (congrArg (World.drewN _) (Nat.add_assoc _ _ _))⟩)) | (go_at_call 80; (with_reducible refine (impl_words.calls a0_0 t420 _ A6.out).mono ?_); rintro e w' ⟨rfl, ⟨nd, rfl⟩⟩; (try first | exact ⟨rfl, _, World.drewN_drewN _ _ _⟩ | exact ⟨rfl, _, Eq.trans (World.drewN_drewN _ _ _) (congrArg (World.drewN _) (Nat.add_assoc _ _ _))⟩)))
   repeat (go_quiet (first | (go_at_call 23; (with_reducible refine (impl_in.calls a0_0 0 4096 true _ A4.out).mono ?_); rintro e w' ⟨rfl, ⟨nd, rfl⟩⟩; (try first | exact ⟨rfl, _, World.drewN_drewN _ _ _⟩ | exact ⟨rfl, _, Eq.trans (World.drewN_drewN _ _ _) (congrArg (World.drewN _) (Nat.add_assoc _ _ _))⟩)) | (go_at_call 80; (with_reducible refine (impl_words.calls a0_0 t420 _ A6.out).mono ?_); rintro e w' ⟨rfl, ⟨nd, rfl⟩⟩; (try first | exact ⟨rfl, _, World.drewN_drewN _ _ _⟩ | exact ⟨rfl, _, Eq.trans (World.drewN_drewN _ _ _) (congrArg (World.drewN _) (Nat.add_assoc _ _ _))⟩))); try go_wp2_with (first | (go_at_call 23; (with_reducible refine (impl_in.calls a0_0 0 4096 true _ A4.out).mono ?_); rintro e w' ⟨rfl, ⟨nd, rfl⟩⟩; (try first | exact ⟨rfl, _, World.drewN_drewN _ _ _⟩ | exact ⟨rfl, _, Eq.trans (World.drewN_drewN _ _ _) (congrArg (World.drewN _) (Nat.add_assoc _ _ _))⟩)) | (go_at_call 80; (with_reducible refine (impl_words.calls a0_0 t420 _ A6.out).mono ?_); rintro e w' ⟨rfl, ⟨nd, rfl⟩⟩; (try first | exact ⟨rfl, _, World.drewN_drewN _ _ _⟩ | exact ⟨rfl, _, Eq.trans (World.drewN_drewN _ _ _) (congrArg (World.drewN _) (Nat.add_assoc _ _ _))⟩))))
   go_meet
   case rel => exact ⟨_, (((l0_1.length : Int) != t420)), Z91, H', ⟨Z96⟩, ⟨by refine uW ?_; exact BK418.out⟩, ⟨Z35⟩⟩
  replace c5 := Bool.eq_false_iff.mpr c5
  subst c5
  rw [if_neg (show ¬ (false = true) from Z19)] at H
  have H' := Aside0.mk H
  clear H
  obtain ⟨hcz8_0, hcz8_1, hfz8_0, hfz8_1⟩ := ce2 BK418
  go_wp2_with (first | (go_at_call 23; (with_reducible refine (impl_in.calls a0_0 0 4096 false _ A4.out).mono ?_); rintro e w' ⟨rfl, ⟨nd, rfl⟩⟩; (try first | exact ⟨rfl, _, World.drewN_drewN _ _ _⟩ | exact ⟨rfl, _, Eq.trans (World.drewN_drewN _ _ _) (congrArg (World.drewN _) (Nat.add_assoc _ _ _))⟩)))
  repeat (go_quiet (first | (go_at_call 23; (with_reducible refine (impl_in.calls a0_0 0 4096 false _ A4.out).mono ?_); rintro e w' ⟨rfl, ⟨nd, rfl⟩⟩; (try first | exact ⟨rfl, _, World.drewN_drewN _ _ _⟩ | exact ⟨rfl, _, Eq.trans (World.drewN_drewN _ _ _) (congrArg (World.drewN _) (Nat.add_assoc _ _ _))⟩))); try go_wp2_with (first | (go_at_call 23; (with_reducible refine (impl_in.calls a0_0 0 4096 false _ A4.out).mono ?_); rintro e w' ⟨rfl, ⟨nd, rfl⟩⟩; (try first | exact ⟨rfl, _, World.drewN_drewN _ _ _⟩ | exact ⟨rfl, _, Eq.trans (World.drewN_drewN _ _ _) (congrArg (World.drewN _) (Nat.add_assoc _ _ _))⟩))))
  go_meet
  case rel => exact ⟨_, (true), Z91, H', ⟨Z96⟩, ⟨by refine uW ?_; exact BK418.out⟩, ⟨Z35⟩⟩
 case rest =>
  clear HC2
  try clear p2
  try clear c5
  try clear hcz7_0
  try clear hcz7_1
  try clear hcz8_0
  try clear hcz8_1
  try clear hfz7_0
  try clear hfz7_1
  try clear hfz8_0
  try clear hfz8_1
  obtain ⟨kq, x18_1, rfl, HA, HJ1, BK418, HB⟩ := hcut
  cases kq with
  | zero => exact absurd HA.out (by simp [impl_IsBits.j0])
  | succ kj1 =>
   have H := HA.out
   clear HA
   simp only [impl_IsBits.j0] at H
   by_cases c9 : x18_1 = true
   ·
    subst c9
    rw [if_pos rfl] at H
    obtain rfl := Option.some.inj H
    go_wp2
    repeat (go_quiet (fail); try go_wp2)
    go_ret
    exact ⟨Z90, Z35⟩
   replace c9 := Bool.eq_false_iff.mpr c9
   subst c9
   rw [if_neg (show ¬ (false = true) from Z19)] at H
   have H' := Aside0.mk H
   clear H
   obtain ⟨hcz10_0, hcz10_1, hfz10_0, hfz10_1⟩ := ce2 BK418
   go_wp2
   repeat (go_quiet (fail); try go_wp2)
   go_loopg [22] kj1 (fun kq v22 w' => ∃ (x22_2 : Int), v22 = .int .i64 x22_2 ∧ Aside0 (impl_IsBits.l0 kq l0_1 (l0_1.length : Int) x22_2 a0_0 l0_1 = some r) ∧ Aside0 (kq ≤ kj1) ∧ Aside0 (w'.heap[gb418]? = some (.cells #[.int .i64 a0_0, (.slice A0_1 l0_1.length c0_1)] 26 (0, 0))) ∧ Aside0 (Below w.heap.size w w'))
   case atStart => exact ⟨(0), Z91, H', ⟨Nat.le_refl _⟩, ⟨by refine uW ?_; exact BK418.out⟩, ⟨Z35⟩⟩
   case round =>
    clear H'
    try clear p2
    try clear c5
    try clear c9
    try clear hcz10_0
    try clear hcz10_1
    try clear hcz7_0
    try clear hcz7_1
    try clear hcz8_0
    try clear hcz8_1
    try clear hfz10_0
    try clear hfz10_1
    try clear hfz7_0
    try clear hfz7_1
    try clear hfz8_0
    try clear hfz8_1
    try clear p2
    obtain ⟨x22_2, rfl, HA, HK2, BK418, HB⟩ := hrel
    cases gk with
    | zero => exact absurd HA.out (by simp [impl_IsBits.l0])
    | succ k2 =>
     have H := HA.out
     clear HA
     simp only [impl_IsBits.l0] at H
     by_cases c11 : x22_2 < (l0_1.length : Int)
     ·
      rw [if_pos c11] at H
      have c11b0 : decide (x22_2 < (l0_1.length : Int)) = true := decide_eq_true c11
      clear c11
      by_cases c12 : 0 ≤ x22_2
      ·
       rw [if_pos c12] at H
       have c12b0 : decide (0 ≤ x22_2) = true := decide_eq_true c12
       clear c12
       by_cases c13 : x22_2 < (l0_1.length : Int)
       ·
        rw [if_pos c13] at H
        have c13b0 : decide (x22_2 < (l0_1.length : Int)) = true := decide_eq_true c13
        clear c13
        replace H := Option.bind_eq_some_iff.mp H
        obtain ⟨t422, A140, H⟩ := H
        try dsimp only at H
        have A14 := Aside0.mk A140
        clear A140
        by_cases c15 : t422 = true
        ·
         subst c15
         rw [if_pos rfl] at H
         have H' := Aside0.mk H
         clear H
         have p421 : 0 ≤ (x22_2 : Int) := of_decide_eq_true Z6
         have q421 : x22_2 < (l0_1.length : Int) := of_decide_eq_true Z6
         obtain ⟨ad421, e421, hx421_0⟩ := Kd.at_int HR0_1.out x22_2 p421 q421
         cases e421
         replace hx421_0 := (HB.out.cell (World.block_lt_of_cell? w _ hx421_0)).trans hx421_0
         replace p421 := eq_true p421
         replace q421 := eq_true q421
         go_wp2_with (first | (go_at_call 23; (with_reducible refine (impl_in.calls (rd l0_1 x22_2) 0 65535 true _ A14.out).mono ?_); rintro e w' ⟨rfl, ⟨nd, rfl⟩⟩; (try first | exact ⟨rfl, _, World.drewN_drewN _ _ _⟩ | exact ⟨rfl, _, Eq.trans (World.drewN_drewN _ _ _) (congrArg (World.drewN _) (Nat.add_assoc _ _ _))⟩)))
         repeat (go_quiet (first | (go_at_call 23; (with_reducible refine (impl_in.calls (rd l0_1 x22_2) 0 65535 true _ A14.out).mono ?_); rintro e w' ⟨rfl, ⟨nd, rfl⟩⟩; (try first | exact ⟨rfl, _, World.drewN_drewN _ _ _⟩ | exact ⟨rfl, _, Eq.trans (World.drewN_drewN _ _ _) (congrArg (World.drewN _) (Nat.add_assoc _ _ _))⟩))); try go_wp2_with (first | (go_at_call 23; (with_reducible refine (impl_in.calls (rd l0_1 x22_2) 0 65535 true _ A14.out).mono ?_); rintro e w' ⟨rfl, ⟨nd, rfl⟩⟩; (try first | exact ⟨rfl, _, World.drewN_drewN _ _ _⟩ | exact ⟨rfl, _, Eq.trans (World.drewN_drewN _ _ _) (congrArg (World.drewN _) (Nat.add_assoc _ _ _))⟩))))
         go_roundg k2
         case measure => have := HJ1.out; have := HK2.out; omega
         case rel => exact ⟨(wrap64 (x22_2 + 1)), Z91, H', ⟨by have := HJ1.out; have := HK2.out; omega⟩, ⟨by refine uW ?_; exact BK418.out⟩, ⟨Z35⟩⟩
        replace c15 := Bool.eq_false_iff.mpr c15
        subst c15
        rw [if_neg (show ¬ (false = true) from Z19)] at H
        obtain rfl := Option.some.inj H
        have p421 : 0 ≤ (x22_2 : Int) := of_decide_eq_true Z6
        have q421 : x22_2 < (l0_1.length : Int) := of_decide_eq_true Z6
        obtain ⟨ad421, e421, hx421_0⟩ := Kd.at_int HR0_1.out x22_2 p421 q421
        cases e421
        replace hx421_0 := (HB.out.cell (World.block_lt_of_cell? w _ hx421_0)).trans hx421_0
        replace p421 := eq_true p421
        replace q421 := eq_true q421
        go_wp2_with (first | (go_at_call 23; (with_reducible refine (impl_in.calls (rd l0_1 x22_2) 0 65535 false _ A14.out).mono ?_); rintro e w' ⟨rfl, ⟨nd, rfl⟩⟩; (try first | exact ⟨rfl, _, World.drewN_drewN _ _ _⟩ | exact ⟨rfl, _, Eq.trans (World.drewN_drewN _ _ _) (congrArg (World.drewN _) (Nat.add_assoc _ _ _))⟩)))
        repeat (go_quiet (first | (go_at_call 23; (with_reducible refine (impl_in.calls (rd l0_1 x22_2) 0 65535 false _ A14.out).mono ?_); rintro e w' ⟨rfl, ⟨nd, rfl⟩⟩; (try first | exact ⟨rfl, _, World.drewN_drewN _ _ _⟩ | exact ⟨rfl, _, Eq.trans (World.drewN_drewN _ _ _) (congrArg (World.drewN _) (Nat.add_assoc _ _ _))⟩))); try go_wp2_with (first | (go_at_call 23; (with_reducible refine (impl_in.calls (rd l0_1 x22_2) 0 65535 false _ A14.out).mono ?_); rintro e w' ⟨rfl, ⟨nd, rfl⟩⟩; (try first | exact ⟨rfl, _, World.drewN_drewN _ _ _⟩ | exact ⟨rfl, _, Eq.trans (World.drewN_drewN _ _ _) (congrArg (World.drewN _) (Nat.add_assoc _ _ _))⟩))))
        go_ret
        exact ⟨Z90, Z35⟩
       rw [if_neg c13] at H
       exact absurd H Z37
      rw [if_neg c12] at H
      exact absurd H Z37
     rw [if_neg c11] at H
     have c11b0 : decide (x22_2 < (l0_1.length : Int)) = false := decide_eq_false c11
     clear c11
     by_cases c16 : (Int.tmod a0_0 16) = 0
     ·
      rw [if_pos c16] at H
      have c16b0 : ((Int.tmod a0_0 16) == 0) = true := beq_iff_eq.mpr c16
      have c16b1 : ((Int.tmod a0_0 16) != 0) = false := bne_eq_false_iff_eq.mpr c16
      clear c16
      obtain rfl := Option.some.inj H
      obtain ⟨hcz17_0, hcz17_1, hfz17_0, hfz17_1⟩ := ce2 BK418
      go_wp2
      repeat (go_quiet (fail); try go_wp2)
      go_ret
      exact ⟨Z90, Z35⟩
     rw [if_neg c16] at H
     have c16b0 : ((Int.tmod a0_0 16) == 0) = false := beq_eq_false_iff_ne.mpr c16
     have c16b1 : ((Int.tmod a0_0 16) != 0) = true := bne_iff_ne.mpr c16
     obtain ⟨ji18, hji18⟩ : ∃ j_ : Int, (wrap64 ((l0_1.length : Int) - 1)) = j_ := ⟨_, rfl⟩
     replace H : (if 0 ≤ (ji18) then (if (ji18) < (l0_1.length : Int) then (if 0 ≤ (Int.tmod a0_0 16) then (some ((shr .i64 (rd l0_1 (ji18)) (Int.tmod a0_0 16)) == 0)) else (none)) else (none)) else (none)) = some r := by first | (rw [hji18] at H; exact H) | (simp only [hji18] at H ⊢; exact H)
     have hji18w : (IntKind.i64.wrap ((l0_1.length : Int) - 1)) = ji18 := (i64_w _).trans hji18
     by_cases c19 : 0 ≤ (ji18)
     ·
      rw [if_pos c19] at H
      have c19b0 : decide (0 ≤ (ji18)) = true := decide_eq_true c19
      clear c19
      by_cases c20 : (ji18) < (l0_1.length : Int)
      ·
       rw [if_pos c20] at H
       have c20b0 : decide ((ji18) < (l0_1.length : Int)) = true := decide_eq_true c20
       clear c20
       obtain ⟨ji21, hji21⟩ : ∃ j_ : Int, (Int.tmod a0_0 16) = j_ := ⟨_, rfl⟩
       replace H : (if 0 ≤ (ji21) then (some ((shr .i64 (rd l0_1 (ji18)) (ji21)) == 0)) else (none)) = some r := by first | (rw [hji21] at H; exact H) | (simp only [hji21] at H ⊢; exact H)
       (try rw [hji21] at c16b0)
       (try rw [hji21] at c16b1)
       by_cases c22 : 0 ≤ (ji21)
       ·
        rw [if_pos c22] at H
        have c22b0 := eq_true c22
        have c22b1 : decide (0 ≤ (ji21)) = true := decide_eq_true c22
        clear c22
        obtain ⟨ji23, hji23⟩ : ∃ j_ : Int, (shr .i64 (rd l0_1 (ji18)) (ji21)) = j_ := ⟨_, rfl⟩
        replace H : (some ((ji23) == 0)) = some r := by first | (rw [hji23] at H; exact H) | (simp only [hji23] at H ⊢; exact H)
        have hji23_ : ((rd l0_1 (ji18)) / 2 ^ min (ji21).toNat 64) = ji23 := hji23
        have hji23z : (ji21) ≤ 64 → ((rd l0_1 (ji18)) / 2 ^ (ji21).toNat) = ji23 := shr_small hji23
        obtain rfl := Option.some.inj H
        obtain ⟨hcz24_0, hcz24_1, hfz24_0, hfz24_1⟩ := ce2 BK418
        have p423 : 0 ≤ ((ji18) : Int) := of_decide_eq_true Z6
        have q423 : (ji18) < (l0_1.length : Int) := of_decide_eq_true Z6
        obtain ⟨ad423, e423, hx423_0⟩ := Kd.at_int HR0_1.out (ji18) p423 q423
        cases e423
        replace hx423_0 := (HB.out.cell (World.block_lt_of_cell? w _ hx423_0)).trans hx423_0
        replace p423 := eq_true p423
        replace q423 := eq_true q423
        go_wp2
        repeat (go_quiet (fail); try go_wp2)
        go_ret
        exact ⟨by first | rfl | (simp [errW_none, errW_some] <;> rfl) | (simp only [← hji18, ← hji21, ← hji23]; first | rfl | (simp [errW_none, errW_some] <;> rfl)) | (simp [*, errW_none, errW_some] <;> rfl), Z35⟩
       rw [if_neg c22] at H
       exact absurd H Z37
      rw [if_neg c20] at H
      exact absurd H Z37
     rw [if_neg c19] at H
     exact absurd H Z37

end Go.Proofs.Ytllaofiopnhdgaa.PFnSparseCounts
