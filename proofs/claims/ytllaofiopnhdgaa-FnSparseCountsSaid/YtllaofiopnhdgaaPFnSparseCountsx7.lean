-- made by wip/tools/myprint.py over the kit's print, for this claim
import Derived.Test.YtllaofiopnhdgaaPFnSparseCountsx0
import Derived.Test.YtllaofiopnhdgaaPFnSparseCountsx2
import Derived.Test.YtllaofiopnhdgaaPFnSparseCountsx6
namespace Go.Proofs.Ytllaofiopnhdgaa.PFnSparseCounts
open Go.RowKit Go.Proofs.YtllaofiopnhdgaaW.PrintWords Go.Proofs.YtllaofiopnhdgaaW.PrintLast Go.Proofs.YtllaofiopnhdgaaW.PrintMore
open List (setIfInBounds_toArray set_cons_zero set_cons_succ)
attribute [local go_sem] max2_int min2_int max_two min_two max_three min_three max_four min_four   -- for this text's walks alone
set_option linter.unusedVariables false
set_option linter.unusedSimpArgs false

/-! ### spec_DrawLastAtMost: function 6 -/
def spec_DrawLastAtMost.f (k : Nat) (l0 : List Int) : Option (Int × Int × Int × Int × List Int × Int × List Int × Int) := (spec_l1Cur_sparse.f k l0 0 0).bind fun x => (spec_l1Cur_place.f l0 x.2.2.2.2.2.2.2.1 x.2.2.2.2.2.2.2.2 x.2.1).bind fun y => some (x.1, x.2.1, x.2.2.1, x.2.2.2.1, x.2.2.2.2.1, x.2.2.2.2.2.1, x.2.2.2.2.2.2.1, y.1)
theorem spec_DrawLastAtMost.mono : ∀ a0 k, LeO (spec_DrawLastAtMost.f k a0) (spec_DrawLastAtMost.f (k + 1) a0) := by
  intro a0 k
  unfold spec_DrawLastAtMost.f
  refine LeO.bind (spec_l1Cur_sparse.mono _ _ _ _) (fun _ => ?_)
  exact LeO.refl _
def spec_DrawLastAtMost.T3 : Bool × List (List Nat × List Nat) := (true, [([], []), ([], []), ([], []), ([2], [2]), ([1, 3], [1, 3]), ([0, 4, 0], [0]), ([4, 5, 0, 1, 2, 3, 4, 5], [4])])
def spec_DrawLastAtMost.B3 : List Nat := [0, 0, 0, 4, 14, 31, 63]
theorem spec_DrawLastAtMost.tab3 : rtab .any (opsOf Try.f6 3) = spec_DrawLastAtMost.T3 := by kernel_rfl
theorem spec_DrawLastAtMost.bits3 : waitsOk spec_DrawLastAtMost.T3.2 spec_DrawLastAtMost.B3 = true := by kernel_rfl
set_option maxHeartbeats 8000000 in
set_option maxRecDepth 100000 in
theorem spec_DrawLastAtMost.calls (k : Nat) (A0 : Option Addr) (c0 : Nat) (l0 : List Int) (r1 : Int) (r2 : Int) (r3 : Int) (r4 : Int) (r5 : List Int) (r6 : Int) (r7 : List Int) (r8 : Int) (w : World) (hr0 : Kd.C (Kd.int .u8) w A0 l0.length l0) (hc0 : l0.length ≤ c0) (h : spec_DrawLastAtMost.f k l0 = some (r1, r2, r3, r4, r5, r6, r7, r8)) :
    Calls Try.prog 6 #[.slice A0 l0.length c0] w fun e w' => ∃ v4_ v6_ : Value, e = .returned (.tuple #[.agg #[.int .i64 r1, .int .i64 r2, .int .i64 r3, .int .i64 r4, v4_, .int .i64 r6, v6_], .int .i64 r8]) ∧ Kd.R (Kd.int .i64) 3 w' w.heap.size (fun k_ => some k_ ≠ (v6_ : Value).ownBlock) v4_ r5 ∧ Kd.R (Kd.int .i64) 3 w' w.heap.size (fun k_ => some k_ ≠ (v4_ : Value).ownBlock) v6_ r7 ∧ Below w.heap.size w w' := by
  unfold spec_DrawLastAtMost.f at h
  replace h := Option.bind_eq_some_iff.mp h
  obtain ⟨⟨x1, x2, x3, x4, x5, x6, x7, x8, x9⟩, hx, h⟩ := h
  replace h := Option.bind_eq_some_iff.mp h
  obtain ⟨⟨y1, y2, y3⟩, hy, h⟩ := h
  simp only [Option.some.injEq, Prod.mk.injEq] at h
  obtain ⟨rfl, rfl, rfl, rfl, rfl, rfl, rfl, rfl⟩ := h
  have HX := Aside0.mk hx
  have HY := Aside0.mk hy
  have HR := Aside0.mk hr0
  have HC := Aside0.mk hc0
  clear hx hy hr0 hc0
  go_enter Try.func6, Try.ntmps6
  go_upto_region 3 with (first
    | ((with_reducible refine gate_dst (N := 2) rfl ?_); refine box_event ?hg (N := 2) ?hd (cs := #[.int .i64 0, .int .i64 0, .int .i64 0, .int .i64 0, .slice none 0 0, .int .i64 0, .slice none 0 0]) (t := 28) ?hr ?_; (case hd => rfl); (case hg => rfl); (case hr => exact Z93); intro g2 hg w1 hbox hb; have BK2 := Aside0.mk hbox; have GE2 := Aside0.mk (by rw [hg]; exact Nat.le_refl _ : w.heap.size ≤ g2); have HB1 := Aside0.mk hb; clear hbox hg hb)
    | ((with_reducible refine gate_dst (N := 8) rfl ?_); refine box_event ?hg (N := 8) ?hd (cs := #[.slice A0 l0.length c0, .int .i64 0, .int .u64 0]) (t := 47) ?hr ?_; (case hd => rfl); (case hg => rfl); (case hr => exact Z93); intro g8 hg w2 hbox hb; have NE82 := Aside0.mk (by rw [hg]; exact Nat.ne_of_lt (blk_lt BK2.out) : g2 ≠ g8); have HB2 := Aside0.mk (below_step HB1.out hb); have BK2' := Aside0.mk (blk_below (g := g2) BK2.out hb); have HI2 : Aside0 (IsS47 w w2 g8 l0 0 0) := ⟨⟨A0, c0, hbox, by rw [hg]; exact HB1.out.size, HR.out⟩⟩; clear hbox hg hb BK2)
    | (go_at_call 20; refine (spec_l1Cur_sparse.calls k _ l0 0 0 x1 x2 x3 x4 x5 x6 x7 x8 x9 w _ HI2.out HB2.out HX.out).mono ?_; rintro e w3 ⟨v4, v6, rfl, ho4, ho6, hI, hB, hk⟩; have BK2 := Aside0.mk (KeepBut.blk hk (g' := g2) BK2'.out NE82.out Z37); have HI3 := Aside0.mk hI; have HB3 := Aside0.mk hB; have HO4 := Aside0.mk (Kd.R_lower ho4 HB2.out.size); have HO6 := Aside0.mk (Kd.R_lower ho6 HB2.out.size); clear ho4 ho6 hI hB hk HI2 BK2'; obtain ⟨Ao4, co4, eo4⟩ := Kd.R_slice HO4.out; subst eo4; obtain ⟨Ao6, co6, eo6⟩ := Kd.R_slice HO6.out; subst eo6)
    | ((with_reducible refine gate_dst (N := 5) rfl ?_); refine box_event ?hg (N := 5) ?hd (cs := #[.int .i64 0, .int .i64 0, .int .i64 0, .int .i64 0, .slice none 0 0, .int .i64 0, .slice none 0 0]) (t := 28) ?hr ?_; (case hd => rfl); (case hg => rfl); (case hr => exact Z93); intro g5 hg w4 hbox hb; have NE52 := Aside0.mk (by rw [hg]; exact Nat.ne_of_lt (blk_lt BK2.out) : g2 ≠ g5); have NE58 := Aside0.mk (by rw [hg]; exact Nat.ne_of_lt (HI3.out.lt) : g8 ≠ g5); have GE5 := Aside0.mk (by rw [hg]; exact HB3.out.size : w.heap.size ≤ g5); have HB4 := Aside0.mk (below_step HB3.out hb); have BK4 := Aside0.mk (blk_below (g := g2) BK2.out hb); have HI4 := Aside0.mk (IsS47.below HI3.out hb); have HO44 := Aside0.mk (Kd.R_below HO4.out hb); have HO46 := Aside0.mk (Kd.R_below HO6.out hb); have BK5 := Aside0.mk hbox; clear hbox hg hb BK2 HI3 HB3 HO4 HO6; have hcz_0 : w4.cell? ⟨g5, 0, none⟩ = some (.int .i64 0) := bc BK5 0; have hcz_1 : w4.cell? ⟨g5, 1, none⟩ = some (.int .i64 0) := bc BK5 1; have hcz_2 : w4.cell? ⟨g5, 2, none⟩ = some (.int .i64 0) := bc BK5 2; have hcz_3 : w4.cell? ⟨g5, 3, none⟩ = some (.int .i64 0) := bc BK5 3; have hcz_4 : w4.cell? ⟨g5, 4, none⟩ = some (.slice none 0 0) := bc BK5 4; have hcz_5 : w4.cell? ⟨g5, 5, none⟩ = some (.int .i64 0) := bc BK5 5; have hcz_6 : w4.cell? ⟨g5, 6, none⟩ = some (.slice none 0 0) := bc BK5 6; have hfz_0 := blk_frozen BK5.out 0; have hfz_1 := blk_frozen BK5.out 1; have hfz_2 := blk_frozen BK5.out 2; have hfz_3 := blk_frozen BK5.out 3; have hfz_4 := blk_frozen BK5.out 4; have hfz_5 := blk_frozen BK5.out 5; have hfz_6 := blk_frozen BK5.out 6))
  generalize hW : ((((((w4.setCell ⟨g5, 0, none⟩ (.int .i64 x1)).setCell ⟨g5, 1, none⟩ (.int .i64 x2)).setCell ⟨g5, 2, none⟩ (.int .i64 x3)).setCell ⟨g5, 3, none⟩ (.int .i64 x4)).setCell ⟨g5, 4, none⟩ (.slice Ao4 x5.length co4)).setCell ⟨g5, 5, none⟩ (.int .i64 x6)).setCell ⟨g5, 6, none⟩ (.slice Ao6 x7.length co6) = w5
  have BK5n : Aside0 (w5.heap[g5]? = some (.cells #[.int .i64 x1, .int .i64 x2, .int .i64 x3, .int .i64 x4, .slice Ao4 x5.length co4, .int .i64 x6, .slice Ao6 x7.length co6] 28 (0, 0))) := ⟨by
    rw [← hW]
    refine blk_put (cs := #[.int .i64 x1, .int .i64 x2, .int .i64 x3, .int .i64 x4, .slice Ao4 x5.length co4, .int .i64 x6, .slice none 0 0]) ?_ 6 _ rfl
    refine blk_put (cs := #[.int .i64 x1, .int .i64 x2, .int .i64 x3, .int .i64 x4, .slice Ao4 x5.length co4, .int .i64 0, .slice none 0 0]) ?_ 5 _ rfl
    refine blk_put (cs := #[.int .i64 x1, .int .i64 x2, .int .i64 x3, .int .i64 x4, .slice none 0 0, .int .i64 0, .slice none 0 0]) ?_ 4 _ rfl
    refine blk_put (cs := #[.int .i64 x1, .int .i64 x2, .int .i64 x3, .int .i64 0, .slice none 0 0, .int .i64 0, .slice none 0 0]) ?_ 3 _ rfl
    refine blk_put (cs := #[.int .i64 x1, .int .i64 x2, .int .i64 0, .int .i64 0, .slice none 0 0, .int .i64 0, .slice none 0 0]) ?_ 2 _ rfl
    refine blk_put (cs := #[.int .i64 x1, .int .i64 0, .int .i64 0, .int .i64 0, .slice none 0 0, .int .i64 0, .slice none 0 0]) ?_ 1 _ rfl
    refine blk_put (cs := #[.int .i64 0, .int .i64 0, .int .i64 0, .int .i64 0, .slice none 0 0, .int .i64 0, .slice none 0 0]) ?_ 0 _ rfl
    exact BK5.out⟩
  have BK2n : Aside0 (w5.heap[g2]? = some (.cells #[.int .i64 0, .int .i64 0, .int .i64 0, .int .i64 0, .slice none 0 0, .int .i64 0, .slice none 0 0] 28 (0, 0))) := ⟨by
    rw [← hW]
    exact (blk_far (blk_far (blk_far (blk_far (blk_far (blk_far (blk_far BK4.out NE52.out _) NE52.out _) NE52.out _) NE52.out _) NE52.out _) NE52.out _) NE52.out _)⟩
  have HI5 : Aside0 (IsS47 w w5 g8 l0 x8 x9) := ⟨by
    rw [← hW]
    exact (IsS47.far (IsS47.far (IsS47.far (IsS47.far (IsS47.far (IsS47.far (IsS47.far HI4.out NE58.out _) NE58.out _) NE58.out _) NE58.out _) NE58.out _) NE58.out _) NE58.out _)⟩
  have HB5 : Aside0 (Below w.heap.size w w5) := ⟨by
    rw [← hW]
    exact (below_set (below_set (below_set (below_set (below_set (below_set (below_set HB4.out GE5.out) GE5.out) GE5.out) GE5.out) GE5.out) GE5.out) GE5.out)⟩
  have HO54 : Aside0 (Kd.R (Kd.int .i64) 3 w5 w.heap.size (fun k_ => some k_ ≠ (.slice Ao6 x7.length co6 : Value).ownBlock) (.slice Ao4 x5.length co4) x5) := ⟨by
    rw [← hW]
    exact Kd.R_mono (Kd.R_far (p := ⟨g5, 6, none⟩) (Kd.R_far (p := ⟨g5, 5, none⟩) (Kd.R_far (p := ⟨g5, 4, none⟩) (Kd.R_far (p := ⟨g5, 3, none⟩) (Kd.R_far (p := ⟨g5, 2, none⟩) (Kd.R_far (p := ⟨g5, 1, none⟩) (Kd.R_far (p := ⟨g5, 0, none⟩) (Kd.R_types HO44.out BK5.out Z19) (fun _ hk => hk.2) _) (fun _ hk => hk.2) _) (fun _ hk => hk.2) _) (fun _ hk => hk.2) _) (fun _ hk => hk.2) _) (fun _ hk => hk.2) _) (fun _ hk => hk.2) _) (fun _ h_ => h_.1)⟩
  have HO56 : Aside0 (Kd.R (Kd.int .i64) 3 w5 w.heap.size (fun k_ => some k_ ≠ (.slice Ao4 x5.length co4 : Value).ownBlock) (.slice Ao6 x7.length co6) x7) := ⟨by
    rw [← hW]
    exact Kd.R_mono (Kd.R_far (p := ⟨g5, 6, none⟩) (Kd.R_far (p := ⟨g5, 5, none⟩) (Kd.R_far (p := ⟨g5, 4, none⟩) (Kd.R_far (p := ⟨g5, 3, none⟩) (Kd.R_far (p := ⟨g5, 2, none⟩) (Kd.R_far (p := ⟨g5, 1, none⟩) (Kd.R_far (p := ⟨g5, 0, none⟩) (Kd.R_types HO46.out BK5.out Z19) (fun _ hk => hk.2) _) (fun _ hk => hk.2) _) (fun _ hk => hk.2) _) (fun _ hk => hk.2) _) (fun _ hk => hk.2) _) (fun _ hk => hk.2) _) (fun _ hk => hk.2) _) (fun _ h_ => h_.1)⟩
  clear HO44 HO46 HI4 HB4 BK4 BK5 hcz_0 hcz_1 hcz_2 hcz_3 hcz_4 hcz_5 hcz_6 hfz_0 hfz_1 hfz_2 hfz_3 hfz_4 hfz_5 hfz_6 hW
  refine start_ (n := 7) (S := fun w' => w'.cell? ⟨g5, 0, none⟩ = some (.int .i64 x1) ∧ w'.cell? ⟨g5, 1, none⟩ = some (.int .i64 x2) ∧ w'.cell? ⟨g5, 2, none⟩ = some (.int .i64 x3) ∧ w'.cell? ⟨g5, 3, none⟩ = some (.int .i64 x4) ∧ w'.cell? ⟨g5, 4, none⟩ = some (.slice Ao4 x5.length co4) ∧ w'.cell? ⟨g5, 5, none⟩ = some (.int .i64 x6) ∧ w'.cell? ⟨g5, 6, none⟩ = some (.slice Ao6 x7.length co6)) (ds := [5, 6]) (bA 7 0) Z92 rfl rfl ⟨bc BK5n 0, bc BK5n 1, bc BK5n 2, bc BK5n 3, bc BK5n 4, bc BK5n 5, bc BK5n 6⟩ (fun hHeld => ?_)
  refine with_tabW spec_DrawLastAtMost.tab3 spec_DrawLastAtMost.bits3 (fun HT_ HW_ => ?_)
  have d0 := Aside0.mk (blk_drew BK5n.out)
  have d1 := Aside0.mk (blk_drew BK2n.out)
  have d2 := Aside0.mk (IsS47.drew HI5.out)
  have d3 := Aside0.mk (below_drew HB5.out)
  have d4 := Aside0.mk (Kd.R_drew HO54.out)
  have d5 := Aside0.mk (Kd.R_drew HO56.out)
  clear BK5n BK2n HI5 HB5 HO54 HO56
  generalize w5.drew = w6 at d0 d1 d2 d3 d4 d5 hHeld ⊢
  have BK5n := d0
  have BK2n := d1
  have HI5 := d2
  have HB5 := d3
  have HO54 := d4
  have HO56 := d5
  clear d0 d1 d2 d3 d4 d5
  refine pure_ (i := 1) (N := (some 12)) (v := ?_) (a' := ?_) (bA 7 2) rfl rfl (any_of HT_.out Z92) (fun _ _ _ h => h) (Or.inl ⟨Z63, ?_⟩) ?_ ?_
  rotate_left
  · intro w'
    go_simp
    with_reducible rfl
  rotate_left
  · simp only [Act.put, setIfInBounds_toArray, set_cons_zero, set_cons_succ, i64_w, i32_w]
    rfl
  refine pure_ (i := 2) (N := (some 13)) (v := ?_) (a' := ?_) (bA 7 6) rfl rfl (any_of HT_.out Z92) (fun _ _ _ h => h) (Or.inl ⟨Z63, ?_⟩) ?_ ?_
  rotate_left
  · intro w'
    go_simp
    with_reducible rfl
  rotate_left
  · simp only [Act.put, setIfInBounds_toArray, set_cons_zero, set_cons_succ, i64_w, i32_w]
    rfl
  refine take_ (i := 0) (N := (some 11)) (v := ?_) (a' := ?_) (bA 7 7) rfl rfl (take_ofW HT_.out HW_.out Z92) (fun _ _ _ h => h) (Or.inl ⟨Z63, ?_⟩) hHeld ?_ ?_
  rotate_left
  · rintro w' ⟨s0, s1, s2, s3, s4, s5, s6⟩
    go_simp
    with_reducible rfl
  rotate_left
  · simp only [Act.put, setIfInBounds_toArray, set_cons_zero, set_cons_succ, i64_w, i32_w]
    rfl
  refine take_ (i := 3) (N := (some 14)) (v := ?_) (a' := ?_) (bA 7 15) rfl rfl (take_ofW HT_.out HW_.out Z92) (fun _ _ _ h => h) (Or.inl ⟨Z63, ?_⟩) hHeld ?_ ?_
  rotate_left
  · rintro w' ⟨s0, s1, s2, s3, s4, s5, s6⟩
    go_simp
    with_reducible rfl
  rotate_left
  · simp only [Act.put, setIfInBounds_toArray, set_cons_zero, set_cons_succ, i64_w, i32_w]
    rfl
  refine one_ (i := 4) (N := (some 15)) (bA 7 31) rfl rfl (one_of HT_.out Z92) Z19 (fun K hK => ?_)
  refine goes_ Try.func21 Z92 rfl #[.pointer (some ⟨g8, 0, none⟩), .int .i64 x2] Z63 rfl rfl Z89 ?_
  with_reducible refine (spec_l1Cur_place.calls g8 l0 x8 x9 x2 y1 y2 y3 w _ ?side1 ?side2 HY.out).mono ?_
  (case side1 => exact HI5.out)
  (case side2 => exact HB5.out)
  rintro e w7 ⟨rfl, hi, hb, hk⟩
  refine ⟨_, rfl, ?_⟩
  have m4_ := Aside0.mk (Kd.R_mono (Kd.R_keep (IsS47.apart HI5.out HO54.out Z19) hk (fun _ hk => hk.2)) (fun _ h_ => h_.1))
  have m6_ := Aside0.mk (Kd.R_mono (Kd.R_keep (IsS47.apart HI5.out HO56.out Z19) hk (fun _ hk => hk.2)) (fun _ h_ => h_.1))
  have mb5 := Aside0.mk (KeepBut.blk hk (g' := g5) BK5n.out (Ne.symm NE58.out) Z37)
  have mb2 := Aside0.mk (KeepBut.blk hk (g' := g2) BK2n.out NE82.out Z37)
  have HB6 := Aside0.mk hb
  clear HO54 HO56 HI5 HB5 BK5n BK2n hi hb hk
  refine hK.out _ _ ⟨bc mb5 0, bc mb5 1, bc mb5 2, bc mb5 3, bc mb5 4, bc mb5 5, bc mb5 6⟩ (fun hHeld => ?_)
  clear hK K
  refine norm_ (a' := ?_) ?_ ?_
  rotate_left
  · show Act.put _ (some 15) _ = _
    simp only [Act.put, setIfInBounds_toArray, set_cons_zero, set_cons_succ, i64_w, i32_w]
    rfl
  have hcz_0 : w7.cell? ⟨g2, 0, none⟩ = some (.int .i64 0) := bc mb2 0
  have hcz_1 : w7.cell? ⟨g2, 1, none⟩ = some (.int .i64 0) := bc mb2 1
  have hcz_2 : w7.cell? ⟨g2, 2, none⟩ = some (.int .i64 0) := bc mb2 2
  have hcz_3 : w7.cell? ⟨g2, 3, none⟩ = some (.int .i64 0) := bc mb2 3
  have hcz_4 : w7.cell? ⟨g2, 4, none⟩ = some (.slice none 0 0) := bc mb2 4
  have hcz_5 : w7.cell? ⟨g2, 5, none⟩ = some (.int .i64 0) := bc mb2 5
  have hcz_6 : w7.cell? ⟨g2, 6, none⟩ = some (.slice none 0 0) := bc mb2 6
  have hfz_0 := blk_frozen mb2.out 0
  have hfz_1 := blk_frozen mb2.out 1
  have hfz_2 := blk_frozen mb2.out 2
  have hfz_3 := blk_frozen mb2.out 3
  have hfz_4 := blk_frozen mb2.out 4
  have hfz_5 := blk_frozen mb2.out 5
  have hfz_6 := blk_frozen mb2.out 6
  refine last_ (i := 5) (N := none) (bA 7 63) rfl rfl (one_of HT_.out Z92) Z19 (fun K hK => ?_)
  refine skip_ (w1 := ?_) Z63 rfl ?_ ?_
  rotate_left
  · go_simp
    rfl
  refine hK.out _ _ ?_
  clear hK K
  refine pure_ (i := 6) (N := (some 3)) (v := ?_) (a' := ?_) (bA 7 127) rfl rfl (any_of HT_.out Z92) (fun _ _ _ h => h) (Or.inl ⟨Z63, ?_⟩) ?_ ?_
  rotate_left
  · intro w'
    go_simp
    with_reducible rfl
  rotate_left
  · simp only [Act.put, setIfInBounds_toArray, set_cons_zero, set_cons_succ, i64_w, i32_w]
    rfl
  refine done_ (done_of HT_.out Z92) ?_
  try go_wp2
  refine bodyPost_ret (results_ct rfl _ _ g2 28 #[.int .i64 x1, .int .i64 x2, .int .i64 x3, .int .i64 x4, .slice Ao4 x5.length co4, .int .i64 x6, .slice Ao6 x7.length co6] (0, 0) _ rfl (by refine blk_put (cs := #[.int .i64 x1, .int .i64 x2, .int .i64 x3, .int .i64 x4, .slice Ao4 x5.length co4, .int .i64 x6, .slice none 0 0]) ?_ 6 _ rfl; refine blk_put (cs := #[.int .i64 x1, .int .i64 x2, .int .i64 x3, .int .i64 x4, .slice Ao4 x5.length co4, .int .i64 0, .slice none 0 0]) ?_ 5 _ rfl; refine blk_put (cs := #[.int .i64 x1, .int .i64 x2, .int .i64 x3, .int .i64 x4, .slice none 0 0, .int .i64 0, .slice none 0 0]) ?_ 4 _ rfl; refine blk_put (cs := #[.int .i64 x1, .int .i64 x2, .int .i64 x3, .int .i64 0, .slice none 0 0, .int .i64 0, .slice none 0 0]) ?_ 3 _ rfl; refine blk_put (cs := #[.int .i64 x1, .int .i64 x2, .int .i64 0, .int .i64 0, .slice none 0 0, .int .i64 0, .slice none 0 0]) ?_ 2 _ rfl; refine blk_put (cs := #[.int .i64 x1, .int .i64 0, .int .i64 0, .int .i64 0, .slice none 0 0, .int .i64 0, .slice none 0 0]) ?_ 1 _ rfl; refine blk_put (cs := #[.int .i64 0, .int .i64 0, .int .i64 0, .int .i64 0, .slice none 0 0, .int .i64 0, .slice none 0 0]) ?_ 0 _ rfl; exact mb2.out) Try.underlying28 rfl Z92) rfl ?_
  exact ⟨_, _, rfl, (by exact Kd.R_mono (Kd.R_far (p := ⟨g2, 6, none⟩) (Kd.R_far (p := ⟨g2, 5, none⟩) (Kd.R_far (p := ⟨g2, 4, none⟩) (Kd.R_far (p := ⟨g2, 3, none⟩) (Kd.R_far (p := ⟨g2, 2, none⟩) (Kd.R_far (p := ⟨g2, 1, none⟩) (Kd.R_far (p := ⟨g2, 0, none⟩) (Kd.R_types m4_.out mb2.out Z19) (fun _ hk => hk.2) _) (fun _ hk => hk.2) _) (fun _ hk => hk.2) _) (fun _ hk => hk.2) _) (fun _ hk => hk.2) _) (fun _ hk => hk.2) _) (fun _ hk => hk.2) _) (fun _ h_ => h_.1)), (by exact Kd.R_mono (Kd.R_far (p := ⟨g2, 6, none⟩) (Kd.R_far (p := ⟨g2, 5, none⟩) (Kd.R_far (p := ⟨g2, 4, none⟩) (Kd.R_far (p := ⟨g2, 3, none⟩) (Kd.R_far (p := ⟨g2, 2, none⟩) (Kd.R_far (p := ⟨g2, 1, none⟩) (Kd.R_far (p := ⟨g2, 0, none⟩) (Kd.R_types m6_.out mb2.out Z19) (fun _ hk => hk.2) _) (fun _ hk => hk.2) _) (fun _ hk => hk.2) _) (fun _ hk => hk.2) _) (fun _ hk => hk.2) _) (fun _ hk => hk.2) _) (fun _ hk => hk.2) _) (fun _ h_ => h_.1)), (below_set (below_set (below_set (below_set (below_set (below_set (below_set HB6.out GE2.out) GE2.out) GE2.out) GE2.out) GE2.out) GE2.out) GE2.out)⟩


/-! ### impl_in: function 23 -/
def impl_in.f (a0 : Int) (a1 : Int) (a2 : Int) : Option (Bool) := if a0 ≥ a1 then (some (decide (a0 ≤ a2))) else (some false)
set_option maxHeartbeats 8000000 in
set_option maxRecDepth 100000 in
theorem impl_in.calls (a0 : Int) (a1 : Int) (a2 : Int) (r : Bool) (w : World) (h : impl_in.f a0 a1 a2 = some r) :
    Calls Try.prog 23 #[.int .i64 a0, .int .i64 a1, .int .i64 a2] w fun e w' => e = .returned (.bool r) ∧ Drawn0 w w' := by
  have H : (if a0 ≥ a1 then (some (decide (a0 ≤ a2))) else (some false)) = some r := h
  clear h
  by_cases c4 : a0 ≥ a1
  · rw [if_pos c4] at H
    have c4b0 : decide (a1 ≤ a0) = true := decide_eq_true c4
    clear c4
    obtain rfl := Option.some.inj H
    go_enter Try.func23, Try.ntmps23
    go_wp2
    go_ret
    exact ⟨Z91, Z17⟩
  · rw [if_neg c4] at H
    have c4b0 : decide (a1 ≤ a0) = false := decide_eq_false c4
    clear c4
    obtain rfl := Option.some.inj H
    go_enter Try.func23, Try.ntmps23
    go_wp2
    go_ret
    exact ⟨Z91, Z17⟩

/-! ### cmp_isNaN_int: function 97 -/
def cmp_isNaN_int.f (a0 : Int) : Option (Bool) := some (a0 != a0)
set_option maxHeartbeats 8000000 in
set_option maxRecDepth 100000 in
theorem cmp_isNaN_int.calls (a0 : Int) (r : Bool) (w : World) (h : cmp_isNaN_int.f a0 = some r) :
    Calls Try.prog 97 #[.int .i64 a0] w fun e w' => e = .returned (.bool r) ∧ Drawn0 w w' := by
  have H : (some (a0 != a0)) = some r := h
  clear h
  obtain rfl := Option.some.inj H
  go_enter Try.func97, Try.ntmps97
  go_wp2
  go_ret
  exact ⟨Z91, Z17⟩

/-! ### cmp_Less_int: function 82 -/
def cmp_Less_int.f (a0 : Int) (a1 : Int) : Option (Bool) := (cmp_isNaN_int.f a0).bind fun t365 => (if t365 = true then ((cmp_isNaN_int.f a1).bind fun t366 => (if t366 = true then (some (decide (a0 < a1))) else (some true))) else (some (decide (a0 < a1))))
set_option maxHeartbeats 8000000 in
set_option maxRecDepth 100000 in
theorem cmp_Less_int.calls (a0 : Int) (a1 : Int) (r : Bool) (w : World) (h : cmp_Less_int.f a0 a1 = some r) :
  Calls Try.prog 82 #[.int .i64 a0, .int .i64 a1] w fun e w' => e = .returned (.bool r) ∧ Drawn0 w w' := by
 have H : ((cmp_isNaN_int.f a0).bind fun t365 => (if t365 = true then ((cmp_isNaN_int.f a1).bind fun t366 => (if t366 = true then (some (decide (a0 < a1))) else (some true))) else (some (decide (a0 < a1))))) = some r := h
 clear h
 replace H := Option.bind_eq_some_iff.mp H
 obtain ⟨t365, A30, H⟩ := H
 try dsimp only at H
 have A3 := Aside0.mk A30
 clear A30
 by_cases c4 : t365 = true
 ·
  subst c4
  rw [if_pos rfl] at H
  replace H := Option.bind_eq_some_iff.mp H
  obtain ⟨t366, A50, H⟩ := H
  try dsimp only at H
  have A5 := Aside0.mk A50
  clear A50
  by_cases c6 : t366 = true
  ·
   subst c6
   rw [if_pos rfl] at H
   obtain rfl := Option.some.inj H
   go_enter Try.func82, Try.ntmps82
   go_wp2_with (first | ((with_reducible refine gate_callee (f := 97) rfl ?_); refine goesL_ (some 6) rfl rfl Try.func97 Z92 rfl #[.int .i64 a0] rfl Z89 ?_; (with_reducible refine (cmp_isNaN_int.calls a0 true _ A3.out).mono ?_); rintro e w' ⟨rfl, ⟨nd, rfl⟩⟩; refine ⟨_, rfl, ?_⟩) | (go_at_call 97; (with_reducible refine (cmp_isNaN_int.calls a1 true _ A5.out).mono ?_); rintro e w' ⟨rfl, ⟨nd, rfl⟩⟩))
   go_ret
   exact ⟨Z91, Z17⟩
  replace c6 := Bool.eq_false_iff.mpr c6
  subst c6
  rw [if_neg (show ¬ (false = true) from Z19)] at H
  obtain rfl := Option.some.inj H
  go_enter Try.func82, Try.ntmps82
  go_wp2_with (first | ((with_reducible refine gate_callee (f := 97) rfl ?_); refine goesL_ (some 6) rfl rfl Try.func97 Z92 rfl #[.int .i64 a0] rfl Z89 ?_; (with_reducible refine (cmp_isNaN_int.calls a0 true _ A3.out).mono ?_); rintro e w' ⟨rfl, ⟨nd, rfl⟩⟩; refine ⟨_, rfl, ?_⟩) | (go_at_call 97; (with_reducible refine (cmp_isNaN_int.calls a1 false _ A5.out).mono ?_); rintro e w' ⟨rfl, ⟨nd, rfl⟩⟩))
  go_ret
  exact ⟨Z91, Z17⟩
 replace c4 := Bool.eq_false_iff.mpr c4
 subst c4
 rw [if_neg (show ¬ (false = true) from Z19)] at H
 obtain rfl := Option.some.inj H
 go_enter Try.func82, Try.ntmps82
 go_wp2_with (first | ((with_reducible refine gate_callee (f := 97) rfl ?_); refine goesL_ (some 6) rfl rfl Try.func97 Z92 rfl #[.int .i64 a0] rfl Z89 ?_; (with_reducible refine (cmp_isNaN_int.calls a0 false _ A3.out).mono ?_); rintro e w' ⟨rfl, ⟨nd, rfl⟩⟩; refine ⟨_, rfl, ?_⟩))
 go_ret
 exact ⟨Z91, Z17⟩

/-! ### slices_isNaN_int: function 83 -/
def slices_isNaN_int.f (a0 : Int) : Option (Bool) := some (a0 != a0)
set_option maxHeartbeats 8000000 in
set_option maxRecDepth 100000 in
theorem slices_isNaN_int.calls (a0 : Int) (r : Bool) (w : World) (h : slices_isNaN_int.f a0 = some r) :
    Calls Try.prog 83 #[.int .i64 a0] w fun e w' => e = .returned (.bool r) ∧ Drawn0 w w' := by
  have H : (some (a0 != a0)) = some r := h
  clear h
  obtain rfl := Option.some.inj H
  go_enter Try.func83, Try.ntmps83
  go_wp2
  go_ret
  exact ⟨Z91, Z17⟩

/-! ### slices_BinarySearch_int_int: function 55 -/
def slices_BinarySearch_int_int.l0 : Nat → List Int → Int → Int → Int → Int → Option (Int × Bool)
 | 0, _, _, _, _, _ => none
 | k + 1, x0, x1, x6, x7, x8 => if x7 < x8 then (if 0 ≤ (wrap64 ((IntKind.u64.wrap (wrap64 (x7 + x8))) / 2)) then (if (wrap64 ((IntKind.u64.wrap (wrap64 (x7 + x8))) / 2)) < (x0.length : Int) then ((cmp_Less_int.f (rd x0 (wrap64 ((IntKind.u64.wrap (wrap64 (x7 + x8))) / 2))) x1).bind fun t368 => (if t368 = true then (slices_BinarySearch_int_int.l0 k x0 x1 x6 (wrap64 ((wrap64 ((IntKind.u64.wrap (wrap64 (x7 + x8))) / 2)) + 1)) x8) else (slices_BinarySearch_int_int.l0 k x0 x1 x6 x7 (wrap64 ((IntKind.u64.wrap (wrap64 (x7 + x8))) / 2))))) else (none)) else (none)) else (if x7 < x6 then (if 0 ≤ x7 then (if x7 < (x0.length : Int) then (if (rd x0 x7) = x1 then (some (x7, true)) else ((slices_isNaN_int.f (rd x0 x7)).bind fun t371 => (if t371 = true then ((slices_isNaN_int.f x1).bind fun t372 => (some (x7, t372))) else (some (x7, false))))) else (none)) else (none)) else (some (x7, false)))
def slices_BinarySearch_int_int.f (k : Nat) (l0 : List Int) (a1 : Int) : Option (Int × Bool) := slices_BinarySearch_int_int.l0 k l0 a1 (l0.length : Int) 0 (l0.length : Int)
theorem slices_BinarySearch_int_int.mono_l : ∀ k, (∀ y0 y1 y2 y3 y4, LeO (slices_BinarySearch_int_int.l0 k y0 y1 y2 y3 y4) (slices_BinarySearch_int_int.l0 (k + 1) y0 y1 y2 y3 y4))
 | 0 => fun _ _ _ _ _ r h => by simp [slices_BinarySearch_int_int.l0] at h | k + 1 => by
  have ih0 := slices_BinarySearch_int_int.mono_l k
  ·
   intro y0 y1 y2 y3 y4
   unfold slices_BinarySearch_int_int.l0
   repeat' first
   | with_reducible first | exact ih0 .. | exact LeO.refl _ | exact LeO.none _ | refine LeO.ite ?_ ?_ | refine LeO.bind ?_ (fun _ => ?_)
   | exact ih0 .. | exact LeO.none _ | refine LeO.ite ?_ ?_ | refine LeO.bind ?_ (fun _ => ?_)
theorem slices_BinarySearch_int_int.mono : ∀ a0 a1 k, LeO (slices_BinarySearch_int_int.f k a0 a1) (slices_BinarySearch_int_int.f (k + 1) a0 a1) := by
 intro a0 a1 k
 have ih0 := slices_BinarySearch_int_int.mono_l k
 unfold slices_BinarySearch_int_int.f
 repeat' first
   | with_reducible first | exact ih0 .. | exact LeO.refl _ | exact LeO.none _ | refine LeO.ite ?_ ?_ | refine LeO.bind ?_ (fun _ => ?_)
   | exact ih0 .. | exact LeO.none _ | refine LeO.ite ?_ ?_ | refine LeO.bind ?_ (fun _ => ?_)
set_option maxHeartbeats 8000000 in
set_option maxRecDepth 100000 in
theorem slices_BinarySearch_int_int.calls (k : Nat) (A0 : Option Addr) (c0 : Nat) (l0 : List Int) (a1 : Int) (r1 : Int) (r2 : Bool) (w : World) (hr0 : Kd.C (Kd.int .i64) w A0 l0.length l0) (hc0 : l0.length ≤ c0) (h : slices_BinarySearch_int_int.f k l0 a1 = some (r1, r2)) :
  Calls Try.prog 55 #[.slice A0 l0.length c0, .int .i64 a1] w fun e w' => e = .returned (.tuple #[.int .i64 r1, .bool r2]) ∧ Drawn0 w w' := by
 have HR0 := Aside0.mk hr0
 have HC0 := Aside0.mk hc0
 clear hr0 hc0
 have H : (slices_BinarySearch_int_int.l0 k l0 a1 (l0.length : Int) 0 (l0.length : Int)) = some (r1, r2) := h
 clear h
 have H' := Aside0.mk H
 clear H
 go_enter Try.func55, Try.ntmps55
 go_wp2
 go_loopg [7, 8] k (fun kq v7 v8 w' => ∃ (x7_1 : Int) (x8_1 : Int), v7 = .int .i64 x7_1 ∧ v8 = .int .i64 x8_1 ∧ Aside0 (slices_BinarySearch_int_int.l0 kq l0 a1 (l0.length : Int) x7_1 x8_1 = some (r1, r2)) ∧ Aside0 (kq ≤ k) ∧ Drawn0 w w')
 case atStart => exact ⟨(0), ((l0.length : Int)), Z91, Z91, H', ⟨Nat.le_refl _⟩, Z17⟩
 case round =>
  clear H'
  try clear p2
  obtain ⟨x7_1, x8_1, rfl, rfl, HA, HK1, ⟨m1, rfl⟩⟩ := hrel
  cases gk with
  | zero => exact absurd HA.out (by simp [slices_BinarySearch_int_int.l0])
  | succ k1 =>
   have H := HA.out
   clear HA
   simp only [slices_BinarySearch_int_int.l0] at H
   by_cases c3 : x7_1 < x8_1
   ·
    rw [if_pos c3] at H
    have c3b0 : decide (x7_1 < x8_1) = true := decide_eq_true c3
    clear c3
    obtain ⟨ji4, hji4⟩ : ∃ j_ : Int, (wrap64 ((IntKind.u64.wrap (wrap64 (x7_1 + x8_1))) / 2)) = j_ := ⟨_, rfl⟩
    replace H : (if 0 ≤ (ji4) then (if (ji4) < (l0.length : Int) then ((cmp_Less_int.f (rd l0 (ji4)) a1).bind fun t368 => (if t368 = true then (slices_BinarySearch_int_int.l0 k1 l0 a1 (l0.length : Int) (wrap64 ((ji4) + 1)) x8_1) else (slices_BinarySearch_int_int.l0 k1 l0 a1 (l0.length : Int) x7_1 ji4))) else (none)) else (none)) = some (r1, r2) := by first | (rw [hji4] at H; exact H) | (simp only [hji4] at H ⊢; exact H)
    have hji4w : (IntKind.i64.wrap ((IntKind.u64.wrap (wrap64 (x7_1 + x8_1))) / 2)) = ji4 := (i64_w _).trans hji4
    by_cases c5 : 0 ≤ (ji4)
    ·
     rw [if_pos c5] at H
     have c5b0 : decide (0 ≤ (ji4)) = true := decide_eq_true c5
     clear c5
     by_cases c6 : (ji4) < (l0.length : Int)
     ·
      rw [if_pos c6] at H
      have c6b0 : decide ((ji4) < (l0.length : Int)) = true := decide_eq_true c6
      clear c6
      replace H := Option.bind_eq_some_iff.mp H
      obtain ⟨t368, A70, H⟩ := H
      try dsimp only at H
      have A7 := Aside0.mk A70
      clear A70
      by_cases c8 : t368 = true
      ·
       subst c8
       rw [if_pos rfl] at H
       have H' := Aside0.mk H
       clear H
       have p367 : 0 ≤ ((ji4) : Int) := of_decide_eq_true Z6
       have q367 : (ji4) < (l0.length : Int) := of_decide_eq_true Z6
       obtain ⟨ad367, e367, hx367_0⟩ := Kd.at_int HR0.out (ji4) p367 q367
       cases e367
       replace p367 := eq_true p367
       replace q367 := eq_true q367
       go_wp2_with (first | ((with_reducible refine gate_callee (f := 82) rfl ?_); refine goesL_ (some 27) rfl rfl Try.func82 Z92 rfl #[.int .i64 (rd l0 (ji4)), .int .i64 a1] rfl Z99 ?_; (with_reducible refine (cmp_Less_int.calls (rd l0 (ji4)) a1 true _ A7.out).mono ?_); rintro e w' ⟨rfl, ⟨nd, rfl⟩⟩; refine ⟨_, rfl, ?_⟩))
       go_roundg k1
       case measure => have := HK1.out; omega
       case rel => exact ⟨(wrap64 ((ji4) + 1)), (x8_1), Z103, Z91, H', ⟨by have := HK1.out; omega⟩, Z17⟩
      replace c8 := Bool.eq_false_iff.mpr c8
      subst c8
      rw [if_neg (show ¬ (false = true) from Z19)] at H
      have H' := Aside0.mk H
      clear H
      have p367 : 0 ≤ ((ji4) : Int) := of_decide_eq_true Z6
      have q367 : (ji4) < (l0.length : Int) := of_decide_eq_true Z6
      obtain ⟨ad367, e367, hx367_0⟩ := Kd.at_int HR0.out (ji4) p367 q367
      cases e367
      replace p367 := eq_true p367
      replace q367 := eq_true q367
      go_wp2_with (first | ((with_reducible refine gate_callee (f := 82) rfl ?_); refine goesL_ (some 27) rfl rfl Try.func82 Z92 rfl #[.int .i64 (rd l0 (ji4)), .int .i64 a1] rfl Z99 ?_; (with_reducible refine (cmp_Less_int.calls (rd l0 (ji4)) a1 false _ A7.out).mono ?_); rintro e w' ⟨rfl, ⟨nd, rfl⟩⟩; refine ⟨_, rfl, ?_⟩))
      go_roundg k1
      case measure => have := HK1.out; omega
      case rel => exact ⟨(x7_1), (ji4), Z91, Z103, H', ⟨by have := HK1.out; omega⟩, Z17⟩
     rw [if_neg c6] at H
     exact absurd H Z37
    rw [if_neg c5] at H
    exact absurd H Z37
   rw [if_neg c3] at H
   have c3b0 : decide (x7_1 < x8_1) = false := decide_eq_false c3
   clear c3
   by_cases c9 : x7_1 < (l0.length : Int)
   ·
    rw [if_pos c9] at H
    have c9b0 : decide (x7_1 < (l0.length : Int)) = true := decide_eq_true c9
    clear c9
    by_cases c10 : 0 ≤ x7_1
    ·
     rw [if_pos c10] at H
     have c10b0 : decide (0 ≤ x7_1) = true := decide_eq_true c10
     clear c10
     by_cases c11 : x7_1 < (l0.length : Int)
     ·
      rw [if_pos c11] at H
      have c11b0 : decide (x7_1 < (l0.length : Int)) = true := decide_eq_true c11
      clear c11
      by_cases c12 : (rd l0 x7_1) = a1
      ·
       rw [if_pos c12] at H
       have c12b0 : ((rd l0 x7_1) == a1) = true := beq_iff_eq.mpr c12
       have c12b1 : ((rd l0 x7_1) != a1) = false := bne_eq_false_iff_eq.mpr c12
       clear c12
       simp only [Option.some.injEq, Prod.mk.injEq] at H
       obtain ⟨rfl, rfl⟩ := H
       have p369 : 0 ≤ (x7_1 : Int) := of_decide_eq_true Z6
       have q369 : x7_1 < (l0.length : Int) := of_decide_eq_true Z6
       obtain ⟨ad369, e369, hx369_0⟩ := Kd.at_int HR0.out x7_1 p369 q369
       cases e369
       replace p369 := eq_true p369
       replace q369 := eq_true q369
       go_wp2
       go_ret2
       exact ⟨Z91, Z17⟩
      rw [if_neg c12] at H
      have c12b0 : ((rd l0 x7_1) == a1) = false := beq_eq_false_iff_ne.mpr c12
      have c12b1 : ((rd l0 x7_1) != a1) = true := bne_iff_ne.mpr c12
      replace H := Option.bind_eq_some_iff.mp H
      obtain ⟨t371, A130, H⟩ := H
      try dsimp only at H
      have A13 := Aside0.mk A130
      clear A130
      by_cases c14 : t371 = true
      ·
       subst c14
       rw [if_pos rfl] at H
       replace H := Option.bind_eq_some_iff.mp H
       obtain ⟨t372, A150, H⟩ := H
       try dsimp only at H
       have A15 := Aside0.mk A150
       clear A150
       simp only [Option.some.injEq, Prod.mk.injEq] at H
       obtain ⟨rfl, rfl⟩ := H
       have p369 : 0 ≤ (x7_1 : Int) := of_decide_eq_true Z6
       have q369 : x7_1 < (l0.length : Int) := of_decide_eq_true Z6
       obtain ⟨ad369, e369, hx369_0⟩ := Kd.at_int HR0.out x7_1 p369 q369
       cases e369
       replace p369 := eq_true p369
       replace q369 := eq_true q369
       have p370 : 0 ≤ (x7_1 : Int) := of_decide_eq_true Z6
       have q370 : x7_1 < (l0.length : Int) := of_decide_eq_true Z6
       obtain ⟨ad370, e370, hx370_0⟩ := Kd.at_int HR0.out x7_1 p370 q370
       obtain rfl : ad369 = ad370 := (by injection e370)
       replace p370 := eq_true p370
       replace q370 := eq_true q370
       go_wp2_with (first | (go_at_call 83; (with_reducible refine (slices_isNaN_int.calls (rd l0 x7_1) true _ A13.out).mono ?_); rintro e w' ⟨rfl, ⟨nd, rfl⟩⟩) | (go_at_call 83; (with_reducible refine (slices_isNaN_int.calls a1 t372 _ A15.out).mono ?_); rintro e w' ⟨rfl, ⟨nd, rfl⟩⟩))
       go_ret2
       exact ⟨Z91, Z17⟩
      replace c14 := Bool.eq_false_iff.mpr c14
      subst c14
      rw [if_neg (show ¬ (false = true) from Z19)] at H
      simp only [Option.some.injEq, Prod.mk.injEq] at H
      obtain ⟨rfl, rfl⟩ := H
      have p369 : 0 ≤ (x7_1 : Int) := of_decide_eq_true Z6
      have q369 : x7_1 < (l0.length : Int) := of_decide_eq_true Z6
      obtain ⟨ad369, e369, hx369_0⟩ := Kd.at_int HR0.out x7_1 p369 q369
      cases e369
      replace p369 := eq_true p369
      replace q369 := eq_true q369
      have p370 : 0 ≤ (x7_1 : Int) := of_decide_eq_true Z6
      have q370 : x7_1 < (l0.length : Int) := of_decide_eq_true Z6
      obtain ⟨ad370, e370, hx370_0⟩ := Kd.at_int HR0.out x7_1 p370 q370
      obtain rfl : ad369 = ad370 := (by injection e370)
      replace p370 := eq_true p370
      replace q370 := eq_true q370
      go_wp2_with (first | (go_at_call 83; (with_reducible refine (slices_isNaN_int.calls (rd l0 x7_1) false _ A13.out).mono ?_); rintro e w' ⟨rfl, ⟨nd, rfl⟩⟩))
      go_ret2
      exact ⟨Z91, Z17⟩
     rw [if_neg c11] at H
     exact absurd H Z37
    rw [if_neg c10] at H
    exact absurd H Z37
   rw [if_neg c9] at H
   have c9b0 : decide (x7_1 < (l0.length : Int)) = false := decide_eq_false c9
   clear c9
   simp only [Option.some.injEq, Prod.mk.injEq] at H
   obtain ⟨rfl, rfl⟩ := H
   go_wp2
   go_ret2
   exact ⟨Z91, Z17⟩

/-! ### impl_below: function 24 -/
def impl_below.f (k : Nat) (l0 : List Int) (a1 : Int) : Option (Int) := (slices_BinarySearch_int_int.f k l0 a1).bind fun bt373 => (some bt373.1)
theorem impl_below.mono : ∀ a0 a1 k, LeO (impl_below.f k a0 a1) (impl_below.f (k + 1) a0 a1) := by
  intro a0 a1 k
  unfold impl_below.f
  repeat' first
      | with_reducible first | exact slices_BinarySearch_int_int.mono .. | exact LeO.refl _ | exact LeO.none _ | refine LeO.ite ?_ ?_ | refine LeO.bind ?_ (fun _ => ?_)
      | exact slices_BinarySearch_int_int.mono .. | exact LeO.none _ | refine LeO.ite ?_ ?_ | refine LeO.bind ?_ (fun _ => ?_)
set_option maxHeartbeats 8000000 in
set_option maxRecDepth 100000 in
theorem impl_below.calls (k : Nat) (A0 : Option Addr) (c0 : Nat) (l0 : List Int) (a1 : Int) (r : Int) (w : World) (hr0 : Kd.C (Kd.int .i64) w A0 l0.length l0) (hc0 : l0.length ≤ c0) (h : impl_below.f k l0 a1 = some r) :
    Calls Try.prog 24 #[.slice A0 l0.length c0, .int .i64 a1] w fun e w' => e = .returned (.int .i64 r) ∧ Drawn0 w w' := by
  have HR0 := Aside0.mk hr0
  have HC0 := Aside0.mk hc0
  clear hr0 hc0
  have H : ((slices_BinarySearch_int_int.f k l0 a1).bind fun bt373 => (some bt373.1)) = some r := h
  clear h
  replace H := Option.bind_eq_some_iff.mp H
  obtain ⟨⟨t373, t374⟩, A30, H⟩ := H
  try dsimp only at H
  have A3 := Aside0.mk A30
  clear A30
  obtain rfl := Option.some.inj H
  go_enter Try.func24, Try.ntmps24
  go_wp2_with (first | ((with_reducible refine gate_callee (f := 55) rfl ?_); refine goesL_ (some 10) rfl rfl Try.func55 Z92 rfl #[.slice A0 l0.length c0, .int .i64 a1] rfl Z89 ?_; (with_reducible refine (slices_BinarySearch_int_int.calls k _ _ l0 a1 t373 t374 _ ?side1 ?side2 A3.out).mono ?_); (case side1 => exact Z54); (case side2 => exact HC0.out); rintro e w' ⟨rfl, ⟨nd, rfl⟩⟩; refine ⟨_, rfl, ?_⟩))
  go_ret
  exact ⟨Z91, Z17⟩

/-! ### impl_limitOk: function 79 -/
def impl_limitOk.f (a0 : Int) : Option (Bool) := (impl_in.f a0 1 100000).bind fun t375 => (some t375)
set_option maxHeartbeats 8000000 in
set_option maxRecDepth 100000 in
theorem impl_limitOk.calls (a0 : Int) (r : Bool) (w : World) (h : impl_limitOk.f a0 = some r) :
    Calls Try.prog 79 #[.int .i64 a0] w fun e w' => e = .returned (.bool r) ∧ Drawn0 w w' := by
  have H : ((impl_in.f a0 1 100000).bind fun t375 => (some t375)) = some r := h
  clear h
  replace H := Option.bind_eq_some_iff.mp H
  obtain ⟨t375, A20, H⟩ := H
  try dsimp only at H
  have A2 := Aside0.mk A20
  clear A20
  obtain rfl := Option.some.inj H
  go_enter Try.func79, Try.ntmps79
  go_wp2_with (first | ((with_reducible refine gate_callee (f := 23) rfl ?_); refine goesL_ (some 4) rfl rfl Try.func23 Z92 rfl #[.int .i64 a0, .int .i64 1, .int .i64 100000] rfl Z89 ?_; (with_reducible refine (impl_in.calls a0 1 100000 t375 _ A2.out).mono ?_); rintro e w' ⟨rfl, ⟨nd, rfl⟩⟩; refine ⟨_, rfl, ?_⟩))
  go_ret
  exact ⟨Z91, Z17⟩

/-! ### impl_WidthFor: function 49 -/
mutual
def impl_WidthFor.j0 : Nat → Int → Int → Bool → Option (Int × Bool)
 | 0, _, _, _ => none
 | k + 1, x0, x1, x14 => if x14 = true then (some (0, false)) else (impl_WidthFor.l0 k x0 x1 0)
def impl_WidthFor.l0 : Nat → Int → Int → Int → Option (Int × Bool)
 | 0, _, _, _ => none
 | k + 1, x0, x1, x6 => if 0 ≤ (wrap64 (x6 + 1)) then (if (shl .i64 (mx x0 1) (wrap64 (x6 + 1))) ≤ x1 then (impl_WidthFor.l0 k x0 x1 (wrap64 (x6 + 1))) else (some (x6, true))) else (none)
end
def impl_WidthFor.f (k : Nat) (a0 : Int) (a1 : Int) : Option (Int × Bool) := (impl_in.f a0 0 60).bind fun t376 => (if t376 = true then ((impl_limitOk.f a1).bind fun t377 => (impl_WidthFor.j0 k a0 a1 (!t377))) else (impl_WidthFor.j0 k a0 a1 true))
theorem impl_WidthFor.mono_l : ∀ k, (∀ y0 y1 y2, LeO (impl_WidthFor.j0 k y0 y1 y2) (impl_WidthFor.j0 (k + 1) y0 y1 y2)) ∧ (∀ y0 y1 y2, LeO (impl_WidthFor.l0 k y0 y1 y2) (impl_WidthFor.l0 (k + 1) y0 y1 y2))
 | 0 => ⟨fun _ _ _ r h => by simp [impl_WidthFor.j0] at h, fun _ _ _ r h => by simp [impl_WidthFor.l0] at h⟩ | k + 1 => by
  obtain ⟨ih0, ih1⟩ := impl_WidthFor.mono_l k
  refine ⟨?_, ?_⟩
  ·
   intro y0 y1 y2
   unfold impl_WidthFor.j0
   repeat' first
   | with_reducible first | exact ih0 .. | exact ih1 .. | exact LeO.refl _ | exact LeO.none _ | refine LeO.ite ?_ ?_ | refine LeO.bind ?_ (fun _ => ?_)
   | exact ih0 .. | exact ih1 .. | exact LeO.none _ | refine LeO.ite ?_ ?_ | refine LeO.bind ?_ (fun _ => ?_)
  intro y0 y1 y2
  unfold impl_WidthFor.l0
  repeat' first
  | with_reducible first | exact ih0 .. | exact ih1 .. | exact LeO.refl _ | exact LeO.none _ | refine LeO.ite ?_ ?_ | refine LeO.bind ?_ (fun _ => ?_)
  | exact ih0 .. | exact ih1 .. | exact LeO.none _ | refine LeO.ite ?_ ?_ | refine LeO.bind ?_ (fun _ => ?_)
theorem impl_WidthFor.mono : ∀ a0 a1 k, LeO (impl_WidthFor.f k a0 a1) (impl_WidthFor.f (k + 1) a0 a1) := by
 intro a0 a1 k
 obtain ⟨ih0, ih1⟩ := impl_WidthFor.mono_l k
 unfold impl_WidthFor.f
 repeat' first
   | with_reducible first | exact ih0 .. | exact ih1 .. | exact LeO.refl _ | exact LeO.none _ | refine LeO.ite ?_ ?_ | refine LeO.bind ?_ (fun _ => ?_)
   | exact ih0 .. | exact ih1 .. | exact LeO.none _ | refine LeO.ite ?_ ?_ | refine LeO.bind ?_ (fun _ => ?_)
set_option maxHeartbeats 8000000 in
set_option maxRecDepth 100000 in
theorem impl_WidthFor.calls (k : Nat) (a0 : Int) (a1 : Int) (r1 : Int) (r2 : Bool) (w : World) (h : impl_WidthFor.f k a0 a1 = some (r1, r2)) :
  Calls Try.prog 49 #[.int .i64 a0, .int .i64 a1] w fun e w' => e = .returned (.tuple #[.int .i64 r1, .bool r2]) ∧ Below w.heap.size w w' := by
 have HB := Aside0.mk (Below.refl w.heap.size w)
 have H : ((impl_in.f a0 0 60).bind fun t376 => (if t376 = true then ((impl_limitOk.f a1).bind fun t377 => (impl_WidthFor.j0 k a0 a1 (!t377))) else (impl_WidthFor.j0 k a0 a1 true))) = some (r1, r2) := h
 clear h
 have HC3 := Aside0.mk H
 clear H
 go_enter Try.func49, Try.ntmps49
 go_upto_region 1 with (fail)
 go_cut [14] (fun v14 wc => ∃ (kq : Nat) (x14_2 : Bool), v14 = .bool x14_2 ∧ Aside0 (impl_WidthFor.j0 kq a0 a1 x14_2 = some (r1, r2)) ∧ Aside0 (kq ≤ k) ∧ Aside0 (Below w.heap.size w wc))
 case first =>
  have H := HC3.out
  clear HC3
  replace H := Option.bind_eq_some_iff.mp H
  obtain ⟨t376, A40, H⟩ := H
  try dsimp only at H
  have A4 := Aside0.mk A40
  clear A40
  by_cases c5 : t376 = true
  ·
   subst c5
   rw [if_pos rfl] at H
   replace H := Option.bind_eq_some_iff.mp H
   obtain ⟨t377, A60, H⟩ := H
   try dsimp only at H
   have A6 := Aside0.mk A60
   clear A60
   have H' := Aside0.mk H
   clear H
   go_wp2_with (first | ((with_reducible refine gate_callee (f := 23) rfl ?_); refine goesL_ (some 8) rfl rfl Try.func23 Z92 rfl #[.int .i64 a0, .int .i64 0, .int .i64 60] rfl Z89 ?_; (with_reducible refine (impl_in.calls a0 0 60 true _ A4.out).mono ?_); rintro e w' ⟨rfl, ⟨nd, rfl⟩⟩; refine ⟨_, rfl, ?_⟩) | (go_at_call 79; (with_reducible refine (impl_limitOk.calls a1 t377 _ A6.out).mono ?_); rintro e w' ⟨rfl, ⟨nd, rfl⟩⟩))
   go_meet
   case rel => exact ⟨_, (!t377), Z91, H', ⟨Z96⟩, ⟨uN HB⟩⟩
  replace c5 := Bool.eq_false_iff.mpr c5
  subst c5
  rw [if_neg (show ¬ (false = true) from Z19)] at H
  have H' := Aside0.mk H
  clear H
  go_wp2_with (first | ((with_reducible refine gate_callee (f := 23) rfl ?_); refine goesL_ (some 8) rfl rfl Try.func23 Z92 rfl #[.int .i64 a0, .int .i64 0, .int .i64 60] rfl Z89 ?_; (with_reducible refine (impl_in.calls a0 0 60 false _ A4.out).mono ?_); rintro e w' ⟨rfl, ⟨nd, rfl⟩⟩; refine ⟨_, rfl, ?_⟩))
  go_meet
  case rel => exact ⟨_, (true), Z91, H', ⟨Z96⟩, ⟨uN HB⟩⟩
 case rest =>
  clear HC3
  try clear c2
  try clear p2
  try clear c4
  try clear c5
  obtain ⟨kq, x14_2, rfl, HA, HJ2, HB⟩ := hcut
  cases kq with
  | zero => exact absurd HA.out (by simp [impl_WidthFor.j0])
  | succ kj2 =>
   have H := HA.out
   clear HA
   simp only [impl_WidthFor.j0] at H
   by_cases c7 : x14_2 = true
   ·
    subst c7
    rw [if_pos rfl] at H
    simp only [Option.some.injEq, Prod.mk.injEq] at H
    obtain ⟨rfl, rfl⟩ := H
    go_wp2
    go_ret2
    exact ⟨Z90, uN HB⟩
   replace c7 := Bool.eq_false_iff.mpr c7
   subst c7
   rw [if_neg (show ¬ (false = true) from Z19)] at H
   have H' := Aside0.mk H
   clear H
   go_wp2
   go_loopg [6] kj2 (fun kq v6 w' => ∃ (x6_2 : Int), v6 = .int .i64 x6_2 ∧ Aside0 (impl_WidthFor.l0 kq a0 a1 x6_2 = some (r1, r2)) ∧ Aside0 (kq ≤ kj2) ∧ Aside0 (Below w.heap.size w w'))
   case atStart => exact ⟨(0), Z91, H', ⟨Nat.le_refl _⟩, ⟨uN HB⟩⟩
   case round =>
    clear H'
    try clear c2
    try clear p2
    try clear c4
    try clear c5
    try clear c7
    try clear p2
    obtain ⟨x6_2, rfl, HA, HK2, HB⟩ := hrel
    cases gk with
    | zero => exact absurd HA.out (by simp [impl_WidthFor.l0])
    | succ k2 =>
     have H := HA.out
     clear HA
     simp only [impl_WidthFor.l0] at H
     obtain ⟨ji8, hji8⟩ : ∃ j_ : Int, (mx a0 1) = j_ := ⟨_, rfl⟩
     replace H : (if 0 ≤ (wrap64 (x6_2 + 1)) then (if (shl .i64 (ji8) (wrap64 (x6_2 + 1))) ≤ a1 then (impl_WidthFor.l0 k2 a0 a1 (wrap64 (x6_2 + 1))) else (some (x6_2, true))) else (none)) = some (r1, r2) := by first | (rw [hji8] at H; exact H) | (simp only [hji8] at H ⊢; exact H)
     have hji8_ : (if a0 < 1 then 1 else a0) = ji8 := hji8
     obtain ⟨ji9, hji9⟩ : ∃ j_ : Int, (wrap64 (x6_2 + 1)) = j_ := ⟨_, rfl⟩
     replace H : (if 0 ≤ (ji9) then (if (shl .i64 (ji8) (ji9)) ≤ a1 then (impl_WidthFor.l0 k2 a0 a1 ji9) else (some (x6_2, true))) else (none)) = some (r1, r2) := by first | (rw [hji9] at H; exact H) | (simp only [hji9] at H ⊢; exact H)
     have hji9w : (IntKind.i64.wrap (x6_2 + 1)) = ji9 := (i64_w _).trans hji9
     by_cases c10 : 0 ≤ (ji9)
     ·
      rw [if_pos c10] at H
      have c10b0 := eq_true c10
      have c10b1 : decide (0 ≤ (ji9)) = true := decide_eq_true c10
      clear c10
      obtain ⟨ji11, hji11⟩ : ∃ j_ : Int, (shl .i64 (ji8) (ji9)) = j_ := ⟨_, rfl⟩
      replace H : (if (ji11) ≤ a1 then (impl_WidthFor.l0 k2 a0 a1 ji9) else (some (x6_2, true))) = some (r1, r2) := by first | (rw [hji11] at H; exact H) | (simp only [hji11] at H ⊢; exact H)
      have hji11_ : (IntKind.i64.wrap ((ji8) * 2 ^ min (ji9).toNat 64)) = ji11 := hji11
      have hji11z : (ji9) ≤ 64 → (IntKind.i64.wrap ((ji8) * 2 ^ (ji9).toNat)) = ji11 := shl_small hji11
      have hji11y : (wrap64 ((ji8) * 2 ^ min (ji9).toNat 64)) = ji11 := (i64_w _).symm.trans hji11_
      have hji11x : (ji9) ≤ 64 → (wrap64 ((ji8) * 2 ^ (ji9).toNat)) = ji11 := fun h_ => (i64_w _).symm.trans (hji11z h_)
      by_cases c12 : (ji11) ≤ a1
      ·
       rw [if_pos c12] at H
       have c12b0 : decide ((ji11) ≤ a1) = true := decide_eq_true c12
       clear c12
       have H' := Aside0.mk H
       clear H
       go_wp2
       go_roundg k2
       case measure => have := HJ2.out; have := HK2.out; omega
       case rel => exact ⟨(ji9), Z102, H', ⟨by have := HJ2.out; have := HK2.out; omega⟩, ⟨uN HB⟩⟩
      rw [if_neg c12] at H
      have c12b0 : decide ((ji11) ≤ a1) = false := decide_eq_false c12
      clear c12
      simp only [Option.some.injEq, Prod.mk.injEq] at H
      obtain ⟨rfl, rfl⟩ := H
      go_wp2
      go_ret2
      exact ⟨by first | rfl | (simp [errW_none, errW_some] <;> rfl) | (simp only [← hji8, ← hji9, ← hji11]; first | rfl | (simp [errW_none, errW_some] <;> rfl)) | (simp [*, errW_none, errW_some] <;> rfl), uN HB⟩
     rw [if_neg c10] at H
     exact absurd H Z37

/-! ### impl_words: function 80 -/
def impl_words.f (a0 : Int) : Option (Int) := some (wrap64 (Int.tdiv (wrap64 ((wrap64 (a0 + 16)) - 1)) 16))
set_option maxHeartbeats 8000000 in
set_option maxRecDepth 100000 in
theorem impl_words.calls (a0 : Int) (r : Int) (w : World) (h : impl_words.f a0 = some r) :
    Calls Try.prog 80 #[.int .i64 a0] w fun e w' => e = .returned (.int .i64 r) ∧ Drawn0 w w' := by
  have H : (some (wrap64 (Int.tdiv (wrap64 ((wrap64 (a0 + 16)) - 1)) 16))) = some r := h
  clear h
  obtain rfl := Option.some.inj H
  go_enter Try.func80, Try.ntmps80
  go_wp2
  go_ret
  exact ⟨Z91, Z17⟩

/-! ### impl_blank: function 57 -/
def impl_blank.f (a0 : Int) : Option (Int × List Int) := (impl_words.f a0).bind fun t379 => (if 0 ≤ t379 then (if (t379 : Int).toNat ≤ 35184372088832 then (some (a0, (List.replicate (t379 : Int).toNat 0))) else (none)) else (none))
set_option maxHeartbeats 8000000 in
set_option maxRecDepth 100000 in
theorem impl_blank.calls (a0 : Int) (r1 : Int) (r2 : List Int) (w : World) (h : impl_blank.f a0 = some (r1, r2)) :
  Calls Try.prog 57 #[.int .i64 a0] w fun e w' => ∃ v1_ : Value, e = .returned (.agg #[.int .i64 r1, v1_]) ∧ Kd.R (Kd.int .i64) 3 w' w.heap.size (fun _ => True) v1_ r2 ∧ Below w.heap.size w w' := by
 have hu26 := Try.underlying26
 have HB := Aside0.mk (Below.refl w.heap.size w)
 have H : ((impl_words.f a0).bind fun t379 => (if 0 ≤ t379 then (if (t379 : Int).toNat ≤ 35184372088832 then (some (a0, (List.replicate (t379 : Int).toNat 0))) else (none)) else (none))) = some (r1, r2) := h
 clear h
 replace H := Option.bind_eq_some_iff.mp H
 obtain ⟨t379, A20, H⟩ := H
 try dsimp only at H
 have A2 := Aside0.mk A20
 clear A20
 by_cases c3 : 0 ≤ t379
 ·
  rw [if_pos c3] at H
  have c3b0 := eq_true c3
  have c3b1 : decide (0 ≤ t379) = true := decide_eq_true c3
  clear c3
  by_cases c4 : (t379 : Int).toNat ≤ 35184372088832
  ·
   rw [if_pos c4] at H
   have c4b0 := eq_true c4
   have c4b1 : decide ((t379 : Int).toNat ≤ 35184372088832) = true := decide_eq_true c4
   clear c4
   obtain ⟨y380, hy380⟩ : ∃ y_ : List Int, y_ = (List.replicate (t379 : Int).toNat 0) := ⟨_, rfl⟩
   replace H : (some (a0, y380)) = some (r1, r2) := by first | (rw [hy380]; with_reducible exact H) | (have H2_ := (Option.bind_some _ _).symm.trans H; rw [hy380]; with_reducible exact H2_) | (have H2_ := (Option.bind_some _ _).symm.trans H; with_reducible exact H2_) | with_reducible exact H | (rw [hy380]; exact H) | exact H
   have Ny380 := Aside0.mk hy380
   clear hy380
   simp only [Option.some.injEq, Prod.mk.injEq] at H
   obtain ⟨rfl, rfl⟩ := H
   go_enter Try.func57, Try.ntmps57
   go_wp2_with (first | ((with_reducible refine gate_dst (N := 2) rfl ?_); refine box_event ?hg (N := 2) ?hd (cs := #[.int .i64 0, .slice none 0 0]) (t := 26) ?hr ?_; (case hd => rfl); (case hg => rfl); (case hr => exact Z93); intro gb378 hg w5 hbox hb; have BK378 := Aside0.mk (hbox); have GW378 := nG HB hg; have GE378 := nG HB hg; have GI378 := gI GE378; replace HB := Aside0.mk (below_step (uN HB) hb); clear hb hbox hg) | ((with_reducible refine gate_callee (f := 80) rfl ?_); refine goesL_ (some 5) rfl rfl Try.func80 Z92 rfl #[.int .i64 a0] rfl Z89 ?_; (with_reducible refine (impl_words.calls a0 t379 _ A2.out).mono ?_); rintro e w' ⟨rfl, ⟨nd, rfl⟩⟩; refine ⟨_, rfl, ?_⟩; (try (rw [drewN_self w5]; generalize hq_ : World.drewN w5 _ = w5; have n0_ : Aside0 (w5.heap[gb378]? = some (.cells #[.int .i64 0, .slice none 0 0] 26 (0, 0))) := ⟨by rw [← hq_]; exact (uK BK378)⟩; have n1_ : Aside0 (Below w.heap.size w w5) := ⟨by rw [← hq_]; exact Z59⟩; clear BK378 HB hq_; have BK378 := n0_; have HB := n1_; clear n0_ n1_))) | ((with_reducible refine gate_dst (N := 6) rfl ?_); refine Kd.R_make (Kd.int .i64) _ 3 rfl (N := 6) rfl 24 _ _ rfl t379 rfl rfl Try.underlying24 (.int .i64 0) 8 info3 rfl Z19 Z69 0 (ok := fun _ => True) (okp := fun _ => True) rfl (fun _ hk => hk) trivial (of_decide_eq_true Z6) (Nat.le_trans (Nat.mul_le_mul_right _ (of_decide_eq_true Z6 : t379.toNat ≤ 35184372088832)) Z69) (Below.refl _ _) (Nat.le_refl _) ?_; intro v381 w6 ho7 hb hg_ hnew_; clear hg_ hnew_; (first | rw [← Ny380.out] at ho7 | (simp only [Int.reduceToNat] at ho7; rw [← Ny380.out] at ho7)); have HO382 := Aside0.mk (Kd.R_lower ho7 (below_size Z59)); replace BK378 := kB BK378 hb; replace HB := Aside0.mk (below_step Z59 hb); clear hb ho7; obtain ⟨Ao8, co8, eo8⟩ := Kd.R_slice HO382.out; subst eo8; obtain ⟨hcz9_0, hcz9_1, hfz9_0, hfz9_1⟩ := ce2 BK378))
   refine bodyPost_ret (results_cell_row rfl _ _ gb378 26 #[.int .i64 a0, .slice Ao8 y380.length co8] (0, 0) _ rfl (by refine uW ?_; refine blk_put (cs := #[.int .i64 a0, .slice none 0 0]) ?_ 1 _ rfl; refine uW ?_; refine blk_put (cs := #[.int .i64 0, .slice none 0 0]) ?_ 0 _ rfl; refine uW ?_; exact BK378.out) Try.underlying26 rfl Z92) rfl ?_
   exact ⟨_, Z90, by (with_reducible repeat (first | apply Kd.R_alloc | apply Kd.R_drewN | apply Kd.R_drew)); exact Kd.R_mono (Kd.R_far (p := ⟨gb378, 1, none⟩) (Kd.R_far (p := ⟨gb378, 0, none⟩) (Kd.R_types HO382.out BK378.out Z19) (fun _ hk => hk.2) (.int .i64 a0)) (fun _ hk => hk.2) (.slice Ao8 y380.length co8)) (fun _ hk => trivial), Z59⟩
  rw [if_neg c4] at H
  exact absurd H Z37
 rw [if_neg c3] at H
 exact absurd H Z37

end Go.Proofs.Ytllaofiopnhdgaa.PFnSparseCounts
