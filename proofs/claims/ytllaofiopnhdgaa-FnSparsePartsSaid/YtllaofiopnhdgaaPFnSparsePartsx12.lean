-- made by wip/tools/myprint.py over the kit's print, for this claim
import Derived.Test.YtllaofiopnhdgaaPFnSparsePartsx0
import Derived.Test.YtllaofiopnhdgaaPFnSparsePartsx3
import Derived.Test.YtllaofiopnhdgaaPFnSparsePartsx5
import Derived.Test.YtllaofiopnhdgaaPFnSparsePartsx7
import Derived.Test.YtllaofiopnhdgaaPFnSparsePartsx9
import Derived.Test.YtllaofiopnhdgaaPFnSparsePartsx11
namespace Go.Proofs.Ytllaofiopnhdgaa.PFnSparseParts
open Go.RowKit Go.Proofs.YtllaofiopnhdgaaW.PrintWords Go.Proofs.YtllaofiopnhdgaaW.PrintLast Go.Proofs.YtllaofiopnhdgaaW.PrintMore
open List (setIfInBounds_toArray set_cons_zero set_cons_succ)
attribute [local go_sem] max2_int min2_int max_two min_two max_three min_three max_four min_four   -- for this text's walks alone
set_option linter.unusedVariables false
set_option linter.unusedSimpArgs false

set_option maxHeartbeats 8000000
set_option maxRecDepth 100000
/-! ### FL: function 12 -/
def FL.f (k : Nat) (l0 : List Int) : Option (Int × Int × Int × Int × List Int × Int × List Int × Int × Int) := (Fg.f k l0 0 0).bind fun x => (Foa.f l0 x.2.2.2.2.2.2.2.1 x.2.2.2.2.2.2.2.2 x.1).bind fun y => (Foa.f l0 y.2.1 y.2.2 x.1).bind fun z => some (x.1, x.2.1, x.2.2.1, x.2.2.2.1, x.2.2.2.2.1, x.2.2.2.2.2.1, x.2.2.2.2.2.2.1, y.1, z.1)
theorem FL.mono : ∀ a0 k, LeO (FL.f k a0) (FL.f (k + 1) a0) := by
  intro a0 k
  unfold FL.f
  refine LeO.bind (Fg.mono _ _ _ _) (fun _ => ?_)
  exact LeO.refl _
def FL.T3 : Bool × List (List Nat × List Nat) := (true, [([], []), ([], []), ([], []), ([2], [2]), ([1, 3], [1, 3]), ([], []), ([], []), ([6], [6]), ([5, 7, 4], [5, 7]), ([0, 8, 0], [0]), ([4, 9, 0, 1, 2, 3, 4, 9], [4]), ([8, 10, 0, 1, 2, 3, 4, 5, 6, 7, 8, 9, 10], [8])])
def FL.B3 : List Nat := [0, 0, 0, 4, 14, 0, 0, 64, 254, 511, 1023, 2047]
theorem FL.tab3 : rtab .any (opsOf Try.f12 3) = FL.T3 := by kernel_rfl
theorem FL.bits3 : waitsOk FL.T3.2 FL.B3 = true := by kernel_rfl
theorem FL.calls (k : Nat) (A0 : Option Addr) (c0 : Nat) (l0 : List Int) (r1 : Int) (r2 : Int) (r3 : Int) (r4 : Int) (r5 : List Int) (r6 : Int) (r7 : List Int) (r8 : Int) (r9 : Int) (w : World) (hr0 : Kd.C (Kd.int .u8) w A0 l0.length l0) (hc0 : l0.length ≤ c0) (h : FL.f k l0 = some (r1, r2, r3, r4, r5, r6, r7, r8, r9)) :
    Calls Try.prog 12 #[.slice A0 l0.length c0] w fun e w' => ∃ v4_ v6_ : Value, e = .returned (.tuple #[.agg #[.int .i64 r1, .int .i64 r2, .int .i64 r3, .int .i64 r4, v4_, .int .i64 r6, v6_], .int .i64 r8, .int .i64 r9]) ∧ Kd.R (Kd.int .i64) 3 w' w.heap.size (fun k_ => some k_ ≠ (v6_ : Value).ownBlock) v4_ r5 ∧ Kd.R (Kd.int .i64) 3 w' w.heap.size (fun k_ => some k_ ≠ (v4_ : Value).ownBlock) v6_ r7 ∧ Below w.heap.size w w' := by
  unfold FL.f at h
  replace h := Option.bind_eq_some_iff.mp h
  obtain ⟨⟨x1, x2, x3, x4, x5, x6, x7, x8, x9⟩, hx, h⟩ := h
  replace h := Option.bind_eq_some_iff.mp h
  obtain ⟨⟨y1, y2, y3⟩, hy, h⟩ := h
  replace h := Option.bind_eq_some_iff.mp h
  obtain ⟨⟨z1, z2, z3⟩, hz, h⟩ := h
  simp only [Option.some.injEq, Prod.mk.injEq] at h
  obtain ⟨rfl, rfl, rfl, rfl, rfl, rfl, rfl, rfl, rfl⟩ := h
  have HX := am hx
  have HY := am hy
  have HZ := am hz
  have HR := am hr0
  have HC := am hc0
  clear hx hy hz hr0 hc0
  go_enter Try.func12, Try.ntmps12
  go_upto_region 3 with (first
    | ((with_reducible refine gate_dst (N := 2) rfl ?_); refine box_event ?hg (N := 2) ?hd (cs := #[.int .i64 0, .int .i64 0, .int .i64 0, .int .i64 0, .slice none 0 0, .int .i64 0, .slice none 0 0]) (t := 28) ?hr ?_; (case hd => rfl); (case hg => rfl); (case hr => exact Z111); intro g2 hg w1 hbox hb; have BK2 := am hbox; have GE2 := am (by rw [hg]; exact Nat.le_refl _ : w.heap.size ≤ g2); have HB1 := am hb; clear hbox hg hb)
    | ((with_reducible refine gate_dst (N := 9) rfl ?_); refine box_event ?hg (N := 9) ?hd (cs := #[.slice A0 l0.length c0, .int .i64 0, .int .u64 0]) (t := 47) ?hr ?_; (case hd => rfl); (case hg => rfl); (case hr => exact Z111); intro g8 hg w2 hbox hb; have NE82 := am (by rw [hg]; exact Nat.ne_of_lt (blk_lt BK2.out) : g2 ≠ g8); have HB2 := am (below_step HB1.out hb); have BK2' := am (blk_below (g := g2) BK2.out hb); have HI2 : Aside0 (IsS47 w w2 g8 l0 0 0) := ⟨⟨A0, c0, hbox, by rw [hg]; exact HB1.out.size, HR.out⟩⟩; clear hbox hg hb BK2)
    | (go_at_call 20; refine (Fg.calls k _ l0 0 0 x1 x2 x3 x4 x5 x6 x7 x8 x9 w _ HI2.out HB2.out HX.out).mono ?_; rintro e w3 ⟨v4, v6, rfl, ho4, ho6, hI, hB, hk⟩; have BK2 := am (KeepBut.blk hk (g' := g2) BK2'.out NE82.out Z43); have HI3 := am hI; have HB3 := am hB; have HO4 := am (Kd.R_lower ho4 HB2.out.size); have HO6 := am (Kd.R_lower ho6 HB2.out.size); clear ho4 ho6 hI hB hk HI2 BK2'; obtain ⟨Ao4, co4, eo4⟩ := Kd.R_slice HO4.out; subst eo4; obtain ⟨Ao6, co6, eo6⟩ := Kd.R_slice HO6.out; subst eo6)
    | ((with_reducible refine gate_dst (N := 6) rfl ?_); refine box_event ?hg (N := 6) ?hd (cs := #[.int .i64 0, .int .i64 0, .int .i64 0, .int .i64 0, .slice none 0 0, .int .i64 0, .slice none 0 0]) (t := 28) ?hr ?_; (case hd => rfl); (case hg => rfl); (case hr => exact Z111); intro g5 hg w4 hbox hb; have NE52 := am (by rw [hg]; exact Nat.ne_of_lt (blk_lt BK2.out) : g2 ≠ g5); have NE58 := am (by rw [hg]; exact Nat.ne_of_lt (HI3.out.lt) : g8 ≠ g5); have GE5 := am (by rw [hg]; exact HB3.out.size : w.heap.size ≤ g5); have HB4 := am (below_step HB3.out hb); have BK4 := am (blk_below (g := g2) BK2.out hb); have HI4 := am (IsS47.below HI3.out hb); have HO44 := am (Kd.R_below HO4.out hb); have HO46 := am (Kd.R_below HO6.out hb); have BK5 := am hbox; clear hbox hg hb BK2 HI3 HB3 HO4 HO6; have hcz_0 : w4.cell? ⟨g5, 0, none⟩ = some (.int .i64 0) := bc BK5 0; have hcz_1 : w4.cell? ⟨g5, 1, none⟩ = some (.int .i64 0) := bc BK5 1; have hcz_2 : w4.cell? ⟨g5, 2, none⟩ = some (.int .i64 0) := bc BK5 2; have hcz_3 : w4.cell? ⟨g5, 3, none⟩ = some (.int .i64 0) := bc BK5 3; have hcz_4 : w4.cell? ⟨g5, 4, none⟩ = some (.slice none 0 0) := bc BK5 4; have hcz_5 : w4.cell? ⟨g5, 5, none⟩ = some (.int .i64 0) := bc BK5 5; have hcz_6 : w4.cell? ⟨g5, 6, none⟩ = some (.slice none 0 0) := bc BK5 6; have hfz_0 := blk_frozen BK5.out 0; have hfz_1 := blk_frozen BK5.out 1; have hfz_2 := blk_frozen BK5.out 2; have hfz_3 := blk_frozen BK5.out 3; have hfz_4 := blk_frozen BK5.out 4; have hfz_5 := blk_frozen BK5.out 5; have hfz_6 := blk_frozen BK5.out 6))
  generalize hW : ((((((w4.setCell ⟨g5, 0, none⟩ (.int .i64 x1)).setCell ⟨g5, 1, none⟩ (.int .i64 x2)).setCell ⟨g5, 2, none⟩ (.int .i64 x3)).setCell ⟨g5, 3, none⟩ (.int .i64 x4)).setCell ⟨g5, 4, none⟩ (.slice Ao4 x5.length co4)).setCell ⟨g5, 5, none⟩ (.int .i64 x6)).setCell ⟨g5, 6, none⟩ (.slice Ao6 x7.length co6) = w5
  have BK5n : Aside0 (w5.heap[g5]? = some (.cells #[.int .i64 x1, .int .i64 x2, .int .i64 x3, .int .i64 x4, .slice Ao4 x5.length co4, .int .i64 x6, .slice Ao6 x7.length co6] 28 (0, 0))) := ⟨by
    rw [← hW]
    refine blk_put (cs := #[.int .i64 x1, .int .i64 x2, .int .i64 x3, .int .i64 x4, .slice Ao4 x5.length co4, .int .i64 x6, .slice none 0 0]) ?_ 6 _ rfl
    refine blk_put (cs := #[.int .i64 x1, .int .i64 x2, .int .i64 x3, .int .i64 x4, .slice Ao4 x5.length co4, .int .i64 0, .slice none 0 0]) ?_ 5 _ rfl
    refine blk_put (cs := #[.int .i64 x1, .int .i64 x2, .int .i64 x3, .int .i64 x4, .slice none 0 0, .int .i64 0, .slice none 0 0]) ?_ 4 _ rfl
    refine blk_put (cs := #[.int .i64 x1, .int .i64 x2, .int .i64 x3, .int .i64 0, .slice none 0 0, .int .i64 0, .slice none 0 0]) ?_ 3 _ rfl
    refine blk_put (cs := #[.int .i64 x1, .int .i64 x2, .int .i64 0, .int .i64 0, .slice none 0 0, .int .i64 0, .slice none 0 0]) ?_ 2 _ rfl
    refine blk_put (cs := #[.int .i64 x1, .int .i64 0, .int .i64 0, .int .i64 0, .slice none 0 0, .int .i64 0, .slice none 0 0]) ?_ 1 _ rfl
    refine blk_put (cs := #[.int .i64 0, .int .i64 0, .int .i64 0, .int .i64 0, .slice none 0 0, .int .i64 0, .slice none 0 0]) ?_ 0 _ rfl
    exact BK5.out⟩
  have BK2n : Aside0 (w5.heap[g2]? = some (.cells #[.int .i64 0, .int .i64 0, .int .i64 0, .int .i64 0, .slice none 0 0, .int .i64 0, .slice none 0 0] 28 (0, 0))) := ⟨by
    rw [← hW]
    exact (blk_far (blk_far (blk_far (blk_far (blk_far (blk_far (blk_far BK4.out NE52.out _) NE52.out _) NE52.out _) NE52.out _) NE52.out _) NE52.out _) NE52.out _)⟩
  have HI5 : Aside0 (IsS47 w w5 g8 l0 x8 x9) := ⟨by
    rw [← hW]
    exact (IsS47.far (IsS47.far (IsS47.far (IsS47.far (IsS47.far (IsS47.far (IsS47.far HI4.out NE58.out _) NE58.out _) NE58.out _) NE58.out _) NE58.out _) NE58.out _) NE58.out _)⟩
  have HB5 : Aside0 (Below w.heap.size w w5) := ⟨by
    rw [← hW]
    exact (below_set (below_set (below_set (below_set (below_set (below_set (below_set HB4.out GE5.out) GE5.out) GE5.out) GE5.out) GE5.out) GE5.out) GE5.out)⟩
  have HO54 : Aside0 (Kd.R (Kd.int .i64) 3 w5 w.heap.size (fun k_ => some k_ ≠ (.slice Ao6 x7.length co6 : Value).ownBlock) (.slice Ao4 x5.length co4) x5) := ⟨by
    rw [← hW]
    exact fS HO44 BK5 Z16⟩
  have HO56 : Aside0 (Kd.R (Kd.int .i64) 3 w5 w.heap.size (fun k_ => some k_ ≠ (.slice Ao4 x5.length co4 : Value).ownBlock) (.slice Ao6 x7.length co6) x7) := ⟨by
    rw [← hW]
    exact fS HO46 BK5 Z16⟩
  clear HO44 HO46 HI4 HB4 BK4 BK5 hcz_0 hcz_1 hcz_2 hcz_3 hcz_4 hcz_5 hcz_6 hfz_0 hfz_1 hfz_2 hfz_3 hfz_4 hfz_5 hfz_6 hW
  refine start_ (n := 12) (S := fun w' => w'.cell? ⟨g5, 0, none⟩ = some (.int .i64 x1) ∧ w'.cell? ⟨g5, 1, none⟩ = some (.int .i64 x2) ∧ w'.cell? ⟨g5, 2, none⟩ = some (.int .i64 x3) ∧ w'.cell? ⟨g5, 3, none⟩ = some (.int .i64 x4) ∧ w'.cell? ⟨g5, 4, none⟩ = some (.slice Ao4 x5.length co4) ∧ w'.cell? ⟨g5, 5, none⟩ = some (.int .i64 x6) ∧ w'.cell? ⟨g5, 6, none⟩ = some (.slice Ao6 x7.length co6)) (ds := [9, 10, 11]) (bA 12 0) Z112 rfl rfl ⟨bc BK5n 0, bc BK5n 1, bc BK5n 2, bc BK5n 3, bc BK5n 4, bc BK5n 5, bc BK5n 6⟩ (fun hHeld => ?_)
  refine with_tabW FL.tab3 FL.bits3 (fun HT_ HW_ => ?_)
  have d0 := am (blk_drew BK5n.out)
  have d1 := am (blk_drew BK2n.out)
  have d2 := am (IsS47.drew HI5.out)
  have d3 := am (below_drew HB5.out)
  have d4 := am (Kd.R_drew HO54.out)
  have d5 := am (Kd.R_drew HO56.out)
  clear BK5n BK2n HI5 HB5 HO54 HO56
  generalize w5.drew = w6 at d0 d1 d2 d3 d4 d5 hHeld ⊢
  have BK5n := d0
  have BK2n := d1
  have HI5 := d2
  have HB5 := d3
  have HO54 := d4
  have HO56 := d5
  clear d0 d1 d2 d3 d4 d5
  refine pure_ (i := 1) (N := (some 13)) (v := ?_) (a' := ?_) (bA 12 2) rfl rfl (any_of HT_.out Z112) (fun _ _ _ h => h) (Or.inl ⟨Z63, ?_⟩) ?_ ?_
  rotate_left
  · intro w'
    go_simp
    with_reducible rfl
  rotate_left
  · simp only [Act.put, setIfInBounds_toArray, set_cons_zero, set_cons_succ, i64_w, i32_w]
    rfl
  refine pure_ (i := 2) (N := (some 14)) (v := ?_) (a' := ?_) (bA 12 6) rfl rfl (any_of HT_.out Z112) (fun _ _ _ h => h) (Or.inl ⟨Z63, ?_⟩) ?_ ?_
  rotate_left
  · intro w'
    go_simp
    with_reducible rfl
  rotate_left
  · simp only [Act.put, setIfInBounds_toArray, set_cons_zero, set_cons_succ, i64_w, i32_w]
    rfl
  refine pure_ (i := 5) (N := (some 17)) (v := ?_) (a' := ?_) (bA 12 38) rfl rfl (any_of HT_.out Z112) (fun _ _ _ h => h) (Or.inl ⟨Z63, ?_⟩) ?_ ?_
  rotate_left
  · intro w'
    go_simp
    with_reducible rfl
  rotate_left
  · simp only [Act.put, setIfInBounds_toArray, set_cons_zero, set_cons_succ, i64_w, i32_w]
    rfl
  refine pure_ (i := 6) (N := (some 18)) (v := ?_) (a' := ?_) (bA 12 102) rfl rfl (any_of HT_.out Z112) (fun _ _ _ h => h) (Or.inl ⟨Z63, ?_⟩) ?_ ?_
  rotate_left
  · intro w'
    go_simp
    with_reducible rfl
  rotate_left
  · simp only [Act.put, setIfInBounds_toArray, set_cons_zero, set_cons_succ, i64_w, i32_w]
    rfl
  refine take_ (i := 0) (N := (some 12)) (v := ?_) (a' := ?_) (bA 12 103) rfl rfl (take_ofW HT_.out HW_.out Z112) (fun _ _ _ h => h) (Or.inl ⟨Z63, ?_⟩) hHeld ?_ ?_
  rotate_left
  · rintro w' ⟨s0, s1, s2, s3, s4, s5, s6⟩
    go_simp
    with_reducible rfl
  rotate_left
  · simp only [Act.put, setIfInBounds_toArray, set_cons_zero, set_cons_succ, i64_w, i32_w]
    rfl
  refine take_ (i := 3) (N := (some 15)) (v := ?_) (a' := ?_) (bA 12 111) rfl rfl (take_ofW HT_.out HW_.out Z112) (fun _ _ _ h => h) (Or.inl ⟨Z63, ?_⟩) hHeld ?_ ?_
  rotate_left
  · rintro w' ⟨s0, s1, s2, s3, s4, s5, s6⟩
    go_simp
    with_reducible rfl
  rotate_left
  · simp only [Act.put, setIfInBounds_toArray, set_cons_zero, set_cons_succ, i64_w, i32_w]
    rfl
  refine take_ (i := 7) (N := (some 19)) (v := ?_) (a' := ?_) (bA 12 239) rfl rfl (take_ofW HT_.out HW_.out Z112) (fun _ _ _ h => h) (Or.inl ⟨Z63, ?_⟩) hHeld ?_ ?_
  rotate_left
  · rintro w' ⟨s0, s1, s2, s3, s4, s5, s6⟩
    go_simp
    with_reducible rfl
  rotate_left
  · simp only [Act.put, setIfInBounds_toArray, set_cons_zero, set_cons_succ, i64_w, i32_w]
    rfl
  refine one_ (i := 4) (N := (some 16)) (bA 12 255) rfl rfl (one_of HT_.out Z112) Z16 (fun K hK => ?_)
  refine goes_ Try.func21 Z112 rfl #[.pointer (some ⟨g8, 0, none⟩), .int .i64 x1] Z63 rfl rfl Z113 ?_
  with_reducible refine (Foa.calls g8 l0 x8 x9 x1 y1 y2 y3 w _ ?side1 ?side2 HY.out).mono ?_
  (case side1 => exact HI5.out)
  (case side2 => exact HB5.out)
  rintro e w7 ⟨rfl, hi, hb, hk⟩
  refine ⟨_, rfl, ?_⟩
  have m4_ := am (Kd.R_mono (Kd.R_keep (IsS47.apart HI5.out HO54.out Z16) hk (fun _ hk => hk.2)) (fun _ h_ => h_.1))
  have m6_ := am (Kd.R_mono (Kd.R_keep (IsS47.apart HI5.out HO56.out Z16) hk (fun _ hk => hk.2)) (fun _ h_ => h_.1))
  have mb5 := am (KeepBut.blk hk (g' := g5) BK5n.out (Ne.symm NE58.out) Z43)
  have mb2 := am (KeepBut.blk hk (g' := g2) BK2n.out NE82.out Z43)
  have HB6 := am hb
  have HI6 := am hi
  clear HO54 HO56 HI5 HB5 BK5n BK2n hi hb hk
  refine hK.out _ _ ⟨bc mb5 0, bc mb5 1, bc mb5 2, bc mb5 3, bc mb5 4, bc mb5 5, bc mb5 6⟩ (fun hHeld => ?_)
  clear hK K
  refine norm_ (a' := ?_) ?_ ?_
  rotate_left
  · show Act.put _ (some 16) _ = _
    simp only [Act.put, setIfInBounds_toArray, set_cons_zero, set_cons_succ, i64_w, i32_w]
    rfl
  refine one_ (i := 8) (N := (some 20)) (bA 12 511) rfl rfl (one_of HT_.out Z112) Z16 (fun K hK => ?_)
  refine goes_ Try.func21 Z112 rfl #[.pointer (some ⟨g8, 0, none⟩), .int .i64 x1] Z63 rfl rfl Z113 ?_
  with_reducible refine (Foa.calls g8 l0 y2 y3 x1 z1 z2 z3 w _ ?side1 ?side2 HZ.out).mono ?_
  (case side1 => exact HI6.out)
  (case side2 => exact HB6.out)
  rintro e w8 ⟨rfl, hi, hb, hk⟩
  refine ⟨_, rfl, ?_⟩
  have m4_n := am (Kd.R_mono (Kd.R_keep (IsS47.apart HI6.out m4_.out Z16) hk (fun _ hk => hk.2)) (fun _ h_ => h_.1))
  have m6_n := am (Kd.R_mono (Kd.R_keep (IsS47.apart HI6.out m6_.out Z16) hk (fun _ hk => hk.2)) (fun _ h_ => h_.1))
  have mb5n := am (KeepBut.blk hk (g' := g5) mb5.out (Ne.symm NE58.out) Z43)
  have mb2n := am (KeepBut.blk hk (g' := g2) mb2.out NE82.out Z43)
  have HB6n := am hb
  have HI6n := am hi
  clear m4_ m6_ HI6 HI6n HB6 mb5 mb2 hi hb hk
  refine hK.out _ _ ⟨bc mb5n 0, bc mb5n 1, bc mb5n 2, bc mb5n 3, bc mb5n 4, bc mb5n 5, bc mb5n 6⟩ (fun hHeld => ?_)
  clear hK K
  refine norm_ (a' := ?_) ?_ ?_
  rotate_left
  · show Act.put _ (some 20) _ = _
    simp only [Act.put, setIfInBounds_toArray, set_cons_zero, set_cons_succ, i64_w, i32_w]
    rfl
  have hcz_0 : w8.cell? ⟨g2, 0, none⟩ = some (.int .i64 0) := bc mb2n 0
  have hcz_1 : w8.cell? ⟨g2, 1, none⟩ = some (.int .i64 0) := bc mb2n 1
  have hcz_2 : w8.cell? ⟨g2, 2, none⟩ = some (.int .i64 0) := bc mb2n 2
  have hcz_3 : w8.cell? ⟨g2, 3, none⟩ = some (.int .i64 0) := bc mb2n 3
  have hcz_4 : w8.cell? ⟨g2, 4, none⟩ = some (.slice none 0 0) := bc mb2n 4
  have hcz_5 : w8.cell? ⟨g2, 5, none⟩ = some (.int .i64 0) := bc mb2n 5
  have hcz_6 : w8.cell? ⟨g2, 6, none⟩ = some (.slice none 0 0) := bc mb2n 6
  have hfz_0 := blk_frozen mb2n.out 0
  have hfz_1 := blk_frozen mb2n.out 1
  have hfz_2 := blk_frozen mb2n.out 2
  have hfz_3 := blk_frozen mb2n.out 3
  have hfz_4 := blk_frozen mb2n.out 4
  have hfz_5 := blk_frozen mb2n.out 5
  have hfz_6 := blk_frozen mb2n.out 6
  refine last_ (i := 9) (N := none) (bA 12 1023) rfl rfl (one_of HT_.out Z112) Z16 (fun K hK => ?_)
  refine skip_ (w1 := ?_) Z63 rfl ?_ ?_
  rotate_left
  · go_simp
    rfl
  refine hK.out _ _ ?_
  clear hK K
  refine pure_ (i := 10) (N := (some 3)) (v := ?_) (a' := ?_) (bA 12 2047) rfl rfl (any_of HT_.out Z112) (fun _ _ _ h => h) (Or.inl ⟨Z63, ?_⟩) ?_ ?_
  rotate_left
  · intro w'
    go_simp
    with_reducible rfl
  rotate_left
  · simp only [Act.put, setIfInBounds_toArray, set_cons_zero, set_cons_succ, i64_w, i32_w]
    rfl
  refine pure_ (i := 11) (N := (some 4)) (v := ?_) (a' := ?_) (bA 12 4095) rfl rfl (any_of HT_.out Z112) (fun _ _ _ h => h) (Or.inl ⟨Z63, ?_⟩) ?_ ?_
  rotate_left
  · intro w'
    go_simp
    with_reducible rfl
  rotate_left
  · simp only [Act.put, setIfInBounds_toArray, set_cons_zero, set_cons_succ, i64_w, i32_w]
    rfl
  refine done_ (done_of HT_.out Z112) ?_
  try go_wp2
  refine bodyPost_ret (results_ctt rfl _ _ g2 28 #[.int .i64 x1, .int .i64 x2, .int .i64 x3, .int .i64 x4, .slice Ao4 x5.length co4, .int .i64 x6, .slice Ao6 x7.length co6] (0, 0) _ rfl (pT (pp 6 (pp 5 (pp 4 (pp 3 (pp 2 (pp 1 (pp 0 (pb mb2n))))))))) Try.underlying28 rfl Z112) rfl ?_
  exact ⟨_, _, rfl, (by exact fS m4_n mb2n Z16), (by exact fS m6_n mb2n Z16), (below_set (below_set (below_set (below_set (below_set (below_set (below_set HB6n.out GE2.out) GE2.out) GE2.out) GE2.out) GE2.out) GE2.out) GE2.out)⟩


/-! ### FJ: function 13 -/
def FJ.f (k : Nat) (a0_0 : Int) (a0_1 : Int) (a0_2 : Int) (a0_3 : Int) (l0_4 : List Int) (a0_5 : Int) (l0_6 : List Int) (a1 : Int) (a2 : Int) : Option (Int × Int × Int × Int × List Int × Int × List Int × Bool) := (Fa.f k a0_0 a0_1 a0_2 a0_3 l0_4 a0_5 l0_6).bind fun bt7 => (if bt7.2 = true then (if a1 < 0 then (some (0, 0, 0, 0, ([] : List Int), 0, ([] : List Int), false)) else (if a1 > a2 then (some (0, 0, 0, 0, ([] : List Int), 0, ([] : List Int), false)) else (if a2 > (bt7.1.length : Int) then (some (0, 0, 0, 0, ([] : List Int), 0, ([] : List Int), false)) else (if 0 ≤ a1 then (if a1 ≤ a2 then (if a2 ≤ (bt7.1.length : Int) then ((Fi.f k ((bt7.1.take (a2 : Int).toNat).drop (a1 : Int).toNat) a0_1).bind fun bt8 => (some (bt8.1, bt8.2.1, bt8.2.2.1, bt8.2.2.2.1, bt8.2.2.2.2.1, bt8.2.2.2.2.2.1, bt8.2.2.2.2.2.2, true))) else (none)) else (none)) else (none))))) else (some (0, 0, 0, 0, ([] : List Int), 0, ([] : List Int), false)))
theorem FJ.mono : ∀ a0 a1 a2 a3 a4 a5 a6 a7 a8 k, LeO (FJ.f k a0 a1 a2 a3 a4 a5 a6 a7 a8) (FJ.f (k + 1) a0 a1 a2 a3 a4 a5 a6 a7 a8) := by
 intro a0 a1 a2 a3 a4 a5 a6 a7 a8 k
 unfold FJ.f
 repeat' first
   | with_reducible first | exact Fa.mono .. | exact Fi.mono .. | exact LeO.refl _ | exact LeO.none _ | refine LeO.ite ?_ ?_ | refine LeO.bind ?_ (fun _ => ?_)
   | exact Fa.mono .. | exact Fi.mono .. | exact LeO.none _ | refine LeO.ite ?_ ?_ | refine LeO.bind ?_ (fun _ => ?_)
def FJ.T4 : Bool × List (List Nat × List Nat) := (true, [([], []), ([], []), ([], []), ([0, 1, 2], [0, 1, 2]), ([], []), ([4], [4]), ([3, 5], [3, 5]), ([6, 6, 0, 1, 2, 3, 4, 5, 6], [6]), ([7, 0, 1, 2, 3, 4, 5, 6, 7], [])])
def FJ.B4 : List Nat := [0, 0, 0, 7, 0, 16, 63, 127, 255]
theorem FJ.tab4 : rtab .any (opsOf Try.f13 4) = FJ.T4 := by kernel_rfl
theorem FJ.bits4 : waitsOk FJ.T4.2 FJ.B4 = true := by kernel_rfl
theorem FJ.calls (k : Nat) (a0_0 : Int) (a0_1 : Int) (a0_2 : Int) (a0_3 : Int) (A0_4 : Option Addr) (c0_4 : Nat) (l0_4 : List Int) (a0_5 : Int) (A0_6 : Option Addr) (c0_6 : Nat) (l0_6 : List Int) (a1 : Int) (a2 : Int) (r1 : Int) (r2 : Int) (r3 : Int) (r4 : Int) (r5 : List Int) (r6 : Int) (r7 : List Int) (r8 : Bool) (w : World) (hr0_4 : Kd.C (Kd.int .i64) w A0_4 l0_4.length l0_4) (hc0_4 : l0_4.length ≤ c0_4) (hr0_6 : Kd.C (Kd.int .i64) w A0_6 l0_6.length l0_6) (hc0_6 : l0_6.length ≤ c0_6) (h : FJ.f k a0_0 a0_1 a0_2 a0_3 l0_4 a0_5 l0_6 a1 a2 = some (r1, r2, r3, r4, r5, r6, r7, r8)) :
  Calls Try.prog 13 #[.agg #[.int .i64 a0_0, .int .i64 a0_1, .int .i64 a0_2, .int .i64 a0_3, .slice A0_4 l0_4.length c0_4, .int .i64 a0_5, .slice A0_6 l0_6.length c0_6], .int .i64 a1, .int .i64 a2] w fun e w' => ∃ v4_ v6_ : Value, e = .returned (.tuple #[.agg #[.int .i64 r1, .int .i64 r2, .int .i64 r3, .int .i64 r4, v4_, .int .i64 r6, v6_], .bool r8]) ∧ Kd.R (Kd.int .i64) 3 w' w.heap.size (fun k_ => some k_ ≠ (v6_ : Value).ownBlock) v4_ r5 ∧ Kd.R (Kd.int .i64) 3 w' w.heap.size (fun k_ => some k_ ≠ (v4_ : Value).ownBlock) v6_ r7 ∧ Below w.heap.size w w' := by
 have hu28 := Try.underlying28
 have HR0_4 := am hr0_4
 have HC0_4 := am hc0_4
 clear hr0_4 hc0_4
 have HR0_6 := am hr0_6
 have HC0_6 := am hc0_6
 clear hr0_6 hc0_6
 have HB := am (Below.refl w.heap.size w)
 have H : ((Fa.f k a0_0 a0_1 a0_2 a0_3 l0_4 a0_5 l0_6).bind fun bt50 => (if bt50.2 = true then (if a1 < 0 then (some (0, 0, 0, 0, ([] : List Int), 0, ([] : List Int), false)) else (if a1 > a2 then (some (0, 0, 0, 0, ([] : List Int), 0, ([] : List Int), false)) else (if a2 > (bt50.1.length : Int) then (some (0, 0, 0, 0, ([] : List Int), 0, ([] : List Int), false)) else (if 0 ≤ a1 then (if a1 ≤ a2 then (if a2 ≤ (bt50.1.length : Int) then ((Fi.f k ((bt50.1.take (a2 : Int).toNat).drop (a1 : Int).toNat) a0_1).bind fun bt51 => (some (bt51.1, bt51.2.1, bt51.2.2.1, bt51.2.2.2.1, bt51.2.2.2.2.1, bt51.2.2.2.2.2.1, bt51.2.2.2.2.2.2, true))) else (none)) else (none)) else (none))))) else (some (0, 0, 0, 0, ([] : List Int), 0, ([] : List Int), false)))) = some (r1, r2, r3, r4, r5, r6, r7, r8) := h
 clear h
 replace H := Option.bind_eq_some_iff.mp H
 obtain ⟨⟨t50, t52⟩, A40, H⟩ := H
 try dsimp only at H
 have A4 := am A40
 clear A40
 by_cases c5 : t52 = true
 ·
  subst c5
  rw [if_pos rfl] at H
  by_cases c6 : a1 < 0
  ·
   rw [if_pos c6] at H
   have c6b0 := decide_eq_true c6
   clear c6
   simp only [Option.some.injEq, Prod.mk.injEq] at H
   obtain ⟨rfl, rfl, rfl, rfl, rfl, rfl, rfl, rfl⟩ := H
   go_enter Try.func13, Try.ntmps13
   go_wp2_with (first | ((with_reducible refine gate_dst (N := 3) rfl ?_); (try (refine gate_guard Z63 ?_; dsimp only)); refine box_event ?hg (N := 3) ?hd (cs := #[.int .i64 a0_0, .int .i64 a0_1, .int .i64 a0_2, .int .i64 a0_3, .slice A0_4 l0_4.length c0_4, .int .i64 a0_5, .slice A0_6 l0_6.length c0_6]) (t := 28) ?hr ?_; (case hd => rfl); (case hg => rfl); (case hr => exact Z111); intro gb53 hg w7 hbox hb; have BK53 := am (hbox); have GW53 := nG HB hg; have GE53 := nG HB hg; have GI53 := gI GE53; replace HB := am (below_step (uN HB) hb); clear hb hbox hg) | ((with_reducible refine gate_dst (N := 6) rfl ?_); (try (refine gate_guard Z63 ?_; dsimp only)); refine box_event ?hg (N := 6) ?hd (cs := #[.int .i64 0, .int .i64 0, .int .i64 0, .int .i64 0, .slice none 0 0, .int .i64 0, .slice none 0 0]) (t := 28) ?hr ?_; (case hd => rfl); (case hg => rfl); (case hr => exact Z111); intro gb54 hg w8 hbox hb; have BK54 := am (hbox); have GW54 := am ((by rw [hg]; exact (below_size Z27) : w.heap.size ≤ gb54)); have GE54 := am ((by rw [hg]; exact (below_size Z27) : w.heap.size ≤ gb54)); replace HB := am (below_step Z27 hb); have NB53_54 := nL BK53 hg; have NB54_53 := nR BK53 hg; replace BK53 := kB BK53 hb; clear hb hbox hg) | ((with_reducible refine gate_callee (f := 22) rfl ?_); refine goesL_ (some 11) rfl rfl Try.func22 Z112 rfl #[.pointer (some ⟨gb53, 0, none⟩)] rfl Z140 ?_; (with_reducible refine (Fa.calls k gb53 a0_0 a0_1 a0_2 a0_3 A0_4 c0_4 l0_4 a0_5 A0_6 c0_6 l0_6 t50 true _ ?side1 ?side2 ?side3 ?side4 ?side5 A4.out).mono ?_); (case side1 => exact (uK BK53)); (case side2 => exact uC HR0_4 HB); (case side3 => exact HC0_4.out); (case side4 => exact uC HR0_6 HB); (case side5 => exact HC0_6.out); rintro e w9 ⟨v55, rfl, ho0, hb⟩; refine ⟨_, rfl, ?_⟩; have HO56 := am (Kd.R_lower ho0 (below_size Z20)); replace BK53 := kB BK53 hb; replace BK54 := kB BK54 hb; replace HB := am (below_step Z20 hb); (try clear hb); (try clear hb2); (try clear hk); (try clear hi); (try clear ho0); have hnb10 := NB54_53.out; have hnc10 := NB53_54.out; obtain ⟨hcz11_0, hcz11_1, hcz11_2, hcz11_3, hcz11_4, hcz11_5, hcz11_6, hfz11_0, hfz11_1, hfz11_2, hfz11_3, hfz11_4, hfz11_5, hfz11_6⟩ := ce7 BK54))
   refine bodyPost_ret (results_ct rfl _ _ gb54 28 #[.int .i64 0, .int .i64 0, .int .i64 0, .int .i64 0, .slice none 0 0, .int .i64 0, .slice none 0 0] (0, 0) _ rfl (pT (pp 6 (pp 5 (pp 4 (pp 3 (pp 2 (pp 1 (pp 0 (pb BK54))))))))) Try.underlying28 rfl Z112) rfl ?_
   exact ⟨_, _, Z109, Z23, Z23, Z20⟩
  rw [if_neg c6] at H
  have c6b0 := decide_eq_false c6
  clear c6
  by_cases c12 : a1 > a2
  ·
   rw [if_pos c12] at H
   have c12b0 := decide_eq_true c12
   clear c12
   simp only [Option.some.injEq, Prod.mk.injEq] at H
   obtain ⟨rfl, rfl, rfl, rfl, rfl, rfl, rfl, rfl⟩ := H
   go_enter Try.func13, Try.ntmps13
   go_wp2_with (first | ((with_reducible refine gate_dst (N := 3) rfl ?_); (try (refine gate_guard Z63 ?_; dsimp only)); refine box_event ?hg (N := 3) ?hd (cs := #[.int .i64 a0_0, .int .i64 a0_1, .int .i64 a0_2, .int .i64 a0_3, .slice A0_4 l0_4.length c0_4, .int .i64 a0_5, .slice A0_6 l0_6.length c0_6]) (t := 28) ?hr ?_; (case hd => rfl); (case hg => rfl); (case hr => exact Z111); intro gb53 hg w13 hbox hb; have BK53 := am (hbox); have GW53 := nG HB hg; have GE53 := nG HB hg; have GI53 := gI GE53; replace HB := am (below_step (uN HB) hb); clear hb hbox hg) | ((with_reducible refine gate_dst (N := 6) rfl ?_); (try (refine gate_guard Z63 ?_; dsimp only)); refine box_event ?hg (N := 6) ?hd (cs := #[.int .i64 0, .int .i64 0, .int .i64 0, .int .i64 0, .slice none 0 0, .int .i64 0, .slice none 0 0]) (t := 28) ?hr ?_; (case hd => rfl); (case hg => rfl); (case hr => exact Z111); intro gb54 hg w14 hbox hb; have BK54 := am (hbox); have GW54 := am ((by rw [hg]; exact (below_size Z27) : w.heap.size ≤ gb54)); have GE54 := am ((by rw [hg]; exact (below_size Z27) : w.heap.size ≤ gb54)); replace HB := am (below_step Z27 hb); have NB53_54 := nL BK53 hg; have NB54_53 := nR BK53 hg; replace BK53 := kB BK53 hb; clear hb hbox hg) | ((with_reducible refine gate_callee (f := 22) rfl ?_); refine goesL_ (some 11) rfl rfl Try.func22 Z112 rfl #[.pointer (some ⟨gb53, 0, none⟩)] rfl Z140 ?_; (with_reducible refine (Fa.calls k gb53 a0_0 a0_1 a0_2 a0_3 A0_4 c0_4 l0_4 a0_5 A0_6 c0_6 l0_6 t50 true _ ?side1 ?side2 ?side3 ?side4 ?side5 A4.out).mono ?_); (case side1 => exact (uK BK53)); (case side2 => exact uC HR0_4 HB); (case side3 => exact HC0_4.out); (case side4 => exact uC HR0_6 HB); (case side5 => exact HC0_6.out); rintro e w15 ⟨v55, rfl, ho0, hb⟩; refine ⟨_, rfl, ?_⟩; have HO56 := am (Kd.R_lower ho0 (below_size Z20)); replace BK53 := kB BK53 hb; replace BK54 := kB BK54 hb; replace HB := am (below_step Z20 hb); (try clear hb); (try clear hb2); (try clear hk); (try clear hi); (try clear ho0); have hnb16 := NB54_53.out; have hnc16 := NB53_54.out; obtain ⟨hcz17_0, hcz17_1, hcz17_2, hcz17_3, hcz17_4, hcz17_5, hcz17_6, hfz17_0, hfz17_1, hfz17_2, hfz17_3, hfz17_4, hfz17_5, hfz17_6⟩ := ce7 BK54))
   refine bodyPost_ret (results_ct rfl _ _ gb54 28 #[.int .i64 0, .int .i64 0, .int .i64 0, .int .i64 0, .slice none 0 0, .int .i64 0, .slice none 0 0] (0, 0) _ rfl (pT (pp 6 (pp 5 (pp 4 (pp 3 (pp 2 (pp 1 (pp 0 (pb BK54))))))))) Try.underlying28 rfl Z112) rfl ?_
   exact ⟨_, _, Z109, Z23, Z23, Z20⟩
  rw [if_neg c12] at H
  have c12b0 := decide_eq_false c12
  clear c12
  by_cases c18 : a2 > (t50.length : Int)
  ·
   rw [if_pos c18] at H
   have c18b0 := decide_eq_true c18
   clear c18
   simp only [Option.some.injEq, Prod.mk.injEq] at H
   obtain ⟨rfl, rfl, rfl, rfl, rfl, rfl, rfl, rfl⟩ := H
   go_enter Try.func13, Try.ntmps13
   go_wp2_with (first | ((with_reducible refine gate_dst (N := 3) rfl ?_); (try (refine gate_guard Z63 ?_; dsimp only)); refine box_event ?hg (N := 3) ?hd (cs := #[.int .i64 a0_0, .int .i64 a0_1, .int .i64 a0_2, .int .i64 a0_3, .slice A0_4 l0_4.length c0_4, .int .i64 a0_5, .slice A0_6 l0_6.length c0_6]) (t := 28) ?hr ?_; (case hd => rfl); (case hg => rfl); (case hr => exact Z111); intro gb53 hg w19 hbox hb; have BK53 := am (hbox); have GW53 := nG HB hg; have GE53 := nG HB hg; have GI53 := gI GE53; replace HB := am (below_step (uN HB) hb); clear hb hbox hg) | ((with_reducible refine gate_dst (N := 6) rfl ?_); (try (refine gate_guard Z63 ?_; dsimp only)); refine box_event ?hg (N := 6) ?hd (cs := #[.int .i64 0, .int .i64 0, .int .i64 0, .int .i64 0, .slice none 0 0, .int .i64 0, .slice none 0 0]) (t := 28) ?hr ?_; (case hd => rfl); (case hg => rfl); (case hr => exact Z111); intro gb54 hg w20 hbox hb; have BK54 := am (hbox); have GW54 := am ((by rw [hg]; exact (below_size Z27) : w.heap.size ≤ gb54)); have GE54 := am ((by rw [hg]; exact (below_size Z27) : w.heap.size ≤ gb54)); replace HB := am (below_step Z27 hb); have NB53_54 := nL BK53 hg; have NB54_53 := nR BK53 hg; replace BK53 := kB BK53 hb; clear hb hbox hg) | ((with_reducible refine gate_callee (f := 22) rfl ?_); refine goesL_ (some 11) rfl rfl Try.func22 Z112 rfl #[.pointer (some ⟨gb53, 0, none⟩)] rfl Z140 ?_; (with_reducible refine (Fa.calls k gb53 a0_0 a0_1 a0_2 a0_3 A0_4 c0_4 l0_4 a0_5 A0_6 c0_6 l0_6 t50 true _ ?side1 ?side2 ?side3 ?side4 ?side5 A4.out).mono ?_); (case side1 => exact (uK BK53)); (case side2 => exact uC HR0_4 HB); (case side3 => exact HC0_4.out); (case side4 => exact uC HR0_6 HB); (case side5 => exact HC0_6.out); rintro e w21 ⟨v55, rfl, ho0, hb⟩; refine ⟨_, rfl, ?_⟩; have HO56 := am (Kd.R_lower ho0 (below_size Z20)); replace BK53 := kB BK53 hb; replace BK54 := kB BK54 hb; replace HB := am (below_step Z20 hb); (try clear hb); (try clear hb2); (try clear hk); (try clear hi); (try clear ho0); obtain ⟨Ao22, co22, eo22⟩ := Kd.R_slice HO56.out; subst eo22; have hnb23 := NB54_53.out; have hnc23 := NB53_54.out; obtain ⟨hcz24_0, hcz24_1, hcz24_2, hcz24_3, hcz24_4, hcz24_5, hcz24_6, hfz24_0, hfz24_1, hfz24_2, hfz24_3, hfz24_4, hfz24_5, hfz24_6⟩ := ce7 BK54))
   refine bodyPost_ret (results_ct rfl _ _ gb54 28 #[.int .i64 0, .int .i64 0, .int .i64 0, .int .i64 0, .slice none 0 0, .int .i64 0, .slice none 0 0] (0, 0) _ rfl (pT (pp 6 (pp 5 (pp 4 (pp 3 (pp 2 (pp 1 (pp 0 (pb BK54))))))))) Try.underlying28 rfl Z112) rfl ?_
   exact ⟨_, _, Z109, Z23, Z23, Z20⟩
  rw [if_neg c18] at H
  have c18b0 := decide_eq_false c18
  clear c18
  by_cases c25 : 0 ≤ a1
  rotate_left
  ·
   rw [if_neg c25] at H
   exact absurd H Z43
  rw [if_pos c25] at H
  have c25b0 := eq_true c25
  have c25b1 := decide_eq_true c25
  clear c25
  by_cases c26 : a1 ≤ a2
  rotate_left
  ·
   rw [if_neg c26] at H
   exact absurd H Z43
  rw [if_pos c26] at H
  have c26b0 := eq_true c26
  have c26b1 := decide_eq_true c26
  clear c26
  by_cases c27 : a2 ≤ (t50.length : Int)
  rotate_left
  ·
   rw [if_neg c27] at H
   exact absurd H Z43
  rw [if_pos c27] at H
  have c27b0 := eq_true c27
  have c27b1 := decide_eq_true c27
  have CK27b1_ : Aside0 (a2 ≤ (t50.length : Int)) := am (of_decide_eq_true c27b1)
  clear c27
  obtain ⟨y57, hy57⟩ : ∃ y_ : List Int, y_ = ((t50.take (a2 : Int).toNat).drop (a1 : Int).toNat) := ⟨_, rfl⟩
  replace H : ((Fi.f k y57 a0_1).bind fun bt51 => (some (bt51.1, bt51.2.1, bt51.2.2.1, bt51.2.2.2.1, bt51.2.2.2.2.1, bt51.2.2.2.2.2.1, bt51.2.2.2.2.2.2, true))) = some (r1, r2, r3, r4, r5, r6, r7, r8) := by first | (rw [hy57]; with_reducible exact H) | (have H2_ := (Option.bind_some _ _).symm.trans H; rw [hy57]; with_reducible exact H2_) | (have H2_ := (Option.bind_some _ _).symm.trans H; with_reducible exact H2_) | with_reducible exact H | (rw [hy57]; exact H) | exact H
  have Ny57 := am hy57
  clear hy57
  replace H := Option.bind_eq_some_iff.mp H
  obtain ⟨⟨t51, t58, t59, t60, t61, t62, t63⟩, A65, H⟩ := H
  try dsimp only at H
  have A28 := am A65
  clear A65
  simp only [Option.some.injEq, Prod.mk.injEq] at H
  obtain ⟨rfl, rfl, rfl, rfl, rfl, rfl, rfl, rfl⟩ := H
  go_enter Try.func13, Try.ntmps13
  try go_wp2_with (first | ((with_reducible refine gate_dst (N := 3) rfl ?_); (try (refine gate_guard Z63 ?_; dsimp only)); refine box_event ?hg (N := 3) ?hd (cs := #[.int .i64 a0_0, .int .i64 a0_1, .int .i64 a0_2, .int .i64 a0_3, .slice A0_4 l0_4.length c0_4, .int .i64 a0_5, .slice A0_6 l0_6.length c0_6]) (t := 28) ?hr ?_; (case hd => rfl); (case hg => rfl); (case hr => exact Z111); intro gb53 hg w29 hbox hb; have BK53 := am (hbox); have GW53 := nG HB hg; have GE53 := nG HB hg; have GI53 := gI GE53; replace HB := am (below_step (uN HB) hb); clear hb hbox hg) | ((with_reducible refine gate_dst (N := 6) rfl ?_); (try (refine gate_guard Z63 ?_; dsimp only)); refine box_event ?hg (N := 6) ?hd (cs := #[.int .i64 0, .int .i64 0, .int .i64 0, .int .i64 0, .slice none 0 0, .int .i64 0, .slice none 0 0]) (t := 28) ?hr ?_; (case hd => rfl); (case hg => rfl); (case hr => exact Z111); intro gb54 hg w30 hbox hb; have BK54 := am (hbox); have GW54 := am ((by rw [hg]; exact (below_size Z27) : w.heap.size ≤ gb54)); have GE54 := am ((by rw [hg]; exact (below_size Z27) : w.heap.size ≤ gb54)); replace HB := am (below_step Z27 hb); have NB53_54 := nL BK53 hg; have NB54_53 := nR BK53 hg; replace BK53 := kB BK53 hb; clear hb hbox hg) | ((with_reducible refine gate_callee (f := 22) rfl ?_); refine goesL_ (some 11) rfl rfl Try.func22 Z112 rfl #[.pointer (some ⟨gb53, 0, none⟩)] rfl Z140 ?_; (with_reducible refine (Fa.calls k gb53 a0_0 a0_1 a0_2 a0_3 A0_4 c0_4 l0_4 a0_5 A0_6 c0_6 l0_6 t50 true _ ?side1 ?side2 ?side3 ?side4 ?side5 A4.out).mono ?_); (case side1 => exact (uK BK53)); (case side2 => exact uC HR0_4 HB); (case side3 => exact HC0_4.out); (case side4 => exact uC HR0_6 HB); (case side5 => exact HC0_6.out); rintro e w31 ⟨v55, rfl, ho0, hb⟩; refine ⟨_, rfl, ?_⟩; have HO56 := am (Kd.R_lower ho0 (below_size Z20)); replace BK53 := kB BK53 hb; replace BK54 := kB BK54 hb; replace HB := am (below_step Z20 hb); (try clear hb); (try clear hb2); (try clear hk); (try clear hi); (try clear ho0); obtain ⟨Ao32, co32, eo32⟩ := Kd.R_slice HO56.out; subst eo32))
  replace HO56 := am (Kd.R_drew HO56.out)
  replace BK53 := am (blk_drew BK53.out)
  replace BK54 := am (blk_drew BK54.out)
  replace HB := am (below_drew1 HB.out)
  have q34 : (a2 : Int) ≤ ((t50.length : Int) : Int) := of_decide_eq_true Z6
  obtain ⟨i034, hi034, _, hsz34, _⟩ := info_parts info3
  have hroom34 : t50.length ≤ co32 := (Kd.R_reads' HO56.out).2.1
  have hC34 : Kd.C (Kd.int .i64) _ Ao32 t50.length t50 := (Kd.R_reads' HO56.out).2.2
  have ql34 : (a1 : Int) ≤ (a2 : Int) := of_decide_eq_true Z6
  have q034 : (0 : Int) ≤ (a1 : Int) := of_decide_eq_true Z6
  have hcut34 := cut_mid (P := Try.prog) 24 3 .i64 .i64 Try.underlying24 hi034 1 hsz34 Ao32 t50.length co32 a1 a2 q034 ql34 q34 hroom34
  have hr34 := Kd.C_mid (lo := (a1 : Int).toNat) (hi := (a2 : Int).toNat) (c := co32) hC34 Z70 Z70 hroom34
  obtain ⟨A34, hA34⟩ : ∃ A1, A1 = (if co32 = (a1 : Int).toNat then Ao32 else (Ao32 : Option Addr).map (·.add ((a1 : Int).toNat * 1))) := ⟨_, rfl⟩
  obtain ⟨c34, hc34⟩ : ∃ c1, c1 = co32 - (a1 : Int).toNat := ⟨_, rfl⟩
  have hy34 : y57.length = (a2 : Int).toNat - (a1 : Int).toNat := (by rw [Ny57.out, List.length_drop, List.length_take] <;> omega)
  rw [show ((t50).take (a2 : Int).toNat).drop (a1 : Int).toNat = y57 from Ny57.out.symm] at hr34
  replace hr34 : Kd.C (Kd.int .i64) _ A34 y57.length y57 := (by rw [hA34]; exact hr34)
  rw [← hy34, ← hA34, ← hc34] at hcut34
  have HR66 := am hr34
  have HC66 := am (show y57.length ≤ c34 from by rw [hy34, hc34]; exact Nat.sub_le_sub_right (Nat.le_trans Z70 hroom34) _)
  clear hr34 hC34 hroom34 hi034 hsz34 hc34
  have KY34 := am hy34
  have KA34 := am hA34
  clear hy34 hA34
  have KL34 := am (show (a2 : Int).toNat ≤ t50.length from Z70)
  have KM34 := am (show (a1 : Int).toNat ≤ (a2 : Int).toNat from Z70)
  replace q34 := eq_true q34
  refine start_ (n := 9) (S := fun w' => w'.cell? ⟨gb53, 0, none⟩ = some (.int .i64 a0_0) ∧ w'.cell? ⟨gb53, 1, none⟩ = some (.int .i64 a0_1) ∧ w'.cell? ⟨gb53, 2, none⟩ = some (.int .i64 a0_2) ∧ w'.cell? ⟨gb53, 3, none⟩ = some (.int .i64 a0_3) ∧ w'.cell? ⟨gb53, 4, none⟩ = some (.slice A0_4 l0_4.length c0_4) ∧ w'.cell? ⟨gb53, 5, none⟩ = some (.int .i64 a0_5) ∧ w'.cell? ⟨gb53, 6, none⟩ = some (.slice A0_6 l0_6.length c0_6)) (ds := []) (bA 9 0) Z112 rfl rfl ⟨bc BK53 0, bc BK53 1, bc BK53 2, bc BK53 3, bc BK53 4, bc BK53 5, bc BK53 6⟩ (fun hHeld => ?_); refine with_tabW FJ.tab4 FJ.bits4 (fun HT_ HW_ => ?_)
  generalize w31.drew = w33 at HO56 BK53 BK54 HB HR66 hHeld ⊢
  refine pS 0 32 (bA 9 1) ?_
  refine pS 1 33 (bA 9 3) ?_
  refine pS 2 34 (bA 9 7) ?_
  refine pS 3 35 (bA 9 15) ?_
  refine pS 4 36 (bA 9 31) ?_
  refine tS7 5 37 (bA 9 63) hHeld ?_
  refine one_ (i := 6) (N := some 38) (bA 9 127) rfl rfl (one_of HT_.out Z112) Z16 (fun K hK => ?_)
  refine goes_ Try.func28 Z112 rfl #[.slice A34 y57.length c34, .int .i64 a0_1] Z63 rfl rfl Z140 ?_
  with_reducible refine (Fi.calls k _ _ y57 a0_1 t51 t58 t59 t60 t61 t62 t63 _ ?side1 ?side2 A28.out).mono ?_
  (case side1 => repeat (first | exact Z75 | (with_reducible refine Kd.C_alloc ?_ _) | (with_reducible refine Kd.C_drewN ?_ _) | (with_reducible refine Kd.C_drew ?_)))
  (case side2 => exact HC66.out)
  rintro e w35 ⟨v67, v68, rfl, ho0, ho1, hb⟩
  refine ⟨_, rfl, ?_⟩
  have HO69 := am (Kd.R_lower (Kd.R_new' ho0 (Kd.R_lt (uR HO56))) (below_size Z20))
  have HO70 := am (Kd.R_lower (Kd.R_new' ho1 (Kd.R_lt (uR HO56))) (below_size Z20))
  replace HO56 := am (Kd.R_mono (Kd.R_told (Kd.R_told (Kd.R_old (uR HO56) hb) (Kd.R_base ho0)) (Kd.R_base ho1)) (fun _ h_ => h_.1))
  replace BK53 := kB BK53 hb
  replace BK54 := kB BK54 hb
  replace HR66 := am (Kd.C_below Z75 hb)
  replace HB := am (below_step Z20 hb)
  (try clear hb)
  (try clear hb2)
  (try clear hk)
  (try clear hi)
  (try clear ho0)
  (try clear ho1)
  obtain ⟨Ao40, co40, eo40⟩ := Kd.R_slice HO69.out
  (first | subst eo40 | (injection eo40 with f1_ f2_ f3_; have f4_ := f1_.symm; have f5_ := f3_.symm; clear f1_ f2_ f3_; subst f4_; subst f5_))
  obtain ⟨Ao43, co43, eo43⟩ := Kd.R_slice HO70.out
  (first | subst eo43 | (injection eo43 with f1_ f2_ f3_; have f4_ := f1_.symm; have f5_ := f3_.symm; clear f1_ f2_ f3_; subst f4_; subst f5_))
  refine hK.out _ _ ⟨bc BK53 0, bc BK53 1, bc BK53 2, bc BK53 3, bc BK53 4, bc BK53 5, bc BK53 6⟩ (fun hHeld => ?_)
  clear hK K
  refine norm_ (a' := ?_) ?_ ?_
  rotate_left
  ·
   show Act.put _ (some 38) _ = _
   simp only [Act.put, setIfInBounds_toArray, set_cons_zero, set_cons_succ, i64_w, i32_w]
   rfl
  refine one_ (i := 7) (N := none) (bA 9 255) rfl rfl (one_of HT_.out Z112) Z16 (fun K hK => ?_)
  have hs36 : w35.cell? ⟨gb54, 0, none⟩ = some (.int .i64 0) := bc BK54 0
  have hfs36 := blk_frozen BK54.out 0
  have hns36_0 := NB53_54.out
  have hms36_0 := NB54_53.out
  have hs37 : w35.cell? ⟨gb54, 1, none⟩ = some (.int .i64 0) := bc BK54 1
  have hfs37 := blk_frozen BK54.out 1
  have hns37_0 := NB53_54.out
  have hms37_0 := NB54_53.out
  have hs38 : w35.cell? ⟨gb54, 2, none⟩ = some (.int .i64 0) := bc BK54 2
  have hfs38 := blk_frozen BK54.out 2
  have hns38_0 := NB53_54.out
  have hms38_0 := NB54_53.out
  have hs39 : w35.cell? ⟨gb54, 3, none⟩ = some (.int .i64 0) := bc BK54 3
  have hfs39 := blk_frozen BK54.out 3
  have hns39_0 := NB53_54.out
  have hms39_0 := NB54_53.out
  have hs41 : w35.cell? ⟨gb54, 4, none⟩ = some (.slice none 0 0) := bc BK54 4
  have hfs41 := blk_frozen BK54.out 4
  have hns41_0 := NB53_54.out
  have hms41_0 := NB54_53.out
  have hs42 : w35.cell? ⟨gb54, 5, none⟩ = some (.int .i64 0) := bc BK54 5
  have hfs42 := blk_frozen BK54.out 5
  have hns42_0 := NB53_54.out
  have hms42_0 := NB54_53.out
  have hs44 : w35.cell? ⟨gb54, 6, none⟩ = some (.slice none 0 0) := bc BK54 6
  have hfs44 := blk_frozen BK54.out 6
  have hns44_0 := NB53_54.out
  have hms44_0 := NB54_53.out
  refine skip_ (w1 := ?_) Z63 rfl ?_ ?_
  rotate_left
  ·
   go_simp
   rfl
  refine hK.out _ _ ⟨((cell_far (p := ⟨gb54, _, none⟩) NB53_54.out _).trans (((cell_far (p := ⟨gb54, _, none⟩) NB53_54.out _).trans (((cell_far (p := ⟨gb54, _, none⟩) NB53_54.out _).trans (((cell_far (p := ⟨gb54, _, none⟩) NB53_54.out _).trans (((cell_far (p := ⟨gb54, _, none⟩) NB53_54.out _).trans (((cell_far (p := ⟨gb54, _, none⟩) NB53_54.out _).trans (((cell_far (p := ⟨gb54, _, none⟩) NB53_54.out _).trans (hHeld.1)))))))))))))), ((cell_far (p := ⟨gb54, _, none⟩) NB53_54.out _).trans (((cell_far (p := ⟨gb54, _, none⟩) NB53_54.out _).trans (((cell_far (p := ⟨gb54, _, none⟩) NB53_54.out _).trans (((cell_far (p := ⟨gb54, _, none⟩) NB53_54.out _).trans (((cell_far (p := ⟨gb54, _, none⟩) NB53_54.out _).trans (((cell_far (p := ⟨gb54, _, none⟩) NB53_54.out _).trans (((cell_far (p := ⟨gb54, _, none⟩) NB53_54.out _).trans (hHeld.2.1)))))))))))))), ((cell_far (p := ⟨gb54, _, none⟩) NB53_54.out _).trans (((cell_far (p := ⟨gb54, _, none⟩) NB53_54.out _).trans (((cell_far (p := ⟨gb54, _, none⟩) NB53_54.out _).trans (((cell_far (p := ⟨gb54, _, none⟩) NB53_54.out _).trans (((cell_far (p := ⟨gb54, _, none⟩) NB53_54.out _).trans (((cell_far (p := ⟨gb54, _, none⟩) NB53_54.out _).trans (((cell_far (p := ⟨gb54, _, none⟩) NB53_54.out _).trans (hHeld.2.2.1)))))))))))))), ((cell_far (p := ⟨gb54, _, none⟩) NB53_54.out _).trans (((cell_far (p := ⟨gb54, _, none⟩) NB53_54.out _).trans (((cell_far (p := ⟨gb54, _, none⟩) NB53_54.out _).trans (((cell_far (p := ⟨gb54, _, none⟩) NB53_54.out _).trans (((cell_far (p := ⟨gb54, _, none⟩) NB53_54.out _).trans (((cell_far (p := ⟨gb54, _, none⟩) NB53_54.out _).trans (((cell_far (p := ⟨gb54, _, none⟩) NB53_54.out _).trans (hHeld.2.2.2.1)))))))))))))), ((cell_far (p := ⟨gb54, _, none⟩) NB53_54.out _).trans (((cell_far (p := ⟨gb54, _, none⟩) NB53_54.out _).trans (((cell_far (p := ⟨gb54, _, none⟩) NB53_54.out _).trans (((cell_far (p := ⟨gb54, _, none⟩) NB53_54.out _).trans (((cell_far (p := ⟨gb54, _, none⟩) NB53_54.out _).trans (((cell_far (p := ⟨gb54, _, none⟩) NB53_54.out _).trans (((cell_far (p := ⟨gb54, _, none⟩) NB53_54.out _).trans (hHeld.2.2.2.2.1)))))))))))))), ((cell_far (p := ⟨gb54, _, none⟩) NB53_54.out _).trans (((cell_far (p := ⟨gb54, _, none⟩) NB53_54.out _).trans (((cell_far (p := ⟨gb54, _, none⟩) NB53_54.out _).trans (((cell_far (p := ⟨gb54, _, none⟩) NB53_54.out _).trans (((cell_far (p := ⟨gb54, _, none⟩) NB53_54.out _).trans (((cell_far (p := ⟨gb54, _, none⟩) NB53_54.out _).trans (((cell_far (p := ⟨gb54, _, none⟩) NB53_54.out _).trans (hHeld.2.2.2.2.2.1)))))))))))))), ((cell_far (p := ⟨gb54, _, none⟩) NB53_54.out _).trans (((cell_far (p := ⟨gb54, _, none⟩) NB53_54.out _).trans (((cell_far (p := ⟨gb54, _, none⟩) NB53_54.out _).trans (((cell_far (p := ⟨gb54, _, none⟩) NB53_54.out _).trans (((cell_far (p := ⟨gb54, _, none⟩) NB53_54.out _).trans (((cell_far (p := ⟨gb54, _, none⟩) NB53_54.out _).trans (((cell_far (p := ⟨gb54, _, none⟩) NB53_54.out _).trans (hHeld.2.2.2.2.2.2))))))))))))))⟩ (fun hHeld => ?_)
  clear hK K
  refine pS 8 7 (bA 9 511) ?_
  refine done_ (done_of HT_.out Z112) ?_
  try go_wp2
  refine bodyPost_ret (results_ct rfl _ _ gb54 28 #[.int .i64 t51, .int .i64 t58, .int .i64 t59, .int .i64 t60, .slice Ao40 t61.length co40, .int .i64 t62, .slice Ao43 t63.length co43] (0, 0) _ rfl (pT (pp 6 (pp 5 (pp 4 (pp 3 (pp 2 (pp 1 (pp 0 (pb BK54))))))))) Try.underlying28 rfl Z112) rfl ?_
  exact ⟨_, _, Z109, by (with_reducible repeat (first | apply Kd.R_alloc | apply Kd.R_drewN | apply Kd.R_drew)); exact Kd.R_mono (fT HO69 BK54 Z16) (fun _ hk => hk.1.1), by (with_reducible repeat (first | apply Kd.R_alloc | apply Kd.R_drewN | apply Kd.R_drew)); exact Kd.R_mono (fT HO70 BK54 Z16) (fun _ hk => hk.1.1), Z20⟩
 replace c5 := Bool.eq_false_iff.mpr c5
 subst c5
 rw [if_neg (show ¬ (false = true) from Z16)] at H
 simp only [Option.some.injEq, Prod.mk.injEq] at H
 obtain ⟨rfl, rfl, rfl, rfl, rfl, rfl, rfl, rfl⟩ := H
 go_enter Try.func13, Try.ntmps13
 go_wp2_with (first | ((with_reducible refine gate_dst (N := 3) rfl ?_); (try (refine gate_guard Z63 ?_; dsimp only)); refine box_event ?hg (N := 3) ?hd (cs := #[.int .i64 a0_0, .int .i64 a0_1, .int .i64 a0_2, .int .i64 a0_3, .slice A0_4 l0_4.length c0_4, .int .i64 a0_5, .slice A0_6 l0_6.length c0_6]) (t := 28) ?hr ?_; (case hd => rfl); (case hg => rfl); (case hr => exact Z111); intro gb53 hg w45 hbox hb; have BK53 := am (hbox); have GW53 := nG HB hg; have GE53 := nG HB hg; have GI53 := gI GE53; replace HB := am (below_step (uN HB) hb); clear hb hbox hg) | ((with_reducible refine gate_dst (N := 6) rfl ?_); (try (refine gate_guard Z63 ?_; dsimp only)); refine box_event ?hg (N := 6) ?hd (cs := #[.int .i64 0, .int .i64 0, .int .i64 0, .int .i64 0, .slice none 0 0, .int .i64 0, .slice none 0 0]) (t := 28) ?hr ?_; (case hd => rfl); (case hg => rfl); (case hr => exact Z111); intro gb54 hg w46 hbox hb; have BK54 := am (hbox); have GW54 := am ((by rw [hg]; exact (below_size Z27) : w.heap.size ≤ gb54)); have GE54 := am ((by rw [hg]; exact (below_size Z27) : w.heap.size ≤ gb54)); replace HB := am (below_step Z27 hb); have NB53_54 := nL BK53 hg; have NB54_53 := nR BK53 hg; replace BK53 := kB BK53 hb; clear hb hbox hg) | ((with_reducible refine gate_callee (f := 22) rfl ?_); refine goesL_ (some 11) rfl rfl Try.func22 Z112 rfl #[.pointer (some ⟨gb53, 0, none⟩)] rfl Z140 ?_; (with_reducible refine (Fa.calls k gb53 a0_0 a0_1 a0_2 a0_3 A0_4 c0_4 l0_4 a0_5 A0_6 c0_6 l0_6 t50 false _ ?side1 ?side2 ?side3 ?side4 ?side5 A4.out).mono ?_); (case side1 => exact (uK BK53)); (case side2 => exact uC HR0_4 HB); (case side3 => exact HC0_4.out); (case side4 => exact uC HR0_6 HB); (case side5 => exact HC0_6.out); rintro e w47 ⟨v55, rfl, ho0, hb⟩; refine ⟨_, rfl, ?_⟩; have HO56 := am (Kd.R_lower ho0 (below_size Z20)); replace BK53 := kB BK53 hb; replace BK54 := kB BK54 hb; replace HB := am (below_step Z20 hb); (try clear hb); (try clear hb2); (try clear hk); (try clear hi); (try clear ho0); have hnb48 := NB54_53.out; have hnc48 := NB53_54.out; obtain ⟨hcz49_0, hcz49_1, hcz49_2, hcz49_3, hcz49_4, hcz49_5, hcz49_6, hfz49_0, hfz49_1, hfz49_2, hfz49_3, hfz49_4, hfz49_5, hfz49_6⟩ := ce7 BK54))
 refine bodyPost_ret (results_ct rfl _ _ gb54 28 #[.int .i64 0, .int .i64 0, .int .i64 0, .int .i64 0, .slice none 0 0, .int .i64 0, .slice none 0 0] (0, 0) _ rfl (pT (pp 6 (pp 5 (pp 4 (pp 3 (pp 2 (pp 1 (pp 0 (pb BK54))))))))) Try.underlying28 rfl Z112) rfl ?_
 exact ⟨_, _, Z109, Z23, Z23, Z20⟩

/-! ### FA: function 66 -/
def FA.l0 : Nat → Int → Int → Int → Int → List Int → Option (Int)
 | 0, _, _, _, _, _ => none
 | k + 1, x1, x7, x8, x2, x3 => if x8 ≥ 0 then ((Faa.f x2 x3 (wrap64 (x1 + x8))).bind fun t4 => (if t4 = true then (FA.l0 k x1 (wrap64 ((wrap64 (x7 * 2)) + 1)) (wrap64 (x8 - 1)) x2 x3) else (FA.l0 k x1 (wrap64 (x7 * 2)) (wrap64 (x8 - 1)) x2 x3))) else (some x7)
def FA.f (k : Nat) (a0_0 : Int) (l0_1 : List Int) (a1 : Int) (a2 : Int) : Option (Int) := FA.l0 k a1 0 (wrap64 (a2 - 1)) a0_0 l0_1
theorem FA.mono_l : ∀ k, (∀ y0 y1 y2 y3 y4, LeO (FA.l0 k y0 y1 y2 y3 y4) (FA.l0 (k + 1) y0 y1 y2 y3 y4))
 | 0 => fun _ _ _ _ _ r h => by simp [FA.l0] at h | k + 1 => by
  have ih0 := FA.mono_l k
  ·
   intro y0 y1 y2 y3 y4
   unfold FA.l0
   exact Mo1
theorem FA.mono : ∀ a0 a1 a2 a3 k, LeO (FA.f k a0 a1 a2 a3) (FA.f (k + 1) a0 a1 a2 a3) := by
 intro a0 a1 a2 a3 k
 have ih0 := FA.mono_l k
 unfold FA.f
 exact Mo1
theorem FA.calls (k : Nat) (a0_0 : Int) (A0_1 : Option Addr) (c0_1 : Nat) (l0_1 : List Int) (a1 : Int) (a2 : Int) (r : Int) (w : World) (hr0_1 : Kd.C (Kd.int .i64) w A0_1 l0_1.length l0_1) (hc0_1 : l0_1.length ≤ c0_1) (h : FA.f k a0_0 l0_1 a1 a2 = some r) :
  Calls Try.prog 66 #[.agg #[.int .i64 a0_0, .slice A0_1 l0_1.length c0_1], .int .i64 a1, .int .i64 a2] w fun e w' => e = .returned (.int .i64 r) ∧ Below w.heap.size w w' := by
 have hu26 := Try.underlying26
 have HR0_1 := am hr0_1
 have HC0_1 := am hc0_1
 clear hr0_1 hc0_1
 have HB := am (Below.refl w.heap.size w)
 have H : (FA.l0 k a1 0 (wrap64 (a2 - 1)) a0_0 l0_1) = some r := h
 clear h
 have H' := am H
 clear H
 go_enter Try.func66, Try.ntmps66
 go_wp2_with (first | ((with_reducible refine gate_dst (N := 3) rfl ?_); refine box_event ?hg (N := 3) ?hd (cs := #[.int .i64 a0_0, .slice A0_1 l0_1.length c0_1]) (t := 26) ?hr ?_; (case hd => rfl); (case hg => rfl); (case hr => exact Z111); intro gb12 hg w4 hbox hb; have BK12 := am (hbox); have GW12 := nG HB hg; have GE12 := nG HB hg; have GI12 := gI GE12; replace HB := am (below_step (uN HB) hb); clear hb hbox hg))
 go_loopg [7, 8] k (fun kq v7 v8 w' => ∃ (x7_1 : Int) (x8_1 : Int), v7 = .int .i64 x7_1 ∧ v8 = .int .i64 x8_1 ∧ Aside0 (FA.l0 kq a1 x7_1 x8_1 a0_0 l0_1 = some r) ∧ Aside0 (kq ≤ k) ∧ Aside0 (w'.heap[gb12]? = some (.cells #[.int .i64 a0_0, (.slice A0_1 l0_1.length c0_1)] 26 (0, 0))) ∧ Aside0 (Below w.heap.size w w'))
 case atStart => exact ⟨(0), (wrap64 (a2 - 1)), Z110, Z110, H', ⟨Nat.le_refl _⟩, ⟨pb BK12⟩, ⟨Z36⟩⟩
 case round =>
  clear H'
  try clear p2
  obtain ⟨x7_1, x8_1, rfl, rfl, HA, HK1, BK12, HB⟩ := hrel
  cases gk with
  | zero => exact absurd HA.out (by simp [FA.l0])
  | succ k1 =>
   have H := HA.out
   clear HA
   simp only [FA.l0] at H
   by_cases c5 : x8_1 ≥ 0
   rotate_left
   ·
    rw [if_neg c5] at H
    have c5b0 := decide_eq_false c5
    clear c5
    obtain rfl := Option.some.inj H
    go_wp2
    go_ret
    exact ⟨Z109, Z36⟩
   rw [if_pos c5] at H
   have c5b0 := decide_eq_true c5
   clear c5
   replace H := Option.bind_eq_some_iff.mp H
   obtain ⟨t13, A60, H⟩ := H
   try dsimp only at H
   have A6 := am A60
   clear A60
   by_cases c7 : t13 = true
   ·
    subst c7
    rw [if_pos rfl] at H
    have H' := am H
    clear H
    obtain ⟨hcz8_0, hcz8_1, hfz8_0, hfz8_1⟩ := ce2 BK12
    go_wp2_with (first | ((with_reducible refine gate_callee (f := 65) rfl ?_); refine goesL_ (some 21) rfl rfl Try.func65 Z112 rfl #[.agg #[.int .i64 a0_0, .slice A0_1 l0_1.length c0_1], .int .i64 (wrap64 (a1 + x8_1))] rfl Z140 ?_; (with_reducible refine (Faa.calls a0_0 _ _ l0_1 (wrap64 (a1 + x8_1)) true _ ?side1 ?side2 A6.out).mono ?_); (case side1 => exact uC HR0_1 HB); (case side2 => exact HC0_1.out); rintro e w9 ⟨rfl, hb⟩; refine ⟨_, rfl, ?_⟩; replace BK12 := kB BK12 hb; replace HB := am (below_step Z36 hb); (try clear hb); (try clear hb2); (try clear hk); (try clear hi)))
    go_roundg k1
    case measure => have := HK1.out; omega
    case rel => exact ⟨(wrap64 ((wrap64 (x7_1 * 2)) + 1)), (wrap64 (x8_1 - 1)), Z110, Z110, H', ⟨by have := HK1.out; omega⟩, ⟨pb BK12⟩, ⟨Z36⟩⟩
   replace c7 := Bool.eq_false_iff.mpr c7
   subst c7
   rw [if_neg (show ¬ (false = true) from Z16)] at H
   have H' := am H
   clear H
   obtain ⟨hcz10_0, hcz10_1, hfz10_0, hfz10_1⟩ := ce2 BK12
   go_wp2_with (first | ((with_reducible refine gate_callee (f := 65) rfl ?_); refine goesL_ (some 21) rfl rfl Try.func65 Z112 rfl #[.agg #[.int .i64 a0_0, .slice A0_1 l0_1.length c0_1], .int .i64 (wrap64 (a1 + x8_1))] rfl Z140 ?_; (with_reducible refine (Faa.calls a0_0 _ _ l0_1 (wrap64 (a1 + x8_1)) false _ ?side1 ?side2 A6.out).mono ?_); (case side1 => exact uC HR0_1 HB); (case side2 => exact HC0_1.out); rintro e w11 ⟨rfl, hb⟩; refine ⟨_, rfl, ?_⟩; replace BK12 := kB BK12 hb; replace HB := am (below_step Z36 hb); (try clear hb); (try clear hb2); (try clear hk); (try clear hi)))
   go_roundg k1
   case measure => have := HK1.out; omega
   case rel => exact ⟨(wrap64 (x7_1 * 2)), (wrap64 (x8_1 - 1)), Z110, Z110, H', ⟨by have := HK1.out; omega⟩, ⟨pb BK12⟩, ⟨Z36⟩⟩

end Go.Proofs.Ytllaofiopnhdgaa.PFnSparseParts
