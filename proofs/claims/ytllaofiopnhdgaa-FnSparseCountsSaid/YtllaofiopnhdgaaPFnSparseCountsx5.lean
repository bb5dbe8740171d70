-- made by wip/tools/myprint.py over the kit's print, for this claim
import Derived.Test.YtllaofiopnhdgaaPFnSparseCountsx0
import Derived.Test.YtllaofiopnhdgaaPFnSparseCountsx1
import Derived.Test.YtllaofiopnhdgaaPFnSparseCountsx2
import Derived.Test.YtllaofiopnhdgaaPFnSparseCountsx4
namespace Go.Proofs.Ytllaofiopnhdgaa.PFnSparseCounts
open Go.RowKit Go.Proofs.YtllaofiopnhdgaaW.PrintWords Go.Proofs.YtllaofiopnhdgaaW.PrintLast Go.Proofs.YtllaofiopnhdgaaW.PrintMore
open List (setIfInBounds_toArray set_cons_zero set_cons_succ)
attribute [local go_sem] max2_int min2_int max_two min_two max_three min_three max_four min_four   -- for this text's walks alone
set_option linter.unusedVariables false
set_option linter.unusedSimpArgs false

/-! ### spec_l1Cur_anyBits: function 47 -/
def spec_l1Cur_anyBits.f (k : Nat) (s0_0 : List Int) (s0_1 : Int) (s0_2 : Int) : Option (Int × List Int × Int × Int) := (spec_l1Cur_bits.f k s0_0 s0_1 s0_2 40).bind fun bt266 => ((spec_l1Cur_pick.f s0_0 bt266.2.2.1 bt266.2.2.2 16).bind fun bt273 => (if bt273.1 = 0 then ((spec_l1Cur_pick.f s0_0 bt273.2.1 bt273.2.2 2).bind fun bt276 => (if bt266.2.1.length < 17592186044416 then (some (bt266.1, (bt266.2.1 ++ [bt276.1]), bt276.2.1, bt276.2.2)) else (none))) else (if bt273.1 = 1 then ((spec_l1Cur_pick.f s0_0 bt273.2.1 bt273.2.2 3).bind fun bt282 => (some (wrap64 (bt266.1 + (wrap64 (bt282.1 - 1))), bt266.2.1, bt282.2.1, bt282.2.2))) else (if bt273.1 = 2 then (if (bt266.2.1.length : Int) > 0 then ((spec_l1Cur_pick.f s0_0 bt273.2.1 bt273.2.2 (bt266.2.1.length : Int)).bind fun bt285 => ((spec_l1Cur_among.f s0_0 bt285.2.1 bt285.2.2 (([(-1), 65535, 65536, 40000] : List Int))).bind fun bt291 => (if 0 ≤ bt285.1 then (if bt285.1 < (bt266.2.1.length : Int) then (some (bt266.1, (bt266.2.1.set (bt285.1 : Int).toNat bt291.1), bt291.2.1, bt291.2.2)) else (none)) else (none)))) else (some (bt266.1, bt266.2.1, bt273.2.1, bt273.2.2))) else (if bt273.1 = 3 then ((spec_l1Cur_pick.f s0_0 bt273.2.1 bt273.2.2 2).bind fun bt295 => ((spec_biNew.f (wrap64 (4096 - bt295.1))).bind fun bt298 => (some (bt298.1, bt298.2, bt295.2.1, bt295.2.2)))) else (if bt273.1 = 4 then ((spec_l1Cur_pick.f s0_0 bt273.2.1 bt273.2.2 5).bind fun bt302 => ((spec_biNew.f (wrap64 (16 * bt302.1))).bind fun bt305 => (some (bt305.1, bt305.2, bt302.2.1, bt302.2.2)))) else (some (bt266.1, bt266.2.1, bt273.2.1, bt273.2.2))))))))
theorem spec_l1Cur_anyBits.mono : ∀ a0 a1 a2 k, LeO (spec_l1Cur_anyBits.f k a0 a1 a2) (spec_l1Cur_anyBits.f (k + 1) a0 a1 a2) := by
 intro a0 a1 a2 k
 unfold spec_l1Cur_anyBits.f
 repeat' first
   | with_reducible first | exact spec_l1Cur_bits.mono .. | exact LeO.refl _ | exact LeO.none _ | refine LeO.ite ?_ ?_ | refine LeO.bind ?_ (fun _ => ?_)
   | exact spec_l1Cur_bits.mono .. | exact LeO.none _ | refine LeO.ite ?_ ?_ | refine LeO.bind ?_ (fun _ => ?_)
def spec_l1Cur_anyBits.T4 : Bool × List (List Nat × List Nat) := (true, [([], []), ([0], [0]), ([], []), ([2], [2]), ([3], [3]), ([1, 4, 3], [1, 4]), ([0, 1, 2, 3, 4, 5], []), ([6, 5, 5, 0, 1, 2, 3, 4, 5], [5, 6])])
def spec_l1Cur_anyBits.B4 : List Nat := [0, 1, 0, 4, 12, 31, 63, 127]
theorem spec_l1Cur_anyBits.tab4 : rtab .any (opsOf Try.f47 4) = spec_l1Cur_anyBits.T4 := by kernel_rfl
theorem spec_l1Cur_anyBits.bits4 : waitsOk spec_l1Cur_anyBits.T4.2 spec_l1Cur_anyBits.B4 = true := by kernel_rfl
def spec_l1Cur_anyBits.T6 : Bool × List (List Nat × List Nat) := (true, [([], []), ([0], [0]), ([], []), ([2], [2]), ([3], [3]), ([1, 4], [1, 4]), ([0, 1, 2, 3, 4, 5], []), ([6, 5, 3, 0, 1, 2, 3, 4, 5], [5, 6])])
def spec_l1Cur_anyBits.B6 : List Nat := [0, 1, 0, 4, 12, 31, 63, 127]
theorem spec_l1Cur_anyBits.tab6 : rtab .any (opsOf Try.f47 6) = spec_l1Cur_anyBits.T6 := by kernel_rfl
theorem spec_l1Cur_anyBits.bits6 : waitsOk spec_l1Cur_anyBits.T6.2 spec_l1Cur_anyBits.B6 = true := by kernel_rfl
def spec_l1Cur_anyBits.T9 : Bool × List (List Nat × List Nat) := (true, [([], []), ([0], [0]), ([], []), ([], []), ([3], [3]), ([4], [4]), ([2, 5], [2, 5]), ([], []), ([], []), ([7, 8, 6], [7, 8]), ([1, 6, 0, 1, 2, 3, 4, 5, 6, 7, 8, 9], [1, 6]), ([10, 9, 9, 0, 1, 2, 3, 4, 5, 6, 7, 8, 9], [9, 10])])
def spec_l1Cur_anyBits.B9 : List Nat := [0, 1, 0, 0, 8, 24, 60, 0, 0, 508, 1023, 2047]
theorem spec_l1Cur_anyBits.tab9 : rtab .any (opsOf Try.f47 9) = spec_l1Cur_anyBits.T9 := by kernel_rfl
theorem spec_l1Cur_anyBits.bits9 : waitsOk spec_l1Cur_anyBits.T9.2 spec_l1Cur_anyBits.B9 = true := by kernel_rfl
set_option maxHeartbeats 8000000 in
set_option maxRecDepth 100000 in
theorem spec_l1Cur_anyBits.calls (k : Nat) (g : Nat) (s0_0 : List Int) (s0_1 : Int) (s0_2 : Int) (r1 : Int) (r2 : List Int) (r3 : Int) (r4 : Int) (w0 w : World) (hI : IsS47 w0 w g s0_0 s0_1 s0_2) (hB : Below w0.heap.size w0 w) (h : spec_l1Cur_anyBits.f k s0_0 s0_1 s0_2 = some (r1, r2, r3, r4)) :
  Calls Try.prog 47 #[.pointer (some ⟨g, 0, none⟩)] w fun e w' => ∃ v1_ : Value, e = .returned (.agg #[.int .i64 r1, v1_]) ∧ Kd.R (Kd.int .i64) 3 w' w.heap.size (fun _ => True) v1_ r2 ∧ IsS47 w0 w' g s0_0 r3 r4 ∧ Below w0.heap.size w0 w' ∧ KeepBut w w' g none := by
 have hu26 := Try.underlying26
 have HI0 := Aside0.mk hI
 have HK := Aside0.mk (KeepBut.refl w g none)
 have HL := Aside0.mk hB.size
 clear hI
 have HW0 := Aside0.mk hB.size
 have HB := Aside0.mk hB
 clear hB
 have H : ((spec_l1Cur_bits.f k s0_0 s0_1 s0_2 40).bind fun bt266 => ((spec_l1Cur_pick.f s0_0 bt266.2.2.1 bt266.2.2.2 16).bind fun bt273 => (if bt273.1 = 0 then ((spec_l1Cur_pick.f s0_0 bt273.2.1 bt273.2.2 2).bind fun bt276 => (if bt266.2.1.length < 17592186044416 then (some (bt266.1, (bt266.2.1 ++ [bt276.1]), bt276.2.1, bt276.2.2)) else (none))) else (if bt273.1 = 1 then ((spec_l1Cur_pick.f s0_0 bt273.2.1 bt273.2.2 3).bind fun bt282 => (some (wrap64 (bt266.1 + (wrap64 (bt282.1 - 1))), bt266.2.1, bt282.2.1, bt282.2.2))) else (if bt273.1 = 2 then (if (bt266.2.1.length : Int) > 0 then ((spec_l1Cur_pick.f s0_0 bt273.2.1 bt273.2.2 (bt266.2.1.length : Int)).bind fun bt285 => ((spec_l1Cur_among.f s0_0 bt285.2.1 bt285.2.2 (([(-1), 65535, 65536, 40000] : List Int))).bind fun bt291 => (if 0 ≤ bt285.1 then (if bt285.1 < (bt266.2.1.length : Int) then (some (bt266.1, (bt266.2.1.set (bt285.1 : Int).toNat bt291.1), bt291.2.1, bt291.2.2)) else (none)) else (none)))) else (some (bt266.1, bt266.2.1, bt273.2.1, bt273.2.2))) else (if bt273.1 = 3 then ((spec_l1Cur_pick.f s0_0 bt273.2.1 bt273.2.2 2).bind fun bt295 => ((spec_biNew.f (wrap64 (4096 - bt295.1))).bind fun bt298 => (some (bt298.1, bt298.2, bt295.2.1, bt295.2.2)))) else (if bt273.1 = 4 then ((spec_l1Cur_pick.f s0_0 bt273.2.1 bt273.2.2 5).bind fun bt302 => ((spec_biNew.f (wrap64 (16 * bt302.1))).bind fun bt305 => (some (bt305.1, bt305.2, bt302.2.1, bt302.2.2)))) else (some (bt266.1, bt266.2.1, bt273.2.1, bt273.2.2))))))))) = some (r1, r2, r3, r4) := h
 clear h
 replace H := Option.bind_eq_some_iff.mp H
 obtain ⟨⟨t266, t267, t270, t271⟩, A20, H⟩ := H
 try dsimp only at H
 have A2 := Aside0.mk A20
 clear A20
 replace H := Option.bind_eq_some_iff.mp H
 obtain ⟨⟨t273, t274, t275⟩, A30, H⟩ := H
 try dsimp only at H
 have A3 := Aside0.mk A30
 clear A30
 by_cases c4 : t273 = 0
 ·
  rw [if_pos c4] at H
  have c4b0 : (t273 == 0) = true := beq_iff_eq.mpr c4
  have c4b1 : (t273 != 0) = false := bne_eq_false_iff_eq.mpr c4
  clear c4
  replace H := Option.bind_eq_some_iff.mp H
  obtain ⟨⟨t276, t277, t278⟩, A50, H⟩ := H
  try dsimp only at H
  have A5 := Aside0.mk A50
  clear A50
  by_cases c6 : t267.length < 17592186044416
  ·
   rw [if_pos c6] at H
   have LMc6 := Aside0.mk c6
   clear c6
   obtain ⟨y279, hy279⟩ : ∃ y_ : List Int, y_ = (t267 ++ [t276]) := ⟨_, rfl⟩
   replace H : (some (t266, y279, t277, t278)) = some (r1, r2, r3, r4) := by first | (rw [hy279]; with_reducible exact H) | (have H2_ := (Option.bind_some _ _).symm.trans H; rw [hy279]; with_reducible exact H2_) | (have H2_ := (Option.bind_some _ _).symm.trans H; with_reducible exact H2_) | with_reducible exact H | (rw [hy279]; exact H) | exact H
   have Ny279 := Aside0.mk hy279
   clear hy279
   simp only [Option.some.injEq, Prod.mk.injEq] at H
   obtain ⟨rfl, rfl, rfl, rfl⟩ := H
   go_enter Try.func47, Try.ntmps47
   try go_wp2_with (first | ((with_reducible refine gate_dst (N := 2) rfl ?_); refine box_event ?hg (N := 2) ?hd (cs := #[.int .i64 0, .slice none 0 0]) (t := 26) ?hr ?_; (case hd => rfl); (case hg => rfl); (case hr => exact Z93); intro gb265 hg w7 hbox hb; replace HB := Aside0.mk (below_step Z4 hb); have BK265 := Aside0.mk (hbox); have GW265 := Aside0.mk ((by rw [hg]; exact (keep_size (w := w) (g := g) (row := none) Z2) : w.heap.size ≤ gb265)); have GE265 := Aside0.mk ((Nat.le_trans HW0.out (by rw [hg]; exact (keep_size (w := w) (g := g) (row := none) Z2) : w.heap.size ≤ gb265) : w0.heap.size ≤ gb265)); replace HK := Aside0.mk (KeepBut.trans Z2 (KeepBut.of_below hb g none) (.inl rfl)); have NB0_265 := Aside0.mk ((by rw [hg]; exact Nat.ne_of_lt (IsS47.lt (show IsS47 w0 _ g s0_0 s0_1 s0_2 from Z1)) : g ≠ gb265)); have NB265_0 := Aside0.mk ((by rw [hg]; exact Nat.ne_of_gt (IsS47.lt (show IsS47 w0 _ g s0_0 s0_1 s0_2 from Z1)) : gb265 ≠ g)); replace HI0 := Aside0.mk (IsS47.below Z1 hb); clear hb hbox hg) | ((with_reducible refine gate_callee (f := 78) rfl ?_); refine goesL_ (some 5) rfl rfl Try.func78 Z92 rfl #[.pointer (some ⟨g, 0, none⟩), .int .i64 40] rfl Z89 ?_; (with_reducible refine (spec_l1Cur_bits.calls k g s0_0 s0_1 s0_2 40 t266 t267 t270 t271 w0 _ ?side1 ?side2 A2.out).mono ?_); (case side1 => exact Z13); (case side2 => exact Z20); rintro e w8 ⟨v268, rfl, ho0, hi, hb, hk⟩; refine ⟨_, rfl, ?_⟩; replace BK265 := Aside0.mk (KeepBut.blk hk (g' := gb265) (o := .cells #[.int .i64 0, .slice none 0 0] 26 (0, 0)) (uK BK265) NB265_0.out Z37); have HO269 := Aside0.mk (Kd.R_lower ho0 (keep_size (w := w) (g := g) (row := none) Z11)); replace HK := Aside0.mk (KeepBut.trans Z11 hk (.inl rfl)); replace HB := Aside0.mk (hb); replace HI0 := Aside0.mk (hi); (try clear hb); (try clear hb2); (try clear hk); (try clear hi); (try clear ho0)) | ((with_reducible refine gate_dst (N := 3) rfl ?_); refine box_event ?hg (N := 3) ?hd (cs := #[.int .i64 0, .slice none 0 0]) (t := 26) ?hr ?_; (case hd => rfl); (case hg => rfl); (case hr => exact Z93); intro gb272 hg w9 hbox hb; replace HO269 := Aside0.mk (Kd.R_below (uR HO269) hb); replace HB := Aside0.mk (below_step Z20 hb); have BK272 := Aside0.mk (hbox); have GW272 := Aside0.mk ((by rw [hg]; exact (keep_size (w := w) (g := g) (row := none) Z11) : w.heap.size ≤ gb272)); have GE272 := Aside0.mk ((Nat.le_trans HW0.out (by rw [hg]; exact (keep_size (w := w) (g := g) (row := none) Z11) : w.heap.size ≤ gb272) : w0.heap.size ≤ gb272)); replace HK := Aside0.mk (KeepBut.trans Z11 (KeepBut.of_below hb g none) (.inl rfl)); have NB265_272 := nL BK265 hg; have NB272_265 := nR BK265 hg; replace BK265 := kB BK265 hb; have NB0_272 := Aside0.mk ((by rw [hg]; exact Nat.ne_of_lt (IsS47.lt (show IsS47 w0 _ g s0_0 t270 t271 from Z13)) : g ≠ gb272)); have NB272_0 := Aside0.mk ((by rw [hg]; exact Nat.ne_of_gt (IsS47.lt (show IsS47 w0 _ g s0_0 t270 t271 from Z13)) : gb272 ≠ g)); replace HI0 := Aside0.mk (IsS47.below Z13 hb); clear hb hbox hg; have hnb10 := NB272_265.out; have hnc10 := NB265_272.out; have hnb11 := NB272_0.out; have hnc11 := NB0_272.out; obtain ⟨hcz12_0, hcz12_1, hfz12_0, hfz12_1⟩ := ce2 BK272; obtain ⟨Ao13, co13, eo13⟩ := Kd.R_slice HO269.out; subst eo13) | ((with_reducible refine gate_callee (f := 44) rfl ?_); refine goesL_ (some 7) rfl rfl Try.func44 Z92 rfl #[.pointer (some ⟨g, 0, none⟩), .int .i64 16] rfl Z89 ?_; (with_reducible refine (spec_l1Cur_pick.calls g s0_0 t270 t271 16 t273 t274 t275 w0 _ ?side1 ?side2 A3.out).mono ?_); (case side1 => exact Z5); (case side2 => exact Z9); rintro e w14 ⟨rfl, hi, hb, hk⟩; refine ⟨_, rfl, ?_⟩; replace BK265 := Aside0.mk (KeepBut.blk hk (g' := gb265) (o := .cells #[.int .i64 0, .slice none 0 0] 26 (0, 0)) (by refine uW ?_; refine blk_far ?_ NB265_272.out _; refine uW ?_; refine blk_far ?_ NB265_272.out _; refine uW ?_; exact BK265.out) NB265_0.out Z37); replace HO269 := Aside0.mk (Kd.R_mono (Kd.R_keep (IsS47.apart (show IsS47 w0 _ g s0_0 t270 t271 from Z5) (fS HO269 BK272 Z19) Z19) hk (fun _ h => h.2)) (fun _ h => h.1)); replace BK272 := Aside0.mk (KeepBut.blk hk (g' := gb272) (o := .cells #[.int .i64 t266, .slice Ao13 t267.length co13] 26 (0, 0)) (by refine uW ?_; refine blk_put (cs := #[.int .i64 t266, .slice none 0 0]) ?_ 1 _ rfl; refine uW ?_; refine blk_put (cs := #[.int .i64 0, .slice none 0 0]) ?_ 0 _ rfl; refine uW ?_; exact BK272.out) NB272_0.out Z37); replace HK := Aside0.mk (KeepBut.trans Z8 hk (.inl rfl)); replace HB := Aside0.mk (hb); replace HI0 := Aside0.mk (hi); (try clear hb); (try clear hb2); (try clear hk); (try clear hi)))
   replace HO269 := Aside0.mk (Kd.R_drew HO269.out)
   replace BK265 := Aside0.mk (blk_drew BK265.out)
   replace BK272 := Aside0.mk (blk_drew BK272.out)
   replace HI0 := Aside0.mk (IsS47.drew HI0.out)
   replace HK := Aside0.mk (keep_drew HK.out)
   replace HB := Aside0.mk (below_drew1 HB.out)
   refine start_ (n := 8) (S := fun w' => w'.cell? ⟨gb272, 0, none⟩ = some (.int .i64 t266) ∧ w'.cell? ⟨gb272, 1, none⟩ = some (.slice Ao13 t267.length co13)) (ds := [7]) (bA 8 0) Z92 rfl rfl ⟨bc BK272 0, bc BK272 1⟩ (fun hHeld => ?_); refine with_tabW spec_l1Cur_anyBits.tab4 spec_l1Cur_anyBits.bits4 (fun HT_ HW_ => ?_)
   generalize w14.drew = w15 at HO269 BK265 BK272 HI0 HK HB hHeld ⊢
   refine pS 0 10 (bA 8 1) ?_
   refine pS 2 12 (bA 8 5) ?_
   refine tS2 1 11 (bA 8 7) hHeld ?_
   refine one_ (i := 3) (N := some 13) (bA 8 15) rfl rfl (one_of HT_.out Z92) Z19 (fun K hK => ?_)
   refine goes_ Try.func44 Z92 rfl #[.pointer (some ⟨g, 0, none⟩), .int .i64 2] Z63 rfl rfl Z89 ?_
   with_reducible refine (spec_l1Cur_pick.calls g s0_0 t274 t275 2 t276 t277 t278 w0 _ ?side1 ?side2 A5.out).mono ?_
   (case side1 => exact Z5)
   (case side2 => exact Z9)
   rintro e w16 ⟨rfl, hi, hb, hk⟩
   refine ⟨_, rfl, ?_⟩
   replace BK265 := Aside0.mk (KeepBut.blk hk (g' := gb265) (o := .cells #[.int .i64 0, .slice none 0 0] 26 (0, 0)) (uK BK265) NB265_0.out Z37)
   replace HO269 := Aside0.mk (Kd.R_mono (Kd.R_keep (IsS47.apart (show IsS47 w0 _ g s0_0 t274 t275 from Z5) (uR HO269) Z19) hk (fun _ h => h.2)) (fun _ h => h.1))
   replace BK272 := Aside0.mk (KeepBut.blk hk (g' := gb272) (o := .cells #[.int .i64 t266, .slice Ao13 t267.length co13] 26 (0, 0)) (uK BK272) NB272_0.out Z37)
   replace HK := Aside0.mk (KeepBut.trans Z8 hk (.inl rfl))
   replace HB := Aside0.mk (hb)
   replace HI0 := Aside0.mk (hi)
   (try clear hb)
   (try clear hb2)
   (try clear hk)
   (try clear hi)
   refine hK.out _ _ ⟨bc BK272 0, bc BK272 1⟩ (fun hHeld => ?_)
   clear hK K
   refine norm_ (a' := ?_) ?_ ?_
   rotate_left
   ·
    show Act.put _ (some 13) _ = _
    simp only [Act.put, setIfInBounds_toArray, set_cons_zero, set_cons_succ, i64_w, i32_w]
    rfl
   refine one_ (i := 4) (N := some 14) (bA 8 31) rfl rfl (one_of HT_.out Z92) Z19 (fun K hK => ?_)
   refine value_ (w1 := ?_) (v := ?_) Z63 rfl ?_ ?_
   rotate_left 2
   ·
    go_simp
    constructor
    ·
     rfl
    rfl
   refine hK.out _ _ ⟨(blk_cell (blk_alloc BK272.out _) 0).trans rfl, (blk_cell (blk_alloc BK272.out _) 1).trans rfl⟩ (fun hHeld => ?_)
   clear hK K
   refine norm_ (a' := ?_) ?_ ?_
   rotate_left
   ·
    show Act.put _ (some 14) _ = _
    simp only [Act.put, setIfInBounds_toArray, set_cons_zero, set_cons_succ, i64_w, i32_w]
    rfl
   refine one_ (i := 5) (N := some 15) (bA 8 63) rfl rfl (one_of HT_.out Z92) Z19 (fun K hK => ?_)
   refine Kd.R_append_step (Kd.int .i64) w.heap.size Z63 (.tmp 11) (.tmp 14) 24 3 (.int .i64 0) 8 rfl Try.underlying24 info3 rfl Z19 Z69 (.slice Ao13 t267.length co13) t267 t276 [.int .i64 t276] (fun _ => True) (fun _ => False) rfl rfl ?aP (fun _ hk => hk.elim) ?aF ?aO (Below.refl _ _) ?aS ?aL ?_
   (case aP => exact rfl)
   (case aF => exact (fun _ _ => trivial))
   (case aO => exact (uR HO269))
   (case aS => exact (keep_size (w := w) (g := g) (row := none) Z8))
   (case aL => have := LMc6.out; omega)
   intro v280 w17 ho hb hg hat
   rw [← Ny279.out] at ho
   replace BK265 := Aside0.mk (blk_grown (g := gb265) (o := .cells #[.int .i64 0, .slice none 0 0] 26 (0, 0)) (uK BK265) hg (Kd.R_ne HO269.out BK265.out Z19))
   replace BK272 := Aside0.mk (blk_grown (g := gb272) (o := .cells #[.int .i64 t266, .slice Ao13 t267.length co13] 26 (0, 0)) (uK BK272) hg (Kd.R_ne HO269.out BK272.out Z19))
   replace HB := Aside0.mk (below_weaken Z9 HL.out hb)
   replace HI0 := Aside0.mk (IsS47.grown Z5 hg (IsS47.own_ne HI0.out HO269.out Z19))
   replace HK := Aside0.mk (KeepBut.trans Z8 (KeepBut.of_grown hg g) (Kd.R_base2 HO269.out))
   have HO281 := Aside0.mk (ho)
   clear HO269
   clear ho hb hg hat
   obtain ⟨Ao18, co18, eo18⟩ := Kd.R_slice HO281.out
   (first | subst eo18 | (injection eo18 with f1_ f2_ f3_; have f4_ := f1_.symm; have f5_ := f3_.symm; clear f1_ f2_ f3_; subst f4_; subst f5_))
   refine hK.out _ _ ⟨bc BK272 0, bc BK272 1⟩ (fun hHeld => ?_)
   clear hK K
   refine norm_ (a' := ?_) ?_ ?_
   rotate_left
   ·
    show Act.put _ (some 15) _ = _
    simp only [Act.put, setIfInBounds_toArray, set_cons_zero, set_cons_succ, i64_w, i32_w]
    rfl
   refine pS 6 16 (bA 8 127) ?_
   refine last_ (i := 7) (N := none) (bA 8 255) rfl rfl (one_of HT_.out Z92) Z19 (fun K hK => ?_)
   have hs19 : w17.cell? ⟨gb272, 1, none⟩ = some (.slice Ao13 t267.length co13) := bc BK272 1
   have hfs19 := blk_frozen BK272.out 1
   have hns19_0 := NB265_272.out
   have hms19_0 := NB272_265.out
   refine skip_ (w1 := ?_) Z63 rfl ?_ ?_
   rotate_left
   ·
    go_simp
    rfl
   refine hK.out _ _ ?_
   clear hK K
   refine done_ (done_of HT_.out Z92) ?_
   obtain ⟨hcz20_0, hcz20_1, hfz20_0, hfz20_1⟩ := ce2 BK272
   have hnb21 := NB265_0.out
   have hnc21 := NB0_265.out
   obtain ⟨hcz22_0, hcz22_1, hfz22_0, hfz22_1⟩ := ce2 BK265
   try go_wp2
   refine bodyPost_ret (results_cell_row rfl _ _ gb265 26 #[.int .i64 t266, .slice Ao18 y279.length co18] (0, 0) _ rfl (by refine uW ?_; refine blk_put (cs := #[.int .i64 t266, .slice none 0 0]) ?_ 1 _ rfl; refine uW ?_; refine blk_put (cs := #[.int .i64 0, .slice none 0 0]) ?_ 0 _ rfl; refine uW ?_; refine blk_far ?_ NB265_272.out _; refine uW ?_; exact BK265.out) Try.underlying26 rfl Z92) rfl ?_
   exact ⟨_, Z90, by (with_reducible repeat (first | apply Kd.R_alloc | apply Kd.R_drewN | apply Kd.R_drew)); exact Kd.R_mono (Kd.R_far (p := ⟨gb265, 1, none⟩) (Kd.R_far (p := ⟨gb265, 0, none⟩) (Kd.R_far (p := ⟨gb272, 1, none⟩) (Kd.R_types (Kd.R_types HO281.out BK272.out Z19) BK265.out Z19) (fun _ hk => hk.1.2) (.slice Ao18 y279.length co18)) (fun _ hk => hk.2) (.int .i64 t266)) (fun _ hk => hk.2) (.slice Ao18 y279.length co18)) (fun _ hk => trivial), Z5, Z9, Z8⟩
  rw [if_neg c6] at H
  exact absurd H Z37
 rw [if_neg c4] at H
 have c4b0 : (t273 == 0) = false := beq_eq_false_iff_ne.mpr c4
 have c4b1 : (t273 != 0) = true := bne_iff_ne.mpr c4
 by_cases c23 : t273 = 1
 ·
  rw [if_pos c23] at H
  have c23b0 : (t273 == 1) = true := beq_iff_eq.mpr c23
  have c23b1 : (t273 != 1) = false := bne_eq_false_iff_eq.mpr c23
  clear c23
  replace H := Option.bind_eq_some_iff.mp H
  obtain ⟨⟨t282, t283, t284⟩, A240, H⟩ := H
  try dsimp only at H
  have A24 := Aside0.mk A240
  clear A240
  simp only [Option.some.injEq, Prod.mk.injEq] at H
  obtain ⟨rfl, rfl, rfl, rfl⟩ := H
  go_enter Try.func47, Try.ntmps47
  try go_wp2_with (first | ((with_reducible refine gate_dst (N := 2) rfl ?_); refine box_event ?hg (N := 2) ?hd (cs := #[.int .i64 0, .slice none 0 0]) (t := 26) ?hr ?_; (case hd => rfl); (case hg => rfl); (case hr => exact Z93); intro gb265 hg w25 hbox hb; replace HB := Aside0.mk (below_step Z4 hb); have BK265 := Aside0.mk (hbox); have GW265 := Aside0.mk ((by rw [hg]; exact (keep_size (w := w) (g := g) (row := none) Z2) : w.heap.size ≤ gb265)); have GE265 := Aside0.mk ((Nat.le_trans HW0.out (by rw [hg]; exact (keep_size (w := w) (g := g) (row := none) Z2) : w.heap.size ≤ gb265) : w0.heap.size ≤ gb265)); replace HK := Aside0.mk (KeepBut.trans Z2 (KeepBut.of_below hb g none) (.inl rfl)); have NB0_265 := Aside0.mk ((by rw [hg]; exact Nat.ne_of_lt (IsS47.lt (show IsS47 w0 _ g s0_0 s0_1 s0_2 from Z1)) : g ≠ gb265)); have NB265_0 := Aside0.mk ((by rw [hg]; exact Nat.ne_of_gt (IsS47.lt (show IsS47 w0 _ g s0_0 s0_1 s0_2 from Z1)) : gb265 ≠ g)); replace HI0 := Aside0.mk (IsS47.below Z1 hb); clear hb hbox hg) | ((with_reducible refine gate_callee (f := 78) rfl ?_); refine goesL_ (some 5) rfl rfl Try.func78 Z92 rfl #[.pointer (some ⟨g, 0, none⟩), .int .i64 40] rfl Z89 ?_; (with_reducible refine (spec_l1Cur_bits.calls k g s0_0 s0_1 s0_2 40 t266 t267 t270 t271 w0 _ ?side1 ?side2 A2.out).mono ?_); (case side1 => exact Z13); (case side2 => exact Z20); rintro e w26 ⟨v268, rfl, ho0, hi, hb, hk⟩; refine ⟨_, rfl, ?_⟩; replace BK265 := Aside0.mk (KeepBut.blk hk (g' := gb265) (o := .cells #[.int .i64 0, .slice none 0 0] 26 (0, 0)) (uK BK265) NB265_0.out Z37); have HO269 := Aside0.mk (Kd.R_lower ho0 (keep_size (w := w) (g := g) (row := none) Z11)); replace HK := Aside0.mk (KeepBut.trans Z11 hk (.inl rfl)); replace HB := Aside0.mk (hb); replace HI0 := Aside0.mk (hi); (try clear hb); (try clear hb2); (try clear hk); (try clear hi); (try clear ho0)) | ((with_reducible refine gate_dst (N := 3) rfl ?_); refine box_event ?hg (N := 3) ?hd (cs := #[.int .i64 0, .slice none 0 0]) (t := 26) ?hr ?_; (case hd => rfl); (case hg => rfl); (case hr => exact Z93); intro gb272 hg w27 hbox hb; replace HO269 := Aside0.mk (Kd.R_below (uR HO269) hb); replace HB := Aside0.mk (below_step Z20 hb); have BK272 := Aside0.mk (hbox); have GW272 := Aside0.mk ((by rw [hg]; exact (keep_size (w := w) (g := g) (row := none) Z11) : w.heap.size ≤ gb272)); have GE272 := Aside0.mk ((Nat.le_trans HW0.out (by rw [hg]; exact (keep_size (w := w) (g := g) (row := none) Z11) : w.heap.size ≤ gb272) : w0.heap.size ≤ gb272)); replace HK := Aside0.mk (KeepBut.trans Z11 (KeepBut.of_below hb g none) (.inl rfl)); have NB265_272 := nL BK265 hg; have NB272_265 := nR BK265 hg; replace BK265 := kB BK265 hb; have NB0_272 := Aside0.mk ((by rw [hg]; exact Nat.ne_of_lt (IsS47.lt (show IsS47 w0 _ g s0_0 t270 t271 from Z13)) : g ≠ gb272)); have NB272_0 := Aside0.mk ((by rw [hg]; exact Nat.ne_of_gt (IsS47.lt (show IsS47 w0 _ g s0_0 t270 t271 from Z13)) : gb272 ≠ g)); replace HI0 := Aside0.mk (IsS47.below Z13 hb); clear hb hbox hg; have hnb28 := NB272_265.out; have hnc28 := NB265_272.out; have hnb29 := NB272_0.out; have hnc29 := NB0_272.out; obtain ⟨hcz30_0, hcz30_1, hfz30_0, hfz30_1⟩ := ce2 BK272; obtain ⟨Ao31, co31, eo31⟩ := Kd.R_slice HO269.out; subst eo31) | ((with_reducible refine gate_callee (f := 44) rfl ?_); refine goesL_ (some 7) rfl rfl Try.func44 Z92 rfl #[.pointer (some ⟨g, 0, none⟩), .int .i64 16] rfl Z89 ?_; (with_reducible refine (spec_l1Cur_pick.calls g s0_0 t270 t271 16 t273 t274 t275 w0 _ ?side1 ?side2 A3.out).mono ?_); (case side1 => exact Z5); (case side2 => exact Z9); rintro e w32 ⟨rfl, hi, hb, hk⟩; refine ⟨_, rfl, ?_⟩; replace BK265 := Aside0.mk (KeepBut.blk hk (g' := gb265) (o := .cells #[.int .i64 0, .slice none 0 0] 26 (0, 0)) (by refine uW ?_; refine blk_far ?_ NB265_272.out _; refine uW ?_; refine blk_far ?_ NB265_272.out _; refine uW ?_; exact BK265.out) NB265_0.out Z37); replace HO269 := Aside0.mk (Kd.R_mono (Kd.R_keep (IsS47.apart (show IsS47 w0 _ g s0_0 t270 t271 from Z5) (fS HO269 BK272 Z19) Z19) hk (fun _ h => h.2)) (fun _ h => h.1)); replace BK272 := Aside0.mk (KeepBut.blk hk (g' := gb272) (o := .cells #[.int .i64 t266, .slice Ao31 t267.length co31] 26 (0, 0)) (by refine uW ?_; refine blk_put (cs := #[.int .i64 t266, .slice none 0 0]) ?_ 1 _ rfl; refine uW ?_; refine blk_put (cs := #[.int .i64 0, .slice none 0 0]) ?_ 0 _ rfl; refine uW ?_; exact BK272.out) NB272_0.out Z37); replace HK := Aside0.mk (KeepBut.trans Z8 hk (.inl rfl)); replace HB := Aside0.mk (hb); replace HI0 := Aside0.mk (hi); (try clear hb); (try clear hb2); (try clear hk); (try clear hi)))
  replace HO269 := Aside0.mk (Kd.R_drew HO269.out)
  replace BK265 := Aside0.mk (blk_drew BK265.out)
  replace BK272 := Aside0.mk (blk_drew BK272.out)
  replace HI0 := Aside0.mk (IsS47.drew HI0.out)
  replace HK := Aside0.mk (keep_drew HK.out)
  replace HB := Aside0.mk (below_drew1 HB.out)
  refine start_ (n := 8) (S := fun w' => w'.cell? ⟨gb272, 0, none⟩ = some (.int .i64 t266) ∧ w'.cell? ⟨gb272, 1, none⟩ = some (.slice Ao31 t267.length co31)) (ds := [7]) (bA 8 0) Z92 rfl rfl ⟨bc BK272 0, bc BK272 1⟩ (fun hHeld => ?_); refine with_tabW spec_l1Cur_anyBits.tab6 spec_l1Cur_anyBits.bits6 (fun HT_ HW_ => ?_)
  generalize w32.drew = w33 at HO269 BK265 BK272 HI0 HK HB hHeld ⊢
  refine pS 0 19 (bA 8 1) ?_
  refine pS 2 21 (bA 8 5) ?_
  refine tS2 1 20 (bA 8 7) hHeld ?_
  refine one_ (i := 3) (N := some 22) (bA 8 15) rfl rfl (one_of HT_.out Z92) Z19 (fun K hK => ?_)
  refine goes_ Try.func44 Z92 rfl #[.pointer (some ⟨g, 0, none⟩), .int .i64 3] Z63 rfl rfl Z89 ?_
  with_reducible refine (spec_l1Cur_pick.calls g s0_0 t274 t275 3 t282 t283 t284 w0 _ ?side1 ?side2 A24.out).mono ?_
  (case side1 => exact Z5)
  (case side2 => exact Z9)
  rintro e w34 ⟨rfl, hi, hb, hk⟩
  refine ⟨_, rfl, ?_⟩
  replace BK265 := Aside0.mk (KeepBut.blk hk (g' := gb265) (o := .cells #[.int .i64 0, .slice none 0 0] 26 (0, 0)) (uK BK265) NB265_0.out Z37)
  replace HO269 := Aside0.mk (Kd.R_mono (Kd.R_keep (IsS47.apart (show IsS47 w0 _ g s0_0 t274 t275 from Z5) (uR HO269) Z19) hk (fun _ h => h.2)) (fun _ h => h.1))
  replace BK272 := Aside0.mk (KeepBut.blk hk (g' := gb272) (o := .cells #[.int .i64 t266, .slice Ao31 t267.length co31] 26 (0, 0)) (uK BK272) NB272_0.out Z37)
  replace HK := Aside0.mk (KeepBut.trans Z8 hk (.inl rfl))
  replace HB := Aside0.mk (hb)
  replace HI0 := Aside0.mk (hi)
  (try clear hb)
  (try clear hb2)
  (try clear hk)
  (try clear hi)
  refine hK.out _ _ ⟨bc BK272 0, bc BK272 1⟩ (fun hHeld => ?_)
  clear hK K
  refine norm_ (a' := ?_) ?_ ?_
  rotate_left
  ·
   show Act.put _ (some 22) _ = _
   simp only [Act.put, setIfInBounds_toArray, set_cons_zero, set_cons_succ, i64_w, i32_w]
   rfl
  refine pS 4 23 (bA 8 31) ?_
  refine pS 5 24 (bA 8 63) ?_
  refine pS 6 25 (bA 8 127) ?_
  refine last_ (i := 7) (N := none) (bA 8 255) rfl rfl (one_of HT_.out Z92) Z19 (fun K hK => ?_)
  have hs35 : w34.cell? ⟨gb272, 0, none⟩ = some (.int .i64 t266) := bc BK272 0
  have hfs35 := blk_frozen BK272.out 0
  have hns35_0 := NB265_272.out
  have hms35_0 := NB272_265.out
  refine skip_ (w1 := ?_) Z63 rfl ?_ ?_
  rotate_left
  ·
   go_simp
   rfl
  refine hK.out _ _ ?_
  clear hK K
  refine done_ (done_of HT_.out Z92) ?_
  obtain ⟨hcz36_0, hcz36_1, hfz36_0, hfz36_1⟩ := ce2 BK272
  have hnb37 := NB265_0.out
  have hnc37 := NB0_265.out
  obtain ⟨hcz38_0, hcz38_1, hfz38_0, hfz38_1⟩ := ce2 BK265
  try go_wp2
  refine bodyPost_ret (results_cell_row rfl _ _ gb265 26 #[.int .i64 (wrap64 (t266 + (wrap64 (t282 - 1)))), .slice Ao31 t267.length co31] (0, 0) _ rfl (by refine uW ?_; refine blk_put (cs := #[.int .i64 (wrap64 (t266 + (wrap64 (t282 - 1)))), .slice none 0 0]) ?_ 1 _ rfl; refine uW ?_; refine blk_put (cs := #[.int .i64 0, .slice none 0 0]) ?_ 0 _ rfl; refine uW ?_; refine blk_far ?_ NB265_272.out _; refine uW ?_; exact BK265.out) Try.underlying26 rfl Z92) rfl ?_
  exact ⟨_, Z90, by (with_reducible repeat (first | apply Kd.R_alloc | apply Kd.R_drewN | apply Kd.R_drew)); exact Kd.R_mono (Kd.R_far (p := ⟨gb265, 1, none⟩) (Kd.R_far (p := ⟨gb265, 0, none⟩) (Kd.R_far (p := ⟨gb272, 0, none⟩) (Kd.R_types (Kd.R_types HO269.out BK272.out Z19) BK265.out Z19) (fun _ hk => hk.1.2) (.int .i64 (wrap64 (t266 + (wrap64 (t282 - 1)))))) (fun _ hk => hk.2) (.int .i64 (wrap64 (t266 + (wrap64 (t282 - 1)))))) (fun _ hk => hk.2) (.slice Ao31 t267.length co31)) (fun _ hk => trivial), Z5, Z9, Z8⟩
 rw [if_neg c23] at H
 have c23b0 : (t273 == 1) = false := beq_eq_false_iff_ne.mpr c23
 have c23b1 : (t273 != 1) = true := bne_iff_ne.mpr c23
 by_cases c39 : t273 = 2
 ·
  rw [if_pos c39] at H
  have c39b0 : (t273 == 2) = true := beq_iff_eq.mpr c39
  have c39b1 : (t273 != 2) = false := bne_eq_false_iff_eq.mpr c39
  clear c39
  by_cases c40 : (t267.length : Int) > 0
  ·
   rw [if_pos c40] at H
   have c40b0 : decide (0 < (t267.length : Int)) = true := decide_eq_true c40
   have c40b1 : decide (0 < t267.length) = true := decide_eq_true Z69
   clear c40
   replace H := Option.bind_eq_some_iff.mp H
   obtain ⟨⟨t285, t286, t287⟩, A410, H⟩ := H
   try dsimp only at H
   have A41 := Aside0.mk A410
   clear A410
   obtain ⟨y288, hy288⟩ : ∃ y_ : List Int, y_ = (([(-1), 65535, 65536, 40000] : List Int)) := ⟨_, rfl⟩
   replace H : ((spec_l1Cur_among.f s0_0 t286 t287 y288).bind fun bt291 => (if 0 ≤ t285 then (if t285 < (t267.length : Int) then (some (t266, (t267.set (t285 : Int).toNat bt291.1), bt291.2.1, bt291.2.2)) else (none)) else (none))) = some (r1, r2, r3, r4) := by first | (rw [hy288]; with_reducible exact H) | (have H2_ := (Option.bind_some _ _).symm.trans H; rw [hy288]; with_reducible exact H2_) | (have H2_ := (Option.bind_some _ _).symm.trans H; with_reducible exact H2_) | with_reducible exact H | (rw [hy288]; exact H) | exact H
   have Ny288 := Aside0.mk hy288
   clear hy288
   replace H := Option.bind_eq_some_iff.mp H
   obtain ⟨⟨t291, t292, t293⟩, A420, H⟩ := H
   try dsimp only at H
   have A42 := Aside0.mk A420
   clear A420
   by_cases c43 : 0 ≤ t285
   ·
    rw [if_pos c43] at H
    have c43b0 : decide (0 ≤ t285) = true := decide_eq_true c43
    clear c43
    by_cases c44 : t285 < (t267.length : Int)
    ·
     rw [if_pos c44] at H
     have c44b0 : decide (t285 < (t267.length : Int)) = true := decide_eq_true c44
     clear c44
     obtain ⟨y294, hy294⟩ : ∃ y_ : List Int, y_ = (t267.set (t285 : Int).toNat t291) := ⟨_, rfl⟩
     replace H : (some (t266, y294, t292, t293)) = some (r1, r2, r3, r4) := by first | (rw [hy294]; with_reducible exact H) | (have H2_ := (Option.bind_some _ _).symm.trans H; rw [hy294]; with_reducible exact H2_) | (have H2_ := (Option.bind_some _ _).symm.trans H; with_reducible exact H2_) | with_reducible exact H | (rw [hy294]; exact H) | exact H
     have Ny294 := Aside0.mk hy294
     clear hy294
     simp only [Option.some.injEq, Prod.mk.injEq] at H
     obtain ⟨rfl, rfl, rfl, rfl⟩ := H
     go_enter Try.func47, Try.ntmps47
     try go_wp2_with (first | ((with_reducible refine gate_dst (N := 2) rfl ?_); refine box_event ?hg (N := 2) ?hd (cs := #[.int .i64 0, .slice none 0 0]) (t := 26) ?hr ?_; (case hd => rfl); (case hg => rfl); (case hr => exact Z93); intro gb265 hg w46 hbox hb; replace HB := Aside0.mk (below_step Z4 hb); have BK265 := Aside0.mk (hbox); have GW265 := Aside0.mk ((by rw [hg]; exact (keep_size (w := w) (g := g) (row := none) Z2) : w.heap.size ≤ gb265)); have GE265 := Aside0.mk ((Nat.le_trans HW0.out (by rw [hg]; exact (keep_size (w := w) (g := g) (row := none) Z2) : w.heap.size ≤ gb265) : w0.heap.size ≤ gb265)); replace HK := Aside0.mk (KeepBut.trans Z2 (KeepBut.of_below hb g none) (.inl rfl)); have NB0_265 := Aside0.mk ((by rw [hg]; exact Nat.ne_of_lt (IsS47.lt (show IsS47 w0 _ g s0_0 s0_1 s0_2 from Z1)) : g ≠ gb265)); have NB265_0 := Aside0.mk ((by rw [hg]; exact Nat.ne_of_gt (IsS47.lt (show IsS47 w0 _ g s0_0 s0_1 s0_2 from Z1)) : gb265 ≠ g)); replace HI0 := Aside0.mk (IsS47.below Z1 hb); clear hb hbox hg) | ((with_reducible refine gate_callee (f := 78) rfl ?_); refine goesL_ (some 5) rfl rfl Try.func78 Z92 rfl #[.pointer (some ⟨g, 0, none⟩), .int .i64 40] rfl Z89 ?_; (with_reducible refine (spec_l1Cur_bits.calls k g s0_0 s0_1 s0_2 40 t266 t267 t270 t271 w0 _ ?side1 ?side2 A2.out).mono ?_); (case side1 => exact Z13); (case side2 => exact Z20); rintro e w47 ⟨v268, rfl, ho0, hi, hb, hk⟩; refine ⟨_, rfl, ?_⟩; replace BK265 := Aside0.mk (KeepBut.blk hk (g' := gb265) (o := .cells #[.int .i64 0, .slice none 0 0] 26 (0, 0)) (uK BK265) NB265_0.out Z37); have HO269 := Aside0.mk (Kd.R_lower ho0 (keep_size (w := w) (g := g) (row := none) Z11)); replace HK := Aside0.mk (KeepBut.trans Z11 hk (.inl rfl)); replace HB := Aside0.mk (hb); replace HI0 := Aside0.mk (hi); (try clear hb); (try clear hb2); (try clear hk); (try clear hi); (try clear ho0)) | ((with_reducible refine gate_dst (N := 3) rfl ?_); refine box_event ?hg (N := 3) ?hd (cs := #[.int .i64 0, .slice none 0 0]) (t := 26) ?hr ?_; (case hd => rfl); (case hg => rfl); (case hr => exact Z93); intro gb272 hg w48 hbox hb; replace HO269 := Aside0.mk (Kd.R_below (uR HO269) hb); replace HB := Aside0.mk (below_step Z20 hb); have BK272 := Aside0.mk (hbox); have GW272 := Aside0.mk ((by rw [hg]; exact (keep_size (w := w) (g := g) (row := none) Z11) : w.heap.size ≤ gb272)); have GE272 := Aside0.mk ((Nat.le_trans HW0.out (by rw [hg]; exact (keep_size (w := w) (g := g) (row := none) Z11) : w.heap.size ≤ gb272) : w0.heap.size ≤ gb272)); replace HK := Aside0.mk (KeepBut.trans Z11 (KeepBut.of_below hb g none) (.inl rfl)); have NB265_272 := nL BK265 hg; have NB272_265 := nR BK265 hg; replace BK265 := kB BK265 hb; have NB0_272 := Aside0.mk ((by rw [hg]; exact Nat.ne_of_lt (IsS47.lt (show IsS47 w0 _ g s0_0 t270 t271 from Z13)) : g ≠ gb272)); have NB272_0 := Aside0.mk ((by rw [hg]; exact Nat.ne_of_gt (IsS47.lt (show IsS47 w0 _ g s0_0 t270 t271 from Z13)) : gb272 ≠ g)); replace HI0 := Aside0.mk (IsS47.below Z13 hb); clear hb hbox hg; have hnb49 := NB272_265.out; have hnc49 := NB265_272.out; have hnb50 := NB272_0.out; have hnc50 := NB0_272.out; obtain ⟨hcz51_0, hcz51_1, hfz51_0, hfz51_1⟩ := ce2 BK272; obtain ⟨Ao52, co52, eo52⟩ := Kd.R_slice HO269.out; subst eo52) | ((with_reducible refine gate_callee (f := 44) rfl ?_); refine goesL_ (some 7) rfl rfl Try.func44 Z92 rfl #[.pointer (some ⟨g, 0, none⟩), .int .i64 16] rfl Z89 ?_; (with_reducible refine (spec_l1Cur_pick.calls g s0_0 t270 t271 16 t273 t274 t275 w0 _ ?side1 ?side2 A3.out).mono ?_); (case side1 => exact Z5); (case side2 => exact Z9); rintro e w53 ⟨rfl, hi, hb, hk⟩; refine ⟨_, rfl, ?_⟩; replace BK265 := Aside0.mk (KeepBut.blk hk (g' := gb265) (o := .cells #[.int .i64 0, .slice none 0 0] 26 (0, 0)) (by refine uW ?_; refine blk_far ?_ NB265_272.out _; refine uW ?_; refine blk_far ?_ NB265_272.out _; refine uW ?_; exact BK265.out) NB265_0.out Z37); replace HO269 := Aside0.mk (Kd.R_mono (Kd.R_keep (IsS47.apart (show IsS47 w0 _ g s0_0 t270 t271 from Z5) (fS HO269 BK272 Z19) Z19) hk (fun _ h => h.2)) (fun _ h => h.1)); replace BK272 := Aside0.mk (KeepBut.blk hk (g' := gb272) (o := .cells #[.int .i64 t266, .slice Ao52 t267.length co52] 26 (0, 0)) (by refine uW ?_; refine blk_put (cs := #[.int .i64 t266, .slice none 0 0]) ?_ 1 _ rfl; refine uW ?_; refine blk_put (cs := #[.int .i64 0, .slice none 0 0]) ?_ 0 _ rfl; refine uW ?_; exact BK272.out) NB272_0.out Z37); replace HK := Aside0.mk (KeepBut.trans Z8 hk (.inl rfl)); replace HB := Aside0.mk (hb); replace HI0 := Aside0.mk (hi); (try clear hb); (try clear hb2); (try clear hk); (try clear hi); obtain ⟨hcz54_0, hcz54_1, hfz54_0, hfz54_1⟩ := ce2 BK272))
     replace HO269 := Aside0.mk (Kd.R_drew HO269.out)
     replace BK265 := Aside0.mk (blk_drew BK265.out)
     replace BK272 := Aside0.mk (blk_drew BK272.out)
     replace HI0 := Aside0.mk (IsS47.drew HI0.out)
     replace HK := Aside0.mk (keep_drew HK.out)
     replace HB := Aside0.mk (below_drew1 HB.out)
     refine start_ (n := 12) (S := fun w' => w'.cell? ⟨gb272, 0, none⟩ = some (.int .i64 t266) ∧ w'.cell? ⟨gb272, 1, none⟩ = some (.slice Ao52 t267.length co52)) (ds := [11]) (bA 12 0) Z92 rfl rfl ⟨bc BK272 0, bc BK272 1⟩ (fun hHeld => ?_); refine with_tabW spec_l1Cur_anyBits.tab9 spec_l1Cur_anyBits.bits9 (fun HT_ HW_ => ?_)
     generalize w53.drew = w55 at HO269 BK265 BK272 HI0 HK HB hHeld ⊢
     refine pS 0 32 (bA 12 1) ?_
     refine pS 2 34 (bA 12 5) ?_
     refine pS 3 35 (bA 12 13) ?_
     refine pS 7 39 (bA 12 141) ?_
     refine tS2 1 33 (bA 12 143) hHeld ?_
     refine tS2 4 36 (bA 12 159) hHeld ?_
     refine pS 5 37 (bA 12 191) ?_
     refine join_ (σ := Value) 3 (bA 12 511) (fun s_ => [(38, .int .i64 t285), (40, s_)]) (fun s_ w' => (w'.cell? ⟨gb272, 0, none⟩ = some (.int .i64 t266) ∧ w'.cell? ⟨gb272, 1, none⟩ = some (.slice Ao52 t267.length co52)) ∧ (Kd.R (Kd.int .i64) 3 w' w.heap.size (fun k_ => some k_ ≠ (s_ : Value).ownBlock) (.slice Ao52 t267.length co52) t267) ∧ (Kd.R (Kd.int .i64) 3 w' w.heap.size (fun k_ => some k_ ≠ (.slice Ao52 t267.length co52 : Value).ownBlock) s_ y288) ∧ (w'.heap[gb265]? = some (.cells #[.int .i64 0, .slice none 0 0] 26 (0, 0))) ∧ (w'.heap[gb272]? = some (.cells #[.int .i64 t266, .slice Ao52 t267.length co52] 26 (0, 0))) ∧ (IsS47 w0 w' g s0_0 t286 t287) ∧ (KeepBut w w' g none) ∧ (Below w0.heap.size w0 w')) ?_ ?_
     rotate_left
     ·
      intro hCont
      refine two_ (i := 6) (j := 8) (Ni := some 38) (Nj := some 40) (bA 12 255) (bA 12 447) rfl rfl rfl rfl (two_of HT_.out Z92) Z19 Z19 (fun K hK => ?_) (fun K hK => ?_)
      ·
       skip
       refine goes_ Try.func44 Z92 rfl #[.pointer (some ⟨g, 0, none⟩), .int .i64 (t267.length : Int)] Z63 rfl rfl Z89 ?_
       with_reducible refine (spec_l1Cur_pick.calls g s0_0 t274 t275 (t267.length : Int) t285 t286 t287 w0 _ ?side1 ?side2 A41.out).mono ?_
       (case side1 => exact Z5)
       (case side2 => exact Z9)
       rintro e w56 ⟨rfl, hi, hb, hk⟩
       refine ⟨_, rfl, ?_⟩
       replace BK265 := Aside0.mk (KeepBut.blk hk (g' := gb265) (o := .cells #[.int .i64 0, .slice none 0 0] 26 (0, 0)) (uK BK265) NB265_0.out Z37)
       replace HO269 := Aside0.mk (Kd.R_mono (Kd.R_keep (IsS47.apart (show IsS47 w0 _ g s0_0 t274 t275 from Z5) (uR HO269) Z19) hk (fun _ h => h.2)) (fun _ h => h.1))
       replace BK272 := Aside0.mk (KeepBut.blk hk (g' := gb272) (o := .cells #[.int .i64 t266, .slice Ao52 t267.length co52] 26 (0, 0)) (uK BK272) NB272_0.out Z37)
       replace HK := Aside0.mk (KeepBut.trans Z8 hk (.inl rfl))
       replace HB := Aside0.mk (hb)
       replace HI0 := Aside0.mk (hi)
       (try clear hb)
       (try clear hb2)
       (try clear hk)
       (try clear hi)
       refine hK.out _ _ ⟨bc BK272 0, bc BK272 1⟩ (fun hHeld => ?_)
       clear hK K
       refine norm_ (a' := ?_) ?_ ?_
       rotate_left
       ·
        show Act.put _ (some 38) _ = _
        simp only [Act.put, setIfInBounds_toArray, set_cons_zero, set_cons_succ, i64_w, i32_w]
        rfl
       refine one_ (i := 8) (N := some 40) (bA 12 511) rfl rfl (one_of HT_.out Z92) Z19 (fun K hK => ?_)
       refine Kd.R_lit_step (Kd.int .i64) _ 3 ?hg (N := 40) ?hd (xs := ([(-1), 65535, 65536, 40000] : List Int)) (inner := [.int .i64 (-1), .int .i64 65535, .int .i64 65536, .int .i64 40000]) (ok := fun _ => True) (okp := fun _ => True) ?hr ?hp (fun _ hk => hk) trivial (Below.refl _ _) (Nat.le_refl _) Z37 ?_; (case hd => rfl); (case hg => rfl); (case hr => exact Z93); (case hp => exact (Reps.one (show Kd.M (Kd.int .i64) _ _ _ (-1) [.int .i64 (-1)] from rfl) (Reps.one (show Kd.M (Kd.int .i64) _ _ _ 65535 [.int .i64 65535] from rfl) (Reps.one (show Kd.M (Kd.int .i64) _ _ _ 65536 [.int .i64 65536] from rfl) (Reps.one (show Kd.M (Kd.int .i64) _ _ _ 40000 [.int .i64 40000] from rfl) (Reps.none _ _))))))
       intro v289 w57 ho58 hb hg_ hnew_
       clear hg_ hnew_
       (first | rw [← Ny288.out] at ho58 | (simp only [Int.reduceToNat] at ho58; rw [← Ny288.out] at ho58))
       have HO290 := Aside0.mk (Kd.R_lower (Kd.R_new' ho58 (Kd.R_lt (uR HO269))) (keep_size (w := w) (g := g) (row := none) Z8))
       replace HO269 := Aside0.mk (Kd.R_elder' (uR HO269) (Kd.R_base ho58) hb)
       replace BK265 := kB BK265 hb
       replace BK272 := kB BK272 hb
       replace HK := Aside0.mk (KeepBut.trans Z8 (KeepBut.of_below hb g none) (.inl rfl))
       replace HB := Aside0.mk (below_step Z9 hb)
       replace HI0 := Aside0.mk (IsS47.below Z5 hb)
       clear hb ho58
       refine hK.out _ _ ⟨bc BK272 0, bc BK272 1⟩ (fun hHeld => ?_)
       clear hK K
       refine norm_ (a' := ?_) ?_ ?_
       rotate_left
       ·
        show Act.put _ (some 40) _ = _
        simp only [Act.put, setIfInBounds_toArray, set_cons_zero, set_cons_succ, i64_w, i32_w]
        rfl
       exact norm_ Z97 (hCont (v289) _ ⟨hHeld, Z79, Z78, (uK BK265), (uK BK272), Z5, Z8, Z9⟩)
      skip
      refine Kd.R_lit_step (Kd.int .i64) _ 3 ?hg (N := 40) ?hd (xs := ([(-1), 65535, 65536, 40000] : List Int)) (inner := [.int .i64 (-1), .int .i64 65535, .int .i64 65536, .int .i64 40000]) (ok := fun _ => True) (okp := fun _ => True) ?hr ?hp (fun _ hk => hk) trivial (Below.refl _ _) (Nat.le_refl _) Z37 ?_; (case hd => rfl); (case hg => rfl); (case hr => exact Z93); (case hp => exact (Reps.one (show Kd.M (Kd.int .i64) _ _ _ (-1) [.int .i64 (-1)] from rfl) (Reps.one (show Kd.M (Kd.int .i64) _ _ _ 65535 [.int .i64 65535] from rfl) (Reps.one (show Kd.M (Kd.int .i64) _ _ _ 65536 [.int .i64 65536] from rfl) (Reps.one (show Kd.M (Kd.int .i64) _ _ _ 40000 [.int .i64 40000] from rfl) (Reps.none _ _))))))
      intro v289 w56 ho57 hb hg_ hnew_
      clear hg_ hnew_
      (first | rw [← Ny288.out] at ho57 | (simp only [Int.reduceToNat] at ho57; rw [← Ny288.out] at ho57))
      have HO290 := Aside0.mk (Kd.R_lower (Kd.R_new' ho57 (Kd.R_lt (uR HO269))) (keep_size (w := w) (g := g) (row := none) Z8))
      replace HO269 := Aside0.mk (Kd.R_elder' (uR HO269) (Kd.R_base ho57) hb)
      replace BK265 := kB BK265 hb
      replace BK272 := kB BK272 hb
      replace HK := Aside0.mk (KeepBut.trans Z8 (KeepBut.of_below hb g none) (.inl rfl))
      replace HB := Aside0.mk (below_step Z9 hb)
      replace HI0 := Aside0.mk (IsS47.below Z5 hb)
      clear hb ho57
      refine hK.out _ _ ⟨bc BK272 0, bc BK272 1⟩ (fun hHeld => ?_)
      clear hK K
      refine norm_ (a' := ?_) ?_ ?_
      rotate_left
      ·
       show Act.put _ (some 40) _ = _
       simp only [Act.put, setIfInBounds_toArray, set_cons_zero, set_cons_succ, i64_w, i32_w]
       rfl
      refine one_ (i := 6) (N := some 38) (bA 12 511) rfl rfl (one_of HT_.out Z92) Z19 (fun K hK => ?_)
      refine goes_ Try.func44 Z92 rfl #[.pointer (some ⟨g, 0, none⟩), .int .i64 (t267.length : Int)] Z63 rfl rfl Z89 ?_
      with_reducible refine (spec_l1Cur_pick.calls g s0_0 t274 t275 (t267.length : Int) t285 t286 t287 w0 _ ?side1 ?side2 A41.out).mono ?_
      (case side1 => exact Z5)
      (case side2 => exact Z9)
      rintro e w58 ⟨rfl, hi, hb, hk⟩
      refine ⟨_, rfl, ?_⟩
      replace BK265 := Aside0.mk (KeepBut.blk hk (g' := gb265) (o := .cells #[.int .i64 0, .slice none 0 0] 26 (0, 0)) (uK BK265) NB265_0.out Z37)
      replace HO269 := Aside0.mk (Kd.R_mono (Kd.R_keep (IsS47.apart (show IsS47 w0 _ g s0_0 t274 t275 from Z5) (uR HO269) Z19) hk (fun _ h => h.2)) (fun _ h => h.1))
      replace BK272 := Aside0.mk (KeepBut.blk hk (g' := gb272) (o := .cells #[.int .i64 t266, .slice Ao52 t267.length co52] 26 (0, 0)) (uK BK272) NB272_0.out Z37)
      replace HO290 := Aside0.mk (Kd.R_mono (Kd.R_keep (IsS47.apart (show IsS47 w0 _ g s0_0 t274 t275 from Z5) (uR HO290) Z19) hk (fun _ h => h.2)) (fun _ h => h.1))
      replace HK := Aside0.mk (KeepBut.trans Z8 hk (.inl rfl))
      replace HB := Aside0.mk (hb)
      replace HI0 := Aside0.mk (hi)
      (try clear hb)
      (try clear hb2)
      (try clear hk)
      (try clear hi)
      refine hK.out _ _ ⟨bc BK272 0, bc BK272 1⟩ (fun hHeld => ?_)
      clear hK K
      refine norm_ (a' := ?_) ?_ ?_
      rotate_left
      ·
       show Act.put _ (some 38) _ = _
       simp only [Act.put, setIfInBounds_toArray, set_cons_zero, set_cons_succ, i64_w, i32_w]
       rfl
      exact norm_ Z97 (hCont (v289) _ ⟨hHeld, Z79, Z78, (uK BK265), (uK BK272), Z5, Z8, Z9⟩)
     rintro v289 w59 ⟨hS_, h0_, h1_, h2_, h3_, h4_, h5_, h6_⟩
     have n0_ : Aside0 (Kd.R (Kd.int .i64) 3 w59 w.heap.size (fun k_ => some k_ ≠ (v289 : Value).ownBlock) (.slice Ao52 t267.length co52) t267) := ⟨h0_⟩
     have n1_ : Aside0 (Kd.R (Kd.int .i64) 3 w59 w.heap.size (fun k_ => some k_ ≠ (.slice Ao52 t267.length co52 : Value).ownBlock) v289 y288) := ⟨h1_⟩
     have n2_ : Aside0 (w59.heap[gb265]? = some (.cells #[.int .i64 0, .slice none 0 0] 26 (0, 0))) := ⟨h2_⟩
     have n3_ : Aside0 (w59.heap[gb272]? = some (.cells #[.int .i64 t266, .slice Ao52 t267.length co52] 26 (0, 0))) := ⟨h3_⟩
     have n4_ : Aside0 (IsS47 w0 w59 g s0_0 t286 t287) := ⟨h4_⟩
     have n5_ : Aside0 (KeepBut w w59 g none) := ⟨h5_⟩
     have n6_ : Aside0 (Below w0.heap.size w0 w59) := ⟨h6_⟩
     clear HO269
     clear BK265
     clear BK272
     clear HI0
     clear HK
     clear HB
     clear h0_ h1_ h2_ h3_ h4_ h5_ h6_
     have HO269 := n0_
     have HO290 := n1_
     have BK265 := n2_
     have BK272 := n3_
     have HI0 := n4_
     have HK := n5_
     have HB := n6_
     clear n0_ n1_ n2_ n3_ n4_ n5_ n6_
     have hHeld : w59.cell? ⟨gb272, 0, none⟩ = some (.int .i64 t266) ∧ w59.cell? ⟨gb272, 1, none⟩ = some (.slice Ao52 t267.length co52) := hS_
     obtain ⟨Ao60, co60, eo60⟩ := Kd.R_slice HO290.out
     (first | subst eo60 | (injection eo60 with f1_ f2_ f3_; have f4_ := f1_.symm; have f5_ := f3_.symm; clear f1_ f2_ f3_; subst f4_; subst f5_))
     refine norm_ (a' := ?_) ?_ ?_
     rotate_left
     ·
      simp only [putAll, Act.put, setIfInBounds_toArray, set_cons_zero, set_cons_succ]
      rfl
     refine one_ (i := 9) (N := some 41) (bA 12 1023) rfl rfl (one_of HT_.out Z92) Z19 (fun K hK => ?_)
     refine goes_ Try.func72 Z92 rfl #[.pointer (some ⟨g, 0, none⟩), .slice Ao60 y288.length co60] Z63 rfl rfl Z89 ?_
     with_reducible refine (spec_l1Cur_among.calls g s0_0 t286 t287 _ _ y288 t291 t292 t293 w0 _ ?side1 ?side2 ?side3 ?side4 ?side5 A42.out).mono ?_
     (case side1 => exact Z5)
     (case side2 => exact Z9)
     (case side3 => exact uD HO290)
     (case side4 => exact (Kd.R_reads' HO290.out).2.1)
     (case side5 => exact far_slice (IsS47.own_ne HI0.out HO290.out Z19))
     rintro e w61 ⟨rfl, hi, hb, hk⟩
     refine ⟨_, rfl, ?_⟩
     replace BK265 := Aside0.mk (KeepBut.blk hk (g' := gb265) (o := .cells #[.int .i64 0, .slice none 0 0] 26 (0, 0)) (uK BK265) NB265_0.out Z37)
     replace HO269 := Aside0.mk (Kd.R_mono (Kd.R_keep (IsS47.apart (show IsS47 w0 _ g s0_0 t286 t287 from Z5) (uR HO269) Z19) hk (fun _ h => h.2)) (fun _ h => h.1))
     replace BK272 := Aside0.mk (KeepBut.blk hk (g' := gb272) (o := .cells #[.int .i64 t266, .slice Ao52 t267.length co52] 26 (0, 0)) (uK BK272) NB272_0.out Z37)
     replace HO290 := Aside0.mk (Kd.R_mono (Kd.R_keep (IsS47.apart (show IsS47 w0 _ g s0_0 t286 t287 from Z5) (uR HO290) Z19) hk (fun _ h => h.2)) (fun _ h => h.1))
     replace HK := Aside0.mk (KeepBut.trans Z8 hk (.inl rfl))
     replace HB := Aside0.mk (hb)
     replace HI0 := Aside0.mk (hi)
     (try clear hb)
     (try clear hb2)
     (try clear hk)
     (try clear hi)
     have p45 : 0 ≤ (t285 : Int) := of_decide_eq_true Z6
     have q45 : (t285 : Int) < ((t267.length : Int) : Int) := of_decide_eq_true Z6
     obtain ⟨go45, co45, eo45, gb45, gl45, cl45, HG45⟩ := Kd.R_form HO269.out Z69
     (first | cases eo45 | (injection eo45 with ea_ en_ ec_; (first | subst ea_ | (injection ea_ with ea_; subst ea_)); subst ec_; clear en_))
     have GB45 := Aside0.mk gb45
     have GG45 := Aside0.mk HG45
     clear gb45 gl45 HG45
     obtain ⟨hx45_0, hf45_0⟩ := Kd.R_celln 0 HO269.out (t285 : Int) p45 q45
     replace p45 := eq_true p45
     replace q45 := eq_true q45
     have HN0_go45 := Aside0.mk (show g ≠ go45 from by have h_ := IsS47.own_ne HI0.out HO269.out Z19; intro e_; exact h_ (by rw [e_]; rfl))
     have HP62 := Kd.R_putn HO269.out (t285 : Int) t291
     rw [← Ny294.out] at HP62
     have HQ62 := Aside0.mk HP62
     clear HP62
     refine hK.out _ _ ⟨bc BK272 0, bc BK272 1⟩ (fun hHeld => ?_)
     clear hK K
     refine norm_ (a' := ?_) ?_ ?_
     rotate_left
     ·
      show Act.put _ (some 41) _ = _
      simp only [Act.put, setIfInBounds_toArray, set_cons_zero, set_cons_succ, i64_w, i32_w]
      rfl
     refine pS 10 42 (bA 12 2047) ?_
     refine last_ (i := 11) (N := none) (bA 12 4095) rfl rfl (one_of HT_.out Z92) Z19 (fun K hK => ?_)
     refine skip_ (w1 := ?_) Z63 rfl ?_ ?_
     rotate_left
     ·
      go_simp
      rfl
     refine hK.out _ _ ?_
     clear hK K
     refine done_ (done_of HT_.out Z92) ?_
     have n0_ : Aside0 (Kd.R (Kd.int .i64) 3 (w61.setCell ⟨go45, (t285 : Int).toNat, none⟩ (.int .i64 t291)) w.heap.size (fun k_ => some k_ ≠ (.slice Ao60 y288.length co60 : Value).ownBlock) (.slice (some ⟨go45, 0, none⟩) t267.length co52) y294) := ⟨by (with_reducible repeat (first | apply Kd.R_alloc | apply Kd.R_drewN | apply Kd.R_drew)); exact HQ62.out⟩
     have n1_ : Aside0 (Kd.R (Kd.int .i64) 3 (w61.setCell ⟨go45, (t285 : Int).toNat, none⟩ (.int .i64 t291)) w.heap.size (fun k_ => some k_ ≠ (.slice (some ⟨go45, 0, none⟩) t267.length co52 : Value).ownBlock) (.slice Ao60 y288.length co60) y288) := ⟨by (with_reducible repeat (first | apply Kd.R_alloc | apply Kd.R_drewN | apply Kd.R_drew)); exact Kd.R_mono (Kd.R_far (p := ⟨go45, (t285 : Int).toNat, none⟩) (Kd.R_mono HO290.out (fun k_ hk => (⟨hk, fun e_ => hk (by rw [e_]; rfl)⟩ : _ ∧ k_ ≠ go45))) (fun _ hk => hk.2) (.int .i64 t291)) (fun _ hk => hk.1)⟩
     have n2_ : Aside0 ((w61.setCell ⟨go45, (t285 : Int).toNat, none⟩ (.int .i64 t291)).heap[gb265]? = some (.cells #[.int .i64 0, .slice none 0 0] 26 (0, 0))) := ⟨by refine uW ?_; refine blk_far ?_ (by have h_ := Kd.R_ne HO269.out BK265.out Z19; intro e_; exact h_ (by rw [e_]; rfl)) _; refine uW ?_; exact BK265.out⟩
     have n3_ : Aside0 ((w61.setCell ⟨go45, (t285 : Int).toNat, none⟩ (.int .i64 t291)).heap[gb272]? = some (.cells #[.int .i64 t266, .slice (some ⟨go45, 0, none⟩) t267.length co52] 26 (0, 0))) := ⟨by refine uW ?_; refine blk_far ?_ (by have h_ := Kd.R_ne HO269.out BK272.out Z19; intro e_; exact h_ (by rw [e_]; rfl)) _; refine uW ?_; exact BK272.out⟩
     have n4_ : Aside0 (IsS47 w0 (w61.setCell ⟨go45, (t285 : Int).toNat, none⟩ (.int .i64 t291)) g s0_0 t292 t293) := ⟨by repeat (first | (with_reducible first | exact HI0.out | apply IsS47.alloc | apply IsS47.drewN | apply IsS47.drew | apply IsS47.set_1 | apply IsS47.set_2 | refine IsS47.far ?_ HN0_go45.out _ | refine IsS47.far ?_ NB0_265.out _ | refine IsS47.far ?_ NB0_272.out _) | exact HI0.out)⟩
     have n5_ : Aside0 (KeepBut w (w61.setCell ⟨go45, (t285 : Int).toNat, none⟩ (.int .i64 t291)) g none) := ⟨by repeat (first | (with_reducible first | exact HK.out | apply KeepBut.set_ | apply keep_drewN | apply keep_drew | apply keep_alloc | refine keep_far ?_ GB45.out _ | refine keep_far ?_ GW265.out _ | refine keep_far ?_ GW272.out _) | exact HK.out)⟩
     have n6_ : Aside0 (Below w0.heap.size w0 (w61.setCell ⟨go45, (t285 : Int).toNat, none⟩ (.int .i64 t291))) := ⟨by repeat (first | (with_reducible first | exact HB.out | apply below_alloc | apply pw_below_drewN | apply below_drew1 | refine below_set ?_ (Nat.le_trans HL.out GB45.out) | refine below_set ?_ (IsS47.ge HI0.out) | refine below_set ?_ GE265.out | refine below_set ?_ GE272.out) | exact HB.out)⟩
     (try clear HO269)
     (try clear HO290)
     (try clear BK265)
     (try clear BK272)
     (try clear HI0)
     (try clear HK)
     (try clear HB)
     generalize (w61.setCell ⟨go45, (t285 : Int).toNat, none⟩ (.int .i64 t291)) = w63 at n0_ n1_ n2_ n3_ n4_ n5_ n6_ ⊢
     have HO269 := n0_
     have HO290 := n1_
     have BK265 := n2_
     have BK272 := n3_
     have HI0 := n4_
     have HK := n5_
     have HB := n6_
     clear n0_ n1_ n2_ n3_ n4_ n5_ n6_
     obtain ⟨hcz64_0, hcz64_1, hfz64_0, hfz64_1⟩ := ce2 BK272
     have hnb65 := NB265_0.out
     have hnc65 := NB0_265.out
     obtain ⟨hcz66_0, hcz66_1, hfz66_0, hfz66_1⟩ := ce2 BK265
     try go_wp2
     refine bodyPost_ret (results_cell_row rfl _ _ gb265 26 #[.int .i64 t266, .slice (some ⟨go45, 0, none⟩) t267.length co52] (0, 0) _ rfl (by refine uW ?_; refine blk_put (cs := #[.int .i64 t266, .slice none 0 0]) ?_ 1 _ rfl; refine uW ?_; refine blk_put (cs := #[.int .i64 0, .slice none 0 0]) ?_ 0 _ rfl; refine uW ?_; exact BK265.out) Try.underlying26 rfl Z92) rfl ?_
     exact ⟨_, Z90, by (with_reducible repeat (first | apply Kd.R_alloc | apply Kd.R_drewN | apply Kd.R_drew)); exact Kd.R_mono (Kd.R_far (p := ⟨gb265, 1, none⟩) (Kd.R_far (p := ⟨gb265, 0, none⟩) (Kd.R_types HO269.out BK265.out Z19) (fun _ hk => hk.2) (.int .i64 t266)) (fun _ hk => hk.2) (.slice (some ⟨go45, 0, none⟩) t267.length co52)) (fun _ hk => trivial), Z5, Z9, Z8⟩
    rw [if_neg c44] at H
    exact absurd H Z37
   rw [if_neg c43] at H
   exact absurd H Z37
  rw [if_neg c40] at H
  have c40b0 : decide (0 < (t267.length : Int)) = false := decide_eq_false c40
  have c40b1 : decide (0 < t267.length) = false := decide_eq_false Z69
  clear c40
  simp only [Option.some.injEq, Prod.mk.injEq] at H
  obtain ⟨rfl, rfl, rfl, rfl⟩ := H
  go_enter Try.func47, Try.ntmps47
  go_wp2_with (first | ((with_reducible refine gate_dst (N := 2) rfl ?_); refine box_event ?hg (N := 2) ?hd (cs := #[.int .i64 0, .slice none 0 0]) (t := 26) ?hr ?_; (case hd => rfl); (case hg => rfl); (case hr => exact Z93); intro gb265 hg w67 hbox hb; replace HB := Aside0.mk (below_step Z4 hb); have BK265 := Aside0.mk (hbox); have GW265 := Aside0.mk ((by rw [hg]; exact (keep_size (w := w) (g := g) (row := none) Z2) : w.heap.size ≤ gb265)); have GE265 := Aside0.mk ((Nat.le_trans HW0.out (by rw [hg]; exact (keep_size (w := w) (g := g) (row := none) Z2) : w.heap.size ≤ gb265) : w0.heap.size ≤ gb265)); replace HK := Aside0.mk (KeepBut.trans Z2 (KeepBut.of_below hb g none) (.inl rfl)); have NB0_265 := Aside0.mk ((by rw [hg]; exact Nat.ne_of_lt (IsS47.lt (show IsS47 w0 _ g s0_0 s0_1 s0_2 from Z1)) : g ≠ gb265)); have NB265_0 := Aside0.mk ((by rw [hg]; exact Nat.ne_of_gt (IsS47.lt (show IsS47 w0 _ g s0_0 s0_1 s0_2 from Z1)) : gb265 ≠ g)); replace HI0 := Aside0.mk (IsS47.below Z1 hb); clear hb hbox hg) | ((with_reducible refine gate_callee (f := 78) rfl ?_); refine goesL_ (some 5) rfl rfl Try.func78 Z92 rfl #[.pointer (some ⟨g, 0, none⟩), .int .i64 40] rfl Z89 ?_; (with_reducible refine (spec_l1Cur_bits.calls k g s0_0 s0_1 s0_2 40 t266 t267 t270 t271 w0 _ ?side1 ?side2 A2.out).mono ?_); (case side1 => exact Z13); (case side2 => exact Z20); rintro e w68 ⟨v268, rfl, ho0, hi, hb, hk⟩; refine ⟨_, rfl, ?_⟩; replace BK265 := Aside0.mk (KeepBut.blk hk (g' := gb265) (o := .cells #[.int .i64 0, .slice none 0 0] 26 (0, 0)) (uK BK265) NB265_0.out Z37); have HO269 := Aside0.mk (Kd.R_lower ho0 (keep_size (w := w) (g := g) (row := none) Z11)); replace HK := Aside0.mk (KeepBut.trans Z11 hk (.inl rfl)); replace HB := Aside0.mk (hb); replace HI0 := Aside0.mk (hi); (try clear hb); (try clear hb2); (try clear hk); (try clear hi); (try clear ho0)) | ((with_reducible refine gate_dst (N := 3) rfl ?_); refine box_event ?hg (N := 3) ?hd (cs := #[.int .i64 0, .slice none 0 0]) (t := 26) ?hr ?_; (case hd => rfl); (case hg => rfl); (case hr => exact Z93); intro gb272 hg w69 hbox hb; replace HO269 := Aside0.mk (Kd.R_below (uR HO269) hb); replace HB := Aside0.mk (below_step Z20 hb); have BK272 := Aside0.mk (hbox); have GW272 := Aside0.mk ((by rw [hg]; exact (keep_size (w := w) (g := g) (row := none) Z11) : w.heap.size ≤ gb272)); have GE272 := Aside0.mk ((Nat.le_trans HW0.out (by rw [hg]; exact (keep_size (w := w) (g := g) (row := none) Z11) : w.heap.size ≤ gb272) : w0.heap.size ≤ gb272)); replace HK := Aside0.mk (KeepBut.trans Z11 (KeepBut.of_below hb g none) (.inl rfl)); have NB265_272 := nL BK265 hg; have NB272_265 := nR BK265 hg; replace BK265 := kB BK265 hb; have NB0_272 := Aside0.mk ((by rw [hg]; exact Nat.ne_of_lt (IsS47.lt (show IsS47 w0 _ g s0_0 t270 t271 from Z13)) : g ≠ gb272)); have NB272_0 := Aside0.mk ((by rw [hg]; exact Nat.ne_of_gt (IsS47.lt (show IsS47 w0 _ g s0_0 t270 t271 from Z13)) : gb272 ≠ g)); replace HI0 := Aside0.mk (IsS47.below Z13 hb); clear hb hbox hg; have hnb70 := NB272_265.out; have hnc70 := NB265_272.out; have hnb71 := NB272_0.out; have hnc71 := NB0_272.out; obtain ⟨hcz72_0, hcz72_1, hfz72_0, hfz72_1⟩ := ce2 BK272; obtain ⟨Ao73, co73, eo73⟩ := Kd.R_slice HO269.out; subst eo73) | ((with_reducible refine gate_callee (f := 44) rfl ?_); refine goesL_ (some 7) rfl rfl Try.func44 Z92 rfl #[.pointer (some ⟨g, 0, none⟩), .int .i64 16] rfl Z89 ?_; (with_reducible refine (spec_l1Cur_pick.calls g s0_0 t270 t271 16 t273 t274 t275 w0 _ ?side1 ?side2 A3.out).mono ?_); (case side1 => exact Z5); (case side2 => exact Z9); rintro e w74 ⟨rfl, hi, hb, hk⟩; refine ⟨_, rfl, ?_⟩; replace BK265 := Aside0.mk (KeepBut.blk hk (g' := gb265) (o := .cells #[.int .i64 0, .slice none 0 0] 26 (0, 0)) (by refine uW ?_; refine blk_far ?_ NB265_272.out _; refine uW ?_; refine blk_far ?_ NB265_272.out _; refine uW ?_; exact BK265.out) NB265_0.out Z37); replace HO269 := Aside0.mk (Kd.R_mono (Kd.R_keep (IsS47.apart (show IsS47 w0 _ g s0_0 t270 t271 from Z5) (fS HO269 BK272 Z19) Z19) hk (fun _ h => h.2)) (fun _ h => h.1)); replace BK272 := Aside0.mk (KeepBut.blk hk (g' := gb272) (o := .cells #[.int .i64 t266, .slice Ao73 t267.length co73] 26 (0, 0)) (by refine uW ?_; refine blk_put (cs := #[.int .i64 t266, .slice none 0 0]) ?_ 1 _ rfl; refine uW ?_; refine blk_put (cs := #[.int .i64 0, .slice none 0 0]) ?_ 0 _ rfl; refine uW ?_; exact BK272.out) NB272_0.out Z37); replace HK := Aside0.mk (KeepBut.trans Z8 hk (.inl rfl)); replace HB := Aside0.mk (hb); replace HI0 := Aside0.mk (hi); (try clear hb); (try clear hb2); (try clear hk); (try clear hi); obtain ⟨hcz75_0, hcz75_1, hfz75_0, hfz75_1⟩ := ce2 BK272; have hnb76 := NB265_0.out; have hnc76 := NB0_265.out; obtain ⟨hcz77_0, hcz77_1, hfz77_0, hfz77_1⟩ := ce2 BK265))
  refine bodyPost_ret (results_cell_row rfl _ _ gb265 26 #[.int .i64 t266, .slice Ao73 t267.length co73] (0, 0) _ rfl (by refine uW ?_; refine blk_put (cs := #[.int .i64 t266, .slice none 0 0]) ?_ 1 _ rfl; refine uW ?_; refine blk_put (cs := #[.int .i64 0, .slice none 0 0]) ?_ 0 _ rfl; refine uW ?_; exact BK265.out) Try.underlying26 rfl Z92) rfl ?_
  exact ⟨_, Z90, by (with_reducible repeat (first | apply Kd.R_alloc | apply Kd.R_drewN | apply Kd.R_drew)); exact Kd.R_mono (Kd.R_far (p := ⟨gb265, 1, none⟩) (Kd.R_far (p := ⟨gb265, 0, none⟩) (Kd.R_types HO269.out BK265.out Z19) (fun _ hk => hk.2) (.int .i64 t266)) (fun _ hk => hk.2) (.slice Ao73 t267.length co73)) (fun _ hk => trivial), Z5, Z9, Z8⟩
 rw [if_neg c39] at H
 have c39b0 : (t273 == 2) = false := beq_eq_false_iff_ne.mpr c39
 have c39b1 : (t273 != 2) = true := bne_iff_ne.mpr c39
 by_cases c78 : t273 = 3
 ·
  rw [if_pos c78] at H
  have c78b0 : (t273 == 3) = true := beq_iff_eq.mpr c78
  have c78b1 : (t273 != 3) = false := bne_eq_false_iff_eq.mpr c78
  clear c78
  replace H := Option.bind_eq_some_iff.mp H
  obtain ⟨⟨t295, t296, t297⟩, A790, H⟩ := H
  try dsimp only at H
  have A79 := Aside0.mk A790
  clear A790
  replace H := Option.bind_eq_some_iff.mp H
  obtain ⟨⟨t298, t299⟩, A800, H⟩ := H
  try dsimp only at H
  have A80 := Aside0.mk A800
  clear A800
  simp only [Option.some.injEq, Prod.mk.injEq] at H
  obtain ⟨rfl, rfl, rfl, rfl⟩ := H
  go_enter Try.func47, Try.ntmps47
  go_wp2_with (first | ((with_reducible refine gate_dst (N := 2) rfl ?_); refine box_event ?hg (N := 2) ?hd (cs := #[.int .i64 0, .slice none 0 0]) (t := 26) ?hr ?_; (case hd => rfl); (case hg => rfl); (case hr => exact Z93); intro gb265 hg w81 hbox hb; replace HB := Aside0.mk (below_step Z4 hb); have BK265 := Aside0.mk (hbox); have GW265 := Aside0.mk ((by rw [hg]; exact (keep_size (w := w) (g := g) (row := none) Z2) : w.heap.size ≤ gb265)); have GE265 := Aside0.mk ((Nat.le_trans HW0.out (by rw [hg]; exact (keep_size (w := w) (g := g) (row := none) Z2) : w.heap.size ≤ gb265) : w0.heap.size ≤ gb265)); replace HK := Aside0.mk (KeepBut.trans Z2 (KeepBut.of_below hb g none) (.inl rfl)); have NB0_265 := Aside0.mk ((by rw [hg]; exact Nat.ne_of_lt (IsS47.lt (show IsS47 w0 _ g s0_0 s0_1 s0_2 from Z1)) : g ≠ gb265)); have NB265_0 := Aside0.mk ((by rw [hg]; exact Nat.ne_of_gt (IsS47.lt (show IsS47 w0 _ g s0_0 s0_1 s0_2 from Z1)) : gb265 ≠ g)); replace HI0 := Aside0.mk (IsS47.below Z1 hb); clear hb hbox hg) | ((with_reducible refine gate_callee (f := 78) rfl ?_); refine goesL_ (some 5) rfl rfl Try.func78 Z92 rfl #[.pointer (some ⟨g, 0, none⟩), .int .i64 40] rfl Z89 ?_; (with_reducible refine (spec_l1Cur_bits.calls k g s0_0 s0_1 s0_2 40 t266 t267 t270 t271 w0 _ ?side1 ?side2 A2.out).mono ?_); (case side1 => exact Z13); (case side2 => exact Z20); rintro e w82 ⟨v268, rfl, ho0, hi, hb, hk⟩; refine ⟨_, rfl, ?_⟩; replace BK265 := Aside0.mk (KeepBut.blk hk (g' := gb265) (o := .cells #[.int .i64 0, .slice none 0 0] 26 (0, 0)) (uK BK265) NB265_0.out Z37); have HO269 := Aside0.mk (Kd.R_lower ho0 (keep_size (w := w) (g := g) (row := none) Z11)); replace HK := Aside0.mk (KeepBut.trans Z11 hk (.inl rfl)); replace HB := Aside0.mk (hb); replace HI0 := Aside0.mk (hi); (try clear hb); (try clear hb2); (try clear hk); (try clear hi); (try clear ho0)) | ((with_reducible refine gate_dst (N := 3) rfl ?_); refine box_event ?hg (N := 3) ?hd (cs := #[.int .i64 0, .slice none 0 0]) (t := 26) ?hr ?_; (case hd => rfl); (case hg => rfl); (case hr => exact Z93); intro gb272 hg w83 hbox hb; replace HO269 := Aside0.mk (Kd.R_below (uR HO269) hb); replace HB := Aside0.mk (below_step Z20 hb); have BK272 := Aside0.mk (hbox); have GW272 := Aside0.mk ((by rw [hg]; exact (keep_size (w := w) (g := g) (row := none) Z11) : w.heap.size ≤ gb272)); have GE272 := Aside0.mk ((Nat.le_trans HW0.out (by rw [hg]; exact (keep_size (w := w) (g := g) (row := none) Z11) : w.heap.size ≤ gb272) : w0.heap.size ≤ gb272)); replace HK := Aside0.mk (KeepBut.trans Z11 (KeepBut.of_below hb g none) (.inl rfl)); have NB265_272 := nL BK265 hg; have NB272_265 := nR BK265 hg; replace BK265 := kB BK265 hb; have NB0_272 := Aside0.mk ((by rw [hg]; exact Nat.ne_of_lt (IsS47.lt (show IsS47 w0 _ g s0_0 t270 t271 from Z13)) : g ≠ gb272)); have NB272_0 := Aside0.mk ((by rw [hg]; exact Nat.ne_of_gt (IsS47.lt (show IsS47 w0 _ g s0_0 t270 t271 from Z13)) : gb272 ≠ g)); replace HI0 := Aside0.mk (IsS47.below Z13 hb); clear hb hbox hg; have hnb84 := NB272_265.out; have hnc84 := NB265_272.out; have hnb85 := NB272_0.out; have hnc85 := NB0_272.out; obtain ⟨hcz86_0, hcz86_1, hfz86_0, hfz86_1⟩ := ce2 BK272; obtain ⟨Ao87, co87, eo87⟩ := Kd.R_slice HO269.out; subst eo87) | ((with_reducible refine gate_callee (f := 44) rfl ?_); refine goesL_ (some 7) rfl rfl Try.func44 Z92 rfl #[.pointer (some ⟨g, 0, none⟩), .int .i64 16] rfl Z89 ?_; (with_reducible refine (spec_l1Cur_pick.calls g s0_0 t270 t271 16 t273 t274 t275 w0 _ ?side1 ?side2 A3.out).mono ?_); (case side1 => exact Z5); (case side2 => exact Z9); rintro e w88 ⟨rfl, hi, hb, hk⟩; refine ⟨_, rfl, ?_⟩; replace BK265 := Aside0.mk (KeepBut.blk hk (g' := gb265) (o := .cells #[.int .i64 0, .slice none 0 0] 26 (0, 0)) (by refine uW ?_; refine blk_far ?_ NB265_272.out _; refine uW ?_; refine blk_far ?_ NB265_272.out _; refine uW ?_; exact BK265.out) NB265_0.out Z37); replace HO269 := Aside0.mk (Kd.R_mono (Kd.R_keep (IsS47.apart (show IsS47 w0 _ g s0_0 t270 t271 from Z5) (fS HO269 BK272 Z19) Z19) hk (fun _ h => h.2)) (fun _ h => h.1)); replace BK272 := Aside0.mk (KeepBut.blk hk (g' := gb272) (o := .cells #[.int .i64 t266, .slice Ao87 t267.length co87] 26 (0, 0)) (by refine uW ?_; refine blk_put (cs := #[.int .i64 t266, .slice none 0 0]) ?_ 1 _ rfl; refine uW ?_; refine blk_put (cs := #[.int .i64 0, .slice none 0 0]) ?_ 0 _ rfl; refine uW ?_; exact BK272.out) NB272_0.out Z37); replace HK := Aside0.mk (KeepBut.trans Z8 hk (.inl rfl)); replace HB := Aside0.mk (hb); replace HI0 := Aside0.mk (hi); (try clear hb); (try clear hb2); (try clear hk); (try clear hi)) | ((with_reducible refine gate_callee (f := 44) rfl ?_); refine goesL_ (some 46) rfl rfl Try.func44 Z92 rfl #[.pointer (some ⟨g, 0, none⟩), .int .i64 2] rfl Z89 ?_; (with_reducible refine (spec_l1Cur_pick.calls g s0_0 t274 t275 2 t295 t296 t297 w0 _ ?side1 ?side2 A79.out).mono ?_); (case side1 => exact Z5); (case side2 => exact Z9); rintro e w89 ⟨rfl, hi, hb, hk⟩; refine ⟨_, rfl, ?_⟩; replace BK265 := Aside0.mk (KeepBut.blk hk (g' := gb265) (o := .cells #[.int .i64 0, .slice none 0 0] 26 (0, 0)) (uK BK265) NB265_0.out Z37); replace HO269 := Aside0.mk (Kd.R_mono (Kd.R_keep (IsS47.apart (show IsS47 w0 _ g s0_0 t274 t275 from Z5) (uR HO269) Z19) hk (fun _ h => h.2)) (fun _ h => h.1)); replace BK272 := Aside0.mk (KeepBut.blk hk (g' := gb272) (o := .cells #[.int .i64 t266, .slice Ao87 t267.length co87] 26 (0, 0)) (uK BK272) NB272_0.out Z37); replace HK := Aside0.mk (KeepBut.trans Z8 hk (.inl rfl)); replace HB := Aside0.mk (hb); replace HI0 := Aside0.mk (hi); (try clear hb); (try clear hb2); (try clear hk); (try clear hi)) | ((with_reducible refine gate_callee (f := 76) rfl ?_); refine goesL_ (some 48) rfl rfl Try.func76 Z92 rfl #[.int .i64 (wrap64 (4096 - t295))] rfl Z89 ?_; (with_reducible refine (spec_biNew.calls (wrap64 (4096 - t295)) t298 t299 _ A80.out).mono ?_); rintro e w90 ⟨v300, rfl, ho0, hb⟩; refine ⟨_, rfl, ?_⟩; have HO301 := Aside0.mk (Kd.R_lower (Kd.R_new' ho0 (Kd.R_lt (uR HO269))) (keep_size (w := w) (g := g) (row := none) Z8)); replace HO269 := Aside0.mk (Kd.R_elder' (uR HO269) (Kd.R_base ho0) hb); replace BK265 := kB BK265 hb; replace BK272 := kB BK272 hb; replace HK := Aside0.mk (KeepBut.trans Z8 (KeepBut.of_below hb g none) (.inl rfl)); replace HB := Aside0.mk (below_step Z9 hb); replace HI0 := Aside0.mk (IsS47.below Z5 hb); (try clear hb); (try clear hb2); (try clear hk); (try clear hi); (try clear ho0); obtain ⟨hcz91_0, hcz91_1, hfz91_0, hfz91_1⟩ := ce2 BK272; obtain ⟨Ao92, co92, eo92⟩ := Kd.R_slice HO301.out; subst eo92; have hnb93 := NB265_0.out; have hnc93 := NB0_265.out; obtain ⟨hcz94_0, hcz94_1, hfz94_0, hfz94_1⟩ := ce2 BK265))
  refine bodyPost_ret (results_cell_row rfl _ _ gb265 26 #[.int .i64 t298, .slice Ao92 t299.length co92] (0, 0) _ rfl (by refine uW ?_; refine blk_put (cs := #[.int .i64 t298, .slice none 0 0]) ?_ 1 _ rfl; refine uW ?_; refine blk_put (cs := #[.int .i64 0, .slice none 0 0]) ?_ 0 _ rfl; refine uW ?_; refine blk_far ?_ NB265_272.out _; refine uW ?_; refine blk_far ?_ NB265_272.out _; refine uW ?_; exact BK265.out) Try.underlying26 rfl Z92) rfl ?_
  exact ⟨_, Z90, by (with_reducible repeat (first | apply Kd.R_alloc | apply Kd.R_drewN | apply Kd.R_drew)); exact Kd.R_mono (Kd.R_far (p := ⟨gb265, 1, none⟩) (Kd.R_far (p := ⟨gb265, 0, none⟩) (Kd.R_far (p := ⟨gb272, 1, none⟩) (Kd.R_far (p := ⟨gb272, 0, none⟩) (Kd.R_types (Kd.R_types HO301.out BK272.out Z19) BK265.out Z19) (fun _ hk => hk.1.2) (.int .i64 t298)) (fun _ hk => hk.1.2) (.slice Ao92 t299.length co92)) (fun _ hk => hk.2) (.int .i64 t298)) (fun _ hk => hk.2) (.slice Ao92 t299.length co92)) (fun _ hk => trivial), Z5, Z9, Z8⟩
 rw [if_neg c78] at H
 have c78b0 : (t273 == 3) = false := beq_eq_false_iff_ne.mpr c78
 have c78b1 : (t273 != 3) = true := bne_iff_ne.mpr c78
 by_cases c95 : t273 = 4
 ·
  rw [if_pos c95] at H
  have c95b0 : (t273 == 4) = true := beq_iff_eq.mpr c95
  have c95b1 : (t273 != 4) = false := bne_eq_false_iff_eq.mpr c95
  clear c95
  replace H := Option.bind_eq_some_iff.mp H
  obtain ⟨⟨t302, t303, t304⟩, A960, H⟩ := H
  try dsimp only at H
  have A96 := Aside0.mk A960
  clear A960
  replace H := Option.bind_eq_some_iff.mp H
  obtain ⟨⟨t305, t306⟩, A970, H⟩ := H
  try dsimp only at H
  have A97 := Aside0.mk A970
  clear A970
  simp only [Option.some.injEq, Prod.mk.injEq] at H
  obtain ⟨rfl, rfl, rfl, rfl⟩ := H
  go_enter Try.func47, Try.ntmps47
  go_wp2_with (first | ((with_reducible refine gate_dst (N := 2) rfl ?_); refine box_event ?hg (N := 2) ?hd (cs := #[.int .i64 0, .slice none 0 0]) (t := 26) ?hr ?_; (case hd => rfl); (case hg => rfl); (case hr => exact Z93); intro gb265 hg w98 hbox hb; replace HB := Aside0.mk (below_step Z4 hb); have BK265 := Aside0.mk (hbox); have GW265 := Aside0.mk ((by rw [hg]; exact (keep_size (w := w) (g := g) (row := none) Z2) : w.heap.size ≤ gb265)); have GE265 := Aside0.mk ((Nat.le_trans HW0.out (by rw [hg]; exact (keep_size (w := w) (g := g) (row := none) Z2) : w.heap.size ≤ gb265) : w0.heap.size ≤ gb265)); replace HK := Aside0.mk (KeepBut.trans Z2 (KeepBut.of_below hb g none) (.inl rfl)); have NB0_265 := Aside0.mk ((by rw [hg]; exact Nat.ne_of_lt (IsS47.lt (show IsS47 w0 _ g s0_0 s0_1 s0_2 from Z1)) : g ≠ gb265)); have NB265_0 := Aside0.mk ((by rw [hg]; exact Nat.ne_of_gt (IsS47.lt (show IsS47 w0 _ g s0_0 s0_1 s0_2 from Z1)) : gb265 ≠ g)); replace HI0 := Aside0.mk (IsS47.below Z1 hb); clear hb hbox hg) | ((with_reducible refine gate_callee (f := 78) rfl ?_); refine goesL_ (some 5) rfl rfl Try.func78 Z92 rfl #[.pointer (some ⟨g, 0, none⟩), .int .i64 40] rfl Z89 ?_; (with_reducible refine (spec_l1Cur_bits.calls k g s0_0 s0_1 s0_2 40 t266 t267 t270 t271 w0 _ ?side1 ?side2 A2.out).mono ?_); (case side1 => exact Z13); (case side2 => exact Z20); rintro e w99 ⟨v268, rfl, ho0, hi, hb, hk⟩; refine ⟨_, rfl, ?_⟩; replace BK265 := Aside0.mk (KeepBut.blk hk (g' := gb265) (o := .cells #[.int .i64 0, .slice none 0 0] 26 (0, 0)) (uK BK265) NB265_0.out Z37); have HO269 := Aside0.mk (Kd.R_lower ho0 (keep_size (w := w) (g := g) (row := none) Z11)); replace HK := Aside0.mk (KeepBut.trans Z11 hk (.inl rfl)); replace HB := Aside0.mk (hb); replace HI0 := Aside0.mk (hi); (try clear hb); (try clear hb2); (try clear hk); (try clear hi); (try clear ho0)) | ((with_reducible refine gate_dst (N := 3) rfl ?_); refine box_event ?hg (N := 3) ?hd (cs := #[.int .i64 0, .slice none 0 0]) (t := 26) ?hr ?_; (case hd => rfl); (case hg => rfl); (case hr => exact Z93); intro gb272 hg w100 hbox hb; replace HO269 := Aside0.mk (Kd.R_below (uR HO269) hb); replace HB := Aside0.mk (below_step Z20 hb); have BK272 := Aside0.mk (hbox); have GW272 := Aside0.mk ((by rw [hg]; exact (keep_size (w := w) (g := g) (row := none) Z11) : w.heap.size ≤ gb272)); have GE272 := Aside0.mk ((Nat.le_trans HW0.out (by rw [hg]; exact (keep_size (w := w) (g := g) (row := none) Z11) : w.heap.size ≤ gb272) : w0.heap.size ≤ gb272)); replace HK := Aside0.mk (KeepBut.trans Z11 (KeepBut.of_below hb g none) (.inl rfl)); have NB265_272 := nL BK265 hg; have NB272_265 := nR BK265 hg; replace BK265 := kB BK265 hb; have NB0_272 := Aside0.mk ((by rw [hg]; exact Nat.ne_of_lt (IsS47.lt (show IsS47 w0 _ g s0_0 t270 t271 from Z13)) : g ≠ gb272)); have NB272_0 := Aside0.mk ((by rw [hg]; exact Nat.ne_of_gt (IsS47.lt (show IsS47 w0 _ g s0_0 t270 t271 from Z13)) : gb272 ≠ g)); replace HI0 := Aside0.mk (IsS47.below Z13 hb); clear hb hbox hg; have hnb101 := NB272_265.out; have hnc101 := NB265_272.out; have hnb102 := NB272_0.out; have hnc102 := NB0_272.out; obtain ⟨hcz103_0, hcz103_1, hfz103_0, hfz103_1⟩ := ce2 BK272; obtain ⟨Ao104, co104, eo104⟩ := Kd.R_slice HO269.out; subst eo104) | ((with_reducible refine gate_callee (f := 44) rfl ?_); refine goesL_ (some 7) rfl rfl Try.func44 Z92 rfl #[.pointer (some ⟨g, 0, none⟩), .int .i64 16] rfl Z89 ?_; (with_reducible refine (spec_l1Cur_pick.calls g s0_0 t270 t271 16 t273 t274 t275 w0 _ ?side1 ?side2 A3.out).mono ?_); (case side1 => exact Z5); (case side2 => exact Z9); rintro e w105 ⟨rfl, hi, hb, hk⟩; refine ⟨_, rfl, ?_⟩; replace BK265 := Aside0.mk (KeepBut.blk hk (g' := gb265) (o := .cells #[.int .i64 0, .slice none 0 0] 26 (0, 0)) (by refine uW ?_; refine blk_far ?_ NB265_272.out _; refine uW ?_; refine blk_far ?_ NB265_272.out _; refine uW ?_; exact BK265.out) NB265_0.out Z37); replace HO269 := Aside0.mk (Kd.R_mono (Kd.R_keep (IsS47.apart (show IsS47 w0 _ g s0_0 t270 t271 from Z5) (fS HO269 BK272 Z19) Z19) hk (fun _ h => h.2)) (fun _ h => h.1)); replace BK272 := Aside0.mk (KeepBut.blk hk (g' := gb272) (o := .cells #[.int .i64 t266, .slice Ao104 t267.length co104] 26 (0, 0)) (by refine uW ?_; refine blk_put (cs := #[.int .i64 t266, .slice none 0 0]) ?_ 1 _ rfl; refine uW ?_; refine blk_put (cs := #[.int .i64 0, .slice none 0 0]) ?_ 0 _ rfl; refine uW ?_; exact BK272.out) NB272_0.out Z37); replace HK := Aside0.mk (KeepBut.trans Z8 hk (.inl rfl)); replace HB := Aside0.mk (hb); replace HI0 := Aside0.mk (hi); (try clear hb); (try clear hb2); (try clear hk); (try clear hi)) | ((with_reducible refine gate_callee (f := 44) rfl ?_); refine goesL_ (some 52) rfl rfl Try.func44 Z92 rfl #[.pointer (some ⟨g, 0, none⟩), .int .i64 5] rfl Z89 ?_; (with_reducible refine (spec_l1Cur_pick.calls g s0_0 t274 t275 5 t302 t303 t304 w0 _ ?side1 ?side2 A96.out).mono ?_); (case side1 => exact Z5); (case side2 => exact Z9); rintro e w106 ⟨rfl, hi, hb, hk⟩; refine ⟨_, rfl, ?_⟩; replace BK265 := Aside0.mk (KeepBut.blk hk (g' := gb265) (o := .cells #[.int .i64 0, .slice none 0 0] 26 (0, 0)) (uK BK265) NB265_0.out Z37); replace HO269 := Aside0.mk (Kd.R_mono (Kd.R_keep (IsS47.apart (show IsS47 w0 _ g s0_0 t274 t275 from Z5) (uR HO269) Z19) hk (fun _ h => h.2)) (fun _ h => h.1)); replace BK272 := Aside0.mk (KeepBut.blk hk (g' := gb272) (o := .cells #[.int .i64 t266, .slice Ao104 t267.length co104] 26 (0, 0)) (uK BK272) NB272_0.out Z37); replace HK := Aside0.mk (KeepBut.trans Z8 hk (.inl rfl)); replace HB := Aside0.mk (hb); replace HI0 := Aside0.mk (hi); (try clear hb); (try clear hb2); (try clear hk); (try clear hi)) | ((with_reducible refine gate_callee (f := 76) rfl ?_); refine goesL_ (some 54) rfl rfl Try.func76 Z92 rfl #[.int .i64 (wrap64 (16 * t302))] rfl Z89 ?_; (with_reducible refine (spec_biNew.calls (wrap64 (16 * t302)) t305 t306 _ A97.out).mono ?_); rintro e w107 ⟨v307, rfl, ho0, hb⟩; refine ⟨_, rfl, ?_⟩; have HO308 := Aside0.mk (Kd.R_lower (Kd.R_new' ho0 (Kd.R_lt (uR HO269))) (keep_size (w := w) (g := g) (row := none) Z8)); replace HO269 := Aside0.mk (Kd.R_elder' (uR HO269) (Kd.R_base ho0) hb); replace BK265 := kB BK265 hb; replace BK272 := kB BK272 hb; replace HK := Aside0.mk (KeepBut.trans Z8 (KeepBut.of_below hb g none) (.inl rfl)); replace HB := Aside0.mk (below_step Z9 hb); replace HI0 := Aside0.mk (IsS47.below Z5 hb); (try clear hb); (try clear hb2); (try clear hk); (try clear hi); (try clear ho0); obtain ⟨hcz108_0, hcz108_1, hfz108_0, hfz108_1⟩ := ce2 BK272; obtain ⟨Ao109, co109, eo109⟩ := Kd.R_slice HO308.out; subst eo109; have hnb110 := NB265_0.out; have hnc110 := NB0_265.out; obtain ⟨hcz111_0, hcz111_1, hfz111_0, hfz111_1⟩ := ce2 BK265))
  refine bodyPost_ret (results_cell_row rfl _ _ gb265 26 #[.int .i64 t305, .slice Ao109 t306.length co109] (0, 0) _ rfl (by refine uW ?_; refine blk_put (cs := #[.int .i64 t305, .slice none 0 0]) ?_ 1 _ rfl; refine uW ?_; refine blk_put (cs := #[.int .i64 0, .slice none 0 0]) ?_ 0 _ rfl; refine uW ?_; refine blk_far ?_ NB265_272.out _; refine uW ?_; refine blk_far ?_ NB265_272.out _; refine uW ?_; exact BK265.out) Try.underlying26 rfl Z92) rfl ?_
  exact ⟨_, Z90, by (with_reducible repeat (first | apply Kd.R_alloc | apply Kd.R_drewN | apply Kd.R_drew)); exact Kd.R_mono (Kd.R_far (p := ⟨gb265, 1, none⟩) (Kd.R_far (p := ⟨gb265, 0, none⟩) (Kd.R_far (p := ⟨gb272, 1, none⟩) (Kd.R_far (p := ⟨gb272, 0, none⟩) (Kd.R_types (Kd.R_types HO308.out BK272.out Z19) BK265.out Z19) (fun _ hk => hk.1.2) (.int .i64 t305)) (fun _ hk => hk.1.2) (.slice Ao109 t306.length co109)) (fun _ hk => hk.2) (.int .i64 t305)) (fun _ hk => hk.2) (.slice Ao109 t306.length co109)) (fun _ hk => trivial), Z5, Z9, Z8⟩
 rw [if_neg c95] at H
 have c95b0 : (t273 == 4) = false := beq_eq_false_iff_ne.mpr c95
 have c95b1 : (t273 != 4) = true := bne_iff_ne.mpr c95
 simp only [Option.some.injEq, Prod.mk.injEq] at H
 obtain ⟨rfl, rfl, rfl, rfl⟩ := H
 go_enter Try.func47, Try.ntmps47
 go_wp2_with (first | ((with_reducible refine gate_dst (N := 2) rfl ?_); refine box_event ?hg (N := 2) ?hd (cs := #[.int .i64 0, .slice none 0 0]) (t := 26) ?hr ?_; (case hd => rfl); (case hg => rfl); (case hr => exact Z93); intro gb265 hg w112 hbox hb; replace HB := Aside0.mk (below_step Z4 hb); have BK265 := Aside0.mk (hbox); have GW265 := Aside0.mk ((by rw [hg]; exact (keep_size (w := w) (g := g) (row := none) Z2) : w.heap.size ≤ gb265)); have GE265 := Aside0.mk ((Nat.le_trans HW0.out (by rw [hg]; exact (keep_size (w := w) (g := g) (row := none) Z2) : w.heap.size ≤ gb265) : w0.heap.size ≤ gb265)); replace HK := Aside0.mk (KeepBut.trans Z2 (KeepBut.of_below hb g none) (.inl rfl)); have NB0_265 := Aside0.mk ((by rw [hg]; exact Nat.ne_of_lt (IsS47.lt (show IsS47 w0 _ g s0_0 s0_1 s0_2 from Z1)) : g ≠ gb265)); have NB265_0 := Aside0.mk ((by rw [hg]; exact Nat.ne_of_gt (IsS47.lt (show IsS47 w0 _ g s0_0 s0_1 s0_2 from Z1)) : gb265 ≠ g)); replace HI0 := Aside0.mk (IsS47.below Z1 hb); clear hb hbox hg) | ((with_reducible refine gate_callee (f := 78) rfl ?_); refine goesL_ (some 5) rfl rfl Try.func78 Z92 rfl #[.pointer (some ⟨g, 0, none⟩), .int .i64 40] rfl Z89 ?_; (with_reducible refine (spec_l1Cur_bits.calls k g s0_0 s0_1 s0_2 40 t266 t267 t270 t271 w0 _ ?side1 ?side2 A2.out).mono ?_); (case side1 => exact Z13); (case side2 => exact Z20); rintro e w113 ⟨v268, rfl, ho0, hi, hb, hk⟩; refine ⟨_, rfl, ?_⟩; replace BK265 := Aside0.mk (KeepBut.blk hk (g' := gb265) (o := .cells #[.int .i64 0, .slice none 0 0] 26 (0, 0)) (uK BK265) NB265_0.out Z37); have HO269 := Aside0.mk (Kd.R_lower ho0 (keep_size (w := w) (g := g) (row := none) Z11)); replace HK := Aside0.mk (KeepBut.trans Z11 hk (.inl rfl)); replace HB := Aside0.mk (hb); replace HI0 := Aside0.mk (hi); (try clear hb); (try clear hb2); (try clear hk); (try clear hi); (try clear ho0)) | ((with_reducible refine gate_dst (N := 3) rfl ?_); refine box_event ?hg (N := 3) ?hd (cs := #[.int .i64 0, .slice none 0 0]) (t := 26) ?hr ?_; (case hd => rfl); (case hg => rfl); (case hr => exact Z93); intro gb272 hg w114 hbox hb; replace HO269 := Aside0.mk (Kd.R_below (uR HO269) hb); replace HB := Aside0.mk (below_step Z20 hb); have BK272 := Aside0.mk (hbox); have GW272 := Aside0.mk ((by rw [hg]; exact (keep_size (w := w) (g := g) (row := none) Z11) : w.heap.size ≤ gb272)); have GE272 := Aside0.mk ((Nat.le_trans HW0.out (by rw [hg]; exact (keep_size (w := w) (g := g) (row := none) Z11) : w.heap.size ≤ gb272) : w0.heap.size ≤ gb272)); replace HK := Aside0.mk (KeepBut.trans Z11 (KeepBut.of_below hb g none) (.inl rfl)); have NB265_272 := nL BK265 hg; have NB272_265 := nR BK265 hg; replace BK265 := kB BK265 hb; have NB0_272 := Aside0.mk ((by rw [hg]; exact Nat.ne_of_lt (IsS47.lt (show IsS47 w0 _ g s0_0 t270 t271 from Z13)) : g ≠ gb272)); have NB272_0 := Aside0.mk ((by rw [hg]; exact Nat.ne_of_gt (IsS47.lt (show IsS47 w0 _ g s0_0 t270 t271 from Z13)) : gb272 ≠ g)); replace HI0 := Aside0.mk (IsS47.below Z13 hb); clear hb hbox hg; have hnb115 := NB272_265.out; have hnc115 := NB265_272.out; have hnb116 := NB272_0.out; have hnc116 := NB0_272.out; obtain ⟨hcz117_0, hcz117_1, hfz117_0, hfz117_1⟩ := ce2 BK272; obtain ⟨Ao118, co118, eo118⟩ := Kd.R_slice HO269.out; subst eo118) | ((with_reducible refine gate_callee (f := 44) rfl ?_); refine goesL_ (some 7) rfl rfl Try.func44 Z92 rfl #[.pointer (some ⟨g, 0, none⟩), .int .i64 16] rfl Z89 ?_; (with_reducible refine (spec_l1Cur_pick.calls g s0_0 t270 t271 16 t273 t274 t275 w0 _ ?side1 ?side2 A3.out).mono ?_); (case side1 => exact Z5); (case side2 => exact Z9); rintro e w119 ⟨rfl, hi, hb, hk⟩; refine ⟨_, rfl, ?_⟩; replace BK265 := Aside0.mk (KeepBut.blk hk (g' := gb265) (o := .cells #[.int .i64 0, .slice none 0 0] 26 (0, 0)) (by refine uW ?_; refine blk_far ?_ NB265_272.out _; refine uW ?_; refine blk_far ?_ NB265_272.out _; refine uW ?_; exact BK265.out) NB265_0.out Z37); replace HO269 := Aside0.mk (Kd.R_mono (Kd.R_keep (IsS47.apart (show IsS47 w0 _ g s0_0 t270 t271 from Z5) (fS HO269 BK272 Z19) Z19) hk (fun _ h => h.2)) (fun _ h => h.1)); replace BK272 := Aside0.mk (KeepBut.blk hk (g' := gb272) (o := .cells #[.int .i64 t266, .slice Ao118 t267.length co118] 26 (0, 0)) (by refine uW ?_; refine blk_put (cs := #[.int .i64 t266, .slice none 0 0]) ?_ 1 _ rfl; refine uW ?_; refine blk_put (cs := #[.int .i64 0, .slice none 0 0]) ?_ 0 _ rfl; refine uW ?_; exact BK272.out) NB272_0.out Z37); replace HK := Aside0.mk (KeepBut.trans Z8 hk (.inl rfl)); replace HB := Aside0.mk (hb); replace HI0 := Aside0.mk (hi); (try clear hb); (try clear hb2); (try clear hk); (try clear hi); obtain ⟨hcz120_0, hcz120_1, hfz120_0, hfz120_1⟩ := ce2 BK272; have hnb121 := NB265_0.out; have hnc121 := NB0_265.out; obtain ⟨hcz122_0, hcz122_1, hfz122_0, hfz122_1⟩ := ce2 BK265))
 refine bodyPost_ret (results_cell_row rfl _ _ gb265 26 #[.int .i64 t266, .slice Ao118 t267.length co118] (0, 0) _ rfl (by refine uW ?_; refine blk_put (cs := #[.int .i64 t266, .slice none 0 0]) ?_ 1 _ rfl; refine uW ?_; refine blk_put (cs := #[.int .i64 0, .slice none 0 0]) ?_ 0 _ rfl; refine uW ?_; exact BK265.out) Try.underlying26 rfl Z92) rfl ?_
 exact ⟨_, Z90, by (with_reducible repeat (first | apply Kd.R_alloc | apply Kd.R_drewN | apply Kd.R_drew)); exact Kd.R_mono (Kd.R_far (p := ⟨gb265, 1, none⟩) (Kd.R_far (p := ⟨gb265, 0, none⟩) (Kd.R_types HO269.out BK265.out Z19) (fun _ hk => hk.2) (.int .i64 t266)) (fun _ hk => hk.2) (.slice Ao118 t267.length co118)) (fun _ hk => trivial), Z5, Z9, Z8⟩

end Go.Proofs.Ytllaofiopnhdgaa.PFnSparseCounts
