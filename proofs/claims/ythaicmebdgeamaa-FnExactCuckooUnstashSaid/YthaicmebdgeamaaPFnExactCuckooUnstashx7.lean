-- made by wip/tools/myprint.py over the kit's print, for this claim
import Derived.Test.YthaicmebdgeamaaPFnExactCuckooUnstashx0
import Derived.Test.YthaicmebdgeamaaPFnExactCuckooUnstashx5
import Derived.Test.YthaicmebdgeamaaPFnExactCuckooUnstashx6
namespace Go.Proofs.Ythaicmebdgeamaa.PFnExactCuckooUnstash
open Go.RowKit Go.Proofs.YthaicmebdgeamaaW.PrintWords Go.Proofs.YthaicmebdgeamaaW.PrintLast Go.Proofs.YthaicmebdgeamaaW.PrintMore
attribute [local go_sem] max2_int min2_int max_two min_two max_three min_three max_four min_four   -- for this text's walks alone
set_option linter.unusedVariables false
set_option linter.unusedSimpArgs false

/-! ### impl_cloneCuckoo: function 25 -/
def impl_cloneCuckoo.f (a0_0 : Int) (l0_1 : List ByteArray) (l0_2 : List ByteArray) : Option (Int × List ByteArray × List ByteArray) := (slices_Clone_string_string.f l0_1).bind fun t260 => ((slices_Clone_string_string.f l0_2).bind fun t263 => (some (a0_0, t260, t263)))
def impl_cloneCuckoo.T1 : Bool × List (List Nat × List Nat) := (true, [([], []), ([0], [0]), ([], []), ([2], [2]), ([3], [3]), ([], []), ([5], [5]), ([6, 4], [6]), ([1, 4, 7], [1, 4, 7]), ([8, 7, 0, 1, 2, 3, 4, 5, 6, 7, 8], [8])])
def impl_cloneCuckoo.B1 : List Nat := [0, 1, 0, 4, 12, 0, 32, 124, 255, 511]
theorem impl_cloneCuckoo.tab1 : rtab .any (opsOf Try.f25 1) = impl_cloneCuckoo.T1 := by kernel_rfl
theorem impl_cloneCuckoo.bits1 : waitsOk impl_cloneCuckoo.T1.2 impl_cloneCuckoo.B1 = true := by kernel_rfl
set_option maxHeartbeats 8000000 in
set_option maxRecDepth 100000 in
theorem impl_cloneCuckoo.calls (a0_0 : Int) (A0_1 : Option Addr) (c0_1 : Nat) (l0_1 : List ByteArray) (A0_2 : Option Addr) (c0_2 : Nat) (l0_2 : List ByteArray) (r1 : Int) (r2 : List ByteArray) (r3 : List ByteArray) (w : World) (hr0_1 : Kd.C Kd.string w A0_1 l0_1.length l0_1) (hc0_1 : l0_1.length ≤ c0_1) (hr0_2 : Kd.C Kd.string w A0_2 l0_2.length l0_2) (hc0_2 : l0_2.length ≤ c0_2) (h : impl_cloneCuckoo.f a0_0 l0_1 l0_2 = some (r1, r2, r3)) :
  Calls Try.prog 25 #[.agg #[.int .i64 a0_0, .slice A0_1 l0_1.length c0_1, .slice A0_2 l0_2.length c0_2]] w fun e w' => ∃ v1_ v2_ : Value, e = .returned (.agg #[.int .i64 r1, v1_, v2_]) ∧ Kd.R Kd.string 9 w' w.heap.size (fun k_ => some k_ ≠ (v2_ : Value).ownBlock) v1_ r2 ∧ Kd.R Kd.string 9 w' w.heap.size (fun k_ => some k_ ≠ (v1_ : Value).ownBlock) v2_ r3 ∧ Below w.heap.size w w' := by
 have hu26 := Try.underlying26
 have HR0_1 := Aside0.mk hr0_1
 have HC0_1 := Aside0.mk hc0_1
 clear hr0_1 hc0_1
 have HR0_2 := Aside0.mk hr0_2
 have HC0_2 := Aside0.mk hc0_2
 clear hr0_2 hc0_2
 have HB := Aside0.mk (Below.refl w.heap.size w)
 have H : ((slices_Clone_string_string.f l0_1).bind fun t260 => ((slices_Clone_string_string.f l0_2).bind fun t263 => (some (a0_0, t260, t263)))) = some (r1, r2, r3) := h
 clear h
 replace H := Option.bind_eq_some_iff.mp H
 obtain ⟨t260, A20, H⟩ := H
 replace H : ((slices_Clone_string_string.f l0_2).bind fun t263 => (some (a0_0, t260, t263))) = some (r1, r2, r3) := H
 have A2 := Aside0.mk A20
 clear A20
 replace H := Option.bind_eq_some_iff.mp H
 obtain ⟨t263, A30, H⟩ := H
 replace H : (some (a0_0, t260, t263)) = some (r1, r2, r3) := H
 have A3 := Aside0.mk A30
 clear A30
 simp only [Option.some.injEq, Prod.mk.injEq] at H
 obtain ⟨rfl, rfl, rfl⟩ := H
 go_enter Try.func25, Try.ntmps25
 try go_wp2_with (first | ((with_reducible refine gate_dst (N := 1) rfl ?_); refine box_event ?hg (N := 1) ?hd (cs := #[.int .i64 a0_0, .slice A0_1 l0_1.length c0_1, .slice A0_2 l0_2.length c0_2]) (t := 26) ?hr ?_; (case hd => rfl); (case hg => rfl); (case hr => first | (go_simp; done) | (go_simp; rfl)); intro gb258 hg w4 hbox hb; have n0_ := Aside0.mk (below_step (uB HB) hb); have n1_ := Aside0.mk (hbox); have n2_ := Aside0.mk ((by rw [hg]; exact (below_size (uB HB)) : w.heap.size ≤ gb258)); have n3_ := Aside0.mk ((by rw [hg]; exact (below_size (uB HB)) : w.heap.size ≤ gb258)); clear HB; have HB := n0_; have BK258 := n1_; have GW258 := n2_; have GE258 := n3_; clear n0_ n1_ n2_ n3_; clear hb hbox hg) | ((with_reducible refine gate_dst (N := 2) rfl ?_); refine box_event ?hg (N := 2) ?hd (cs := #[.int .i64 0, .slice none 0 0, .slice none 0 0]) (t := 26) ?hr ?_; (case hd => rfl); (case hg => rfl); (case hr => first | (go_simp; done) | (go_simp; rfl)); intro gb259 hg w5 hbox hb; have n0_ := Aside0.mk (blk_below (g := gb258) (o := .cells #[.int .i64 a0_0, .slice A0_1 l0_1.length c0_1, .slice A0_2 l0_2.length c0_2] 26 (0, 0)) (uK BK258) hb); have n1_ := Aside0.mk (below_step (by repeat (first | (with_reducible first | exact HB.out | apply below_alloc | apply pw_below_drewN | apply below_drew1 | refine below_set ?_ GE258.out) | exact HB.out)) hb); have n2_ := Aside0.mk (hbox); have n3_ := Aside0.mk ((by rw [hg]; exact (below_size (by repeat (first | (with_reducible first | exact HB.out | apply below_alloc | apply pw_below_drewN | apply below_drew1 | refine below_set ?_ GE258.out) | exact HB.out))) : w.heap.size ≤ gb259)); have n4_ := Aside0.mk ((by rw [hg]; exact (below_size (by repeat (first | (with_reducible first | exact HB.out | apply below_alloc | apply pw_below_drewN | apply below_drew1 | refine below_set ?_ GE258.out) | exact HB.out))) : w.heap.size ≤ gb259)); have n5_ := Aside0.mk ((by rw [hg]; exact Nat.ne_of_lt (blk_lt (g := gb258) (o := .cells #[.int .i64 a0_0, .slice A0_1 l0_1.length c0_1, .slice A0_2 l0_2.length c0_2] 26 (0, 0)) (uK BK258)) : gb258 ≠ gb259)); have n6_ := Aside0.mk ((by rw [hg]; exact Nat.ne_of_gt (blk_lt (g := gb258) (o := .cells #[.int .i64 a0_0, .slice A0_1 l0_1.length c0_1, .slice A0_2 l0_2.length c0_2] 26 (0, 0)) (uK BK258)) : gb259 ≠ gb258)); clear BK258 HB; have BK258 := n0_; have HB := n1_; have BK259 := n2_; have GW259 := n3_; have GE259 := n4_; have NB258_259 := n5_; have NB259_258 := n6_; clear n0_ n1_ n2_ n3_ n4_ n5_ n6_; clear hb hbox hg))
 have n0_ := Aside0.mk (blk_drew BK258.out)
 have n1_ := Aside0.mk (blk_drew BK259.out)
 have n2_ := Aside0.mk (below_drew1 HB.out)
 clear BK258
 clear BK259
 clear HB
 have BK258 := n0_
 have BK259 := n1_
 have HB := n2_
 clear n0_ n1_ n2_
 refine start_ (n := 10) (S := fun w' => w'.cell? ⟨gb258, 0, none⟩ = some (.int .i64 a0_0) ∧ w'.cell? ⟨gb258, 1, none⟩ = some (.slice A0_1 l0_1.length c0_1) ∧ w'.cell? ⟨gb258, 2, none⟩ = some (.slice A0_2 l0_2.length c0_2)) (ds := []) #[false, false, false, false, false, false, false, false, false, false] (by kernel_rfl) rfl rfl ⟨(blk_cell BK258.out 0).trans rfl, (blk_cell BK258.out 1).trans rfl, (blk_cell BK258.out 2).trans rfl⟩ (fun hHeld => ?_); refine with_tabW impl_cloneCuckoo.tab1 impl_cloneCuckoo.bits1 (fun HT_ HW_ => ?_)
 generalize w5.drew = w6 at BK258 BK259 HB hHeld ⊢
 refine pure_ (i := 0) (N := some 3) (v := ?_) (a' := ?_) #[true, false, false, false, false, false, false, false, false, false] rfl rfl (any_of HT_.out (by kernel_rfl)) (fun _ _ _ h => h) (Or.inl ⟨by rfl, ?_⟩) ?_ ?_
 rotate_left
 ·
  intro w'
  go_simp
  with_reducible rfl
 rotate_left
 ·
  simp only [Act.put, List.setIfInBounds_toArray, List.set_cons_zero, List.set_cons_succ, i64_w, i32_w]
  rfl
 refine pure_ (i := 2) (N := some 5) (v := ?_) (a' := ?_) #[true, false, true, false, false, false, false, false, false, false] rfl rfl (any_of HT_.out (by kernel_rfl)) (fun _ _ _ h => h) (Or.inl ⟨by rfl, ?_⟩) ?_ ?_
 rotate_left
 ·
  intro w'
  go_simp
  with_reducible rfl
 rotate_left
 ·
  simp only [Act.put, List.setIfInBounds_toArray, List.set_cons_zero, List.set_cons_succ, i64_w, i32_w]
  rfl
 refine pure_ (i := 5) (N := some 8) (v := ?_) (a' := ?_) #[true, false, true, false, false, true, false, false, false, false] rfl rfl (any_of HT_.out (by kernel_rfl)) (fun _ _ _ h => h) (Or.inl ⟨by rfl, ?_⟩) ?_ ?_
 rotate_left
 ·
  intro w'
  go_simp
  with_reducible rfl
 rotate_left
 ·
  simp only [Act.put, List.setIfInBounds_toArray, List.set_cons_zero, List.set_cons_succ, i64_w, i32_w]
  rfl
 refine take_ (i := 1) (N := some 4) (v := ?_) (a' := ?_) #[true, true, true, false, false, true, false, false, false, false] rfl rfl (take_ofW HT_.out HW_.out (by kernel_rfl)) (fun _ _ _ h => h) (Or.inl ⟨by rfl, ?_⟩) hHeld ?_ ?_
 rotate_left
 ·
  rintro w' ⟨s0, s1, s2⟩
  go_simp
  with_reducible rfl
 rotate_left
 ·
  simp only [Act.put, List.setIfInBounds_toArray, List.set_cons_zero, List.set_cons_succ, i64_w, i32_w]
  rfl
 refine take_ (i := 3) (N := some 6) (v := ?_) (a' := ?_) #[true, true, true, true, false, true, false, false, false, false] rfl rfl (take_ofW HT_.out HW_.out (by kernel_rfl)) (fun _ _ _ h => h) (Or.inl ⟨by rfl, ?_⟩) hHeld ?_ ?_
 rotate_left
 ·
  rintro w' ⟨s0, s1, s2⟩
  go_simp
  with_reducible rfl
 rotate_left
 ·
  simp only [Act.put, List.setIfInBounds_toArray, List.set_cons_zero, List.set_cons_succ, i64_w, i32_w]
  rfl
 refine take_ (i := 6) (N := some 9) (v := ?_) (a' := ?_) #[true, true, true, true, false, true, true, false, false, false] rfl rfl (take_ofW HT_.out HW_.out (by kernel_rfl)) (fun _ _ _ h => h) (Or.inl ⟨by rfl, ?_⟩) hHeld ?_ ?_
 rotate_left
 ·
  rintro w' ⟨s0, s1, s2⟩
  go_simp
  with_reducible rfl
 rotate_left
 ·
  simp only [Act.put, List.setIfInBounds_toArray, List.set_cons_zero, List.set_cons_succ, i64_w, i32_w]
  rfl
 refine one_ (i := 4) (N := some 7) #[true, true, true, true, true, true, true, false, false, false] rfl rfl (one_of HT_.out (by kernel_rfl)) (by decide) (fun K hK => ?_)
 refine goes_ Try.func53 (by kernel_rfl) rfl #[.slice A0_1 l0_1.length c0_1] (by rfl) rfl rfl (by (try simp only [List.map_toArray, List.map_cons, List.map_nil]); first | done | rfl | (simp only [List.length_drop, List.length_take]; rfl)) ?_
 with_reducible refine (slices_Clone_string_string.calls _ _ l0_1 t260 _ ?side1 ?side2 A2.out).mono ?_
 (case side1 => exact uC HR0_1 HB)
 (case side2 => exact HC0_1.out)
 rintro e w7 ⟨v261, rfl, ho0, hb⟩
 refine ⟨_, rfl, ?_⟩
 have n0_ := Aside0.mk (Kd.R_lower ho0 (below_size (by repeat (first | (with_reducible first | exact HB.out | apply below_alloc | apply pw_below_drewN | apply below_drew1 | refine below_set ?_ GE258.out | refine below_set ?_ GE259.out) | exact HB.out))))
 have n1_ := Aside0.mk (blk_below (g := gb258) (o := .cells #[.int .i64 a0_0, .slice A0_1 l0_1.length c0_1, .slice A0_2 l0_2.length c0_2] 26 (0, 0)) (uK BK258) hb)
 have n2_ := Aside0.mk (blk_below (g := gb259) (o := .cells #[.int .i64 0, .slice none 0 0, .slice none 0 0] 26 (0, 0)) (uK BK259) hb)
 have n3_ := Aside0.mk (below_step (by repeat (first | (with_reducible first | exact HB.out | apply below_alloc | apply pw_below_drewN | apply below_drew1 | refine below_set ?_ GE258.out | refine below_set ?_ GE259.out) | exact HB.out)) hb)
 clear BK258
 clear BK259
 clear HB
 have HO262 := n0_
 have BK258 := n1_
 have BK259 := n2_
 have HB := n3_
 clear n0_ n1_ n2_ n3_
 (try clear hb)
 (try clear hb2)
 (try clear hk)
 (try clear hi)
 (try clear ho0)
 refine hK.out _ _ ⟨(blk_cell BK258.out 0).trans rfl, (blk_cell BK258.out 1).trans rfl, (blk_cell BK258.out 2).trans rfl⟩ (fun hHeld => ?_)
 clear hK K
 refine norm_ (a' := ?_) ?_ ?_
 rotate_left
 ·
  show Act.put _ (some 7) _ = _
  simp only [Act.put, List.setIfInBounds_toArray, List.set_cons_zero, List.set_cons_succ, i64_w, i32_w]
  rfl
 refine one_ (i := 7) (N := some 10) #[true, true, true, true, true, true, true, true, false, false] rfl rfl (one_of HT_.out (by kernel_rfl)) (by decide) (fun K hK => ?_)
 refine goes_ Try.func53 (by kernel_rfl) rfl #[.slice A0_2 l0_2.length c0_2] (by rfl) rfl rfl (by (try simp only [List.map_toArray, List.map_cons, List.map_nil]); first | done | rfl | (simp only [List.length_drop, List.length_take]; rfl)) ?_
 with_reducible refine (slices_Clone_string_string.calls _ _ l0_2 t263 _ ?side1 ?side2 A3.out).mono ?_
 (case side1 => exact uC HR0_2 HB)
 (case side2 => exact HC0_2.out)
 rintro e w8 ⟨v264, rfl, ho0, hb⟩
 refine ⟨_, rfl, ?_⟩
 have n0_ := Aside0.mk (Kd.R_elder' (uR HO262) (Kd.R_base ho0) hb)
 have n1_ := Aside0.mk (Kd.R_lower (Kd.R_new' ho0 (Kd.R_lt (uR HO262))) (below_size (by repeat (first | (with_reducible first | exact HB.out | apply below_alloc | apply pw_below_drewN | apply below_drew1 | refine below_set ?_ GE258.out | refine below_set ?_ GE259.out) | exact HB.out))))
 have n2_ := Aside0.mk (blk_below (g := gb258) (o := .cells #[.int .i64 a0_0, .slice A0_1 l0_1.length c0_1, .slice A0_2 l0_2.length c0_2] 26 (0, 0)) (uK BK258) hb)
 have n3_ := Aside0.mk (blk_below (g := gb259) (o := .cells #[.int .i64 0, .slice none 0 0, .slice none 0 0] 26 (0, 0)) (uK BK259) hb)
 have n4_ := Aside0.mk (below_step (by repeat (first | (with_reducible first | exact HB.out | apply below_alloc | apply pw_below_drewN | apply below_drew1 | refine below_set ?_ GE258.out | refine below_set ?_ GE259.out) | exact HB.out)) hb)
 clear HO262
 clear BK258
 clear BK259
 clear HB
 have HO262 := n0_
 have HO265 := n1_
 have BK258 := n2_
 have BK259 := n3_
 have HB := n4_
 clear n0_ n1_ n2_ n3_ n4_
 (try clear hb)
 (try clear hb2)
 (try clear hk)
 (try clear hi)
 (try clear ho0)
 obtain ⟨Ao9, co9, eo9⟩ := Kd.R_slice HO265.out
 (first | subst eo9 | (injection eo9 with f1_ f2_ f3_; have f4_ := f1_.symm; have f5_ := f3_.symm; clear f1_ f2_ f3_; subst f4_; subst f5_))
 obtain ⟨Ao10, co10, eo10⟩ := Kd.R_slice HO262.out
 (first | subst eo10 | (injection eo10 with f1_ f2_ f3_; have f4_ := f1_.symm; have f5_ := f3_.symm; clear f1_ f2_ f3_; subst f4_; subst f5_))
 refine hK.out _ _ ⟨(blk_cell BK258.out 0).trans rfl, (blk_cell BK258.out 1).trans rfl, (blk_cell BK258.out 2).trans rfl⟩ (fun hHeld => ?_)
 clear hK K
 refine norm_ (a' := ?_) ?_ ?_
 rotate_left
 ·
  show Act.put _ (some 10) _ = _
  simp only [Act.put, List.setIfInBounds_toArray, List.set_cons_zero, List.set_cons_succ, i64_w, i32_w]
  rfl
 refine pure_ (i := 8) (N := some 11) (v := ?_) (a' := ?_) #[true, true, true, true, true, true, true, true, true, false] rfl rfl (any_of HT_.out (by kernel_rfl)) (fun _ _ _ h => h) (Or.inl ⟨by rfl, ?_⟩) ?_ ?_
 rotate_left
 ·
  intro w'
  go_simp
  with_reducible rfl
 rotate_left
 ·
  simp only [Act.put, List.setIfInBounds_toArray, List.set_cons_zero, List.set_cons_succ, i64_w, i32_w]
  rfl
 refine one_ (i := 9) (N := none) #[true, true, true, true, true, true, true, true, true, true] rfl rfl (one_of HT_.out (by kernel_rfl)) (by decide) (fun K hK => ?_)
 have hs11 : w8.cell? ⟨gb259, 0, none⟩ = some (.int .i64 0) := (blk_cell BK259.out 0).trans rfl
 have hfs11 := blk_frozen BK259.out 0
 have hns11_0 := NB258_259.out
 have hms11_0 := NB259_258.out
 have hs12 : w8.cell? ⟨gb259, 1, none⟩ = some (.slice none 0 0) := (blk_cell BK259.out 1).trans rfl
 have hfs12 := blk_frozen BK259.out 1
 have hns12_0 := NB258_259.out
 have hms12_0 := NB259_258.out
 have hs13 : w8.cell? ⟨gb259, 2, none⟩ = some (.slice none 0 0) := (blk_cell BK259.out 2).trans rfl
 have hfs13 := blk_frozen BK259.out 2
 have hns13_0 := NB258_259.out
 have hms13_0 := NB259_258.out
 refine skip_ (w1 := ?_) (by rfl) rfl ?_ ?_
 rotate_left
 ·
  go_simp
  rfl
 refine hK.out _ _ ⟨((cell_far (p := ⟨gb259, _, none⟩) NB258_259.out _).trans (((cell_far (p := ⟨gb259, _, none⟩) NB258_259.out _).trans (((cell_far (p := ⟨gb259, _, none⟩) NB258_259.out _).trans (hHeld.1)))))), ((cell_far (p := ⟨gb259, _, none⟩) NB258_259.out _).trans (((cell_far (p := ⟨gb259, _, none⟩) NB258_259.out _).trans (((cell_far (p := ⟨gb259, _, none⟩) NB258_259.out _).trans (hHeld.2.1)))))), ((cell_far (p := ⟨gb259, _, none⟩) NB258_259.out _).trans (((cell_far (p := ⟨gb259, _, none⟩) NB258_259.out _).trans (((cell_far (p := ⟨gb259, _, none⟩) NB258_259.out _).trans (hHeld.2.2))))))⟩ (fun hHeld => ?_)
 clear hK K
 refine done_ (done_of HT_.out (by kernel_rfl)) ?_
 try go_wp2
 refine bodyPost_ret (results_cell_row rfl _ _ gb259 26 #[.int .i64 a0_0, .slice Ao10 t260.length co10, .slice Ao9 t263.length co9] (0, 0) _ rfl (by refine uW ?_; refine blk_put (cs := #[.int .i64 a0_0, .slice Ao10 t260.length co10, .slice none 0 0]) ?_ 2 _ rfl; refine uW ?_; refine blk_put (cs := #[.int .i64 a0_0, .slice none 0 0, .slice none 0 0]) ?_ 1 _ rfl; refine uW ?_; refine blk_put (cs := #[.int .i64 0, .slice none 0 0, .slice none 0 0]) ?_ 0 _ rfl; refine uW ?_; exact BK259.out) Try.underlying26 rfl (by kernel_rfl)) rfl ?_
 exact ⟨_, _, by first | rfl | (simp [errW_none, errW_some] <;> rfl) | (simp [*, errW_none, errW_some] <;> rfl), by (with_reducible repeat (first | apply Kd.R_alloc | apply Kd.R_drewN | apply Kd.R_drew)); exact Kd.R_mono (Kd.R_far (p := ⟨gb259, 2, none⟩) (Kd.R_far (p := ⟨gb259, 1, none⟩) (Kd.R_far (p := ⟨gb259, 0, none⟩) (Kd.R_types HO262.out BK259.out (by decide)) (fun _ hk => hk.2) (.int .i64 a0_0)) (fun _ hk => hk.2) (.slice Ao10 t260.length co10)) (fun _ hk => hk.2) (.slice Ao9 t263.length co9)) (fun _ hk => hk.1.2), by (with_reducible repeat (first | apply Kd.R_alloc | apply Kd.R_drewN | apply Kd.R_drew)); exact Kd.R_mono (Kd.R_far (p := ⟨gb259, 2, none⟩) (Kd.R_far (p := ⟨gb259, 1, none⟩) (Kd.R_far (p := ⟨gb259, 0, none⟩) (Kd.R_types HO265.out BK259.out (by decide)) (fun _ hk => hk.2) (.int .i64 a0_0)) (fun _ hk => hk.2) (.slice Ao10 t260.length co10)) (fun _ hk => hk.2) (.slice Ao9 t263.length co9)) (fun _ hk => hk.1.2), by repeat (first | (with_reducible first | exact HB.out | apply below_alloc | apply pw_below_drewN | apply below_drew1 | refine below_set ?_ GE258.out | refine below_set ?_ GE259.out) | exact HB.out)⟩

/-! ### impl_CuckooUnstash: function 9 -/
def impl_settle.f (k : Nat) (seed : Int) (slots : List ByteArray) (key : ByteArray) : Option (Bool × List ByteArray) := (impl_cellsOf.f k seed key (slots.length : Int)).bind fun ab => (if 0 ≤ ab.1 then (if ab.1 < (slots.length : Int) then (if (rdOf ByteArray.empty slots ab.1).toList = ([] : List UInt8) then (some (true, slots.set ab.1.toNat key)) else (if 0 ≤ ab.2 then (if ab.2 < (slots.length : Int) then (if (rdOf ByteArray.empty slots ab.2).toList = ([] : List UInt8) then (some (true, slots.set ab.2.toNat key)) else (some (false, slots))) else (none)) else (none))) else (none)) else (none))
theorem impl_settle.mono : ∀ a0 a1 a2 k, LeO (impl_settle.f k a0 a1 a2) (impl_settle.f (k + 1) a0 a1 a2) := by
 intro a0 a1 a2 k
 unfold impl_settle.f
 exact LeO.bind (impl_cellsOf.mono _ _ _ _) (fun _ => LeO.refl _)
theorem impl_settle.index0 (x y : Int) (W : World) : (Instr.index 66 (.agg #[.int .i64 x, .int .i64 y]) (.int .i64 0)).run Try.prog W = .ok (.int .i64 x) W := by
 have hu66 := Try.underlying66
 first | rfl | (simp [Instr.run, hu66]; done) | (go_simp; rfl) | (simp [run_underlying hu66]; rfl)
theorem impl_settle.index1 (x y : Int) (W : World) : (Instr.index 66 (.agg #[.int .i64 x, .int .i64 y]) (.int .i64 1)).run Try.prog W = .ok (.int .i64 y) W := by
 have hu66 := Try.underlying66
 first | rfl | (simp [Instr.run, hu66]; done) | (go_simp; rfl) | (simp [run_underlying hu66]; rfl)
def impl_settle.T1 : Bool × List (List Nat × List Nat) := (true, [([], []), ([0], [0]), ([1], [1]), ([2], [2]), ([], []), ([], []), ([5], [5]), ([6], [6]), ([7], [7]), ([8], [8]), ([3, 4, 9], [3, 4, 9]), ([10], [10]), ([11], [11]), ([11], [11]), ([12, 10, 0, 1, 2, 3, 4, 5, 6, 7, 8, 9, 10, 11, 12], [12]), ([13, 14, 0, 1, 2, 3, 4, 5, 6, 7, 8, 9, 10, 11, 12, 13, 14], [13])])
def impl_settle.B1 : List Nat := [0, 1, 3, 7, 0, 0, 32, 96, 224, 480, 1023, 2047, 4095, 4095, 8191, 32767]
theorem impl_settle.tab1 : rtab .any (opsOf Try.f27 1) = impl_settle.T1 := by kernel_rfl
theorem impl_settle.bits1 : waitsOk impl_settle.T1.2 impl_settle.B1 = true := by kernel_rfl
set_option maxHeartbeats 8000000 in
set_option maxRecDepth 100000 in
theorem impl_settle.calls (k : Nat) (g : Nat) (seed : Int) (P0_ : Nat → Prop) (sv tv : Value) (slots : List ByteArray) (key : ByteArray) (r : Bool) (r2 : List ByteArray) (w0 w : World) (hB : Below w0.heap.size w0 w) (hbk : w.heap[g]? = some (.cells #[.int .i64 seed, sv, tv] 26 (0, 0))) (ho : Kd.R Kd.string 9 w w0.heap.size P0_ sv slots) (h : impl_settle.f k seed slots key = some (r, r2)) :
  Calls Try.prog 27 #[.pointer (some ⟨g, 0, none⟩), .string key] w fun e w' => e = .returned (.bool r) ∧ Kd.R Kd.string 9 w' w0.heap.size P0_ sv r2 ∧ Below w0.heap.size w0 w' ∧ Kept w w' (fun k_ => some k_ = sv.ownBlock) := by
 have hu26 := Try.underlying26
 have hu66 := Try.underlying66
 have hix0 : ∀ (x y : Int) (W : World), (Instr.index 66 (.agg #[.int .i64 x, .int .i64 y]) (.int .i64 0)).run Try.prog W = .ok (.int .i64 x) W := impl_settle.index0
 have hix1 : ∀ (x y : Int) (W : World), (Instr.index 66 (.agg #[.int .i64 x, .int .i64 y]) (.int .i64 1)).run Try.prog W = .ok (.int .i64 y) W := impl_settle.index1
 have HO := Aside0.mk ho
 have BK := Aside0.mk hbk
 have HB := Aside0.mk hB
 clear ho hbk hB
 have HK := Aside0.mk (Kept.refl w (fun k_ => some k_ = sv.ownBlock))
 obtain ⟨As, cs, es⟩ := Kd.R_slice HO.out
 subst es
 unfold impl_settle.f at h
 obtain ⟨⟨ta, tb⟩, A20, H⟩ := Option.bind_eq_some_iff.mp h
 clear h
 have A2 := Aside0.mk A20
 clear A20
 have HQ := Aside0.mk (show (if 0 ≤ ta then (if ta < (slots.length : Int) then (if (rdOf ByteArray.empty slots ta).toList = ([] : List UInt8) then (some (true, slots.set ta.toNat key)) else (if 0 ≤ tb then (if tb < (slots.length : Int) then (if (rdOf ByteArray.empty slots tb).toList = ([] : List UInt8) then (some (true, slots.set tb.toNat key)) else (some (false, slots))) else (none)) else (none))) else (none)) else (none)) = some (r, r2) from H)
 clear H
 go_enter Try.func27, Try.ntmps27
 try go_wp2
 have n0_ := Aside0.mk (blk_drew BK.out)
 have n1_ := Aside0.mk (below_drew1 HB.out)
 have n2_ := Aside0.mk (Kd.R_drew HO.out)
 have n3_ := Aside0.mk (Kept.drew HK.out)
 clear BK HB HO HK
 have BK := n0_
 have HB := n1_
 have HO := n2_
 have HK := n3_
 clear n0_ n1_ n2_ n3_
 refine start_ (n := 16) (S := fun w' => w'.cell? ⟨g, 0, none⟩ = some (.int .i64 seed) ∧ w'.cell? ⟨g, 1, none⟩ = some (.slice As slots.length cs)) (ds := []) #[false, false, false, false, false, false, false, false, false, false, false, false, false, false, false, false] (by kernel_rfl) rfl rfl ⟨(blk_cell BK.out 0).trans rfl, (blk_cell BK.out 1).trans rfl⟩ (fun hHeld => ?_); refine with_tabW impl_settle.tab1 impl_settle.bits1 (fun HT_ HW_ => ?_)
 generalize w.drew = w5 at BK HB HO HK hHeld ⊢
 refine pure_ (i := 0) (N := (some 10)) (v := ?_) (a' := ?_) #[true, false, false, false, false, false, false, false, false, false, false, false, false, false, false, false] rfl rfl (any_of HT_.out (by kernel_rfl)) (fun _ _ _ h => h) (Or.inl ⟨by rfl, ?_⟩) ?_ ?_
 rotate_left
 · intro w'
   go_simp
   with_reducible rfl
 rotate_left
 · simp only [Act.put, List.setIfInBounds_toArray, List.set_cons_zero, List.set_cons_succ, i64_w, i32_w]
   rfl
 refine pure_ (i := 1) (N := (some 11)) (v := ?_) (a' := ?_) #[true, true, false, false, false, false, false, false, false, false, false, false, false, false, false, false] rfl rfl (any_of HT_.out (by kernel_rfl)) (fun _ _ _ h => h) (Or.inl ⟨by rfl, ?_⟩) ?_ ?_
 rotate_left
 · intro w'
   go_simp
   with_reducible rfl
 rotate_left
 · simp only [Act.put, List.setIfInBounds_toArray, List.set_cons_zero, List.set_cons_succ, i64_w, i32_w]
   rfl
 refine pure_ (i := 2) (N := (some 12)) (v := ?_) (a' := ?_) #[true, true, true, false, false, false, false, false, false, false, false, false, false, false, false, false] rfl rfl (any_of HT_.out (by kernel_rfl)) (fun _ _ _ h => h) (Or.inl ⟨by rfl, ?_⟩) ?_ ?_
 rotate_left
 · intro w'
   go_simp
   with_reducible rfl
 rotate_left
 · simp only [Act.put, List.setIfInBounds_toArray, List.set_cons_zero, List.set_cons_succ, i64_w, i32_w]
   rfl
 refine pure_ (i := 4) (N := (some 14)) (v := ?_) (a' := ?_) #[true, true, true, false, true, false, false, false, false, false, false, false, false, false, false, false] rfl rfl (any_of HT_.out (by kernel_rfl)) (fun _ _ _ h => h) (Or.inl ⟨by rfl, ?_⟩) ?_ ?_
 rotate_left
 · intro w'
   go_simp
   with_reducible rfl
 rotate_left
 · simp only [Act.put, List.setIfInBounds_toArray, List.set_cons_zero, List.set_cons_succ, i64_w, i32_w]
   rfl
 refine pure_ (i := 5) (N := (some 15)) (v := ?_) (a' := ?_) #[true, true, true, false, true, true, false, false, false, false, false, false, false, false, false, false] rfl rfl (any_of HT_.out (by kernel_rfl)) (fun _ _ _ h => h) (Or.inl ⟨by rfl, ?_⟩) ?_ ?_
 rotate_left
 · intro w'
   go_simp
   with_reducible rfl
 rotate_left
 · simp only [Act.put, List.setIfInBounds_toArray, List.set_cons_zero, List.set_cons_succ, i64_w, i32_w]
   rfl
 refine pure_ (i := 6) (N := (some 16)) (v := ?_) (a' := ?_) #[true, true, true, false, true, true, true, false, false, false, false, false, false, false, false, false] rfl rfl (any_of HT_.out (by kernel_rfl)) (fun _ _ _ h => h) (Or.inl ⟨by rfl, ?_⟩) ?_ ?_
 rotate_left
 · intro w'
   go_simp
   with_reducible rfl
 rotate_left
 · simp only [Act.put, List.setIfInBounds_toArray, List.set_cons_zero, List.set_cons_succ, i64_w, i32_w]
   rfl
 refine pure_ (i := 7) (N := (some 17)) (v := ?_) (a' := ?_) #[true, true, true, false, true, true, true, true, false, false, false, false, false, false, false, false] rfl rfl (any_of HT_.out (by kernel_rfl)) (fun _ _ _ h => h) (Or.inl ⟨by rfl, ?_⟩) ?_ ?_
 rotate_left
 · intro w'
   go_simp
   with_reducible rfl
 rotate_left
 · simp only [Act.put, List.setIfInBounds_toArray, List.set_cons_zero, List.set_cons_succ, i64_w, i32_w]
   rfl
 refine take_ (i := 3) (N := (some 13)) (v := ?_) (a' := ?_) #[true, true, true, true, true, true, true, true, false, false, false, false, false, false, false, false] rfl rfl (take_ofW HT_.out HW_.out (by kernel_rfl)) (fun _ _ _ h => h) (Or.inl ⟨by rfl, ?_⟩) hHeld ?_ ?_
 rotate_left
 · rintro w' ⟨s0, s1⟩
   go_simp
   with_reducible rfl
 rotate_left
 · simp only [Act.put, List.setIfInBounds_toArray, List.set_cons_zero, List.set_cons_succ, i64_w, i32_w]
   rfl
 refine take_ (i := 8) (N := (some 18)) (v := ?_) (a' := ?_) #[true, true, true, true, true, true, true, true, true, false, false, false, false, false, false, false] rfl rfl (take_ofW HT_.out HW_.out (by kernel_rfl)) (fun _ _ _ h => h) (Or.inl ⟨by rfl, ?_⟩) hHeld ?_ ?_
 rotate_left
 · rintro w' ⟨s0, s1⟩
   go_simp
   with_reducible rfl
 rotate_left
 · simp only [Act.put, List.setIfInBounds_toArray, List.set_cons_zero, List.set_cons_succ, i64_w, i32_w]
   rfl
 refine pure_ (i := 9) (N := (some 19)) (v := ?_) (a' := ?_) #[true, true, true, true, true, true, true, true, true, true, false, false, false, false, false, false] rfl rfl (any_of HT_.out (by kernel_rfl)) (fun _ _ _ h => h) (Or.inl ⟨by rfl, ?_⟩) ?_ ?_
 rotate_left
 · intro w'
   go_simp
   with_reducible rfl
 rotate_left
 · simp only [Act.put, List.setIfInBounds_toArray, List.set_cons_zero, List.set_cons_succ, i64_w, i32_w]
   rfl
 refine one_ (i := 10) (N := (some 20)) #[true, true, true, true, true, true, true, true, true, true, true, false, false, false, false, false] rfl rfl (one_of HT_.out (by kernel_rfl)) (by decide) (fun K hK => ?_)
 refine goes_ Try.func51 (by kernel_rfl) rfl #[.int .i64 seed, .string key, .int .i64 (slots.length : Int)] (by rfl) rfl rfl (by (try simp only [List.map_toArray, List.map_cons, List.map_nil]); first | done | rfl | (simp only [List.length_drop, List.length_take]; rfl)) ?_
 with_reducible refine (impl_cellsOf.calls k seed key (slots.length : Int) ta tb _ A2.out).mono ?_
 rintro e w' ⟨rfl, ⟨nd, rfl⟩⟩
 refine ⟨_, rfl, ?_⟩
 have n0_ := Aside0.mk (blk_drewN BK.out nd)
 have n1_ := Aside0.mk (pw_below_drewN HB.out nd)
 have n2_ := Aside0.mk (Kd.R_drewN HO.out nd)
 have n3_ := Aside0.mk (Kept.drewN HK.out nd)
 clear BK HB HO HK
 have BK := n0_
 have HB := n1_
 have HO := n2_
 have HK := n3_
 clear n0_ n1_ n2_ n3_
 refine hK.out _ _ ⟨(blk_cell BK.out 0).trans rfl, (blk_cell BK.out 1).trans rfl⟩ (fun hHeld => ?_)
 clear hK K
 generalize w5.drewN nd = w6 at BK HB HO HK hHeld ⊢
 refine norm_ (a' := ?_) ?_ ?_
 rotate_left
 · show Act.put _ (some 20) _ = _
   simp only [Act.put, List.setIfInBounds_toArray, List.set_cons_zero, List.set_cons_succ, i64_w, i32_w]
   rfl
 refine pure_ (i := 11) (N := (some 9)) (v := ?_) (a' := ?_) #[true, true, true, true, true, true, true, true, true, true, true, true, false, false, false, false] rfl rfl (any_of HT_.out (by kernel_rfl)) (fun _ _ _ h => h) (Or.inl ⟨by rfl, ?_⟩) ?_ ?_
 rotate_left
 · intro w'
   go_simp
   with_reducible rfl
 rotate_left
 · simp only [Act.put, List.setIfInBounds_toArray, List.set_cons_zero, List.set_cons_succ, i64_w, i32_w]
   rfl
 refine pure_ (i := 12) (N := (some 21)) (v := ?_) (a' := ?_) #[true, true, true, true, true, true, true, true, true, true, true, true, true, false, false, false] rfl rfl (any_of HT_.out (by kernel_rfl)) (fun _ _ _ h => h) (Or.inl ⟨by rfl, ?_⟩) ?_ ?_
 rotate_left
 · intro w'
   go_simp
   with_reducible rfl
 rotate_left
 · simp only [Act.put, List.setIfInBounds_toArray, List.set_cons_zero, List.set_cons_succ, i64_w, i32_w]
   rfl
 refine pure_ (i := 13) (N := (some 22)) (v := ?_) (a' := ?_) #[true, true, true, true, true, true, true, true, true, true, true, true, true, true, false, false] rfl rfl (any_of HT_.out (by kernel_rfl)) (fun _ _ _ h => h) (Or.inl ⟨by rfl, ?_⟩) ?_ ?_
 rotate_left
 · intro w'
   go_simp
   with_reducible rfl
 rotate_left
 · simp only [Act.put, List.setIfInBounds_toArray, List.set_cons_zero, List.set_cons_succ, i64_w, i32_w]
   rfl
 refine pure_ (i := 14) (N := (some 5)) (v := ?_) (a' := ?_) #[true, true, true, true, true, true, true, true, true, true, true, true, true, true, true, false] rfl rfl (any_of HT_.out (by kernel_rfl)) (fun _ _ _ h => h) (Or.inl ⟨by rfl, ?_⟩) ?_ ?_
 rotate_left
 · intro w'
   go_simp
   with_reducible rfl
 rotate_left
 · simp only [Act.put, List.setIfInBounds_toArray, List.set_cons_zero, List.set_cons_succ, i64_w, i32_w]
   rfl
 refine pure_ (i := 15) (N := (some 6)) (v := ?_) (a' := ?_) #[true, true, true, true, true, true, true, true, true, true, true, true, true, true, true, true] rfl rfl (any_of HT_.out (by kernel_rfl)) (fun _ _ _ h => h) (Or.inl ⟨by rfl, ?_⟩) ?_ ?_
 rotate_left
 · intro w'
   go_simp
   with_reducible rfl
 rotate_left
 · simp only [Act.put, List.setIfInBounds_toArray, List.set_cons_zero, List.set_cons_succ, i64_w, i32_w]
   rfl
 refine done_ (by kernel_rfl) ?_
 try go_wp2
 go_loopg [26] 2 (fun kq v26 w' => ∃ (i : Nat), v26 = .int .i64 (i : Int) ∧ Aside0 (i + kq = 2) ∧ Aside0 (i ≠ 0 → ¬ ((rdOf ByteArray.empty slots ta).toList = ([] : List UInt8))) ∧ Aside0 (i = 2 → ¬ ((rdOf ByteArray.empty slots tb).toList = ([] : List UInt8))) ∧ Aside0 (w'.heap[g]? = some (.cells #[.int .i64 seed, .slice As slots.length cs, tv] 26 (0, 0))) ∧ Aside0 (Kd.R Kd.string 9 w' w0.heap.size P0_ (.slice As slots.length cs) slots) ∧ Aside0 (Below w0.heap.size w0 w') ∧ Aside0 (Kept w w' (fun k_ => some k_ = (.slice As slots.length cs : Value).ownBlock)))
 case atStart => exact ⟨0, rfl, ⟨rfl⟩, ⟨fun h_ => absurd rfl h_⟩, ⟨fun h_ => by omega⟩, ⟨by refine uW ?_; exact BK.out⟩, ⟨by (with_reducible repeat (first | apply Kd.R_alloc | apply Kd.R_drewN | apply Kd.R_drew)); exact HO.out⟩, ⟨uB HB⟩, ⟨by repeat (first | (with_reducible first | exact HK.out | apply Kept.alloc | apply Kept.drewN | apply Kept.drew) | exact HK.out)⟩⟩
 case round =>
  clear BK HO HB HK
  obtain ⟨i, rfl, HI, HN, HM, BK, HO, HB, HK⟩ := hrel
  have hi_ := HI.out
  have H := HQ.out
  by_cases z0 : i = 0
  ·
   obtain rfl : i = 0 := z0
   by_cases c1 : 0 ≤ ta
   · rw [if_pos c1] at H
     by_cases c2 : ta < (slots.length : Int)
     · rw [if_pos c2] at H
       obtain ⟨go9, co9, eo9, gb9, gl9, cl9, HG9⟩ := Kd.R_form HO.out (by omega)
       cases eo9
       have GB9 := Aside0.mk gb9
       obtain ⟨hx9_0, hf9_0⟩ := Kd.R_celln (⟨#[]⟩ : ByteArray) HO.out (ta : Int) c1 c2
       have hcz_0 : wr.cell? ⟨g, 0, none⟩ = some (.int .i64 seed) := (blk_cell BK.out 0).trans rfl
       have hcz_1 : wr.cell? ⟨g, 1, none⟩ = some (.slice (some ⟨go9, 0, none⟩) slots.length cs) := (blk_cell BK.out 1).trans rfl
       have hfz_0 := blk_frozen BK.out 0
       have hfz_1 := blk_frozen BK.out 1
       have p9 : (0 ≤ (ta : Int)) = True := eq_true c1
       have q9 : (ta < (slots.length : Int)) = True := eq_true c2
       have pd9 : decide (0 ≤ (ta : Int)) = true := decide_eq_true c1
       have qd9 : decide (ta < (slots.length : Int)) = true := decide_eq_true c2
       by_cases e1 : (rdOf ByteArray.empty slots ta).toList = ([] : List UInt8)
       · rw [if_pos e1] at H
         have e1b0 : ((rdOf ByteArray.empty slots ta).toList == ([] : List UInt8)) = true := beq_iff_eq.mpr e1
         have e1b1 : ((rdOf ByteArray.empty slots ta).toList != ([] : List UInt8)) = false := bne_eq_false_iff_eq.mpr e1
         have e1b2 : (rdOf (⟨#[]⟩ : ByteArray) slots ta).toList.isEmpty = true := List.isEmpty_iff.2 e1
         simp only [Option.some.injEq, Prod.mk.injEq] at H
         obtain ⟨rfl, rfl⟩ := H
         have HP10 := Kd.R_putg HO.out (ta : Int) key
         clear c1 c2 e1
         go_wp2_with (first | ((with_reducible refine gate_store (t := 9) (p := 43) rfl ?_); refine store_event (t := 9) (p := 43) (v := ?vo_w11) (w1 := (wr.setCell ⟨go9, (ta : Int).toNat, none⟩ (.string key))) ?hg ?ho ?hn ?hr ?_; (case ho => rfl); (case hg => rfl); (case hn => rfl); (case hr => first | (go_simp; done) | (go_simp; rfl)); intro w11 hw; have hg : wr.grownBy w11 (some go9) := (by rw [hw]; exact HP10.2); have hp_ : Kd.R Kd.string 9 w11 w0.heap.size P0_ (.slice (some ⟨go9, 0, none⟩) slots.length cs) (slots.set (ta : Int).toNat key) := (by rw [hw]; exact HP10.1); clear HP10; have n0_ := Aside0.mk (hp_); have n1_ := Aside0.mk ((by rw [hw]; exact below_set (HB.out) GB9.out : Below w0.heap.size w0 w11)); have n2_ := Aside0.mk (Kept.of_grown hg HK.out (fun k_ e_ => .inl e_.symm)); clear HO HB HK; have HO := n0_; have HB := n1_; have HK := n2_; clear n0_ n1_ n2_; clear hg hw hp_))
         go_ret
         exact ⟨rfl, by (with_reducible repeat (first | apply Kd.R_alloc | apply Kd.R_drewN | apply Kd.R_drew)); exact HO.out, uB HB, by repeat (first | (with_reducible first | exact HK.out | apply Kept.alloc | apply Kept.drewN | apply Kept.drew) | exact HK.out)⟩
       · rw [if_neg e1] at H
         have E1 := Aside0.mk e1
         have e1b0 : ((rdOf ByteArray.empty slots ta).toList == ([] : List UInt8)) = false := beq_eq_false_iff_ne.mpr e1
         have e1b1 : ((rdOf ByteArray.empty slots ta).toList != ([] : List UInt8)) = true := bne_iff_ne.mpr e1
         have e1b2 : (rdOf (⟨#[]⟩ : ByteArray) slots ta).toList.isEmpty = false := by rw [Bool.eq_false_iff]; exact fun h_ => E1.out (List.isEmpty_iff.1 h_)
         clear c1 c2 e1 H
         go_wp2
         go_roundg 1
         case measure => omega
         case rel => exact ⟨1, (by first | rfl | (simp; done)), ⟨by omega⟩, ⟨fun _ => E1.out⟩, ⟨fun h_ => by omega⟩, BK, HO, HB, HK⟩
     · rw [if_neg c2] at H; cases H
   · rw [if_neg c1] at H; cases H
  · by_cases z1 : i = 1
    ·
     obtain rfl : i = 1 := z1
     by_cases c1 : 0 ≤ ta
     · rw [if_pos c1] at H
       by_cases c2 : ta < (slots.length : Int)
       · rw [if_pos c2, if_neg (HN.out (by omega))] at H
         by_cases d1 : 0 ≤ tb
         · rw [if_pos d1] at H
           by_cases d2 : tb < (slots.length : Int)
           · rw [if_pos d2] at H
             obtain ⟨go9, co9, eo9, gb9, gl9, cl9, HG9⟩ := Kd.R_form HO.out (by omega)
             cases eo9
             have GB9 := Aside0.mk gb9
             obtain ⟨hx9_0, hf9_0⟩ := Kd.R_celln (⟨#[]⟩ : ByteArray) HO.out (tb : Int) d1 d2
             have hcz_0 : wr.cell? ⟨g, 0, none⟩ = some (.int .i64 seed) := (blk_cell BK.out 0).trans rfl
             have hcz_1 : wr.cell? ⟨g, 1, none⟩ = some (.slice (some ⟨go9, 0, none⟩) slots.length cs) := (blk_cell BK.out 1).trans rfl
             have hfz_0 := blk_frozen BK.out 0
             have hfz_1 := blk_frozen BK.out 1
             have p9 : (0 ≤ (tb : Int)) = True := eq_true d1
             have q9 : (tb < (slots.length : Int)) = True := eq_true d2
             have pd9 : decide (0 ≤ (tb : Int)) = true := decide_eq_true d1
             have qd9 : decide (tb < (slots.length : Int)) = true := decide_eq_true d2
             by_cases e1 : (rdOf ByteArray.empty slots tb).toList = ([] : List UInt8)
             · rw [if_pos e1] at H
               have e1b0 : ((rdOf ByteArray.empty slots tb).toList == ([] : List UInt8)) = true := beq_iff_eq.mpr e1
               have e1b1 : ((rdOf ByteArray.empty slots tb).toList != ([] : List UInt8)) = false := bne_eq_false_iff_eq.mpr e1
               have e1b2 : (rdOf (⟨#[]⟩ : ByteArray) slots tb).toList.isEmpty = true := List.isEmpty_iff.2 e1
               simp only [Option.some.injEq, Prod.mk.injEq] at H
               obtain ⟨rfl, rfl⟩ := H
               have HP10 := Kd.R_putg HO.out (tb : Int) key
               clear c1 c2 d1 d2 e1
               go_wp2_with (first | ((with_reducible refine gate_store (t := 9) (p := 43) rfl ?_); refine store_event (t := 9) (p := 43) (v := ?vo_w11) (w1 := (wr.setCell ⟨go9, (tb : Int).toNat, none⟩ (.string key))) ?hg ?ho ?hn ?hr ?_; (case ho => rfl); (case hg => rfl); (case hn => rfl); (case hr => first | (go_simp; done) | (go_simp; rfl)); intro w11 hw; have hg : wr.grownBy w11 (some go9) := (by rw [hw]; exact HP10.2); have hp_ : Kd.R Kd.string 9 w11 w0.heap.size P0_ (.slice (some ⟨go9, 0, none⟩) slots.length cs) (slots.set (tb : Int).toNat key) := (by rw [hw]; exact HP10.1); clear HP10; have n0_ := Aside0.mk (hp_); have n1_ := Aside0.mk ((by rw [hw]; exact below_set (HB.out) GB9.out : Below w0.heap.size w0 w11)); have n2_ := Aside0.mk (Kept.of_grown hg HK.out (fun k_ e_ => .inl e_.symm)); clear HO HB HK; have HO := n0_; have HB := n1_; have HK := n2_; clear n0_ n1_ n2_; clear hg hw hp_))
               go_ret
               exact ⟨rfl, by (with_reducible repeat (first | apply Kd.R_alloc | apply Kd.R_drewN | apply Kd.R_drew)); exact HO.out, uB HB, by repeat (first | (with_reducible first | exact HK.out | apply Kept.alloc | apply Kept.drewN | apply Kept.drew) | exact HK.out)⟩
             · rw [if_neg e1] at H
               have E1 := Aside0.mk e1
               have e1b0 : ((rdOf ByteArray.empty slots tb).toList == ([] : List UInt8)) = false := beq_eq_false_iff_ne.mpr e1
               have e1b1 : ((rdOf ByteArray.empty slots tb).toList != ([] : List UInt8)) = true := bne_iff_ne.mpr e1
               have e1b2 : (rdOf (⟨#[]⟩ : ByteArray) slots tb).toList.isEmpty = false := by rw [Bool.eq_false_iff]; exact fun h_ => E1.out (List.isEmpty_iff.1 h_)
               clear c1 c2 d1 d2 e1 H
               go_wp2
               go_roundg 0
               case measure => omega
               case rel => exact ⟨2, (by first | rfl | (simp; done)), ⟨by omega⟩, ⟨fun _ => HN.out (by omega)⟩, ⟨fun _ => E1.out⟩, BK, HO, HB, HK⟩
           · rw [if_neg d2] at H; cases H
         · rw [if_neg d1] at H; cases H
       · rw [if_neg c2] at H; cases H
     · rw [if_neg c1] at H; cases H
    · obtain rfl : i = 2 := by omega
      by_cases c1 : 0 ≤ ta
      · rw [if_pos c1] at H
        by_cases c2 : ta < (slots.length : Int)
        · rw [if_pos c2, if_neg (HN.out (by omega))] at H
          by_cases d1 : 0 ≤ tb
          · rw [if_pos d1] at H
            by_cases d2 : tb < (slots.length : Int)
            · rw [if_pos d2, if_neg (HM.out rfl)] at H
              simp only [Option.some.injEq, Prod.mk.injEq] at H
              obtain ⟨rfl, rfl⟩ := H
              clear c1 c2 d1 d2
              go_wp2
              go_ret
              exact ⟨rfl, by (with_reducible repeat (first | apply Kd.R_alloc | apply Kd.R_drewN | apply Kd.R_drew)); exact HO.out, uB HB, by repeat (first | (with_reducible first | exact HK.out | apply Kept.alloc | apply Kept.drewN | apply Kept.drew) | exact HK.out)⟩
            · rw [if_neg d2] at H; cases H
          · rw [if_neg d1] at H; cases H
        · rw [if_neg c2] at H; cases H
      · rw [if_neg c1] at H; cases H
def impl_delF (k : Nat) (seed : Int) : List ByteArray → List ByteArray → Option (List ByteArray × List ByteArray)
 | [], slots => some ([], slots)
 | s :: r, slots => (impl_settle.f k seed slots s).bind fun bs => ((impl_delF k seed r bs.2).bind fun ks => (some (if bs.1 = true then ks.1 else s :: ks.1, ks.2)))
theorem impl_delF.mono (seed : Int) : ∀ a0 a1 k, LeO (impl_delF k seed a0 a1) (impl_delF (k + 1) seed a0 a1)
 | [], _, _ => LeO.refl _
 | s :: r, slots, k => by
  unfold impl_delF
  refine LeO.bind (impl_settle.mono _ _ _ _) (fun bs => ?_)
  exact LeO.bind (impl_delF.mono seed r bs.2 k) (fun _ => LeO.refl _)
theorem impl_drop_cons {α : Type} (l : List α) (i : Nat) (h : i < l.length) : l.drop i = l[i] :: l.drop (i + 1) := List.drop_eq_getElem_cons h
theorem impl_rdOf_nat (l : List ByteArray) (i : Nat) (h : i < l.length) : rdOf ByteArray.empty l (i : Int) = l[i] := by
  unfold rdOf
  rw [Int.toNat_natCast, List.getD_eq_getElem?_getD, List.getElem?_eq_getElem h]
  rfl
theorem impl_wrap_nat {i n : Nat} (h : i < n) (h2 : n ≤ 4611686018427387904) : wrap64 ((i : Int) + 1) = ((i + 1 : Nat) : Int) := by
  unfold wrap64
  omega
set_option maxHeartbeats 8000000 in
set_option maxRecDepth 100000 in
theorem impl_delIdx.calls (k : Nat) (g : Nat) (seed : Int) (Ps Pt : Nat → Prop) (sv tv tv0 : Value) (slots stash kept slotsE : List ByteArray) (w0 w : World) (hB : Below w0.heap.size w0 w) (hbk : w.heap[g]? = some (.cells #[.int .i64 seed, sv, tv0] 26 (0, 0))) (ho : Kd.R Kd.string 9 w w0.heap.size Ps sv slots) (ht : Kd.R Kd.string 9 w w0.heap.size Pt tv stash) (hPt : ∀ k_, Pt k_ → some k_ ≠ sv.ownBlock) (hlen : stash.length ≤ 4611686018427387904) (h : impl_delF k seed stash slots = some (kept, slotsE)) :
  Calls Try.prog 54 #[tv, .func (.func 27) #[.pointer (some ⟨g, 0, none⟩)] #[]] w fun e w' => ∃ (i : Int) (slots1 : List ByteArray), e = .returned (.int .i64 i) ∧ w'.heap[g]? = some (.cells #[.int .i64 seed, sv, tv0] 26 (0, 0)) ∧ Kd.R Kd.string 9 w' w0.heap.size Ps sv slots1 ∧ Kd.R Kd.string 9 w' w0.heap.size Pt tv stash ∧ Below w0.heap.size w0 w' ∧ Kept w w' (fun k_ => some k_ = sv.ownBlock) ∧ ((i = -1 ∧ kept = stash ∧ slotsE = slots1) ∨ ∃ n : Nat, i = (n : Int) ∧ n < stash.length ∧ ∃ kept2, impl_delF k seed (stash.drop (n + 1)) slots1 = some (kept2, slotsE) ∧ kept = stash.take n ++ kept2) := by
 have HO := Aside0.mk ho
 have HT := Aside0.mk ht
 have BK := Aside0.mk hbk
 have HB := Aside0.mk hB
 have HP := Aside0.mk hPt
 have HL := Aside0.mk hlen
 have HK := Aside0.mk (Kept.refl w (fun k_ => some k_ = sv.ownBlock))
 have HF := Aside0.mk (show ∃ kept2, impl_delF k seed (stash.drop 0) slots = some (kept2, slotsE) ∧ kept = stash.take 0 ++ kept2 from ⟨kept, by rw [List.drop_zero]; exact h, rfl⟩)
 clear ho ht hbk hB hPt hlen h
 obtain ⟨At, ct, et⟩ := Kd.R_slice HT.out
 subst et
 go_enter Try.func54, Try.ntmps54
 go_wp2
 go_loopg [8] stash.length (fun kq v8 w' => ∃ (i : Nat), v8 = .int .i64 (i : Int) ∧ Aside0 (i + kq = stash.length) ∧ Aside0 (∃ kept2, impl_delF k seed (stash.drop i) slots = some (kept2, slotsE) ∧ kept = stash.take i ++ kept2) ∧ Aside0 (w'.heap[g]? = some (.cells #[.int .i64 seed, sv, tv0] 26 (0, 0))) ∧ Aside0 (Kd.R Kd.string 9 w' w0.heap.size Ps sv slots) ∧ Aside0 (Kd.R Kd.string 9 w' w0.heap.size Pt (.slice At stash.length ct) stash) ∧ Aside0 (Below w0.heap.size w0 w') ∧ Aside0 (Kept w w' (fun k_ => some k_ = sv.ownBlock)))
 case atStart => exact ⟨0, rfl, ⟨Nat.zero_add _⟩, HF, ⟨by refine uW ?_; exact BK.out⟩, ⟨by (with_reducible repeat (first | apply Kd.R_alloc | apply Kd.R_drewN | apply Kd.R_drew)); exact HO.out⟩, ⟨by (with_reducible repeat (first | apply Kd.R_alloc | apply Kd.R_drewN | apply Kd.R_drew)); exact HT.out⟩, ⟨uB HB⟩, ⟨by repeat (first | (with_reducible first | exact HK.out | apply Kept.alloc | apply Kept.drewN | apply Kept.drew) | exact HK.out)⟩⟩
 case round =>
  clear BK HO HT HB HK HF
  obtain ⟨i, rfl, HI, HF, BK, HO, HT, HB, HK⟩ := hrel
  by_cases c1 : i < stash.length
  · have c1b : decide ((i : Int) < (stash.length : Int)) = true := decide_eq_true (by omega)
    have c1b2 : decide (i < stash.length) = true := decide_eq_true c1
    have p1 : (0 : Int) ≤ (i : Int) := by omega
    have q1 : (i : Int) < (stash.length : Int) := by omega
    obtain ⟨ad1, e1, hx1⟩ := Kd.at_string (Kd.R_reads' HT.out).2.2 (i : Int) p1 q1
    cases e1
    have hx2 : wr.cell? (ad1.add i) = some (.string (rdOf ByteArray.empty stash (i : Int))) := hx1
    obtain ⟨kept2, hf, hk2⟩ := HF.out
    rw [impl_drop_cons stash i c1] at hf
    unfold impl_delF at hf
    obtain ⟨⟨b1, s1⟩, A10, hf0⟩ := Option.bind_eq_some_iff.mp hf
    clear hf
    obtain ⟨⟨ks, se⟩, hf2, hf1⟩ := Option.bind_eq_some_iff.mp hf0
    clear hf0
    simp only [Option.some.injEq, Prod.mk.injEq] at hf1
    obtain ⟨hk3, rfl⟩ := hf1
    have A1 := Aside0.mk (show impl_settle.f k seed slots (rdOf ByteArray.empty stash (i : Int)) = some (b1, s1) by rw [impl_rdOf_nat stash i c1]; exact A10)
    have HF2 := Aside0.mk hf2
    have HK3 := Aside0.mk hk3
    have HK2 := Aside0.mk hk2
    have C1 := Aside0.mk c1
    have HWR := Aside0.mk (impl_wrap_nat c1 HL.out)
    clear A10 hf2 hk3 hk2 HF
    replace p1 := eq_true p1
    replace q1 := eq_true q1
    cases b1 with
    | true =>
      go_wp2_with (first | (go_at_call 27; (with_reducible refine (impl_settle.calls k g seed Ps sv tv0 slots (rdOf ByteArray.empty stash (i : Int)) true s1 w0 _ ?side1 ?side2 ?side3 A1.out).mono ?_); (case side1 => exact uB HB); (case side2 => exact (uK BK)); (case side3 => exact uR HO); rintro e w8 ⟨rfl, ho1, hb, hkp⟩; have n0_ := Aside0.mk ho1; have n1_ := Aside0.mk hb; have n2_ := Aside0.mk (Kd.R_kept HT.out hkp (fun k_ h1_ h2_ => HP.out k_ h1_ h2_)); have n3_ := Aside0.mk (blk_kept (uK BK) hkp (fun h2_ => (Kd.R_ne HO.out BK.out (by decide)) h2_)); have n4_ := Aside0.mk (Kept.then_ HK.out hkp (fun _ h_ => .inl h_)); clear HO HB HT BK HK hkp hb ho1; have HO := n0_; have HB := n1_; have HT := n2_; have BK := n3_; have HK := n4_; clear n0_ n1_ n2_ n3_ n4_))
      go_ret
      exact ⟨_, s1, rfl, uK BK, uR HO, uR HT, uB HB, by repeat (first | (with_reducible first | exact HK.out | apply Kept.alloc | apply Kept.drewN | apply Kept.drew) | exact HK.out), .inr ⟨i, rfl, C1.out, ks, HF2.out, by rw [HK2.out, ← HK3.out]; rfl⟩⟩
    | false =>
      have HSE := Aside0.mk (show s1 = slots from by
        have h1 := A1.out
        unfold impl_settle.f at h1
        obtain ⟨ab, _, h1⟩ := Option.bind_eq_some_iff.mp h1
        repeat' split at h1
        all_goals first | (cases h1; done) | (simp only [Option.some.injEq, Prod.mk.injEq, Bool.true_eq_false, false_and] at h1; done) | (simp only [Option.some.injEq, Prod.mk.injEq, true_and] at h1; exact h1.symm))
      go_wp2_with (first | (go_at_call 27; (with_reducible refine (impl_settle.calls k g seed Ps sv tv0 slots (rdOf ByteArray.empty stash (i : Int)) false s1 w0 _ ?side1 ?side2 ?side3 A1.out).mono ?_); (case side1 => exact uB HB); (case side2 => exact (uK BK)); (case side3 => exact uR HO); rintro e w8 ⟨rfl, ho1, hb, hkp⟩; have n0_ := Aside0.mk ho1; have n1_ := Aside0.mk hb; have n2_ := Aside0.mk (Kd.R_kept HT.out hkp (fun k_ h1_ h2_ => HP.out k_ h1_ h2_)); have n3_ := Aside0.mk (blk_kept (uK BK) hkp (fun h2_ => (Kd.R_ne HO.out BK.out (by decide)) h2_)); have n4_ := Aside0.mk (Kept.then_ HK.out hkp (fun _ h_ => .inl h_)); clear HO HB HT BK HK hkp hb ho1; have HO := n0_; have HB := n1_; have HT := n2_; have BK := n3_; have HK := n4_; clear n0_ n1_ n2_ n3_ n4_))
      go_roundg (stash.length - (i + 1))
      case measure => have := HI.out; have := C1.out; omega
      case rel => exact ⟨i + 1, by rw [HWR.out], ⟨by have := C1.out; omega⟩, ⟨ks, by rw [← HSE.out]; exact HF2.out, by rw [HK2.out, ← HK3.out, if_neg (by decide), List.take_succ_eq_append_getElem C1.out, List.append_assoc]; rfl⟩, ⟨uK BK⟩, ⟨by rw [← HSE.out]; exact uR HO⟩, ⟨uR HT⟩, ⟨uB HB⟩, ⟨by repeat (first | (with_reducible first | exact HK.out | apply Kept.alloc | apply Kept.drewN | apply Kept.drew) | exact HK.out)⟩⟩
  · have c1b : decide ((i : Int) < (stash.length : Int)) = false := decide_eq_false (by omega)
    have c1b2 : decide (i < stash.length) = false := decide_eq_false c1
    obtain ⟨kept2, hf, hk2⟩ := HF.out
    rw [List.drop_eq_nil_of_le (by omega)] at hf
    unfold impl_delF at hf
    simp only [Option.some.injEq, Prod.mk.injEq] at hf
    obtain ⟨rfl, rfl⟩ := hf
    rw [List.append_nil, List.take_of_length_le (by omega)] at hk2
    have HK2 := Aside0.mk hk2
    clear hk2 c1 HF
    go_wp2
    go_ret
    exact ⟨_, slots, rfl, uK BK, uR HO, uR HT, uB HB, by repeat (first | (with_reducible first | exact HK.out | apply Kept.alloc | apply Kept.drewN | apply Kept.drew) | exact HK.out), .inl ⟨rfl, HK2.out, rfl⟩⟩
theorem impl_clear_R {e base g n cap : Nat} {ok : Nat → Prop} (z : ByteArray) : ∀ (m o : Nat) (xs : List ByteArray) (W : World), Kd.R Kd.string e W base ok (.slice (some ⟨g, 0, none⟩) n cap) xs → ∃ xs' : List ByteArray, xs'.length = xs.length ∧ xs'.take o = xs.take o ∧ Kd.R Kd.string e (W.setCells g o (List.replicate m (.string z))) base ok (.slice (some ⟨g, 0, none⟩) n cap) xs' ∧ W.grownBy (W.setCells g o (List.replicate m (.string z))) (some g)
 | 0, o, xs, W, h => by
  obtain ⟨h1, h2⟩ := Kd.R_putg h (xs.length : Int) z
  refine ⟨xs, rfl, rfl, h, ?_⟩
  exact World.grownBy.refl _ _
 | m + 1, o, xs, W, h => by
  obtain ⟨h1, h2⟩ := Kd.R_putg h (o : Int) z
  obtain ⟨xs', l1, l2, h3, h4⟩ := impl_clear_R z m (o + 1) _ _ h1
  refine ⟨xs', by rw [l1, List.length_set], ?_, h3, ?_⟩
  · have h5 := congrArg (List.take o) l2
    rw [List.take_take, List.take_take, Nat.min_eq_left (by omega), Int.toNat_natCast, List.take_set_of_le (Nat.le_refl o)] at h5
    exact h5
  · exact World.grownBy.trans h2 h4
theorem impl_clear_below {w0 : World} {g : Nat} (hg : w0.heap.size ≤ g) : ∀ (vs : List Value) (o : Nat) (W : World), Below w0.heap.size w0 W → Below w0.heap.size w0 (W.setCells g o vs)
 | [], _, _, h => h
 | v :: r, o, W, h => impl_clear_below hg r (o + 1) _ (below_set h hg)
set_option maxHeartbeats 8000000 in
set_option maxRecDepth 100000 in
theorem impl_delF.calls (k : Nat) (g : Nat) (seed : Int) (Ps Pt : Nat → Prop) (sv tv tv0 : Value) (slots stash kept slotsE : List ByteArray) (w0 w : World) (hB : Below w0.heap.size w0 w) (hbk : w.heap[g]? = some (.cells #[.int .i64 seed, sv, tv0] 26 (0, 0))) (ho : Kd.R Kd.string 9 w w0.heap.size Ps sv slots) (ht : Kd.R Kd.string 9 w w0.heap.size Pt tv stash) (hPs : ∀ k_, Ps k_ → some k_ ≠ tv.ownBlock) (hPt : ∀ k_, Pt k_ → some k_ ≠ sv.ownBlock) (hlen : stash.length ≤ 4611686018427387904) (h : impl_delF k seed stash slots = some (kept, slotsE)) :
  Calls Try.prog 26 #[tv, .func (.func 27) #[.pointer (some ⟨g, 0, none⟩)] #[]] w fun e w' => ∃ v : Value, e = .returned v ∧ w'.heap[g]? = some (.cells #[.int .i64 seed, sv, tv0] 26 (0, 0)) ∧ Kd.R Kd.string 9 w' w0.heap.size Ps sv slotsE ∧ Kd.R Kd.string 9 w' w0.heap.size Pt v kept ∧ Below w0.heap.size w0 w' ∧ Kept w w' (fun k_ => some k_ = sv.ownBlock ∨ some k_ = tv.ownBlock) := by
 have HO := Aside0.mk ho
 have HT := Aside0.mk ht
 have BK := Aside0.mk hbk
 have HB := Aside0.mk hB
 have HP := Aside0.mk hPt
 have HQ := Aside0.mk hPs
 have HL := Aside0.mk hlen
 have HF := Aside0.mk h
 have HK := Aside0.mk (Kept.refl w (fun k_ => some k_ = sv.ownBlock ∨ some k_ = tv.ownBlock))
 clear ho ht hbk hB hPt hPs hlen h
 obtain ⟨At, ct, et⟩ := Kd.R_slice HT.out
 subst et
 go_enter Try.func26, Try.ntmps26
 go_upto_region 2 with (first | (go_at_call 54; (with_reducible refine (impl_delIdx.calls k g seed Ps Pt sv (.slice At stash.length ct) tv0 slots stash kept slotsE w0 _ ?side1 ?side2 ?side3 ?side4 HP.out HL.out HF.out).mono ?_); (case side1 => exact uB HB); (case side2 => exact (uK BK)); (case side3 => exact uR HO); (case side4 => exact uR HT); rintro e w8 ⟨ix, slots1, rfl, hbk1, ho1, ht1, hb, hkp, hcase⟩; have n0_ := Aside0.mk ho1; have n1_ := Aside0.mk hb; have n2_ := Aside0.mk ht1; have n3_ := Aside0.mk hbk1; have n4_ := Aside0.mk (Kept.then_ HK.out hkp (fun _ h_ => .inl (.inl h_))); have HC := Aside0.mk hcase; clear HO HB HT BK HK hkp hb ho1 ht1 hbk1 hcase; have HO := n0_; have HB := n1_; have HT := n2_; have BK := n3_; have HK := n4_; clear n0_ n1_ n2_ n3_ n4_))
 rcases HC.out with ⟨rfl, rfl, rfl⟩ | ⟨n, rfl, hn, kept2, hf, hk⟩
 · clear HC
   go_wp2
   go_ret
   exact ⟨_, rfl, uK BK, uR HO, uR HT, uB HB, by repeat (first | (with_reducible first | exact HK.out | apply Kept.alloc | apply Kept.drewN | apply Kept.drew) | exact HK.out)⟩
 · clear HC
   have hne : decide ((n : Int) = -1) = false := decide_eq_false (by omega)
   have hne2 : ((n : Int) == -1) = false := by rw [beq_eq_false_iff_ne]; omega
   have hne3 : ¬ ((n : Int) = -1) := by omega
   have HWR := impl_wrap_nat hn HL.out
   have HN := Aside0.mk hn
   have HF2 := Aside0.mk hf
   have HK2 := Aside0.mk hk
   clear hf hk hn
   go_wp2
   obtain ⟨go9, co9, eo9, gb9, gl9, cl9, HG9⟩ := Kd.R_form HT.out (by have := HN.out; omega)
   cases eo9
   have GB9 := Aside0.mk gb9
   clear gb9 gl9 HG9 cl9
   go_loopg [5, 6] (stash.length - (n + 1)) (fun kq v5 v6 w' => ∃ (i j : Nat) (cur slotsj : List ByteArray), v5 = .int .i64 (i : Int) ∧ v6 = .int .i64 (j : Int) ∧ Aside0 (i < j ∧ j + kq = stash.length ∧ cur.length = stash.length ∧ cur.drop j = stash.drop j) ∧ Aside0 (∃ kept2, impl_delF k seed (stash.drop j) slotsj = some (kept2, slotsE) ∧ kept = cur.take i ++ kept2) ∧ Aside0 (w'.heap[g]? = some (.cells #[.int .i64 seed, sv, tv0] 26 (0, 0))) ∧ Aside0 (Kd.R Kd.string 9 w' w0.heap.size Ps sv slotsj) ∧ Aside0 (Kd.R Kd.string 9 w' w0.heap.size Pt (.slice (some ⟨go9, 0, none⟩) stash.length ct) cur) ∧ Aside0 (Below w0.heap.size w0 w') ∧ Aside0 (Kept w w' (fun k_ => some k_ = sv.ownBlock ∨ some k_ = (.slice (some ⟨go9, 0, none⟩) stash.length ct : Value).ownBlock)))
   case atStart => exact ⟨n, n + 1, stash, slots1, rfl, by rw [HWR], ⟨by omega, by have := HN.out; omega, rfl, rfl⟩, ⟨kept2, HF2.out, HK2.out⟩, ⟨uK BK⟩, ⟨uR HO⟩, ⟨uR HT⟩, ⟨uB HB⟩, ⟨by repeat (first | (with_reducible first | exact HK.out | apply Kept.alloc | apply Kept.drewN | apply Kept.drew) | exact HK.out)⟩⟩
   case round =>
    clear BK HO HT HB HK HF HF2 HK2 hne hne2 hne3 HWR HN
    obtain ⟨i, j, cur, slotsj, rfl, rfl, HI, HF, BK, HO, HT, HB, HK⟩ := hrel
    obtain ⟨i1, i2, i3, i4⟩ := HI.out
    by_cases c1 : j < stash.length
    · have c1b : decide ((j : Int) < (stash.length : Int)) = true := decide_eq_true (by omega)
      have c1b2 : decide (j < stash.length) = true := decide_eq_true c1
      have p1 : (0 : Int) ≤ (j : Int) := by omega
      have q1 : (j : Int) < (stash.length : Int) := by omega
      obtain ⟨hx1, hf1⟩ := Kd.R_celln (⟨#[]⟩ : ByteArray) HT.out (j : Int) p1 q1
      have hx2 : wr.cell? ⟨go9, j, none⟩ = some (.string (rdOf (⟨#[]⟩ : ByteArray) cur (j : Int))) := hx1
      obtain ⟨kept2, hf, hk2⟩ := HF.out
      rw [impl_drop_cons stash j c1] at hf
      unfold impl_delF at hf
      obtain ⟨⟨b1, s1⟩, A10, hf0⟩ := Option.bind_eq_some_iff.mp hf
      clear hf
      obtain ⟨⟨ks, se⟩, hf2, hf1_⟩ := Option.bind_eq_some_iff.mp hf0
      clear hf0
      simp only [Option.some.injEq, Prod.mk.injEq] at hf1_
      obtain ⟨hk3, rfl⟩ := hf1_
      have hjc : rdOf (⟨#[]⟩ : ByteArray) cur (j : Int) = stash[j] := by
        have h1 := impl_rdOf_nat cur j (by omega)
        have h2 : cur[j] = stash[j] := by
          have h3 := i4
          rw [impl_drop_cons cur j (by omega), impl_drop_cons stash j c1] at h3
          exact (List.cons.inj h3).1
        exact h1.trans h2
      have A1 := Aside0.mk (show impl_settle.f k seed slotsj (rdOf (⟨#[]⟩ : ByteArray) cur (j : Int)) = some (b1, s1) by rw [hjc]; exact A10)
      have HF2 := Aside0.mk hf2
      have HK3 := Aside0.mk (show (if b1 = true then ks else rdOf (⟨#[]⟩ : ByteArray) cur (j : Int) :: ks) = kept2 by rw [hjc]; exact hk3)
      have HK2 := Aside0.mk hk2
      have C1 := Aside0.mk c1
      have HWR := impl_wrap_nat c1 HL.out
      have HWI := impl_wrap_nat (show i < stash.length by omega) HL.out
      have HD := Aside0.mk (show cur.drop (j + 1) = stash.drop (j + 1) by
        have h3 := congrArg List.tail i4
        rw [List.tail_drop, List.tail_drop] at h3
        exact h3)
      clear A10 hf2 hk3 hk2 HF hjc i4
      replace p1 := eq_true p1
      replace q1 := eq_true q1
      cases b1 with
      | true =>
        go_wp2_with (first | (go_at_call 27; (with_reducible refine (impl_settle.calls k g seed Ps sv tv0 slotsj (rdOf (⟨#[]⟩ : ByteArray) cur (j : Int)) true s1 w0 _ ?side1 ?side2 ?side3 A1.out).mono ?_); (case side1 => exact uB HB); (case side2 => exact (uK BK)); (case side3 => exact uR HO); rintro e w8 ⟨rfl, ho1, hb, hkp⟩; have n0_ := Aside0.mk ho1; have n1_ := Aside0.mk hb; have n2_ := Aside0.mk (Kd.R_kept HT.out hkp (fun k_ h1_ h2_ => HP.out k_ h1_ h2_)); have n3_ := Aside0.mk (blk_kept (uK BK) hkp (fun h2_ => (Kd.R_ne HO.out BK.out (by decide)) h2_)); have n4_ := Aside0.mk (Kept.then_ HK.out hkp (fun _ h_ => .inl (.inl h_))); clear HO HB HT BK HK hkp hb ho1 hx1 hx2 hf1; have HO := n0_; have HB := n1_; have HT := n2_; have BK := n3_; have HK := n4_; clear n0_ n1_ n2_ n3_ n4_))
        go_roundg (stash.length - (j + 1))
        case measure => have := C1.out; omega
        case rel => exact ⟨i, j + 1, cur, s1, rfl, by rw [HWR], ⟨by omega, by have := C1.out; omega, i3, HD.out⟩, ⟨ks, HF2.out, by rw [HK2.out, ← HK3.out]; rfl⟩, ⟨uK BK⟩, ⟨uR HO⟩, ⟨uR HT⟩, ⟨uB HB⟩, ⟨by repeat (first | (with_reducible first | exact HK.out | apply Kept.alloc | apply Kept.drewN | apply Kept.drew) | exact HK.out)⟩⟩
      | false =>
        go_wp2_with (first | (go_at_call 27; (with_reducible refine (impl_settle.calls k g seed Ps sv tv0 slotsj (rdOf (⟨#[]⟩ : ByteArray) cur (j : Int)) false s1 w0 _ ?side1 ?side2 ?side3 A1.out).mono ?_); (case side1 => exact uB HB); (case side2 => exact (uK BK)); (case side3 => exact uR HO); rintro e w8 ⟨rfl, ho1, hb, hkp⟩; have n0_ := Aside0.mk ho1; have n1_ := Aside0.mk hb; have n2_ := Aside0.mk (Kd.R_kept HT.out hkp (fun k_ h1_ h2_ => HP.out k_ h1_ h2_)); have n3_ := Aside0.mk (blk_kept (uK BK) hkp (fun h2_ => (Kd.R_ne HO.out BK.out (by decide)) h2_)); have n4_ := Aside0.mk (Kept.then_ HK.out hkp (fun _ h_ => .inl (.inl h_))); clear HO HB HT BK HK hkp hb ho1 hx1 hx2 hf1; have HO := n0_; have HB := n1_; have HT := n2_; have BK := n3_; have HK := n4_; clear n0_ n1_ n2_ n3_ n4_; obtain ⟨hxi, hfi⟩ := Kd.R_celln (⟨#[]⟩ : ByteArray) HT.out (i : Int) (by omega) (by omega); have hxi2 : w8.cell? ⟨go9, i, none⟩ = some (.string (rdOf (⟨#[]⟩ : ByteArray) cur (i : Int))) := hxi; have hfi2 : w8.frozen? ⟨go9, i, none⟩ = false := hfi; have pi0 : ((0 : Int) ≤ (i : Int)) = True := eq_true (by omega); have qi0 : ((i : Int) < (stash.length : Int)) = True := eq_true (by omega); have HP10 := Kd.R_putg HT.out (i : Int) (rdOf (⟨#[]⟩ : ByteArray) cur (j : Int))) | ((with_reducible refine gate_store (t := 9) (p := 33) rfl ?_); refine store_event (t := 9) (p := 33) (v := ?vo_w11) (w1 := (w8.setCell ⟨go9, i, none⟩ (.string (rdOf (⟨#[]⟩ : ByteArray) cur (j : Int))))) ?hg ?ho ?hn ?hr ?_; (case ho => rfl); (case hg => rfl); (case hn => rfl); (case hr => first | (go_simp; done) | (go_simp; rfl)); intro w11 hw; have hg : w8.grownBy w11 (some go9) := (by rw [hw]; exact HP10.2); have hp_ : Kd.R Kd.string 9 w11 w0.heap.size Pt (.slice (some ⟨go9, 0, none⟩) stash.length ct) (cur.set i (rdOf (⟨#[]⟩ : ByteArray) cur (j : Int))) := (by rw [hw]; exact HP10.1); clear HP10; have n0_ := Aside0.mk (hp_); have n1_ := Aside0.mk ((by rw [hw]; exact below_set (HB.out) GB9.out : Below w0.heap.size w0 w11)); have n2_ := Aside0.mk (Kept.of_grown hg HK.out (fun k_ e_ => .inl (.inr e_.symm))); have n3_ := Aside0.mk (Kd.R_grown HO.out hg (fun k_ h1_ h2_ => HQ.out k_ h1_ h2_)); have n4_ := Aside0.mk (blk_grown BK.out hg (Kd.R_ne HT.out BK.out (by decide))); clear HT HB HK HO BK; have HT := n0_; have HB := n1_; have HK := n2_; have HO := n3_; have BK := n4_; clear n0_ n1_ n2_ n3_ n4_; clear hg hw hp_))
        go_roundg (stash.length - (j + 1))
        case measure => have := C1.out; omega
        case rel => exact ⟨i + 1, j + 1, cur.set i (rdOf (⟨#[]⟩ : ByteArray) cur (j : Int)), s1, by rw [HWI], by rw [HWR], ⟨by omega, by have := C1.out; omega, by rw [List.length_set]; exact i3, by rw [List.drop_set_of_lt (by omega)]; exact HD.out⟩, ⟨ks, HF2.out, by rw [HK2.out, ← HK3.out, if_neg (by decide), List.take_succ_eq_append_getElem (by rw [List.length_set]; omega), List.getElem_set_self, List.take_set_of_le (Nat.le_refl i), List.append_assoc]; rfl⟩, ⟨uK BK⟩, ⟨uR HO⟩, ⟨uR HT⟩, ⟨uB HB⟩, ⟨by repeat (first | (with_reducible first | exact HK.out | apply Kept.alloc | apply Kept.drewN | apply Kept.drew) | exact HK.out)⟩⟩
    · have c1b : decide ((j : Int) < (stash.length : Int)) = false := decide_eq_false (by omega)
      have c1b2 : decide (j < stash.length) = false := decide_eq_false c1
      have hj : j = stash.length := by omega
      obtain ⟨kept2, hf, hk2⟩ := HF.out
      rw [List.drop_eq_nil_of_le (by omega)] at hf
      unfold impl_delF at hf
      simp only [Option.some.injEq, Prod.mk.injEq] at hf
      obtain ⟨rfl, rfl⟩ := hf
      rw [List.append_nil] at hk2
      have HK2 := Aside0.mk hk2
      have hin : i < stash.length := by omega
      have hcl : ∀ ty, (Builtin.clear_ #[22] ty #[.slice (some ⟨go9, i, none⟩) (stash.length - i) (ct - i)]).run Try.prog wr = .ok (.tuple #[]) (wr.setCells go9 i (List.replicate (stash.length - i) (.string ByteArray.empty))) := by
        intro ty
        refine Go.Lib.run_clear_slice wr 22 9 ty (.string ByteArray.empty) Try.underlying22 ?_ rfl rfl go9 i _ _ (by omega) (fun t ht => ?_) (fun t ht => ?_)
        · exact Try.zeroValue9
        · have h1 := (Kd.R_celln (⟨#[]⟩ : ByteArray) HT.out ((i + t : Nat) : Int) (by omega) (by omega)).1
          rw [Int.toNat_natCast] at h1
          rw [h1]; rfl
        · have h1 := (Kd.R_celln (⟨#[]⟩ : ByteArray) HT.out ((i + t : Nat) : Int) (by omega) (by omega)).2
          rw [Int.toNat_natCast] at h1
          exact h1
      obtain ⟨cur', l1, l2, hc3, hc4⟩ := impl_clear_R ByteArray.empty (stash.length - i) i cur wr HT.out
      have pi0 : ((0 : Int) ≤ (i : Int)) = True := eq_true (by omega)
      have qi0 : ((i : Int) ≤ (stash.length : Int)) = True := eq_true (by omega)
      have hct : stash.length ≤ ct := (Kd.R_reads' HT.out).2.1
      clear hk2 c1 HF
      go_wp2
      go_ret
      exact ⟨_, rfl, blk_grown BK.out hc4 (Kd.R_ne HT.out BK.out (by decide)), Kd.R_grown HO.out hc4 (fun k_ h1_ h2_ => HQ.out k_ h1_ h2_), by rw [HK2.out, ← l2]; exact Kd.R_take hc3 (by omega), impl_clear_below GB9.out _ _ _ (uB HB), Kept.of_grown hc4 HK.out (fun k_ e_ => .inl (.inr e_.symm))⟩
def impl_CuckooUnstash.f (k : Nat) (a0_0 : Int) (l0_1 : List ByteArray) (l0_2 : List ByteArray) : Option (Int × List ByteArray × List ByteArray × Bool) := (impl_IsCuckoo.f k a0_0 l0_1 l0_2).bind fun t => (if t = true then ((impl_cloneCuckoo.f a0_0 l0_1 l0_2).bind fun c => (if c.2.2.length ≤ 4611686018427387904 then ((impl_delF k c.1 c.2.2 c.2.1).bind fun d => (some (c.1, d.2, d.1, true))) else (none))) else (some (0, ([] : List ByteArray), ([] : List ByteArray), false)))
theorem impl_CuckooUnstash.mono : ∀ a0 a1 a2 k, LeO (impl_CuckooUnstash.f k a0 a1 a2) (impl_CuckooUnstash.f (k + 1) a0 a1 a2) := by
 intro a0 a1 a2 k
 unfold impl_CuckooUnstash.f
 refine LeO.bind (impl_IsCuckoo.mono _ _ _ _) (fun t => ?_)
 refine LeO.ite ?_ (LeO.refl _)
 refine LeO.bind (LeO.refl _) (fun c => ?_)
 refine LeO.ite ?_ (LeO.refl _)
 exact LeO.bind (impl_delF.mono _ _ _ _) (fun _ => LeO.refl _)
set_option maxHeartbeats 8000000 in
set_option maxRecDepth 100000 in
theorem impl_CuckooUnstash.calls (k : Nat) (a0_0 : Int) (A0_1 : Option Addr) (c0_1 : Nat) (l0_1 : List ByteArray) (A0_2 : Option Addr) (c0_2 : Nat) (l0_2 : List ByteArray) (r1 : Int) (r2 : List ByteArray) (r3 : List ByteArray) (r4 : Bool) (w : World) (hr0_1 : Kd.C Kd.string w A0_1 l0_1.length l0_1) (hc0_1 : l0_1.length ≤ c0_1) (hr0_2 : Kd.C Kd.string w A0_2 l0_2.length l0_2) (hc0_2 : l0_2.length ≤ c0_2) (h : impl_CuckooUnstash.f k a0_0 l0_1 l0_2 = some (r1, r2, r3, r4)) :
  Calls Try.prog 9 #[.agg #[.int .i64 a0_0, .slice A0_1 l0_1.length c0_1, .slice A0_2 l0_2.length c0_2]] w fun e w' => ∃ v1_ v2_ : Value, e = .returned (.tuple #[.agg #[.int .i64 r1, v1_, v2_], .bool r4]) ∧ Kd.R Kd.string 9 w' w.heap.size (fun k_ => some k_ ≠ (v2_ : Value).ownBlock) v1_ r2 ∧ Kd.R Kd.string 9 w' w.heap.size (fun k_ => some k_ ≠ (v1_ : Value).ownBlock) v2_ r3 ∧ Below w.heap.size w w' := by
 have hu26 := Try.underlying26
 have hmf : ∀ (fn : Fn) (first cap : Array Value) (w : World), (Instr.makeFunc fn first cap).run Try.prog w = .ok (.func fn first cap) w := fun _ _ _ _ => rfl
 have HR0_1 := Aside0.mk hr0_1
 have HC0_1 := Aside0.mk hc0_1
 clear hr0_1 hc0_1
 have HR0_2 := Aside0.mk hr0_2
 have HC0_2 := Aside0.mk hc0_2
 clear hr0_2 hc0_2
 have HB := Aside0.mk (Below.refl w.heap.size w)
 unfold impl_CuckooUnstash.f at h
 obtain ⟨t299, A30, H⟩ := Option.bind_eq_some_iff.mp h
 clear h
 have A3 := Aside0.mk A30
 clear A30
 cases t299 with
 | true =>
  rw [if_pos rfl] at H
  obtain ⟨⟨t300, t301, t304⟩, A50, H1⟩ := Option.bind_eq_some_iff.mp H
  clear H
  have A5 := Aside0.mk A50
  clear A50
  replace H1 : (if t304.length ≤ 4611686018427387904 then ((impl_delF k t300 t304 t301).bind fun d => (some (t300, d.2, d.1, true))) else (none)) = some (r1, r2, r3, r4) := H1
  by_cases c6 : t304.length ≤ 4611686018427387904
  · rw [if_pos c6] at H1
    have LM := Aside0.mk c6
    clear c6
    obtain ⟨⟨t309, t308⟩, A300, H⟩ := Option.bind_eq_some_iff.mp H1
    clear H1
    have A30 := Aside0.mk A300
    clear A300
    simp only [Option.some.injEq, Prod.mk.injEq] at H
    obtain ⟨rfl, rfl, rfl, rfl⟩ := H
    go_enter Try.func9, Try.ntmps9
    go_wp2_with (first | ((with_reducible refine gate_dst (N := 1) rfl ?_); refine box_event ?hg (N := 1) ?hd (cs := #[.int .i64 a0_0, .slice A0_1 l0_1.length c0_1, .slice A0_2 l0_2.length c0_2]) (t := 26) ?hr ?_; (case hd => rfl); (case hg => rfl); (case hr => first | (go_simp; done) | (go_simp; rfl)); intro gb296 hg w31 hbox hb; have n0_ := Aside0.mk (below_step (uB HB) hb); have n1_ := Aside0.mk (hbox); have n2_ := Aside0.mk ((by rw [hg]; exact (below_size (uB HB)) : w.heap.size ≤ gb296)); have n3_ := Aside0.mk ((by rw [hg]; exact (below_size (uB HB)) : w.heap.size ≤ gb296)); clear HB; have HB := n0_; have BK296 := n1_; have GW296 := n2_; have GE296 := n3_; clear n0_ n1_ n2_ n3_; clear hb hbox hg) | ((with_reducible refine gate_dst (N := 2) rfl ?_); refine box_event ?hg (N := 2) ?hd (cs := #[.int .i64 0, .slice none 0 0, .slice none 0 0]) (t := 26) ?hr ?_; (case hd => rfl); (case hg => rfl); (case hr => first | (go_simp; done) | (go_simp; rfl)); intro gb297 hg w32 hbox hb; have n0_ := Aside0.mk (blk_below (g := gb296) (o := .cells #[.int .i64 a0_0, .slice A0_1 l0_1.length c0_1, .slice A0_2 l0_2.length c0_2] 26 (0, 0)) (uK BK296) hb); have n1_ := Aside0.mk (below_step (by first | exact uB HB | exact uS HB (gC GE296 gN)) hb); have n2_ := Aside0.mk (hbox); have n3_ := Aside0.mk ((by rw [hg]; exact (below_size (by first | exact uB HB | exact uS HB (gC GE296 gN))) : w.heap.size ≤ gb297)); have n4_ := Aside0.mk ((by rw [hg]; exact (below_size (by first | exact uB HB | exact uS HB (gC GE296 gN))) : w.heap.size ≤ gb297)); have n5_ := Aside0.mk ((by rw [hg]; exact Nat.ne_of_lt (blk_lt (g := gb296) (o := .cells #[.int .i64 a0_0, .slice A0_1 l0_1.length c0_1, .slice A0_2 l0_2.length c0_2] 26 (0, 0)) (uK BK296)) : gb296 ≠ gb297)); have n6_ := Aside0.mk ((by rw [hg]; exact Nat.ne_of_gt (blk_lt (g := gb296) (o := .cells #[.int .i64 a0_0, .slice A0_1 l0_1.length c0_1, .slice A0_2 l0_2.length c0_2] 26 (0, 0)) (uK BK296)) : gb297 ≠ gb296)); clear BK296 HB; have BK296 := n0_; have HB := n1_; have BK297 := n2_; have GW297 := n3_; have GE297 := n4_; have NB296_297 := n5_; have NB297_296 := n6_; clear n0_ n1_ n2_ n3_ n4_ n5_ n6_ hb hbox hg; have hnb33 := NB296_297.out; have hnc33 := NB297_296.out; have hcz34_0 : w32.cell? ⟨gb296, 0, none⟩ = some (.int .i64 a0_0) := (blk_cell BK296.out 0).trans rfl; have hcz34_1 : w32.cell? ⟨gb296, 1, none⟩ = some (.slice A0_1 l0_1.length c0_1) := (blk_cell BK296.out 1).trans rfl; have hcz34_2 : w32.cell? ⟨gb296, 2, none⟩ = some (.slice A0_2 l0_2.length c0_2) := (blk_cell BK296.out 2).trans rfl; have hfz34_0 := blk_frozen BK296.out 0; have hfz34_1 := blk_frozen BK296.out 1; have hfz34_2 := blk_frozen BK296.out 2) | ((with_reducible refine gate_callee (f := 24) rfl ?_); refine goesL_ (some 6) rfl rfl Try.func24 (by kernel_rfl) rfl #[.agg #[.int .i64 a0_0, .slice A0_1 l0_1.length c0_1, .slice A0_2 l0_2.length c0_2]] rfl (by (try simp only [List.map_toArray, List.map_cons, List.map_nil]); first | done | rfl | (simp only [List.length_drop, List.length_take]; rfl)) ?_; (with_reducible refine (impl_IsCuckoo.calls k a0_0 _ _ l0_1 _ _ l0_2 true _ ?side1 ?side2 ?side3 ?side4 A3.out).mono ?_); (case side1 => exact uC HR0_1 HB); (case side2 => exact HC0_1.out); (case side3 => exact uC HR0_2 HB); (case side4 => exact HC0_2.out); rintro e w35 ⟨rfl, hb⟩; refine ⟨_, rfl, ?_⟩; have n0_ := Aside0.mk (blk_below (g := gb296) (o := .cells #[.int .i64 a0_0, .slice A0_1 l0_1.length c0_1, .slice A0_2 l0_2.length c0_2] 26 (0, 0)) (uK BK296) hb); have n1_ := Aside0.mk (blk_below (g := gb297) (o := .cells #[.int .i64 0, .slice none 0 0, .slice none 0 0] 26 (0, 0)) (uK BK297) hb); have n2_ := Aside0.mk (below_step (by first | exact uB HB | exact uS HB (gC GE296 (gC GE297 gN))) hb); clear BK296 BK297 HB; have BK296 := n0_; have BK297 := n1_; have HB := n2_; clear n0_ n1_ n2_; (try clear hb); (try clear hb2); (try clear hk); (try clear hi); have hcz36_0 : w35.cell? ⟨gb296, 0, none⟩ = some (.int .i64 a0_0) := (blk_cell BK296.out 0).trans rfl; have hcz36_1 : w35.cell? ⟨gb296, 1, none⟩ = some (.slice A0_1 l0_1.length c0_1) := (blk_cell BK296.out 1).trans rfl; have hcz36_2 : w35.cell? ⟨gb296, 2, none⟩ = some (.slice A0_2 l0_2.length c0_2) := (blk_cell BK296.out 2).trans rfl; have hfz36_0 := blk_frozen BK296.out 0; have hfz36_1 := blk_frozen BK296.out 1; have hfz36_2 := blk_frozen BK296.out 2) | ((with_reducible refine gate_callee (f := 25) rfl ?_); refine goesL_ (some 10) rfl rfl Try.func25 (by kernel_rfl) rfl #[.agg #[.int .i64 a0_0, .slice A0_1 l0_1.length c0_1, .slice A0_2 l0_2.length c0_2]] rfl (by (try simp only [List.map_toArray, List.map_cons, List.map_nil]); first | done | rfl | (simp only [List.length_drop, List.length_take]; rfl)) ?_; (with_reducible refine (impl_cloneCuckoo.calls a0_0 _ _ l0_1 _ _ l0_2 t300 t301 t304 _ ?side1 ?side2 ?side3 ?side4 A5.out).mono ?_); (case side1 => exact uC HR0_1 HB); (case side2 => exact HC0_1.out); (case side3 => exact uC HR0_2 HB); (case side4 => exact HC0_2.out); rintro e w37 ⟨v302, v305, rfl, ho0, ho1, hb⟩; refine ⟨_, rfl, ?_⟩; have n0_ := Aside0.mk (Kd.R_lower ho0 (below_size (by first | exact uB HB | exact uS HB (gC GE296 (gC GE297 gN))))); have n1_ := Aside0.mk (Kd.R_lower ho1 (below_size (by first | exact uB HB | exact uS HB (gC GE296 (gC GE297 gN))))); have n2_ := Aside0.mk (blk_below (g := gb296) (o := .cells #[.int .i64 a0_0, .slice A0_1 l0_1.length c0_1, .slice A0_2 l0_2.length c0_2] 26 (0, 0)) (uK BK296) hb); have n3_ := Aside0.mk (blk_below (g := gb297) (o := .cells #[.int .i64 0, .slice none 0 0, .slice none 0 0] 26 (0, 0)) (uK BK297) hb); have n4_ := Aside0.mk (below_step (by first | exact uB HB | exact uS HB (gC GE296 (gC GE297 gN))) hb); clear BK296 BK297 HB; have HO303 := n0_; have HO306 := n1_; have BK296 := n2_; have BK297 := n3_; have HB := n4_; clear n0_ n1_ n2_ n3_ n4_; (try clear hb); (try clear hb2); (try clear hk); (try clear hi); (try clear ho0); (try clear ho1)) | ((with_reducible refine gate_dst (N := 4) rfl ?_); refine box_event ?hg (N := 4) ?hd (cs := #[.int .i64 0, .slice none 0 0, .slice none 0 0]) (t := 26) ?hr ?_; (case hd => rfl); (case hg => rfl); (case hr => first | (go_simp; done) | (go_simp; rfl)); intro gb307 hg w38 hbox hb; have n0_ := Aside0.mk (Kd.R_below (uR HO303) hb); have n1_ := Aside0.mk (Kd.R_below (uR HO306) hb); have n2_ := Aside0.mk (blk_below (g := gb296) (o := .cells #[.int .i64 a0_0, .slice A0_1 l0_1.length c0_1, .slice A0_2 l0_2.length c0_2] 26 (0, 0)) (uK BK296) hb); have n3_ := Aside0.mk (blk_below (g := gb297) (o := .cells #[.int .i64 0, .slice none 0 0, .slice none 0 0] 26 (0, 0)) (uK BK297) hb); have n4_ := Aside0.mk (below_step (by first | exact uB HB | exact uS HB (gC GE296 (gC GE297 gN))) hb); have n5_ := Aside0.mk (hbox); have n6_ := Aside0.mk ((by rw [hg]; exact (below_size (by first | exact uB HB | exact uS HB (gC GE296 (gC GE297 gN)))) : w.heap.size ≤ gb307)); have n7_ := Aside0.mk ((by rw [hg]; exact (below_size (by first | exact uB HB | exact uS HB (gC GE296 (gC GE297 gN)))) : w.heap.size ≤ gb307)); have n8_ := Aside0.mk ((by rw [hg]; exact Nat.ne_of_lt (blk_lt (g := gb296) (o := .cells #[.int .i64 a0_0, .slice A0_1 l0_1.length c0_1, .slice A0_2 l0_2.length c0_2] 26 (0, 0)) (uK BK296)) : gb296 ≠ gb307)); have n9_ := Aside0.mk ((by rw [hg]; exact Nat.ne_of_gt (blk_lt (g := gb296) (o := .cells #[.int .i64 a0_0, .slice A0_1 l0_1.length c0_1, .slice A0_2 l0_2.length c0_2] 26 (0, 0)) (uK BK296)) : gb307 ≠ gb296)); have n10_ := Aside0.mk ((by rw [hg]; exact Nat.ne_of_lt (blk_lt (g := gb297) (o := .cells #[.int .i64 0, .slice none 0 0, .slice none 0 0] 26 (0, 0)) (uK BK297)) : gb297 ≠ gb307)); have n11_ := Aside0.mk ((by rw [hg]; exact Nat.ne_of_gt (blk_lt (g := gb297) (o := .cells #[.int .i64 0, .slice none 0 0, .slice none 0 0] 26 (0, 0)) (uK BK297)) : gb307 ≠ gb297)); clear HO303 HO306 BK296 BK297 HB; have HO303 := n0_; have HO306 := n1_; have BK296 := n2_; have BK297 := n3_; have HB := n4_; have BK307 := n5_; have GW307 := n6_; have GE307 := n7_; have NB296_307 := n8_; have NB307_296 := n9_; have NB297_307 := n10_; have NB307_297 := n11_; clear n0_ n1_ n2_ n3_ n4_ n5_ n6_ n7_ n8_ n9_ n10_ n11_ hb hbox hg; have hnb39 := NB307_296.out; have hnc39 := NB296_307.out; have hnb40 := NB307_297.out; have hnc40 := NB297_307.out; have hcz41_0 : w38.cell? ⟨gb307, 0, none⟩ = some (.int .i64 0) := (blk_cell BK307.out 0).trans rfl; have hcz41_1 : w38.cell? ⟨gb307, 1, none⟩ = some (.slice none 0 0) := (blk_cell BK307.out 1).trans rfl; have hcz41_2 : w38.cell? ⟨gb307, 2, none⟩ = some (.slice none 0 0) := (blk_cell BK307.out 2).trans rfl; have hfz41_0 := blk_frozen BK307.out 0; have hfz41_1 := blk_frozen BK307.out 1; have hfz41_2 := blk_frozen BK307.out 2; obtain ⟨Ao42, co42, eo42⟩ := Kd.R_slice HO303.out; subst eo42; obtain ⟨Ao43, co43, eo43⟩ := Kd.R_slice HO306.out; subst eo43) | ((with_reducible refine gate_store (t := 26) (p := 4) rfl ?_); refine store_event (t := 26) (p := 4) (v := ?vo_w44) (w1 := (((w38.setCell ⟨gb307, 0, none⟩ (.int .i64 t300)).setCell ⟨gb307, 1, none⟩ (.slice Ao42 t301.length co42)).setCell ⟨gb307, 2, none⟩ (.slice Ao43 t304.length co43))) ?hg ?ho ?hn ?hr ?_; (case ho => rfl); (case hg => rfl); (case hn => rfl); (case hr => first | (go_simp; done) | (go_simp; rfl)); intro w44 hw; have n0_ : Aside0 (Kd.R Kd.string 9 w44 w.heap.size (fun k_ => some k_ ≠ (.slice Ao43 t304.length co43 : Value).ownBlock) (.slice Ao42 t301.length co42) t301) := ⟨(by rw [hw]; exact (by (with_reducible repeat (first | apply Kd.R_alloc | apply Kd.R_drewN | apply Kd.R_drew)); exact Kd.R_mono (Kd.R_far (p := ⟨gb307, 2, none⟩) (Kd.R_far (p := ⟨gb307, 1, none⟩) (Kd.R_far (p := ⟨gb307, 0, none⟩) (Kd.R_types HO303.out BK307.out (by decide)) (fun _ hk => hk.2) (.int .i64 t300)) (fun _ hk => hk.2) (.slice Ao42 t301.length co42)) (fun _ hk => hk.2) (.slice Ao43 t304.length co43)) (fun _ hk => hk.1)))⟩; have n1_ : Aside0 (Kd.R Kd.string 9 w44 w.heap.size (fun k_ => some k_ ≠ (.slice Ao42 t301.length co42 : Value).ownBlock) (.slice Ao43 t304.length co43) t304) := ⟨(by rw [hw]; exact (by (with_reducible repeat (first | apply Kd.R_alloc | apply Kd.R_drewN | apply Kd.R_drew)); exact Kd.R_mono (Kd.R_far (p := ⟨gb307, 2, none⟩) (Kd.R_far (p := ⟨gb307, 1, none⟩) (Kd.R_far (p := ⟨gb307, 0, none⟩) (Kd.R_types HO306.out BK307.out (by decide)) (fun _ hk => hk.2) (.int .i64 t300)) (fun _ hk => hk.2) (.slice Ao42 t301.length co42)) (fun _ hk => hk.2) (.slice Ao43 t304.length co43)) (fun _ hk => hk.1)))⟩; have n2_ : Aside0 (w44.heap[gb296]? = some (.cells #[.int .i64 a0_0, .slice A0_1 l0_1.length c0_1, .slice A0_2 l0_2.length c0_2] 26 (0, 0))) := ⟨(by rw [hw]; exact (by refine uW ?_; refine blk_far ?_ NB296_307.out _; refine uW ?_; refine blk_far ?_ NB296_307.out _; refine uW ?_; refine blk_far ?_ NB296_307.out _; refine uW ?_; exact BK296.out))⟩; have n3_ : Aside0 (w44.heap[gb297]? = some (.cells #[.int .i64 0, .slice none 0 0, .slice none 0 0] 26 (0, 0))) := ⟨(by rw [hw]; exact (by refine uW ?_; refine blk_far ?_ NB297_307.out _; refine uW ?_; refine blk_far ?_ NB297_307.out _; refine uW ?_; refine blk_far ?_ NB297_307.out _; refine uW ?_; exact BK297.out))⟩; have n4_ : Aside0 (w44.heap[gb307]? = some (.cells #[.int .i64 t300, .slice Ao42 t301.length co42, .slice Ao43 t304.length co43] 26 (0, 0))) := ⟨(by rw [hw]; exact (by refine uW ?_; refine blk_put (cs := #[.int .i64 t300, .slice Ao42 t301.length co42, .slice none 0 0]) ?_ 2 _ rfl; refine uW ?_; refine blk_put (cs := #[.int .i64 t300, .slice none 0 0, .slice none 0 0]) ?_ 1 _ rfl; refine uW ?_; refine blk_put (cs := #[.int .i64 0, .slice none 0 0, .slice none 0 0]) ?_ 0 _ rfl; refine uW ?_; exact BK307.out))⟩; have n5_ : Aside0 (Below w.heap.size w w44) := ⟨(by rw [hw]; exact (by first | exact uB HB | exact uS HB (gC GE296 (gC GE297 (gC GE307 gN)))))⟩; clear hw HO303 HO306 BK296 BK297 BK307 HB; have HO303 := n0_; have HO306 := n1_; have BK296 := n2_; have BK297 := n3_; have BK307 := n4_; have HB := n5_; clear n0_ n1_ n2_ n3_ n4_ n5_; have hcz45_0 : w44.cell? ⟨gb296, 0, none⟩ = some (.int .i64 a0_0) := (blk_cell BK296.out 0).trans rfl; have hcz45_1 : w44.cell? ⟨gb296, 1, none⟩ = some (.slice A0_1 l0_1.length c0_1) := (blk_cell BK296.out 1).trans rfl; have hcz45_2 : w44.cell? ⟨gb296, 2, none⟩ = some (.slice A0_2 l0_2.length c0_2) := (blk_cell BK296.out 2).trans rfl; have hfz45_0 := blk_frozen BK296.out 0; have hfz45_1 := blk_frozen BK296.out 1; have hfz45_2 := blk_frozen BK296.out 2; have hcz46_0 : w44.cell? ⟨gb307, 0, none⟩ = some (.int .i64 t300) := (blk_cell BK307.out 0).trans rfl; have hcz46_1 : w44.cell? ⟨gb307, 1, none⟩ = some (.slice Ao42 t301.length co42) := (blk_cell BK307.out 1).trans rfl; have hcz46_2 : w44.cell? ⟨gb307, 2, none⟩ = some (.slice Ao43 t304.length co43) := (blk_cell BK307.out 2).trans rfl; have hfz46_0 := blk_frozen BK307.out 0; have hfz46_1 := blk_frozen BK307.out 1; have hfz46_2 := blk_frozen BK307.out 2) | ((with_reducible refine gate_callee (f := 26) rfl ?_); refine goesL_ (some 14) rfl rfl Try.func26 (by kernel_rfl) rfl #[.slice Ao43 t304.length co43, .func (.func 27) #[.pointer (some ⟨gb307, 0, none⟩)] #[]] rfl (by (try simp only [List.map_toArray, List.map_cons, List.map_nil]); first | done | rfl | (simp only [List.length_drop, List.length_take]; rfl)) ?_; (with_reducible refine (impl_delF.calls k gb307 t300 (fun k_ => some k_ = (.slice Ao42 t301.length co42 : Value).ownBlock) (fun k_ => some k_ = (.slice Ao43 t304.length co43 : Value).ownBlock) (.slice Ao42 t301.length co42 : Value) (.slice Ao43 t304.length co43 : Value) (.slice Ao43 t304.length co43 : Value) t301 t304 t309 t308 w _ ?side1 ?side2 ?side3 ?side4 ?side5 ?side6 LM.out A30.out).mono ?_); (case side1 => first | exact uB HB | exact uS HB (gC GE296 (gC GE297 (gC GE307 gN)))); (case side2 => exact (uK BK307)); (case side3 => exact Kd.R_tight rfl (uR HO303)); (case side4 => exact Kd.R_tight rfl (uR HO306)); (case side5 => exact (fun k_ e_ => HO303.out.1 k_ e_.symm)); (case side6 => exact (fun k_ e_ => HO306.out.1 k_ e_.symm)); rintro e w47 ⟨v310, rfl, hbk1, ho0, ho1, hb, hkp⟩; refine ⟨_, rfl, ?_⟩; have n0_ := Aside0.mk (blk_kept (uK BK296) hkp (fun hs_ => Or.elim hs_ (fun e_ => (Kd.R_ne HO303.out BK296.out (by decide)) e_) (fun e_ => (Kd.R_ne HO306.out BK296.out (by decide)) e_))); have n1_ := Aside0.mk (blk_kept (uK BK297) hkp (fun hs_ => Or.elim hs_ (fun e_ => (Kd.R_ne HO303.out BK297.out (by decide)) e_) (fun e_ => (Kd.R_ne HO306.out BK297.out (by decide)) e_))); have n2_ := Aside0.mk (Kd.R_mono (ok' := fun k_ => some k_ ≠ (v310 : Value).ownBlock) ho0 (fun k_ hk_ => fun e_ => (HO303.out.1 k_ hk_.symm) (ho1.1 k_ e_.symm))); have n3_ := Aside0.mk hbk1; have n4_ := Aside0.mk (Kd.R_mono (ok' := fun k_ => some k_ ≠ (.slice Ao42 t301.length co42 : Value).ownBlock) ho1 (fun k_ hk_ => HO306.out.1 k_ hk_.symm)); have n5_ := Aside0.mk (hb); clear BK296 BK297 HO303 BK307 HB HO306; have BK296 := n0_; have BK297 := n1_; have HO303 := n2_; have BK307 := n3_; have HO311 := n4_; have HB := n5_; clear n0_ n1_ n2_ n3_ n4_ n5_; (try clear hb); (try clear hkp); (try clear ho0); (try clear ho1); (try clear hbk1); obtain ⟨Ao48, co48, eo48⟩ := Kd.R_slice HO311.out; subst eo48; have hcz49_0 : w47.cell? ⟨gb307, 0, none⟩ = some (.int .i64 t300) := (blk_cell BK307.out 0).trans rfl; have hcz49_1 : w47.cell? ⟨gb307, 1, none⟩ = some (.slice Ao42 t301.length co42) := (blk_cell BK307.out 1).trans rfl; have hcz49_2 : w47.cell? ⟨gb307, 2, none⟩ = some (.slice Ao43 t304.length co43) := (blk_cell BK307.out 2).trans rfl; have hfz49_0 := blk_frozen BK307.out 0; have hfz49_1 := blk_frozen BK307.out 1; have hfz49_2 := blk_frozen BK307.out 2; have hcz50_0 : w47.cell? ⟨gb297, 0, none⟩ = some (.int .i64 0) := (blk_cell BK297.out 0).trans rfl; have hcz50_1 : w47.cell? ⟨gb297, 1, none⟩ = some (.slice none 0 0) := (blk_cell BK297.out 1).trans rfl; have hcz50_2 : w47.cell? ⟨gb297, 2, none⟩ = some (.slice none 0 0) := (blk_cell BK297.out 2).trans rfl; have hfz50_0 := blk_frozen BK297.out 0; have hfz50_1 := blk_frozen BK297.out 1; have hfz50_2 := blk_frozen BK297.out 2))
    refine bodyPost_ret (results_ct rfl _ _ gb297 26 #[.int .i64 t300, .slice Ao42 t301.length co42, .slice Ao48 t309.length co48] (0, 0) _ rfl (by refine uW ?_; refine blk_put (cs := #[.int .i64 t300, .slice Ao42 t301.length co42, .slice none 0 0]) ?_ 2 _ rfl; refine uW ?_; refine blk_put (cs := #[.int .i64 t300, .slice none 0 0, .slice none 0 0]) ?_ 1 _ rfl; refine uW ?_; refine blk_put (cs := #[.int .i64 0, .slice none 0 0, .slice none 0 0]) ?_ 0 _ rfl; refine uW ?_; refine blk_far ?_ NB297_307.out _; refine uW ?_; exact BK297.out) Try.underlying26 rfl (by kernel_rfl)) rfl ?_
    exact ⟨_, _, by first | rfl | (simp [errW_none, errW_some] <;> rfl) | (simp [*, errW_none, errW_some] <;> rfl), by (with_reducible repeat (first | apply Kd.R_alloc | apply Kd.R_drewN | apply Kd.R_drew)); exact Kd.R_mono (Kd.R_far (p := ⟨gb297, 2, none⟩) (Kd.R_far (p := ⟨gb297, 1, none⟩) (Kd.R_far (p := ⟨gb297, 0, none⟩) (Kd.R_far (p := ⟨gb307, 2, none⟩) (Kd.R_types (Kd.R_types HO303.out BK307.out (by decide)) BK297.out (by decide)) (fun _ hk => hk.1.2) (.slice Ao48 t309.length co48)) (fun _ hk => hk.2) (.int .i64 t300)) (fun _ hk => hk.2) (.slice Ao42 t301.length co42)) (fun _ hk => hk.2) (.slice Ao48 t309.length co48)) (fun _ hk => hk.1.1), by (with_reducible repeat (first | apply Kd.R_alloc | apply Kd.R_drewN | apply Kd.R_drew)); exact Kd.R_mono (Kd.R_far (p := ⟨gb297, 2, none⟩) (Kd.R_far (p := ⟨gb297, 1, none⟩) (Kd.R_far (p := ⟨gb297, 0, none⟩) (Kd.R_far (p := ⟨gb307, 2, none⟩) (Kd.R_types (Kd.R_types HO311.out BK307.out (by decide)) BK297.out (by decide)) (fun _ hk => hk.1.2) (.slice Ao48 t309.length co48)) (fun _ hk => hk.2) (.int .i64 t300)) (fun _ hk => hk.2) (.slice Ao42 t301.length co42)) (fun _ hk => hk.2) (.slice Ao48 t309.length co48)) (fun _ hk => hk.1.1), by first | exact uB HB | exact uS HB (gC GE296 (gC GE297 (gC GE307 gN)))⟩
  · rw [if_neg c6] at H1
    cases H1
 | false =>
  rw [if_neg (by decide)] at H
  simp only [Option.some.injEq, Prod.mk.injEq] at H
  obtain ⟨rfl, rfl, rfl, rfl⟩ := H
  go_enter Try.func9, Try.ntmps9
  go_wp2_with (first | ((with_reducible refine gate_dst (N := 1) rfl ?_); refine box_event ?hg (N := 1) ?hd (cs := #[.int .i64 a0_0, .slice A0_1 l0_1.length c0_1, .slice A0_2 l0_2.length c0_2]) (t := 26) ?hr ?_; (case hd => rfl); (case hg => rfl); (case hr => first | (go_simp; done) | (go_simp; rfl)); intro gb296 hg w51 hbox hb; have n0_ := Aside0.mk (below_step (uB HB) hb); have n1_ := Aside0.mk (hbox); have n2_ := Aside0.mk ((by rw [hg]; exact (below_size (uB HB)) : w.heap.size ≤ gb296)); have n3_ := Aside0.mk ((by rw [hg]; exact (below_size (uB HB)) : w.heap.size ≤ gb296)); clear HB; have HB := n0_; have BK296 := n1_; have GW296 := n2_; have GE296 := n3_; clear n0_ n1_ n2_ n3_; clear hb hbox hg) | ((with_reducible refine gate_dst (N := 2) rfl ?_); refine box_event ?hg (N := 2) ?hd (cs := #[.int .i64 0, .slice none 0 0, .slice none 0 0]) (t := 26) ?hr ?_; (case hd => rfl); (case hg => rfl); (case hr => first | (go_simp; done) | (go_simp; rfl)); intro gb297 hg w52 hbox hb; have n0_ := Aside0.mk (blk_below (g := gb296) (o := .cells #[.int .i64 a0_0, .slice A0_1 l0_1.length c0_1, .slice A0_2 l0_2.length c0_2] 26 (0, 0)) (uK BK296) hb); have n1_ := Aside0.mk (below_step (by first | exact uB HB | exact uS HB (gC GE296 gN)) hb); have n2_ := Aside0.mk (hbox); have n3_ := Aside0.mk ((by rw [hg]; exact (below_size (by first | exact uB HB | exact uS HB (gC GE296 gN))) : w.heap.size ≤ gb297)); have n4_ := Aside0.mk ((by rw [hg]; exact (below_size (by first | exact uB HB | exact uS HB (gC GE296 gN))) : w.heap.size ≤ gb297)); have n5_ := Aside0.mk ((by rw [hg]; exact Nat.ne_of_lt (blk_lt (g := gb296) (o := .cells #[.int .i64 a0_0, .slice A0_1 l0_1.length c0_1, .slice A0_2 l0_2.length c0_2] 26 (0, 0)) (uK BK296)) : gb296 ≠ gb297)); have n6_ := Aside0.mk ((by rw [hg]; exact Nat.ne_of_gt (blk_lt (g := gb296) (o := .cells #[.int .i64 a0_0, .slice A0_1 l0_1.length c0_1, .slice A0_2 l0_2.length c0_2] 26 (0, 0)) (uK BK296)) : gb297 ≠ gb296)); clear BK296 HB; have BK296 := n0_; have HB := n1_; have BK297 := n2_; have GW297 := n3_; have GE297 := n4_; have NB296_297 := n5_; have NB297_296 := n6_; clear n0_ n1_ n2_ n3_ n4_ n5_ n6_ hb hbox hg; have hnb53 := NB296_297.out; have hnc53 := NB297_296.out; have hcz54_0 : w52.cell? ⟨gb296, 0, none⟩ = some (.int .i64 a0_0) := (blk_cell BK296.out 0).trans rfl; have hcz54_1 : w52.cell? ⟨gb296, 1, none⟩ = some (.slice A0_1 l0_1.length c0_1) := (blk_cell BK296.out 1).trans rfl; have hcz54_2 : w52.cell? ⟨gb296, 2, none⟩ = some (.slice A0_2 l0_2.length c0_2) := (blk_cell BK296.out 2).trans rfl; have hfz54_0 := blk_frozen BK296.out 0; have hfz54_1 := blk_frozen BK296.out 1; have hfz54_2 := blk_frozen BK296.out 2) | ((with_reducible refine gate_callee (f := 24) rfl ?_); refine goesL_ (some 6) rfl rfl Try.func24 (by kernel_rfl) rfl #[.agg #[.int .i64 a0_0, .slice A0_1 l0_1.length c0_1, .slice A0_2 l0_2.length c0_2]] rfl (by (try simp only [List.map_toArray, List.map_cons, List.map_nil]); first | done | rfl | (simp only [List.length_drop, List.length_take]; rfl)) ?_; (with_reducible refine (impl_IsCuckoo.calls k a0_0 _ _ l0_1 _ _ l0_2 false _ ?side1 ?side2 ?side3 ?side4 A3.out).mono ?_); (case side1 => exact uC HR0_1 HB); (case side2 => exact HC0_1.out); (case side3 => exact uC HR0_2 HB); (case side4 => exact HC0_2.out); rintro e w55 ⟨rfl, hb⟩; refine ⟨_, rfl, ?_⟩; have n0_ := Aside0.mk (blk_below (g := gb296) (o := .cells #[.int .i64 a0_0, .slice A0_1 l0_1.length c0_1, .slice A0_2 l0_2.length c0_2] 26 (0, 0)) (uK BK296) hb); have n1_ := Aside0.mk (blk_below (g := gb297) (o := .cells #[.int .i64 0, .slice none 0 0, .slice none 0 0] 26 (0, 0)) (uK BK297) hb); have n2_ := Aside0.mk (below_step (by first | exact uB HB | exact uS HB (gC GE296 (gC GE297 gN))) hb); clear BK296 BK297 HB; have BK296 := n0_; have BK297 := n1_; have HB := n2_; clear n0_ n1_ n2_; (try clear hb); (try clear hb2); (try clear hk); (try clear hi); have hcz56_0 : w55.cell? ⟨gb297, 0, none⟩ = some (.int .i64 0) := (blk_cell BK297.out 0).trans rfl; have hcz56_1 : w55.cell? ⟨gb297, 1, none⟩ = some (.slice none 0 0) := (blk_cell BK297.out 1).trans rfl; have hcz56_2 : w55.cell? ⟨gb297, 2, none⟩ = some (.slice none 0 0) := (blk_cell BK297.out 2).trans rfl; have hfz56_0 := blk_frozen BK297.out 0; have hfz56_1 := blk_frozen BK297.out 1; have hfz56_2 := blk_frozen BK297.out 2))
  refine bodyPost_ret (results_ct rfl _ _ gb297 26 #[.int .i64 0, .slice none 0 0, .slice none 0 0] (0, 0) _ rfl (by refine uW ?_; refine blk_put (cs := #[.int .i64 0, .slice none 0 0, .slice none 0 0]) ?_ 2 _ rfl; refine uW ?_; refine blk_put (cs := #[.int .i64 0, .slice none 0 0, .slice none 0 0]) ?_ 1 _ rfl; refine uW ?_; refine blk_put (cs := #[.int .i64 0, .slice none 0 0, .slice none 0 0]) ?_ 0 _ rfl; refine uW ?_; exact BK297.out) Try.underlying26 rfl (by kernel_rfl)) rfl ?_
  exact ⟨_, _, by first | rfl | (simp [errW_none, errW_some] <;> rfl) | (simp [*, errW_none, errW_some] <;> rfl), by first | exact Kd.R_nil _ _ _ _ _ | exact Kd.N_nil _ _ _ _ _ | exact Kd.V_nil _ _ _ _ _ | exact Kd.Q_nil _ _ _ _ _ | exact Kd.S_nil _ _ _ _ _, by first | exact Kd.R_nil _ _ _ _ _ | exact Kd.N_nil _ _ _ _ _ | exact Kd.V_nil _ _ _ _ _ | exact Kd.Q_nil _ _ _ _ _ | exact Kd.S_nil _ _ _ _ _, by first | exact uB HB | exact uS HB (gC GE296 (gC GE297 gN))⟩


end Go.Proofs.Ythaicmebdgeamaa.PFnExactCuckooUnstash
