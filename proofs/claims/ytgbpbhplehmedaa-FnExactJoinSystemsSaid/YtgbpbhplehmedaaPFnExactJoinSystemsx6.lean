-- made by wip/tools/myprint.py over the kit's print, for this claim
import Derived.Test.YtgbpbhplehmedaaPFnExactJoinSystemsx0
namespace Go.Proofs.Ytgbpbhplehmedaa.PFnExactJoinSystems
open Go.RowKit Go.Proofs.YtgbpbhplehmedaaW.PrintWords Go.Proofs.YtgbpbhplehmedaaW.PrintLast Go.Proofs.YtgbpbhplehmedaaW.PrintMore
open List (setIfInBounds_toArray set_cons_zero set_cons_succ)
attribute [local go_sem] max2_int min2_int max_two min_two max_three min_three max_four min_four   -- for this text's walks alone
set_option linter.unusedVariables false
set_option linter.unusedSimpArgs false

set_option maxHeartbeats 8000000
set_option maxRecDepth 100000
/-! ### FN: function 53 -/
def FN.f (l0 : List Int) : Option (List Int) := if l0.length < 17592186044416 then some l0 else none
theorem FN.calls (A0 : Option Addr) (c0 : Nat) (l0 : List Int) (r : List Int) (w : World) (hr0 : Kd.C (Kd.int .i64) w A0 l0.length l0) (hc0 : l0.length ≤ c0) (h : FN.f l0 = some r) :
    Calls Try.prog 53 #[.slice A0 l0.length c0] w fun e w' => ∃ v0_ : Value, e = .returned (v0_) ∧ Kd.R (Kd.int .i64) 3 w' w.heap.size (fun _ => True) v0_ r ∧ Below w.heap.size w w' := by
  have qT_ : ∀ (w : World) (a : Option Addr) (n c : Nat), (binOp .eql 51 (.slice a n c) (.slice none 0 0)).run Try.prog w = .ok (.bool a.isNone) w := fun w a n c => Go.Proofs.Ytgbpbhplehmedaa.Nils.slice_eql_nil w _ _ a n c Try.underlying51
  cases A0 with
  | none =>
    have hnil : l0 = [] := by
      rcases l0 with _ | ⟨x, xs⟩
      · rfl
      · obtain ⟨ad, e, _⟩ := Kd.at_int hr0 0 Z70 (by simp only [List.length_cons]; omega)
        cases e
    subst hnil
    have hr_ : r = [] := by
      unfold FN.f at h
      rw [if_pos Z21] at h
      exact (Option.some.inj h).symm
    subst hr_
    go_enter Try.func53, Try.ntmps53
    go_wp2
    go_ret
    exact ⟨_, rfl, Kd.R_nil _ _ _ _ _, by repeat (first | exact Below.refl _ _ | apply below_drew1 | apply pw_below_drewN)⟩
  | some a0_ =>
    have HR0 := am hr0
    have HC0 := am hc0
    clear hr0 hc0
    have HB := am (Below.refl w.heap.size w)
    have H : ((some (([] : List Int) : List Int)).bind fun y6 => (if y6.length + l0.length < 17592186044416 then (some (y6 ++ l0)) else (none))) = some r := by
      unfold FN.f at h
      simpa using h
    clear h
    obtain ⟨y6, hy6⟩ : ∃ y_ : List Int, y_ = (([] : List Int)) := ⟨_, rfl⟩
    replace H : (if y6.length + l0.length < 17592186044416 then (some (y6 ++ l0)) else (none)) = some r := by first | (rw [hy6]; with_reducible exact H) | (have H2_ := (Option.bind_some _ _).symm.trans H; rw [hy6]; with_reducible exact H2_) | (have H2_ := (Option.bind_some _ _).symm.trans H; with_reducible exact H2_) | with_reducible exact H | (rw [hy6]; exact H) | exact H
    have Ny6 := am hy6
    clear hy6
    by_cases c2 : y6.length + l0.length < 17592186044416
    · rw [if_pos c2] at H
      have LMc2 := am c2
      clear c2
      obtain ⟨y7, hy7⟩ : ∃ y_ : List Int, y_ = (y6 ++ l0) := ⟨_, rfl⟩
      replace H : (some y7) = some r := by first | (rw [hy7]; with_reducible exact H) | (have H2_ := (Option.bind_some _ _).symm.trans H; rw [hy7]; with_reducible exact H2_) | (have H2_ := (Option.bind_some _ _).symm.trans H; with_reducible exact H2_) | with_reducible exact H | (rw [hy7]; exact H) | exact H
      have Ny7 := am hy7
      clear hy7
      obtain rfl := Option.some.inj H
      go_enter Try.func53, Try.ntmps53
      go_wp2_with (first | ((with_reducible refine gate_dst (N := 5) rfl ?_); refine Kd.R_lit (Kd.int .i64) _ 3 ?hg (N := 5) ?hd (xs := ([] : List Int)) (inner := []) (ok := fun _ => True) (okp := fun _ => True) ?hr ?hp (fun _ hk => hk) trivial (Below.refl _ _) (Nat.le_refl _) Z65 ?_; (case hd => rfl); (case hg => rfl); (case hr => exact Z88); (case hp => exact (Reps.none _ _)); intro v8 w3 ho4 hb hg_ hnew_; clear hg_ hnew_; (first | rw [← Ny6.out] at ho4 | (simp only [Int.reduceToNat] at ho4; rw [← Ny6.out] at ho4)); have HO9 := am (Kd.R_lower ho4 (below_size Z45)); replace HB := am (below_step Z45 hb); clear hb ho4) | ((with_reducible refine gate_builtin (b := .append) (xs := #[.tmp 5, .tmp 6]) rfl ?_); at_builtin; refine Kd.R_append_rows (Kd.int .i64) (w0 := w) w.heap.size rfl (.tmp 5) (.tmp 6) 51 3 (.int .i64 0) 8 rfl Try.underlying51 info3 rfl Z21 Z70 v8 y6 l0 _ _ _ (fun _ => True) (fun _ => False) rfl rfl ?aO ?aR (fun _ _ h => h) (fun _ h => h.elim) ?aF ?aB ?aS ?aL ?_; (case aR => repeat (first | exact (Kd.C_below HR0.out HB.out) | (with_reducible refine Kd.C_alloc ?_ _) | (with_reducible refine Kd.C_drewN ?_ _) | (with_reducible refine Kd.C_drew ?_))); (case aB => exact Z45); (case aF => exact (fun _ _ => trivial)); (case aO => exact (by (with_reducible repeat (first | apply Kd.R_alloc | apply Kd.R_drewN | apply Kd.R_drew)); exact HO9.out)); (case aS => exact (below_size Z45)); (case aL => have := LMc2.out; omega); intro v10 w5 ho hb hg hat; rw [← Ny7.out] at ho; replace HB := am (hb); have HO11 := am (ho); clear HO9; clear ho hb hg hat))
      go_ret
      exact ⟨_, Z86, Z85, Z45⟩
    · rw [if_neg c2] at H
      exact absurd H Z65


/-! ### FS: function 29 -/
def FS.f (a0_0 : Int) (l0_1 : List Int) : Option (Int × List Int) := (FN.f l0_1).bind fun t2 => (some (a0_0, t2))
theorem FS.calls (a0_0 : Int) (A0_1 : Option Addr) (c0_1 : Nat) (l0_1 : List Int) (r1 : Int) (r2 : List Int) (w : World) (hr0_1 : Kd.C (Kd.int .i64) w A0_1 l0_1.length l0_1) (hc0_1 : l0_1.length ≤ c0_1) (h : FS.f a0_0 l0_1 = some (r1, r2)) :
  Calls Try.prog 29 #[.agg #[.int .i64 a0_0, .slice A0_1 l0_1.length c0_1]] w fun e w' => ∃ v1_ : Value, e = .returned (.agg #[.int .i64 r1, v1_]) ∧ Kd.R (Kd.int .i64) 3 w' w.heap.size (fun _ => True) v1_ r2 ∧ Below w.heap.size w w' := by
 have hu53 := Try.underlying53
 have HR0_1 := am hr0_1
 have HC0_1 := am hc0_1
 clear hr0_1 hc0_1
 have HB := am (Below.refl w.heap.size w)
 have H : ((FN.f l0_1).bind fun t10 => (some (a0_0, t10))) = some (r1, r2) := h
 clear h
 replace H := Option.bind_eq_some_iff.mp H
 obtain ⟨t10, A20, H⟩ := H
 try dsimp only at H
 have A2 := am A20
 clear A20
 simp only [Option.some.injEq, Prod.mk.injEq] at H
 obtain ⟨rfl, rfl⟩ := H
 go_enter Try.func29, Try.ntmps29
 try go_wp2_with (first | ((with_reducible refine gate_dst (N := 1) rfl ?_); refine box_event ?hg (N := 1) ?hd (cs := #[.int .i64 a0_0, .slice A0_1 l0_1.length c0_1]) (t := 53) ?hr ?_; (case hd => rfl); (case hg => rfl); (case hr => exact Z88); intro gb11 hg w3 hbox hb; have BK11 := am (hbox); have GW11 := nG HB hg; have GE11 := nG HB hg; have GI11 := gI GE11; replace HB := am (below_step (uN HB) hb); clear hb hbox hg) | ((with_reducible refine gate_dst (N := 2) rfl ?_); refine box_event ?hg (N := 2) ?hd (cs := #[.int .i64 0, .slice none 0 0]) (t := 53) ?hr ?_; (case hd => rfl); (case hg => rfl); (case hr => exact Z88); intro gb12 hg w4 hbox hb; have BK12 := am (hbox); have GW12 := am ((by rw [hg]; exact (below_size Z38) : w.heap.size ≤ gb12)); have GE12 := am ((by rw [hg]; exact (below_size Z38) : w.heap.size ≤ gb12)); replace HB := am (below_step Z38 hb); have NB11_12 := nL BK11 hg; have NB12_11 := nR BK11 hg; replace BK11 := kB BK11 hb; clear hb hbox hg))
 replace BK11 := am (blk_drew BK11.out)
 replace BK12 := am (blk_drew BK12.out)
 replace HB := am (below_drew1 HB.out)
 refine start_ (n := 7) (S := fun w' => w'.cell? ⟨gb11, 0, none⟩ = some (.int .i64 a0_0) ∧ w'.cell? ⟨gb11, 1, none⟩ = some (.slice A0_1 l0_1.length c0_1)) (ds := []) (bA 7 0) Z90 rfl rfl ⟨bc BK11 0, bc BK11 1⟩ (fun hHeld => ?_)
 generalize w4.drew = w5 at BK11 BK12 HB hHeld ⊢
 refine pure_ (i := 0) (N := some 3) (v := ?_) (a' := ?_) (bA 7 1) rfl rfl Z90 (fun _ _ _ h => h) (Or.inl ⟨Z62, ?_⟩) ?_ ?_
 rotate_left
 ·
  intro w'
  go_simp
  with_reducible rfl
 rotate_left
 ·
  simp only [Act.put, setIfInBounds_toArray, set_cons_zero, set_cons_succ, i64_w, i32_w]
  rfl
 refine pure_ (i := 2) (N := some 5) (v := ?_) (a' := ?_) (bA 7 5) rfl rfl Z90 (fun _ _ _ h => h) (Or.inl ⟨Z62, ?_⟩) ?_ ?_
 rotate_left
 ·
  intro w'
  go_simp
  with_reducible rfl
 rotate_left
 ·
  simp only [Act.put, setIfInBounds_toArray, set_cons_zero, set_cons_succ, i64_w, i32_w]
  rfl
 refine take_ (i := 1) (N := some 4) (v := ?_) (a' := ?_) (bA 7 7) rfl rfl Z90 (fun _ _ _ h => h) (Or.inl ⟨Z62, ?_⟩) hHeld ?_ ?_
 rotate_left
 ·
  rintro w' ⟨s0, s1⟩
  go_simp
  with_reducible rfl
 rotate_left
 ·
  simp only [Act.put, setIfInBounds_toArray, set_cons_zero, set_cons_succ, i64_w, i32_w]
  rfl
 refine take_ (i := 3) (N := some 6) (v := ?_) (a' := ?_) (bA 7 15) rfl rfl Z90 (fun _ _ _ h => h) (Or.inl ⟨Z62, ?_⟩) hHeld ?_ ?_
 rotate_left
 ·
  rintro w' ⟨s0, s1⟩
  go_simp
  with_reducible rfl
 rotate_left
 ·
  simp only [Act.put, setIfInBounds_toArray, set_cons_zero, set_cons_succ, i64_w, i32_w]
  rfl
 refine one_ (i := 4) (N := some 7) (bA 7 31) rfl rfl Z90 Z21 (fun K hK => ?_)
 refine goes_ Try.func53 Z90 rfl #[.slice A0_1 l0_1.length c0_1] Z62 rfl rfl Z91 ?_
 with_reducible refine (FN.calls _ _ l0_1 t10 _ ?side1 ?side2 A2.out).mono ?_
 (case side1 => exact uC HR0_1 HB)
 (case side2 => exact HC0_1.out)
 rintro e w6 ⟨v13, rfl, ho0, hb⟩
 refine ⟨_, rfl, ?_⟩
 have HO14 := am (Kd.R_lower ho0 (below_size Z33))
 replace BK11 := kB BK11 hb
 replace BK12 := kB BK12 hb
 replace HB := am (below_step Z33 hb)
 (try clear hb)
 (try clear hb2)
 (try clear hk)
 (try clear hi)
 (try clear ho0)
 obtain ⟨Ao7, co7, eo7⟩ := Kd.R_slice HO14.out
 (first | subst eo7 | (injection eo7 with f1_ f2_ f3_; have f4_ := f1_.symm; have f5_ := f3_.symm; clear f1_ f2_ f3_; subst f4_; subst f5_))
 refine hK.out _ _ ⟨bc BK11 0, bc BK11 1⟩ (fun hHeld => ?_)
 clear hK K
 refine norm_ (a' := ?_) ?_ ?_
 rotate_left
 ·
  show Act.put _ (some 7) _ = _
  simp only [Act.put, setIfInBounds_toArray, set_cons_zero, set_cons_succ, i64_w, i32_w]
  rfl
 refine pure_ (i := 5) (N := some 8) (v := ?_) (a' := ?_) (bA 7 63) rfl rfl Z90 (fun _ _ _ h => h) (Or.inl ⟨Z62, ?_⟩) ?_ ?_
 rotate_left
 ·
  intro w'
  go_simp
  with_reducible rfl
 rotate_left
 ·
  simp only [Act.put, setIfInBounds_toArray, set_cons_zero, set_cons_succ, i64_w, i32_w]
  rfl
 refine one_ (i := 6) (N := none) (bA 7 127) rfl rfl Z90 Z21 (fun K hK => ?_)
 have hs8 : w6.cell? ⟨gb12, 0, none⟩ = some (.int .i64 0) := bc BK12 0
 have hfs8 := blk_frozen BK12.out 0
 have hns8_0 := NB11_12.out
 have hms8_0 := NB12_11.out
 have hs9 : w6.cell? ⟨gb12, 1, none⟩ = some (.slice none 0 0) := bc BK12 1
 have hfs9 := blk_frozen BK12.out 1
 have hns9_0 := NB11_12.out
 have hms9_0 := NB12_11.out
 refine skip_ (w1 := ?_) Z62 rfl ?_ ?_
 rotate_left
 ·
  go_simp
  rfl
 refine hK.out _ _ ⟨((cell_far (p := ⟨gb12, _, none⟩) NB11_12.out _).trans (((cell_far (p := ⟨gb12, _, none⟩) NB11_12.out _).trans (hHeld.1)))), ((cell_far (p := ⟨gb12, _, none⟩) NB11_12.out _).trans (((cell_far (p := ⟨gb12, _, none⟩) NB11_12.out _).trans (hHeld.2))))⟩ (fun hHeld => ?_)
 clear hK K
 refine done_ Z90 ?_
 try go_wp2
 refine bodyPost_ret (results_cell_row rfl _ _ gb12 53 #[.int .i64 a0_0, .slice Ao7 t10.length co7] (0, 0) _ rfl (pT (pp 1 (pp 0 (pb BK12)))) Try.underlying53 rfl Z90) rfl ?_
 exact ⟨_, Z86, Z95, Z33⟩

end Go.Proofs.Ytgbpbhplehmedaa.PFnExactJoinSystems
