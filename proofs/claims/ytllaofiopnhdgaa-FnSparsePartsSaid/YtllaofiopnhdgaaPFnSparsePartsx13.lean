-- made by wip/tools/myprint.py over the kit's print, for this claim
import Derived.Test.YtllaofiopnhdgaaPFnSparsePartsx0
import Derived.Test.YtllaofiopnhdgaaPFnSparsePartsx9
import Derived.Test.YtllaofiopnhdgaaPFnSparsePartsx12
namespace Go.Proofs.Ytllaofiopnhdgaa.PFnSparseParts
open Go.RowKit Go.Proofs.YtllaofiopnhdgaaW.PrintWords Go.Proofs.YtllaofiopnhdgaaW.PrintLast Go.Proofs.YtllaofiopnhdgaaW.PrintMore
open List (setIfInBounds_toArray set_cons_zero set_cons_succ)
attribute [local go_sem] max2_int min2_int max_two min_two max_three min_three max_four min_four   -- for this text's walks alone
set_option linter.unusedVariables false
set_option linter.unusedSimpArgs false

set_option maxHeartbeats 8000000
set_option maxRecDepth 100000
/-! ### Fh: function 32 -/
mutual
def Fh.l0 : Nat → List Int → Int → Int → Int → Int → Int → List Int → Int → List Int → Option (List Int)
 | 0, _, _, _, _, _, _, _, _, _ => none
 | k + 1, x3, x4, x2, x5, x6, x7, x8, x9, x10 => if x4 < x9 then (Fh.j1 k x3 x4 (decide ((x3.length : Int) < x2)) x2 x5 x6 x7 x8 x9 x10) else (Fh.j1 k x3 x4 false x2 x5 x6 x7 x8 x9 x10)
def Fh.j1 : Nat → List Int → Int → Bool → Int → Int → Int → Int → List Int → Int → List Int → Option (List Int)
 | 0, _, _, _, _, _, _, _, _, _, _ => none
 | k + 1, x3, x4, x17, x2, x5, x6, x7, x8, x9, x10 => if x17 = true then ((Faa.f x9 x10 x4).bind fun t11 => (if t11 = true then (if 0 ≤ x6 then ((FA.f k x7 x8 (wrap64 ((x3.length : Int) * x6)) x6).bind fun t12 => (if x3.length < 17592186044416 then (Fh.l0 k (x3 ++ [wrap64 ((shl .i64 (wrap64 (x4 - (x3.length : Int))) x6) + t12)]) (wrap64 (x4 + 1)) x2 x5 x6 x7 x8 x9 x10) else (none))) else (none)) else (Fh.l0 k x3 (wrap64 (x4 + 1)) x2 x5 x6 x7 x8 x9 x10))) else (some x3)
end
def Fh.f (k : Nat) (a0_0 : Int) (a0_1 : Int) (a0_2 : Int) (a0_3 : Int) (l0_4 : List Int) (a0_5 : Int) (l0_6 : List Int) : Option (List Int) := Fh.l0 k ([] : List Int) 0 a0_0 a0_1 a0_2 a0_3 l0_4 a0_5 l0_6
theorem Fh.mono_l : ∀ k, (∀ y0 y1 y2 y3 y4 y5 y6 y7 y8, LeO (Fh.l0 k y0 y1 y2 y3 y4 y5 y6 y7 y8) (Fh.l0 (k + 1) y0 y1 y2 y3 y4 y5 y6 y7 y8)) ∧ (∀ y0 y1 y2 y3 y4 y5 y6 y7 y8 y9, LeO (Fh.j1 k y0 y1 y2 y3 y4 y5 y6 y7 y8 y9) (Fh.j1 (k + 1) y0 y1 y2 y3 y4 y5 y6 y7 y8 y9))
 | 0 => ⟨fun _ _ _ _ _ _ _ _ _ r h => by simp [Fh.l0] at h, fun _ _ _ _ _ _ _ _ _ _ r h => by simp [Fh.j1] at h⟩ | k + 1 => by
  obtain ⟨ih0, ih1⟩ := Fh.mono_l k
  refine ⟨?_, ?_⟩
  ·
   intro y0 y1 y2 y3 y4 y5 y6 y7 y8
   unfold Fh.l0
   exact Mo10
  intro y0 y1 y2 y3 y4 y5 y6 y7 y8 y9
  unfold Fh.j1
  exact Mo10
theorem Fh.mono : ∀ a0 a1 a2 a3 a4 a5 a6 k, LeO (Fh.f k a0 a1 a2 a3 a4 a5 a6) (Fh.f (k + 1) a0 a1 a2 a3 a4 a5 a6) := by
 intro a0 a1 a2 a3 a4 a5 a6 k
 obtain ⟨ih0, ih1⟩ := Fh.mono_l k
 unfold Fh.f
 exact Mo10
def Fh.T7 : Bool × List (List Nat × List Nat) := (true, [([], []), ([], []), ([], []), ([1, 2], [1, 2]), ([], []), ([4], [4]), ([3, 5], [3, 5]), ([], []), ([7], [7]), ([], []), ([], []), ([10], [10]), ([9, 11], [9, 11]), ([], []), ([13], [13]), ([8, 12, 14], [8, 12, 14]), ([6, 15], [6, 15]), ([16], [16]), ([0, 17, 15], [0, 17]), ([18, 18, 0, 1, 2, 3, 4, 5, 6, 7, 8, 9, 10, 11, 12, 13, 14, 15, 16, 17, 18], [0, 18])])
def Fh.B7 : List Nat := [0, 0, 0, 6, 0, 16, 62, 0, 128, 0, 0, 1024, 3584, 0, 8192, 32640, 65534, 131070, 262143, 524287]
theorem Fh.tab7 : rtab .any (opsOf Try.f32 7) = Fh.T7 := by kernel_rfl
theorem Fh.bits7 : waitsOk Fh.T7.2 Fh.B7 = true := by kernel_rfl
theorem Fh.calls (k : Nat) (a0_0 : Int) (a0_1 : Int) (a0_2 : Int) (a0_3 : Int) (A0_4 : Option Addr) (c0_4 : Nat) (l0_4 : List Int) (a0_5 : Int) (A0_6 : Option Addr) (c0_6 : Nat) (l0_6 : List Int) (r : List Int) (w : World) (hr0_4 : Kd.C (Kd.int .i64) w A0_4 l0_4.length l0_4) (hc0_4 : l0_4.length ≤ c0_4) (hr0_6 : Kd.C (Kd.int .i64) w A0_6 l0_6.length l0_6) (hc0_6 : l0_6.length ≤ c0_6) (h : Fh.f k a0_0 a0_1 a0_2 a0_3 l0_4 a0_5 l0_6 = some r) :
  Calls Try.prog 32 #[.agg #[.int .i64 a0_0, .int .i64 a0_1, .int .i64 a0_2, .int .i64 a0_3, .slice A0_4 l0_4.length c0_4, .int .i64 a0_5, .slice A0_6 l0_6.length c0_6]] w fun e w' => ∃ v0_ : Value, e = .returned (v0_) ∧ Kd.R (Kd.int .i64) 3 w' w.heap.size (fun _ => True) v0_ r ∧ Below w.heap.size w w' := by
 have hu28 := Try.underlying28
 have hu26 := Try.underlying26
 have HR0_4 := am hr0_4
 have HC0_4 := am hc0_4
 clear hr0_4 hc0_4
 have HR0_6 := am hr0_6
 have HC0_6 := am hc0_6
 clear hr0_6 hc0_6
 have HB := am (Below.refl w.heap.size w)
 have H : (Fh.l0 k ([] : List Int) 0 a0_0 a0_1 a0_2 a0_3 l0_4 a0_5 l0_6) = some r := h
 clear h
 have H' := am H
 clear H
 go_enter Try.func32, Try.ntmps32
 go_wp2_with (first | ((with_reducible refine gate_dst (N := 1) rfl ?_); (try (refine gate_guard Z63 ?_; dsimp only)); refine box_event ?hg (N := 1) ?hd (cs := #[.int .i64 a0_0, .int .i64 a0_1, .int .i64 a0_2, .int .i64 a0_3, .slice A0_4 l0_4.length c0_4, .int .i64 a0_5, .slice A0_6 l0_6.length c0_6]) (t := 28) ?hr ?_; (case hd => rfl); (case hg => rfl); (case hr => exact Z111); intro gb23 hg w2 hbox hb; have BK23 := am (hbox); have GW23 := nG HB hg; have GE23 := nG HB hg; have GI23 := gI GE23; replace HB := am (below_step (uN HB) hb); clear hb hbox hg))
 go_loopg [3, 4] k (fun kq v3 v4 w' => ∃ (x3_1 : List Int) (x4_1 : Int), v4 = .int .i64 x4_1 ∧ Aside0 (Fh.l0 kq x3_1 x4_1 a0_0 a0_1 a0_2 a0_3 l0_4 a0_5 l0_6 = some r) ∧ Aside0 (kq ≤ k) ∧ Aside0 (Kd.R (Kd.int .i64) 3 w' w.heap.size (fun _ => True) v3 x3_1) ∧ Aside0 (w'.heap[gb23]? = some (.cells #[.int .i64 a0_0, .int .i64 a0_1, .int .i64 a0_2, .int .i64 a0_3, (.slice A0_4 l0_4.length c0_4), .int .i64 a0_5, (.slice A0_6 l0_6.length c0_6)] 28 (0, 0))) ∧ Aside0 (Below w.heap.size w w'))
 case atStart => exact ⟨(([] : List Int)), (0), Z110, H', ⟨Nat.le_refl _⟩, ⟨Z23⟩, ⟨pb BK23⟩, ⟨Z33⟩⟩
 case round =>
  clear H'
  try clear p2
  try clear HO_3
  obtain ⟨x3_1, x4_1, rfl, HA, HK1, HO_3, BK23, HB⟩ := hrel
  cases gk with
  | zero => exact absurd HA.out (by simp [Fh.l0])
  | succ k1 =>
   have H := HA.out
   clear HA
   simp only [Fh.l0] at H
   have HC3 := am H
   clear H
   go_upto_region 3 with (fail)
   go_cut [17] (fun v17 wc => ∃ (kq : Nat) (x17_2 : Bool), v17 = .bool x17_2 ∧ Aside0 (Fh.j1 kq x3_1 x4_1 x17_2 a0_0 a0_1 a0_2 a0_3 l0_4 a0_5 l0_6 = some r) ∧ Aside0 (kq ≤ k1) ∧ Aside0 (Kd.R (Kd.int .i64) 3 wc w.heap.size (fun _ => True) u3 x3_1) ∧ Aside0 (wc.heap[gb23]? = some (.cells #[.int .i64 a0_0, .int .i64 a0_1, .int .i64 a0_2, .int .i64 a0_3, (.slice A0_4 l0_4.length c0_4), .int .i64 a0_5, (.slice A0_6 l0_6.length c0_6)] 28 (0, 0))) ∧ Aside0 (Below w.heap.size w wc))
   case first =>
    have H := HC3.out
    clear HC3
    by_cases c4 : x4_1 < a0_5
    rotate_left
    ·
     rw [if_neg c4] at H
     have c4b0 := decide_eq_false c4
     clear c4
     (first | rw [c4b0] | (simp only [i64_w, i32_w]; rw [c4b0]) | skip)
     have H' := am H
     clear H
     obtain ⟨hcz7_0, hcz7_1, hcz7_2, hcz7_3, hcz7_4, hcz7_5, hcz7_6, hfz7_0, hfz7_1, hfz7_2, hfz7_3, hfz7_4, hfz7_5, hfz7_6⟩ := ce7 BK23
     go_wp2
     go_meet
     case rel => exact ⟨_, (false), Z110, H', ⟨by have := HK1.out; first | omega | exact Nat.le_refl _⟩, ⟨Z71⟩, ⟨pb BK23⟩, ⟨Z33⟩⟩
    rw [if_pos c4] at H
    have c4b0 := decide_eq_true c4
    clear c4
    (first | rw [c4b0] | (simp only [i64_w, i32_w]; rw [c4b0]) | skip)
    have H' := am H
    clear H
    obtain ⟨hcz5_0, hcz5_1, hcz5_2, hcz5_3, hcz5_4, hcz5_5, hcz5_6, hfz5_0, hfz5_1, hfz5_2, hfz5_3, hfz5_4, hfz5_5, hfz5_6⟩ := ce7 BK23
    obtain ⟨Ao6, co6, eo6⟩ := Kd.R_slice HO_3.out
    subst eo6
    go_wp2
    go_meet
    case rel => exact ⟨_, (decide ((x3_1.length : Int) < a0_0)), Z110, H', ⟨by have := HK1.out; first | omega | exact Nat.le_refl _⟩, ⟨Z71⟩, ⟨pb BK23⟩, ⟨Z33⟩⟩
   case rest =>
    clear HC3
    try clear p2
    try clear c3
    try clear c4
    try clear c4b0
    try clear hcz5_0 hcz5_1 hcz5_2 hcz5_3 hcz5_4 hcz5_5 hcz5_6 hcz7_0 hcz7_1 hcz7_2 hcz7_3 hcz7_4 hcz7_5 hcz7_6
    try clear hfz5_0 hfz5_1 hfz5_2 hfz5_3 hfz5_4 hfz5_5 hfz5_6 hfz7_0 hfz7_1 hfz7_2 hfz7_3 hfz7_4 hfz7_5 hfz7_6
    try clear p2
    obtain ⟨kq, x17_2, rfl, HA, HJ2, HO_3, BK23, HB⟩ := hcut
    cases kq with
    | zero => exact absurd HA.out (by simp [Fh.j1])
    | succ kj2 =>
     have H := HA.out
     clear HA
     simp only [Fh.j1] at H
     by_cases c8 : x17_2 = true
     rotate_left
     ·
      replace c8 := Bool.eq_false_iff.mpr c8
      subst c8
      rw [if_neg (show ¬ (false = true) from Z16)] at H
      obtain rfl := Option.some.inj H
      go_wp2
      go_ret
      exact ⟨_, Z109, Z71, Z33⟩
     subst c8
     rw [if_pos rfl] at H
     replace H := Option.bind_eq_some_iff.mp H
     obtain ⟨t25, A90, H⟩ := H
     try dsimp only at H
     have A9 := am A90
     clear A90
     by_cases c10 : t25 = true
     rotate_left
     ·
      replace c10 := Bool.eq_false_iff.mpr c10
      subst c10
      rw [if_neg (show ¬ (false = true) from Z16)] at H
      have H' := am H
      clear H
      obtain ⟨hcz21_0, hcz21_1, hcz21_2, hcz21_3, hcz21_4, hcz21_5, hcz21_6, hfz21_0, hfz21_1, hfz21_2, hfz21_3, hfz21_4, hfz21_5, hfz21_6⟩ := ce7 BK23
      go_wp2_with (first | ((with_reducible refine gate_callee (f := 65) rfl ?_); refine gL 23 rfl Try.func65 #[.agg #[.int .i64 a0_5, .slice A0_6 l0_6.length c0_6], .int .i64 x4_1] ?_; (with_reducible refine (Faa.calls a0_5 _ _ l0_6 x4_1 false _ ?side1 ?side2 A9.out).mono ?_); (case side1 => exact uC HR0_6 HB); (case side2 => exact HC0_6.out); rintro e w22 ⟨rfl, hb⟩; refine ⟨_, rfl, ?_⟩; replace HO_3 := rB HO_3 hb; replace BK23 := kB BK23 hb; replace HB := am (below_step Z33 hb); (try clear hb); (try clear hb2); (try clear hk); (try clear hi)))
      go_roundg kj2
      case measure => have := HK1.out; have := HJ2.out; omega
      case rel => exact ⟨(x3_1), (wrap64 (x4_1 + 1)), Z110, H', ⟨by have := HK1.out; have := HJ2.out; omega⟩, ⟨Z71⟩, ⟨pb BK23⟩, ⟨Z33⟩⟩
     subst c10
     rw [if_pos rfl] at H
     by_cases c11 : 0 ≤ a0_2
     rotate_left
     ·
      rw [if_neg c11] at H
      exact absurd H Z43
     rw [if_pos c11] at H
     have c11b0 := eq_true c11
     have c11b1 := decide_eq_true c11
     clear c11
     obtain ⟨ji12, hji12⟩ : ∃ j_ : Int, (shl .i64 (wrap64 (x4_1 - (x3_1.length : Int))) a0_2) = j_ := ⟨_, rfl⟩
     replace H : ((FA.f kj2 a0_3 l0_4 (wrap64 ((x3_1.length : Int) * a0_2)) a0_2).bind fun t27 => (if x3_1.length < 17592186044416 then (Fh.l0 kj2 (x3_1 ++ [wrap64 ((ji12) + t27)]) (wrap64 (x4_1 + 1)) a0_0 a0_1 a0_2 a0_3 l0_4 a0_5 l0_6) else (none))) = some r := by first | (rw [hji12] at H; exact H) | (simp only [hji12] at H ⊢; exact H)
     (try rw [hji12] at A9)
     have hji12_ : (IntKind.i64.wrap ((wrap64 (x4_1 - (x3_1.length : Int))) * 2 ^ min a0_2.toNat 64)) = ji12 := hji12
     have hji12z : a0_2 ≤ 64 → (IntKind.i64.wrap ((wrap64 (x4_1 - (x3_1.length : Int))) * 2 ^ a0_2.toNat)) = ji12 := shl_small hji12
     have hji12y : (wrap64 ((wrap64 (x4_1 - (x3_1.length : Int))) * 2 ^ min a0_2.toNat 64)) = ji12 := (i64_w _).symm.trans hji12_
     have hji12x : a0_2 ≤ 64 → (wrap64 ((wrap64 (x4_1 - (x3_1.length : Int))) * 2 ^ a0_2.toNat)) = ji12 := fun h_ => (i64_w _).symm.trans (hji12z h_)
     replace H := Option.bind_eq_some_iff.mp H
     obtain ⟨t27, A29, H⟩ := H
     try dsimp only at H
     have A13 := am A29
     clear A29
     by_cases c14 : x3_1.length < 17592186044416
     rotate_left
     ·
      rw [if_neg c14] at H
      exact absurd H Z43
     rw [if_pos c14] at H
     have LMc14 := am c14
     clear c14
     obtain ⟨y30, hy30⟩ : ∃ y_ : List Int, y_ = (x3_1 ++ [wrap64 ((ji12) + t27)]) := ⟨_, rfl⟩
     replace H : (Fh.l0 kj2 y30 (wrap64 (x4_1 + 1)) a0_0 a0_1 a0_2 a0_3 l0_4 a0_5 l0_6) = some r := by first | (rw [hy30]; with_reducible exact H) | (have H2_ := (Option.bind_some _ _).symm.trans H; rw [hy30]; with_reducible exact H2_) | (have H2_ := (Option.bind_some _ _).symm.trans H; with_reducible exact H2_) | with_reducible exact H | (rw [hy30]; exact H) | exact H
     have Ny30 := am hy30
     clear hy30
     have H' := am H
     clear H
     obtain ⟨hcz15_0, hcz15_1, hcz15_2, hcz15_3, hcz15_4, hcz15_5, hcz15_6, hfz15_0, hfz15_1, hfz15_2, hfz15_3, hfz15_4, hfz15_5, hfz15_6⟩ := ce7 BK23
     try go_wp2_with (first | ((with_reducible refine gate_callee (f := 65) rfl ?_); refine gL 23 rfl Try.func65 #[.agg #[.int .i64 a0_5, .slice A0_6 l0_6.length c0_6], .int .i64 x4_1] ?_; (with_reducible refine (Faa.calls a0_5 _ _ l0_6 x4_1 true _ ?side1 ?side2 A9.out).mono ?_); (case side1 => exact uC HR0_6 HB); (case side2 => exact HC0_6.out); rintro e w16 ⟨rfl, hb⟩; refine ⟨_, rfl, ?_⟩; replace HO_3 := rB HO_3 hb; replace BK23 := kB BK23 hb; replace HB := am (below_step Z33 hb); (try clear hb); (try clear hb2); (try clear hk); (try clear hi); obtain ⟨Ao17, co17, eo17⟩ := Kd.R_slice HO_3.out; subst eo17))
     replace HO_3 := am (Kd.R_drew HO_3.out)
     replace BK23 := am (blk_drew BK23.out)
     replace HB := am (below_drew1 HB.out)
     refine start_ (n := 20) (S := fun w' => w'.cell? ⟨gb23, 0, none⟩ = some (.int .i64 a0_0) ∧ w'.cell? ⟨gb23, 1, none⟩ = some (.int .i64 a0_1) ∧ w'.cell? ⟨gb23, 2, none⟩ = some (.int .i64 a0_2) ∧ w'.cell? ⟨gb23, 3, none⟩ = some (.int .i64 a0_3) ∧ w'.cell? ⟨gb23, 4, none⟩ = some (.slice A0_4 l0_4.length c0_4) ∧ w'.cell? ⟨gb23, 5, none⟩ = some (.int .i64 a0_5) ∧ w'.cell? ⟨gb23, 6, none⟩ = some (.slice A0_6 l0_6.length c0_6)) (ds := []) (bA 20 0) Z112 rfl rfl ⟨bc BK23 0, bc BK23 1, bc BK23 2, bc BK23 3, bc BK23 4, bc BK23 5, bc BK23 6⟩ (fun hHeld => ?_); refine with_tabW Fh.tab7 Fh.bits7 (fun HT_ HW_ => ?_)
     generalize w16.drew = w18 at HO_3 BK23 HB hHeld ⊢
     refine pS 0 26 (bA 20 1) ?_
     refine pS 1 27 (bA 20 3) ?_
     refine pS 2 28 (bA 20 7) ?_
     refine pS 3 29 (bA 20 15) ?_
     refine pS 4 30 (bA 20 31) ?_
     refine pS 7 33 (bA 20 159) ?_
     refine pS 9 35 (bA 20 671) ?_
     refine pS 10 36 (bA 20 1695) ?_
     refine pS 13 39 (bA 20 9887) ?_
     refine tS7 5 31 (bA 20 9919) hHeld ?_
     refine pS 6 32 (bA 20 9983) ?_
     refine tS7 8 34 (bA 20 10239) hHeld ?_
     refine tS7 11 37 (bA 20 12287) hHeld ?_
     refine pS 12 38 (bA 20 16383) ?_
     refine tS7 14 40 (bA 20 32767) hHeld ?_
     refine one_ (i := 15) (N := some 41) (bA 20 65535) rfl rfl (one_of HT_.out Z112) Z16 (fun K hK => ?_)
     refine goes_ Try.func66 Z112 rfl #[.agg #[.int .i64 a0_3, .slice A0_4 l0_4.length c0_4], .int .i64 (wrap64 ((x3_1.length : Int) * a0_2)), .int .i64 a0_2] Z63 rfl rfl Z113 ?_
     with_reducible refine (FA.calls kj2 a0_3 _ _ l0_4 (wrap64 ((x3_1.length : Int) * a0_2)) a0_2 t27 _ ?side1 ?side2 A13.out).mono ?_
     (case side1 => exact uC HR0_4 HB)
     (case side2 => exact HC0_4.out)
     rintro e w19 ⟨rfl, hb⟩
     refine ⟨_, rfl, ?_⟩
     replace HO_3 := rB HO_3 hb
     replace BK23 := kB BK23 hb
     replace HB := am (below_step Z33 hb)
     (try clear hb)
     (try clear hb2)
     (try clear hk)
     (try clear hi)
     refine hK.out _ _ ⟨bc BK23 0, bc BK23 1, bc BK23 2, bc BK23 3, bc BK23 4, bc BK23 5, bc BK23 6⟩ (fun hHeld => ?_)
     clear hK K
     refine norm_ (a' := ?_) ?_ ?_
     rotate_left
     ·
      show Act.put _ (some 41) _ = _
      simp only [Act.put, setIfInBounds_toArray, set_cons_zero, set_cons_succ, i64_w, i32_w]
      rfl
     refine pS 16 42 (bA 20 131071) ?_
     refine one_ (i := 17) (N := some 43) (bA 20 262143) rfl rfl (one_of HT_.out Z112) Z16 (fun K hK => ?_)
     refine value_ (w1 := ?_) (v := ?_) Z63 rfl ?_ ?_
     rotate_left 2
     ·
      go_simp
      constructor
      ·
       rfl
      rfl
     refine hK.out _ _ ⟨(blk_cell (blk_alloc BK23.out _) 0).trans rfl, (blk_cell (blk_alloc BK23.out _) 1).trans rfl, (blk_cell (blk_alloc BK23.out _) 2).trans rfl, (blk_cell (blk_alloc BK23.out _) 3).trans rfl, (blk_cell (blk_alloc BK23.out _) 4).trans rfl, (blk_cell (blk_alloc BK23.out _) 5).trans rfl, (blk_cell (blk_alloc BK23.out _) 6).trans rfl⟩ (fun hHeld => ?_)
     clear hK K
     refine norm_ (a' := ?_) ?_ ?_
     rotate_left
     ·
      show Act.put _ (some 43) _ = _
      simp only [Act.put, setIfInBounds_toArray, set_cons_zero, set_cons_succ, i64_w, i32_w]
      rfl
     refine one_ (i := 18) (N := some 44) (bA 20 524287) rfl rfl (one_of HT_.out Z112) Z16 (fun K hK => ?_)
     refine Kd.R_append_step (Kd.int .i64) (w0 := w) w.heap.size Z63 (.tmp 26) (.tmp 43) 24 3 (.int .i64 0) 8 rfl Try.underlying24 info3 rfl Z16 Z70 (.slice Ao17 x3_1.length co17) x3_1 (wrap64 ((ji12) + t27)) [.int .i64 (wrap64 ((ji12) + t27))] (fun _ => True) (fun _ => False) rfl rfl ?aP (fun _ hk => hk.elim) ?aF ?aO ?aB ?aS ?aL ?_
     (case aP => exact rfl)
     (case aB => exact Z33)
     (case aF => exact (fun _ _ => trivial))
     (case aO => exact (uR HO_3))
     (case aS => exact (below_size Z33))
     (case aL => have := LMc14.out; omega)
     intro v31 w20 ho hb hg hat
     rw [← Ny30.out] at ho
     replace BK23 := am (blk_grown (g := gb23) (o := .cells #[.int .i64 a0_0, .int .i64 a0_1, .int .i64 a0_2, .int .i64 a0_3, .slice A0_4 l0_4.length c0_4, .int .i64 a0_5, .slice A0_6 l0_6.length c0_6] 28 (0, 0)) (uK BK23) hg (Kd.R_ne HO_3.out BK23.out Z16))
     replace HB := am (hb)
     have HO33 := am (ho)
     clear HO_3
     clear ho hb hg hat
     refine hK.out _ _ ⟨bc BK23 0, bc BK23 1, bc BK23 2, bc BK23 3, bc BK23 4, bc BK23 5, bc BK23 6⟩ (fun hHeld => ?_)
     clear hK K
     refine norm_ (a' := ?_) ?_ ?_
     rotate_left
     ·
      show Act.put _ (some 44) _ = _
      simp only [Act.put, setIfInBounds_toArray, set_cons_zero, set_cons_succ, i64_w, i32_w]
      rfl
     refine pS 19 3 (bA 20 1048575) ?_
     refine done_ (done_of HT_.out Z112) ?_
     try go_wp2
     go_roundg kj2
     case measure => have := HK1.out; have := HJ2.out; omega
     case rel => exact ⟨(y30), (wrap64 (x4_1 + 1)), Z110, H', ⟨by have := HK1.out; have := HJ2.out; omega⟩, ⟨by (with_reducible repeat (first | apply Kd.R_alloc | apply Kd.R_drewN | apply Kd.R_drew)); exact HO33.out⟩, ⟨pb BK23⟩, ⟨Z33⟩⟩

/-! ### Fu: function 85 -/
def Fu.l0 : Nat → Int → Int → List Int → Int → Int → Option (Bool)
 | 0, _, _, _, _, _ => none
 | k + 1, x1, x2, x9, x10, x11 => if x11 < x10 then (if 0 ≤ x11 then (if x11 < (x9.length : Int) then ((Fp.f (rd x9 x11) x1 x2).bind fun t3 => (if t3 = true then (Fu.l0 k x1 x2 x9 x10 (wrap64 (x11 + 1))) else (some false))) else (none)) else (none)) else (some true)
def Fu.f (k : Nat) (l0 : List Int) (a1 : Int) (a2 : Int) : Option (Bool) := Fu.l0 k a1 a2 l0 (l0.length : Int) 0
theorem Fu.mono_l : ∀ k, (∀ y0 y1 y2 y3 y4, LeO (Fu.l0 k y0 y1 y2 y3 y4) (Fu.l0 (k + 1) y0 y1 y2 y3 y4))
 | 0 => fun _ _ _ _ _ r h => by simp [Fu.l0] at h | k + 1 => by
  have ih0 := Fu.mono_l k
  ·
   intro y0 y1 y2 y3 y4
   unfold Fu.l0
   exact Mo1
theorem Fu.mono : ∀ a0 a1 a2 k, LeO (Fu.f k a0 a1 a2) (Fu.f (k + 1) a0 a1 a2) := by
 intro a0 a1 a2 k
 have ih0 := Fu.mono_l k
 unfold Fu.f
 exact Mo1
theorem Fu.calls (k : Nat) (A0 : Option Addr) (c0 : Nat) (l0 : List Int) (a1 : Int) (a2 : Int) (r : Bool) (w : World) (hr0 : Kd.C (Kd.int .i64) w A0 l0.length l0) (hc0 : l0.length ≤ c0) (h : Fu.f k l0 a1 a2 = some r) :
  Calls Try.prog 85 #[.slice A0 l0.length c0, .int .i64 a1, .int .i64 a2] w fun e w' => e = .returned (.bool r) ∧ Drawn0 w w' := by
 have HR0 := am hr0
 have HC0 := am hc0
 clear hr0 hc0
 have H : (Fu.l0 k a1 a2 l0 (l0.length : Int) 0) = some r := h
 clear h
 have H' := am H
 clear H
 go_enter Try.func85, Try.ntmps85
 go_wp2
 go_loopg [11] k (fun kq v11 w' => ∃ (x11_1 : Int), v11 = .int .i64 x11_1 ∧ Aside0 (Fu.l0 kq a1 a2 l0 (l0.length : Int) x11_1 = some r) ∧ Aside0 (kq ≤ k) ∧ Drawn0 w w')
 case atStart => exact ⟨(0), Z110, H', ⟨Nat.le_refl _⟩, Z22⟩
 case round =>
  clear H'
  try clear p2
  obtain ⟨x11_1, rfl, HA, HK1, ⟨m1, rfl⟩⟩ := hrel
  cases gk with
  | zero => exact absurd HA.out (by simp [Fu.l0])
  | succ k1 =>
   have H := HA.out
   clear HA
   simp only [Fu.l0] at H
   by_cases c4 : x11_1 < (l0.length : Int)
   rotate_left
   ·
    rw [if_neg c4] at H
    have c4b0 := decide_eq_false c4
    clear c4
    obtain rfl := Option.some.inj H
    go_wp2
    go_ret
    exact ⟨Z110, Z22⟩
   rw [if_pos c4] at H
   have c4b0 := decide_eq_true c4
   clear c4
   by_cases c5 : 0 ≤ x11_1
   rotate_left
   ·
    rw [if_neg c5] at H
    exact absurd H Z43
   rw [if_pos c5] at H
   have c5b0 := decide_eq_true c5
   clear c5
   by_cases c6 : x11_1 < (l0.length : Int)
   rotate_left
   ·
    rw [if_neg c6] at H
    exact absurd H Z43
   rw [if_pos c6] at H
   have c6b0 := decide_eq_true c6
   clear c6
   replace H := Option.bind_eq_some_iff.mp H
   obtain ⟨t3, A70, H⟩ := H
   try dsimp only at H
   have A7 := am A70
   clear A70
   by_cases c8 : t3 = true
   rotate_left
   ·
    replace c8 := Bool.eq_false_iff.mpr c8
    subst c8
    rw [if_neg (show ¬ (false = true) from Z16)] at H
    obtain rfl := Option.some.inj H
    have p9 : 0 ≤ (x11_1 : Int) := of_decide_eq_true Z6
    have q9 : x11_1 < (l0.length : Int) := of_decide_eq_true Z6
    obtain ⟨ad9, e9, hx9_0⟩ := Kd.at_int HR0.out x11_1 p9 q9
    cases e9
    replace p9 := eq_true p9
    replace q9 := eq_true q9
    go_wp2_with (first | ((with_reducible refine gate_callee (f := 30) rfl ?_); refine gL 18 rfl Try.func30 #[.int .i64 (rd l0 x11_1), .int .i64 a1, .int .i64 a2] ?_; (with_reducible refine (Fp.calls (rd l0 x11_1) a1 a2 false _ A7.out).mono ?_); rintro e w' ⟨rfl, ⟨nd, rfl⟩⟩; refine ⟨_, rfl, ?_⟩))
    go_ret
    exact ⟨Z110, Z22⟩
   subst c8
   rw [if_pos rfl] at H
   have H' := am H
   clear H
   have p9 : 0 ≤ (x11_1 : Int) := of_decide_eq_true Z6
   have q9 : x11_1 < (l0.length : Int) := of_decide_eq_true Z6
   obtain ⟨ad9, e9, hx9_0⟩ := Kd.at_int HR0.out x11_1 p9 q9
   cases e9
   replace p9 := eq_true p9
   replace q9 := eq_true q9
   go_wp2_with (first | ((with_reducible refine gate_callee (f := 30) rfl ?_); refine gL 18 rfl Try.func30 #[.int .i64 (rd l0 x11_1), .int .i64 a1, .int .i64 a2] ?_; (with_reducible refine (Fp.calls (rd l0 x11_1) a1 a2 true _ A7.out).mono ?_); rintro e w' ⟨rfl, ⟨nd, rfl⟩⟩; refine ⟨_, rfl, ?_⟩))
   go_roundg k1
   case measure => have := HK1.out; omega
   case rel => exact ⟨(wrap64 (x11_1 + 1)), Z110, H', ⟨by have := HK1.out; omega⟩, Z22⟩

/-! ### FO: function 62 -/
def FO.f (k : Nat) (a0_0 : Int) (l0_1 : List Int) : Option (Bool) := (Fp.f a0_0 0 4096).bind fun t2 => (if t2 = true then (if (l0_1.length : Int) = (wrap64 (Int.tdiv (wrap64 (a0_0 + 15)) 16)) then ((Fu.f k l0_1 0 65535).bind fun t3 => (if t3 = true then (if (Int.tmod a0_0 16) = 0 then (some true) else (if 0 ≤ (wrap64 ((l0_1.length : Int) - 1)) then (if (wrap64 ((l0_1.length : Int) - 1)) < (l0_1.length : Int) then (if 0 ≤ (Int.tmod a0_0 16) then (some ((shr .i64 (rd l0_1 (wrap64 ((l0_1.length : Int) - 1))) (Int.tmod a0_0 16)) == 0)) else (none)) else (none)) else (none))) else (some false))) else (some false)) else (some false))
theorem FO.mono : ∀ a0 a1 k, LeO (FO.f k a0 a1) (FO.f (k + 1) a0 a1) := by
 intro a0 a1 k
 unfold FO.f
 repeat' first
   | with_reducible first | exact Fu.mono .. | exact LeO.refl _ | exact LeO.none _ | refine LeO.ite ?_ ?_ | refine LeO.bind ?_ (fun _ => ?_)
   | exact Fu.mono .. | exact LeO.none _ | refine LeO.ite ?_ ?_ | refine LeO.bind ?_ (fun _ => ?_)
theorem FO.calls (k : Nat) (a0_0 : Int) (A0_1 : Option Addr) (c0_1 : Nat) (l0_1 : List Int) (r : Bool) (w : World) (hr0_1 : Kd.C (Kd.int .i64) w A0_1 l0_1.length l0_1) (hc0_1 : l0_1.length ≤ c0_1) (h : FO.f k a0_0 l0_1 = some r) :
  Calls Try.prog 62 #[.agg #[.int .i64 a0_0, .slice A0_1 l0_1.length c0_1]] w fun e w' => e = .returned (.bool r) ∧ Below w.heap.size w w' := by
 have hu26 := Try.underlying26
 have HR0_1 := am hr0_1
 have HC0_1 := am hc0_1
 clear hr0_1 hc0_1
 have HB := am (Below.refl w.heap.size w)
 have H : ((Fp.f a0_0 0 4096).bind fun t24 => (if t24 = true then (if (l0_1.length : Int) = (wrap64 (Int.tdiv (wrap64 (a0_0 + 15)) 16)) then ((Fu.f k l0_1 0 65535).bind fun t25 => (if t25 = true then (if (Int.tmod a0_0 16) = 0 then (some true) else (if 0 ≤ (wrap64 ((l0_1.length : Int) - 1)) then (if (wrap64 ((l0_1.length : Int) - 1)) < (l0_1.length : Int) then (if 0 ≤ (Int.tmod a0_0 16) then (some ((shr .i64 (rd l0_1 (wrap64 ((l0_1.length : Int) - 1))) (Int.tmod a0_0 16)) == 0)) else (none)) else (none)) else (none))) else (some false))) else (some false)) else (some false))) = some r := h
 clear h
 replace H := Option.bind_eq_some_iff.mp H
 obtain ⟨t24, A20, H⟩ := H
 try dsimp only at H
 have A2 := am A20
 clear A20
 by_cases c3 : t24 = true
 ·
  subst c3
  rw [if_pos rfl] at H
  by_cases c4 : (l0_1.length : Int) = (wrap64 (Int.tdiv (wrap64 (a0_0 + 15)) 16))
  ·
   rw [if_pos c4] at H
   have c4b0 : ((l0_1.length : Int) == (wrap64 (Int.tdiv (wrap64 (a0_0 + 15)) 16))) = true := beq_iff_eq.mpr c4
   have c4b1 : ((l0_1.length : Int) != (wrap64 (Int.tdiv (wrap64 (a0_0 + 15)) 16))) = false := bne_eq_false_iff_eq.mpr c4
   clear c4
   replace H := Option.bind_eq_some_iff.mp H
   obtain ⟨t25, A50, H⟩ := H
   try dsimp only at H
   have A5 := am A50
   clear A50
   by_cases c6 : t25 = true
   ·
    subst c6
    rw [if_pos rfl] at H
    by_cases c7 : (Int.tmod a0_0 16) = 0
    ·
     rw [if_pos c7] at H
     have c7b0 : ((Int.tmod a0_0 16) == 0) = true := beq_iff_eq.mpr c7
     have c7b1 : ((Int.tmod a0_0 16) != 0) = false := bne_eq_false_iff_eq.mpr c7
     clear c7
     obtain rfl := Option.some.inj H
     go_enter Try.func62, Try.ntmps62
     go_wp2_with (first | ((with_reducible refine gate_dst (N := 1) rfl ?_); (try (refine gate_guard Z63 ?_; dsimp only)); refine box_event ?hg (N := 1) ?hd (cs := #[.int .i64 a0_0, .slice A0_1 l0_1.length c0_1]) (t := 26) ?hr ?_; (case hd => rfl); (case hg => rfl); (case hr => exact Z111); intro gb27 hg w8 hbox hb; have BK27 := am (hbox); have GW27 := nG HB hg; have GE27 := nG HB hg; have GI27 := gI GE27; replace HB := am (below_step (uN HB) hb); clear hb hbox hg; obtain ⟨hcz9_0, hcz9_1, hfz9_0, hfz9_1⟩ := ce2 BK27) | (go_at_call 30; (with_reducible refine (Fp.calls a0_0 0 4096 true _ A2.out).mono ?_); rintro e w' ⟨rfl, ⟨nd, rfl⟩⟩; (try first | exact ⟨rfl, _, World.drewN_drewN _ _ _⟩ | exact ⟨rfl, _, Eq.trans (World.drewN_drewN _ _ _) (congrArg (World.drewN _) (Nat.add_assoc _ _ _))⟩)) | (go_at_call 85; (with_reducible refine (Fu.calls k _ _ l0_1 0 65535 true _ ?side1 ?side2 A5.out).mono ?_); (case side1 => exact Z128); (case side2 => exact HC0_1.out); rintro e w' ⟨rfl, ⟨nd, rfl⟩⟩; (try first | exact ⟨rfl, _, World.drewN_drewN _ _ _⟩ | exact ⟨rfl, _, Eq.trans (World.drewN_drewN _ _ _) (congrArg (World.drewN _) (Nat.add_assoc _ _ _))⟩)))
     repeat (go_quiet (first | ((with_reducible refine gate_dst (N := 1) rfl ?_); (try (refine gate_guard Z63 ?_; dsimp only)); refine box_event ?hg (N := 1) ?hd (cs := #[.int .i64 a0_0, .slice A0_1 l0_1.length c0_1]) (t := 26) ?hr ?_; (case hd => rfl); (case hg => rfl); (case hr => exact Z111); intro gb27 hg w8 hbox hb; have BK27 := am (hbox); have GW27 := nG HB hg; have GE27 := nG HB hg; have GI27 := gI GE27; replace HB := am (below_step (uN HB) hb); clear hb hbox hg; obtain ⟨hcz9_0, hcz9_1, hfz9_0, hfz9_1⟩ := ce2 BK27) | (go_at_call 30; (with_reducible refine (Fp.calls a0_0 0 4096 true _ A2.out).mono ?_); rintro e w' ⟨rfl, ⟨nd, rfl⟩⟩; (try first | exact ⟨rfl, _, World.drewN_drewN _ _ _⟩ | exact ⟨rfl, _, Eq.trans (World.drewN_drewN _ _ _) (congrArg (World.drewN _) (Nat.add_assoc _ _ _))⟩)) | (go_at_call 85; (with_reducible refine (Fu.calls k _ _ l0_1 0 65535 true _ ?side1 ?side2 A5.out).mono ?_); (case side1 => exact Z128); (case side2 => exact HC0_1.out); rintro e w' ⟨rfl, ⟨nd, rfl⟩⟩; (try first | exact ⟨rfl, _, World.drewN_drewN _ _ _⟩ | exact ⟨rfl, _, Eq.trans (World.drewN_drewN _ _ _) (congrArg (World.drewN _) (Nat.add_assoc _ _ _))⟩))); try go_wp2_with (first | ((with_reducible refine gate_dst (N := 1) rfl ?_); (try (refine gate_guard Z63 ?_; dsimp only)); refine box_event ?hg (N := 1) ?hd (cs := #[.int .i64 a0_0, .slice A0_1 l0_1.length c0_1]) (t := 26) ?hr ?_; (case hd => rfl); (case hg => rfl); (case hr => exact Z111); intro gb27 hg w8 hbox hb; have BK27 := am (hbox); have GW27 := nG HB hg; have GE27 := nG HB hg; have GI27 := gI GE27; replace HB := am (below_step (uN HB) hb); clear hb hbox hg; obtain ⟨hcz9_0, hcz9_1, hfz9_0, hfz9_1⟩ := ce2 BK27) | (go_at_call 30; (with_reducible refine (Fp.calls a0_0 0 4096 true _ A2.out).mono ?_); rintro e w' ⟨rfl, ⟨nd, rfl⟩⟩; (try first | exact ⟨rfl, _, World.drewN_drewN _ _ _⟩ | exact ⟨rfl, _, Eq.trans (World.drewN_drewN _ _ _) (congrArg (World.drewN _) (Nat.add_assoc _ _ _))⟩)) | (go_at_call 85; (with_reducible refine (Fu.calls k _ _ l0_1 0 65535 true _ ?side1 ?side2 A5.out).mono ?_); (case side1 => exact Z128); (case side2 => exact HC0_1.out); rintro e w' ⟨rfl, ⟨nd, rfl⟩⟩; (try first | exact ⟨rfl, _, World.drewN_drewN _ _ _⟩ | exact ⟨rfl, _, Eq.trans (World.drewN_drewN _ _ _) (congrArg (World.drewN _) (Nat.add_assoc _ _ _))⟩))))
     go_ret
     exact ⟨Z109, Z29⟩
    rw [if_neg c7] at H
    have c7b0 : ((Int.tmod a0_0 16) == 0) = false := beq_eq_false_iff_ne.mpr c7
    have c7b1 : ((Int.tmod a0_0 16) != 0) = true := bne_iff_ne.mpr c7
    obtain ⟨ji10, hji10⟩ : ∃ j_ : Int, (wrap64 ((l0_1.length : Int) - 1)) = j_ := ⟨_, rfl⟩
    replace H : (if 0 ≤ (ji10) then (if (ji10) < (l0_1.length : Int) then (if 0 ≤ (Int.tmod a0_0 16) then (some ((shr .i64 (rd l0_1 (ji10)) (Int.tmod a0_0 16)) == 0)) else (none)) else (none)) else (none)) = some r := by first | (rw [hji10] at H; exact H) | (simp only [hji10] at H ⊢; exact H)
    (try rw [hji10] at A2)
    (try rw [hji10] at A5)
    have hji10w : (IntKind.i64.wrap ((l0_1.length : Int) - 1)) = ji10 := (i64_w _).trans hji10
    by_cases c11 : 0 ≤ (ji10)
    rotate_left
    ·
     rw [if_neg c11] at H
     exact absurd H Z43
    rw [if_pos c11] at H
    have c11b0 := decide_eq_true c11
    clear c11
    by_cases c12 : (ji10) < (l0_1.length : Int)
    rotate_left
    ·
     rw [if_neg c12] at H
     exact absurd H Z43
    rw [if_pos c12] at H
    have c12b0 := decide_eq_true c12
    clear c12
    obtain ⟨ji13, hji13⟩ : ∃ j_ : Int, (Int.tmod a0_0 16) = j_ := ⟨_, rfl⟩
    replace H : (if 0 ≤ (ji13) then (some ((shr .i64 (rd l0_1 (ji10)) (ji13)) == 0)) else (none)) = some r := by first | (rw [hji13] at H; exact H) | (simp only [hji13] at H ⊢; exact H)
    (try rw [hji13] at c7b0)
    (try rw [hji13] at c7b1)
    (try rw [hji13] at A2)
    (try rw [hji13] at A5)
    by_cases c14 : 0 ≤ (ji13)
    rotate_left
    ·
     rw [if_neg c14] at H
     exact absurd H Z43
    rw [if_pos c14] at H
    have c14b0 := eq_true c14
    have c14b1 := decide_eq_true c14
    clear c14
    obtain ⟨ji15, hji15⟩ : ∃ j_ : Int, (shr .i64 (rd l0_1 (ji10)) (ji13)) = j_ := ⟨_, rfl⟩
    replace H : (some ((ji15) == 0)) = some r := by first | (rw [hji15] at H; exact H) | (simp only [hji15] at H ⊢; exact H)
    (try rw [hji15] at A2)
    (try rw [hji15] at A5)
    have hji15_ : ((rd l0_1 (ji10)) / 2 ^ min (ji13).toNat 64) = ji15 := hji15
    have hji15z : (ji13) ≤ 64 → ((rd l0_1 (ji10)) / 2 ^ (ji13).toNat) = ji15 := shr_small hji15
    obtain rfl := Option.some.inj H
    go_enter Try.func62, Try.ntmps62
    go_wp2_with (first | ((with_reducible refine gate_dst (N := 1) rfl ?_); (try (refine gate_guard Z63 ?_; dsimp only)); refine box_event ?hg (N := 1) ?hd (cs := #[.int .i64 a0_0, .slice A0_1 l0_1.length c0_1]) (t := 26) ?hr ?_; (case hd => rfl); (case hg => rfl); (case hr => exact Z111); intro gb27 hg w16 hbox hb; have BK27 := am (hbox); have GW27 := nG HB hg; have GE27 := nG HB hg; have GI27 := gI GE27; replace HB := am (below_step (uN HB) hb); clear hb hbox hg; obtain ⟨hcz17_0, hcz17_1, hfz17_0, hfz17_1⟩ := ce2 BK27) | (go_at_call 30; (with_reducible refine (Fp.calls a0_0 0 4096 true _ A2.out).mono ?_); rintro e w' ⟨rfl, ⟨nd, rfl⟩⟩; (try first | exact ⟨rfl, _, World.drewN_drewN _ _ _⟩ | exact ⟨rfl, _, Eq.trans (World.drewN_drewN _ _ _) (congrArg (World.drewN _) (Nat.add_assoc _ _ _))⟩)) | (go_at_call 85; (with_reducible refine (Fu.calls k _ _ l0_1 0 65535 true _ ?side1 ?side2 A5.out).mono ?_); (case side1 => exact Z128); (case side2 => exact HC0_1.out); rintro e w' ⟨rfl, ⟨nd, rfl⟩⟩; (try first | exact ⟨rfl, _, World.drewN_drewN _ _ _⟩ | exact ⟨rfl, _, Eq.trans (World.drewN_drewN _ _ _) (congrArg (World.drewN _) (Nat.add_assoc _ _ _))⟩); have p28 : 0 ≤ ((ji10) : Int) := of_decide_eq_true Z6; have q28 : (ji10) < (l0_1.length : Int) := of_decide_eq_true Z6; obtain ⟨ad28, e28, hx28_0⟩ := Kd.at_int HR0_1.out (ji10) p28 q28; cases e28; replace hx28_0 := (HB.out.cell (World.block_lt_of_cell? w _ hx28_0)).trans hx28_0; replace p28 := eq_true p28; replace q28 := eq_true q28))
    repeat (go_quiet (first | ((with_reducible refine gate_dst (N := 1) rfl ?_); (try (refine gate_guard Z63 ?_; dsimp only)); refine box_event ?hg (N := 1) ?hd (cs := #[.int .i64 a0_0, .slice A0_1 l0_1.length c0_1]) (t := 26) ?hr ?_; (case hd => rfl); (case hg => rfl); (case hr => exact Z111); intro gb27 hg w16 hbox hb; have BK27 := am (hbox); have GW27 := nG HB hg; have GE27 := nG HB hg; have GI27 := gI GE27; replace HB := am (below_step (uN HB) hb); clear hb hbox hg; obtain ⟨hcz17_0, hcz17_1, hfz17_0, hfz17_1⟩ := ce2 BK27) | (go_at_call 30; (with_reducible refine (Fp.calls a0_0 0 4096 true _ A2.out).mono ?_); rintro e w' ⟨rfl, ⟨nd, rfl⟩⟩; (try first | exact ⟨rfl, _, World.drewN_drewN _ _ _⟩ | exact ⟨rfl, _, Eq.trans (World.drewN_drewN _ _ _) (congrArg (World.drewN _) (Nat.add_assoc _ _ _))⟩)) | (go_at_call 85; (with_reducible refine (Fu.calls k _ _ l0_1 0 65535 true _ ?side1 ?side2 A5.out).mono ?_); (case side1 => exact Z128); (case side2 => exact HC0_1.out); rintro e w' ⟨rfl, ⟨nd, rfl⟩⟩; (try first | exact ⟨rfl, _, World.drewN_drewN _ _ _⟩ | exact ⟨rfl, _, Eq.trans (World.drewN_drewN _ _ _) (congrArg (World.drewN _) (Nat.add_assoc _ _ _))⟩); have p28 : 0 ≤ ((ji10) : Int) := of_decide_eq_true Z6; have q28 : (ji10) < (l0_1.length : Int) := of_decide_eq_true Z6; obtain ⟨ad28, e28, hx28_0⟩ := Kd.at_int HR0_1.out (ji10) p28 q28; cases e28; replace hx28_0 := (HB.out.cell (World.block_lt_of_cell? w _ hx28_0)).trans hx28_0; replace p28 := eq_true p28; replace q28 := eq_true q28)); try go_wp2_with (first | ((with_reducible refine gate_dst (N := 1) rfl ?_); (try (refine gate_guard Z63 ?_; dsimp only)); refine box_event ?hg (N := 1) ?hd (cs := #[.int .i64 a0_0, .slice A0_1 l0_1.length c0_1]) (t := 26) ?hr ?_; (case hd => rfl); (case hg => rfl); (case hr => exact Z111); intro gb27 hg w16 hbox hb; have BK27 := am (hbox); have GW27 := nG HB hg; have GE27 := nG HB hg; have GI27 := gI GE27; replace HB := am (below_step (uN HB) hb); clear hb hbox hg; obtain ⟨hcz17_0, hcz17_1, hfz17_0, hfz17_1⟩ := ce2 BK27) | (go_at_call 30; (with_reducible refine (Fp.calls a0_0 0 4096 true _ A2.out).mono ?_); rintro e w' ⟨rfl, ⟨nd, rfl⟩⟩; (try first | exact ⟨rfl, _, World.drewN_drewN _ _ _⟩ | exact ⟨rfl, _, Eq.trans (World.drewN_drewN _ _ _) (congrArg (World.drewN _) (Nat.add_assoc _ _ _))⟩)) | (go_at_call 85; (with_reducible refine (Fu.calls k _ _ l0_1 0 65535 true _ ?side1 ?side2 A5.out).mono ?_); (case side1 => exact Z128); (case side2 => exact HC0_1.out); rintro e w' ⟨rfl, ⟨nd, rfl⟩⟩; (try first | exact ⟨rfl, _, World.drewN_drewN _ _ _⟩ | exact ⟨rfl, _, Eq.trans (World.drewN_drewN _ _ _) (congrArg (World.drewN _) (Nat.add_assoc _ _ _))⟩); have p28 : 0 ≤ ((ji10) : Int) := of_decide_eq_true Z6; have q28 : (ji10) < (l0_1.length : Int) := of_decide_eq_true Z6; obtain ⟨ad28, e28, hx28_0⟩ := Kd.at_int HR0_1.out (ji10) p28 q28; cases e28; replace hx28_0 := (HB.out.cell (World.block_lt_of_cell? w _ hx28_0)).trans hx28_0; replace p28 := eq_true p28; replace q28 := eq_true q28)))
    go_ret
    exact ⟨by first | rfl | (simp [errW_none, errW_some] <;> rfl) | (simp only [← hji10, ← hji13, ← hji15]; first | rfl | (simp [errW_none, errW_some] <;> rfl)) | (simp [*, errW_none, errW_some] <;> rfl), Z29⟩
   replace c6 := Bool.eq_false_iff.mpr c6
   subst c6
   rw [if_neg (show ¬ (false = true) from Z16)] at H
   obtain rfl := Option.some.inj H
   go_enter Try.func62, Try.ntmps62
   go_wp2_with (first | ((with_reducible refine gate_dst (N := 1) rfl ?_); (try (refine gate_guard Z63 ?_; dsimp only)); refine box_event ?hg (N := 1) ?hd (cs := #[.int .i64 a0_0, .slice A0_1 l0_1.length c0_1]) (t := 26) ?hr ?_; (case hd => rfl); (case hg => rfl); (case hr => exact Z111); intro gb27 hg w18 hbox hb; have BK27 := am (hbox); have GW27 := nG HB hg; have GE27 := nG HB hg; have GI27 := gI GE27; replace HB := am (below_step (uN HB) hb); clear hb hbox hg; obtain ⟨hcz19_0, hcz19_1, hfz19_0, hfz19_1⟩ := ce2 BK27) | (go_at_call 30; (with_reducible refine (Fp.calls a0_0 0 4096 true _ A2.out).mono ?_); rintro e w' ⟨rfl, ⟨nd, rfl⟩⟩; (try first | exact ⟨rfl, _, World.drewN_drewN _ _ _⟩ | exact ⟨rfl, _, Eq.trans (World.drewN_drewN _ _ _) (congrArg (World.drewN _) (Nat.add_assoc _ _ _))⟩)) | (go_at_call 85; (with_reducible refine (Fu.calls k _ _ l0_1 0 65535 false _ ?side1 ?side2 A5.out).mono ?_); (case side1 => exact Z128); (case side2 => exact HC0_1.out); rintro e w' ⟨rfl, ⟨nd, rfl⟩⟩; (try first | exact ⟨rfl, _, World.drewN_drewN _ _ _⟩ | exact ⟨rfl, _, Eq.trans (World.drewN_drewN _ _ _) (congrArg (World.drewN _) (Nat.add_assoc _ _ _))⟩)))
   repeat (go_quiet (first | ((with_reducible refine gate_dst (N := 1) rfl ?_); (try (refine gate_guard Z63 ?_; dsimp only)); refine box_event ?hg (N := 1) ?hd (cs := #[.int .i64 a0_0, .slice A0_1 l0_1.length c0_1]) (t := 26) ?hr ?_; (case hd => rfl); (case hg => rfl); (case hr => exact Z111); intro gb27 hg w18 hbox hb; have BK27 := am (hbox); have GW27 := nG HB hg; have GE27 := nG HB hg; have GI27 := gI GE27; replace HB := am (below_step (uN HB) hb); clear hb hbox hg; obtain ⟨hcz19_0, hcz19_1, hfz19_0, hfz19_1⟩ := ce2 BK27) | (go_at_call 30; (with_reducible refine (Fp.calls a0_0 0 4096 true _ A2.out).mono ?_); rintro e w' ⟨rfl, ⟨nd, rfl⟩⟩; (try first | exact ⟨rfl, _, World.drewN_drewN _ _ _⟩ | exact ⟨rfl, _, Eq.trans (World.drewN_drewN _ _ _) (congrArg (World.drewN _) (Nat.add_assoc _ _ _))⟩)) | (go_at_call 85; (with_reducible refine (Fu.calls k _ _ l0_1 0 65535 false _ ?side1 ?side2 A5.out).mono ?_); (case side1 => exact Z128); (case side2 => exact HC0_1.out); rintro e w' ⟨rfl, ⟨nd, rfl⟩⟩; (try first | exact ⟨rfl, _, World.drewN_drewN _ _ _⟩ | exact ⟨rfl, _, Eq.trans (World.drewN_drewN _ _ _) (congrArg (World.drewN _) (Nat.add_assoc _ _ _))⟩))); try go_wp2_with (first | ((with_reducible refine gate_dst (N := 1) rfl ?_); (try (refine gate_guard Z63 ?_; dsimp only)); refine box_event ?hg (N := 1) ?hd (cs := #[.int .i64 a0_0, .slice A0_1 l0_1.length c0_1]) (t := 26) ?hr ?_; (case hd => rfl); (case hg => rfl); (case hr => exact Z111); intro gb27 hg w18 hbox hb; have BK27 := am (hbox); have GW27 := nG HB hg; have GE27 := nG HB hg; have GI27 := gI GE27; replace HB := am (below_step (uN HB) hb); clear hb hbox hg; obtain ⟨hcz19_0, hcz19_1, hfz19_0, hfz19_1⟩ := ce2 BK27) | (go_at_call 30; (with_reducible refine (Fp.calls a0_0 0 4096 true _ A2.out).mono ?_); rintro e w' ⟨rfl, ⟨nd, rfl⟩⟩; (try first | exact ⟨rfl, _, World.drewN_drewN _ _ _⟩ | exact ⟨rfl, _, Eq.trans (World.drewN_drewN _ _ _) (congrArg (World.drewN _) (Nat.add_assoc _ _ _))⟩)) | (go_at_call 85; (with_reducible refine (Fu.calls k _ _ l0_1 0 65535 false _ ?side1 ?side2 A5.out).mono ?_); (case side1 => exact Z128); (case side2 => exact HC0_1.out); rintro e w' ⟨rfl, ⟨nd, rfl⟩⟩; (try first | exact ⟨rfl, _, World.drewN_drewN _ _ _⟩ | exact ⟨rfl, _, Eq.trans (World.drewN_drewN _ _ _) (congrArg (World.drewN _) (Nat.add_assoc _ _ _))⟩))))
   go_ret
   exact ⟨Z109, Z29⟩
  rw [if_neg c4] at H
  have c4b0 : ((l0_1.length : Int) == (wrap64 (Int.tdiv (wrap64 (a0_0 + 15)) 16))) = false := beq_eq_false_iff_ne.mpr c4
  have c4b1 : ((l0_1.length : Int) != (wrap64 (Int.tdiv (wrap64 (a0_0 + 15)) 16))) = true := bne_iff_ne.mpr c4
  obtain rfl := Option.some.inj H
  go_enter Try.func62, Try.ntmps62
  go_wp2_with (first | ((with_reducible refine gate_dst (N := 1) rfl ?_); (try (refine gate_guard Z63 ?_; dsimp only)); refine box_event ?hg (N := 1) ?hd (cs := #[.int .i64 a0_0, .slice A0_1 l0_1.length c0_1]) (t := 26) ?hr ?_; (case hd => rfl); (case hg => rfl); (case hr => exact Z111); intro gb27 hg w20 hbox hb; have BK27 := am (hbox); have GW27 := nG HB hg; have GE27 := nG HB hg; have GI27 := gI GE27; replace HB := am (below_step (uN HB) hb); clear hb hbox hg; obtain ⟨hcz21_0, hcz21_1, hfz21_0, hfz21_1⟩ := ce2 BK27) | (go_at_call 30; (with_reducible refine (Fp.calls a0_0 0 4096 true _ A2.out).mono ?_); rintro e w' ⟨rfl, ⟨nd, rfl⟩⟩; (try first | exact ⟨rfl, _, World.drewN_drewN _ _ _⟩ | exact ⟨rfl, _, Eq.trans (World.drewN_drewN _ _ _) (congrArg (World.drewN _) (Nat.add_assoc _ _ _))⟩)))
  repeat (go_quiet (first | ((with_reducible refine gate_dst (N := 1) rfl ?_); (try (refine gate_guard Z63 ?_; dsimp only)); refine box_event ?hg (N := 1) ?hd (cs := #[.int .i64 a0_0, .slice A0_1 l0_1.length c0_1]) (t := 26) ?hr ?_; (case hd => rfl); (case hg => rfl); (case hr => exact Z111); intro gb27 hg w20 hbox hb; have BK27 := am (hbox); have GW27 := nG HB hg; have GE27 := nG HB hg; have GI27 := gI GE27; replace HB := am (below_step (uN HB) hb); clear hb hbox hg; obtain ⟨hcz21_0, hcz21_1, hfz21_0, hfz21_1⟩ := ce2 BK27) | (go_at_call 30; (with_reducible refine (Fp.calls a0_0 0 4096 true _ A2.out).mono ?_); rintro e w' ⟨rfl, ⟨nd, rfl⟩⟩; (try first | exact ⟨rfl, _, World.drewN_drewN _ _ _⟩ | exact ⟨rfl, _, Eq.trans (World.drewN_drewN _ _ _) (congrArg (World.drewN _) (Nat.add_assoc _ _ _))⟩))); try go_wp2_with (first | ((with_reducible refine gate_dst (N := 1) rfl ?_); (try (refine gate_guard Z63 ?_; dsimp only)); refine box_event ?hg (N := 1) ?hd (cs := #[.int .i64 a0_0, .slice A0_1 l0_1.length c0_1]) (t := 26) ?hr ?_; (case hd => rfl); (case hg => rfl); (case hr => exact Z111); intro gb27 hg w20 hbox hb; have BK27 := am (hbox); have GW27 := nG HB hg; have GE27 := nG HB hg; have GI27 := gI GE27; replace HB := am (below_step (uN HB) hb); clear hb hbox hg; obtain ⟨hcz21_0, hcz21_1, hfz21_0, hfz21_1⟩ := ce2 BK27) | (go_at_call 30; (with_reducible refine (Fp.calls a0_0 0 4096 true _ A2.out).mono ?_); rintro e w' ⟨rfl, ⟨nd, rfl⟩⟩; (try first | exact ⟨rfl, _, World.drewN_drewN _ _ _⟩ | exact ⟨rfl, _, Eq.trans (World.drewN_drewN _ _ _) (congrArg (World.drewN _) (Nat.add_assoc _ _ _))⟩))))
  go_ret
  exact ⟨Z109, Z29⟩
 replace c3 := Bool.eq_false_iff.mpr c3
 subst c3
 rw [if_neg (show ¬ (false = true) from Z16)] at H
 obtain rfl := Option.some.inj H
 go_enter Try.func62, Try.ntmps62
 go_wp2_with (first | ((with_reducible refine gate_dst (N := 1) rfl ?_); (try (refine gate_guard Z63 ?_; dsimp only)); refine box_event ?hg (N := 1) ?hd (cs := #[.int .i64 a0_0, .slice A0_1 l0_1.length c0_1]) (t := 26) ?hr ?_; (case hd => rfl); (case hg => rfl); (case hr => exact Z111); intro gb27 hg w22 hbox hb; have BK27 := am (hbox); have GW27 := nG HB hg; have GE27 := nG HB hg; have GI27 := gI GE27; replace HB := am (below_step (uN HB) hb); clear hb hbox hg; obtain ⟨hcz23_0, hcz23_1, hfz23_0, hfz23_1⟩ := ce2 BK27) | (go_at_call 30; (with_reducible refine (Fp.calls a0_0 0 4096 false _ A2.out).mono ?_); rintro e w' ⟨rfl, ⟨nd, rfl⟩⟩; (try first | exact ⟨rfl, _, World.drewN_drewN _ _ _⟩ | exact ⟨rfl, _, Eq.trans (World.drewN_drewN _ _ _) (congrArg (World.drewN _) (Nat.add_assoc _ _ _))⟩)))
 repeat (go_quiet (first | ((with_reducible refine gate_dst (N := 1) rfl ?_); (try (refine gate_guard Z63 ?_; dsimp only)); refine box_event ?hg (N := 1) ?hd (cs := #[.int .i64 a0_0, .slice A0_1 l0_1.length c0_1]) (t := 26) ?hr ?_; (case hd => rfl); (case hg => rfl); (case hr => exact Z111); intro gb27 hg w22 hbox hb; have BK27 := am (hbox); have GW27 := nG HB hg; have GE27 := nG HB hg; have GI27 := gI GE27; replace HB := am (below_step (uN HB) hb); clear hb hbox hg; obtain ⟨hcz23_0, hcz23_1, hfz23_0, hfz23_1⟩ := ce2 BK27) | (go_at_call 30; (with_reducible refine (Fp.calls a0_0 0 4096 false _ A2.out).mono ?_); rintro e w' ⟨rfl, ⟨nd, rfl⟩⟩; (try first | exact ⟨rfl, _, World.drewN_drewN _ _ _⟩ | exact ⟨rfl, _, Eq.trans (World.drewN_drewN _ _ _) (congrArg (World.drewN _) (Nat.add_assoc _ _ _))⟩))); try go_wp2_with (first | ((with_reducible refine gate_dst (N := 1) rfl ?_); (try (refine gate_guard Z63 ?_; dsimp only)); refine box_event ?hg (N := 1) ?hd (cs := #[.int .i64 a0_0, .slice A0_1 l0_1.length c0_1]) (t := 26) ?hr ?_; (case hd => rfl); (case hg => rfl); (case hr => exact Z111); intro gb27 hg w22 hbox hb; have BK27 := am (hbox); have GW27 := nG HB hg; have GE27 := nG HB hg; have GI27 := gI GE27; replace HB := am (below_step (uN HB) hb); clear hb hbox hg; obtain ⟨hcz23_0, hcz23_1, hfz23_0, hfz23_1⟩ := ce2 BK27) | (go_at_call 30; (with_reducible refine (Fp.calls a0_0 0 4096 false _ A2.out).mono ?_); rintro e w' ⟨rfl, ⟨nd, rfl⟩⟩; (try first | exact ⟨rfl, _, World.drewN_drewN _ _ _⟩ | exact ⟨rfl, _, Eq.trans (World.drewN_drewN _ _ _) (congrArg (World.drewN _) (Nat.add_assoc _ _ _))⟩))))
 go_ret
 exact ⟨Z109, Z29⟩

end Go.Proofs.Ytllaofiopnhdgaa.PFnSparseParts
