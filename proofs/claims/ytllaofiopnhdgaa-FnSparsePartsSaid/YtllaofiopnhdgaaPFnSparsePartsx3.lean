-- made by wip/tools/myprint.py over the kit's print, for this claim
import Derived.Test.YtllaofiopnhdgaaPFnSparsePartsx0
import Derived.Test.YtllaofiopnhdgaaPFnSparsePartsx1
import Derived.Test.YtllaofiopnhdgaaPFnSparsePartsx2
namespace Go.Proofs.Ytllaofiopnhdgaa.PFnSparseParts
open Go.RowKit Go.Proofs.YtllaofiopnhdgaaW.PrintWords Go.Proofs.YtllaofiopnhdgaaW.PrintLast Go.Proofs.YtllaofiopnhdgaaW.PrintMore
open List (setIfInBounds_toArray set_cons_zero set_cons_succ)
attribute [local go_sem] max2_int min2_int max_two min_two max_three min_three max_four min_four   -- for this text's walks alone
set_option linter.unusedVariables false
set_option linter.unusedSimpArgs false

set_option maxHeartbeats 8000000
set_option maxRecDepth 100000
/-! ### Fi: function 28 -/
def Fi.l0 : Nat → List Int → Int → Int → List Int → List Int → Int → Int → Int → List Int → Option (Int × Int × Int × Int × List Int × Int × List Int)
 | 0, _, _, _, _, _, _, _, _, _ => none
 | k + 1, x0, x1, x5, x7, x28, x29, x30, x2, x3 => if x30 < x29 then (if 0 ≤ x30 then (if x30 < (x28.length : Int) then (if 0 ≤ x5 then (if x7.length < 17592186044416 then ((Fy.f x2 x3 (wrap64 ((shr .i64 (rd x28 x30) x5) + x30)) true).bind fun t4 => (Fi.l0 k x0 x1 x5 (x7 ++ [Go.bits .and .i64 (rd x28 x30) (wrap64 ((shl .i64 1 x5) - 1))]) x28 x29 (wrap64 (x30 + 1)) x2 t4)) else (none)) else (none)) else (none)) else (none)) else ((FD.f k x7 x5).bind fun bt6 => (some ((x0.length : Int), x1, x5, bt6.1, bt6.2, x2, x3)))
def Fi.f (k : Nat) (l0 : List Int) (a1 : Int) : Option (Int × Int × Int × Int × List Int × Int × List Int) := (Fj.f k (l0.length : Int) a1).bind fun bt2 => (if 0 ≤ bt2.1 then ((Fea.f (wrap64 ((wrap64 ((l0.length : Int) + (shr .i64 (wrap64 (a1 - 1)) bt2.1))) + 1))).bind fun bt3 => (Fi.l0 k l0 a1 bt2.1 (([] : List Int)) l0 (l0.length : Int) 0 bt3.1 bt3.2)) else (none))
theorem Fi.mono_l : ∀ k, (∀ y0 y1 y2 y3 y4 y5 y6 y7 y8, LeO (Fi.l0 k y0 y1 y2 y3 y4 y5 y6 y7 y8) (Fi.l0 (k + 1) y0 y1 y2 y3 y4 y5 y6 y7 y8))
 | 0 => fun _ _ _ _ _ _ _ _ _ r h => by simp [Fi.l0] at h | k + 1 => by
  have ih0 := Fi.mono_l k
  ·
   intro y0 y1 y2 y3 y4 y5 y6 y7 y8
   unfold Fi.l0
   exact Mo4
theorem Fi.mono : ∀ a0 a1 k, LeO (Fi.f k a0 a1) (Fi.f (k + 1) a0 a1) := by
 intro a0 a1 k
 have ih0 := Fi.mono_l k
 unfold Fi.f
 exact Mo4
def Fi.T9 : Bool × List (List Nat × List Nat) := (true, [([], []), ([0], [0]), ([], []), ([], []), ([], []), ([], []), ([4, 5], [4, 5]), ([], []), ([1, 2, 3, 6, 7], [1, 2, 3, 6, 7]), ([8, 6, 0, 1, 2, 3, 4, 5, 6, 7, 8], [8])])
def Fi.B9 : List Nat := [0, 1, 0, 0, 0, 0, 48, 0, 255, 511]
theorem Fi.tab9 : rtab .any (opsOf Try.f28 9) = Fi.T9 := by kernel_rfl
theorem Fi.bits9 : waitsOk Fi.T9.2 Fi.B9 = true := by kernel_rfl
theorem Fi.calls (k : Nat) (A0 : Option Addr) (c0 : Nat) (l0 : List Int) (a1 : Int) (r1 : Int) (r2 : Int) (r3 : Int) (r4 : Int) (r5 : List Int) (r6 : Int) (r7 : List Int) (w : World) (hr0 : Kd.C (Kd.int .i64) w A0 l0.length l0) (hc0 : l0.length ≤ c0) (h : Fi.f k l0 a1 = some (r1, r2, r3, r4, r5, r6, r7)) :
  Calls Try.prog 28 #[.slice A0 l0.length c0, .int .i64 a1] w fun e w' => ∃ v4_ v6_ : Value, e = .returned (.agg #[.int .i64 r1, .int .i64 r2, .int .i64 r3, .int .i64 r4, v4_, .int .i64 r6, v6_]) ∧ Kd.R (Kd.int .i64) 3 w' w.heap.size (fun k_ => some k_ ≠ (v6_ : Value).ownBlock) v4_ r5 ∧ Kd.R (Kd.int .i64) 3 w' w.heap.size (fun k_ => some k_ ≠ (v4_ : Value).ownBlock) v6_ r7 ∧ Below w.heap.size w w' := by
 have hu28 := Try.underlying28
 have hu26 := Try.underlying26
 have HR0 := am hr0
 have HC0 := am hc0
 clear hr0 hc0
 have HB := am (Below.refl w.heap.size w)
 have H : ((Fj.f k (l0.length : Int) a1).bind fun bt41 => (if 0 ≤ bt41.1 then ((Fea.f (wrap64 ((wrap64 ((l0.length : Int) + (shr .i64 (wrap64 (a1 - 1)) bt41.1))) + 1))).bind fun bt42 => (Fi.l0 k l0 a1 bt41.1 (([] : List Int)) l0 (l0.length : Int) 0 bt42.1 bt42.2)) else (none))) = some (r1, r2, r3, r4, r5, r6, r7) := h
 clear h
 replace H := Option.bind_eq_some_iff.mp H
 obtain ⟨⟨t41, t43⟩, A30, H⟩ := H
 try dsimp only at H
 have A3 := am A30
 clear A30
 obtain ⟨y44, hy44⟩ : ∃ y_ : List Int, y_ = (([] : List Int)) := ⟨_, rfl⟩
 replace H : (if 0 ≤ t41 then ((Fea.f (wrap64 ((wrap64 ((l0.length : Int) + (shr .i64 (wrap64 (a1 - 1)) t41))) + 1))).bind fun bt42 => (Fi.l0 k l0 a1 t41 y44 l0 (l0.length : Int) 0 bt42.1 bt42.2)) else (none)) = some (r1, r2, r3, r4, r5, r6, r7) := by first | (rw [hy44]; with_reducible exact H) | (have H2_ := (Option.bind_some _ _).symm.trans H; rw [hy44]; with_reducible exact H2_) | (have H2_ := (Option.bind_some _ _).symm.trans H; with_reducible exact H2_) | with_reducible exact H | (rw [hy44]; exact H) | exact H
 have Ny44 := am hy44
 clear hy44
 by_cases c4 : 0 ≤ t41
 rotate_left
 ·
  rw [if_neg c4] at H
  exact absurd H Z43
 rw [if_pos c4] at H
 have c4b0 := eq_true c4
 have c4b1 := decide_eq_true c4
 clear c4
 obtain ⟨ji5, hji5⟩ : ∃ j_ : Int, (shr .i64 (wrap64 (a1 - 1)) t41) = j_ := ⟨_, rfl⟩
 replace H : ((Fea.f (wrap64 ((wrap64 ((l0.length : Int) + (ji5))) + 1))).bind fun bt42 => (Fi.l0 k l0 a1 t41 y44 l0 (l0.length : Int) 0 bt42.1 bt42.2)) = some (r1, r2, r3, r4, r5, r6, r7) := by first | (rw [hji5] at H; exact H) | (simp only [hji5] at H ⊢; exact H)
 (try rw [hji5] at A3)
 have hji5_ : ((wrap64 (a1 - 1)) / 2 ^ min t41.toNat 64) = ji5 := hji5
 have hji5z : t41 ≤ 64 → ((wrap64 (a1 - 1)) / 2 ^ t41.toNat) = ji5 := shr_small hji5
 replace H := Option.bind_eq_some_iff.mp H
 obtain ⟨⟨t42, t45⟩, A60, H⟩ := H
 try dsimp only at H
 have A6 := am A60
 clear A60
 have H' := am H
 clear H
 go_enter Try.func28, Try.ntmps28
 go_wp2_with (first | ((with_reducible refine gate_dst (N := 4) rfl ?_); refine box_event ?hg (N := 4) ?hd (cs := #[.int .i64 0, .int .i64 0, .int .i64 0, .int .i64 0, .slice none 0 0, .int .i64 0, .slice none 0 0]) (t := 28) ?hr ?_; (case hd => rfl); (case hg => rfl); (case hr => exact Z111); intro gb46 hg w7 hbox hb; have BK46 := am (hbox); have GW46 := nG HB hg; have GE46 := nG HB hg; have GI46 := gI GE46; replace HB := am (below_step (uN HB) hb); clear hb hbox hg) | ((with_reducible refine gate_callee (f := 49) rfl ?_); refine gL 15 rfl Try.func49 #[.int .i64 (l0.length : Int), .int .i64 a1] ?_; (with_reducible refine (Fj.calls k (l0.length : Int) a1 t41 t43 _ A3.out).mono ?_); rintro e w8 ⟨rfl, hb⟩; refine ⟨_, rfl, ?_⟩; replace BK46 := kB BK46 hb; replace HB := am (below_step Z47 hb); (try clear hb); (try clear hb2); (try clear hk); (try clear hi)) | ((with_reducible refine gate_dst (N := 18) rfl ?_); refine Kd.R_lit (Kd.int .i64) _ 3 ?hg (N := 18) ?hd (xs := ([] : List Int)) (inner := []) (ok := fun _ => True) (okp := fun _ => True) ?hr ?hp (fun _ hk => hk) trivial (Below.refl _ _) (Nat.le_refl _) Z43 ?_; (case hd => rfl); (case hg => rfl); (case hr => exact Z111); (case hp => exact (Reps.none _ _)); intro v47 w9 ho10 hb hg_ hnew_; clear hg_ hnew_; (first | rw [← Ny44.out] at ho10 | (simp only [Int.reduceToNat] at ho10; rw [← Ny44.out] at ho10)); have HO48 := am (Kd.R_lower ho10 (below_size Z47)); replace BK46 := kB BK46 hb; replace HB := am (below_step Z47 hb); clear hb ho10) | ((with_reducible refine gate_callee (f := 57) rfl ?_); refine goesL_ (some 27) rfl rfl Try.func57 Z112 rfl #[.int .i64 (wrap64 ((wrap64 ((l0.length : Int) + (ji5))) + 1))] rfl (by (try simp only [List.map_toArray, List.map_cons, List.map_nil]); first | done | (simp only [hji5]; rfl) | rfl | (simp only [List.length_drop, List.length_take]; rfl)) ?_; (with_reducible refine (Fea.calls (wrap64 ((wrap64 ((l0.length : Int) + (ji5))) + 1)) t42 t45 _ A6.out).mono ?_); rintro e w11 ⟨v50, rfl, ho0, hb⟩; refine ⟨_, rfl, ?_⟩; have HO51 := am (Kd.R_lower (Kd.R_new' ho0 (Kd.R_lt (uR HO48))) (below_size Z47)); replace HO48 := am (Kd.R_elder' (uR HO48) (Kd.R_base ho0) hb); replace BK46 := kB BK46 hb; replace HB := am (below_step Z47 hb); (try clear hb); (try clear hb2); (try clear hk); (try clear hi); (try clear ho0)) | ((with_reducible refine gate_dst (N := 8) rfl ?_); refine box_event ?hg (N := 8) ?hd (cs := #[.int .i64 0, .slice none 0 0]) (t := 26) ?hr ?_; (case hd => rfl); (case hg => rfl); (case hr => exact Z111); intro gb52 hg w12 hbox hb; replace HO48 := rB HO48 hb; replace HO51 := rB HO51 hb; have BK52 := am (hbox); have GW52 := am ((by rw [hg]; exact (below_size Z47) : w.heap.size ≤ gb52)); have GE52 := am ((by rw [hg]; exact (below_size Z47) : w.heap.size ≤ gb52)); replace HB := am (below_step Z47 hb); have NB46_52 := nL BK46 hg; have NB52_46 := nR BK46 hg; replace BK46 := kB BK46 hb; clear hb hbox hg; have hnb13 := NB52_46.out; have hnc13 := NB46_52.out; obtain ⟨hcz14_0, hcz14_1, hfz14_0, hfz14_1⟩ := ce2 BK52; obtain ⟨Ao15, co15, eo15⟩ := Kd.R_slice HO51.out; subst eo15))
 go_loopg [7, 30] k (fun kq v7 v30 w' => ∃ (x7_1 : List Int) (x30_1 : Int) (x53_1 : List Int) (u53 : Value), v30 = .int .i64 x30_1 ∧ Aside0 (Fi.l0 kq l0 a1 t41 x7_1 l0 (l0.length : Int) x30_1 t42 x53_1 = some (r1, r2, r3, r4, r5, r6, r7)) ∧ Aside0 (kq ≤ k) ∧ Aside0 (Kd.R (Kd.int .i64) 3 w' w.heap.size (fun k_ => some k_ ≠ (u53 : Value).ownBlock) v7 x7_1) ∧ Aside0 (Kd.R (Kd.int .i64) 3 w' w.heap.size (fun k_ => some k_ ≠ (v7 : Value).ownBlock) u53 x53_1) ∧ Aside0 (w'.heap[gb46]? = some (.cells #[.int .i64 0, .int .i64 0, .int .i64 0, .int .i64 0, (.slice none 0 0), .int .i64 0, (.slice none 0 0)] 28 (0, 0))) ∧ Aside0 (w'.heap[gb52]? = some (.cells #[.int .i64 t42, u53] 26 (0, 0))) ∧ Aside0 (Below w.heap.size w w'))
 case atStart => exact ⟨(y44), (0), (t45), (.slice Ao15 t45.length co15), Z110, H', ⟨Nat.le_refl _⟩, ⟨by (with_reducible repeat (first | apply Kd.R_alloc | apply Kd.R_drewN | apply Kd.R_drew)); exact Kd.R_mono (fT HO48 BK52 Z16) (fun _ hk => hk.1.2)⟩, ⟨by (with_reducible repeat (first | apply Kd.R_alloc | apply Kd.R_drewN | apply Kd.R_drew)); exact Kd.R_mono (fT HO51 BK52 Z16) (fun _ hk => hk.1.2)⟩, ⟨pf NB46_52 (pf NB46_52 (pb BK46))⟩, ⟨pT (pp 1 (pp 0 (pb BK52)))⟩, ⟨Z38⟩⟩
 case round =>
  clear H'
  try clear c1
  try clear c2
  try clear p2
  try clear c4
  try clear c4b0
  try clear c4b1
  try clear c5
  try clear p6
  try clear c13
  try clear hcz14_0 hcz14_1
  try clear hfz14_0 hfz14_1
  try clear HO_7
  try clear HO_53
  obtain ⟨x7_1, x30_1, x53_1, u53, rfl, HA, HK1, HO_7, HO_53, BK46, BK52, HB⟩ := hrel
  cases gk with
  | zero => exact absurd HA.out (by simp [Fi.l0])
  | succ k1 =>
   have H := HA.out
   clear HA
   simp only [Fi.l0] at H
   by_cases c16 : x30_1 < (l0.length : Int)
   ·
    rw [if_pos c16] at H
    have c16b0 := decide_eq_true c16
    clear c16
    by_cases c17 : 0 ≤ x30_1
    rotate_left
    ·
     rw [if_neg c17] at H
     exact absurd H Z43
    rw [if_pos c17] at H
    have c17b0 := decide_eq_true c17
    clear c17
    by_cases c18 : x30_1 < (l0.length : Int)
    rotate_left
    ·
     rw [if_neg c18] at H
     exact absurd H Z43
    rw [if_pos c18] at H
    have c18b0 := decide_eq_true c18
    clear c18
    by_cases c19 : 0 ≤ t41
    rotate_left
    ·
     rw [if_neg c19] at H
     exact absurd H Z43
    rw [if_pos c19] at H
    have c19b0 := eq_true c19
    have c19b1 := decide_eq_true c19
    clear c19
    obtain ⟨ji20, hji20⟩ : ∃ j_ : Int, (shl .i64 1 t41) = j_ := ⟨_, rfl⟩
    replace H : (if x7_1.length < 17592186044416 then ((Fy.f t42 x53_1 (wrap64 ((shr .i64 (rd l0 x30_1) t41) + x30_1)) true).bind fun t54 => (Fi.l0 k1 l0 a1 t41 (x7_1 ++ [Go.bits .and .i64 (rd l0 x30_1) (wrap64 ((ji20) - 1))]) l0 (l0.length : Int) (wrap64 (x30_1 + 1)) t42 t54)) else (none)) = some (r1, r2, r3, r4, r5, r6, r7) := by first | (rw [hji20] at H; exact H) | (simp only [hji20] at H ⊢; exact H)
    have hji20_ : (IntKind.i64.wrap (1 * 2 ^ min t41.toNat 64)) = ji20 := hji20
    have hji20z : t41 ≤ 64 → (IntKind.i64.wrap (1 * 2 ^ t41.toNat)) = ji20 := shl_small hji20
    have hji20u : (IntKind.i64.wrap (2 ^ min t41.toNat 64)) = ji20 := by have h_ := hji20_; rw [Int.one_mul] at h_; exact h_
    have hji20v : t41 ≤ 64 → (IntKind.i64.wrap (2 ^ t41.toNat)) = ji20 := fun hle_ => by have h_ := hji20z hle_; rw [Int.one_mul] at h_; exact h_
    have hji20y : (wrap64 (1 * 2 ^ min t41.toNat 64)) = ji20 := (i64_w _).symm.trans hji20_
    have hji20x : t41 ≤ 64 → (wrap64 (1 * 2 ^ t41.toNat)) = ji20 := fun h_ => (i64_w _).symm.trans (hji20z h_)
    by_cases c21 : x7_1.length < 17592186044416
    rotate_left
    ·
     rw [if_neg c21] at H
     exact absurd H Z43
    rw [if_pos c21] at H
    have LMc21 := am c21
    clear c21
    obtain ⟨y55, hy55⟩ : ∃ y_ : List Int, y_ = (x7_1 ++ [Go.bits .and .i64 (rd l0 x30_1) (wrap64 ((ji20) - 1))]) := ⟨_, rfl⟩
    replace H : ((Fy.f t42 x53_1 (wrap64 ((shr .i64 (rd l0 x30_1) t41) + x30_1)) true).bind fun t54 => (Fi.l0 k1 l0 a1 t41 y55 l0 (l0.length : Int) (wrap64 (x30_1 + 1)) t42 t54)) = some (r1, r2, r3, r4, r5, r6, r7) := by first | (rw [hy55]; with_reducible exact H) | (have H2_ := (Option.bind_some _ _).symm.trans H; rw [hy55]; with_reducible exact H2_) | (have H2_ := (Option.bind_some _ _).symm.trans H; with_reducible exact H2_) | with_reducible exact H | (rw [hy55]; exact H) | exact H
    have Ny55 := am hy55
    clear hy55
    have c22b0 := eq_true (of_decide_eq_true Z6 : 0 ≤ t41)
    obtain ⟨ji23, hji23⟩ : ∃ j_ : Int, (shr .i64 (rd l0 x30_1) t41) = j_ := ⟨_, rfl⟩
    replace H : ((Fy.f t42 x53_1 (wrap64 ((ji23) + x30_1)) true).bind fun t54 => (Fi.l0 k1 l0 a1 t41 y55 l0 (l0.length : Int) (wrap64 (x30_1 + 1)) t42 t54)) = some (r1, r2, r3, r4, r5, r6, r7) := by first | (rw [hji23] at H; exact H) | (simp only [hji23] at H ⊢; exact H)
    have hji23_ : ((rd l0 x30_1) / 2 ^ min t41.toNat 64) = ji23 := hji23
    have hji23z : t41 ≤ 64 → ((rd l0 x30_1) / 2 ^ t41.toNat) = ji23 := shr_small hji23
    replace H := Option.bind_eq_some_iff.mp H
    obtain ⟨t54, A56, H⟩ := H
    try dsimp only at H
    have A24 := am A56
    clear A56
    have H' := am H
    clear H
    have p61 : 0 ≤ (x30_1 : Int) := of_decide_eq_true Z6
    have q61 : x30_1 < (l0.length : Int) := of_decide_eq_true Z6
    obtain ⟨ad61, e61, hx61_0⟩ := Kd.at_int HR0.out x30_1 p61 q61
    cases e61
    replace hx61_0 := (HB.out.cell (World.block_lt_of_cell? w _ hx61_0)).trans hx61_0
    replace p61 := eq_true p61
    replace q61 := eq_true q61
    go_wp2_with (first | ((with_reducible refine gate_builtin (b := .append) (xs := #[.tmp 35, .tmp 41]) rfl ?_); at_builtin; refine Kd.R_append (Kd.int .i64) (w0 := w) w.heap.size rfl (.tmp 35) (.tmp 41) 24 3 (.int .i64 0) 8 rfl Try.underlying24 info3 rfl Z16 Z70 u7 x7_1 (Go.bits .and .i64 (rd l0 x30_1) (wrap64 ((ji20) - 1))) [.int .i64 (Go.bits .and .i64 (rd l0 x30_1) (wrap64 ((ji20) - 1)))] (fun k_ => some k_ ≠ (u53 : Value).ownBlock) (fun _ => False) rfl rfl ?aP (fun _ hk => hk.elim) ?aF ?aO ?aB ?aS ?aL ?_; (case aP => exact rfl); (case aB => exact Z38); (case aF => exact (fun k_ hk => Kd.fresh' (Kd.R_lt (uR HO_53)) k_ hk)); (case aO => exact (uR HO_7)); (case aS => exact (below_size Z38)); (case aL => have := LMc21.out; omega); intro v62 w25 ho hb hg hat; rw [← Ny55.out] at ho; replace HO_53 := am (Kd.R_after (ok := (fun _ => True)) (by (with_reducible repeat (first | apply Kd.R_alloc | apply Kd.R_drewN | apply Kd.R_drew)); exact Kd.R_mono HO_53.out (fun _ hk => ⟨trivial, hk⟩)) hg hat); replace BK46 := am (blk_grown (g := gb46) (o := .cells #[.int .i64 0, .int .i64 0, .int .i64 0, .int .i64 0, .slice none 0 0, .int .i64 0, .slice none 0 0] 28 (0, 0)) (uK BK46) hg (Kd.R_ne HO_7.out BK46.out Z16)); replace BK52 := am (blk_grown (g := gb52) (o := .cells #[.int .i64 t42, u53] 26 (0, 0)) (uK BK52) hg (Kd.R_ne HO_7.out BK52.out Z16)); replace HB := am (hb); have HO63 := am (ho); clear HO_7 ho hb hg hat; obtain ⟨Ao26, co26, eo26⟩ := Kd.R_slice HO_53.out; subst eo26) | ((with_reducible refine gate_callee (f := 58) rfl ?_); refine goesL_ (some 48) rfl rfl Try.func58 Z112 rfl #[.pointer (some ⟨gb52, 0, none⟩), .int .i64 (wrap64 ((ji23) + x30_1)), .bool true] rfl (by (try simp only [List.map_toArray, List.map_cons, List.map_nil]); first | done | (simp only [hji23]; rfl) | rfl | (simp only [List.length_drop, List.length_take]; rfl)) ?_; (with_reducible refine (Fy.calls gb52 t42 (fun k_ => some k_ = (.slice Ao26 x53_1.length co26 : Value).ownBlock) (.slice Ao26 x53_1.length co26) x53_1 (wrap64 ((ji23) + x30_1)) true t54 w _ ?side1 ?side2 ?side3 A24.out).mono ?_); (case side1 => exact Z38); (case side2 => exact (uK BK52)); (case side3 => exact Kd.R_tight rfl HO_53.out); rintro e w27 ⟨rfl, hy0, hb, hkp⟩; refine ⟨_, rfl, ?_⟩; replace BK46 := am (blk_kept (uK BK46) hkp (fun hs_ => (fun e_ => (Kd.R_ne HO_53.out BK46.out Z16) e_) hs_)); replace BK52 := am (blk_kept (uK BK52) hkp (fun hs_ => (fun e_ => (Kd.R_ne HO_53.out BK52.out Z16) e_) hs_)); replace HO_53 := am (Kd.R_reok rfl hy0 (fun k_ e_ => HO_53.out.1 k_ e_)); replace HO63 := am (Kd.R_mono (ok' := fun k_ => some k_ ≠ (.slice Ao26 x53_1.length co26 : Value).ownBlock) (Kd.R_keptB (HO63.out) hkp (fun k_ hk_ hs_ => (hk_) hs_)) (fun k_ hk_ => hk_.1)); replace HB := am (hb); (try clear hb); (try clear hkp); (try clear hy0)))
    go_roundg k1
    case measure => have := HK1.out; omega
    case rel => exact ⟨(y55), (wrap64 (x30_1 + 1)), (t54), (.slice Ao26 x53_1.length co26), Z110, H', ⟨by have := HK1.out; omega⟩, ⟨by (with_reducible repeat (first | apply Kd.R_alloc | apply Kd.R_drewN | apply Kd.R_drew)); exact HO63.out⟩, ⟨by (with_reducible repeat (first | apply Kd.R_alloc | apply Kd.R_drewN | apply Kd.R_drew)); exact Kd.R_mono HO_53.out (fun _ hk => hk.2)⟩, ⟨pb BK46⟩, ⟨pb BK52⟩, ⟨Z38⟩⟩
   rw [if_neg c16] at H
   have c16b0 := decide_eq_false c16
   clear c16
   replace H := Option.bind_eq_some_iff.mp H
   obtain ⟨⟨t65, t66⟩, A67, H⟩ := H
   try dsimp only at H
   have A28 := am A67
   clear A67
   simp only [Option.some.injEq, Prod.mk.injEq] at H
   obtain ⟨rfl, rfl, rfl, rfl, rfl, rfl, rfl⟩ := H
   try go_wp2
   replace HO_7 := am (Kd.R_drew HO_7.out)
   replace HO_53 := am (Kd.R_drew HO_53.out)
   replace BK46 := am (blk_drew BK46.out)
   replace BK52 := am (blk_drew BK52.out)
   replace HB := am (below_drew1 HB.out)
   obtain ⟨Ao30, co30, eo30⟩ := Kd.R_slice HO_7.out
   (first | subst eo30 | (injection eo30 with f1_ f2_ f3_; have f4_ := f1_.symm; have f5_ := f3_.symm; clear f1_ f2_ f3_; subst f4_; subst f5_))
   refine start_ (n := 10) (S := fun w' => w'.cell? ⟨gb52, 0, none⟩ = some (.int .i64 t42) ∧ w'.cell? ⟨gb52, 1, none⟩ = some (u53)) (ds := []) (bA 10 0) Z112 rfl rfl ⟨bc BK52 0, bc BK52 1⟩ (fun hHeld => ?_); refine with_tabW Fi.tab9 Fi.bits9 (fun HT_ HW_ => ?_)
   generalize wr.drew = w29 at HO_7 HO_53 BK46 BK52 HB hHeld ⊢
   refine pS 0 50 (bA 10 1) ?_
   refine pS 1 51 (bA 10 3) ?_
   refine pS 2 52 (bA 10 7) ?_
   refine pS 3 53 (bA 10 15) ?_
   refine pS 4 54 (bA 10 31) ?_
   refine pS 5 55 (bA 10 63) ?_
   refine tS2 7 57 (bA 10 191) hHeld ?_
   refine one_ (i := 6) (N := some 56) (bA 10 255) rfl rfl (one_of HT_.out Z112) Z16 (fun K hK => ?_)
   refine goes_ Try.func59 Z112 rfl #[.slice Ao30 x7_1.length co30, .int .i64 t41] Z63 rfl rfl Z113 ?_
   with_reducible refine (FD.calls k1 _ _ x7_1 t41 t65 t66 _ ?side1 ?side2 A28.out).mono ?_
   (case side1 => exact uD HO_7)
   (case side2 => exact (Kd.R_reads' HO_7.out).2.1)
   rintro e w31 ⟨v68, rfl, ho0, hb⟩
   refine ⟨_, rfl, ?_⟩
   have HO69 := am (Kd.R_lower (Kd.R_new' (Kd.R_new' ho0 (Kd.R_lt (uR HO_7))) (Kd.R_lt (uR HO_53))) (below_size Z38))
   replace HO_7 := am (Kd.R_elder' (uR HO_7) (Kd.R_base ho0) hb)
   replace HO_53 := am (Kd.R_elder' (uR HO_53) (Kd.R_base ho0) hb)
   replace BK46 := kB BK46 hb
   replace BK52 := kB BK52 hb
   replace HB := am (below_step Z38 hb)
   (try clear hb)
   (try clear hb2)
   (try clear hk)
   (try clear hi)
   (try clear ho0)
   obtain ⟨Ao32, co32, eo32⟩ := Kd.R_slice HO_53.out
   (first | subst eo32 | (injection eo32 with f1_ f2_ f3_; have f4_ := f1_.symm; have f5_ := f3_.symm; clear f1_ f2_ f3_; subst f4_; subst f5_))
   obtain ⟨Ao33, co33, eo33⟩ := Kd.R_slice HO69.out
   (first | subst eo33 | (injection eo33 with f1_ f2_ f3_; have f4_ := f1_.symm; have f5_ := f3_.symm; clear f1_ f2_ f3_; subst f4_; subst f5_))
   refine hK.out _ _ ⟨bc BK52 0, bc BK52 1⟩ (fun hHeld => ?_)
   clear hK K
   refine norm_ (a' := ?_) ?_ ?_
   rotate_left
   ·
    show Act.put _ (some 56) _ = _
    simp only [Act.put, setIfInBounds_toArray, set_cons_zero, set_cons_succ, i64_w, i32_w]
    rfl
   refine pS 8 58 (bA 10 511) ?_
   refine one_ (i := 9) (N := none) (bA 10 1023) rfl rfl (one_of HT_.out Z112) Z16 (fun K hK => ?_)
   have hs34 : w31.cell? ⟨gb46, 0, none⟩ = some (.int .i64 0) := bc BK46 0
   have hfs34 := blk_frozen BK46.out 0
   have hns34_1 := NB52_46.out
   have hms34_1 := NB46_52.out
   have hs35 : w31.cell? ⟨gb46, 1, none⟩ = some (.int .i64 0) := bc BK46 1
   have hfs35 := blk_frozen BK46.out 1
   have hns35_1 := NB52_46.out
   have hms35_1 := NB46_52.out
   have hs36 : w31.cell? ⟨gb46, 2, none⟩ = some (.int .i64 0) := bc BK46 2
   have hfs36 := blk_frozen BK46.out 2
   have hns36_1 := NB52_46.out
   have hms36_1 := NB46_52.out
   have hs37 : w31.cell? ⟨gb46, 3, none⟩ = some (.int .i64 0) := bc BK46 3
   have hfs37 := blk_frozen BK46.out 3
   have hns37_1 := NB52_46.out
   have hms37_1 := NB46_52.out
   have hs38 : w31.cell? ⟨gb46, 4, none⟩ = some (.slice none 0 0) := bc BK46 4
   have hfs38 := blk_frozen BK46.out 4
   have hns38_1 := NB52_46.out
   have hms38_1 := NB46_52.out
   have hs39 : w31.cell? ⟨gb46, 5, none⟩ = some (.int .i64 0) := bc BK46 5
   have hfs39 := blk_frozen BK46.out 5
   have hns39_1 := NB52_46.out
   have hms39_1 := NB46_52.out
   have hs40 : w31.cell? ⟨gb46, 6, none⟩ = some (.slice none 0 0) := bc BK46 6
   have hfs40 := blk_frozen BK46.out 6
   have hns40_1 := NB52_46.out
   have hms40_1 := NB46_52.out
   refine skip_ (w1 := ?_) Z63 rfl ?_ ?_
   rotate_left
   ·
    go_simp
    rfl
   refine hK.out _ _ ⟨((cell_far (p := ⟨gb46, _, none⟩) NB52_46.out _).trans (((cell_far (p := ⟨gb46, _, none⟩) NB52_46.out _).trans (((cell_far (p := ⟨gb46, _, none⟩) NB52_46.out _).trans (((cell_far (p := ⟨gb46, _, none⟩) NB52_46.out _).trans (((cell_far (p := ⟨gb46, _, none⟩) NB52_46.out _).trans (((cell_far (p := ⟨gb46, _, none⟩) NB52_46.out _).trans (((cell_far (p := ⟨gb46, _, none⟩) NB52_46.out _).trans (hHeld.1)))))))))))))), ((cell_far (p := ⟨gb46, _, none⟩) NB52_46.out _).trans (((cell_far (p := ⟨gb46, _, none⟩) NB52_46.out _).trans (((cell_far (p := ⟨gb46, _, none⟩) NB52_46.out _).trans (((cell_far (p := ⟨gb46, _, none⟩) NB52_46.out _).trans (((cell_far (p := ⟨gb46, _, none⟩) NB52_46.out _).trans (((cell_far (p := ⟨gb46, _, none⟩) NB52_46.out _).trans (((cell_far (p := ⟨gb46, _, none⟩) NB52_46.out _).trans (hHeld.2))))))))))))))⟩ (fun hHeld => ?_)
   clear hK K
   refine done_ (done_of HT_.out Z112) ?_
   try go_wp2
   refine bodyPost_ret (results_cell_row rfl _ _ gb46 28 #[.int .i64 (l0.length : Int), .int .i64 a1, .int .i64 t41, .int .i64 t65, .slice Ao33 t66.length co33, .int .i64 t42, .slice Ao32 x53_1.length co32] (0, 0) _ rfl (pT (pp 6 (pp 5 (pp 4 (pp 3 (pp 2 (pp 1 (pp 0 (pb BK46))))))))) Try.underlying28 rfl Z112) rfl ?_
   exact ⟨_, _, by first | rfl | (simp [errW_none, errW_some] <;> rfl) | (simp only [← hji5]; first | rfl | (simp [errW_none, errW_some] <;> rfl)) | (simp [*, errW_none, errW_some] <;> rfl), by (with_reducible repeat (first | apply Kd.R_alloc | apply Kd.R_drewN | apply Kd.R_drew)); exact Kd.R_mono (fT HO69 BK46 Z16) (fun _ hk => hk.1.2), by (with_reducible repeat (first | apply Kd.R_alloc | apply Kd.R_drewN | apply Kd.R_drew)); exact Kd.R_mono (fT HO_53 BK46 Z16) (fun _ hk => hk.1.2), Z38⟩

/-! ### Fl: function 50 -/
mutual
def Fl.j0 : Nat → Bool → Int → List Int → Option (Bool)
 | 0, _, _, _ => none
 | k + 1, x18, x1, x2 => if x18 = true then (some false) else (Fl.l0 k x2 (x2.length : Int) 0 x1 x2)
def Fl.l0 : Nat → List Int → Int → Int → Int → List Int → Option (Bool)
 | 0, _, _, _, _, _ => none
 | k + 1, x20, x21, x22, x1, x2 => if x22 < x21 then (if 0 ≤ x22 then (if x22 < (x20.length : Int) then ((Fr.f (rd x20 x22) 0 65535).bind fun t3 => (if t3 = true then (Fl.l0 k x20 x21 (wrap64 (x22 + 1)) x1 x2) else (some false))) else (none)) else (none)) else (if (Int.tmod x1 16) = 0 then (some true) else (if 0 ≤ (wrap64 ((x2.length : Int) - 1)) then (if (wrap64 ((x2.length : Int) - 1)) < (x2.length : Int) then (if 0 ≤ (Int.tmod x1 16) then (some ((shr .i64 (rd x2 (wrap64 ((x2.length : Int) - 1))) (Int.tmod x1 16)) == 0)) else (none)) else (none)) else (none)))
end
def Fl.f (k : Nat) (a0_0 : Int) (l0_1 : List Int) : Option (Bool) := (Fr.f a0_0 0 4096).bind fun t2 => (if t2 = true then ((Fda.f a0_0).bind fun t3 => (Fl.j0 k ((l0_1.length : Int) != t3) a0_0 l0_1)) else (Fl.j0 k true a0_0 l0_1))
theorem Fl.mono_l : ∀ k, (∀ y0 y1 y2, LeO (Fl.j0 k y0 y1 y2) (Fl.j0 (k + 1) y0 y1 y2)) ∧ (∀ y0 y1 y2 y3 y4, LeO (Fl.l0 k y0 y1 y2 y3 y4) (Fl.l0 (k + 1) y0 y1 y2 y3 y4))
 | 0 => ⟨fun _ _ _ r h => by simp [Fl.j0] at h, fun _ _ _ _ _ r h => by simp [Fl.l0] at h⟩ | k + 1 => by
  obtain ⟨ih0, ih1⟩ := Fl.mono_l k
  refine ⟨?_, ?_⟩
  ·
   intro y0 y1 y2
   unfold Fl.j0
   exact Mo2
  intro y0 y1 y2 y3 y4
  unfold Fl.l0
  exact Mo2
theorem Fl.mono : ∀ a0 a1 k, LeO (Fl.f k a0 a1) (Fl.f (k + 1) a0 a1) := by
 intro a0 a1 k
 obtain ⟨ih0, ih1⟩ := Fl.mono_l k
 unfold Fl.f
 exact Mo2
theorem Fl.calls (k : Nat) (a0_0 : Int) (A0_1 : Option Addr) (c0_1 : Nat) (l0_1 : List Int) (r : Bool) (w : World) (hr0_1 : Kd.C (Kd.int .i64) w A0_1 l0_1.length l0_1) (hc0_1 : l0_1.length ≤ c0_1) (h : Fl.f k a0_0 l0_1 = some r) :
  Calls Try.prog 50 #[.agg #[.int .i64 a0_0, .slice A0_1 l0_1.length c0_1]] w fun e w' => e = .returned (.bool r) ∧ Below w.heap.size w w' := by
 have hu26 := Try.underlying26
 have HR0_1 := am hr0_1
 have HC0_1 := am hc0_1
 clear hr0_1 hc0_1
 have HB := am (Below.refl w.heap.size w)
 have H : ((Fr.f a0_0 0 4096).bind fun t25 => (if t25 = true then ((Fda.f a0_0).bind fun t27 => (Fl.j0 k ((l0_1.length : Int) != t27) a0_0 l0_1)) else (Fl.j0 k true a0_0 l0_1))) = some r := h
 clear h
 have HC2 := am H
 clear H
 go_enter Try.func50, Try.ntmps50
 go_upto_region 1 with (first | ((with_reducible refine gate_dst (N := 1) rfl ?_); (try (refine gate_guard Z63 ?_; dsimp only)); refine box_event ?hg (N := 1) ?hd (cs := #[.int .i64 a0_0, .slice A0_1 l0_1.length c0_1]) (t := 26) ?hr ?_; (case hd => rfl); (case hg => rfl); (case hr => exact Z111); intro gb28 hg w3 hbox hb; have BK28 := am (hbox); have GW28 := nG HB hg; have GE28 := nG HB hg; have GI28 := gI GE28; replace HB := am (below_step (uN HB) hb); clear hb hbox hg))
 repeat (go_quiet (first | ((with_reducible refine gate_dst (N := 1) rfl ?_); (try (refine gate_guard Z63 ?_; dsimp only)); refine box_event ?hg (N := 1) ?hd (cs := #[.int .i64 a0_0, .slice A0_1 l0_1.length c0_1]) (t := 26) ?hr ?_; (case hd => rfl); (case hg => rfl); (case hr => exact Z111); intro gb28 hg w3 hbox hb; have BK28 := am (hbox); have GW28 := nG HB hg; have GE28 := nG HB hg; have GI28 := gI GE28; replace HB := am (below_step (uN HB) hb); clear hb hbox hg)); go_upto_region 1 with (first | ((with_reducible refine gate_dst (N := 1) rfl ?_); (try (refine gate_guard Z63 ?_; dsimp only)); refine box_event ?hg (N := 1) ?hd (cs := #[.int .i64 a0_0, .slice A0_1 l0_1.length c0_1]) (t := 26) ?hr ?_; (case hd => rfl); (case hg => rfl); (case hr => exact Z111); intro gb28 hg w3 hbox hb; have BK28 := am (hbox); have GW28 := nG HB hg; have GE28 := nG HB hg; have GI28 := gI GE28; replace HB := am (below_step (uN HB) hb); clear hb hbox hg)))
 (try simp only [Act.put, setIfInBounds_toArray, set_cons_zero, set_cons_succ])
 go_cut [18] (fun v18 wc => ∃ (kq : Nat) (x18_1 : Bool), v18 = .bool x18_1 ∧ Aside0 (Fl.j0 kq x18_1 a0_0 l0_1 = some r) ∧ Aside0 (kq ≤ k) ∧ Aside0 (wc.heap[gb28]? = some (.cells #[.int .i64 a0_0, (.slice A0_1 l0_1.length c0_1)] 26 (0, 0))) ∧ Aside0 (Below w.heap.size w wc))
 case first =>
  have H := HC2.out
  clear HC2
  replace H := Option.bind_eq_some_iff.mp H
  obtain ⟨t25, A40, H⟩ := H
  try dsimp only at H
  have A4 := am A40
  clear A40
  by_cases c5 : t25 = true
  rotate_left
  ·
   replace c5 := Bool.eq_false_iff.mpr c5
   subst c5
   rw [if_neg (show ¬ (false = true) from Z16)] at H
   have H' := am H
   clear H
   obtain ⟨hcz8_0, hcz8_1, hfz8_0, hfz8_1⟩ := ce2 BK28
   go_wp2_with (first | (go_at_call 23; (with_reducible refine (Fr.calls a0_0 0 4096 false _ A4.out).mono ?_); rintro e w' ⟨rfl, ⟨nd, rfl⟩⟩; (try first | exact ⟨rfl, _, World.drewN_drewN _ _ _⟩ | exact ⟨rfl, _, Eq.trans (World.drewN_drewN _ _ _) (congrArg (World.drewN _) (Nat.add_assoc _ _ _))⟩)))
   repeat (go_quiet (first | (go_at_call 23; (with_reducible refine (Fr.calls a0_0 0 4096 false _ A4.out).mono ?_); rintro e w' ⟨rfl, ⟨nd, rfl⟩⟩; (try first | exact ⟨rfl, _, World.drewN_drewN _ _ _⟩ | exact ⟨rfl, _, Eq.trans (World.drewN_drewN _ _ _) (congrArg (World.drewN _) (Nat.add_assoc _ _ _))⟩))); try go_wp2_with (first | (go_at_call 23; (with_reducible refine (Fr.calls a0_0 0 4096 false _ A4.out).mono ?_); rintro e w' ⟨rfl, ⟨nd, rfl⟩⟩; (try first | exact ⟨rfl, _, World.drewN_drewN _ _ _⟩ | exact ⟨rfl, _, Eq.trans (World.drewN_drewN _ _ _) (congrArg (World.drewN _) (Nat.add_assoc _ _ _))⟩))))
   go_meet
   case rel => exact ⟨_, (true), Z110, H', ⟨Z129⟩, ⟨pb BK28⟩, ⟨Z48⟩⟩
  subst c5
  rw [if_pos rfl] at H
  replace H := Option.bind_eq_some_iff.mp H
  obtain ⟨t27, A60, H⟩ := H
  try dsimp only at H
  have A6 := am A60
  clear A60
  have H' := am H
  clear H
  obtain ⟨hcz7_0, hcz7_1, hfz7_0, hfz7_1⟩ := ce2 BK28
  go_wp2_with (first | (go_at_call 23; (with_reducible refine (Fr.calls a0_0 0 4096 true _ A4.out).mono ?_); rintro e w' ⟨rfl, ⟨nd, rfl⟩⟩; (try first | exact ⟨rfl, _, World.drewN_drewN _ _ _⟩ | exact ⟨rfl, _, Eq.trans (World.drewN_drewN _ _ _) (congrArg (World.drewN _) (Nat.add_assoc _ _ _))⟩)) | (go_at_call 80; (with_reducible refine (Fda.calls a0_0 t27 _ A6.out).mono ?_); rintro e w' ⟨rfl, ⟨nd, rfl⟩⟩; (try first | exact ⟨rfl, _, World.drewN_drewN _ _ _⟩ | exact ⟨rfl, _, Eq.trans (World.drewN_drewN _ _ _) (congrArg (World.drewN _) (Nat.add_assoc _ _ _))⟩)))
  repeat (go_quiet (first | (go_at_call 23; (with_reducible refine (Fr.calls a0_0 0 4096 true _ A4.out).mono ?_); rintro e w' ⟨rfl, ⟨nd, rfl⟩⟩; (try first | exact ⟨rfl, _, World.drewN_drewN _ _ _⟩ | exact ⟨rfl, _, Eq.trans (World.drewN_drewN _ _ _) (congrArg (World.drewN _) (Nat.add_assoc _ _ _))⟩)) | (go_at_call 80; (with_reducible refine (Fda.calls a0_0 t27 _ A6.out).mono ?_); rintro e w' ⟨rfl, ⟨nd, rfl⟩⟩; (try first | exact ⟨rfl, _, World.drewN_drewN _ _ _⟩ | exact ⟨rfl, _, Eq.trans (World.drewN_drewN _ _ _) (congrArg (World.drewN _) (Nat.add_assoc _ _ _))⟩))); try go_wp2_with (first | (go_at_call 23; (with_reducible refine (Fr.calls a0_0 0 4096 true _ A4.out).mono ?_); rintro e w' ⟨rfl, ⟨nd, rfl⟩⟩; (try first | exact ⟨rfl, _, World.drewN_drewN _ _ _⟩ | exact ⟨rfl, _, Eq.trans (World.drewN_drewN _ _ _) (congrArg (World.drewN _) (Nat.add_assoc _ _ _))⟩)) | (go_at_call 80; (with_reducible refine (Fda.calls a0_0 t27 _ A6.out).mono ?_); rintro e w' ⟨rfl, ⟨nd, rfl⟩⟩; (try first | exact ⟨rfl, _, World.drewN_drewN _ _ _⟩ | exact ⟨rfl, _, Eq.trans (World.drewN_drewN _ _ _) (congrArg (World.drewN _) (Nat.add_assoc _ _ _))⟩))))
  go_meet
  case rel => exact ⟨_, (((l0_1.length : Int) != t27)), Z110, H', ⟨Z129⟩, ⟨pb BK28⟩, ⟨Z48⟩⟩
 case rest =>
  clear HC2
  try clear p2
  try clear c5
  try clear hcz7_0 hcz7_1 hcz8_0 hcz8_1
  try clear hfz7_0 hfz7_1 hfz8_0 hfz8_1
  obtain ⟨kq, x18_1, rfl, HA, HJ1, BK28, HB⟩ := hcut
  cases kq with
  | zero => exact absurd HA.out (by simp [Fl.j0])
  | succ kj1 =>
   have H := HA.out
   clear HA
   simp only [Fl.j0] at H
   by_cases c9 : x18_1 = true
   ·
    subst c9
    rw [if_pos rfl] at H
    obtain rfl := Option.some.inj H
    go_wp2
    repeat (go_quiet (fail); try go_wp2)
    go_ret
    exact ⟨Z109, Z48⟩
   replace c9 := Bool.eq_false_iff.mpr c9
   subst c9
   rw [if_neg (show ¬ (false = true) from Z16)] at H
   have H' := am H
   clear H
   obtain ⟨hcz10_0, hcz10_1, hfz10_0, hfz10_1⟩ := ce2 BK28
   go_wp2
   repeat (go_quiet (fail); try go_wp2)
   go_loopg [22] kj1 (fun kq v22 w' => ∃ (x22_2 : Int), v22 = .int .i64 x22_2 ∧ Aside0 (Fl.l0 kq l0_1 (l0_1.length : Int) x22_2 a0_0 l0_1 = some r) ∧ Aside0 (kq ≤ kj1) ∧ Aside0 (w'.heap[gb28]? = some (.cells #[.int .i64 a0_0, (.slice A0_1 l0_1.length c0_1)] 26 (0, 0))) ∧ Aside0 (Below w.heap.size w w'))
   case atStart => exact ⟨(0), Z110, H', ⟨Nat.le_refl _⟩, ⟨pb BK28⟩, ⟨Z48⟩⟩
   case round =>
    clear H'
    try clear p2
    try clear c5
    try clear c9
    try clear hcz10_0 hcz10_1 hcz7_0 hcz7_1 hcz8_0 hcz8_1
    try clear hfz10_0 hfz10_1 hfz7_0 hfz7_1 hfz8_0 hfz8_1
    try clear p2
    obtain ⟨x22_2, rfl, HA, HK2, BK28, HB⟩ := hrel
    cases gk with
    | zero => exact absurd HA.out (by simp [Fl.l0])
    | succ k2 =>
     have H := HA.out
     clear HA
     simp only [Fl.l0] at H
     by_cases c11 : x22_2 < (l0_1.length : Int)
     ·
      rw [if_pos c11] at H
      have c11b0 := decide_eq_true c11
      clear c11
      by_cases c12 : 0 ≤ x22_2
      rotate_left
      ·
       rw [if_neg c12] at H
       exact absurd H Z43
      rw [if_pos c12] at H
      have c12b0 := decide_eq_true c12
      clear c12
      by_cases c13 : x22_2 < (l0_1.length : Int)
      rotate_left
      ·
       rw [if_neg c13] at H
       exact absurd H Z43
      rw [if_pos c13] at H
      have c13b0 := decide_eq_true c13
      clear c13
      replace H := Option.bind_eq_some_iff.mp H
      obtain ⟨t29, A30, H⟩ := H
      try dsimp only at H
      have A14 := am A30
      clear A30
      by_cases c15 : t29 = true
      rotate_left
      ·
       replace c15 := Bool.eq_false_iff.mpr c15
       subst c15
       rw [if_neg (show ¬ (false = true) from Z16)] at H
       obtain rfl := Option.some.inj H
       have p31 : 0 ≤ (x22_2 : Int) := of_decide_eq_true Z6
       have q31 : x22_2 < (l0_1.length : Int) := of_decide_eq_true Z6
       obtain ⟨ad31, e31, hx31_0⟩ := Kd.at_int HR0_1.out x22_2 p31 q31
       cases e31
       replace hx31_0 := (HB.out.cell (World.block_lt_of_cell? w _ hx31_0)).trans hx31_0
       replace p31 := eq_true p31
       replace q31 := eq_true q31
       go_wp2_with (first | (go_at_call 23; (with_reducible refine (Fr.calls (rd l0_1 x22_2) 0 65535 false _ A14.out).mono ?_); rintro e w' ⟨rfl, ⟨nd, rfl⟩⟩; (try first | exact ⟨rfl, _, World.drewN_drewN _ _ _⟩ | exact ⟨rfl, _, Eq.trans (World.drewN_drewN _ _ _) (congrArg (World.drewN _) (Nat.add_assoc _ _ _))⟩)))
       repeat (go_quiet (first | (go_at_call 23; (with_reducible refine (Fr.calls (rd l0_1 x22_2) 0 65535 false _ A14.out).mono ?_); rintro e w' ⟨rfl, ⟨nd, rfl⟩⟩; (try first | exact ⟨rfl, _, World.drewN_drewN _ _ _⟩ | exact ⟨rfl, _, Eq.trans (World.drewN_drewN _ _ _) (congrArg (World.drewN _) (Nat.add_assoc _ _ _))⟩))); try go_wp2_with (first | (go_at_call 23; (with_reducible refine (Fr.calls (rd l0_1 x22_2) 0 65535 false _ A14.out).mono ?_); rintro e w' ⟨rfl, ⟨nd, rfl⟩⟩; (try first | exact ⟨rfl, _, World.drewN_drewN _ _ _⟩ | exact ⟨rfl, _, Eq.trans (World.drewN_drewN _ _ _) (congrArg (World.drewN _) (Nat.add_assoc _ _ _))⟩))))
       go_ret
       exact ⟨Z109, Z48⟩
      subst c15
      rw [if_pos rfl] at H
      have H' := am H
      clear H
      have p31 : 0 ≤ (x22_2 : Int) := of_decide_eq_true Z6
      have q31 : x22_2 < (l0_1.length : Int) := of_decide_eq_true Z6
      obtain ⟨ad31, e31, hx31_0⟩ := Kd.at_int HR0_1.out x22_2 p31 q31
      cases e31
      replace hx31_0 := (HB.out.cell (World.block_lt_of_cell? w _ hx31_0)).trans hx31_0
      replace p31 := eq_true p31
      replace q31 := eq_true q31
      go_wp2_with (first | (go_at_call 23; (with_reducible refine (Fr.calls (rd l0_1 x22_2) 0 65535 true _ A14.out).mono ?_); rintro e w' ⟨rfl, ⟨nd, rfl⟩⟩; (try first | exact ⟨rfl, _, World.drewN_drewN _ _ _⟩ | exact ⟨rfl, _, Eq.trans (World.drewN_drewN _ _ _) (congrArg (World.drewN _) (Nat.add_assoc _ _ _))⟩)))
      repeat (go_quiet (first | (go_at_call 23; (with_reducible refine (Fr.calls (rd l0_1 x22_2) 0 65535 true _ A14.out).mono ?_); rintro e w' ⟨rfl, ⟨nd, rfl⟩⟩; (try first | exact ⟨rfl, _, World.drewN_drewN _ _ _⟩ | exact ⟨rfl, _, Eq.trans (World.drewN_drewN _ _ _) (congrArg (World.drewN _) (Nat.add_assoc _ _ _))⟩))); try go_wp2_with (first | (go_at_call 23; (with_reducible refine (Fr.calls (rd l0_1 x22_2) 0 65535 true _ A14.out).mono ?_); rintro e w' ⟨rfl, ⟨nd, rfl⟩⟩; (try first | exact ⟨rfl, _, World.drewN_drewN _ _ _⟩ | exact ⟨rfl, _, Eq.trans (World.drewN_drewN _ _ _) (congrArg (World.drewN _) (Nat.add_assoc _ _ _))⟩))))
      go_roundg k2
      case measure => have := HJ1.out; have := HK2.out; omega
      case rel => exact ⟨(wrap64 (x22_2 + 1)), Z110, H', ⟨by have := HJ1.out; have := HK2.out; omega⟩, ⟨pb BK28⟩, ⟨Z48⟩⟩
     rw [if_neg c11] at H
     have c11b0 := decide_eq_false c11
     clear c11
     by_cases c16 : (Int.tmod a0_0 16) = 0
     ·
      rw [if_pos c16] at H
      have c16b0 : ((Int.tmod a0_0 16) == 0) = true := beq_iff_eq.mpr c16
      have c16b1 : ((Int.tmod a0_0 16) != 0) = false := bne_eq_false_iff_eq.mpr c16
      clear c16
      obtain rfl := Option.some.inj H
      obtain ⟨hcz17_0, hcz17_1, hfz17_0, hfz17_1⟩ := ce2 BK28
      go_wp2
      repeat (go_quiet (fail); try go_wp2)
      go_ret
      exact ⟨Z109, Z48⟩
     rw [if_neg c16] at H
     have c16b0 : ((Int.tmod a0_0 16) == 0) = false := beq_eq_false_iff_ne.mpr c16
     have c16b1 : ((Int.tmod a0_0 16) != 0) = true := bne_iff_ne.mpr c16
     obtain ⟨ji18, hji18⟩ : ∃ j_ : Int, (wrap64 ((l0_1.length : Int) - 1)) = j_ := ⟨_, rfl⟩
     replace H : (if 0 ≤ (ji18) then (if (ji18) < (l0_1.length : Int) then (if 0 ≤ (Int.tmod a0_0 16) then (some ((shr .i64 (rd l0_1 (ji18)) (Int.tmod a0_0 16)) == 0)) else (none)) else (none)) else (none)) = some r := by first | (rw [hji18] at H; exact H) | (simp only [hji18] at H ⊢; exact H)
     have hji18w : (IntKind.i64.wrap ((l0_1.length : Int) - 1)) = ji18 := (i64_w _).trans hji18
     by_cases c19 : 0 ≤ (ji18)
     rotate_left
     ·
      rw [if_neg c19] at H
      exact absurd H Z43
     rw [if_pos c19] at H
     have c19b0 := decide_eq_true c19
     clear c19
     by_cases c20 : (ji18) < (l0_1.length : Int)
     rotate_left
     ·
      rw [if_neg c20] at H
      exact absurd H Z43
     rw [if_pos c20] at H
     have c20b0 := decide_eq_true c20
     clear c20
     obtain ⟨ji21, hji21⟩ : ∃ j_ : Int, (Int.tmod a0_0 16) = j_ := ⟨_, rfl⟩
     replace H : (if 0 ≤ (ji21) then (some ((shr .i64 (rd l0_1 (ji18)) (ji21)) == 0)) else (none)) = some r := by first | (rw [hji21] at H; exact H) | (simp only [hji21] at H ⊢; exact H)
     (try rw [hji21] at c16b0)
     (try rw [hji21] at c16b1)
     by_cases c22 : 0 ≤ (ji21)
     rotate_left
     ·
      rw [if_neg c22] at H
      exact absurd H Z43
     rw [if_pos c22] at H
     have c22b0 := eq_true c22
     have c22b1 := decide_eq_true c22
     clear c22
     obtain ⟨ji23, hji23⟩ : ∃ j_ : Int, (shr .i64 (rd l0_1 (ji18)) (ji21)) = j_ := ⟨_, rfl⟩
     replace H : (some ((ji23) == 0)) = some r := by first | (rw [hji23] at H; exact H) | (simp only [hji23] at H ⊢; exact H)
     have hji23_ : ((rd l0_1 (ji18)) / 2 ^ min (ji21).toNat 64) = ji23 := hji23
     have hji23z : (ji21) ≤ 64 → ((rd l0_1 (ji18)) / 2 ^ (ji21).toNat) = ji23 := shr_small hji23
     obtain rfl := Option.some.inj H
     obtain ⟨hcz24_0, hcz24_1, hfz24_0, hfz24_1⟩ := ce2 BK28
     have p32 : 0 ≤ ((ji18) : Int) := of_decide_eq_true Z6
     have q32 : (ji18) < (l0_1.length : Int) := of_decide_eq_true Z6
     obtain ⟨ad32, e32, hx32_0⟩ := Kd.at_int HR0_1.out (ji18) p32 q32
     cases e32
     replace hx32_0 := (HB.out.cell (World.block_lt_of_cell? w _ hx32_0)).trans hx32_0
     replace p32 := eq_true p32
     replace q32 := eq_true q32
     go_wp2
     repeat (go_quiet (fail); try go_wp2)
     go_ret
     exact ⟨by first | rfl | (simp [errW_none, errW_some] <;> rfl) | (simp only [← hji18, ← hji21, ← hji23]; first | rfl | (simp [errW_none, errW_some] <;> rfl)) | (simp [*, errW_none, errW_some] <;> rfl), Z48⟩

end Go.Proofs.Ytllaofiopnhdgaa.PFnSparseParts
