-- made by wip/tools/myprint.py over the kit's print, for this claim
import Derived.Test.YtllaofiopnhdgaaPFnSparsePartsx0
import Derived.Test.YtllaofiopnhdgaaPFnSparsePartsx6
import Derived.Test.YtllaofiopnhdgaaPFnSparsePartsx7
import Derived.Test.YtllaofiopnhdgaaPFnSparsePartsx9
namespace Go.Proofs.Ytllaofiopnhdgaa.PFnSparseParts
open Go.RowKit Go.Proofs.YtllaofiopnhdgaaW.PrintWords Go.Proofs.YtllaofiopnhdgaaW.PrintLast Go.Proofs.YtllaofiopnhdgaaW.PrintMore
open List (setIfInBounds_toArray set_cons_zero set_cons_succ)
attribute [local go_sem] max2_int min2_int max_two min_two max_three min_three max_four min_four   -- for this text's walks alone
set_option linter.unusedVariables false
set_option linter.unusedSimpArgs false

/-! ### Fq: function 47 -/
def Fq.f (k : Nat) (s0_0 : List Int) (s0_1 : Int) (s0_2 : Int) : Option (Int × List Int × Int × Int) := (Ft.f k s0_0 s0_1 s0_2 40).bind fun bt3 => ((Fd.f s0_0 bt3.2.2.1 bt3.2.2.2 16).bind fun bt4 => (if bt4.1 = 0 then ((Fd.f s0_0 bt4.2.1 bt4.2.2 2).bind fun bt5 => (if bt3.2.1.length < 17592186044416 then (some (bt3.1, (bt3.2.1 ++ [bt5.1]), bt5.2.1, bt5.2.2)) else (none))) else (if bt4.1 = 1 then ((Fd.f s0_0 bt4.2.1 bt4.2.2 3).bind fun bt6 => (some (wrap64 (bt3.1 + (wrap64 (bt6.1 - 1))), bt3.2.1, bt6.2.1, bt6.2.2))) else (if bt4.1 = 2 then (if (bt3.2.1.length : Int) > 0 then ((Fd.f s0_0 bt4.2.1 bt4.2.2 (bt3.2.1.length : Int)).bind fun bt7 => ((FY.f s0_0 bt7.2.1 bt7.2.2 (([(-1), 65535, 65536, 40000] : List Int))).bind fun bt8 => (if 0 ≤ bt7.1 then (if bt7.1 < (bt3.2.1.length : Int) then (some (bt3.1, (bt3.2.1.set (bt7.1 : Int).toNat bt8.1), bt8.2.1, bt8.2.2)) else (none)) else (none)))) else (some (bt3.1, bt3.2.1, bt4.2.1, bt4.2.2))) else (if bt4.1 = 3 then ((Fd.f s0_0 bt4.2.1 bt4.2.2 2).bind fun bt9 => ((Fca.f (wrap64 (4096 - bt9.1))).bind fun bt10 => (some (bt10.1, bt10.2, bt9.2.1, bt9.2.2)))) else (if bt4.1 = 4 then ((Fd.f s0_0 bt4.2.1 bt4.2.2 5).bind fun bt11 => ((Fca.f (wrap64 (16 * bt11.1))).bind fun bt12 => (some (bt12.1, bt12.2, bt11.2.1, bt11.2.2)))) else (some (bt3.1, bt3.2.1, bt4.2.1, bt4.2.2))))))))
theorem Fq.mono : ∀ a0 a1 a2 k, LeO (Fq.f k a0 a1 a2) (Fq.f (k + 1) a0 a1 a2) := by
 intro a0 a1 a2 k
 unfold Fq.f
 repeat' first
   | with_reducible first | exact Ft.mono .. | exact LeO.refl _ | exact LeO.none _ | refine LeO.ite ?_ ?_ | refine LeO.bind ?_ (fun _ => ?_)
   | exact Ft.mono .. | exact LeO.none _ | refine LeO.ite ?_ ?_ | refine LeO.bind ?_ (fun _ => ?_)
def Fq.T4 : Bool × List (List Nat × List Nat) := (true, [([], []), ([0], [0]), ([], []), ([2], [2]), ([3], [3]), ([1, 4, 3], [1, 4]), ([0, 1, 2, 3, 4, 5], []), ([6, 5, 5, 0, 1, 2, 3, 4, 5], [5, 6])])
def Fq.B4 : List Nat := [0, 1, 0, 4, 12, 31, 63, 127]
theorem Fq.tab4 : rtab .any (opsOf Try.f47 4) = Fq.T4 := by kernel_rfl
theorem Fq.bits4 : waitsOk Fq.T4.2 Fq.B4 = true := by kernel_rfl
def Fq.T6 : Bool × List (List Nat × List Nat) := (true, [([], []), ([0], [0]), ([], []), ([2], [2]), ([3], [3]), ([1, 4], [1, 4]), ([0, 1, 2, 3, 4, 5], []), ([6, 5, 3, 0, 1, 2, 3, 4, 5], [5, 6])])
def Fq.B6 : List Nat := [0, 1, 0, 4, 12, 31, 63, 127]
theorem Fq.tab6 : rtab .any (opsOf Try.f47 6) = Fq.T6 := by kernel_rfl
theorem Fq.bits6 : waitsOk Fq.T6.2 Fq.B6 = true := by kernel_rfl
def Fq.T9 : Bool × List (List Nat × List Nat) := (true, [([], []), ([0], [0]), ([], []), ([], []), ([3], [3]), ([4], [4]), ([2, 5], [2, 5]), ([], []), ([], []), ([7, 8, 6], [7, 8]), ([1, 6, 0, 1, 2, 3, 4, 5, 6, 7, 8, 9], [1, 6]), ([10, 9, 9, 0, 1, 2, 3, 4, 5, 6, 7, 8, 9], [9, 10])])
def Fq.B9 : List Nat := [0, 1, 0, 0, 8, 24, 60, 0, 0, 508, 1023, 2047]
theorem Fq.tab9 : rtab .any (opsOf Try.f47 9) = Fq.T9 := by kernel_rfl
theorem Fq.bits9 : waitsOk Fq.T9.2 Fq.B9 = true := by kernel_rfl
set_option maxHeartbeats 8000000 in
set_option maxRecDepth 100000 in
theorem Fq.calls (k : Nat) (g : Nat) (s0_0 : List Int) (s0_1 : Int) (s0_2 : Int) (r1 : Int) (r2 : List Int) (r3 : Int) (r4 : Int) (w0 w : World) (hI : IsS47 w0 w g s0_0 s0_1 s0_2) (hB : Below w0.heap.size w0 w) (h : Fq.f k s0_0 s0_1 s0_2 = some (r1, r2, r3, r4)) :
  Calls Try.prog 47 #[.pointer (some ⟨g, 0, none⟩)] w fun e w' => ∃ v1_ : Value, e = .returned (.agg #[.int .i64 r1, v1_]) ∧ Kd.R (Kd.int .i64) 3 w' w.heap.size (fun _ => True) v1_ r2 ∧ IsS47 w0 w' g s0_0 r3 r4 ∧ Below w0.heap.size w0 w' ∧ KeepBut w w' g none := by
 have hu26 := Try.underlying26
 have HI0 := am hI
 have HK := am (KeepBut.refl w g none)
 have HL := am hB.size
 clear hI
 have HW0 := am hB.size
 have HB := am hB
 clear hB
 have H : ((Ft.f k s0_0 s0_1 s0_2 40).bind fun bt123 => ((Fd.f s0_0 bt123.2.2.1 bt123.2.2.2 16).bind fun bt124 => (if bt124.1 = 0 then ((Fd.f s0_0 bt124.2.1 bt124.2.2 2).bind fun bt125 => (if bt123.2.1.length < 17592186044416 then (some (bt123.1, (bt123.2.1 ++ [bt125.1]), bt125.2.1, bt125.2.2)) else (none))) else (if bt124.1 = 1 then ((Fd.f s0_0 bt124.2.1 bt124.2.2 3).bind fun bt126 => (some (wrap64 (bt123.1 + (wrap64 (bt126.1 - 1))), bt123.2.1, bt126.2.1, bt126.2.2))) else (if bt124.1 = 2 then (if (bt123.2.1.length : Int) > 0 then ((Fd.f s0_0 bt124.2.1 bt124.2.2 (bt123.2.1.length : Int)).bind fun bt127 => ((FY.f s0_0 bt127.2.1 bt127.2.2 (([(-1), 65535, 65536, 40000] : List Int))).bind fun bt128 => (if 0 ≤ bt127.1 then (if bt127.1 < (bt123.2.1.length : Int) then (some (bt123.1, (bt123.2.1.set (bt127.1 : Int).toNat bt128.1), bt128.2.1, bt128.2.2)) else (none)) else (none)))) else (some (bt123.1, bt123.2.1, bt124.2.1, bt124.2.2))) else (if bt124.1 = 3 then ((Fd.f s0_0 bt124.2.1 bt124.2.2 2).bind fun bt129 => ((Fca.f (wrap64 (4096 - bt129.1))).bind fun bt130 => (some (bt130.1, bt130.2, bt129.2.1, bt129.2.2)))) else (if bt124.1 = 4 then ((Fd.f s0_0 bt124.2.1 bt124.2.2 5).bind fun bt131 => ((Fca.f (wrap64 (16 * bt131.1))).bind fun bt132 => (some (bt132.1, bt132.2, bt131.2.1, bt131.2.2)))) else (some (bt123.1, bt123.2.1, bt124.2.1, bt124.2.2))))))))) = some (r1, r2, r3, r4) := h
 clear h
 replace H := Option.bind_eq_some_iff.mp H
 obtain ⟨⟨t123, t133, t134, t135⟩, A20, H⟩ := H
 try dsimp only at H
 have A2 := am A20
 clear A20
 replace H := Option.bind_eq_some_iff.mp H
 obtain ⟨⟨t124, t136, t137⟩, A30, H⟩ := H
 try dsimp only at H
 have A3 := am A30
 clear A30
 by_cases c4 : t124 = 0
 ·
  rw [if_pos c4] at H
  have c4b0 : (t124 == 0) = true := beq_iff_eq.mpr c4
  have c4b1 : (t124 != 0) = false := bne_eq_false_iff_eq.mpr c4
  clear c4
  replace H := Option.bind_eq_some_iff.mp H
  obtain ⟨⟨t125, t138, t139⟩, A50, H⟩ := H
  try dsimp only at H
  have A5 := am A50
  clear A50
  by_cases c6 : t133.length < 17592186044416
  rotate_left
  ·
   rw [if_neg c6] at H
   exact absurd H Z43
  rw [if_pos c6] at H
  have LMc6 := am c6
  clear c6
  obtain ⟨y140, hy140⟩ : ∃ y_ : List Int, y_ = (t133 ++ [t125]) := ⟨_, rfl⟩
  replace H : (some (t123, y140, t138, t139)) = some (r1, r2, r3, r4) := by first | (rw [hy140]; with_reducible exact H) | (have H2_ := (Option.bind_some _ _).symm.trans H; rw [hy140]; with_reducible exact H2_) | (have H2_ := (Option.bind_some _ _).symm.trans H; with_reducible exact H2_) | with_reducible exact H | (rw [hy140]; exact H) | exact H
  have Ny140 := am hy140
  clear hy140
  simp only [Option.some.injEq, Prod.mk.injEq] at H
  obtain ⟨rfl, rfl, rfl, rfl⟩ := H
  go_enter Try.func47, Try.ntmps47
  try go_wp2_with (first | ((with_reducible refine gate_dst (N := 2) rfl ?_); refine box_event ?hg (N := 2) ?hd (cs := #[.int .i64 0, .slice none 0 0]) (t := 26) ?hr ?_; (case hd => rfl); (case hg => rfl); (case hr => exact Z111); intro gb141 hg w7 hbox hb; replace HB := am (below_step Z4 hb); have BK141 := am (hbox); have GW141 := am ((by rw [hg]; exact (keep_size (w := w) (g := g) (row := none) Z2) : w.heap.size ≤ gb141)); have GE141 := am ((Nat.le_trans HW0.out (by rw [hg]; exact (keep_size (w := w) (g := g) (row := none) Z2) : w.heap.size ≤ gb141) : w0.heap.size ≤ gb141)); replace HK := am (KeepBut.trans Z2 (KeepBut.of_below hb g none) (.inl rfl)); have NB0_141 := am ((by rw [hg]; exact Nat.ne_of_lt (IsS47.lt (show IsS47 w0 _ g s0_0 s0_1 s0_2 from Z1)) : g ≠ gb141)); have NB141_0 := am ((by rw [hg]; exact Nat.ne_of_gt (IsS47.lt (show IsS47 w0 _ g s0_0 s0_1 s0_2 from Z1)) : gb141 ≠ g)); replace HI0 := am (IsS47.below Z1 hb); clear hb hbox hg) | ((with_reducible refine gate_callee (f := 78) rfl ?_); refine gL 5 rfl Try.func78 #[.pointer (some ⟨g, 0, none⟩), .int .i64 40] ?_; (with_reducible refine (Ft.calls k g s0_0 s0_1 s0_2 40 t123 t133 t134 t135 w0 _ ?side1 ?side2 A2.out).mono ?_); (case side1 => exact Z13); (case side2 => exact Z26); rintro e w8 ⟨v142, rfl, ho0, hi, hb, hk⟩; refine ⟨_, rfl, ?_⟩; replace BK141 := am (KeepBut.blk hk (g' := gb141) (o := .cells #[.int .i64 0, .slice none 0 0] 26 (0, 0)) (uK BK141) NB141_0.out Z43); have HO143 := am (Kd.R_lower ho0 (keep_size (w := w) (g := g) (row := none) Z12)); replace HK := am (KeepBut.trans Z12 hk (.inl rfl)); replace HB := am (hb); replace HI0 := am (hi); (try clear hb); (try clear hb2); (try clear hk); (try clear hi); (try clear ho0)) | ((with_reducible refine gate_dst (N := 3) rfl ?_); refine box_event ?hg (N := 3) ?hd (cs := #[.int .i64 0, .slice none 0 0]) (t := 26) ?hr ?_; (case hd => rfl); (case hg => rfl); (case hr => exact Z111); intro gb144 hg w9 hbox hb; replace HO143 := rB HO143 hb; replace HB := am (below_step Z26 hb); have BK144 := am (hbox); have GW144 := am ((by rw [hg]; exact (keep_size (w := w) (g := g) (row := none) Z12) : w.heap.size ≤ gb144)); have GE144 := am ((Nat.le_trans HW0.out (by rw [hg]; exact (keep_size (w := w) (g := g) (row := none) Z12) : w.heap.size ≤ gb144) : w0.heap.size ≤ gb144)); replace HK := am (KeepBut.trans Z12 (KeepBut.of_below hb g none) (.inl rfl)); have NB141_144 := nL BK141 hg; have NB144_141 := nR BK141 hg; replace BK141 := kB BK141 hb; have NB0_144 := am ((by rw [hg]; exact Nat.ne_of_lt (IsS47.lt (show IsS47 w0 _ g s0_0 t134 t135 from Z13)) : g ≠ gb144)); have NB144_0 := am ((by rw [hg]; exact Nat.ne_of_gt (IsS47.lt (show IsS47 w0 _ g s0_0 t134 t135 from Z13)) : gb144 ≠ g)); replace HI0 := am (IsS47.below Z13 hb); clear hb hbox hg; have hnb10 := NB144_141.out; have hnc10 := NB141_144.out; have hnb11 := NB144_0.out; have hnc11 := NB0_144.out; obtain ⟨hcz12_0, hcz12_1, hfz12_0, hfz12_1⟩ := ce2 BK144; obtain ⟨Ao13, co13, eo13⟩ := Kd.R_slice HO143.out; subst eo13) | ((with_reducible refine gate_callee (f := 44) rfl ?_); refine gL 7 rfl Try.func44 #[.pointer (some ⟨g, 0, none⟩), .int .i64 16] ?_; (with_reducible refine (Fd.calls g s0_0 t134 t135 16 t124 t136 t137 w0 _ ?side1 ?side2 A3.out).mono ?_); (case side1 => exact Z5); (case side2 => exact Z10); rintro e w14 ⟨rfl, hi, hb, hk⟩; refine ⟨_, rfl, ?_⟩; replace BK141 := am (KeepBut.blk hk (g' := gb141) (o := .cells #[.int .i64 0, .slice none 0 0] 26 (0, 0)) (pf NB141_144 (pf NB141_144 (pb BK141))) NB141_0.out Z43); replace HO143 := am (Kd.R_mono (Kd.R_keep (IsS47.apart (show IsS47 w0 _ g s0_0 t134 t135 from Z5) (fS HO143 BK144 Z16) Z16) hk (fun _ h => h.2)) (fun _ h => h.1)); replace BK144 := am (KeepBut.blk hk (g' := gb144) (o := .cells #[.int .i64 t123, .slice Ao13 t133.length co13] 26 (0, 0)) (pT (pp 1 (pp 0 (pb BK144)))) NB144_0.out Z43); replace HK := am (KeepBut.trans Z8 hk (.inl rfl)); replace HB := am (hb); replace HI0 := am (hi); (try clear hb); (try clear hb2); (try clear hk); (try clear hi)))
  replace HO143 := am (Kd.R_drew HO143.out)
  replace BK141 := am (blk_drew BK141.out)
  replace BK144 := am (blk_drew BK144.out)
  replace HI0 := am (IsS47.drew HI0.out)
  replace HK := am (keep_drew HK.out)
  replace HB := am (below_drew1 HB.out)
  refine start_ (n := 8) (S := fun w' => w'.cell? ⟨gb144, 0, none⟩ = some (.int .i64 t123) ∧ w'.cell? ⟨gb144, 1, none⟩ = some (.slice Ao13 t133.length co13)) (ds := [7]) (bA 8 0) Z112 rfl rfl ⟨bc BK144 0, bc BK144 1⟩ (fun hHeld => ?_); refine with_tabW Fq.tab4 Fq.bits4 (fun HT_ HW_ => ?_)
  generalize w14.drew = w15 at HO143 BK141 BK144 HI0 HK HB hHeld ⊢
  refine pS 0 10 (bA 8 1) ?_
  refine pS 2 12 (bA 8 5) ?_
  refine tS2 1 11 (bA 8 7) hHeld ?_
  refine one_ (i := 3) (N := some 13) (bA 8 15) rfl rfl (one_of HT_.out Z112) Z16 (fun K hK => ?_)
  refine goes_ Try.func44 Z112 rfl #[.pointer (some ⟨g, 0, none⟩), .int .i64 2] Z63 rfl rfl Z113 ?_
  with_reducible refine (Fd.calls g s0_0 t136 t137 2 t125 t138 t139 w0 _ ?side1 ?side2 A5.out).mono ?_
  (case side1 => exact Z5)
  (case side2 => exact Z10)
  rintro e w16 ⟨rfl, hi, hb, hk⟩
  refine ⟨_, rfl, ?_⟩
  replace BK141 := am (KeepBut.blk hk (g' := gb141) (o := .cells #[.int .i64 0, .slice none 0 0] 26 (0, 0)) (uK BK141) NB141_0.out Z43)
  replace HO143 := am (Kd.R_mono (Kd.R_keep (IsS47.apart (show IsS47 w0 _ g s0_0 t136 t137 from Z5) (uR HO143) Z16) hk (fun _ h => h.2)) (fun _ h => h.1))
  replace BK144 := am (KeepBut.blk hk (g' := gb144) (o := .cells #[.int .i64 t123, .slice Ao13 t133.length co13] 26 (0, 0)) (uK BK144) NB144_0.out Z43)
  replace HK := am (KeepBut.trans Z8 hk (.inl rfl))
  replace HB := am (hb)
  replace HI0 := am (hi)
  (try clear hb)
  (try clear hb2)
  (try clear hk)
  (try clear hi)
  refine hK.out _ _ ⟨bc BK144 0, bc BK144 1⟩ (fun hHeld => ?_)
  clear hK K
  refine norm_ (a' := ?_) ?_ ?_
  rotate_left
  ·
   show Act.put _ (some 13) _ = _
   simp only [Act.put, setIfInBounds_toArray, set_cons_zero, set_cons_succ, i64_w, i32_w]
   rfl
  refine one_ (i := 4) (N := some 14) (bA 8 31) rfl rfl (one_of HT_.out Z112) Z16 (fun K hK => ?_)
  refine value_ (w1 := ?_) (v := ?_) Z63 rfl ?_ ?_
  rotate_left 2
  ·
   go_simp
   constructor
   ·
    rfl
   rfl
  refine hK.out _ _ ⟨(blk_cell (blk_alloc BK144.out _) 0).trans rfl, (blk_cell (blk_alloc BK144.out _) 1).trans rfl⟩ (fun hHeld => ?_)
  clear hK K
  refine norm_ (a' := ?_) ?_ ?_
  rotate_left
  ·
   show Act.put _ (some 14) _ = _
   simp only [Act.put, setIfInBounds_toArray, set_cons_zero, set_cons_succ, i64_w, i32_w]
   rfl
  refine one_ (i := 5) (N := some 15) (bA 8 63) rfl rfl (one_of HT_.out Z112) Z16 (fun K hK => ?_)
  refine Kd.R_append_step (Kd.int .i64) w.heap.size Z63 (.tmp 11) (.tmp 14) 24 3 (.int .i64 0) 8 rfl Try.underlying24 info3 rfl Z16 Z70 (.slice Ao13 t133.length co13) t133 t125 [.int .i64 t125] (fun _ => True) (fun _ => False) rfl rfl ?aP (fun _ hk => hk.elim) ?aF ?aO (Below.refl _ _) ?aS ?aL ?_
  (case aP => exact rfl)
  (case aF => exact (fun _ _ => trivial))
  (case aO => exact (uR HO143))
  (case aS => exact (keep_size (w := w) (g := g) (row := none) Z8))
  (case aL => have := LMc6.out; omega)
  intro v145 w17 ho hb hg hat
  rw [← Ny140.out] at ho
  replace BK141 := am (blk_grown (g := gb141) (o := .cells #[.int .i64 0, .slice none 0 0] 26 (0, 0)) (uK BK141) hg (Kd.R_ne HO143.out BK141.out Z16))
  replace BK144 := am (blk_grown (g := gb144) (o := .cells #[.int .i64 t123, .slice Ao13 t133.length co13] 26 (0, 0)) (uK BK144) hg (Kd.R_ne HO143.out BK144.out Z16))
  replace HB := am (below_weaken Z10 HL.out hb)
  replace HI0 := am (IsS47.grown Z5 hg (IsS47.own_ne HI0.out HO143.out Z16))
  replace HK := am (KeepBut.trans Z8 (KeepBut.of_grown hg g) (Kd.R_base2 HO143.out))
  have HO146 := am (ho)
  clear HO143
  clear ho hb hg hat
  obtain ⟨Ao18, co18, eo18⟩ := Kd.R_slice HO146.out
  (first | subst eo18 | (injection eo18 with f1_ f2_ f3_; have f4_ := f1_.symm; have f5_ := f3_.symm; clear f1_ f2_ f3_; subst f4_; subst f5_))
  refine hK.out _ _ ⟨bc BK144 0, bc BK144 1⟩ (fun hHeld => ?_)
  clear hK K
  refine norm_ (a' := ?_) ?_ ?_
  rotate_left
  ·
   show Act.put _ (some 15) _ = _
   simp only [Act.put, setIfInBounds_toArray, set_cons_zero, set_cons_succ, i64_w, i32_w]
   rfl
  refine pS 6 16 (bA 8 127) ?_
  refine last_ (i := 7) (N := none) (bA 8 255) rfl rfl (one_of HT_.out Z112) Z16 (fun K hK => ?_)
  have hs19 : w17.cell? ⟨gb144, 1, none⟩ = some (.slice Ao13 t133.length co13) := bc BK144 1
  have hfs19 := blk_frozen BK144.out 1
  have hns19_0 := NB141_144.out
  have hms19_0 := NB144_141.out
  refine skip_ (w1 := ?_) Z63 rfl ?_ ?_
  rotate_left
  ·
   go_simp
   rfl
  refine hK.out _ _ ?_
  clear hK K
  refine done_ (done_of HT_.out Z112) ?_
  obtain ⟨hcz20_0, hcz20_1, hfz20_0, hfz20_1⟩ := ce2 BK144
  have hnb21 := NB141_0.out
  have hnc21 := NB0_141.out
  obtain ⟨hcz22_0, hcz22_1, hfz22_0, hfz22_1⟩ := ce2 BK141
  try go_wp2
  refine bodyPost_ret (results_cell_row rfl _ _ gb141 26 #[.int .i64 t123, .slice Ao18 y140.length co18] (0, 0) _ rfl (pT (pp 1 (pp 0 (pf NB141_144 (pb BK141))))) Try.underlying26 rfl Z112) rfl ?_
  exact ⟨_, Z109, by (with_reducible repeat (first | apply Kd.R_alloc | apply Kd.R_drewN | apply Kd.R_drew)); exact Kd.R_mono (Kd.R_far (p := ⟨gb141, 1, none⟩) (Kd.R_far (p := ⟨gb141, 0, none⟩) (Kd.R_far (p := ⟨gb144, 1, none⟩) (Kd.R_types (Kd.R_types HO146.out BK144.out Z16) BK141.out Z16) (fun _ hk => hk.1.2) (.slice Ao18 y140.length co18)) (fun _ hk => hk.2) (.int .i64 t123)) (fun _ hk => hk.2) (.slice Ao18 y140.length co18)) (fun _ hk => trivial), Z5, Z10, Z8⟩
 rw [if_neg c4] at H
 have c4b0 : (t124 == 0) = false := beq_eq_false_iff_ne.mpr c4
 have c4b1 : (t124 != 0) = true := bne_iff_ne.mpr c4
 by_cases c23 : t124 = 1
 ·
  rw [if_pos c23] at H
  have c23b0 : (t124 == 1) = true := beq_iff_eq.mpr c23
  have c23b1 : (t124 != 1) = false := bne_eq_false_iff_eq.mpr c23
  clear c23
  replace H := Option.bind_eq_some_iff.mp H
  obtain ⟨⟨t126, t147, t148⟩, A149, H⟩ := H
  try dsimp only at H
  have A24 := am A149
  clear A149
  simp only [Option.some.injEq, Prod.mk.injEq] at H
  obtain ⟨rfl, rfl, rfl, rfl⟩ := H
  go_enter Try.func47, Try.ntmps47
  try go_wp2_with (first | ((with_reducible refine gate_dst (N := 2) rfl ?_); refine box_event ?hg (N := 2) ?hd (cs := #[.int .i64 0, .slice none 0 0]) (t := 26) ?hr ?_; (case hd => rfl); (case hg => rfl); (case hr => exact Z111); intro gb141 hg w25 hbox hb; replace HB := am (below_step Z4 hb); have BK141 := am (hbox); have GW141 := am ((by rw [hg]; exact (keep_size (w := w) (g := g) (row := none) Z2) : w.heap.size ≤ gb141)); have GE141 := am ((Nat.le_trans HW0.out (by rw [hg]; exact (keep_size (w := w) (g := g) (row := none) Z2) : w.heap.size ≤ gb141) : w0.heap.size ≤ gb141)); replace HK := am (KeepBut.trans Z2 (KeepBut.of_below hb g none) (.inl rfl)); have NB0_141 := am ((by rw [hg]; exact Nat.ne_of_lt (IsS47.lt (show IsS47 w0 _ g s0_0 s0_1 s0_2 from Z1)) : g ≠ gb141)); have NB141_0 := am ((by rw [hg]; exact Nat.ne_of_gt (IsS47.lt (show IsS47 w0 _ g s0_0 s0_1 s0_2 from Z1)) : gb141 ≠ g)); replace HI0 := am (IsS47.below Z1 hb); clear hb hbox hg) | ((with_reducible refine gate_callee (f := 78) rfl ?_); refine gL 5 rfl Try.func78 #[.pointer (some ⟨g, 0, none⟩), .int .i64 40] ?_; (with_reducible refine (Ft.calls k g s0_0 s0_1 s0_2 40 t123 t133 t134 t135 w0 _ ?side1 ?side2 A2.out).mono ?_); (case side1 => exact Z13); (case side2 => exact Z26); rintro e w26 ⟨v142, rfl, ho0, hi, hb, hk⟩; refine ⟨_, rfl, ?_⟩; replace BK141 := am (KeepBut.blk hk (g' := gb141) (o := .cells #[.int .i64 0, .slice none 0 0] 26 (0, 0)) (uK BK141) NB141_0.out Z43); have HO143 := am (Kd.R_lower ho0 (keep_size (w := w) (g := g) (row := none) Z12)); replace HK := am (KeepBut.trans Z12 hk (.inl rfl)); replace HB := am (hb); replace HI0 := am (hi); (try clear hb); (try clear hb2); (try clear hk); (try clear hi); (try clear ho0)) | ((with_reducible refine gate_dst (N := 3) rfl ?_); refine box_event ?hg (N := 3) ?hd (cs := #[.int .i64 0, .slice none 0 0]) (t := 26) ?hr ?_; (case hd => rfl); (case hg => rfl); (case hr => exact Z111); intro gb144 hg w27 hbox hb; replace HO143 := rB HO143 hb; replace HB := am (below_step Z26 hb); have BK144 := am (hbox); have GW144 := am ((by rw [hg]; exact (keep_size (w := w) (g := g) (row := none) Z12) : w.heap.size ≤ gb144)); have GE144 := am ((Nat.le_trans HW0.out (by rw [hg]; exact (keep_size (w := w) (g := g) (row := none) Z12) : w.heap.size ≤ gb144) : w0.heap.size ≤ gb144)); replace HK := am (KeepBut.trans Z12 (KeepBut.of_below hb g none) (.inl rfl)); have NB141_144 := nL BK141 hg; have NB144_141 := nR BK141 hg; replace BK141 := kB BK141 hb; have NB0_144 := am ((by rw [hg]; exact Nat.ne_of_lt (IsS47.lt (show IsS47 w0 _ g s0_0 t134 t135 from Z13)) : g ≠ gb144)); have NB144_0 := am ((by rw [hg]; exact Nat.ne_of_gt (IsS47.lt (show IsS47 w0 _ g s0_0 t134 t135 from Z13)) : gb144 ≠ g)); replace HI0 := am (IsS47.below Z13 hb); clear hb hbox hg; have hnb28 := NB144_141.out; have hnc28 := NB141_144.out; have hnb29 := NB144_0.out; have hnc29 := NB0_144.out; obtain ⟨hcz30_0, hcz30_1, hfz30_0, hfz30_1⟩ := ce2 BK144; obtain ⟨Ao31, co31, eo31⟩ := Kd.R_slice HO143.out; subst eo31) | ((with_reducible refine gate_callee (f := 44) rfl ?_); refine gL 7 rfl Try.func44 #[.pointer (some ⟨g, 0, none⟩), .int .i64 16] ?_; (with_reducible refine (Fd.calls g s0_0 t134 t135 16 t124 t136 t137 w0 _ ?side1 ?side2 A3.out).mono ?_); (case side1 => exact Z5); (case side2 => exact Z10); rintro e w32 ⟨rfl, hi, hb, hk⟩; refine ⟨_, rfl, ?_⟩; replace BK141 := am (KeepBut.blk hk (g' := gb141) (o := .cells #[.int .i64 0, .slice none 0 0] 26 (0, 0)) (pf NB141_144 (pf NB141_144 (pb BK141))) NB141_0.out Z43); replace HO143 := am (Kd.R_mono (Kd.R_keep (IsS47.apart (show IsS47 w0 _ g s0_0 t134 t135 from Z5) (fS HO143 BK144 Z16) Z16) hk (fun _ h => h.2)) (fun _ h => h.1)); replace BK144 := am (KeepBut.blk hk (g' := gb144) (o := .cells #[.int .i64 t123, .slice Ao31 t133.length co31] 26 (0, 0)) (pT (pp 1 (pp 0 (pb BK144)))) NB144_0.out Z43); replace HK := am (KeepBut.trans Z8 hk (.inl rfl)); replace HB := am (hb); replace HI0 := am (hi); (try clear hb); (try clear hb2); (try clear hk); (try clear hi)))
  replace HO143 := am (Kd.R_drew HO143.out)
  replace BK141 := am (blk_drew BK141.out)
  replace BK144 := am (blk_drew BK144.out)
  replace HI0 := am (IsS47.drew HI0.out)
  replace HK := am (keep_drew HK.out)
  replace HB := am (below_drew1 HB.out)
  refine start_ (n := 8) (S := fun w' => w'.cell? ⟨gb144, 0, none⟩ = some (.int .i64 t123) ∧ w'.cell? ⟨gb144, 1, none⟩ = some (.slice Ao31 t133.length co31)) (ds := [7]) (bA 8 0) Z112 rfl rfl ⟨bc BK144 0, bc BK144 1⟩ (fun hHeld => ?_); refine with_tabW Fq.tab6 Fq.bits6 (fun HT_ HW_ => ?_)
  generalize w32.drew = w33 at HO143 BK141 BK144 HI0 HK HB hHeld ⊢
  refine pS 0 19 (bA 8 1) ?_
  refine pS 2 21 (bA 8 5) ?_
  refine tS2 1 20 (bA 8 7) hHeld ?_
  refine one_ (i := 3) (N := some 22) (bA 8 15) rfl rfl (one_of HT_.out Z112) Z16 (fun K hK => ?_)
  refine goes_ Try.func44 Z112 rfl #[.pointer (some ⟨g, 0, none⟩), .int .i64 3] Z63 rfl rfl Z113 ?_
  with_reducible refine (Fd.calls g s0_0 t136 t137 3 t126 t147 t148 w0 _ ?side1 ?side2 A24.out).mono ?_
  (case side1 => exact Z5)
  (case side2 => exact Z10)
  rintro e w34 ⟨rfl, hi, hb, hk⟩
  refine ⟨_, rfl, ?_⟩
  replace BK141 := am (KeepBut.blk hk (g' := gb141) (o := .cells #[.int .i64 0, .slice none 0 0] 26 (0, 0)) (uK BK141) NB141_0.out Z43)
  replace HO143 := am (Kd.R_mono (Kd.R_keep (IsS47.apart (show IsS47 w0 _ g s0_0 t136 t137 from Z5) (uR HO143) Z16) hk (fun _ h => h.2)) (fun _ h => h.1))
  replace BK144 := am (KeepBut.blk hk (g' := gb144) (o := .cells #[.int .i64 t123, .slice Ao31 t133.length co31] 26 (0, 0)) (uK BK144) NB144_0.out Z43)
  replace HK := am (KeepBut.trans Z8 hk (.inl rfl))
  replace HB := am (hb)
  replace HI0 := am (hi)
  (try clear hb)
  (try clear hb2)
  (try clear hk)
  (try clear hi)
  refine hK.out _ _ ⟨bc BK144 0, bc BK144 1⟩ (fun hHeld => ?_)
  clear hK K
  refine norm_ (a' := ?_) ?_ ?_
  rotate_left
  ·
   show Act.put _ (some 22) _ = _
   simp only [Act.put, setIfInBounds_toArray, set_cons_zero, set_cons_succ, i64_w, i32_w]
   rfl
  refine pS 4 23 (bA 8 31) ?_
  refine pS 5 24 (bA 8 63) ?_
  refine pS 6 25 (bA 8 127) ?_
  refine last_ (i := 7) (N := none) (bA 8 255) rfl rfl (one_of HT_.out Z112) Z16 (fun K hK => ?_)
  have hs35 : w34.cell? ⟨gb144, 0, none⟩ = some (.int .i64 t123) := bc BK144 0
  have hfs35 := blk_frozen BK144.out 0
  have hns35_0 := NB141_144.out
  have hms35_0 := NB144_141.out
  refine skip_ (w1 := ?_) Z63 rfl ?_ ?_
  rotate_left
  ·
   go_simp
   rfl
  refine hK.out _ _ ?_
  clear hK K
  refine done_ (done_of HT_.out Z112) ?_
  obtain ⟨hcz36_0, hcz36_1, hfz36_0, hfz36_1⟩ := ce2 BK144
  have hnb37 := NB141_0.out
  have hnc37 := NB0_141.out
  obtain ⟨hcz38_0, hcz38_1, hfz38_0, hfz38_1⟩ := ce2 BK141
  try go_wp2
  refine bodyPost_ret (results_cell_row rfl _ _ gb141 26 #[.int .i64 (wrap64 (t123 + (wrap64 (t126 - 1)))), .slice Ao31 t133.length co31] (0, 0) _ rfl (pT (pp 1 (pp 0 (pf NB141_144 (pb BK141))))) Try.underlying26 rfl Z112) rfl ?_
  exact ⟨_, Z109, by (with_reducible repeat (first | apply Kd.R_alloc | apply Kd.R_drewN | apply Kd.R_drew)); exact Kd.R_mono (Kd.R_far (p := ⟨gb141, 1, none⟩) (Kd.R_far (p := ⟨gb141, 0, none⟩) (Kd.R_far (p := ⟨gb144, 0, none⟩) (Kd.R_types (Kd.R_types HO143.out BK144.out Z16) BK141.out Z16) (fun _ hk => hk.1.2) (.int .i64 (wrap64 (t123 + (wrap64 (t126 - 1)))))) (fun _ hk => hk.2) (.int .i64 (wrap64 (t123 + (wrap64 (t126 - 1)))))) (fun _ hk => hk.2) (.slice Ao31 t133.length co31)) (fun _ hk => trivial), Z5, Z10, Z8⟩
 rw [if_neg c23] at H
 have c23b0 : (t124 == 1) = false := beq_eq_false_iff_ne.mpr c23
 have c23b1 : (t124 != 1) = true := bne_iff_ne.mpr c23
 by_cases c39 : t124 = 2
 ·
  rw [if_pos c39] at H
  have c39b0 : (t124 == 2) = true := beq_iff_eq.mpr c39
  have c39b1 : (t124 != 2) = false := bne_eq_false_iff_eq.mpr c39
  clear c39
  by_cases c40 : (t133.length : Int) > 0
  ·
   rw [if_pos c40] at H
   have c40b0 := decide_eq_true c40
   have c40b1 : decide (0 < t133.length) = true := decide_eq_true Z70
   clear c40
   replace H := Option.bind_eq_some_iff.mp H
   obtain ⟨⟨t127, t150, t151⟩, A152, H⟩ := H
   try dsimp only at H
   have A41 := am A152
   clear A152
   obtain ⟨y153, hy153⟩ : ∃ y_ : List Int, y_ = (([(-1), 65535, 65536, 40000] : List Int)) := ⟨_, rfl⟩
   replace H : ((FY.f s0_0 t150 t151 y153).bind fun bt128 => (if 0 ≤ t127 then (if t127 < (t133.length : Int) then (some (t123, (t133.set (t127 : Int).toNat bt128.1), bt128.2.1, bt128.2.2)) else (none)) else (none))) = some (r1, r2, r3, r4) := by first | (rw [hy153]; with_reducible exact H) | (have H2_ := (Option.bind_some _ _).symm.trans H; rw [hy153]; with_reducible exact H2_) | (have H2_ := (Option.bind_some _ _).symm.trans H; with_reducible exact H2_) | with_reducible exact H | (rw [hy153]; exact H) | exact H
   have Ny153 := am hy153
   clear hy153
   replace H := Option.bind_eq_some_iff.mp H
   obtain ⟨⟨t128, t154, t155⟩, A156, H⟩ := H
   try dsimp only at H
   have A42 := am A156
   clear A156
   by_cases c43 : 0 ≤ t127
   rotate_left
   ·
    rw [if_neg c43] at H
    exact absurd H Z43
   rw [if_pos c43] at H
   have c43b0 := decide_eq_true c43
   clear c43
   by_cases c44 : t127 < (t133.length : Int)
   rotate_left
   ·
    rw [if_neg c44] at H
    exact absurd H Z43
   rw [if_pos c44] at H
   have c44b0 := decide_eq_true c44
   clear c44
   obtain ⟨y157, hy157⟩ : ∃ y_ : List Int, y_ = (t133.set (t127 : Int).toNat t128) := ⟨_, rfl⟩
   replace H : (some (t123, y157, t154, t155)) = some (r1, r2, r3, r4) := by first | (rw [hy157]; with_reducible exact H) | (have H2_ := (Option.bind_some _ _).symm.trans H; rw [hy157]; with_reducible exact H2_) | (have H2_ := (Option.bind_some _ _).symm.trans H; with_reducible exact H2_) | with_reducible exact H | (rw [hy157]; exact H) | exact H
   have Ny157 := am hy157
   clear hy157
   simp only [Option.some.injEq, Prod.mk.injEq] at H
   obtain ⟨rfl, rfl, rfl, rfl⟩ := H
   go_enter Try.func47, Try.ntmps47
   try go_wp2_with (first | ((with_reducible refine gate_dst (N := 2) rfl ?_); refine box_event ?hg (N := 2) ?hd (cs := #[.int .i64 0, .slice none 0 0]) (t := 26) ?hr ?_; (case hd => rfl); (case hg => rfl); (case hr => exact Z111); intro gb141 hg w46 hbox hb; replace HB := am (below_step Z4 hb); have BK141 := am (hbox); have GW141 := am ((by rw [hg]; exact (keep_size (w := w) (g := g) (row := none) Z2) : w.heap.size ≤ gb141)); have GE141 := am ((Nat.le_trans HW0.out (by rw [hg]; exact (keep_size (w := w) (g := g) (row := none) Z2) : w.heap.size ≤ gb141) : w0.heap.size ≤ gb141)); replace HK := am (KeepBut.trans Z2 (KeepBut.of_below hb g none) (.inl rfl)); have NB0_141 := am ((by rw [hg]; exact Nat.ne_of_lt (IsS47.lt (show IsS47 w0 _ g s0_0 s0_1 s0_2 from Z1)) : g ≠ gb141)); have NB141_0 := am ((by rw [hg]; exact Nat.ne_of_gt (IsS47.lt (show IsS47 w0 _ g s0_0 s0_1 s0_2 from Z1)) : gb141 ≠ g)); replace HI0 := am (IsS47.below Z1 hb); clear hb hbox hg) | ((with_reducible refine gate_callee (f := 78) rfl ?_); refine gL 5 rfl Try.func78 #[.pointer (some ⟨g, 0, none⟩), .int .i64 40] ?_; (with_reducible refine (Ft.calls k g s0_0 s0_1 s0_2 40 t123 t133 t134 t135 w0 _ ?side1 ?side2 A2.out).mono ?_); (case side1 => exact Z13); (case side2 => exact Z26); rintro e w47 ⟨v142, rfl, ho0, hi, hb, hk⟩; refine ⟨_, rfl, ?_⟩; replace BK141 := am (KeepBut.blk hk (g' := gb141) (o := .cells #[.int .i64 0, .slice none 0 0] 26 (0, 0)) (uK BK141) NB141_0.out Z43); have HO143 := am (Kd.R_lower ho0 (keep_size (w := w) (g := g) (row := none) Z12)); replace HK := am (KeepBut.trans Z12 hk (.inl rfl)); replace HB := am (hb); replace HI0 := am (hi); (try clear hb); (try clear hb2); (try clear hk); (try clear hi); (try clear ho0)) | ((with_reducible refine gate_dst (N := 3) rfl ?_); refine box_event ?hg (N := 3) ?hd (cs := #[.int .i64 0, .slice none 0 0]) (t := 26) ?hr ?_; (case hd => rfl); (case hg => rfl); (case hr => exact Z111); intro gb144 hg w48 hbox hb; replace HO143 := rB HO143 hb; replace HB := am (below_step Z26 hb); have BK144 := am (hbox); have GW144 := am ((by rw [hg]; exact (keep_size (w := w) (g := g) (row := none) Z12) : w.heap.size ≤ gb144)); have GE144 := am ((Nat.le_trans HW0.out (by rw [hg]; exact (keep_size (w := w) (g := g) (row := none) Z12) : w.heap.size ≤ gb144) : w0.heap.size ≤ gb144)); replace HK := am (KeepBut.trans Z12 (KeepBut.of_below hb g none) (.inl rfl)); have NB141_144 := nL BK141 hg; have NB144_141 := nR BK141 hg; replace BK141 := kB BK141 hb; have NB0_144 := am ((by rw [hg]; exact Nat.ne_of_lt (IsS47.lt (show IsS47 w0 _ g s0_0 t134 t135 from Z13)) : g ≠ gb144)); have NB144_0 := am ((by rw [hg]; exact Nat.ne_of_gt (IsS47.lt (show IsS47 w0 _ g s0_0 t134 t135 from Z13)) : gb144 ≠ g)); replace HI0 := am (IsS47.below Z13 hb); clear hb hbox hg; have hnb49 := NB144_141.out; have hnc49 := NB141_144.out; have hnb50 := NB144_0.out; have hnc50 := NB0_144.out; obtain ⟨hcz51_0, hcz51_1, hfz51_0, hfz51_1⟩ := ce2 BK144; obtain ⟨Ao52, co52, eo52⟩ := Kd.R_slice HO143.out; subst eo52) | ((with_reducible refine gate_callee (f := 44) rfl ?_); refine gL 7 rfl Try.func44 #[.pointer (some ⟨g, 0, none⟩), .int .i64 16] ?_; (with_reducible refine (Fd.calls g s0_0 t134 t135 16 t124 t136 t137 w0 _ ?side1 ?side2 A3.out).mono ?_); (case side1 => exact Z5); (case side2 => exact Z10); rintro e w53 ⟨rfl, hi, hb, hk⟩; refine ⟨_, rfl, ?_⟩; replace BK141 := am (KeepBut.blk hk (g' := gb141) (o := .cells #[.int .i64 0, .slice none 0 0] 26 (0, 0)) (pf NB141_144 (pf NB141_144 (pb BK141))) NB141_0.out Z43); replace HO143 := am (Kd.R_mono (Kd.R_keep (IsS47.apart (show IsS47 w0 _ g s0_0 t134 t135 from Z5) (fS HO143 BK144 Z16) Z16) hk (fun _ h => h.2)) (fun _ h => h.1)); replace BK144 := am (KeepBut.blk hk (g' := gb144) (o := .cells #[.int .i64 t123, .slice Ao52 t133.length co52] 26 (0, 0)) (pT (pp 1 (pp 0 (pb BK144)))) NB144_0.out Z43); replace HK := am (KeepBut.trans Z8 hk (.inl rfl)); replace HB := am (hb); replace HI0 := am (hi); (try clear hb); (try clear hb2); (try clear hk); (try clear hi); obtain ⟨hcz54_0, hcz54_1, hfz54_0, hfz54_1⟩ := ce2 BK144))
   replace HO143 := am (Kd.R_drew HO143.out)
   replace BK141 := am (blk_drew BK141.out)
   replace BK144 := am (blk_drew BK144.out)
   replace HI0 := am (IsS47.drew HI0.out)
   replace HK := am (keep_drew HK.out)
   replace HB := am (below_drew1 HB.out)
   refine start_ (n := 12) (S := fun w' => w'.cell? ⟨gb144, 0, none⟩ = some (.int .i64 t123) ∧ w'.cell? ⟨gb144, 1, none⟩ = some (.slice Ao52 t133.length co52)) (ds := [11]) (bA 12 0) Z112 rfl rfl ⟨bc BK144 0, bc BK144 1⟩ (fun hHeld => ?_); refine with_tabW Fq.tab9 Fq.bits9 (fun HT_ HW_ => ?_)
   generalize w53.drew = w55 at HO143 BK141 BK144 HI0 HK HB hHeld ⊢
   refine pS 0 32 (bA 12 1) ?_
   refine pS 2 34 (bA 12 5) ?_
   refine pS 3 35 (bA 12 13) ?_
   refine pS 7 39 (bA 12 141) ?_
   refine tS2 1 33 (bA 12 143) hHeld ?_
   refine tS2 4 36 (bA 12 159) hHeld ?_
   refine pS 5 37 (bA 12 191) ?_
   refine join_ (σ := Value) 3 (bA 12 511) (fun s_ => [(38, .int .i64 t127), (40, s_)]) (fun s_ w' => (w'.cell? ⟨gb144, 0, none⟩ = some (.int .i64 t123) ∧ w'.cell? ⟨gb144, 1, none⟩ = some (.slice Ao52 t133.length co52)) ∧ (Kd.R (Kd.int .i64) 3 w' w.heap.size (fun k_ => some k_ ≠ (s_ : Value).ownBlock) (.slice Ao52 t133.length co52) t133) ∧ (Kd.R (Kd.int .i64) 3 w' w.heap.size (fun k_ => some k_ ≠ (.slice Ao52 t133.length co52 : Value).ownBlock) s_ y153) ∧ (w'.heap[gb141]? = some (.cells #[.int .i64 0, .slice none 0 0] 26 (0, 0))) ∧ (w'.heap[gb144]? = some (.cells #[.int .i64 t123, .slice Ao52 t133.length co52] 26 (0, 0))) ∧ (IsS47 w0 w' g s0_0 t150 t151) ∧ (KeepBut w w' g none) ∧ (Below w0.heap.size w0 w')) ?_ ?_
   rotate_left
   ·
    intro hCont
    refine two_ (i := 6) (j := 8) (Ni := some 38) (Nj := some 40) (bA 12 255) (bA 12 447) rfl rfl rfl rfl (two_of HT_.out Z112) Z16 Z16 (fun K hK => ?_) (fun K hK => ?_)
    ·
     skip
     refine goes_ Try.func44 Z112 rfl #[.pointer (some ⟨g, 0, none⟩), .int .i64 (t133.length : Int)] Z63 rfl rfl Z113 ?_
     with_reducible refine (Fd.calls g s0_0 t136 t137 (t133.length : Int) t127 t150 t151 w0 _ ?side1 ?side2 A41.out).mono ?_
     (case side1 => exact Z5)
     (case side2 => exact Z10)
     rintro e w56 ⟨rfl, hi, hb, hk⟩
     refine ⟨_, rfl, ?_⟩
     replace BK141 := am (KeepBut.blk hk (g' := gb141) (o := .cells #[.int .i64 0, .slice none 0 0] 26 (0, 0)) (uK BK141) NB141_0.out Z43)
     replace HO143 := am (Kd.R_mono (Kd.R_keep (IsS47.apart (show IsS47 w0 _ g s0_0 t136 t137 from Z5) (uR HO143) Z16) hk (fun _ h => h.2)) (fun _ h => h.1))
     replace BK144 := am (KeepBut.blk hk (g' := gb144) (o := .cells #[.int .i64 t123, .slice Ao52 t133.length co52] 26 (0, 0)) (uK BK144) NB144_0.out Z43)
     replace HK := am (KeepBut.trans Z8 hk (.inl rfl))
     replace HB := am (hb)
     replace HI0 := am (hi)
     (try clear hb)
     (try clear hb2)
     (try clear hk)
     (try clear hi)
     refine hK.out _ _ ⟨bc BK144 0, bc BK144 1⟩ (fun hHeld => ?_)
     clear hK K
     refine norm_ (a' := ?_) ?_ ?_
     rotate_left
     ·
      show Act.put _ (some 38) _ = _
      simp only [Act.put, setIfInBounds_toArray, set_cons_zero, set_cons_succ, i64_w, i32_w]
      rfl
     refine one_ (i := 8) (N := some 40) (bA 12 511) rfl rfl (one_of HT_.out Z112) Z16 (fun K hK => ?_)
     refine Kd.R_lit_step (Kd.int .i64) _ 3 ?hg (N := 40) ?hd (xs := ([(-1), 65535, 65536, 40000] : List Int)) (inner := [.int .i64 (-1), .int .i64 65535, .int .i64 65536, .int .i64 40000]) (ok := fun _ => True) (okp := fun _ => True) ?hr ?hp (fun _ hk => hk) trivial (Below.refl _ _) (Nat.le_refl _) Z43 ?_; (case hd => rfl); (case hg => rfl); (case hr => exact Z111); (case hp => exact (Reps.one (show Kd.M (Kd.int .i64) _ _ _ (-1) [.int .i64 (-1)] from rfl) (Reps.one (show Kd.M (Kd.int .i64) _ _ _ 65535 [.int .i64 65535] from rfl) (Reps.one (show Kd.M (Kd.int .i64) _ _ _ 65536 [.int .i64 65536] from rfl) (Reps.one (show Kd.M (Kd.int .i64) _ _ _ 40000 [.int .i64 40000] from rfl) (Reps.none _ _))))))
     intro v158 w57 ho58 hb hg_ hnew_
     clear hg_ hnew_
     (first | rw [← Ny153.out] at ho58 | (simp only [Int.reduceToNat] at ho58; rw [← Ny153.out] at ho58))
     have HO159 := am (Kd.R_lower (Kd.R_new' ho58 (Kd.R_lt (uR HO143))) (keep_size (w := w) (g := g) (row := none) Z8))
     replace HO143 := am (Kd.R_elder' (uR HO143) (Kd.R_base ho58) hb)
     replace BK141 := kB BK141 hb
     replace BK144 := kB BK144 hb
     replace HK := am (KeepBut.trans Z8 (KeepBut.of_below hb g none) (.inl rfl))
     replace HB := am (below_step Z10 hb)
     replace HI0 := am (IsS47.below Z5 hb)
     clear hb ho58
     refine hK.out _ _ ⟨bc BK144 0, bc BK144 1⟩ (fun hHeld => ?_)
     clear hK K
     refine norm_ (a' := ?_) ?_ ?_
     rotate_left
     ·
      show Act.put _ (some 40) _ = _
      simp only [Act.put, setIfInBounds_toArray, set_cons_zero, set_cons_succ, i64_w, i32_w]
      rfl
     exact norm_ Z131 (hCont (v158) _ ⟨hHeld, Z87, Z86, (uK BK141), (uK BK144), Z5, Z8, Z10⟩)
    skip
    refine Kd.R_lit_step (Kd.int .i64) _ 3 ?hg (N := 40) ?hd (xs := ([(-1), 65535, 65536, 40000] : List Int)) (inner := [.int .i64 (-1), .int .i64 65535, .int .i64 65536, .int .i64 40000]) (ok := fun _ => True) (okp := fun _ => True) ?hr ?hp (fun _ hk => hk) trivial (Below.refl _ _) (Nat.le_refl _) Z43 ?_; (case hd => rfl); (case hg => rfl); (case hr => exact Z111); (case hp => exact (Reps.one (show Kd.M (Kd.int .i64) _ _ _ (-1) [.int .i64 (-1)] from rfl) (Reps.one (show Kd.M (Kd.int .i64) _ _ _ 65535 [.int .i64 65535] from rfl) (Reps.one (show Kd.M (Kd.int .i64) _ _ _ 65536 [.int .i64 65536] from rfl) (Reps.one (show Kd.M (Kd.int .i64) _ _ _ 40000 [.int .i64 40000] from rfl) (Reps.none _ _))))))
    intro v158 w56 ho57 hb hg_ hnew_
    clear hg_ hnew_
    (first | rw [← Ny153.out] at ho57 | (simp only [Int.reduceToNat] at ho57; rw [← Ny153.out] at ho57))
    have HO159 := am (Kd.R_lower (Kd.R_new' ho57 (Kd.R_lt (uR HO143))) (keep_size (w := w) (g := g) (row := none) Z8))
    replace HO143 := am (Kd.R_elder' (uR HO143) (Kd.R_base ho57) hb)
    replace BK141 := kB BK141 hb
    replace BK144 := kB BK144 hb
    replace HK := am (KeepBut.trans Z8 (KeepBut.of_below hb g none) (.inl rfl))
    replace HB := am (below_step Z10 hb)
    replace HI0 := am (IsS47.below Z5 hb)
    clear hb ho57
    refine hK.out _ _ ⟨bc BK144 0, bc BK144 1⟩ (fun hHeld => ?_)
    clear hK K
    refine norm_ (a' := ?_) ?_ ?_
    rotate_left
    ·
     show Act.put _ (some 40) _ = _
     simp only [Act.put, setIfInBounds_toArray, set_cons_zero, set_cons_succ, i64_w, i32_w]
     rfl
    refine one_ (i := 6) (N := some 38) (bA 12 511) rfl rfl (one_of HT_.out Z112) Z16 (fun K hK => ?_)
    refine goes_ Try.func44 Z112 rfl #[.pointer (some ⟨g, 0, none⟩), .int .i64 (t133.length : Int)] Z63 rfl rfl Z113 ?_
    with_reducible refine (Fd.calls g s0_0 t136 t137 (t133.length : Int) t127 t150 t151 w0 _ ?side1 ?side2 A41.out).mono ?_
    (case side1 => exact Z5)
    (case side2 => exact Z10)
    rintro e w58 ⟨rfl, hi, hb, hk⟩
    refine ⟨_, rfl, ?_⟩
    replace BK141 := am (KeepBut.blk hk (g' := gb141) (o := .cells #[.int .i64 0, .slice none 0 0] 26 (0, 0)) (uK BK141) NB141_0.out Z43)
    replace HO143 := am (Kd.R_mono (Kd.R_keep (IsS47.apart (show IsS47 w0 _ g s0_0 t136 t137 from Z5) (uR HO143) Z16) hk (fun _ h => h.2)) (fun _ h => h.1))
    replace BK144 := am (KeepBut.blk hk (g' := gb144) (o := .cells #[.int .i64 t123, .slice Ao52 t133.length co52] 26 (0, 0)) (uK BK144) NB144_0.out Z43)
    replace HO159 := am (Kd.R_mono (Kd.R_keep (IsS47.apart (show IsS47 w0 _ g s0_0 t136 t137 from Z5) (uR HO159) Z16) hk (fun _ h => h.2)) (fun _ h => h.1))
    replace HK := am (KeepBut.trans Z8 hk (.inl rfl))
    replace HB := am (hb)
    replace HI0 := am (hi)
    (try clear hb)
    (try clear hb2)
    (try clear hk)
    (try clear hi)
    refine hK.out _ _ ⟨bc BK144 0, bc BK144 1⟩ (fun hHeld => ?_)
    clear hK K
    refine norm_ (a' := ?_) ?_ ?_
    rotate_left
    ·
     show Act.put _ (some 38) _ = _
     simp only [Act.put, setIfInBounds_toArray, set_cons_zero, set_cons_succ, i64_w, i32_w]
     rfl
    exact norm_ Z131 (hCont (v158) _ ⟨hHeld, Z87, Z86, (uK BK141), (uK BK144), Z5, Z8, Z10⟩)
   rintro v158 w59 ⟨hS_, h0_, h1_, h2_, h3_, h4_, h5_, h6_⟩
   have n0_ : Aside0 (Kd.R (Kd.int .i64) 3 w59 w.heap.size (fun k_ => some k_ ≠ (v158 : Value).ownBlock) (.slice Ao52 t133.length co52) t133) := ⟨h0_⟩
   have n1_ : Aside0 (Kd.R (Kd.int .i64) 3 w59 w.heap.size (fun k_ => some k_ ≠ (.slice Ao52 t133.length co52 : Value).ownBlock) v158 y153) := ⟨h1_⟩
   have n2_ : Aside0 (w59.heap[gb141]? = some (.cells #[.int .i64 0, .slice none 0 0] 26 (0, 0))) := ⟨h2_⟩
   have n3_ : Aside0 (w59.heap[gb144]? = some (.cells #[.int .i64 t123, .slice Ao52 t133.length co52] 26 (0, 0))) := ⟨h3_⟩
   have n4_ : Aside0 (IsS47 w0 w59 g s0_0 t150 t151) := ⟨h4_⟩
   have n5_ : Aside0 (KeepBut w w59 g none) := ⟨h5_⟩
   have n6_ : Aside0 (Below w0.heap.size w0 w59) := ⟨h6_⟩
   clear HO143
   clear BK141
   clear BK144
   clear HI0
   clear HK
   clear HB
   clear h0_ h1_ h2_ h3_ h4_ h5_ h6_
   have HO143 := n0_
   have HO159 := n1_
   have BK141 := n2_
   have BK144 := n3_
   have HI0 := n4_
   have HK := n5_
   have HB := n6_
   clear n0_ n1_ n2_ n3_ n4_ n5_ n6_
   have hHeld : w59.cell? ⟨gb144, 0, none⟩ = some (.int .i64 t123) ∧ w59.cell? ⟨gb144, 1, none⟩ = some (.slice Ao52 t133.length co52) := hS_
   obtain ⟨Ao60, co60, eo60⟩ := Kd.R_slice HO159.out
   (first | subst eo60 | (injection eo60 with f1_ f2_ f3_; have f4_ := f1_.symm; have f5_ := f3_.symm; clear f1_ f2_ f3_; subst f4_; subst f5_))
   refine norm_ (a' := ?_) ?_ ?_
   rotate_left
   ·
    simp only [putAll, Act.put, setIfInBounds_toArray, set_cons_zero, set_cons_succ]
    rfl
   refine one_ (i := 9) (N := some 41) (bA 12 1023) rfl rfl (one_of HT_.out Z112) Z16 (fun K hK => ?_)
   refine goes_ Try.func72 Z112 rfl #[.pointer (some ⟨g, 0, none⟩), .slice Ao60 y153.length co60] Z63 rfl rfl Z113 ?_
   with_reducible refine (FY.calls g s0_0 t150 t151 _ _ y153 t128 t154 t155 w0 _ ?side1 ?side2 ?side3 ?side4 ?side5 A42.out).mono ?_
   (case side1 => exact Z5)
   (case side2 => exact Z10)
   (case side3 => exact uD HO159)
   (case side4 => exact (Kd.R_reads' HO159.out).2.1)
   (case side5 => exact far_slice (IsS47.own_ne HI0.out HO159.out Z16))
   rintro e w61 ⟨rfl, hi, hb, hk⟩
   refine ⟨_, rfl, ?_⟩
   replace BK141 := am (KeepBut.blk hk (g' := gb141) (o := .cells #[.int .i64 0, .slice none 0 0] 26 (0, 0)) (uK BK141) NB141_0.out Z43)
   replace HO143 := am (Kd.R_mono (Kd.R_keep (IsS47.apart (show IsS47 w0 _ g s0_0 t150 t151 from Z5) (uR HO143) Z16) hk (fun _ h => h.2)) (fun _ h => h.1))
   replace BK144 := am (KeepBut.blk hk (g' := gb144) (o := .cells #[.int .i64 t123, .slice Ao52 t133.length co52] 26 (0, 0)) (uK BK144) NB144_0.out Z43)
   replace HO159 := am (Kd.R_mono (Kd.R_keep (IsS47.apart (show IsS47 w0 _ g s0_0 t150 t151 from Z5) (uR HO159) Z16) hk (fun _ h => h.2)) (fun _ h => h.1))
   replace HK := am (KeepBut.trans Z8 hk (.inl rfl))
   replace HB := am (hb)
   replace HI0 := am (hi)
   (try clear hb)
   (try clear hb2)
   (try clear hk)
   (try clear hi)
   have p45 : 0 ≤ (t127 : Int) := of_decide_eq_true Z6
   have q45 : (t127 : Int) < ((t133.length : Int) : Int) := of_decide_eq_true Z6
   obtain ⟨go45, co45, eo45, gb45, gl45, cl45, HG45⟩ := Kd.R_form HO143.out Z70
   (first | cases eo45 | (injection eo45 with ea_ en_ ec_; (first | subst ea_ | (injection ea_ with ea_; subst ea_)); subst ec_; clear en_))
   have GB45 := am gb45
   have GG45 := am HG45
   clear gb45 gl45 HG45
   obtain ⟨hx45_0, hf45_0⟩ := Kd.R_celln 0 HO143.out (t127 : Int) p45 q45
   replace p45 := eq_true p45
   replace q45 := eq_true q45
   have HN0_go45 := am (show g ≠ go45 from by have h_ := IsS47.own_ne HI0.out HO143.out Z16; intro e_; exact h_ (by rw [e_]; rfl))
   have HP62 := Kd.R_putn HO143.out (t127 : Int) t128
   rw [← Ny157.out] at HP62
   have HQ62 := am HP62
   clear HP62
   refine hK.out _ _ ⟨bc BK144 0, bc BK144 1⟩ (fun hHeld => ?_)
   clear hK K
   refine norm_ (a' := ?_) ?_ ?_
   rotate_left
   ·
    show Act.put _ (some 41) _ = _
    simp only [Act.put, setIfInBounds_toArray, set_cons_zero, set_cons_succ, i64_w, i32_w]
    rfl
   refine pS 10 42 (bA 12 2047) ?_
   refine last_ (i := 11) (N := none) (bA 12 4095) rfl rfl (one_of HT_.out Z112) Z16 (fun K hK => ?_)
   refine skip_ (w1 := ?_) Z63 rfl ?_ ?_
   rotate_left
   ·
    go_simp
    rfl
   refine hK.out _ _ ?_
   clear hK K
   refine done_ (done_of HT_.out Z112) ?_
   have n0_ : Aside0 (Kd.R (Kd.int .i64) 3 (w61.setCell ⟨go45, (t127 : Int).toNat, none⟩ (.int .i64 t128)) w.heap.size (fun k_ => some k_ ≠ (.slice Ao60 y153.length co60 : Value).ownBlock) (.slice (some ⟨go45, 0, none⟩) t133.length co52) y157) := ⟨by (with_reducible repeat (first | apply Kd.R_alloc | apply Kd.R_drewN | apply Kd.R_drew)); exact HQ62.out⟩
   have n1_ : Aside0 (Kd.R (Kd.int .i64) 3 (w61.setCell ⟨go45, (t127 : Int).toNat, none⟩ (.int .i64 t128)) w.heap.size (fun k_ => some k_ ≠ (.slice (some ⟨go45, 0, none⟩) t133.length co52 : Value).ownBlock) (.slice Ao60 y153.length co60) y153) := ⟨by (with_reducible repeat (first | apply Kd.R_alloc | apply Kd.R_drewN | apply Kd.R_drew)); exact Kd.R_mono (Kd.R_far (p := ⟨go45, (t127 : Int).toNat, none⟩) (Kd.R_mono HO159.out (fun k_ hk => (⟨hk, fun e_ => hk (by rw [e_]; rfl)⟩ : _ ∧ k_ ≠ go45))) (fun _ hk => hk.2) (.int .i64 t128)) (fun _ hk => hk.1)⟩
   have n2_ : Aside0 ((w61.setCell ⟨go45, (t127 : Int).toNat, none⟩ (.int .i64 t128)).heap[gb141]? = some (.cells #[.int .i64 0, .slice none 0 0] 26 (0, 0))) := ⟨by refine uW ?_; refine blk_far ?_ (by have h_ := Kd.R_ne HO143.out BK141.out Z16; intro e_; exact h_ (by rw [e_]; rfl)) _; refine uW ?_; exact BK141.out⟩
   have n3_ : Aside0 ((w61.setCell ⟨go45, (t127 : Int).toNat, none⟩ (.int .i64 t128)).heap[gb144]? = some (.cells #[.int .i64 t123, .slice (some ⟨go45, 0, none⟩) t133.length co52] 26 (0, 0))) := ⟨by refine uW ?_; refine blk_far ?_ (by have h_ := Kd.R_ne HO143.out BK144.out Z16; intro e_; exact h_ (by rw [e_]; rfl)) _; refine uW ?_; exact BK144.out⟩
   have n4_ : Aside0 (IsS47 w0 (w61.setCell ⟨go45, (t127 : Int).toNat, none⟩ (.int .i64 t128)) g s0_0 t154 t155) := ⟨by repeat (first | (with_reducible first | exact HI0.out | apply IsS47.alloc | apply IsS47.drewN | apply IsS47.drew | apply IsS47.set_1 | apply IsS47.set_2 | refine IsS47.far ?_ HN0_go45.out _ | refine IsS47.far ?_ NB0_141.out _ | refine IsS47.far ?_ NB0_144.out _) | exact HI0.out)⟩
   have n5_ : Aside0 (KeepBut w (w61.setCell ⟨go45, (t127 : Int).toNat, none⟩ (.int .i64 t128)) g none) := ⟨by repeat (first | (with_reducible first | exact HK.out | apply KeepBut.set_ | apply keep_drewN | apply keep_drew | apply keep_alloc | refine keep_far ?_ GB45.out _ | refine keep_far ?_ GW141.out _ | refine keep_far ?_ GW144.out _) | exact HK.out)⟩
   have n6_ : Aside0 (Below w0.heap.size w0 (w61.setCell ⟨go45, (t127 : Int).toNat, none⟩ (.int .i64 t128))) := ⟨by repeat (first | (with_reducible first | exact HB.out | apply below_alloc | apply pw_below_drewN | apply below_drew1 | refine below_set ?_ (Nat.le_trans HL.out GB45.out) | refine below_set ?_ (IsS47.ge HI0.out) | refine below_set ?_ GE141.out | refine below_set ?_ GE144.out) | exact HB.out)⟩
   (try clear HO143)
   (try clear HO159)
   (try clear BK141)
   (try clear BK144)
   (try clear HI0)
   (try clear HK)
   (try clear HB)
   generalize (w61.setCell ⟨go45, (t127 : Int).toNat, none⟩ (.int .i64 t128)) = w63 at n0_ n1_ n2_ n3_ n4_ n5_ n6_ ⊢
   have HO143 := n0_
   have HO159 := n1_
   have BK141 := n2_
   have BK144 := n3_
   have HI0 := n4_
   have HK := n5_
   have HB := n6_
   clear n0_ n1_ n2_ n3_ n4_ n5_ n6_
   obtain ⟨hcz64_0, hcz64_1, hfz64_0, hfz64_1⟩ := ce2 BK144
   have hnb65 := NB141_0.out
   have hnc65 := NB0_141.out
   obtain ⟨hcz66_0, hcz66_1, hfz66_0, hfz66_1⟩ := ce2 BK141
   try go_wp2
   refine bodyPost_ret (results_cell_row rfl _ _ gb141 26 #[.int .i64 t123, .slice (some ⟨go45, 0, none⟩) t133.length co52] (0, 0) _ rfl (pT (pp 1 (pp 0 (pb BK141)))) Try.underlying26 rfl Z112) rfl ?_
   exact ⟨_, Z109, Z132, Z5, Z10, Z8⟩
  rw [if_neg c40] at H
  have c40b0 := decide_eq_false c40
  have c40b1 : decide (0 < t133.length) = false := decide_eq_false Z70
  clear c40
  simp only [Option.some.injEq, Prod.mk.injEq] at H
  obtain ⟨rfl, rfl, rfl, rfl⟩ := H
  go_enter Try.func47, Try.ntmps47
  go_wp2_with (first | ((with_reducible refine gate_dst (N := 2) rfl ?_); refine box_event ?hg (N := 2) ?hd (cs := #[.int .i64 0, .slice none 0 0]) (t := 26) ?hr ?_; (case hd => rfl); (case hg => rfl); (case hr => exact Z111); intro gb141 hg w67 hbox hb; replace HB := am (below_step Z4 hb); have BK141 := am (hbox); have GW141 := am ((by rw [hg]; exact (keep_size (w := w) (g := g) (row := none) Z2) : w.heap.size ≤ gb141)); have GE141 := am ((Nat.le_trans HW0.out (by rw [hg]; exact (keep_size (w := w) (g := g) (row := none) Z2) : w.heap.size ≤ gb141) : w0.heap.size ≤ gb141)); replace HK := am (KeepBut.trans Z2 (KeepBut.of_below hb g none) (.inl rfl)); have NB0_141 := am ((by rw [hg]; exact Nat.ne_of_lt (IsS47.lt (show IsS47 w0 _ g s0_0 s0_1 s0_2 from Z1)) : g ≠ gb141)); have NB141_0 := am ((by rw [hg]; exact Nat.ne_of_gt (IsS47.lt (show IsS47 w0 _ g s0_0 s0_1 s0_2 from Z1)) : gb141 ≠ g)); replace HI0 := am (IsS47.below Z1 hb); clear hb hbox hg) | ((with_reducible refine gate_callee (f := 78) rfl ?_); refine gL 5 rfl Try.func78 #[.pointer (some ⟨g, 0, none⟩), .int .i64 40] ?_; (with_reducible refine (Ft.calls k g s0_0 s0_1 s0_2 40 t123 t133 t134 t135 w0 _ ?side1 ?side2 A2.out).mono ?_); (case side1 => exact Z13); (case side2 => exact Z26); rintro e w68 ⟨v142, rfl, ho0, hi, hb, hk⟩; refine ⟨_, rfl, ?_⟩; replace BK141 := am (KeepBut.blk hk (g' := gb141) (o := .cells #[.int .i64 0, .slice none 0 0] 26 (0, 0)) (uK BK141) NB141_0.out Z43); have HO143 := am (Kd.R_lower ho0 (keep_size (w := w) (g := g) (row := none) Z12)); replace HK := am (KeepBut.trans Z12 hk (.inl rfl)); replace HB := am (hb); replace HI0 := am (hi); (try clear hb); (try clear hb2); (try clear hk); (try clear hi); (try clear ho0)) | ((with_reducible refine gate_dst (N := 3) rfl ?_); refine box_event ?hg (N := 3) ?hd (cs := #[.int .i64 0, .slice none 0 0]) (t := 26) ?hr ?_; (case hd => rfl); (case hg => rfl); (case hr => exact Z111); intro gb144 hg w69 hbox hb; replace HO143 := rB HO143 hb; replace HB := am (below_step Z26 hb); have BK144 := am (hbox); have GW144 := am ((by rw [hg]; exact (keep_size (w := w) (g := g) (row := none) Z12) : w.heap.size ≤ gb144)); have GE144 := am ((Nat.le_trans HW0.out (by rw [hg]; exact (keep_size (w := w) (g := g) (row := none) Z12) : w.heap.size ≤ gb144) : w0.heap.size ≤ gb144)); replace HK := am (KeepBut.trans Z12 (KeepBut.of_below hb g none) (.inl rfl)); have NB141_144 := nL BK141 hg; have NB144_141 := nR BK141 hg; replace BK141 := kB BK141 hb; have NB0_144 := am ((by rw [hg]; exact Nat.ne_of_lt (IsS47.lt (show IsS47 w0 _ g s0_0 t134 t135 from Z13)) : g ≠ gb144)); have NB144_0 := am ((by rw [hg]; exact Nat.ne_of_gt (IsS47.lt (show IsS47 w0 _ g s0_0 t134 t135 from Z13)) : gb144 ≠ g)); replace HI0 := am (IsS47.below Z13 hb); clear hb hbox hg; have hnb70 := NB144_141.out; have hnc70 := NB141_144.out; have hnb71 := NB144_0.out; have hnc71 := NB0_144.out; obtain ⟨hcz72_0, hcz72_1, hfz72_0, hfz72_1⟩ := ce2 BK144; obtain ⟨Ao73, co73, eo73⟩ := Kd.R_slice HO143.out; subst eo73) | ((with_reducible refine gate_callee (f := 44) rfl ?_); refine gL 7 rfl Try.func44 #[.pointer (some ⟨g, 0, none⟩), .int .i64 16] ?_; (with_reducible refine (Fd.calls g s0_0 t134 t135 16 t124 t136 t137 w0 _ ?side1 ?side2 A3.out).mono ?_); (case side1 => exact Z5); (case side2 => exact Z10); rintro e w74 ⟨rfl, hi, hb, hk⟩; refine ⟨_, rfl, ?_⟩; replace BK141 := am (KeepBut.blk hk (g' := gb141) (o := .cells #[.int .i64 0, .slice none 0 0] 26 (0, 0)) (pf NB141_144 (pf NB141_144 (pb BK141))) NB141_0.out Z43); replace HO143 := am (Kd.R_mono (Kd.R_keep (IsS47.apart (show IsS47 w0 _ g s0_0 t134 t135 from Z5) (fS HO143 BK144 Z16) Z16) hk (fun _ h => h.2)) (fun _ h => h.1)); replace BK144 := am (KeepBut.blk hk (g' := gb144) (o := .cells #[.int .i64 t123, .slice Ao73 t133.length co73] 26 (0, 0)) (pT (pp 1 (pp 0 (pb BK144)))) NB144_0.out Z43); replace HK := am (KeepBut.trans Z8 hk (.inl rfl)); replace HB := am (hb); replace HI0 := am (hi); (try clear hb); (try clear hb2); (try clear hk); (try clear hi); obtain ⟨hcz75_0, hcz75_1, hfz75_0, hfz75_1⟩ := ce2 BK144; have hnb76 := NB141_0.out; have hnc76 := NB0_141.out; obtain ⟨hcz77_0, hcz77_1, hfz77_0, hfz77_1⟩ := ce2 BK141))
  refine bodyPost_ret (results_cell_row rfl _ _ gb141 26 #[.int .i64 t123, .slice Ao73 t133.length co73] (0, 0) _ rfl (pT (pp 1 (pp 0 (pb BK141)))) Try.underlying26 rfl Z112) rfl ?_
  exact ⟨_, Z109, Z132, Z5, Z10, Z8⟩
 rw [if_neg c39] at H
 have c39b0 : (t124 == 2) = false := beq_eq_false_iff_ne.mpr c39
 have c39b1 : (t124 != 2) = true := bne_iff_ne.mpr c39
 by_cases c78 : t124 = 3
 ·
  rw [if_pos c78] at H
  have c78b0 : (t124 == 3) = true := beq_iff_eq.mpr c78
  have c78b1 : (t124 != 3) = false := bne_eq_false_iff_eq.mpr c78
  clear c78
  replace H := Option.bind_eq_some_iff.mp H
  obtain ⟨⟨t129, t160, t161⟩, A162, H⟩ := H
  try dsimp only at H
  have A79 := am A162
  clear A162
  replace H := Option.bind_eq_some_iff.mp H
  obtain ⟨⟨t130, t163⟩, A164, H⟩ := H
  try dsimp only at H
  have A80 := am A164
  clear A164
  simp only [Option.some.injEq, Prod.mk.injEq] at H
  obtain ⟨rfl, rfl, rfl, rfl⟩ := H
  go_enter Try.func47, Try.ntmps47
  go_wp2_with (first | ((with_reducible refine gate_dst (N := 2) rfl ?_); refine box_event ?hg (N := 2) ?hd (cs := #[.int .i64 0, .slice none 0 0]) (t := 26) ?hr ?_; (case hd => rfl); (case hg => rfl); (case hr => exact Z111); intro gb141 hg w81 hbox hb; replace HB := am (below_step Z4 hb); have BK141 := am (hbox); have GW141 := am ((by rw [hg]; exact (keep_size (w := w) (g := g) (row := none) Z2) : w.heap.size ≤ gb141)); have GE141 := am ((Nat.le_trans HW0.out (by rw [hg]; exact (keep_size (w := w) (g := g) (row := none) Z2) : w.heap.size ≤ gb141) : w0.heap.size ≤ gb141)); replace HK := am (KeepBut.trans Z2 (KeepBut.of_below hb g none) (.inl rfl)); have NB0_141 := am ((by rw [hg]; exact Nat.ne_of_lt (IsS47.lt (show IsS47 w0 _ g s0_0 s0_1 s0_2 from Z1)) : g ≠ gb141)); have NB141_0 := am ((by rw [hg]; exact Nat.ne_of_gt (IsS47.lt (show IsS47 w0 _ g s0_0 s0_1 s0_2 from Z1)) : gb141 ≠ g)); replace HI0 := am (IsS47.below Z1 hb); clear hb hbox hg) | ((with_reducible refine gate_callee (f := 78) rfl ?_); refine gL 5 rfl Try.func78 #[.pointer (some ⟨g, 0, none⟩), .int .i64 40] ?_; (with_reducible refine (Ft.calls k g s0_0 s0_1 s0_2 40 t123 t133 t134 t135 w0 _ ?side1 ?side2 A2.out).mono ?_); (case side1 => exact Z13); (case side2 => exact Z26); rintro e w82 ⟨v142, rfl, ho0, hi, hb, hk⟩; refine ⟨_, rfl, ?_⟩; replace BK141 := am (KeepBut.blk hk (g' := gb141) (o := .cells #[.int .i64 0, .slice none 0 0] 26 (0, 0)) (uK BK141) NB141_0.out Z43); have HO143 := am (Kd.R_lower ho0 (keep_size (w := w) (g := g) (row := none) Z12)); replace HK := am (KeepBut.trans Z12 hk (.inl rfl)); replace HB := am (hb); replace HI0 := am (hi); (try clear hb); (try clear hb2); (try clear hk); (try clear hi); (try clear ho0)) | ((with_reducible refine gate_dst (N := 3) rfl ?_); refine box_event ?hg (N := 3) ?hd (cs := #[.int .i64 0, .slice none 0 0]) (t := 26) ?hr ?_; (case hd => rfl); (case hg => rfl); (case hr => exact Z111); intro gb144 hg w83 hbox hb; replace HO143 := rB HO143 hb; replace HB := am (below_step Z26 hb); have BK144 := am (hbox); have GW144 := am ((by rw [hg]; exact (keep_size (w := w) (g := g) (row := none) Z12) : w.heap.size ≤ gb144)); have GE144 := am ((Nat.le_trans HW0.out (by rw [hg]; exact (keep_size (w := w) (g := g) (row := none) Z12) : w.heap.size ≤ gb144) : w0.heap.size ≤ gb144)); replace HK := am (KeepBut.trans Z12 (KeepBut.of_below hb g none) (.inl rfl)); have NB141_144 := nL BK141 hg; have NB144_141 := nR BK141 hg; replace BK141 := kB BK141 hb; have NB0_144 := am ((by rw [hg]; exact Nat.ne_of_lt (IsS47.lt (show IsS47 w0 _ g s0_0 t134 t135 from Z13)) : g ≠ gb144)); have NB144_0 := am ((by rw [hg]; exact Nat.ne_of_gt (IsS47.lt (show IsS47 w0 _ g s0_0 t134 t135 from Z13)) : gb144 ≠ g)); replace HI0 := am (IsS47.below Z13 hb); clear hb hbox hg; have hnb84 := NB144_141.out; have hnc84 := NB141_144.out; have hnb85 := NB144_0.out; have hnc85 := NB0_144.out; obtain ⟨hcz86_0, hcz86_1, hfz86_0, hfz86_1⟩ := ce2 BK144; obtain ⟨Ao87, co87, eo87⟩ := Kd.R_slice HO143.out; subst eo87) | ((with_reducible refine gate_callee (f := 44) rfl ?_); refine gL 7 rfl Try.func44 #[.pointer (some ⟨g, 0, none⟩), .int .i64 16] ?_; (with_reducible refine (Fd.calls g s0_0 t134 t135 16 t124 t136 t137 w0 _ ?side1 ?side2 A3.out).mono ?_); (case side1 => exact Z5); (case side2 => exact Z10); rintro e w88 ⟨rfl, hi, hb, hk⟩; refine ⟨_, rfl, ?_⟩; replace BK141 := am (KeepBut.blk hk (g' := gb141) (o := .cells #[.int .i64 0, .slice none 0 0] 26 (0, 0)) (pf NB141_144 (pf NB141_144 (pb BK141))) NB141_0.out Z43); replace HO143 := am (Kd.R_mono (Kd.R_keep (IsS47.apart (show IsS47 w0 _ g s0_0 t134 t135 from Z5) (fS HO143 BK144 Z16) Z16) hk (fun _ h => h.2)) (fun _ h => h.1)); replace BK144 := am (KeepBut.blk hk (g' := gb144) (o := .cells #[.int .i64 t123, .slice Ao87 t133.length co87] 26 (0, 0)) (pT (pp 1 (pp 0 (pb BK144)))) NB144_0.out Z43); replace HK := am (KeepBut.trans Z8 hk (.inl rfl)); replace HB := am (hb); replace HI0 := am (hi); (try clear hb); (try clear hb2); (try clear hk); (try clear hi)) | ((with_reducible refine gate_callee (f := 44) rfl ?_); refine gL 46 rfl Try.func44 #[.pointer (some ⟨g, 0, none⟩), .int .i64 2] ?_; (with_reducible refine (Fd.calls g s0_0 t136 t137 2 t129 t160 t161 w0 _ ?side1 ?side2 A79.out).mono ?_); (case side1 => exact Z5); (case side2 => exact Z10); rintro e w89 ⟨rfl, hi, hb, hk⟩; refine ⟨_, rfl, ?_⟩; replace BK141 := am (KeepBut.blk hk (g' := gb141) (o := .cells #[.int .i64 0, .slice none 0 0] 26 (0, 0)) (uK BK141) NB141_0.out Z43); replace HO143 := am (Kd.R_mono (Kd.R_keep (IsS47.apart (show IsS47 w0 _ g s0_0 t136 t137 from Z5) (uR HO143) Z16) hk (fun _ h => h.2)) (fun _ h => h.1)); replace BK144 := am (KeepBut.blk hk (g' := gb144) (o := .cells #[.int .i64 t123, .slice Ao87 t133.length co87] 26 (0, 0)) (uK BK144) NB144_0.out Z43); replace HK := am (KeepBut.trans Z8 hk (.inl rfl)); replace HB := am (hb); replace HI0 := am (hi); (try clear hb); (try clear hb2); (try clear hk); (try clear hi)) | ((with_reducible refine gate_callee (f := 76) rfl ?_); refine gL 48 rfl Try.func76 #[.int .i64 (wrap64 (4096 - t129))] ?_; (with_reducible refine (Fca.calls (wrap64 (4096 - t129)) t130 t163 _ A80.out).mono ?_); rintro e w90 ⟨v165, rfl, ho0, hb⟩; refine ⟨_, rfl, ?_⟩; have HO166 := am (Kd.R_lower (Kd.R_new' ho0 (Kd.R_lt (uR HO143))) (keep_size (w := w) (g := g) (row := none) Z8)); replace HO143 := am (Kd.R_elder' (uR HO143) (Kd.R_base ho0) hb); replace BK141 := kB BK141 hb; replace BK144 := kB BK144 hb; replace HK := am (KeepBut.trans Z8 (KeepBut.of_below hb g none) (.inl rfl)); replace HB := am (below_step Z10 hb); replace HI0 := am (IsS47.below Z5 hb); (try clear hb); (try clear hb2); (try clear hk); (try clear hi); (try clear ho0); obtain ⟨hcz91_0, hcz91_1, hfz91_0, hfz91_1⟩ := ce2 BK144; obtain ⟨Ao92, co92, eo92⟩ := Kd.R_slice HO166.out; subst eo92; have hnb93 := NB141_0.out; have hnc93 := NB0_141.out; obtain ⟨hcz94_0, hcz94_1, hfz94_0, hfz94_1⟩ := ce2 BK141))
  refine bodyPost_ret (results_cell_row rfl _ _ gb141 26 #[.int .i64 t130, .slice Ao92 t163.length co92] (0, 0) _ rfl (pT (pp 1 (pp 0 (pf NB141_144 (pf NB141_144 (pb BK141)))))) Try.underlying26 rfl Z112) rfl ?_
  exact ⟨_, Z109, by (with_reducible repeat (first | apply Kd.R_alloc | apply Kd.R_drewN | apply Kd.R_drew)); exact Kd.R_mono (Kd.R_far (p := ⟨gb141, 1, none⟩) (Kd.R_far (p := ⟨gb141, 0, none⟩) (Kd.R_far (p := ⟨gb144, 1, none⟩) (Kd.R_far (p := ⟨gb144, 0, none⟩) (Kd.R_types (Kd.R_types HO166.out BK144.out Z16) BK141.out Z16) (fun _ hk => hk.1.2) (.int .i64 t130)) (fun _ hk => hk.1.2) (.slice Ao92 t163.length co92)) (fun _ hk => hk.2) (.int .i64 t130)) (fun _ hk => hk.2) (.slice Ao92 t163.length co92)) (fun _ hk => trivial), Z5, Z10, Z8⟩
 rw [if_neg c78] at H
 have c78b0 : (t124 == 3) = false := beq_eq_false_iff_ne.mpr c78
 have c78b1 : (t124 != 3) = true := bne_iff_ne.mpr c78
 by_cases c95 : t124 = 4
 ·
  rw [if_pos c95] at H
  have c95b0 : (t124 == 4) = true := beq_iff_eq.mpr c95
  have c95b1 : (t124 != 4) = false := bne_eq_false_iff_eq.mpr c95
  clear c95
  replace H := Option.bind_eq_some_iff.mp H
  obtain ⟨⟨t131, t167, t168⟩, A169, H⟩ := H
  try dsimp only at H
  have A96 := am A169
  clear A169
  replace H := Option.bind_eq_some_iff.mp H
  obtain ⟨⟨t132, t170⟩, A171, H⟩ := H
  try dsimp only at H
  have A97 := am A171
  clear A171
  simp only [Option.some.injEq, Prod.mk.injEq] at H
  obtain ⟨rfl, rfl, rfl, rfl⟩ := H
  go_enter Try.func47, Try.ntmps47
  go_wp2_with (first | ((with_reducible refine gate_dst (N := 2) rfl ?_); refine box_event ?hg (N := 2) ?hd (cs := #[.int .i64 0, .slice none 0 0]) (t := 26) ?hr ?_; (case hd => rfl); (case hg => rfl); (case hr => exact Z111); intro gb141 hg w98 hbox hb; replace HB := am (below_step Z4 hb); have BK141 := am (hbox); have GW141 := am ((by rw [hg]; exact (keep_size (w := w) (g := g) (row := none) Z2) : w.heap.size ≤ gb141)); have GE141 := am ((Nat.le_trans HW0.out (by rw [hg]; exact (keep_size (w := w) (g := g) (row := none) Z2) : w.heap.size ≤ gb141) : w0.heap.size ≤ gb141)); replace HK := am (KeepBut.trans Z2 (KeepBut.of_below hb g none) (.inl rfl)); have NB0_141 := am ((by rw [hg]; exact Nat.ne_of_lt (IsS47.lt (show IsS47 w0 _ g s0_0 s0_1 s0_2 from Z1)) : g ≠ gb141)); have NB141_0 := am ((by rw [hg]; exact Nat.ne_of_gt (IsS47.lt (show IsS47 w0 _ g s0_0 s0_1 s0_2 from Z1)) : gb141 ≠ g)); replace HI0 := am (IsS47.below Z1 hb); clear hb hbox hg) | ((with_reducible refine gate_callee (f := 78) rfl ?_); refine gL 5 rfl Try.func78 #[.pointer (some ⟨g, 0, none⟩), .int .i64 40] ?_; (with_reducible refine (Ft.calls k g s0_0 s0_1 s0_2 40 t123 t133 t134 t135 w0 _ ?side1 ?side2 A2.out).mono ?_); (case side1 => exact Z13); (case side2 => exact Z26); rintro e w99 ⟨v142, rfl, ho0, hi, hb, hk⟩; refine ⟨_, rfl, ?_⟩; replace BK141 := am (KeepBut.blk hk (g' := gb141) (o := .cells #[.int .i64 0, .slice none 0 0] 26 (0, 0)) (uK BK141) NB141_0.out Z43); have HO143 := am (Kd.R_lower ho0 (keep_size (w := w) (g := g) (row := none) Z12)); replace HK := am (KeepBut.trans Z12 hk (.inl rfl)); replace HB := am (hb); replace HI0 := am (hi); (try clear hb); (try clear hb2); (try clear hk); (try clear hi); (try clear ho0)) | ((with_reducible refine gate_dst (N := 3) rfl ?_); refine box_event ?hg (N := 3) ?hd (cs := #[.int .i64 0, .slice none 0 0]) (t := 26) ?hr ?_; (case hd => rfl); (case hg => rfl); (case hr => exact Z111); intro gb144 hg w172 hbox hb; replace HO143 := rB HO143 hb; replace HB := am (below_step Z26 hb); have BK144 := am (hbox); have GW144 := am ((by rw [hg]; exact (keep_size (w := w) (g := g) (row := none) Z12) : w.heap.size ≤ gb144)); have GE144 := am ((Nat.le_trans HW0.out (by rw [hg]; exact (keep_size (w := w) (g := g) (row := none) Z12) : w.heap.size ≤ gb144) : w0.heap.size ≤ gb144)); replace HK := am (KeepBut.trans Z12 (KeepBut.of_below hb g none) (.inl rfl)); have NB141_144 := nL BK141 hg; have NB144_141 := nR BK141 hg; replace BK141 := kB BK141 hb; have NB0_144 := am ((by rw [hg]; exact Nat.ne_of_lt (IsS47.lt (show IsS47 w0 _ g s0_0 t134 t135 from Z13)) : g ≠ gb144)); have NB144_0 := am ((by rw [hg]; exact Nat.ne_of_gt (IsS47.lt (show IsS47 w0 _ g s0_0 t134 t135 from Z13)) : gb144 ≠ g)); replace HI0 := am (IsS47.below Z13 hb); clear hb hbox hg; have hnb173 := NB144_141.out; have hnc173 := NB141_144.out; have hnb174 := NB144_0.out; have hnc174 := NB0_144.out; obtain ⟨hcz175_0, hcz175_1, hfz175_0, hfz175_1⟩ := ce2 BK144; obtain ⟨Ao176, co176, eo176⟩ := Kd.R_slice HO143.out; subst eo176) | ((with_reducible refine gate_callee (f := 44) rfl ?_); refine gL 7 rfl Try.func44 #[.pointer (some ⟨g, 0, none⟩), .int .i64 16] ?_; (with_reducible refine (Fd.calls g s0_0 t134 t135 16 t124 t136 t137 w0 _ ?side1 ?side2 A3.out).mono ?_); (case side1 => exact Z5); (case side2 => exact Z10); rintro e w177 ⟨rfl, hi, hb, hk⟩; refine ⟨_, rfl, ?_⟩; replace BK141 := am (KeepBut.blk hk (g' := gb141) (o := .cells #[.int .i64 0, .slice none 0 0] 26 (0, 0)) (pf NB141_144 (pf NB141_144 (pb BK141))) NB141_0.out Z43); replace HO143 := am (Kd.R_mono (Kd.R_keep (IsS47.apart (show IsS47 w0 _ g s0_0 t134 t135 from Z5) (fS HO143 BK144 Z16) Z16) hk (fun _ h => h.2)) (fun _ h => h.1)); replace BK144 := am (KeepBut.blk hk (g' := gb144) (o := .cells #[.int .i64 t123, .slice Ao176 t133.length co176] 26 (0, 0)) (pT (pp 1 (pp 0 (pb BK144)))) NB144_0.out Z43); replace HK := am (KeepBut.trans Z8 hk (.inl rfl)); replace HB := am (hb); replace HI0 := am (hi); (try clear hb); (try clear hb2); (try clear hk); (try clear hi)) | ((with_reducible refine gate_callee (f := 44) rfl ?_); refine gL 52 rfl Try.func44 #[.pointer (some ⟨g, 0, none⟩), .int .i64 5] ?_; (with_reducible refine (Fd.calls g s0_0 t136 t137 5 t131 t167 t168 w0 _ ?side1 ?side2 A96.out).mono ?_); (case side1 => exact Z5); (case side2 => exact Z10); rintro e w178 ⟨rfl, hi, hb, hk⟩; refine ⟨_, rfl, ?_⟩; replace BK141 := am (KeepBut.blk hk (g' := gb141) (o := .cells #[.int .i64 0, .slice none 0 0] 26 (0, 0)) (uK BK141) NB141_0.out Z43); replace HO143 := am (Kd.R_mono (Kd.R_keep (IsS47.apart (show IsS47 w0 _ g s0_0 t136 t137 from Z5) (uR HO143) Z16) hk (fun _ h => h.2)) (fun _ h => h.1)); replace BK144 := am (KeepBut.blk hk (g' := gb144) (o := .cells #[.int .i64 t123, .slice Ao176 t133.length co176] 26 (0, 0)) (uK BK144) NB144_0.out Z43); replace HK := am (KeepBut.trans Z8 hk (.inl rfl)); replace HB := am (hb); replace HI0 := am (hi); (try clear hb); (try clear hb2); (try clear hk); (try clear hi)) | ((with_reducible refine gate_callee (f := 76) rfl ?_); refine gL 54 rfl Try.func76 #[.int .i64 (wrap64 (16 * t131))] ?_; (with_reducible refine (Fca.calls (wrap64 (16 * t131)) t132 t170 _ A97.out).mono ?_); rintro e w179 ⟨v180, rfl, ho0, hb⟩; refine ⟨_, rfl, ?_⟩; have HO181 := am (Kd.R_lower (Kd.R_new' ho0 (Kd.R_lt (uR HO143))) (keep_size (w := w) (g := g) (row := none) Z8)); replace HO143 := am (Kd.R_elder' (uR HO143) (Kd.R_base ho0) hb); replace BK141 := kB BK141 hb; replace BK144 := kB BK144 hb; replace HK := am (KeepBut.trans Z8 (KeepBut.of_below hb g none) (.inl rfl)); replace HB := am (below_step Z10 hb); replace HI0 := am (IsS47.below Z5 hb); (try clear hb); (try clear hb2); (try clear hk); (try clear hi); (try clear ho0); obtain ⟨hcz182_0, hcz182_1, hfz182_0, hfz182_1⟩ := ce2 BK144; obtain ⟨Ao183, co183, eo183⟩ := Kd.R_slice HO181.out; subst eo183; have hnb184 := NB141_0.out; have hnc184 := NB0_141.out; obtain ⟨hcz185_0, hcz185_1, hfz185_0, hfz185_1⟩ := ce2 BK141))
  refine bodyPost_ret (results_cell_row rfl _ _ gb141 26 #[.int .i64 t132, .slice Ao183 t170.length co183] (0, 0) _ rfl (pT (pp 1 (pp 0 (pf NB141_144 (pf NB141_144 (pb BK141)))))) Try.underlying26 rfl Z112) rfl ?_
  exact ⟨_, Z109, by (with_reducible repeat (first | apply Kd.R_alloc | apply Kd.R_drewN | apply Kd.R_drew)); exact Kd.R_mono (Kd.R_far (p := ⟨gb141, 1, none⟩) (Kd.R_far (p := ⟨gb141, 0, none⟩) (Kd.R_far (p := ⟨gb144, 1, none⟩) (Kd.R_far (p := ⟨gb144, 0, none⟩) (Kd.R_types (Kd.R_types HO181.out BK144.out Z16) BK141.out Z16) (fun _ hk => hk.1.2) (.int .i64 t132)) (fun _ hk => hk.1.2) (.slice Ao183 t170.length co183)) (fun _ hk => hk.2) (.int .i64 t132)) (fun _ hk => hk.2) (.slice Ao183 t170.length co183)) (fun _ hk => trivial), Z5, Z10, Z8⟩
 rw [if_neg c95] at H
 have c95b0 : (t124 == 4) = false := beq_eq_false_iff_ne.mpr c95
 have c95b1 : (t124 != 4) = true := bne_iff_ne.mpr c95
 simp only [Option.some.injEq, Prod.mk.injEq] at H
 obtain ⟨rfl, rfl, rfl, rfl⟩ := H
 go_enter Try.func47, Try.ntmps47
 go_wp2_with (first | ((with_reducible refine gate_dst (N := 2) rfl ?_); refine box_event ?hg (N := 2) ?hd (cs := #[.int .i64 0, .slice none 0 0]) (t := 26) ?hr ?_; (case hd => rfl); (case hg => rfl); (case hr => exact Z111); intro gb141 hg w186 hbox hb; replace HB := am (below_step Z4 hb); have BK141 := am (hbox); have GW141 := am ((by rw [hg]; exact (keep_size (w := w) (g := g) (row := none) Z2) : w.heap.size ≤ gb141)); have GE141 := am ((Nat.le_trans HW0.out (by rw [hg]; exact (keep_size (w := w) (g := g) (row := none) Z2) : w.heap.size ≤ gb141) : w0.heap.size ≤ gb141)); replace HK := am (KeepBut.trans Z2 (KeepBut.of_below hb g none) (.inl rfl)); have NB0_141 := am ((by rw [hg]; exact Nat.ne_of_lt (IsS47.lt (show IsS47 w0 _ g s0_0 s0_1 s0_2 from Z1)) : g ≠ gb141)); have NB141_0 := am ((by rw [hg]; exact Nat.ne_of_gt (IsS47.lt (show IsS47 w0 _ g s0_0 s0_1 s0_2 from Z1)) : gb141 ≠ g)); replace HI0 := am (IsS47.below Z1 hb); clear hb hbox hg) | ((with_reducible refine gate_callee (f := 78) rfl ?_); refine gL 5 rfl Try.func78 #[.pointer (some ⟨g, 0, none⟩), .int .i64 40] ?_; (with_reducible refine (Ft.calls k g s0_0 s0_1 s0_2 40 t123 t133 t134 t135 w0 _ ?side1 ?side2 A2.out).mono ?_); (case side1 => exact Z13); (case side2 => exact Z26); rintro e w187 ⟨v142, rfl, ho0, hi, hb, hk⟩; refine ⟨_, rfl, ?_⟩; replace BK141 := am (KeepBut.blk hk (g' := gb141) (o := .cells #[.int .i64 0, .slice none 0 0] 26 (0, 0)) (uK BK141) NB141_0.out Z43); have HO143 := am (Kd.R_lower ho0 (keep_size (w := w) (g := g) (row := none) Z12)); replace HK := am (KeepBut.trans Z12 hk (.inl rfl)); replace HB := am (hb); replace HI0 := am (hi); (try clear hb); (try clear hb2); (try clear hk); (try clear hi); (try clear ho0)) | ((with_reducible refine gate_dst (N := 3) rfl ?_); refine box_event ?hg (N := 3) ?hd (cs := #[.int .i64 0, .slice none 0 0]) (t := 26) ?hr ?_; (case hd => rfl); (case hg => rfl); (case hr => exact Z111); intro gb144 hg w188 hbox hb; replace HO143 := rB HO143 hb; replace HB := am (below_step Z26 hb); have BK144 := am (hbox); have GW144 := am ((by rw [hg]; exact (keep_size (w := w) (g := g) (row := none) Z12) : w.heap.size ≤ gb144)); have GE144 := am ((Nat.le_trans HW0.out (by rw [hg]; exact (keep_size (w := w) (g := g) (row := none) Z12) : w.heap.size ≤ gb144) : w0.heap.size ≤ gb144)); replace HK := am (KeepBut.trans Z12 (KeepBut.of_below hb g none) (.inl rfl)); have NB141_144 := nL BK141 hg; have NB144_141 := nR BK141 hg; replace BK141 := kB BK141 hb; have NB0_144 := am ((by rw [hg]; exact Nat.ne_of_lt (IsS47.lt (show IsS47 w0 _ g s0_0 t134 t135 from Z13)) : g ≠ gb144)); have NB144_0 := am ((by rw [hg]; exact Nat.ne_of_gt (IsS47.lt (show IsS47 w0 _ g s0_0 t134 t135 from Z13)) : gb144 ≠ g)); replace HI0 := am (IsS47.below Z13 hb); clear hb hbox hg; have hnb189 := NB144_141.out; have hnc189 := NB141_144.out; have hnb190 := NB144_0.out; have hnc190 := NB0_144.out; obtain ⟨hcz191_0, hcz191_1, hfz191_0, hfz191_1⟩ := ce2 BK144; obtain ⟨Ao192, co192, eo192⟩ := Kd.R_slice HO143.out; subst eo192) | ((with_reducible refine gate_callee (f := 44) rfl ?_); refine gL 7 rfl Try.func44 #[.pointer (some ⟨g, 0, none⟩), .int .i64 16] ?_; (with_reducible refine (Fd.calls g s0_0 t134 t135 16 t124 t136 t137 w0 _ ?side1 ?side2 A3.out).mono ?_); (case side1 => exact Z5); (case side2 => exact Z10); rintro e w193 ⟨rfl, hi, hb, hk⟩; refine ⟨_, rfl, ?_⟩; replace BK141 := am (KeepBut.blk hk (g' := gb141) (o := .cells #[.int .i64 0, .slice none 0 0] 26 (0, 0)) (pf NB141_144 (pf NB141_144 (pb BK141))) NB141_0.out Z43); replace HO143 := am (Kd.R_mono (Kd.R_keep (IsS47.apart (show IsS47 w0 _ g s0_0 t134 t135 from Z5) (fS HO143 BK144 Z16) Z16) hk (fun _ h => h.2)) (fun _ h => h.1)); replace BK144 := am (KeepBut.blk hk (g' := gb144) (o := .cells #[.int .i64 t123, .slice Ao192 t133.length co192] 26 (0, 0)) (pT (pp 1 (pp 0 (pb BK144)))) NB144_0.out Z43); replace HK := am (KeepBut.trans Z8 hk (.inl rfl)); replace HB := am (hb); replace HI0 := am (hi); (try clear hb); (try clear hb2); (try clear hk); (try clear hi); obtain ⟨hcz194_0, hcz194_1, hfz194_0, hfz194_1⟩ := ce2 BK144; have hnb195 := NB141_0.out; have hnc195 := NB0_141.out; obtain ⟨hcz196_0, hcz196_1, hfz196_0, hfz196_1⟩ := ce2 BK141))
 refine bodyPost_ret (results_cell_row rfl _ _ gb141 26 #[.int .i64 t123, .slice Ao192 t133.length co192] (0, 0) _ rfl (pT (pp 1 (pp 0 (pb BK141)))) Try.underlying26 rfl Z112) rfl ?_
 exact ⟨_, Z109, Z132, Z5, Z10, Z8⟩

end Go.Proofs.Ytllaofiopnhdgaa.PFnSparseParts
