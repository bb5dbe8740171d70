-- made by wip/tools/myprint.py over the kit's print, for this claim
import Derived.Test.YtllaofiopnhdgaaPFnSparsePartsx0
import Derived.Test.YtllaofiopnhdgaaPFnSparsePartsx6
import Derived.Test.YtllaofiopnhdgaaPFnSparsePartsx7
import Derived.Test.YtllaofiopnhdgaaPFnSparsePartsx8
import Derived.Test.YtllaofiopnhdgaaPFnSparsePartsx9
import Derived.Test.YtllaofiopnhdgaaPFnSparsePartsx10
namespace Go.Proofs.Ytllaofiopnhdgaa.PFnSparseParts
open Go.RowKit Go.Proofs.YtllaofiopnhdgaaW.PrintWords Go.Proofs.YtllaofiopnhdgaaW.PrintLast Go.Proofs.YtllaofiopnhdgaaW.PrintMore
open List (setIfInBounds_toArray set_cons_zero set_cons_succ)
attribute [local go_sem] max2_int min2_int max_two min_two max_three min_three max_four min_four   -- for this text's walks alone
set_option linter.unusedVariables false
set_option linter.unusedSimpArgs false

set_option maxHeartbeats 8000000
set_option maxRecDepth 100000
/-! ### Fg: function 20 -/
def Fg.j0 : Nat → Int → List Int → List Int → Int → Int → Option (Int × Int × Int × Int × List Int × Int × List Int × Int × Int)
 | 0, _, _, _, _, _ => none
 | k + 1, x3, x4, x2, x5, x6 => (Fk.f k x4 x3).bind fun bt7 => ((Fd.f x2 x5 x6 14).bind fun bt8 => (if bt8.1 = 0 then ((Fd.f x2 bt8.2.1 bt8.2.2 3).bind fun bt9 => (some (bt7.1, bt7.2.1, wrap64 (bt7.2.2.1 + (wrap64 (bt9.1 - 1))), bt7.2.2.2.1, bt7.2.2.2.2.1, bt7.2.2.2.2.2.1, bt7.2.2.2.2.2.2, bt9.2.1, bt9.2.2))) else (if bt8.1 = 1 then ((Fd.f x2 bt8.2.1 bt8.2.2 3).bind fun bt10 => (some (wrap64 (bt7.1 + (wrap64 (bt10.1 - 1))), bt7.2.1, bt7.2.2.1, bt7.2.2.2.1, bt7.2.2.2.2.1, bt7.2.2.2.2.2.1, bt7.2.2.2.2.2.2, bt10.2.1, bt10.2.2))) else (if bt8.1 = 2 then ((Fd.f x2 bt8.2.1 bt8.2.2 3).bind fun bt11 => (some (bt7.1, wrap64 (bt7.2.1 + (wrap64 (bt11.1 - 1))), bt7.2.2.1, bt7.2.2.2.1, bt7.2.2.2.2.1, bt7.2.2.2.2.2.1, bt7.2.2.2.2.2.2, bt11.2.1, bt11.2.2))) else (if bt8.1 = 3 then ((FE.f k bt7.2.2.2.2.2.1 bt7.2.2.2.2.2.2).bind fun t12 => ((Fd.f x2 bt8.2.1 bt8.2.2 (t12.length : Int)).bind fun bt13 => (if 0 ≤ bt13.1 then (if bt13.1 < (t12.length : Int) then ((Fm.f k (t12.set (bt13.1 : Int).toNat (!(rdOf false t12 bt13.1)))).bind fun bt14 => (some (bt7.1, bt7.2.1, bt7.2.2.1, bt7.2.2.2.1, bt7.2.2.2.2.1, bt14.1, bt14.2, bt13.2.1, bt13.2.2))) else (none)) else (none)))) else (if bt8.1 = 4 then ((Fq.f k x2 bt8.2.1 bt8.2.2).bind fun bt15 => (some (bt7.1, bt7.2.1, bt7.2.2.1, bt15.1, bt15.2.1, bt7.2.2.2.2.2.1, bt7.2.2.2.2.2.2, bt15.2.2.1, bt15.2.2.2))) else (some (bt7.1, bt7.2.1, bt7.2.2.1, bt7.2.2.2.1, bt7.2.2.2.2.1, bt7.2.2.2.2.2.1, bt7.2.2.2.2.2.2, bt8.2.1, bt8.2.2))))))))
def Fg.f (k : Nat) (s0_0 : List Int) (s0_1 : Int) (s0_2 : Int) : Option (Int × Int × Int × Int × List Int × Int × List Int × Int × Int) := (Fta.f s0_0 s0_1 s0_2).bind fun bt3 => ((Fc.f k s0_0 bt3.2.1 bt3.2.2 bt3.1).bind fun bt4 => ((Fv.f k bt4.1 bt3.1).bind fun t5 => (if t5 = true then (Fg.j0 k bt3.1 bt4.1 s0_0 bt4.2.1 bt4.2.2) else (Fg.j0 k 20 ([] : List Int) s0_0 bt4.2.1 bt4.2.2))))
theorem Fg.mono_l : ∀ k, (∀ y0 y1 y2 y3 y4, LeO (Fg.j0 k y0 y1 y2 y3 y4) (Fg.j0 (k + 1) y0 y1 y2 y3 y4))
 | 0 => fun _ _ _ _ _ r h => by simp [Fg.j0] at h | k + 1 => by
  have ih0 := Fg.mono_l k
  ·
   intro y0 y1 y2 y3 y4
   unfold Fg.j0
   exact Mo9
theorem Fg.mono : ∀ a0 a1 a2 k, LeO (Fg.f k a0 a1 a2) (Fg.f (k + 1) a0 a1 a2) := by
 intro a0 a1 a2 k
 have ih0 := Fg.mono_l k
 unfold Fg.f
 exact Mo9
def Fg.T9 : Bool × List (List Nat × List Nat) := (true, [([], []), ([0], [0]), ([], []), ([2], [2]), ([3], [3]), ([1, 4], [1, 4]), ([0, 1, 2, 3, 4, 5], []), ([6, 5, 3, 0, 1, 2, 3, 4, 5], [5, 6])])
def Fg.B9 : List Nat := [0, 1, 0, 4, 12, 31, 63, 127]
theorem Fg.tab9 : rtab .any (opsOf Try.f20 9) = Fg.T9 := by kernel_rfl
theorem Fg.bits9 : waitsOk Fg.T9.2 Fg.B9 = true := by kernel_rfl
def Fg.T11 : Bool × List (List Nat × List Nat) := (true, [([], []), ([0], [0]), ([], []), ([2], [2]), ([3], [3]), ([1, 4], [1, 4]), ([0, 1, 2, 3, 4, 5], []), ([6, 5, 3, 0, 1, 2, 3, 4, 5], [5, 6])])
def Fg.B11 : List Nat := [0, 1, 0, 4, 12, 31, 63, 127]
theorem Fg.tab11 : rtab .any (opsOf Try.f20 11) = Fg.T11 := by kernel_rfl
theorem Fg.bits11 : waitsOk Fg.T11.2 Fg.B11 = true := by kernel_rfl
def Fg.T13 : Bool × List (List Nat × List Nat) := (true, [([], []), ([0], [0]), ([], []), ([2], [2]), ([3], [3]), ([1, 4], [1, 4]), ([0, 1, 2, 3, 4, 5], []), ([6, 5, 3, 0, 1, 2, 3, 4, 5], [5, 6])])
def Fg.B13 : List Nat := [0, 1, 0, 4, 12, 31, 63, 127]
theorem Fg.tab13 : rtab .any (opsOf Try.f20 13) = Fg.T13 := by kernel_rfl
theorem Fg.bits13 : waitsOk Fg.T13.2 Fg.B13 = true := by kernel_rfl
theorem Fg.calls (k : Nat) (g : Nat) (s0_0 : List Int) (s0_1 : Int) (s0_2 : Int) (r1 : Int) (r2 : Int) (r3 : Int) (r4 : Int) (r5 : List Int) (r6 : Int) (r7 : List Int) (r8 : Int) (r9 : Int) (w0 w : World) (hI : IsS47 w0 w g s0_0 s0_1 s0_2) (hB : Below w0.heap.size w0 w) (h : Fg.f k s0_0 s0_1 s0_2 = some (r1, r2, r3, r4, r5, r6, r7, r8, r9)) :
  Calls Try.prog 20 #[.pointer (some ⟨g, 0, none⟩)] w fun e w' => ∃ v4_ v6_ : Value, e = .returned (.agg #[.int .i64 r1, .int .i64 r2, .int .i64 r3, .int .i64 r4, v4_, .int .i64 r6, v6_]) ∧ Kd.R (Kd.int .i64) 3 w' w.heap.size (fun k_ => some k_ ≠ (v6_ : Value).ownBlock) v4_ r5 ∧ Kd.R (Kd.int .i64) 3 w' w.heap.size (fun k_ => some k_ ≠ (v4_ : Value).ownBlock) v6_ r7 ∧ IsS47 w0 w' g s0_0 r8 r9 ∧ Below w0.heap.size w0 w' ∧ KeepBut w w' g none := by
 have hu28 := Try.underlying28
 have hu26 := Try.underlying26
 have HI0 := am hI
 have HK := am (KeepBut.refl w g none)
 have HL := am hB.size
 clear hI
 have HW0 := am hB.size
 have HB := am hB
 clear hB
 have H : ((Fta.f s0_0 s0_1 s0_2).bind fun bt119 => ((Fc.f k s0_0 bt119.2.1 bt119.2.2 bt119.1).bind fun bt121 => ((Fv.f k bt121.1 bt119.1).bind fun t122 => (if t122 = true then (Fg.j0 k bt119.1 bt121.1 s0_0 bt121.2.1 bt121.2.2) else (Fg.j0 k 20 ([] : List Int) s0_0 bt121.2.1 bt121.2.2))))) = some (r1, r2, r3, r4, r5, r6, r7, r8, r9) := h
 clear h
 replace H := Option.bind_eq_some_iff.mp H
 obtain ⟨⟨t119, t123, t124⟩, A20, H⟩ := H
 try dsimp only at H
 have A2 := am A20
 clear A20
 replace H := Option.bind_eq_some_iff.mp H
 obtain ⟨⟨t121, t125, t126⟩, A30, H⟩ := H
 try dsimp only at H
 have A3 := am A30
 clear A30
 replace H := Option.bind_eq_some_iff.mp H
 obtain ⟨t122, A40, H⟩ := H
 try dsimp only at H
 have A4 := am A40
 clear A40
 have HC5 := am H
 clear H
 go_enter Try.func20, Try.ntmps20
 go_upto_if 16 with (first | ((with_reducible refine gate_dst (N := 2) rfl ?_); refine box_event ?hg (N := 2) ?hd (cs := #[.int .i64 0, .int .i64 0, .int .i64 0, .int .i64 0, .slice none 0 0, .int .i64 0, .slice none 0 0]) (t := 28) ?hr ?_; (case hd => rfl); (case hg => rfl); (case hr => exact Z111); intro gb127 hg w6 hbox hb; replace HB := am (below_step Z4 hb); have BK127 := am (hbox); have GW127 := am ((by rw [hg]; exact (keep_size (w := w) (g := g) (row := none) Z2) : w.heap.size ≤ gb127)); have GE127 := am ((Nat.le_trans HW0.out (by rw [hg]; exact (keep_size (w := w) (g := g) (row := none) Z2) : w.heap.size ≤ gb127) : w0.heap.size ≤ gb127)); replace HK := am (KeepBut.trans Z2 (KeepBut.of_below hb g none) (.inl rfl)); have NB0_127 := am ((by rw [hg]; exact Nat.ne_of_lt (IsS47.lt (show IsS47 w0 _ g s0_0 s0_1 s0_2 from Z1)) : g ≠ gb127)); have NB127_0 := am ((by rw [hg]; exact Nat.ne_of_gt (IsS47.lt (show IsS47 w0 _ g s0_0 s0_1 s0_2 from Z1)) : gb127 ≠ g)); replace HI0 := am (IsS47.below Z1 hb); clear hb hbox hg) | ((with_reducible refine gate_callee (f := 41) rfl ?_); refine gL 9 rfl Try.func41 #[.pointer (some ⟨g, 0, none⟩)] ?_; (with_reducible refine (Fta.calls g s0_0 s0_1 s0_2 t119 t123 t124 w0 _ ?side1 ?side2 A2.out).mono ?_); (case side1 => exact Z14); (case side2 => exact Z21); rintro e w7 ⟨rfl, hi, hb, hk⟩; refine ⟨_, rfl, ?_⟩; replace BK127 := am (KeepBut.blk hk (g' := gb127) (o := .cells #[.int .i64 0, .int .i64 0, .int .i64 0, .int .i64 0, .slice none 0 0, .int .i64 0, .slice none 0 0] 28 (0, 0)) (uK BK127) NB127_0.out Z43); replace HK := am (KeepBut.trans Z7 hk (.inl rfl)); replace HB := am (hb); replace HI0 := am (hi); (try clear hb); (try clear hb2); (try clear hk); (try clear hi)) | ((with_reducible refine gate_callee (f := 42) rfl ?_); refine gL 12 rfl Try.func42 #[.pointer (some ⟨g, 0, none⟩), .int .i64 t119] ?_; (with_reducible refine (Fc.calls k g s0_0 t123 t124 t119 t121 t125 t126 w0 _ ?side1 ?side2 A3.out).mono ?_); (case side1 => exact Z14); (case side2 => exact Z21); rintro e w8 ⟨v128, rfl, ho0, hi, hb, hk⟩; refine ⟨_, rfl, ?_⟩; replace BK127 := am (KeepBut.blk hk (g' := gb127) (o := .cells #[.int .i64 0, .int .i64 0, .int .i64 0, .int .i64 0, .slice none 0 0, .int .i64 0, .slice none 0 0] 28 (0, 0)) (uK BK127) NB127_0.out Z43); have HO129 := am (Kd.R_lower ho0 (keep_size (w := w) (g := g) (row := none) Z7)); replace HK := am (KeepBut.trans Z7 hk (.inl rfl)); replace HB := am (hb); replace HI0 := am (hi); (try clear hb); (try clear hb2); (try clear hk); (try clear hi); (try clear ho0); obtain ⟨Ao9, co9, eo9⟩ := Kd.R_slice HO129.out; subst eo9) | ((with_reducible refine gate_callee (f := 43) rfl ?_); refine gL 15 rfl Try.func43 #[.slice Ao9 t121.length co9, .int .i64 t119] ?_; (with_reducible refine (Fv.calls k _ _ t121 t119 t122 _ ?side1 ?side2 A4.out).mono ?_); (case side1 => exact uD HO129); (case side2 => exact (Kd.R_reads' HO129.out).2.1); rintro e w' ⟨rfl, ⟨nd, rfl⟩⟩; refine ⟨_, rfl, ?_⟩))
 (try simp only [Act.put, setIfInBounds_toArray, set_cons_zero, set_cons_succ])
 go_cut [3, 4] (fun v3 v4 wc => ∃ (kq : Nat) (x3_4 : Int) (x4_4 : List Int), v3 = .int .i64 x3_4 ∧ Aside0 (Fg.j0 kq x3_4 x4_4 s0_0 t125 t126 = some (r1, r2, r3, r4, r5, r6, r7, r8, r9)) ∧ Aside0 (kq ≤ k) ∧ Aside0 (Kd.R (Kd.int .i64) 3 wc w.heap.size (fun _ => True) v4 x4_4) ∧ Aside0 (wc.heap[gb127]? = some (.cells #[.int .i64 0, .int .i64 0, .int .i64 0, .int .i64 0, (.slice none 0 0), .int .i64 0, (.slice none 0 0)] 28 (0, 0))) ∧ Aside0 (IsS47 w0 wc g s0_0 t125 t126) ∧ Aside0 (KeepBut w wc g none) ∧ Aside0 (Below w0.heap.size w0 wc))
 case first =>
  have H := HC5.out
  clear HC5
  by_cases c10 : t122 = true
  ·
   subst c10
   rw [if_pos rfl] at H
   have H' := am H
   clear H
   go_wp2
   go_meet
   case rel => exact ⟨_, (t119), (t121), Z110, H', ⟨Z129⟩, ⟨by (with_reducible repeat (first | apply Kd.R_alloc | apply Kd.R_drewN | apply Kd.R_drew)); exact HO129.out⟩, ⟨pb BK127⟩, ⟨Z14⟩, ⟨Z7⟩, ⟨Z21⟩⟩
  replace c10 := Bool.eq_false_iff.mpr c10
  subst c10
  rw [if_neg (show ¬ (false = true) from Z16)] at H
  have H' := am H
  clear H
  go_wp2
  go_meet
  case rel => exact ⟨_, (20), (([] : List Int)), Z110, H', ⟨Z129⟩, ⟨Z23⟩, ⟨pb BK127⟩, ⟨Z14⟩, ⟨Z7⟩, ⟨Z21⟩⟩
 case rest =>
  clear HC5
  try clear c1
  try clear c2
  try clear p2
  try clear c4
  try clear c10
  obtain ⟨kq, x3_4, x4_4, rfl, HA, HJ4, HO_4, BK127, HI0, HK, HB⟩ := hcut
  cases kq with
  | zero => exact absurd HA.out (by simp [Fg.j0])
  | succ kj4 =>
   have H := HA.out
   clear HA
   simp only [Fg.j0] at H
   replace H := Option.bind_eq_some_iff.mp H
   obtain ⟨⟨t130, t131, t132, t133, t134, t135, t136⟩, A137, H⟩ := H
   try dsimp only at H
   have A11 := am A137
   clear A137
   replace H := Option.bind_eq_some_iff.mp H
   obtain ⟨⟨t138, t147, t148⟩, A149, H⟩ := H
   try dsimp only at H
   have A12 := am A149
   clear A149
   by_cases c13 : t138 = 0
   ·
    rw [if_pos c13] at H
    have c13b0 : (t138 == 0) = true := beq_iff_eq.mpr c13
    have c13b1 : (t138 != 0) = false := bne_eq_false_iff_eq.mpr c13
    clear c13
    replace H := Option.bind_eq_some_iff.mp H
    obtain ⟨⟨t139, t150, t151⟩, A152, H⟩ := H
    try dsimp only at H
    have A14 := am A152
    clear A152
    simp only [Option.some.injEq, Prod.mk.injEq] at H
    obtain ⟨rfl, rfl, rfl, rfl, rfl, rfl, rfl, rfl, rfl⟩ := H
    obtain ⟨Ao15, co15, eo15⟩ := Kd.R_slice HO_4.out
    subst eo15
    try go_wp2_with (first | ((with_reducible refine gate_callee (f := 31) rfl ?_); refine gL 19 rfl Try.func31 #[.slice Ao15 x4_4.length co15, .int .i64 x3_4] ?_; (with_reducible refine (Fk.calls kj4 _ _ x4_4 x3_4 t130 t131 t132 t133 t134 t135 t136 _ ?side1 ?side2 A11.out).mono ?_); (case side1 => exact uD HO_4); (case side2 => exact (Kd.R_reads' HO_4.out).2.1); rintro e w16 ⟨v153, v154, rfl, ho0, ho1, hb⟩; refine ⟨_, rfl, ?_⟩; have HO155 := am (Kd.R_lower (Kd.R_new' ho0 (Kd.R_lt (uR HO_4))) (keep_size (w := w) (g := g) (row := none) Z7)); have HO156 := am (Kd.R_lower (Kd.R_new' ho1 (Kd.R_lt (uR HO_4))) (keep_size (w := w) (g := g) (row := none) Z7)); replace HO_4 := am (Kd.R_mono (Kd.R_told (Kd.R_told (Kd.R_old (uR HO_4) hb) (Kd.R_base ho0)) (Kd.R_base ho1)) (fun _ h_ => h_.1)); replace BK127 := kB BK127 hb; replace HK := am (KeepBut.trans Z7 (KeepBut.of_below hb g none) (.inl rfl)); replace HB := am (below_step Z21 hb); replace HI0 := am (IsS47.below Z14 hb); (try clear hb); (try clear hb2); (try clear hk); (try clear hi); (try clear ho0); (try clear ho1)) | ((with_reducible refine gate_dst (N := 5) rfl ?_); refine box_event ?hg (N := 5) ?hd (cs := #[.int .i64 0, .int .i64 0, .int .i64 0, .int .i64 0, .slice none 0 0, .int .i64 0, .slice none 0 0]) (t := 28) ?hr ?_; (case hd => rfl); (case hg => rfl); (case hr => exact Z111); intro gb157 hg w17 hbox hb; replace HO_4 := rB HO_4 hb; replace HO155 := rB HO155 hb; replace HO156 := rB HO156 hb; replace HB := am (below_step Z21 hb); have BK157 := am (hbox); have GW157 := am ((by rw [hg]; exact (keep_size (w := w) (g := g) (row := none) Z7) : w.heap.size ≤ gb157)); have GE157 := am ((Nat.le_trans HW0.out (by rw [hg]; exact (keep_size (w := w) (g := g) (row := none) Z7) : w.heap.size ≤ gb157) : w0.heap.size ≤ gb157)); replace HK := am (KeepBut.trans Z7 (KeepBut.of_below hb g none) (.inl rfl)); have NB127_157 := nL BK127 hg; have NB157_127 := nR BK127 hg; replace BK127 := kB BK127 hb; have NB0_157 := am ((by rw [hg]; exact Nat.ne_of_lt (IsS47.lt (show IsS47 w0 _ g s0_0 t125 t126 from Z14)) : g ≠ gb157)); have NB157_0 := am ((by rw [hg]; exact Nat.ne_of_gt (IsS47.lt (show IsS47 w0 _ g s0_0 t125 t126 from Z14)) : gb157 ≠ g)); replace HI0 := am (IsS47.below Z14 hb); clear hb hbox hg; have hnb18 := NB157_127.out; have hnc18 := NB127_157.out; have hnb19 := NB157_0.out; have hnc19 := NB0_157.out; obtain ⟨hcz20_0, hcz20_1, hcz20_2, hcz20_3, hcz20_4, hcz20_5, hcz20_6, hfz20_0, hfz20_1, hfz20_2, hfz20_3, hfz20_4, hfz20_5, hfz20_6⟩ := ce7 BK157; obtain ⟨Ao21, co21, eo21⟩ := Kd.R_slice HO155.out; subst eo21; obtain ⟨Ao22, co22, eo22⟩ := Kd.R_slice HO156.out; subst eo22) | ((with_reducible refine gate_callee (f := 44) rfl ?_); refine gL 21 rfl Try.func44 #[.pointer (some ⟨g, 0, none⟩), .int .i64 14] ?_; (with_reducible refine (Fd.calls g s0_0 t125 t126 14 t138 t147 t148 w0 _ ?side1 ?side2 A12.out).mono ?_); (case side1 => exact Z3); (case side2 => exact Z19); rintro e w23 ⟨rfl, hi, hb, hk⟩; refine ⟨_, rfl, ?_⟩; replace HO_4 := am (Kd.R_mono (Kd.R_keep (IsS47.apart (show IsS47 w0 _ g s0_0 t125 t126 from Z3) (fS HO_4 BK157 Z16) Z16) hk (fun _ h => h.2)) (fun _ h => h.1)); replace BK127 := am (KeepBut.blk hk (g' := gb127) (o := .cells #[.int .i64 0, .int .i64 0, .int .i64 0, .int .i64 0, .slice none 0 0, .int .i64 0, .slice none 0 0] 28 (0, 0)) (pf NB127_157 (pf NB127_157 (pf NB127_157 (pf NB127_157 (pf NB127_157 (pf NB127_157 (pf NB127_157 (pb BK127)))))))) NB127_0.out Z43); replace HO155 := am (Kd.R_mono (Kd.R_keep (IsS47.apart (show IsS47 w0 _ g s0_0 t125 t126 from Z3) (fS HO155 BK157 Z16) Z16) hk (fun _ h => h.2)) (fun _ h => h.1)); replace HO156 := am (Kd.R_mono (Kd.R_keep (IsS47.apart (show IsS47 w0 _ g s0_0 t125 t126 from Z3) (fS HO156 BK157 Z16) Z16) hk (fun _ h => h.2)) (fun _ h => h.1)); replace BK157 := am (KeepBut.blk hk (g' := gb157) (o := .cells #[.int .i64 t130, .int .i64 t131, .int .i64 t132, .int .i64 t133, .slice Ao21 t134.length co21, .int .i64 t135, .slice Ao22 t136.length co22] 28 (0, 0)) (pT (pp 6 (pp 5 (pp 4 (pp 3 (pp 2 (pp 1 (pp 0 (pb BK157))))))))) NB157_0.out Z43); replace HK := am (KeepBut.trans Z17 hk (.inl rfl)); replace HB := am (hb); replace HI0 := am (hi); (try clear hb); (try clear hb2); (try clear hk); (try clear hi)))
    replace HO_4 := am (Kd.R_drew HO_4.out)
    replace HO155 := am (Kd.R_drew HO155.out)
    replace HO156 := am (Kd.R_drew HO156.out)
    replace BK127 := am (blk_drew BK127.out)
    replace BK157 := am (blk_drew BK157.out)
    replace HI0 := am (IsS47.drew HI0.out)
    replace HK := am (keep_drew HK.out)
    replace HB := am (below_drew1 HB.out)
    refine start_ (n := 8) (S := fun w' => w'.cell? ⟨gb157, 0, none⟩ = some (.int .i64 t130) ∧ w'.cell? ⟨gb157, 1, none⟩ = some (.int .i64 t131) ∧ w'.cell? ⟨gb157, 2, none⟩ = some (.int .i64 t132) ∧ w'.cell? ⟨gb157, 3, none⟩ = some (.int .i64 t133) ∧ w'.cell? ⟨gb157, 4, none⟩ = some (.slice Ao21 t134.length co21) ∧ w'.cell? ⟨gb157, 5, none⟩ = some (.int .i64 t135) ∧ w'.cell? ⟨gb157, 6, none⟩ = some (.slice Ao22 t136.length co22)) (ds := [7]) (bA 8 0) Z112 rfl rfl ⟨bc BK157 0, bc BK157 1, bc BK157 2, bc BK157 3, bc BK157 4, bc BK157 5, bc BK157 6⟩ (fun hHeld => ?_); refine with_tabW Fg.tab9 Fg.bits9 (fun HT_ HW_ => ?_)
    generalize w23.drew = w24 at HO_4 HO155 HO156 BK127 BK157 HI0 HK HB hHeld ⊢
    refine pS 0 24 (bA 8 1) ?_
    refine pS 2 26 (bA 8 5) ?_
    refine tS7 1 25 (bA 8 7) hHeld ?_
    refine one_ (i := 3) (N := some 27) (bA 8 15) rfl rfl (one_of HT_.out Z112) Z16 (fun K hK => ?_)
    refine goes_ Try.func44 Z112 rfl #[.pointer (some ⟨g, 0, none⟩), .int .i64 3] Z63 rfl rfl Z113 ?_
    with_reducible refine (Fd.calls g s0_0 t147 t148 3 t139 t150 t151 w0 _ ?side1 ?side2 A14.out).mono ?_
    (case side1 => exact Z3)
    (case side2 => exact Z19)
    rintro e w25 ⟨rfl, hi, hb, hk⟩
    refine ⟨_, rfl, ?_⟩
    replace HO_4 := am (Kd.R_mono (Kd.R_keep (IsS47.apart (show IsS47 w0 _ g s0_0 t147 t148 from Z3) (uR HO_4) Z16) hk (fun _ h => h.2)) (fun _ h => h.1))
    replace BK127 := am (KeepBut.blk hk (g' := gb127) (o := .cells #[.int .i64 0, .int .i64 0, .int .i64 0, .int .i64 0, .slice none 0 0, .int .i64 0, .slice none 0 0] 28 (0, 0)) (uK BK127) NB127_0.out Z43)
    replace HO155 := am (Kd.R_mono (Kd.R_keep (IsS47.apart (show IsS47 w0 _ g s0_0 t147 t148 from Z3) (uR HO155) Z16) hk (fun _ h => h.2)) (fun _ h => h.1))
    replace HO156 := am (Kd.R_mono (Kd.R_keep (IsS47.apart (show IsS47 w0 _ g s0_0 t147 t148 from Z3) (uR HO156) Z16) hk (fun _ h => h.2)) (fun _ h => h.1))
    replace BK157 := am (KeepBut.blk hk (g' := gb157) (o := .cells #[.int .i64 t130, .int .i64 t131, .int .i64 t132, .int .i64 t133, .slice Ao21 t134.length co21, .int .i64 t135, .slice Ao22 t136.length co22] 28 (0, 0)) (uK BK157) NB157_0.out Z43)
    replace HK := am (KeepBut.trans Z17 hk (.inl rfl))
    replace HB := am (hb)
    replace HI0 := am (hi)
    (try clear hb)
    (try clear hb2)
    (try clear hk)
    (try clear hi)
    refine hK.out _ _ ⟨bc BK157 0, bc BK157 1, bc BK157 2, bc BK157 3, bc BK157 4, bc BK157 5, bc BK157 6⟩ (fun hHeld => ?_)
    clear hK K
    refine norm_ (a' := ?_) ?_ ?_
    rotate_left
    ·
     show Act.put _ (some 27) _ = _
     simp only [Act.put, setIfInBounds_toArray, set_cons_zero, set_cons_succ, i64_w, i32_w]
     rfl
    refine pS 4 28 (bA 8 31) ?_
    refine pS 5 29 (bA 8 63) ?_
    refine pS 6 30 (bA 8 127) ?_
    refine last_ (i := 7) (N := none) (bA 8 255) rfl rfl (one_of HT_.out Z112) Z16 (fun K hK => ?_)
    have hs26 : w25.cell? ⟨gb157, 2, none⟩ = some (.int .i64 t132) := bc BK157 2
    have hfs26 := blk_frozen BK157.out 2
    have hns26_0 := NB127_157.out
    have hms26_0 := NB157_127.out
    refine skip_ (w1 := ?_) Z63 rfl ?_ ?_
    rotate_left
    ·
     go_simp
     rfl
    refine hK.out _ _ ?_
    clear hK K
    refine done_ (done_of HT_.out Z112) ?_
    obtain ⟨hcz27_0, hcz27_1, hcz27_2, hcz27_3, hcz27_4, hcz27_5, hcz27_6, hfz27_0, hfz27_1, hfz27_2, hfz27_3, hfz27_4, hfz27_5, hfz27_6⟩ := ce7 BK157
    have hnb28 := NB127_0.out
    have hnc28 := NB0_127.out
    obtain ⟨hcz29_0, hcz29_1, hcz29_2, hcz29_3, hcz29_4, hcz29_5, hcz29_6, hfz29_0, hfz29_1, hfz29_2, hfz29_3, hfz29_4, hfz29_5, hfz29_6⟩ := ce7 BK127
    try go_wp2
    refine bodyPost_ret (results_cell_row rfl _ _ gb127 28 #[.int .i64 t130, .int .i64 t131, .int .i64 (wrap64 (t132 + (wrap64 (t139 - 1)))), .int .i64 t133, .slice Ao21 t134.length co21, .int .i64 t135, .slice Ao22 t136.length co22] (0, 0) _ rfl (pT (pp 6 (pp 5 (pp 4 (pp 3 (pp 2 (pp 1 (pp 0 (pf NB127_157 (pb BK127)))))))))) Try.underlying28 rfl Z112) rfl ?_
    exact ⟨_, _, Z109, by (with_reducible repeat (first | apply Kd.R_alloc | apply Kd.R_drewN | apply Kd.R_drew)); exact Kd.R_mono (Kd.R_far (p := ⟨gb127, 6, none⟩) (Kd.R_far (p := ⟨gb127, 5, none⟩) (Kd.R_far (p := ⟨gb127, 4, none⟩) (Kd.R_far (p := ⟨gb127, 3, none⟩) (Kd.R_far (p := ⟨gb127, 2, none⟩) (Kd.R_far (p := ⟨gb127, 1, none⟩) (Kd.R_far (p := ⟨gb127, 0, none⟩) (Kd.R_far (p := ⟨gb157, 2, none⟩) (Kd.R_types (Kd.R_types HO155.out BK157.out Z16) BK127.out Z16) (fun _ hk => hk.1.2) (.int .i64 (wrap64 (t132 + (wrap64 (t139 - 1)))))) (fun _ hk => hk.2) (.int .i64 t130)) (fun _ hk => hk.2) (.int .i64 t131)) (fun _ hk => hk.2) (.int .i64 (wrap64 (t132 + (wrap64 (t139 - 1)))))) (fun _ hk => hk.2) (.int .i64 t133)) (fun _ hk => hk.2) (.slice Ao21 t134.length co21)) (fun _ hk => hk.2) (.int .i64 t135)) (fun _ hk => hk.2) (.slice Ao22 t136.length co22)) (fun _ hk => hk.1.1.1), by (with_reducible repeat (first | apply Kd.R_alloc | apply Kd.R_drewN | apply Kd.R_drew)); exact Kd.R_mono (Kd.R_far (p := ⟨gb127, 6, none⟩) (Kd.R_far (p := ⟨gb127, 5, none⟩) (Kd.R_far (p := ⟨gb127, 4, none⟩) (Kd.R_far (p := ⟨gb127, 3, none⟩) (Kd.R_far (p := ⟨gb127, 2, none⟩) (Kd.R_far (p := ⟨gb127, 1, none⟩) (Kd.R_far (p := ⟨gb127, 0, none⟩) (Kd.R_far (p := ⟨gb157, 2, none⟩) (Kd.R_types (Kd.R_types HO156.out BK157.out Z16) BK127.out Z16) (fun _ hk => hk.1.2) (.int .i64 (wrap64 (t132 + (wrap64 (t139 - 1)))))) (fun _ hk => hk.2) (.int .i64 t130)) (fun _ hk => hk.2) (.int .i64 t131)) (fun _ hk => hk.2) (.int .i64 (wrap64 (t132 + (wrap64 (t139 - 1)))))) (fun _ hk => hk.2) (.int .i64 t133)) (fun _ hk => hk.2) (.slice Ao21 t134.length co21)) (fun _ hk => hk.2) (.int .i64 t135)) (fun _ hk => hk.2) (.slice Ao22 t136.length co22)) (fun _ hk => hk.1.1.1), Z3, Z19, Z17⟩
   rw [if_neg c13] at H
   have c13b0 : (t138 == 0) = false := beq_eq_false_iff_ne.mpr c13
   have c13b1 : (t138 != 0) = true := bne_iff_ne.mpr c13
   by_cases c30 : t138 = 1
   ·
    rw [if_pos c30] at H
    have c30b0 : (t138 == 1) = true := beq_iff_eq.mpr c30
    have c30b1 : (t138 != 1) = false := bne_eq_false_iff_eq.mpr c30
    clear c30
    replace H := Option.bind_eq_some_iff.mp H
    obtain ⟨⟨t141, t158, t159⟩, A160, H⟩ := H
    try dsimp only at H
    have A31 := am A160
    clear A160
    simp only [Option.some.injEq, Prod.mk.injEq] at H
    obtain ⟨rfl, rfl, rfl, rfl, rfl, rfl, rfl, rfl, rfl⟩ := H
    obtain ⟨Ao32, co32, eo32⟩ := Kd.R_slice HO_4.out
    subst eo32
    try go_wp2_with (first | ((with_reducible refine gate_callee (f := 31) rfl ?_); refine gL 19 rfl Try.func31 #[.slice Ao32 x4_4.length co32, .int .i64 x3_4] ?_; (with_reducible refine (Fk.calls kj4 _ _ x4_4 x3_4 t130 t131 t132 t133 t134 t135 t136 _ ?side1 ?side2 A11.out).mono ?_); (case side1 => exact uD HO_4); (case side2 => exact (Kd.R_reads' HO_4.out).2.1); rintro e w33 ⟨v153, v154, rfl, ho0, ho1, hb⟩; refine ⟨_, rfl, ?_⟩; have HO155 := am (Kd.R_lower (Kd.R_new' ho0 (Kd.R_lt (uR HO_4))) (keep_size (w := w) (g := g) (row := none) Z7)); have HO156 := am (Kd.R_lower (Kd.R_new' ho1 (Kd.R_lt (uR HO_4))) (keep_size (w := w) (g := g) (row := none) Z7)); replace HO_4 := am (Kd.R_mono (Kd.R_told (Kd.R_told (Kd.R_old (uR HO_4) hb) (Kd.R_base ho0)) (Kd.R_base ho1)) (fun _ h_ => h_.1)); replace BK127 := kB BK127 hb; replace HK := am (KeepBut.trans Z7 (KeepBut.of_below hb g none) (.inl rfl)); replace HB := am (below_step Z21 hb); replace HI0 := am (IsS47.below Z14 hb); (try clear hb); (try clear hb2); (try clear hk); (try clear hi); (try clear ho0); (try clear ho1)) | ((with_reducible refine gate_dst (N := 5) rfl ?_); refine box_event ?hg (N := 5) ?hd (cs := #[.int .i64 0, .int .i64 0, .int .i64 0, .int .i64 0, .slice none 0 0, .int .i64 0, .slice none 0 0]) (t := 28) ?hr ?_; (case hd => rfl); (case hg => rfl); (case hr => exact Z111); intro gb157 hg w34 hbox hb; replace HO_4 := rB HO_4 hb; replace HO155 := rB HO155 hb; replace HO156 := rB HO156 hb; replace HB := am (below_step Z21 hb); have BK157 := am (hbox); have GW157 := am ((by rw [hg]; exact (keep_size (w := w) (g := g) (row := none) Z7) : w.heap.size ≤ gb157)); have GE157 := am ((Nat.le_trans HW0.out (by rw [hg]; exact (keep_size (w := w) (g := g) (row := none) Z7) : w.heap.size ≤ gb157) : w0.heap.size ≤ gb157)); replace HK := am (KeepBut.trans Z7 (KeepBut.of_below hb g none) (.inl rfl)); have NB127_157 := nL BK127 hg; have NB157_127 := nR BK127 hg; replace BK127 := kB BK127 hb; have NB0_157 := am ((by rw [hg]; exact Nat.ne_of_lt (IsS47.lt (show IsS47 w0 _ g s0_0 t125 t126 from Z14)) : g ≠ gb157)); have NB157_0 := am ((by rw [hg]; exact Nat.ne_of_gt (IsS47.lt (show IsS47 w0 _ g s0_0 t125 t126 from Z14)) : gb157 ≠ g)); replace HI0 := am (IsS47.below Z14 hb); clear hb hbox hg; have hnb35 := NB157_127.out; have hnc35 := NB127_157.out; have hnb36 := NB157_0.out; have hnc36 := NB0_157.out; obtain ⟨hcz37_0, hcz37_1, hcz37_2, hcz37_3, hcz37_4, hcz37_5, hcz37_6, hfz37_0, hfz37_1, hfz37_2, hfz37_3, hfz37_4, hfz37_5, hfz37_6⟩ := ce7 BK157; obtain ⟨Ao38, co38, eo38⟩ := Kd.R_slice HO155.out; subst eo38; obtain ⟨Ao39, co39, eo39⟩ := Kd.R_slice HO156.out; subst eo39) | ((with_reducible refine gate_callee (f := 44) rfl ?_); refine gL 21 rfl Try.func44 #[.pointer (some ⟨g, 0, none⟩), .int .i64 14] ?_; (with_reducible refine (Fd.calls g s0_0 t125 t126 14 t138 t147 t148 w0 _ ?side1 ?side2 A12.out).mono ?_); (case side1 => exact Z3); (case side2 => exact Z19); rintro e w40 ⟨rfl, hi, hb, hk⟩; refine ⟨_, rfl, ?_⟩; replace HO_4 := am (Kd.R_mono (Kd.R_keep (IsS47.apart (show IsS47 w0 _ g s0_0 t125 t126 from Z3) (fS HO_4 BK157 Z16) Z16) hk (fun _ h => h.2)) (fun _ h => h.1)); replace BK127 := am (KeepBut.blk hk (g' := gb127) (o := .cells #[.int .i64 0, .int .i64 0, .int .i64 0, .int .i64 0, .slice none 0 0, .int .i64 0, .slice none 0 0] 28 (0, 0)) (pf NB127_157 (pf NB127_157 (pf NB127_157 (pf NB127_157 (pf NB127_157 (pf NB127_157 (pf NB127_157 (pb BK127)))))))) NB127_0.out Z43); replace HO155 := am (Kd.R_mono (Kd.R_keep (IsS47.apart (show IsS47 w0 _ g s0_0 t125 t126 from Z3) (fS HO155 BK157 Z16) Z16) hk (fun _ h => h.2)) (fun _ h => h.1)); replace HO156 := am (Kd.R_mono (Kd.R_keep (IsS47.apart (show IsS47 w0 _ g s0_0 t125 t126 from Z3) (fS HO156 BK157 Z16) Z16) hk (fun _ h => h.2)) (fun _ h => h.1)); replace BK157 := am (KeepBut.blk hk (g' := gb157) (o := .cells #[.int .i64 t130, .int .i64 t131, .int .i64 t132, .int .i64 t133, .slice Ao38 t134.length co38, .int .i64 t135, .slice Ao39 t136.length co39] 28 (0, 0)) (pT (pp 6 (pp 5 (pp 4 (pp 3 (pp 2 (pp 1 (pp 0 (pb BK157))))))))) NB157_0.out Z43); replace HK := am (KeepBut.trans Z17 hk (.inl rfl)); replace HB := am (hb); replace HI0 := am (hi); (try clear hb); (try clear hb2); (try clear hk); (try clear hi)))
    replace HO_4 := am (Kd.R_drew HO_4.out)
    replace HO155 := am (Kd.R_drew HO155.out)
    replace HO156 := am (Kd.R_drew HO156.out)
    replace BK127 := am (blk_drew BK127.out)
    replace BK157 := am (blk_drew BK157.out)
    replace HI0 := am (IsS47.drew HI0.out)
    replace HK := am (keep_drew HK.out)
    replace HB := am (below_drew1 HB.out)
    refine start_ (n := 8) (S := fun w' => w'.cell? ⟨gb157, 0, none⟩ = some (.int .i64 t130) ∧ w'.cell? ⟨gb157, 1, none⟩ = some (.int .i64 t131) ∧ w'.cell? ⟨gb157, 2, none⟩ = some (.int .i64 t132) ∧ w'.cell? ⟨gb157, 3, none⟩ = some (.int .i64 t133) ∧ w'.cell? ⟨gb157, 4, none⟩ = some (.slice Ao38 t134.length co38) ∧ w'.cell? ⟨gb157, 5, none⟩ = some (.int .i64 t135) ∧ w'.cell? ⟨gb157, 6, none⟩ = some (.slice Ao39 t136.length co39)) (ds := [7]) (bA 8 0) Z112 rfl rfl ⟨bc BK157 0, bc BK157 1, bc BK157 2, bc BK157 3, bc BK157 4, bc BK157 5, bc BK157 6⟩ (fun hHeld => ?_); refine with_tabW Fg.tab11 Fg.bits11 (fun HT_ HW_ => ?_)
    generalize w40.drew = w41 at HO_4 HO155 HO156 BK127 BK157 HI0 HK HB hHeld ⊢
    refine pS 0 33 (bA 8 1) ?_
    refine pS 2 35 (bA 8 5) ?_
    refine tS7 1 34 (bA 8 7) hHeld ?_
    refine one_ (i := 3) (N := some 36) (bA 8 15) rfl rfl (one_of HT_.out Z112) Z16 (fun K hK => ?_)
    refine goes_ Try.func44 Z112 rfl #[.pointer (some ⟨g, 0, none⟩), .int .i64 3] Z63 rfl rfl Z113 ?_
    with_reducible refine (Fd.calls g s0_0 t147 t148 3 t141 t158 t159 w0 _ ?side1 ?side2 A31.out).mono ?_
    (case side1 => exact Z3)
    (case side2 => exact Z19)
    rintro e w42 ⟨rfl, hi, hb, hk⟩
    refine ⟨_, rfl, ?_⟩
    replace HO_4 := am (Kd.R_mono (Kd.R_keep (IsS47.apart (show IsS47 w0 _ g s0_0 t147 t148 from Z3) (uR HO_4) Z16) hk (fun _ h => h.2)) (fun _ h => h.1))
    replace BK127 := am (KeepBut.blk hk (g' := gb127) (o := .cells #[.int .i64 0, .int .i64 0, .int .i64 0, .int .i64 0, .slice none 0 0, .int .i64 0, .slice none 0 0] 28 (0, 0)) (uK BK127) NB127_0.out Z43)
    replace HO155 := am (Kd.R_mono (Kd.R_keep (IsS47.apart (show IsS47 w0 _ g s0_0 t147 t148 from Z3) (uR HO155) Z16) hk (fun _ h => h.2)) (fun _ h => h.1))
    replace HO156 := am (Kd.R_mono (Kd.R_keep (IsS47.apart (show IsS47 w0 _ g s0_0 t147 t148 from Z3) (uR HO156) Z16) hk (fun _ h => h.2)) (fun _ h => h.1))
    replace BK157 := am (KeepBut.blk hk (g' := gb157) (o := .cells #[.int .i64 t130, .int .i64 t131, .int .i64 t132, .int .i64 t133, .slice Ao38 t134.length co38, .int .i64 t135, .slice Ao39 t136.length co39] 28 (0, 0)) (uK BK157) NB157_0.out Z43)
    replace HK := am (KeepBut.trans Z17 hk (.inl rfl))
    replace HB := am (hb)
    replace HI0 := am (hi)
    (try clear hb)
    (try clear hb2)
    (try clear hk)
    (try clear hi)
    refine hK.out _ _ ⟨bc BK157 0, bc BK157 1, bc BK157 2, bc BK157 3, bc BK157 4, bc BK157 5, bc BK157 6⟩ (fun hHeld => ?_)
    clear hK K
    refine norm_ (a' := ?_) ?_ ?_
    rotate_left
    ·
     show Act.put _ (some 36) _ = _
     simp only [Act.put, setIfInBounds_toArray, set_cons_zero, set_cons_succ, i64_w, i32_w]
     rfl
    refine pS 4 37 (bA 8 31) ?_
    refine pS 5 38 (bA 8 63) ?_
    refine pS 6 39 (bA 8 127) ?_
    refine last_ (i := 7) (N := none) (bA 8 255) rfl rfl (one_of HT_.out Z112) Z16 (fun K hK => ?_)
    have hs43 : w42.cell? ⟨gb157, 0, none⟩ = some (.int .i64 t130) := bc BK157 0
    have hfs43 := blk_frozen BK157.out 0
    have hns43_0 := NB127_157.out
    have hms43_0 := NB157_127.out
    refine skip_ (w1 := ?_) Z63 rfl ?_ ?_
    rotate_left
    ·
     go_simp
     rfl
    refine hK.out _ _ ?_
    clear hK K
    refine done_ (done_of HT_.out Z112) ?_
    obtain ⟨hcz44_0, hcz44_1, hcz44_2, hcz44_3, hcz44_4, hcz44_5, hcz44_6, hfz44_0, hfz44_1, hfz44_2, hfz44_3, hfz44_4, hfz44_5, hfz44_6⟩ := ce7 BK157
    have hnb45 := NB127_0.out
    have hnc45 := NB0_127.out
    obtain ⟨hcz46_0, hcz46_1, hcz46_2, hcz46_3, hcz46_4, hcz46_5, hcz46_6, hfz46_0, hfz46_1, hfz46_2, hfz46_3, hfz46_4, hfz46_5, hfz46_6⟩ := ce7 BK127
    try go_wp2
    refine bodyPost_ret (results_cell_row rfl _ _ gb127 28 #[.int .i64 (wrap64 (t130 + (wrap64 (t141 - 1)))), .int .i64 t131, .int .i64 t132, .int .i64 t133, .slice Ao38 t134.length co38, .int .i64 t135, .slice Ao39 t136.length co39] (0, 0) _ rfl (pT (pp 6 (pp 5 (pp 4 (pp 3 (pp 2 (pp 1 (pp 0 (pf NB127_157 (pb BK127)))))))))) Try.underlying28 rfl Z112) rfl ?_
    exact ⟨_, _, Z109, by (with_reducible repeat (first | apply Kd.R_alloc | apply Kd.R_drewN | apply Kd.R_drew)); exact Kd.R_mono (Kd.R_far (p := ⟨gb127, 6, none⟩) (Kd.R_far (p := ⟨gb127, 5, none⟩) (Kd.R_far (p := ⟨gb127, 4, none⟩) (Kd.R_far (p := ⟨gb127, 3, none⟩) (Kd.R_far (p := ⟨gb127, 2, none⟩) (Kd.R_far (p := ⟨gb127, 1, none⟩) (Kd.R_far (p := ⟨gb127, 0, none⟩) (Kd.R_far (p := ⟨gb157, 0, none⟩) (Kd.R_types (Kd.R_types HO155.out BK157.out Z16) BK127.out Z16) (fun _ hk => hk.1.2) (.int .i64 (wrap64 (t130 + (wrap64 (t141 - 1)))))) (fun _ hk => hk.2) (.int .i64 (wrap64 (t130 + (wrap64 (t141 - 1)))))) (fun _ hk => hk.2) (.int .i64 t131)) (fun _ hk => hk.2) (.int .i64 t132)) (fun _ hk => hk.2) (.int .i64 t133)) (fun _ hk => hk.2) (.slice Ao38 t134.length co38)) (fun _ hk => hk.2) (.int .i64 t135)) (fun _ hk => hk.2) (.slice Ao39 t136.length co39)) (fun _ hk => hk.1.1.1), by (with_reducible repeat (first | apply Kd.R_alloc | apply Kd.R_drewN | apply Kd.R_drew)); exact Kd.R_mono (Kd.R_far (p := ⟨gb127, 6, none⟩) (Kd.R_far (p := ⟨gb127, 5, none⟩) (Kd.R_far (p := ⟨gb127, 4, none⟩) (Kd.R_far (p := ⟨gb127, 3, none⟩) (Kd.R_far (p := ⟨gb127, 2, none⟩) (Kd.R_far (p := ⟨gb127, 1, none⟩) (Kd.R_far (p := ⟨gb127, 0, none⟩) (Kd.R_far (p := ⟨gb157, 0, none⟩) (Kd.R_types (Kd.R_types HO156.out BK157.out Z16) BK127.out Z16) (fun _ hk => hk.1.2) (.int .i64 (wrap64 (t130 + (wrap64 (t141 - 1)))))) (fun _ hk => hk.2) (.int .i64 (wrap64 (t130 + (wrap64 (t141 - 1)))))) (fun _ hk => hk.2) (.int .i64 t131)) (fun _ hk => hk.2) (.int .i64 t132)) (fun _ hk => hk.2) (.int .i64 t133)) (fun _ hk => hk.2) (.slice Ao38 t134.length co38)) (fun _ hk => hk.2) (.int .i64 t135)) (fun _ hk => hk.2) (.slice Ao39 t136.length co39)) (fun _ hk => hk.1.1.1), Z3, Z19, Z17⟩
   rw [if_neg c30] at H
   have c30b0 : (t138 == 1) = false := beq_eq_false_iff_ne.mpr c30
   have c30b1 : (t138 != 1) = true := bne_iff_ne.mpr c30
   by_cases c47 : t138 = 2
   ·
    rw [if_pos c47] at H
    have c47b0 : (t138 == 2) = true := beq_iff_eq.mpr c47
    have c47b1 : (t138 != 2) = false := bne_eq_false_iff_eq.mpr c47
    clear c47
    replace H := Option.bind_eq_some_iff.mp H
    obtain ⟨⟨t142, t161, t162⟩, A163, H⟩ := H
    try dsimp only at H
    have A48 := am A163
    clear A163
    simp only [Option.some.injEq, Prod.mk.injEq] at H
    obtain ⟨rfl, rfl, rfl, rfl, rfl, rfl, rfl, rfl, rfl⟩ := H
    obtain ⟨Ao49, co49, eo49⟩ := Kd.R_slice HO_4.out
    subst eo49
    try go_wp2_with (first | ((with_reducible refine gate_callee (f := 31) rfl ?_); refine gL 19 rfl Try.func31 #[.slice Ao49 x4_4.length co49, .int .i64 x3_4] ?_; (with_reducible refine (Fk.calls kj4 _ _ x4_4 x3_4 t130 t131 t132 t133 t134 t135 t136 _ ?side1 ?side2 A11.out).mono ?_); (case side1 => exact uD HO_4); (case side2 => exact (Kd.R_reads' HO_4.out).2.1); rintro e w50 ⟨v153, v154, rfl, ho0, ho1, hb⟩; refine ⟨_, rfl, ?_⟩; have HO155 := am (Kd.R_lower (Kd.R_new' ho0 (Kd.R_lt (uR HO_4))) (keep_size (w := w) (g := g) (row := none) Z7)); have HO156 := am (Kd.R_lower (Kd.R_new' ho1 (Kd.R_lt (uR HO_4))) (keep_size (w := w) (g := g) (row := none) Z7)); replace HO_4 := am (Kd.R_mono (Kd.R_told (Kd.R_told (Kd.R_old (uR HO_4) hb) (Kd.R_base ho0)) (Kd.R_base ho1)) (fun _ h_ => h_.1)); replace BK127 := kB BK127 hb; replace HK := am (KeepBut.trans Z7 (KeepBut.of_below hb g none) (.inl rfl)); replace HB := am (below_step Z21 hb); replace HI0 := am (IsS47.below Z14 hb); (try clear hb); (try clear hb2); (try clear hk); (try clear hi); (try clear ho0); (try clear ho1)) | ((with_reducible refine gate_dst (N := 5) rfl ?_); refine box_event ?hg (N := 5) ?hd (cs := #[.int .i64 0, .int .i64 0, .int .i64 0, .int .i64 0, .slice none 0 0, .int .i64 0, .slice none 0 0]) (t := 28) ?hr ?_; (case hd => rfl); (case hg => rfl); (case hr => exact Z111); intro gb157 hg w51 hbox hb; replace HO_4 := rB HO_4 hb; replace HO155 := rB HO155 hb; replace HO156 := rB HO156 hb; replace HB := am (below_step Z21 hb); have BK157 := am (hbox); have GW157 := am ((by rw [hg]; exact (keep_size (w := w) (g := g) (row := none) Z7) : w.heap.size ≤ gb157)); have GE157 := am ((Nat.le_trans HW0.out (by rw [hg]; exact (keep_size (w := w) (g := g) (row := none) Z7) : w.heap.size ≤ gb157) : w0.heap.size ≤ gb157)); replace HK := am (KeepBut.trans Z7 (KeepBut.of_below hb g none) (.inl rfl)); have NB127_157 := nL BK127 hg; have NB157_127 := nR BK127 hg; replace BK127 := kB BK127 hb; have NB0_157 := am ((by rw [hg]; exact Nat.ne_of_lt (IsS47.lt (show IsS47 w0 _ g s0_0 t125 t126 from Z14)) : g ≠ gb157)); have NB157_0 := am ((by rw [hg]; exact Nat.ne_of_gt (IsS47.lt (show IsS47 w0 _ g s0_0 t125 t126 from Z14)) : gb157 ≠ g)); replace HI0 := am (IsS47.below Z14 hb); clear hb hbox hg; have hnb52 := NB157_127.out; have hnc52 := NB127_157.out; have hnb53 := NB157_0.out; have hnc53 := NB0_157.out; obtain ⟨hcz54_0, hcz54_1, hcz54_2, hcz54_3, hcz54_4, hcz54_5, hcz54_6, hfz54_0, hfz54_1, hfz54_2, hfz54_3, hfz54_4, hfz54_5, hfz54_6⟩ := ce7 BK157; obtain ⟨Ao55, co55, eo55⟩ := Kd.R_slice HO155.out; subst eo55; obtain ⟨Ao56, co56, eo56⟩ := Kd.R_slice HO156.out; subst eo56) | ((with_reducible refine gate_callee (f := 44) rfl ?_); refine gL 21 rfl Try.func44 #[.pointer (some ⟨g, 0, none⟩), .int .i64 14] ?_; (with_reducible refine (Fd.calls g s0_0 t125 t126 14 t138 t147 t148 w0 _ ?side1 ?side2 A12.out).mono ?_); (case side1 => exact Z3); (case side2 => exact Z19); rintro e w57 ⟨rfl, hi, hb, hk⟩; refine ⟨_, rfl, ?_⟩; replace HO_4 := am (Kd.R_mono (Kd.R_keep (IsS47.apart (show IsS47 w0 _ g s0_0 t125 t126 from Z3) (fS HO_4 BK157 Z16) Z16) hk (fun _ h => h.2)) (fun _ h => h.1)); replace BK127 := am (KeepBut.blk hk (g' := gb127) (o := .cells #[.int .i64 0, .int .i64 0, .int .i64 0, .int .i64 0, .slice none 0 0, .int .i64 0, .slice none 0 0] 28 (0, 0)) (pf NB127_157 (pf NB127_157 (pf NB127_157 (pf NB127_157 (pf NB127_157 (pf NB127_157 (pf NB127_157 (pb BK127)))))))) NB127_0.out Z43); replace HO155 := am (Kd.R_mono (Kd.R_keep (IsS47.apart (show IsS47 w0 _ g s0_0 t125 t126 from Z3) (fS HO155 BK157 Z16) Z16) hk (fun _ h => h.2)) (fun _ h => h.1)); replace HO156 := am (Kd.R_mono (Kd.R_keep (IsS47.apart (show IsS47 w0 _ g s0_0 t125 t126 from Z3) (fS HO156 BK157 Z16) Z16) hk (fun _ h => h.2)) (fun _ h => h.1)); replace BK157 := am (KeepBut.blk hk (g' := gb157) (o := .cells #[.int .i64 t130, .int .i64 t131, .int .i64 t132, .int .i64 t133, .slice Ao55 t134.length co55, .int .i64 t135, .slice Ao56 t136.length co56] 28 (0, 0)) (pT (pp 6 (pp 5 (pp 4 (pp 3 (pp 2 (pp 1 (pp 0 (pb BK157))))))))) NB157_0.out Z43); replace HK := am (KeepBut.trans Z17 hk (.inl rfl)); replace HB := am (hb); replace HI0 := am (hi); (try clear hb); (try clear hb2); (try clear hk); (try clear hi)))
    replace HO_4 := am (Kd.R_drew HO_4.out)
    replace HO155 := am (Kd.R_drew HO155.out)
    replace HO156 := am (Kd.R_drew HO156.out)
    replace BK127 := am (blk_drew BK127.out)
    replace BK157 := am (blk_drew BK157.out)
    replace HI0 := am (IsS47.drew HI0.out)
    replace HK := am (keep_drew HK.out)
    replace HB := am (below_drew1 HB.out)
    refine start_ (n := 8) (S := fun w' => w'.cell? ⟨gb157, 0, none⟩ = some (.int .i64 t130) ∧ w'.cell? ⟨gb157, 1, none⟩ = some (.int .i64 t131) ∧ w'.cell? ⟨gb157, 2, none⟩ = some (.int .i64 t132) ∧ w'.cell? ⟨gb157, 3, none⟩ = some (.int .i64 t133) ∧ w'.cell? ⟨gb157, 4, none⟩ = some (.slice Ao55 t134.length co55) ∧ w'.cell? ⟨gb157, 5, none⟩ = some (.int .i64 t135) ∧ w'.cell? ⟨gb157, 6, none⟩ = some (.slice Ao56 t136.length co56)) (ds := [7]) (bA 8 0) Z112 rfl rfl ⟨bc BK157 0, bc BK157 1, bc BK157 2, bc BK157 3, bc BK157 4, bc BK157 5, bc BK157 6⟩ (fun hHeld => ?_); refine with_tabW Fg.tab13 Fg.bits13 (fun HT_ HW_ => ?_)
    generalize w57.drew = w58 at HO_4 HO155 HO156 BK127 BK157 HI0 HK HB hHeld ⊢
    refine pS 0 42 (bA 8 1) ?_
    refine pS 2 44 (bA 8 5) ?_
    refine tS7 1 43 (bA 8 7) hHeld ?_
    refine one_ (i := 3) (N := some 45) (bA 8 15) rfl rfl (one_of HT_.out Z112) Z16 (fun K hK => ?_)
    refine goes_ Try.func44 Z112 rfl #[.pointer (some ⟨g, 0, none⟩), .int .i64 3] Z63 rfl rfl Z113 ?_
    with_reducible refine (Fd.calls g s0_0 t147 t148 3 t142 t161 t162 w0 _ ?side1 ?side2 A48.out).mono ?_
    (case side1 => exact Z3)
    (case side2 => exact Z19)
    rintro e w59 ⟨rfl, hi, hb, hk⟩
    refine ⟨_, rfl, ?_⟩
    replace HO_4 := am (Kd.R_mono (Kd.R_keep (IsS47.apart (show IsS47 w0 _ g s0_0 t147 t148 from Z3) (uR HO_4) Z16) hk (fun _ h => h.2)) (fun _ h => h.1))
    replace BK127 := am (KeepBut.blk hk (g' := gb127) (o := .cells #[.int .i64 0, .int .i64 0, .int .i64 0, .int .i64 0, .slice none 0 0, .int .i64 0, .slice none 0 0] 28 (0, 0)) (uK BK127) NB127_0.out Z43)
    replace HO155 := am (Kd.R_mono (Kd.R_keep (IsS47.apart (show IsS47 w0 _ g s0_0 t147 t148 from Z3) (uR HO155) Z16) hk (fun _ h => h.2)) (fun _ h => h.1))
    replace HO156 := am (Kd.R_mono (Kd.R_keep (IsS47.apart (show IsS47 w0 _ g s0_0 t147 t148 from Z3) (uR HO156) Z16) hk (fun _ h => h.2)) (fun _ h => h.1))
    replace BK157 := am (KeepBut.blk hk (g' := gb157) (o := .cells #[.int .i64 t130, .int .i64 t131, .int .i64 t132, .int .i64 t133, .slice Ao55 t134.length co55, .int .i64 t135, .slice Ao56 t136.length co56] 28 (0, 0)) (uK BK157) NB157_0.out Z43)
    replace HK := am (KeepBut.trans Z17 hk (.inl rfl))
    replace HB := am (hb)
    replace HI0 := am (hi)
    (try clear hb)
    (try clear hb2)
    (try clear hk)
    (try clear hi)
    refine hK.out _ _ ⟨bc BK157 0, bc BK157 1, bc BK157 2, bc BK157 3, bc BK157 4, bc BK157 5, bc BK157 6⟩ (fun hHeld => ?_)
    clear hK K
    refine norm_ (a' := ?_) ?_ ?_
    rotate_left
    ·
     show Act.put _ (some 45) _ = _
     simp only [Act.put, setIfInBounds_toArray, set_cons_zero, set_cons_succ, i64_w, i32_w]
     rfl
    refine pS 4 46 (bA 8 31) ?_
    refine pS 5 47 (bA 8 63) ?_
    refine pS 6 48 (bA 8 127) ?_
    refine last_ (i := 7) (N := none) (bA 8 255) rfl rfl (one_of HT_.out Z112) Z16 (fun K hK => ?_)
    have hs60 : w59.cell? ⟨gb157, 1, none⟩ = some (.int .i64 t131) := bc BK157 1
    have hfs60 := blk_frozen BK157.out 1
    have hns60_0 := NB127_157.out
    have hms60_0 := NB157_127.out
    refine skip_ (w1 := ?_) Z63 rfl ?_ ?_
    rotate_left
    ·
     go_simp
     rfl
    refine hK.out _ _ ?_
    clear hK K
    refine done_ (done_of HT_.out Z112) ?_
    obtain ⟨hcz61_0, hcz61_1, hcz61_2, hcz61_3, hcz61_4, hcz61_5, hcz61_6, hfz61_0, hfz61_1, hfz61_2, hfz61_3, hfz61_4, hfz61_5, hfz61_6⟩ := ce7 BK157
    have hnb62 := NB127_0.out
    have hnc62 := NB0_127.out
    obtain ⟨hcz63_0, hcz63_1, hcz63_2, hcz63_3, hcz63_4, hcz63_5, hcz63_6, hfz63_0, hfz63_1, hfz63_2, hfz63_3, hfz63_4, hfz63_5, hfz63_6⟩ := ce7 BK127
    try go_wp2
    refine bodyPost_ret (results_cell_row rfl _ _ gb127 28 #[.int .i64 t130, .int .i64 (wrap64 (t131 + (wrap64 (t142 - 1)))), .int .i64 t132, .int .i64 t133, .slice Ao55 t134.length co55, .int .i64 t135, .slice Ao56 t136.length co56] (0, 0) _ rfl (pT (pp 6 (pp 5 (pp 4 (pp 3 (pp 2 (pp 1 (pp 0 (pf NB127_157 (pb BK127)))))))))) Try.underlying28 rfl Z112) rfl ?_
    exact ⟨_, _, Z109, by (with_reducible repeat (first | apply Kd.R_alloc | apply Kd.R_drewN | apply Kd.R_drew)); exact Kd.R_mono (Kd.R_far (p := ⟨gb127, 6, none⟩) (Kd.R_far (p := ⟨gb127, 5, none⟩) (Kd.R_far (p := ⟨gb127, 4, none⟩) (Kd.R_far (p := ⟨gb127, 3, none⟩) (Kd.R_far (p := ⟨gb127, 2, none⟩) (Kd.R_far (p := ⟨gb127, 1, none⟩) (Kd.R_far (p := ⟨gb127, 0, none⟩) (Kd.R_far (p := ⟨gb157, 1, none⟩) (Kd.R_types (Kd.R_types HO155.out BK157.out Z16) BK127.out Z16) (fun _ hk => hk.1.2) (.int .i64 (wrap64 (t131 + (wrap64 (t142 - 1)))))) (fun _ hk => hk.2) (.int .i64 t130)) (fun _ hk => hk.2) (.int .i64 (wrap64 (t131 + (wrap64 (t142 - 1)))))) (fun _ hk => hk.2) (.int .i64 t132)) (fun _ hk => hk.2) (.int .i64 t133)) (fun _ hk => hk.2) (.slice Ao55 t134.length co55)) (fun _ hk => hk.2) (.int .i64 t135)) (fun _ hk => hk.2) (.slice Ao56 t136.length co56)) (fun _ hk => hk.1.1.1), by (with_reducible repeat (first | apply Kd.R_alloc | apply Kd.R_drewN | apply Kd.R_drew)); exact Kd.R_mono (Kd.R_far (p := ⟨gb127, 6, none⟩) (Kd.R_far (p := ⟨gb127, 5, none⟩) (Kd.R_far (p := ⟨gb127, 4, none⟩) (Kd.R_far (p := ⟨gb127, 3, none⟩) (Kd.R_far (p := ⟨gb127, 2, none⟩) (Kd.R_far (p := ⟨gb127, 1, none⟩) (Kd.R_far (p := ⟨gb127, 0, none⟩) (Kd.R_far (p := ⟨gb157, 1, none⟩) (Kd.R_types (Kd.R_types HO156.out BK157.out Z16) BK127.out Z16) (fun _ hk => hk.1.2) (.int .i64 (wrap64 (t131 + (wrap64 (t142 - 1)))))) (fun _ hk => hk.2) (.int .i64 t130)) (fun _ hk => hk.2) (.int .i64 (wrap64 (t131 + (wrap64 (t142 - 1)))))) (fun _ hk => hk.2) (.int .i64 t132)) (fun _ hk => hk.2) (.int .i64 t133)) (fun _ hk => hk.2) (.slice Ao55 t134.length co55)) (fun _ hk => hk.2) (.int .i64 t135)) (fun _ hk => hk.2) (.slice Ao56 t136.length co56)) (fun _ hk => hk.1.1.1), Z3, Z19, Z17⟩
   rw [if_neg c47] at H
   have c47b0 : (t138 == 2) = false := beq_eq_false_iff_ne.mpr c47
   have c47b1 : (t138 != 2) = true := bne_iff_ne.mpr c47
   by_cases c64 : t138 = 3
   ·
    rw [if_pos c64] at H
    have c64b0 : (t138 == 3) = true := beq_iff_eq.mpr c64
    have c64b1 : (t138 != 3) = false := bne_eq_false_iff_eq.mpr c64
    clear c64
    replace H := Option.bind_eq_some_iff.mp H
    obtain ⟨t143, A164, H⟩ := H
    try dsimp only at H
    have A65 := am A164
    clear A164
    replace H := Option.bind_eq_some_iff.mp H
    obtain ⟨⟨t144, t165, t166⟩, A167, H⟩ := H
    try dsimp only at H
    have A66 := am A167
    clear A167
    by_cases c67 : 0 ≤ t144
    rotate_left
    ·
     rw [if_neg c67] at H
     exact absurd H Z43
    rw [if_pos c67] at H
    have c67b0 := decide_eq_true c67
    clear c67
    by_cases c68 : t144 < (t143.length : Int)
    rotate_left
    ·
     rw [if_neg c68] at H
     exact absurd H Z43
    rw [if_pos c68] at H
    have c68b0 := decide_eq_true c68
    clear c68
    obtain ⟨y168, hy168⟩ : ∃ y_ : List Bool, y_ = (t143.set (t144 : Int).toNat (!(rdOf false t143 t144))) := ⟨_, rfl⟩
    replace H : ((Fm.f kj4 y168).bind fun bt145 => (some (t130, t131, t132, t133, t134, bt145.1, bt145.2, t165, t166))) = some (r1, r2, r3, r4, r5, r6, r7, r8, r9) := by first | (rw [hy168]; with_reducible exact H) | (have H2_ := (Option.bind_some _ _).symm.trans H; rw [hy168]; with_reducible exact H2_) | (have H2_ := (Option.bind_some _ _).symm.trans H; with_reducible exact H2_) | with_reducible exact H | (rw [hy168]; exact H) | exact H
    have Ny168 := am hy168
    clear hy168
    replace H := Option.bind_eq_some_iff.mp H
    obtain ⟨⟨t145, t169⟩, A170, H⟩ := H
    try dsimp only at H
    have A70 := am A170
    clear A170
    simp only [Option.some.injEq, Prod.mk.injEq] at H
    obtain ⟨rfl, rfl, rfl, rfl, rfl, rfl, rfl, rfl, rfl⟩ := H
    obtain ⟨Ao71, co71, eo71⟩ := Kd.R_slice HO_4.out
    subst eo71
    go_wp2_with (first | ((with_reducible refine gate_callee (f := 31) rfl ?_); refine gL 19 rfl Try.func31 #[.slice Ao71 x4_4.length co71, .int .i64 x3_4] ?_; (with_reducible refine (Fk.calls kj4 _ _ x4_4 x3_4 t130 t131 t132 t133 t134 t135 t136 _ ?side1 ?side2 A11.out).mono ?_); (case side1 => exact uD HO_4); (case side2 => exact (Kd.R_reads' HO_4.out).2.1); rintro e w72 ⟨v153, v154, rfl, ho0, ho1, hb⟩; refine ⟨_, rfl, ?_⟩; have HO155 := am (Kd.R_lower (Kd.R_new' ho0 (Kd.R_lt (uR HO_4))) (keep_size (w := w) (g := g) (row := none) Z7)); have HO156 := am (Kd.R_lower (Kd.R_new' ho1 (Kd.R_lt (uR HO_4))) (keep_size (w := w) (g := g) (row := none) Z7)); replace HO_4 := am (Kd.R_mono (Kd.R_told (Kd.R_told (Kd.R_old (uR HO_4) hb) (Kd.R_base ho0)) (Kd.R_base ho1)) (fun _ h_ => h_.1)); replace BK127 := kB BK127 hb; replace HK := am (KeepBut.trans Z7 (KeepBut.of_below hb g none) (.inl rfl)); replace HB := am (below_step Z21 hb); replace HI0 := am (IsS47.below Z14 hb); (try clear hb); (try clear hb2); (try clear hk); (try clear hi); (try clear ho0); (try clear ho1)) | ((with_reducible refine gate_dst (N := 5) rfl ?_); refine box_event ?hg (N := 5) ?hd (cs := #[.int .i64 0, .int .i64 0, .int .i64 0, .int .i64 0, .slice none 0 0, .int .i64 0, .slice none 0 0]) (t := 28) ?hr ?_; (case hd => rfl); (case hg => rfl); (case hr => exact Z111); intro gb157 hg w73 hbox hb; replace HO_4 := rB HO_4 hb; replace HO155 := rB HO155 hb; replace HO156 := rB HO156 hb; replace HB := am (below_step Z21 hb); have BK157 := am (hbox); have GW157 := am ((by rw [hg]; exact (keep_size (w := w) (g := g) (row := none) Z7) : w.heap.size ≤ gb157)); have GE157 := am ((Nat.le_trans HW0.out (by rw [hg]; exact (keep_size (w := w) (g := g) (row := none) Z7) : w.heap.size ≤ gb157) : w0.heap.size ≤ gb157)); replace HK := am (KeepBut.trans Z7 (KeepBut.of_below hb g none) (.inl rfl)); have NB127_157 := nL BK127 hg; have NB157_127 := nR BK127 hg; replace BK127 := kB BK127 hb; have NB0_157 := am ((by rw [hg]; exact Nat.ne_of_lt (IsS47.lt (show IsS47 w0 _ g s0_0 t125 t126 from Z14)) : g ≠ gb157)); have NB157_0 := am ((by rw [hg]; exact Nat.ne_of_gt (IsS47.lt (show IsS47 w0 _ g s0_0 t125 t126 from Z14)) : gb157 ≠ g)); replace HI0 := am (IsS47.below Z14 hb); clear hb hbox hg; have hnb74 := NB157_127.out; have hnc74 := NB127_157.out; have hnb75 := NB157_0.out; have hnc75 := NB0_157.out; obtain ⟨hcz76_0, hcz76_1, hcz76_2, hcz76_3, hcz76_4, hcz76_5, hcz76_6, hfz76_0, hfz76_1, hfz76_2, hfz76_3, hfz76_4, hfz76_5, hfz76_6⟩ := ce7 BK157; obtain ⟨Ao77, co77, eo77⟩ := Kd.R_slice HO155.out; subst eo77; obtain ⟨Ao78, co78, eo78⟩ := Kd.R_slice HO156.out; subst eo78) | ((with_reducible refine gate_callee (f := 44) rfl ?_); refine gL 21 rfl Try.func44 #[.pointer (some ⟨g, 0, none⟩), .int .i64 14] ?_; (with_reducible refine (Fd.calls g s0_0 t125 t126 14 t138 t147 t148 w0 _ ?side1 ?side2 A12.out).mono ?_); (case side1 => exact Z3); (case side2 => exact Z19); rintro e w79 ⟨rfl, hi, hb, hk⟩; refine ⟨_, rfl, ?_⟩; replace HO_4 := am (Kd.R_mono (Kd.R_keep (IsS47.apart (show IsS47 w0 _ g s0_0 t125 t126 from Z3) (fS HO_4 BK157 Z16) Z16) hk (fun _ h => h.2)) (fun _ h => h.1)); replace BK127 := am (KeepBut.blk hk (g' := gb127) (o := .cells #[.int .i64 0, .int .i64 0, .int .i64 0, .int .i64 0, .slice none 0 0, .int .i64 0, .slice none 0 0] 28 (0, 0)) (pf NB127_157 (pf NB127_157 (pf NB127_157 (pf NB127_157 (pf NB127_157 (pf NB127_157 (pf NB127_157 (pb BK127)))))))) NB127_0.out Z43); replace HO155 := am (Kd.R_mono (Kd.R_keep (IsS47.apart (show IsS47 w0 _ g s0_0 t125 t126 from Z3) (fS HO155 BK157 Z16) Z16) hk (fun _ h => h.2)) (fun _ h => h.1)); replace HO156 := am (Kd.R_mono (Kd.R_keep (IsS47.apart (show IsS47 w0 _ g s0_0 t125 t126 from Z3) (fS HO156 BK157 Z16) Z16) hk (fun _ h => h.2)) (fun _ h => h.1)); replace BK157 := am (KeepBut.blk hk (g' := gb157) (o := .cells #[.int .i64 t130, .int .i64 t131, .int .i64 t132, .int .i64 t133, .slice Ao77 t134.length co77, .int .i64 t135, .slice Ao78 t136.length co78] 28 (0, 0)) (pT (pp 6 (pp 5 (pp 4 (pp 3 (pp 2 (pp 1 (pp 0 (pb BK157))))))))) NB157_0.out Z43); replace HK := am (KeepBut.trans Z17 hk (.inl rfl)); replace HB := am (hb); replace HI0 := am (hi); (try clear hb); (try clear hb2); (try clear hk); (try clear hi); obtain ⟨hcz80_0, hcz80_1, hcz80_2, hcz80_3, hcz80_4, hcz80_5, hcz80_6, hfz80_0, hfz80_1, hfz80_2, hfz80_3, hfz80_4, hfz80_5, hfz80_6⟩ := ce7 BK157) | ((with_reducible refine gate_callee (f := 45) rfl ?_); refine gL 53 rfl Try.func45 #[.agg #[.int .i64 t135, .slice Ao78 t136.length co78]] ?_; (with_reducible refine (FE.calls kj4 t135 _ _ t136 t143 _ ?side1 ?side2 A65.out).mono ?_); (case side1 => exact uD HO156); (case side2 => exact (Kd.R_reads' HO156.out).2.1); rintro e w81 ⟨v171, rfl, ho0, hb⟩; refine ⟨_, rfl, ?_⟩; replace HO_4 := rB HO_4 hb; replace HO155 := rB HO155 hb; replace HO156 := rB HO156 hb; have HO172 := am (Kd.R_lower ho0 (keep_size (w := w) (g := g) (row := none) Z17)); replace BK127 := kB BK127 hb; replace BK157 := kB BK157 hb; replace HK := am (KeepBut.trans Z17 (KeepBut.of_below hb g none) (.inl rfl)); replace HB := am (below_step Z19 hb); replace HI0 := am (IsS47.below Z3 hb); (try clear hb); (try clear hb2); (try clear hk); (try clear hi); (try clear ho0); obtain ⟨Ao82, co82, eo82⟩ := Kd.R_slice HO172.out; subst eo82) | ((with_reducible refine gate_callee (f := 44) rfl ?_); refine gL 57 rfl Try.func44 #[.pointer (some ⟨g, 0, none⟩), .int .i64 (t143.length : Int)] ?_; (with_reducible refine (Fd.calls g s0_0 t147 t148 (t143.length : Int) t144 t165 t166 w0 _ ?side1 ?side2 A66.out).mono ?_); (case side1 => exact Z3); (case side2 => exact Z19); rintro e w83 ⟨rfl, hi, hb, hk⟩; refine ⟨_, rfl, ?_⟩; replace HO_4 := am (Kd.R_mono (Kd.R_keep (IsS47.apart (show IsS47 w0 _ g s0_0 t147 t148 from Z3) (uR HO_4) Z16) hk (fun _ h => h.2)) (fun _ h => h.1)); replace BK127 := am (KeepBut.blk hk (g' := gb127) (o := .cells #[.int .i64 0, .int .i64 0, .int .i64 0, .int .i64 0, .slice none 0 0, .int .i64 0, .slice none 0 0] 28 (0, 0)) (uK BK127) NB127_0.out Z43); replace HO155 := am (Kd.R_mono (Kd.R_keep (IsS47.apart (show IsS47 w0 _ g s0_0 t147 t148 from Z3) (uR HO155) Z16) hk (fun _ h => h.2)) (fun _ h => h.1)); replace HO156 := am (Kd.R_mono (Kd.R_keep (IsS47.apart (show IsS47 w0 _ g s0_0 t147 t148 from Z3) (uR HO156) Z16) hk (fun _ h => h.2)) (fun _ h => h.1)); replace BK157 := am (KeepBut.blk hk (g' := gb157) (o := .cells #[.int .i64 t130, .int .i64 t131, .int .i64 t132, .int .i64 t133, .slice Ao77 t134.length co77, .int .i64 t135, .slice Ao78 t136.length co78] 28 (0, 0)) (uK BK157) NB157_0.out Z43); replace HO172 := am (Kd.R_mono (Kd.R_keep (IsS47.apart (show IsS47 w0 _ g s0_0 t147 t148 from Z3) (uR HO172) Z16) hk (fun _ h => h.2)) (fun _ h => h.1)); replace HK := am (KeepBut.trans Z17 hk (.inl rfl)); replace HB := am (hb); replace HI0 := am (hi); (try clear hb); (try clear hb2); (try clear hk); (try clear hi); have p173 : 0 ≤ (t144 : Int) := of_decide_eq_true Z6; have q173 : t144 < (t143.length : Int) := of_decide_eq_true Z6; obtain ⟨ad173, e173, hx173_0⟩ := Kd.at_bool (Kd.R_reads' HO172.out).2.2 t144 p173 q173; cases e173; replace p173 := eq_true p173; replace q173 := eq_true q173; have p69 : 0 ≤ (t144 : Int) := of_decide_eq_true Z6; have q69 : (t144 : Int) < ((t143.length : Int) : Int) := of_decide_eq_true Z6; obtain ⟨go69, co69, eo69, gb69, gl69, cl69, HG69⟩ := Kd.R_form HO172.out Z70; (first | cases eo69 | (injection eo69 with ea_ en_ ec_; (first | subst ea_ | (injection ea_ with ea_; subst ea_)); subst ec_; clear en_)); have GB69 := am gb69; have GG69 := am HG69; clear gb69 gl69 HG69; (first | simp only [add_plain] at hx173_0 | skip); obtain ⟨hx69_0, hf69_0⟩ := Kd.R_celln false HO172.out (t144 : Int) p69 q69; replace p69 := eq_true p69; replace q69 := eq_true q69; obtain ⟨hy84_, hz84_⟩ := Kd.R_celln false HO172.out (t144 : Int) (of_decide_eq_true Z6) (of_decide_eq_true Z6); have HP84 := Kd.R_putg HO172.out (t144 : Int) (!(rdOf false t143 t144))) | ((with_reducible refine gate_store (t := 4) (p := 65) rfl ?_); refine store_event (t := 4) (p := 65) (v := ?vo_w85) (w1 := (w83.setCell ⟨go69, (t144 : Int).toNat, none⟩ (.bool (!(rdOf false t143 t144))))) ?hg ?ho ?hn ?hr ?_; (case ho => rfl); (case hg => rfl); (case hn => rfl); (case hr => exact Z111); intro w85 hw; have hg : w83.grownBy w85 (some go69) := (by rw [hw]; exact HP84.2); have hp_ : Kd.R Kd.bool 4 w85 w.heap.size (fun _ => True) (.slice (some ⟨go69, 0, none⟩) t143.length co82) y168 := (by rw [hw, Ny168.out]; exact HP84.1); clear HP84; replace HO_4 := am (Kd.R_over' (v := (.slice (some ⟨go69, 0, none⟩) t143.length co82)) (uR HO_4) (Kd.R_typed HO172.out) Z16 hg); replace BK127 := am (blk_grown (g := gb127) (o := .cells #[.int .i64 0, .int .i64 0, .int .i64 0, .int .i64 0, .slice none 0 0, .int .i64 0, .slice none 0 0] 28 (0, 0)) (uK BK127) hg (Kd.R_ne HO172.out BK127.out Z16)); replace HI0 := am (IsS47.grown Z3 hg (IsS47.own_ne HI0.out HO172.out Z16)); replace HO155 := am (Kd.R_over' (v := (.slice (some ⟨go69, 0, none⟩) t143.length co82)) (uR HO155) (Kd.R_typed HO172.out) Z16 hg); replace HO156 := am (Kd.R_over' (v := (.slice (some ⟨go69, 0, none⟩) t143.length co82)) (uR HO156) (Kd.R_typed HO172.out) Z16 hg); replace BK157 := am (blk_grown (g := gb157) (o := .cells #[.int .i64 t130, .int .i64 t131, .int .i64 t132, .int .i64 t133, .slice Ao77 t134.length co77, .int .i64 t135, .slice Ao78 t136.length co78] 28 (0, 0)) (uK BK157) hg (Kd.R_ne HO172.out BK157.out Z16)); replace HB := am ((by rw [hw]; exact below_set (HB.out) (Nat.le_trans HL.out GB69.out) : Below w0.heap.size w0 w85)); replace HK := am (KeepBut.trans Z17 (KeepBut.of_grown hg g) (Kd.R_base2 HO172.out)); replace HO172 := am (hp_); clear hg hw hp_) | ((with_reducible refine gate_callee (f := 46) rfl ?_); refine goesL_ (some 67) rfl rfl Try.func46 Z112 rfl #[.slice (some ⟨go69, 0, none⟩) y168.length co82] rfl (by (try simp only [List.map_toArray, List.map_cons, List.map_nil]); first | done | (rw [show y168.length = t143.length from (Kd.R_reads' HO172.out).1.symm] <;> rfl) | rfl | (simp only [List.length_drop, List.length_take]; rfl)) ?_; (with_reducible refine (Fm.calls kj4 _ _ y168 t145 t169 _ ?side1 ?side2 A70.out).mono ?_); (case side1 => exact uD HO172); (case side2 => rw [show y168.length = t143.length from (Kd.R_reads' HO172.out).1.symm]; exact (Kd.R_reads' HO172.out).2.1); rintro e w86 ⟨v174, rfl, ho0, hb⟩; refine ⟨_, rfl, ?_⟩; replace HO172 := rB HO172 hb; have HO175 := am (Kd.R_lower (Kd.R_new' (Kd.R_new' (Kd.R_new' ho0 (Kd.R_lt (uR HO_4))) (Kd.R_lt (uR HO155))) (Kd.R_lt (uR HO156))) (keep_size (w := w) (g := g) (row := none) Z17)); replace HO_4 := am (Kd.R_elder' (uR HO_4) (Kd.R_base ho0) hb); replace HO155 := am (Kd.R_elder' (uR HO155) (Kd.R_base ho0) hb); replace HO156 := am (Kd.R_elder' (uR HO156) (Kd.R_base ho0) hb); replace BK127 := kB BK127 hb; replace BK157 := kB BK157 hb; replace HK := am (KeepBut.trans Z17 (KeepBut.of_below hb g none) (.inl rfl)); replace HB := am (below_step Z19 hb); replace HI0 := am (IsS47.below Z3 hb); (try clear hb); (try clear hb2); (try clear hk); (try clear hi); (try clear ho0); obtain ⟨hcz87_0, hcz87_1, hcz87_2, hcz87_3, hcz87_4, hcz87_5, hcz87_6, hfz87_0, hfz87_1, hfz87_2, hfz87_3, hfz87_4, hfz87_5, hfz87_6⟩ := ce7 BK157; obtain ⟨Ao88, co88, eo88⟩ := Kd.R_slice HO175.out; subst eo88; have hnb89 := NB127_0.out; have hnc89 := NB0_127.out; obtain ⟨hcz90_0, hcz90_1, hcz90_2, hcz90_3, hcz90_4, hcz90_5, hcz90_6, hfz90_0, hfz90_1, hfz90_2, hfz90_3, hfz90_4, hfz90_5, hfz90_6⟩ := ce7 BK127))
    refine bodyPost_ret (results_cell_row rfl _ _ gb127 28 #[.int .i64 t130, .int .i64 t131, .int .i64 t132, .int .i64 t133, .slice Ao77 t134.length co77, .int .i64 t145, .slice Ao88 t169.length co88] (0, 0) _ rfl (pT (pp 6 (pp 5 (pp 4 (pp 3 (pp 2 (pp 1 (pp 0 (pf NB127_157 (pf NB127_157 (pb BK127))))))))))) Try.underlying28 rfl Z112) rfl ?_
    exact ⟨_, _, Z109, by (with_reducible repeat (first | apply Kd.R_alloc | apply Kd.R_drewN | apply Kd.R_drew)); exact Kd.R_mono (Kd.R_far (p := ⟨gb127, 6, none⟩) (Kd.R_far (p := ⟨gb127, 5, none⟩) (Kd.R_far (p := ⟨gb127, 4, none⟩) (Kd.R_far (p := ⟨gb127, 3, none⟩) (Kd.R_far (p := ⟨gb127, 2, none⟩) (Kd.R_far (p := ⟨gb127, 1, none⟩) (Kd.R_far (p := ⟨gb127, 0, none⟩) (Kd.R_far (p := ⟨gb157, 6, none⟩) (Kd.R_far (p := ⟨gb157, 5, none⟩) (Kd.R_types (Kd.R_types HO155.out BK157.out Z16) BK127.out Z16) (fun _ hk => hk.1.2) (.int .i64 t145)) (fun _ hk => hk.1.2) (.slice Ao88 t169.length co88)) (fun _ hk => hk.2) (.int .i64 t130)) (fun _ hk => hk.2) (.int .i64 t131)) (fun _ hk => hk.2) (.int .i64 t132)) (fun _ hk => hk.2) (.int .i64 t133)) (fun _ hk => hk.2) (.slice Ao77 t134.length co77)) (fun _ hk => hk.2) (.int .i64 t145)) (fun _ hk => hk.2) (.slice Ao88 t169.length co88)) (fun _ hk => hk.1.1.2), by (with_reducible repeat (first | apply Kd.R_alloc | apply Kd.R_drewN | apply Kd.R_drew)); exact Kd.R_mono (Kd.R_far (p := ⟨gb127, 6, none⟩) (Kd.R_far (p := ⟨gb127, 5, none⟩) (Kd.R_far (p := ⟨gb127, 4, none⟩) (Kd.R_far (p := ⟨gb127, 3, none⟩) (Kd.R_far (p := ⟨gb127, 2, none⟩) (Kd.R_far (p := ⟨gb127, 1, none⟩) (Kd.R_far (p := ⟨gb127, 0, none⟩) (Kd.R_far (p := ⟨gb157, 6, none⟩) (Kd.R_far (p := ⟨gb157, 5, none⟩) (Kd.R_types (Kd.R_types HO175.out BK157.out Z16) BK127.out Z16) (fun _ hk => hk.1.2) (.int .i64 t145)) (fun _ hk => hk.1.2) (.slice Ao88 t169.length co88)) (fun _ hk => hk.2) (.int .i64 t130)) (fun _ hk => hk.2) (.int .i64 t131)) (fun _ hk => hk.2) (.int .i64 t132)) (fun _ hk => hk.2) (.int .i64 t133)) (fun _ hk => hk.2) (.slice Ao77 t134.length co77)) (fun _ hk => hk.2) (.int .i64 t145)) (fun _ hk => hk.2) (.slice Ao88 t169.length co88)) (fun _ hk => hk.1.1.1.2), Z3, Z19, Z17⟩
   rw [if_neg c64] at H
   have c64b0 : (t138 == 3) = false := beq_eq_false_iff_ne.mpr c64
   have c64b1 : (t138 != 3) = true := bne_iff_ne.mpr c64
   by_cases c91 : t138 = 4
   ·
    rw [if_pos c91] at H
    have c91b0 : (t138 == 4) = true := beq_iff_eq.mpr c91
    have c91b1 : (t138 != 4) = false := bne_eq_false_iff_eq.mpr c91
    clear c91
    replace H := Option.bind_eq_some_iff.mp H
    obtain ⟨⟨t146, t176, t177, t178⟩, A179, H⟩ := H
    try dsimp only at H
    have A92 := am A179
    clear A179
    simp only [Option.some.injEq, Prod.mk.injEq] at H
    obtain ⟨rfl, rfl, rfl, rfl, rfl, rfl, rfl, rfl, rfl⟩ := H
    obtain ⟨Ao93, co93, eo93⟩ := Kd.R_slice HO_4.out
    subst eo93
    go_wp2_with (first | ((with_reducible refine gate_callee (f := 31) rfl ?_); refine gL 19 rfl Try.func31 #[.slice Ao93 x4_4.length co93, .int .i64 x3_4] ?_; (with_reducible refine (Fk.calls kj4 _ _ x4_4 x3_4 t130 t131 t132 t133 t134 t135 t136 _ ?side1 ?side2 A11.out).mono ?_); (case side1 => exact uD HO_4); (case side2 => exact (Kd.R_reads' HO_4.out).2.1); rintro e w94 ⟨v153, v154, rfl, ho0, ho1, hb⟩; refine ⟨_, rfl, ?_⟩; have HO155 := am (Kd.R_lower (Kd.R_new' ho0 (Kd.R_lt (uR HO_4))) (keep_size (w := w) (g := g) (row := none) Z7)); have HO156 := am (Kd.R_lower (Kd.R_new' ho1 (Kd.R_lt (uR HO_4))) (keep_size (w := w) (g := g) (row := none) Z7)); replace HO_4 := am (Kd.R_mono (Kd.R_told (Kd.R_told (Kd.R_old (uR HO_4) hb) (Kd.R_base ho0)) (Kd.R_base ho1)) (fun _ h_ => h_.1)); replace BK127 := kB BK127 hb; replace HK := am (KeepBut.trans Z7 (KeepBut.of_below hb g none) (.inl rfl)); replace HB := am (below_step Z21 hb); replace HI0 := am (IsS47.below Z14 hb); (try clear hb); (try clear hb2); (try clear hk); (try clear hi); (try clear ho0); (try clear ho1)) | ((with_reducible refine gate_dst (N := 5) rfl ?_); refine box_event ?hg (N := 5) ?hd (cs := #[.int .i64 0, .int .i64 0, .int .i64 0, .int .i64 0, .slice none 0 0, .int .i64 0, .slice none 0 0]) (t := 28) ?hr ?_; (case hd => rfl); (case hg => rfl); (case hr => exact Z111); intro gb157 hg w95 hbox hb; replace HO_4 := rB HO_4 hb; replace HO155 := rB HO155 hb; replace HO156 := rB HO156 hb; replace HB := am (below_step Z21 hb); have BK157 := am (hbox); have GW157 := am ((by rw [hg]; exact (keep_size (w := w) (g := g) (row := none) Z7) : w.heap.size ≤ gb157)); have GE157 := am ((Nat.le_trans HW0.out (by rw [hg]; exact (keep_size (w := w) (g := g) (row := none) Z7) : w.heap.size ≤ gb157) : w0.heap.size ≤ gb157)); replace HK := am (KeepBut.trans Z7 (KeepBut.of_below hb g none) (.inl rfl)); have NB127_157 := nL BK127 hg; have NB157_127 := nR BK127 hg; replace BK127 := kB BK127 hb; have NB0_157 := am ((by rw [hg]; exact Nat.ne_of_lt (IsS47.lt (show IsS47 w0 _ g s0_0 t125 t126 from Z14)) : g ≠ gb157)); have NB157_0 := am ((by rw [hg]; exact Nat.ne_of_gt (IsS47.lt (show IsS47 w0 _ g s0_0 t125 t126 from Z14)) : gb157 ≠ g)); replace HI0 := am (IsS47.below Z14 hb); clear hb hbox hg; have hnb96 := NB157_127.out; have hnc96 := NB127_157.out; have hnb97 := NB157_0.out; have hnc97 := NB0_157.out; obtain ⟨hcz98_0, hcz98_1, hcz98_2, hcz98_3, hcz98_4, hcz98_5, hcz98_6, hfz98_0, hfz98_1, hfz98_2, hfz98_3, hfz98_4, hfz98_5, hfz98_6⟩ := ce7 BK157; obtain ⟨Ao99, co99, eo99⟩ := Kd.R_slice HO155.out; subst eo99; obtain ⟨Ao180, co180, eo180⟩ := Kd.R_slice HO156.out; subst eo180) | ((with_reducible refine gate_callee (f := 44) rfl ?_); refine gL 21 rfl Try.func44 #[.pointer (some ⟨g, 0, none⟩), .int .i64 14] ?_; (with_reducible refine (Fd.calls g s0_0 t125 t126 14 t138 t147 t148 w0 _ ?side1 ?side2 A12.out).mono ?_); (case side1 => exact Z3); (case side2 => exact Z19); rintro e w181 ⟨rfl, hi, hb, hk⟩; refine ⟨_, rfl, ?_⟩; replace HO_4 := am (Kd.R_mono (Kd.R_keep (IsS47.apart (show IsS47 w0 _ g s0_0 t125 t126 from Z3) (fS HO_4 BK157 Z16) Z16) hk (fun _ h => h.2)) (fun _ h => h.1)); replace BK127 := am (KeepBut.blk hk (g' := gb127) (o := .cells #[.int .i64 0, .int .i64 0, .int .i64 0, .int .i64 0, .slice none 0 0, .int .i64 0, .slice none 0 0] 28 (0, 0)) (pf NB127_157 (pf NB127_157 (pf NB127_157 (pf NB127_157 (pf NB127_157 (pf NB127_157 (pf NB127_157 (pb BK127)))))))) NB127_0.out Z43); replace HO155 := am (Kd.R_mono (Kd.R_keep (IsS47.apart (show IsS47 w0 _ g s0_0 t125 t126 from Z3) (fS HO155 BK157 Z16) Z16) hk (fun _ h => h.2)) (fun _ h => h.1)); replace HO156 := am (Kd.R_mono (Kd.R_keep (IsS47.apart (show IsS47 w0 _ g s0_0 t125 t126 from Z3) (fS HO156 BK157 Z16) Z16) hk (fun _ h => h.2)) (fun _ h => h.1)); replace BK157 := am (KeepBut.blk hk (g' := gb157) (o := .cells #[.int .i64 t130, .int .i64 t131, .int .i64 t132, .int .i64 t133, .slice Ao99 t134.length co99, .int .i64 t135, .slice Ao180 t136.length co180] 28 (0, 0)) (pT (pp 6 (pp 5 (pp 4 (pp 3 (pp 2 (pp 1 (pp 0 (pb BK157))))))))) NB157_0.out Z43); replace HK := am (KeepBut.trans Z17 hk (.inl rfl)); replace HB := am (hb); replace HI0 := am (hi); (try clear hb); (try clear hb2); (try clear hk); (try clear hi)) | ((with_reducible refine gate_callee (f := 47) rfl ?_); refine gL 72 rfl Try.func47 #[.pointer (some ⟨g, 0, none⟩)] ?_; (with_reducible refine (Fq.calls kj4 g s0_0 t147 t148 t146 t176 t177 t178 w0 _ ?side1 ?side2 A92.out).mono ?_); (case side1 => exact Z3); (case side2 => exact Z19); rintro e w182 ⟨v183, rfl, ho0, hi, hb, hk⟩; refine ⟨_, rfl, ?_⟩; replace BK127 := am (KeepBut.blk hk (g' := gb127) (o := .cells #[.int .i64 0, .int .i64 0, .int .i64 0, .int .i64 0, .slice none 0 0, .int .i64 0, .slice none 0 0] 28 (0, 0)) (uK BK127) NB127_0.out Z43); replace BK157 := am (KeepBut.blk hk (g' := gb157) (o := .cells #[.int .i64 t130, .int .i64 t131, .int .i64 t132, .int .i64 t133, .slice Ao99 t134.length co99, .int .i64 t135, .slice Ao180 t136.length co180] 28 (0, 0)) (uK BK157) NB157_0.out Z43); have HO184 := am (Kd.R_lower (Kd.R_new' (Kd.R_new' (Kd.R_new' ho0 (Kd.R_lt (uR HO_4))) (Kd.R_lt (uR HO155))) (Kd.R_lt (uR HO156))) (keep_size (w := w) (g := g) (row := none) Z17)); replace HO_4 := am (Kd.R_mono (Kd.R_told (Kd.R_oldK (IsS47.apart (show IsS47 w0 _ g s0_0 t147 t148 from Z3) (uR HO_4) Z16) hk) (Kd.R_base ho0)) (fun _ h_ => h_.1)); replace HO155 := am (Kd.R_mono (Kd.R_told (Kd.R_oldK (IsS47.apart (show IsS47 w0 _ g s0_0 t147 t148 from Z3) (uR HO155) Z16) hk) (Kd.R_base ho0)) (fun _ h_ => h_.1)); replace HO156 := am (Kd.R_mono (Kd.R_told (Kd.R_oldK (IsS47.apart (show IsS47 w0 _ g s0_0 t147 t148 from Z3) (uR HO156) Z16) hk) (Kd.R_base ho0)) (fun _ h_ => h_.1)); replace HK := am (KeepBut.trans Z17 hk (.inl rfl)); replace HB := am (hb); replace HI0 := am (hi); (try clear hb); (try clear hb2); (try clear hk); (try clear hi); (try clear ho0); obtain ⟨hcz185_0, hcz185_1, hcz185_2, hcz185_3, hcz185_4, hcz185_5, hcz185_6, hfz185_0, hfz185_1, hfz185_2, hfz185_3, hfz185_4, hfz185_5, hfz185_6⟩ := ce7 BK157; obtain ⟨Ao186, co186, eo186⟩ := Kd.R_slice HO184.out; subst eo186; have hnb187 := NB127_0.out; have hnc187 := NB0_127.out; obtain ⟨hcz188_0, hcz188_1, hcz188_2, hcz188_3, hcz188_4, hcz188_5, hcz188_6, hfz188_0, hfz188_1, hfz188_2, hfz188_3, hfz188_4, hfz188_5, hfz188_6⟩ := ce7 BK127))
    refine bodyPost_ret (results_cell_row rfl _ _ gb127 28 #[.int .i64 t130, .int .i64 t131, .int .i64 t132, .int .i64 t146, .slice Ao186 t176.length co186, .int .i64 t135, .slice Ao180 t136.length co180] (0, 0) _ rfl (pT (pp 6 (pp 5 (pp 4 (pp 3 (pp 2 (pp 1 (pp 0 (pf NB127_157 (pf NB127_157 (pb BK127))))))))))) Try.underlying28 rfl Z112) rfl ?_
    exact ⟨_, _, Z109, by (with_reducible repeat (first | apply Kd.R_alloc | apply Kd.R_drewN | apply Kd.R_drew)); exact Kd.R_mono (Kd.R_far (p := ⟨gb127, 6, none⟩) (Kd.R_far (p := ⟨gb127, 5, none⟩) (Kd.R_far (p := ⟨gb127, 4, none⟩) (Kd.R_far (p := ⟨gb127, 3, none⟩) (Kd.R_far (p := ⟨gb127, 2, none⟩) (Kd.R_far (p := ⟨gb127, 1, none⟩) (Kd.R_far (p := ⟨gb127, 0, none⟩) (Kd.R_far (p := ⟨gb157, 4, none⟩) (Kd.R_far (p := ⟨gb157, 3, none⟩) (Kd.R_types (Kd.R_types HO184.out BK157.out Z16) BK127.out Z16) (fun _ hk => hk.1.2) (.int .i64 t146)) (fun _ hk => hk.1.2) (.slice Ao186 t176.length co186)) (fun _ hk => hk.2) (.int .i64 t130)) (fun _ hk => hk.2) (.int .i64 t131)) (fun _ hk => hk.2) (.int .i64 t132)) (fun _ hk => hk.2) (.int .i64 t146)) (fun _ hk => hk.2) (.slice Ao186 t176.length co186)) (fun _ hk => hk.2) (.int .i64 t135)) (fun _ hk => hk.2) (.slice Ao180 t136.length co180)) (fun _ hk => hk.1.1.2), by (with_reducible repeat (first | apply Kd.R_alloc | apply Kd.R_drewN | apply Kd.R_drew)); exact Kd.R_mono (Kd.R_far (p := ⟨gb127, 6, none⟩) (Kd.R_far (p := ⟨gb127, 5, none⟩) (Kd.R_far (p := ⟨gb127, 4, none⟩) (Kd.R_far (p := ⟨gb127, 3, none⟩) (Kd.R_far (p := ⟨gb127, 2, none⟩) (Kd.R_far (p := ⟨gb127, 1, none⟩) (Kd.R_far (p := ⟨gb127, 0, none⟩) (Kd.R_far (p := ⟨gb157, 4, none⟩) (Kd.R_far (p := ⟨gb157, 3, none⟩) (Kd.R_types (Kd.R_types HO156.out BK157.out Z16) BK127.out Z16) (fun _ hk => hk.1.2) (.int .i64 t146)) (fun _ hk => hk.1.2) (.slice Ao186 t176.length co186)) (fun _ hk => hk.2) (.int .i64 t130)) (fun _ hk => hk.2) (.int .i64 t131)) (fun _ hk => hk.2) (.int .i64 t132)) (fun _ hk => hk.2) (.int .i64 t146)) (fun _ hk => hk.2) (.slice Ao186 t176.length co186)) (fun _ hk => hk.2) (.int .i64 t135)) (fun _ hk => hk.2) (.slice Ao180 t136.length co180)) (fun _ hk => hk.1.1.2), Z3, Z19, Z17⟩
   rw [if_neg c91] at H
   have c91b0 : (t138 == 4) = false := beq_eq_false_iff_ne.mpr c91
   have c91b1 : (t138 != 4) = true := bne_iff_ne.mpr c91
   simp only [Option.some.injEq, Prod.mk.injEq] at H
   obtain ⟨rfl, rfl, rfl, rfl, rfl, rfl, rfl, rfl, rfl⟩ := H
   obtain ⟨Ao189, co189, eo189⟩ := Kd.R_slice HO_4.out
   subst eo189
   go_wp2_with (first | ((with_reducible refine gate_callee (f := 31) rfl ?_); refine gL 19 rfl Try.func31 #[.slice Ao189 x4_4.length co189, .int .i64 x3_4] ?_; (with_reducible refine (Fk.calls kj4 _ _ x4_4 x3_4 t130 t131 t132 t133 t134 t135 t136 _ ?side1 ?side2 A11.out).mono ?_); (case side1 => exact uD HO_4); (case side2 => exact (Kd.R_reads' HO_4.out).2.1); rintro e w190 ⟨v153, v154, rfl, ho0, ho1, hb⟩; refine ⟨_, rfl, ?_⟩; have HO155 := am (Kd.R_lower (Kd.R_new' ho0 (Kd.R_lt (uR HO_4))) (keep_size (w := w) (g := g) (row := none) Z7)); have HO156 := am (Kd.R_lower (Kd.R_new' ho1 (Kd.R_lt (uR HO_4))) (keep_size (w := w) (g := g) (row := none) Z7)); replace HO_4 := am (Kd.R_mono (Kd.R_told (Kd.R_told (Kd.R_old (uR HO_4) hb) (Kd.R_base ho0)) (Kd.R_base ho1)) (fun _ h_ => h_.1)); replace BK127 := kB BK127 hb; replace HK := am (KeepBut.trans Z7 (KeepBut.of_below hb g none) (.inl rfl)); replace HB := am (below_step Z21 hb); replace HI0 := am (IsS47.below Z14 hb); (try clear hb); (try clear hb2); (try clear hk); (try clear hi); (try clear ho0); (try clear ho1)) | ((with_reducible refine gate_dst (N := 5) rfl ?_); refine box_event ?hg (N := 5) ?hd (cs := #[.int .i64 0, .int .i64 0, .int .i64 0, .int .i64 0, .slice none 0 0, .int .i64 0, .slice none 0 0]) (t := 28) ?hr ?_; (case hd => rfl); (case hg => rfl); (case hr => exact Z111); intro gb157 hg w191 hbox hb; replace HO_4 := rB HO_4 hb; replace HO155 := rB HO155 hb; replace HO156 := rB HO156 hb; replace HB := am (below_step Z21 hb); have BK157 := am (hbox); have GW157 := am ((by rw [hg]; exact (keep_size (w := w) (g := g) (row := none) Z7) : w.heap.size ≤ gb157)); have GE157 := am ((Nat.le_trans HW0.out (by rw [hg]; exact (keep_size (w := w) (g := g) (row := none) Z7) : w.heap.size ≤ gb157) : w0.heap.size ≤ gb157)); replace HK := am (KeepBut.trans Z7 (KeepBut.of_below hb g none) (.inl rfl)); have NB127_157 := nL BK127 hg; have NB157_127 := nR BK127 hg; replace BK127 := kB BK127 hb; have NB0_157 := am ((by rw [hg]; exact Nat.ne_of_lt (IsS47.lt (show IsS47 w0 _ g s0_0 t125 t126 from Z14)) : g ≠ gb157)); have NB157_0 := am ((by rw [hg]; exact Nat.ne_of_gt (IsS47.lt (show IsS47 w0 _ g s0_0 t125 t126 from Z14)) : gb157 ≠ g)); replace HI0 := am (IsS47.below Z14 hb); clear hb hbox hg; have hnb137 := NB157_127.out; have hnc137 := NB127_157.out; have hnb192 := NB157_0.out; have hnc192 := NB0_157.out; obtain ⟨hcz193_0, hcz193_1, hcz193_2, hcz193_3, hcz193_4, hcz193_5, hcz193_6, hfz193_0, hfz193_1, hfz193_2, hfz193_3, hfz193_4, hfz193_5, hfz193_6⟩ := ce7 BK157; obtain ⟨Ao194, co194, eo194⟩ := Kd.R_slice HO155.out; subst eo194; obtain ⟨Ao195, co195, eo195⟩ := Kd.R_slice HO156.out; subst eo195) | ((with_reducible refine gate_callee (f := 44) rfl ?_); refine gL 21 rfl Try.func44 #[.pointer (some ⟨g, 0, none⟩), .int .i64 14] ?_; (with_reducible refine (Fd.calls g s0_0 t125 t126 14 t138 t147 t148 w0 _ ?side1 ?side2 A12.out).mono ?_); (case side1 => exact Z3); (case side2 => exact Z19); rintro e w196 ⟨rfl, hi, hb, hk⟩; refine ⟨_, rfl, ?_⟩; replace HO_4 := am (Kd.R_mono (Kd.R_keep (IsS47.apart (show IsS47 w0 _ g s0_0 t125 t126 from Z3) (fS HO_4 BK157 Z16) Z16) hk (fun _ h => h.2)) (fun _ h => h.1)); replace BK127 := am (KeepBut.blk hk (g' := gb127) (o := .cells #[.int .i64 0, .int .i64 0, .int .i64 0, .int .i64 0, .slice none 0 0, .int .i64 0, .slice none 0 0] 28 (0, 0)) (pf NB127_157 (pf NB127_157 (pf NB127_157 (pf NB127_157 (pf NB127_157 (pf NB127_157 (pf NB127_157 (pb BK127)))))))) NB127_0.out Z43); replace HO155 := am (Kd.R_mono (Kd.R_keep (IsS47.apart (show IsS47 w0 _ g s0_0 t125 t126 from Z3) (fS HO155 BK157 Z16) Z16) hk (fun _ h => h.2)) (fun _ h => h.1)); replace HO156 := am (Kd.R_mono (Kd.R_keep (IsS47.apart (show IsS47 w0 _ g s0_0 t125 t126 from Z3) (fS HO156 BK157 Z16) Z16) hk (fun _ h => h.2)) (fun _ h => h.1)); replace BK157 := am (KeepBut.blk hk (g' := gb157) (o := .cells #[.int .i64 t130, .int .i64 t131, .int .i64 t132, .int .i64 t133, .slice Ao194 t134.length co194, .int .i64 t135, .slice Ao195 t136.length co195] 28 (0, 0)) (pT (pp 6 (pp 5 (pp 4 (pp 3 (pp 2 (pp 1 (pp 0 (pb BK157))))))))) NB157_0.out Z43); replace HK := am (KeepBut.trans Z17 hk (.inl rfl)); replace HB := am (hb); replace HI0 := am (hi); (try clear hb); (try clear hb2); (try clear hk); (try clear hi); obtain ⟨hcz197_0, hcz197_1, hcz197_2, hcz197_3, hcz197_4, hcz197_5, hcz197_6, hfz197_0, hfz197_1, hfz197_2, hfz197_3, hfz197_4, hfz197_5, hfz197_6⟩ := ce7 BK157; have hnb198 := NB127_0.out; have hnc198 := NB0_127.out; obtain ⟨hcz199_0, hcz199_1, hcz199_2, hcz199_3, hcz199_4, hcz199_5, hcz199_6, hfz199_0, hfz199_1, hfz199_2, hfz199_3, hfz199_4, hfz199_5, hfz199_6⟩ := ce7 BK127))
   refine bodyPost_ret (results_cell_row rfl _ _ gb127 28 #[.int .i64 t130, .int .i64 t131, .int .i64 t132, .int .i64 t133, .slice Ao194 t134.length co194, .int .i64 t135, .slice Ao195 t136.length co195] (0, 0) _ rfl (pT (pp 6 (pp 5 (pp 4 (pp 3 (pp 2 (pp 1 (pp 0 (pb BK127))))))))) Try.underlying28 rfl Z112) rfl ?_
   exact ⟨_, _, Z109, by (with_reducible repeat (first | apply Kd.R_alloc | apply Kd.R_drewN | apply Kd.R_drew)); exact Kd.R_mono (fT HO155 BK127 Z16) (fun _ hk => hk.1.1), by (with_reducible repeat (first | apply Kd.R_alloc | apply Kd.R_drewN | apply Kd.R_drew)); exact Kd.R_mono (fT HO156 BK127 Z16) (fun _ hk => hk.1.1), Z3, Z19, Z17⟩

/-! ### Foa: function 21 -/
def Foa.f (s0_0 : List Int) (s0_1 : Int) (s0_2 : Int) (a1 : Int) : Option (Int × Int × Int) := (FP.f a1 0).bind fun t3 => ((Fd.f s0_0 s0_1 s0_2 (wrap64 (t3 + 4))).bind fun bt4 => (some (wrap64 (bt4.1 - 1), bt4.2.1, bt4.2.2)))
theorem Foa.calls (g : Nat) (s0_0 : List Int) (s0_1 : Int) (s0_2 : Int) (a1 : Int) (r1 : Int) (r2 : Int) (r3 : Int) (w0 w : World) (hI : IsS47 w0 w g s0_0 s0_1 s0_2) (hB : Below w0.heap.size w0 w) (h : Foa.f s0_0 s0_1 s0_2 a1 = some (r1, r2, r3)) :
  Calls Try.prog 21 #[.pointer (some ⟨g, 0, none⟩), .int .i64 a1] w fun e w' => e = .returned (.int .i64 r1) ∧ IsS47 w0 w' g s0_0 r2 r3 ∧ Below w0.heap.size w0 w' ∧ KeepBut w w' g none := by
 have HI0 := am hI
 have HK := am (KeepBut.refl w g none)
 have HL := am hB.size
 clear hI
 have HW0 := am hB.size
 have HB := am hB
 clear hB
 have H : ((FP.f a1 0).bind fun t6 => ((Fd.f s0_0 s0_1 s0_2 (wrap64 (t6 + 4))).bind fun bt7 => (some (wrap64 (bt7.1 - 1), bt7.2.1, bt7.2.2)))) = some (r1, r2, r3) := h
 clear h
 replace H := Option.bind_eq_some_iff.mp H
 obtain ⟨t6, A30, H⟩ := H
 try dsimp only at H
 have A3 := am A30
 clear A30
 replace H := Option.bind_eq_some_iff.mp H
 obtain ⟨⟨t7, t8, t9⟩, A40, H⟩ := H
 try dsimp only at H
 have A4 := am A40
 clear A40
 simp only [Option.some.injEq, Prod.mk.injEq] at H
 obtain ⟨rfl, rfl, rfl⟩ := H
 go_enter Try.func21, Try.ntmps21
 go_wp2_with (first | ((with_reducible refine gate_callee (f := 48) rfl ?_); refine gL 7 rfl Try.func48 #[.int .i64 a1, .int .i64 0] ?_; (with_reducible refine (FP.calls a1 0 t6 _ A3.out).mono ?_); rintro e w' ⟨rfl, ⟨nd, rfl⟩⟩; refine ⟨_, rfl, ?_⟩) | ((with_reducible refine gate_callee (f := 44) rfl ?_); refine gL 9 rfl Try.func44 #[.pointer (some ⟨g, 0, none⟩), .int .i64 (wrap64 (t6 + 4))] ?_; (with_reducible refine (Fd.calls g s0_0 s0_1 s0_2 (wrap64 (t6 + 4)) t7 t8 t9 w0 _ ?side1 ?side2 A4.out).mono ?_); (case side1 => exact Z1); (case side2 => exact Z4); rintro e w5 ⟨rfl, hi, hb, hk⟩; refine ⟨_, rfl, ?_⟩; replace HK := am (KeepBut.trans Z2 hk (.inl rfl)); replace HB := am (hb); replace HI0 := am (hi); (try clear hb); (try clear hb2); (try clear hk); (try clear hi)))
 go_ret
 exact ⟨Z109, Z1, Z4, Z2⟩

end Go.Proofs.Ytllaofiopnhdgaa.PFnSparseParts
