-- made by wip/tools/myprint.py over the kit's print, for this claim
import Derived.Test.YtllaofiopnhdgaaPFnSparseCountsx0
import Derived.Test.YtllaofiopnhdgaaPFnSparseCountsx1
import Derived.Test.YtllaofiopnhdgaaPFnSparseCountsx2
namespace Go.Proofs.Ytllaofiopnhdgaa.PFnSparseCounts
open Go.RowKit Go.Proofs.YtllaofiopnhdgaaW.PrintWords Go.Proofs.YtllaofiopnhdgaaW.PrintLast Go.Proofs.YtllaofiopnhdgaaW.PrintMore
open List (setIfInBounds_toArray set_cons_zero set_cons_succ)
attribute [local go_sem] max2_int min2_int max_two min_two max_three min_three max_four min_four   -- for this text's walks alone
set_option linter.unusedVariables false
set_option linter.unusedSimpArgs false

/-! ### spec_l1Cur_sorted: function 42 -/
mutual
def spec_l1Cur_sorted.j0 : Nat → Int → List Int → Int → List Int → Int → Int → Option (List Int × Int × Int)
 | 0, _, _, _, _, _, _ => none
 | k + 1, x1, x5, x6, x1000, x1001, x1002 => spec_l1Cur_sorted.l0 k x1 x5 x6 x1000 x1001 x1002
def spec_l1Cur_sorted.l0 : Nat → Int → List Int → Int → List Int → Int → Int → Option (List Int × Int × Int)
 | 0, _, _, _, _, _, _ => none
 | k + 1, x1, x5, x6, x1000, x1001, x1002 => if x6 > 0 then ((spec_l1Most.f x1 1).bind fun t181 => ((spec_l1Cur_pick.f x1000 x1001 x1002 t181).bind fun bt182 => (spec_l1Cur_sorted.l1 k x1 x5 x6 bt182.1 0 x1000 bt182.2.1 bt182.2.2))) else ((spec_l1Cur_one.f x1000 x1001 x1002 12).bind fun bt226 => (if bt226.1 = true then (spec_l1Cur_sorted.j3 k x1 x5 (decide ((x5.length : Int) > 0)) x1000 bt226.2.1 bt226.2.2) else (spec_l1Cur_sorted.j3 k x1 x5 false x1000 bt226.2.1 bt226.2.2)))
def spec_l1Cur_sorted.l1 : Nat → Int → List Int → Int → Int → Int → List Int → Int → Int → Option (List Int × Int × Int)
 | 0, _, _, _, _, _, _, _, _ => none
 | k + 1, x1, x5, x6, x7, x8, x1000, x1001, x1002 => if x8 < (x5.length : Int) then (if 0 ≤ x8 then (if (rd x5 x8) ≤ x7 then (spec_l1Cur_sorted.l1 k x1 x5 x6 x7 (wrap64 (x8 + 1)) x1000 x1001 x1002) else (if x8 ≤ (x5.length : Int) then ((spec_l1Own.f (x5.take (x8 : Int).toNat)).bind fun t190 => ((some (([x7] : List Int) : List Int)).bind fun y193 => (if t190.length + y193.length < 17592186044416 then ((some (t190 ++ y193 : List Int)).bind fun y196 => ((some (x5.drop (x8 : Int).toNat : List Int)).bind fun y199 => (if y196.length + y199.length < 17592186044416 then (spec_l1Cur_sorted.l0 k x1 (y196 ++ y199) (wrap64 (x6 - 1)) x1000 x1001 x1002) else (none)))) else (none)))) else (none))) else (none)) else (if 0 ≤ x8 then (if x8 ≤ (x5.length : Int) then ((spec_l1Own.f (x5.take (x8 : Int).toNat)).bind fun t210 => ((some (([x7] : List Int) : List Int)).bind fun y213 => (if t210.length + y213.length < 17592186044416 then ((some (t210 ++ y213 : List Int)).bind fun y216 => ((some (x5.drop (x8 : Int).toNat : List Int)).bind fun y219 => (if y216.length + y219.length < 17592186044416 then (spec_l1Cur_sorted.l0 k x1 (y216 ++ y219) (wrap64 (x6 - 1)) x1000 x1001 x1002) else (none)))) else (none)))) else (none)) else (none))
def spec_l1Cur_sorted.j3 : Nat → Int → List Int → Bool → List Int → Int → Int → Option (List Int × Int × Int)
 | 0, _, _, _, _, _, _ => none
 | k + 1, x1, x5, x55, x1000, x1001, x1002 => if x55 = true then ((spec_l1Cur_pick.f x1000 x1001 x1002 (x5.length : Int)).bind fun bt229 => ((spec_l1Cur_among.f x1000 bt229.2.1 bt229.2.2 (([(-1), 0, x1, wrap64 (x1 - 1)] : List Int))).bind fun bt235 => (if 0 ≤ bt229.1 then (if bt229.1 < (x5.length : Int) then (some ((x5.set (bt229.1 : Int).toNat bt235.1), bt235.2.1, bt235.2.2)) else (none)) else (none)))) else (some (x5, x1001, x1002))
end
def spec_l1Cur_sorted.f (k : Nat) (s0_0 : List Int) (s0_1 : Int) (s0_2 : Int) (a1 : Int) : Option (List Int × Int × Int) := (spec_l1Cur_pick.f s0_0 s0_1 s0_2 9).bind fun bt172 => ((spec_l1Cur_one.f s0_0 bt172.2.1 bt172.2.2 24).bind fun bt175 => (if bt175.1 = true then ((spec_l1Cur_pick.f s0_0 bt175.2.1 bt175.2.2 2).bind fun bt178 => (spec_l1Cur_sorted.j0 k a1 ([] : List Int) (wrap64 (60 + bt178.1)) s0_0 bt178.2.1 bt178.2.2)) else (spec_l1Cur_sorted.j0 k a1 ([] : List Int) bt172.1 s0_0 bt175.2.1 bt175.2.2)))
theorem spec_l1Cur_sorted.mono_l : ∀ k, (∀ y0 y1 y2 y3 y4 y5, LeO (spec_l1Cur_sorted.j0 k y0 y1 y2 y3 y4 y5) (spec_l1Cur_sorted.j0 (k + 1) y0 y1 y2 y3 y4 y5)) ∧ (∀ y0 y1 y2 y3 y4 y5, LeO (spec_l1Cur_sorted.l0 k y0 y1 y2 y3 y4 y5) (spec_l1Cur_sorted.l0 (k + 1) y0 y1 y2 y3 y4 y5)) ∧ (∀ y0 y1 y2 y3 y4 y5 y6 y7, LeO (spec_l1Cur_sorted.l1 k y0 y1 y2 y3 y4 y5 y6 y7) (spec_l1Cur_sorted.l1 (k + 1) y0 y1 y2 y3 y4 y5 y6 y7)) ∧ (∀ y0 y1 y2 y3 y4 y5, LeO (spec_l1Cur_sorted.j3 k y0 y1 y2 y3 y4 y5) (spec_l1Cur_sorted.j3 (k + 1) y0 y1 y2 y3 y4 y5))
 | 0 => ⟨fun _ _ _ _ _ _ r h => by simp [spec_l1Cur_sorted.j0] at h, fun _ _ _ _ _ _ r h => by simp [spec_l1Cur_sorted.l0] at h, fun _ _ _ _ _ _ _ _ r h => by simp [spec_l1Cur_sorted.l1] at h, fun _ _ _ _ _ _ r h => by simp [spec_l1Cur_sorted.j3] at h⟩ | k + 1 => by
  obtain ⟨ih0, ih1, ih2, ih3⟩ := spec_l1Cur_sorted.mono_l k
  refine ⟨?_, ?_, ?_, ?_⟩
  ·
   intro y0 y1 y2 y3 y4 y5
   unfold spec_l1Cur_sorted.j0
   repeat' first
   | with_reducible first | exact ih0 .. | exact ih1 .. | exact ih2 .. | exact ih3 .. | exact LeO.refl _ | exact LeO.none _ | refine LeO.ite ?_ ?_ | refine LeO.bind ?_ (fun _ => ?_)
   | exact ih0 .. | exact ih1 .. | exact ih2 .. | exact ih3 .. | exact LeO.none _ | refine LeO.ite ?_ ?_ | refine LeO.bind ?_ (fun _ => ?_)
  ·
   intro y0 y1 y2 y3 y4 y5
   unfold spec_l1Cur_sorted.l0
   repeat' first
   | with_reducible first | exact ih0 .. | exact ih1 .. | exact ih2 .. | exact ih3 .. | exact LeO.refl _ | exact LeO.none _ | refine LeO.ite ?_ ?_ | refine LeO.bind ?_ (fun _ => ?_)
   | exact ih0 .. | exact ih1 .. | exact ih2 .. | exact ih3 .. | exact LeO.none _ | refine LeO.ite ?_ ?_ | refine LeO.bind ?_ (fun _ => ?_)
  ·
   intro y0 y1 y2 y3 y4 y5 y6 y7
   unfold spec_l1Cur_sorted.l1
   repeat' first
   | with_reducible first | exact ih0 .. | exact ih1 .. | exact ih2 .. | exact ih3 .. | exact LeO.refl _ | exact LeO.none _ | refine LeO.ite ?_ ?_ | refine LeO.bind ?_ (fun _ => ?_)
   | exact ih0 .. | exact ih1 .. | exact ih2 .. | exact ih3 .. | exact LeO.none _ | refine LeO.ite ?_ ?_ | refine LeO.bind ?_ (fun _ => ?_)
  intro y0 y1 y2 y3 y4 y5
  unfold spec_l1Cur_sorted.j3
  repeat' first
  | with_reducible first | exact ih0 .. | exact ih1 .. | exact ih2 .. | exact ih3 .. | exact LeO.refl _ | exact LeO.none _ | refine LeO.ite ?_ ?_ | refine LeO.bind ?_ (fun _ => ?_)
  | exact ih0 .. | exact ih1 .. | exact ih2 .. | exact ih3 .. | exact LeO.none _ | refine LeO.ite ?_ ?_ | refine LeO.bind ?_ (fun _ => ?_)
theorem spec_l1Cur_sorted.mono : ∀ a0 a1 a2 a3 k, LeO (spec_l1Cur_sorted.f k a0 a1 a2 a3) (spec_l1Cur_sorted.f (k + 1) a0 a1 a2 a3) := by
 intro a0 a1 a2 a3 k
 obtain ⟨ih0, ih1, ih2, ih3⟩ := spec_l1Cur_sorted.mono_l k
 unfold spec_l1Cur_sorted.f
 repeat' first
   | with_reducible first | exact ih0 .. | exact ih1 .. | exact ih2 .. | exact ih3 .. | exact LeO.refl _ | exact LeO.none _ | refine LeO.ite ?_ ?_ | refine LeO.bind ?_ (fun _ => ?_)
   | exact ih0 .. | exact ih1 .. | exact ih2 .. | exact ih3 .. | exact LeO.none _ | refine LeO.ite ?_ ?_ | refine LeO.bind ?_ (fun _ => ?_)
def spec_l1Cur_sorted.T11 : Bool × List (List Nat × List Nat) := (true, [([], []), ([], []), ([0, 1], [0, 1]), ([2], [2]), ([], []), ([4], [4]), ([3, 5, 3], [3, 5]), ([], []), ([], []), ([7, 8], [7, 8]), ([6, 9, 6], [6, 9]), ([10, 10, 0, 1, 2, 3, 4, 5, 6, 7, 8, 9, 10], [0, 7, 10])])
def spec_l1Cur_sorted.B11 : List Nat := [0, 0, 3, 7, 0, 16, 63, 0, 0, 384, 1023, 2047]
theorem spec_l1Cur_sorted.tab11 : rtab .any (opsOf Try.f42 11) = spec_l1Cur_sorted.T11 := by kernel_rfl
theorem spec_l1Cur_sorted.bits11 : waitsOk spec_l1Cur_sorted.T11.2 spec_l1Cur_sorted.B11 = true := by kernel_rfl
set_option maxHeartbeats 8000000 in
set_option maxRecDepth 100000 in
theorem spec_l1Cur_sorted.calls (k : Nat) (g : Nat) (s0_0 : List Int) (s0_1 : Int) (s0_2 : Int) (a1 : Int) (r1 : List Int) (r2 : Int) (r3 : Int) (w0 w : World) (hI : IsS47 w0 w g s0_0 s0_1 s0_2) (hB : Below w0.heap.size w0 w) (h : spec_l1Cur_sorted.f k s0_0 s0_1 s0_2 a1 = some (r1, r2, r3)) :
  Calls Try.prog 42 #[.pointer (some ⟨g, 0, none⟩), .int .i64 a1] w fun e w' => ∃ v0_ : Value, e = .returned (v0_) ∧ Kd.R (Kd.int .i64) 3 w' w.heap.size (fun _ => True) v0_ r1 ∧ IsS47 w0 w' g s0_0 r2 r3 ∧ Below w0.heap.size w0 w' ∧ KeepBut w w' g none := by
 have HI0 := Aside0.mk hI
 have HK := Aside0.mk (KeepBut.refl w g none)
 have HL := Aside0.mk hB.size
 clear hI
 have HW0 := Aside0.mk hB.size
 have HB := Aside0.mk hB
 clear hB
 have H : ((spec_l1Cur_pick.f s0_0 s0_1 s0_2 9).bind fun bt172 => ((spec_l1Cur_one.f s0_0 bt172.2.1 bt172.2.2 24).bind fun bt175 => (if bt175.1 = true then ((spec_l1Cur_pick.f s0_0 bt175.2.1 bt175.2.2 2).bind fun bt178 => (spec_l1Cur_sorted.j0 k a1 ([] : List Int) (wrap64 (60 + bt178.1)) s0_0 bt178.2.1 bt178.2.2)) else (spec_l1Cur_sorted.j0 k a1 ([] : List Int) bt172.1 s0_0 bt175.2.1 bt175.2.2)))) = some (r1, r2, r3) := h
 clear h
 replace H := Option.bind_eq_some_iff.mp H
 obtain ⟨⟨t172, t173, t174⟩, A30, H⟩ := H
 try dsimp only at H
 have A3 := Aside0.mk A30
 clear A30
 replace H := Option.bind_eq_some_iff.mp H
 obtain ⟨⟨t175, t176, t177⟩, A40, H⟩ := H
 try dsimp only at H
 have A4 := Aside0.mk A40
 clear A40
 have HC5 := Aside0.mk H
 clear H
 go_enter Try.func42, Try.ntmps42
 go_upto_if 12 with (first | ((with_reducible refine gate_callee (f := 44) rfl ?_); refine goesL_ (some 10) rfl rfl Try.func44 Z92 rfl #[.pointer (some ⟨g, 0, none⟩), .int .i64 9] rfl Z104 ?_; (with_reducible refine (spec_l1Cur_pick.calls g s0_0 s0_1 s0_2 9 t172 t173 t174 w0 _ ?side1 ?side2 A3.out).mono ?_); (case side1 => exact Z1); (case side2 => exact Z4); rintro e w6 ⟨rfl, hi, hb, hk⟩; refine ⟨_, rfl, ?_⟩; replace HK := Aside0.mk (KeepBut.trans Z2 hk (.inl rfl)); replace HB := Aside0.mk (hb); replace HI0 := Aside0.mk (hi); (try clear hb); (try clear hb2); (try clear hk); (try clear hi)) | ((with_reducible refine gate_callee (f := 73) rfl ?_); refine goesL_ (some 12) rfl rfl Try.func73 Z92 rfl #[.pointer (some ⟨g, 0, none⟩), .int .i64 24] rfl Z104 ?_; (with_reducible refine (spec_l1Cur_one.calls g s0_0 t173 t174 24 t175 t176 t177 w0 _ ?side1 ?side2 A4.out).mono ?_); (case side1 => exact Z1); (case side2 => exact Z4); rintro e w7 ⟨rfl, hi, hb, hk⟩; refine ⟨_, rfl, ?_⟩; replace HK := Aside0.mk (KeepBut.trans Z2 hk (.inl rfl)); replace HB := Aside0.mk (hb); replace HI0 := Aside0.mk (hi); (try clear hb); (try clear hb2); (try clear hk); (try clear hi)))
 (try simp only [Act.put, setIfInBounds_toArray, set_cons_zero, set_cons_succ])
 go_cut [6] (fun v6 wc => ∃ (kq : Nat) (x6_4 : Int) (x1001_4 : Int) (x1002_4 : Int), v6 = .int .i64 x6_4 ∧ Aside0 (spec_l1Cur_sorted.j0 kq a1 ([] : List Int) x6_4 s0_0 x1001_4 x1002_4 = some (r1, r2, r3)) ∧ Aside0 (kq ≤ k) ∧ Aside0 (Kd.R (Kd.int .i64) 3 wc w.heap.size (fun _ => True) (.slice none 0 0) ([] : List Int)) ∧ Aside0 (IsS47 w0 wc g s0_0 x1001_4 x1002_4) ∧ Aside0 (KeepBut w wc g none) ∧ Aside0 (Below w0.heap.size w0 wc))
 case first =>
  have H := HC5.out
  clear HC5
  by_cases c8 : t175 = true
  ·
   subst c8
   rw [if_pos rfl] at H
   replace H := Option.bind_eq_some_iff.mp H
   obtain ⟨⟨t178, t179, t180⟩, A90, H⟩ := H
   try dsimp only at H
   have A9 := Aside0.mk A90
   clear A90
   have H' := Aside0.mk H
   clear H
   go_wp2_with (first | ((with_reducible refine gate_callee (f := 44) rfl ?_); refine goesL_ (some 14) rfl rfl Try.func44 Z92 rfl #[.pointer (some ⟨g, 0, none⟩), .int .i64 2] rfl Z104 ?_; (with_reducible refine (spec_l1Cur_pick.calls g s0_0 t176 t177 2 t178 t179 t180 w0 _ ?side1 ?side2 A9.out).mono ?_); (case side1 => exact Z1); (case side2 => exact Z4); rintro e w10 ⟨rfl, hi, hb, hk⟩; refine ⟨_, rfl, ?_⟩; replace HK := Aside0.mk (KeepBut.trans Z2 hk (.inl rfl)); replace HB := Aside0.mk (hb); replace HI0 := Aside0.mk (hi); (try clear hb); (try clear hb2); (try clear hk); (try clear hi)))
   go_meet
   case rel => exact ⟨_, (wrap64 (60 + t178)), (t179), (t180), Z91, H', ⟨Z96⟩, ⟨Z40⟩, ⟨Z1⟩, ⟨Z2⟩, ⟨Z4⟩⟩
  replace c8 := Bool.eq_false_iff.mpr c8
  subst c8
  rw [if_neg (show ¬ (false = true) from Z19)] at H
  have H' := Aside0.mk H
  clear H
  go_wp2
  go_meet
  case rel => exact ⟨_, (t172), (t176), (t177), Z91, H', ⟨Z96⟩, ⟨Z40⟩, ⟨Z1⟩, ⟨Z2⟩, ⟨Z4⟩⟩
 case rest =>
  clear HC5
  try clear p2
  try clear c4
  try clear p6
  try clear c7
  try clear c8
  obtain ⟨kq, x6_4, x1001_4, x1002_4, rfl, HA, HJ4, HO_5, HI0, HK, HB⟩ := hcut
  cases kq with
  | zero => exact absurd HA.out (by simp [spec_l1Cur_sorted.j0])
  | succ kj4 =>
   have H := HA.out
   clear HA
   simp only [spec_l1Cur_sorted.j0] at H
   have H' := Aside0.mk H
   clear H
   go_wp2
   go_loopg [5, 6] kj4 (fun kq v5 v6 w' => ∃ (x5_2 : List Int) (x6_2 : Int) (x1001_2 : Int) (x1002_2 : Int), v6 = .int .i64 x6_2 ∧ Aside0 (spec_l1Cur_sorted.l0 kq a1 x5_2 x6_2 s0_0 x1001_2 x1002_2 = some (r1, r2, r3)) ∧ Aside0 (kq ≤ kj4) ∧ Aside0 (Kd.R (Kd.int .i64) 3 w' w.heap.size (fun _ => True) v5 x5_2) ∧ Aside0 (IsS47 w0 w' g s0_0 x1001_2 x1002_2) ∧ Aside0 (KeepBut w w' g none) ∧ Aside0 (Below w0.heap.size w0 w'))
   case atStart => exact ⟨(([] : List Int)), (x6_4), (x1001_4), (x1002_4), Z91, H', ⟨Nat.le_refl _⟩, ⟨Z60⟩, ⟨Z1⟩, ⟨Z2⟩, ⟨Z4⟩⟩
   case round =>
    clear H'
    try clear p2
    try clear c4
    try clear p6
    try clear c7
    try clear c8
    try clear p2
    try clear p6
    try clear HO_5
    obtain ⟨x5_2, x6_2, x1001_2, x1002_2, rfl, HA, HK2, HO_5, HI0, HK, HB⟩ := hrel
    cases gk with
    | zero => exact absurd HA.out (by simp [spec_l1Cur_sorted.l0])
    | succ k2 =>
     have H := HA.out
     clear HA
     simp only [spec_l1Cur_sorted.l0] at H
     by_cases c11 : x6_2 > 0
     ·
      rw [if_pos c11] at H
      have c11b0 : decide (0 < x6_2) = true := decide_eq_true c11
      clear c11
      replace H := Option.bind_eq_some_iff.mp H
      obtain ⟨t181, A120, H⟩ := H
      try dsimp only at H
      have A12 := Aside0.mk A120
      clear A120
      replace H := Option.bind_eq_some_iff.mp H
      obtain ⟨⟨t182, t183, t184⟩, A130, H⟩ := H
      try dsimp only at H
      have A13 := Aside0.mk A130
      clear A130
      have H' := Aside0.mk H
      clear H
      go_wp2_with (first | ((with_reducible refine gate_callee (f := 48) rfl ?_); refine goesL_ (some 22) rfl rfl Try.func48 Z92 rfl #[.int .i64 a1, .int .i64 1] rfl Z104 ?_; (with_reducible refine (spec_l1Most.calls a1 1 t181 _ A12.out).mono ?_); rintro e w' ⟨rfl, ⟨nd, rfl⟩⟩; refine ⟨_, rfl, ?_⟩) | ((with_reducible refine gate_callee (f := 44) rfl ?_); refine goesL_ (some 23) rfl rfl Try.func44 Z92 rfl #[.pointer (some ⟨g, 0, none⟩), .int .i64 t181] rfl Z104 ?_; (with_reducible refine (spec_l1Cur_pick.calls g s0_0 x1001_2 x1002_2 t181 t182 t183 t184 w0 _ ?side1 ?side2 A13.out).mono ?_); (case side1 => exact Z1); (case side2 => exact Z4); rintro e w14 ⟨rfl, hi, hb, hk⟩; refine ⟨_, rfl, ?_⟩; replace HO_5 := Aside0.mk (Kd.R_mono (Kd.R_keep (IsS47.apart (show IsS47 w0 _ g s0_0 x1001_2 x1002_2 from Z1) (uR HO_5) Z19) hk (fun _ h => h.2)) (fun _ h => h.1)); replace HK := Aside0.mk (KeepBut.trans Z2 hk (.inl rfl)); replace HB := Aside0.mk (hb); replace HI0 := Aside0.mk (hi); (try clear hb); (try clear hb2); (try clear hk); (try clear hi)))
      go_loopg [8] k2 (fun kq v8 w' => ∃ (x8_3 : Int), v8 = .int .i64 x8_3 ∧ Aside0 (spec_l1Cur_sorted.l1 kq a1 x5_2 x6_2 t182 x8_3 s0_0 t183 t184 = some (r1, r2, r3)) ∧ Aside0 (kq ≤ k2) ∧ Aside0 (Kd.R (Kd.int .i64) 3 w' w.heap.size (fun _ => True) u5 x5_2) ∧ Aside0 (IsS47 w0 w' g s0_0 t183 t184) ∧ Aside0 (KeepBut w w' g none) ∧ Aside0 (Below w0.heap.size w0 w'))
      case atStart => exact ⟨(0), Z91, H', ⟨Nat.le_refl _⟩, ⟨Z60⟩, ⟨Z1⟩, ⟨Z2⟩, ⟨Z4⟩⟩
      case round =>
       clear H'
       try clear c1
       try clear p2
       try clear c4
       try clear p6
       try clear c7
       try clear c8
       try clear c11
       try clear c11b0
       try clear p2
       try clear p6
       try clear HO_5
       obtain ⟨x8_3, rfl, HA, HK3, HO_5, HI0, HK, HB⟩ := hrel
       cases gk with
       | zero => exact absurd HA.out (by simp [spec_l1Cur_sorted.l1])
       | succ k3 =>
        have H := HA.out
        clear HA
        simp only [spec_l1Cur_sorted.l1] at H
        by_cases c15 : x8_3 < (x5_2.length : Int)
        ·
         rw [if_pos c15] at H
         have c15b0 : decide (x8_3 < (x5_2.length : Int)) = true := decide_eq_true c15
         clear c15
         by_cases c16 : 0 ≤ x8_3
         ·
          rw [if_pos c16] at H
          have c16b0 : decide (0 ≤ x8_3) = true := decide_eq_true c16
          clear c16
          by_cases c17 : (rd x5_2 x8_3) ≤ t182
          ·
           rw [if_pos c17] at H
           have c17b0 : decide ((rd x5_2 x8_3) ≤ t182) = true := decide_eq_true c17
           clear c17
           have H' := Aside0.mk H
           clear H
           obtain ⟨Ao18, co18, eo18⟩ := Kd.R_slice HO_5.out
           subst eo18
           have p185 : 0 ≤ (x8_3 : Int) := of_decide_eq_true Z6
           have q185 : x8_3 < (x5_2.length : Int) := of_decide_eq_true Z6
           obtain ⟨ad185, e185, hx185_0⟩ := Kd.at_int (Kd.R_reads' HO_5.out).2.2 x8_3 p185 q185
           cases e185
           replace p185 := eq_true p185
           replace q185 := eq_true q185
           go_wp2
           go_roundg k3
           case measure => have := HJ4.out; have := HK2.out; have := HK3.out; omega
           case rel => exact ⟨(wrap64 (x8_3 + 1)), Z91, H', ⟨by have := HJ4.out; have := HK2.out; have := HK3.out; omega⟩, ⟨Z60⟩, ⟨Z1⟩, ⟨Z2⟩, ⟨Z4⟩⟩
          rw [if_neg c17] at H
          have c17b0 : decide ((rd x5_2 x8_3) ≤ t182) = false := decide_eq_false c17
          clear c17
          have c19b0 := eq_true (of_decide_eq_true Z6 : 0 ≤ x8_3)
          by_cases c20 : x8_3 ≤ (x5_2.length : Int)
          ·
           rw [if_pos c20] at H
           have c20b0 := eq_true c20
           have c20b1 : decide (x8_3 ≤ (x5_2.length : Int)) = true := decide_eq_true c20
           have CK20b1_ : Aside0 (x8_3 ≤ (x5_2.length : Int)) := Aside0.mk (of_decide_eq_true c20b1)
           clear c20
           obtain ⟨y186, hy186⟩ : ∃ y_ : List Int, y_ = (x5_2.take (x8_3 : Int).toNat) := ⟨_, rfl⟩
           replace H : ((spec_l1Own.f y186).bind fun t190 => ((some (([t182] : List Int) : List Int)).bind fun y193 => (if t190.length + y193.length < 17592186044416 then ((some (t190 ++ y193 : List Int)).bind fun y196 => ((some (x5_2.drop (x8_3 : Int).toNat : List Int)).bind fun y199 => (if y196.length + y199.length < 17592186044416 then (spec_l1Cur_sorted.l0 k3 a1 (y196 ++ y199) (wrap64 (x6_2 - 1)) s0_0 t183 t184) else (none)))) else (none)))) = some (r1, r2, r3) := by first | (rw [hy186]; with_reducible exact H) | (have H2_ := (Option.bind_some _ _).symm.trans H; rw [hy186]; with_reducible exact H2_) | (have H2_ := (Option.bind_some _ _).symm.trans H; with_reducible exact H2_) | with_reducible exact H | (rw [hy186]; exact H) | exact H
           have Ny186 := Aside0.mk hy186
           clear hy186
           replace H := Option.bind_eq_some_iff.mp H
           obtain ⟨t190, A210, H⟩ := H
           try dsimp only at H
           have A21 := Aside0.mk A210
           clear A210
           obtain ⟨y193, hy193⟩ : ∃ y_ : List Int, y_ = (([t182] : List Int)) := ⟨_, rfl⟩
           replace H : (if t190.length + y193.length < 17592186044416 then ((some (t190 ++ y193 : List Int)).bind fun y196 => ((some (x5_2.drop (x8_3 : Int).toNat : List Int)).bind fun y199 => (if y196.length + y199.length < 17592186044416 then (spec_l1Cur_sorted.l0 k3 a1 (y196 ++ y199) (wrap64 (x6_2 - 1)) s0_0 t183 t184) else (none)))) else (none)) = some (r1, r2, r3) := by first | (rw [hy193]; with_reducible exact H) | (have H2_ := (Option.bind_some _ _).symm.trans H; rw [hy193]; with_reducible exact H2_) | (have H2_ := (Option.bind_some _ _).symm.trans H; with_reducible exact H2_) | with_reducible exact H | (rw [hy193]; exact H) | exact H
           have Ny193 := Aside0.mk hy193
           clear hy193
           by_cases c22 : t190.length + y193.length < 17592186044416
           ·
            rw [if_pos c22] at H
            have LMc22 := Aside0.mk c22
            clear c22
            obtain ⟨y196, hy196⟩ : ∃ y_ : List Int, y_ = (t190 ++ y193) := ⟨_, rfl⟩
            replace H : ((some (x5_2.drop (x8_3 : Int).toNat : List Int)).bind fun y199 => (if y196.length + y199.length < 17592186044416 then (spec_l1Cur_sorted.l0 k3 a1 (y196 ++ y199) (wrap64 (x6_2 - 1)) s0_0 t183 t184) else (none))) = some (r1, r2, r3) := by first | (rw [hy196]; with_reducible exact H) | (have H2_ := (Option.bind_some _ _).symm.trans H; rw [hy196]; with_reducible exact H2_) | (have H2_ := (Option.bind_some _ _).symm.trans H; with_reducible exact H2_) | with_reducible exact H | (rw [hy196]; exact H) | exact H
            have Ny196 := Aside0.mk hy196
            clear hy196
            have c23b0 := eq_true (of_decide_eq_true Z6 : 0 ≤ x8_3)
            have c24b0 := eq_true (of_decide_eq_true Z6 : x8_3 ≤ (x5_2.length : Int))
            obtain ⟨y199, hy199⟩ : ∃ y_ : List Int, y_ = (x5_2.drop (x8_3 : Int).toNat) := ⟨_, rfl⟩
            replace H : (if y196.length + y199.length < 17592186044416 then (spec_l1Cur_sorted.l0 k3 a1 (y196 ++ y199) (wrap64 (x6_2 - 1)) s0_0 t183 t184) else (none)) = some (r1, r2, r3) := by first | (rw [hy199]; with_reducible exact H) | (have H2_ := (Option.bind_some _ _).symm.trans H; rw [hy199]; with_reducible exact H2_) | (have H2_ := (Option.bind_some _ _).symm.trans H; with_reducible exact H2_) | with_reducible exact H | (rw [hy199]; exact H) | exact H
            have Ny199 := Aside0.mk hy199
            clear hy199
            by_cases c25 : y196.length + y199.length < 17592186044416
            ·
             rw [if_pos c25] at H
             have LMc25 := Aside0.mk c25
             clear c25
             obtain ⟨y203, hy203⟩ : ∃ y_ : List Int, y_ = (y196 ++ y199) := ⟨_, rfl⟩
             replace H : (spec_l1Cur_sorted.l0 k3 a1 y203 (wrap64 (x6_2 - 1)) s0_0 t183 t184) = some (r1, r2, r3) := by first | (rw [hy203]; with_reducible exact H) | (have H2_ := (Option.bind_some _ _).symm.trans H; rw [hy203]; with_reducible exact H2_) | (have H2_ := (Option.bind_some _ _).symm.trans H; with_reducible exact H2_) | with_reducible exact H | (rw [hy203]; exact H) | exact H
             have Ny203 := Aside0.mk hy203
             clear hy203
             have H' := Aside0.mk H
             clear H
             obtain ⟨Ao26, co26, eo26⟩ := Kd.R_slice HO_5.out
             subst eo26
             have p185 : 0 ≤ (x8_3 : Int) := of_decide_eq_true Z6
             have q185 : x8_3 < (x5_2.length : Int) := of_decide_eq_true Z6
             obtain ⟨ad185, e185, hx185_0⟩ := Kd.at_int (Kd.R_reads' HO_5.out).2.2 x8_3 p185 q185
             cases e185
             replace p185 := eq_true p185
             replace q185 := eq_true q185
             try go_wp2
             replace HO_5 := Aside0.mk (Kd.R_drew HO_5.out)
             replace HI0 := Aside0.mk (IsS47.drew HI0.out)
             replace HK := Aside0.mk (keep_drew HK.out)
             replace HB := Aside0.mk (below_drew1 HB.out)
             have q28 : (x8_3 : Int) ≤ ((x5_2.length : Int) : Int) := of_decide_eq_true Z6
             obtain ⟨i028, hi028, _, hsz28, _⟩ := info_parts info3
             have hroom28 : x5_2.length ≤ co26 := (Kd.R_reads' HO_5.out).2.1
             have hC28 : Kd.C (Kd.int .i64) _ (some ad185) x5_2.length x5_2 := (Kd.R_reads' HO_5.out).2.2
             have hcut28 := cut_to (P := Try.prog) 24 3 .i64 Try.underlying24 hi028 (some ad185) x5_2.length co26 x8_3 (of_decide_eq_true Z6) q28 hroom28
             have hr28 := Kd.C_take (m := (x8_3 : Int).toNat) hC28 Z69
             have hy28 : y186.length = (x8_3 : Int).toNat := (by rw [Ny186.out, List.length_take]; omega)
             rw [← Ny186.out] at hr28
             rw [← hy28] at hcut28
             have HR189 := Aside0.mk hr28
             have HC189 := Aside0.mk (show y186.length ≤ co26 from Z69)
             clear hr28 hC28 hroom28 hi028 hsz28
             have KY28 := Aside0.mk hy28
             clear hy28
             have KL28 := Aside0.mk (show (x8_3 : Int).toNat ≤ x5_2.length from Z69)
             replace q28 := eq_true q28
             have q29 : (x8_3 : Int) ≤ ((x5_2.length : Int) : Int) := of_decide_eq_true Z6
             obtain ⟨i029, hi029, _, hsz29, _⟩ := info_parts info3
             have hroom29 : x5_2.length ≤ co26 := (Kd.R_reads' HO_5.out).2.1
             have hC29 : Kd.C (Kd.int .i64) _ (some ad185) x5_2.length x5_2 := (Kd.R_reads' HO_5.out).2.2
             have q029 : (0 : Int) ≤ (x8_3 : Int) := of_decide_eq_true Z6
             have hcut29 := cut_from (P := Try.prog) 24 3 .i64 Try.underlying24 hi029 1 hsz29 (some ad185) x5_2.length co26 x8_3 q029 q29
             have hr29 := Kd.C_drop (m := (x8_3 : Int).toNat) (c := co26) hC29 Z69 hroom29
             obtain ⟨A29, hA29⟩ : ∃ A1, A1 = (if co26 = (x8_3 : Int).toNat then (some ad185) else ((some ad185) : Option Addr).map (·.add ((x8_3 : Int).toNat * 1))) := ⟨_, rfl⟩
             obtain ⟨c29, hc29⟩ : ∃ c1, c1 = co26 - (x8_3 : Int).toNat := ⟨_, rfl⟩
             have hy29 : y199.length = x5_2.length - (x8_3 : Int).toNat := (by rw [Ny199.out, List.length_drop] <;> omega)
             rw [show (x5_2).drop (x8_3 : Int).toNat = y199 from Ny199.out.symm] at hr29
             replace hr29 : Kd.C (Kd.int .i64) _ A29 y199.length y199 := (by rw [hA29]; exact hr29)
             rw [← hy29, ← hA29, ← hc29] at hcut29
             have HR202 := Aside0.mk hr29
             have HC202 := Aside0.mk (show y199.length ≤ c29 from by rw [hy29, hc29]; exact Nat.sub_le_sub_right hroom29 _)
             clear hr29 hC29 hroom29 hi029 hsz29 hc29
             have KY29 := Aside0.mk hy29
             have KA29 := Aside0.mk hA29
             clear hy29 hA29
             have KL29 := Aside0.mk (show (x8_3 : Int).toNat ≤ x5_2.length from Z69)
             replace q29 := eq_true q29
             refine start_ (n := 12) (S := fun w' => True) (ds := []) (bA 12 0) Z92 rfl rfl trivial (fun hHeld => ?_); refine with_tabW spec_l1Cur_sorted.tab11 spec_l1Cur_sorted.bits11 (fun HT_ HW_ => ?_)
             generalize wr.drew = w27 at HO_5 HI0 HK HB HR189 HR202 hHeld ⊢
             refine pS 0 38 (bA 12 1) ?_
             refine pS 1 39 (bA 12 3) ?_
             refine pS 2 40 (bA 12 7) ?_
             refine pS 4 42 (bA 12 23) ?_
             refine pS 7 45 (bA 12 151) ?_
             refine pS 8 46 (bA 12 407) ?_
             refine pS 9 47 (bA 12 919) ?_
             refine join_ (σ := Value × Value) 3 (bA 12 959) (fun s_ => [(41, s_.1), (43, s_.2)]) (fun s_ w' => (Kd.R (Kd.int .i64) 3 w' w.heap.size (fun k_ => some k_ ≠ (s_.2 : Value).ownBlock ∧ some k_ ≠ (.slice (some ad185) x5_2.length co26 : Value).ownBlock) s_.1 t190) ∧ (Kd.R (Kd.int .i64) 3 w' w.heap.size (fun k_ => some k_ ≠ (s_.1 : Value).ownBlock ∧ some k_ ≠ (.slice (some ad185) x5_2.length co26 : Value).ownBlock) s_.2 y193) ∧ (Kd.R (Kd.int .i64) 3 w' w.heap.size (fun k_ => some k_ ≠ (s_.1 : Value).ownBlock ∧ some k_ ≠ (s_.2 : Value).ownBlock) (.slice (some ad185) x5_2.length co26) x5_2) ∧ (IsS47 w0 w' g s0_0 t183 t184) ∧ (KeepBut w w' g none) ∧ (Below w0.heap.size w0 w')) ?_ ?_
             rotate_left
             ·
              intro hCont
              refine two_ (i := 3) (j := 5) (Ni := some 41) (Nj := some 43) (bA 12 927) (bA 12 951) rfl rfl rfl rfl (two_of HT_.out Z92) Z19 Z19 (fun K hK => ?_) (fun K hK => ?_)
              ·
               skip
               refine goes_ Try.func74 Z92 rfl #[.slice (some ad185) y186.length co26] Z63 rfl rfl Z104 ?_
               with_reducible refine (spec_l1Own.calls _ _ y186 t190 _ ?side1 ?side2 A21.out).mono ?_
               (case side1 => exact Z100)
               (case side2 => exact HC189.out)
               rintro e w30 ⟨v191, rfl, ho0, hb⟩
               refine ⟨_, rfl, ?_⟩
               have HO192 := Aside0.mk (Kd.R_lower (Kd.R_new' ho0 (Kd.R_lt (uR HO_5))) (keep_size (w := w) (g := g) (row := none) Z2))
               replace HO_5 := Aside0.mk (Kd.R_elder' (uR HO_5) (Kd.R_base ho0) hb)
               replace HR189 := Aside0.mk (Kd.C_below Z39 hb)
               replace HR202 := Aside0.mk (Kd.C_below Z50 hb)
               replace HK := Aside0.mk (KeepBut.trans Z2 (KeepBut.of_below hb g none) (.inl rfl))
               replace HB := Aside0.mk (below_step Z4 hb)
               replace HI0 := Aside0.mk (IsS47.below Z1 hb)
               (try clear hb)
               (try clear hb2)
               (try clear hk)
               (try clear hi)
               (try clear ho0)
               refine hK.out _ _ trivial (fun hHeld => ?_)
               clear hK K
               refine norm_ (a' := ?_) ?_ ?_
               rotate_left
               ·
                show Act.put _ (some 41) _ = _
                simp only [Act.put, setIfInBounds_toArray, set_cons_zero, set_cons_succ, i64_w, i32_w]
                rfl
               refine one_ (i := 5) (N := some 43) (bA 12 959) rfl rfl (one_of HT_.out Z92) Z19 (fun K hK => ?_)
               refine Kd.R_lit_step (Kd.int .i64) _ 3 ?hg (N := 43) ?hd (xs := ([t182] : List Int)) (inner := [.int .i64 t182]) (ok := fun _ => True) (okp := fun _ => True) ?hr ?hp (fun _ hk => hk) trivial (Below.refl _ _) (Nat.le_refl _) Z37 ?_; (case hd => rfl); (case hg => rfl); (case hr => exact Z93); (case hp => exact (Reps.one (show Kd.M (Kd.int .i64) _ _ _ t182 [.int .i64 t182] from rfl) (Reps.none _ _)))
               intro v194 w31 ho32 hb hg_ hnew_
               clear hg_ hnew_
               (first | rw [← Ny193.out] at ho32 | (simp only [Int.reduceToNat] at ho32; rw [← Ny193.out] at ho32))
               have HO195 := Aside0.mk (Kd.R_lower (Kd.R_new' (Kd.R_new' ho32 (Kd.R_lt (uR HO_5))) (Kd.R_lt (uR HO192))) (keep_size (w := w) (g := g) (row := none) Z2))
               replace HO_5 := Aside0.mk (Kd.R_elder' (uR HO_5) (Kd.R_base ho32) hb)
               replace HO192 := Aside0.mk (Kd.R_elder' (uR HO192) (Kd.R_base ho32) hb)
               replace HR189 := Aside0.mk (Kd.C_below Z39 hb)
               replace HR202 := Aside0.mk (Kd.C_below Z50 hb)
               replace HK := Aside0.mk (KeepBut.trans Z2 (KeepBut.of_below hb g none) (.inl rfl))
               replace HB := Aside0.mk (below_step Z4 hb)
               replace HI0 := Aside0.mk (IsS47.below Z1 hb)
               clear hb ho32
               refine hK.out _ _ trivial (fun hHeld => ?_)
               clear hK K
               refine norm_ (a' := ?_) ?_ ?_
               rotate_left
               ·
                show Act.put _ (some 43) _ = _
                simp only [Act.put, setIfInBounds_toArray, set_cons_zero, set_cons_succ, i64_w, i32_w]
                rfl
               exact norm_ Z97 (hCont (v191, v194) _ ⟨Z74, Z73, Z76, Z1, Z2, Z4⟩)
              skip
              refine Kd.R_lit_step (Kd.int .i64) _ 3 ?hg (N := 43) ?hd (xs := ([t182] : List Int)) (inner := [.int .i64 t182]) (ok := fun _ => True) (okp := fun _ => True) ?hr ?hp (fun _ hk => hk) trivial (Below.refl _ _) (Nat.le_refl _) Z37 ?_; (case hd => rfl); (case hg => rfl); (case hr => exact Z93); (case hp => exact (Reps.one (show Kd.M (Kd.int .i64) _ _ _ t182 [.int .i64 t182] from rfl) (Reps.none _ _)))
              intro v194 w30 ho31 hb hg_ hnew_
              clear hg_ hnew_
              (first | rw [← Ny193.out] at ho31 | (simp only [Int.reduceToNat] at ho31; rw [← Ny193.out] at ho31))
              have HO195 := Aside0.mk (Kd.R_lower (Kd.R_new' ho31 (Kd.R_lt (uR HO_5))) (keep_size (w := w) (g := g) (row := none) Z2))
              replace HO_5 := Aside0.mk (Kd.R_elder' (uR HO_5) (Kd.R_base ho31) hb)
              replace HR189 := Aside0.mk (Kd.C_below Z39 hb)
              replace HR202 := Aside0.mk (Kd.C_below Z50 hb)
              replace HK := Aside0.mk (KeepBut.trans Z2 (KeepBut.of_below hb g none) (.inl rfl))
              replace HB := Aside0.mk (below_step Z4 hb)
              replace HI0 := Aside0.mk (IsS47.below Z1 hb)
              clear hb ho31
              refine hK.out _ _ trivial (fun hHeld => ?_)
              clear hK K
              refine norm_ (a' := ?_) ?_ ?_
              rotate_left
              ·
               show Act.put _ (some 43) _ = _
               simp only [Act.put, setIfInBounds_toArray, set_cons_zero, set_cons_succ, i64_w, i32_w]
               rfl
              refine one_ (i := 3) (N := some 41) (bA 12 959) rfl rfl (one_of HT_.out Z92) Z19 (fun K hK => ?_)
              refine goes_ Try.func74 Z92 rfl #[.slice (some ad185) y186.length co26] Z63 rfl rfl Z104 ?_
              with_reducible refine (spec_l1Own.calls _ _ y186 t190 _ ?side1 ?side2 A21.out).mono ?_
              (case side1 => exact Z100)
              (case side2 => exact HC189.out)
              rintro e w32 ⟨v191, rfl, ho0, hb⟩
              refine ⟨_, rfl, ?_⟩
              have HO192 := Aside0.mk (Kd.R_lower (Kd.R_new' (Kd.R_new' ho0 (Kd.R_lt (uR HO_5))) (Kd.R_lt (uR HO195))) (keep_size (w := w) (g := g) (row := none) Z2))
              replace HO_5 := Aside0.mk (Kd.R_elder' (uR HO_5) (Kd.R_base ho0) hb)
              replace HO195 := Aside0.mk (Kd.R_elder' (uR HO195) (Kd.R_base ho0) hb)
              replace HR189 := Aside0.mk (Kd.C_below Z39 hb)
              replace HR202 := Aside0.mk (Kd.C_below Z50 hb)
              replace HK := Aside0.mk (KeepBut.trans Z2 (KeepBut.of_below hb g none) (.inl rfl))
              replace HB := Aside0.mk (below_step Z4 hb)
              replace HI0 := Aside0.mk (IsS47.below Z1 hb)
              (try clear hb)
              (try clear hb2)
              (try clear hk)
              (try clear hi)
              (try clear ho0)
              refine hK.out _ _ trivial (fun hHeld => ?_)
              clear hK K
              refine norm_ (a' := ?_) ?_ ?_
              rotate_left
              ·
               show Act.put _ (some 41) _ = _
               simp only [Act.put, setIfInBounds_toArray, set_cons_zero, set_cons_succ, i64_w, i32_w]
               rfl
              exact norm_ Z97 (hCont (v191, v194) _ ⟨Z74, Z73, Z75, Z1, Z2, Z4⟩)
             rintro ⟨v191, v194⟩ w33 ⟨h0_, h1_, h2_, h3_, h4_, h5_⟩
             have n0_ : Aside0 (Kd.R (Kd.int .i64) 3 w33 w.heap.size (fun k_ => some k_ ≠ (v194 : Value).ownBlock ∧ some k_ ≠ (.slice (some ad185) x5_2.length co26 : Value).ownBlock) v191 t190) := ⟨h0_⟩
             have n1_ : Aside0 (Kd.R (Kd.int .i64) 3 w33 w.heap.size (fun k_ => some k_ ≠ (v191 : Value).ownBlock ∧ some k_ ≠ (.slice (some ad185) x5_2.length co26 : Value).ownBlock) v194 y193) := ⟨h1_⟩
             have n2_ : Aside0 (Kd.R (Kd.int .i64) 3 w33 w.heap.size (fun k_ => some k_ ≠ (v191 : Value).ownBlock ∧ some k_ ≠ (v194 : Value).ownBlock) (.slice (some ad185) x5_2.length co26) x5_2) := ⟨h2_⟩
             have n3_ : Aside0 (IsS47 w0 w33 g s0_0 t183 t184) := ⟨h3_⟩
             have n4_ : Aside0 (KeepBut w w33 g none) := ⟨h4_⟩
             have n5_ : Aside0 (Below w0.heap.size w0 w33) := ⟨h5_⟩
             clear HO_5
             clear HI0
             clear HK
             clear HB
             clear h0_ h1_ h2_ h3_ h4_ h5_
             have HO192 := n0_
             have HO195 := n1_
             have HO_5 := n2_
             have HI0 := n3_
             have HK := n4_
             have HB := n5_
             clear n0_ n1_ n2_ n3_ n4_ n5_
             have hHeld := trivial
             (try clear HR189)
             have HR189 := Aside0.mk (show Kd.C (Kd.int .i64) w33 (some ad185) y186.length y186 from by rw [Ny186.out]; exact Kd.C_take (m := (x8_3 : Int).toNat) ((Kd.R_reads' HO_5.out).2.2) KL28.out)
             (try clear HR202)
             have HR202 := Aside0.mk (show Kd.C (Kd.int .i64) w33 A29 y199.length y199 from by rw [Ny199.out, KA29.out]; exact Kd.C_drop (m := (x8_3 : Int).toNat) (c := co26) ((Kd.R_reads' HO_5.out).2.2) KL29.out ((Kd.R_reads' HO_5.out).2.1))
             obtain ⟨Ao35, co35, eo35⟩ := Kd.R_slice HO195.out
             (first | subst eo35 | (injection eo35 with f1_ f2_ f3_; have f4_ := f1_.symm; have f5_ := f3_.symm; clear f1_ f2_ f3_; subst f4_; subst f5_))
             refine norm_ (a' := ?_) ?_ ?_
             rotate_left
             ·
              simp only [putAll, Act.put, setIfInBounds_toArray, set_cons_zero, set_cons_succ]
              rfl
             refine one_ (i := 6) (N := some 44) (bA 12 1023) rfl rfl (one_of HT_.out Z92) Z19 (fun K hK => ?_)
             refine Kd.R_append_rows_step (Kd.int .i64) w.heap.size Z63 (.tmp 41) (.tmp 43) 24 3 (.int .i64 0) 8 rfl Try.underlying24 info3 rfl Z19 Z69 v191 t190 y193 _ _ _ (fun k_ => some k_ ≠ (.slice (some ad185) x5_2.length co26 : Value).ownBlock ∧ some k_ ≠ (.slice Ao35 y193.length co35 : Value).ownBlock) (fun _ => False) rfl rfl ?aO ?aR (fun _ _ h => h) (fun _ h => h.elim) ?aF (Below.refl _ _) ?aS ?aL ?_
             (case aR => exact uD HO195)
             (case aF => exact (fun k_ hk => ⟨Kd.fresh' (Kd.R_lt (uR HO_5)) k_ hk, Kd.fresh' (Kd.R_lt (uR HO195)) k_ hk⟩))
             (case aO => exact (by (with_reducible repeat (first | apply Kd.R_alloc | apply Kd.R_drewN | apply Kd.R_drew)); exact Kd.R_mono HO192.out (fun _ hk => ⟨hk.2, hk.1⟩)))
             (case aS => exact (keep_size (w := w) (g := g) (row := none) Z2))
             (case aL => have := LMc22.out; omega)
             intro v197 w34 ho hb hg hat
             rw [← Ny196.out] at ho
             replace HO195 := Aside0.mk (Kd.R_after (ok := (fun k_ => some k_ ≠ (.slice (some ad185) x5_2.length co26 : Value).ownBlock)) (by (with_reducible repeat (first | apply Kd.R_alloc | apply Kd.R_drewN | apply Kd.R_drew)); exact Kd.R_mono HO195.out (fun _ hk => ⟨hk.2, hk.1⟩)) hg hat)
             replace HB := Aside0.mk (below_weaken Z4 HL.out hb)
             replace HI0 := Aside0.mk (IsS47.grown Z1 hg (IsS47.own_ne HI0.out HO192.out Z19))
             replace HK := Aside0.mk (KeepBut.trans Z2 (KeepBut.of_grown hg g) (Kd.R_base2 HO192.out))
             replace HR189 := Aside0.mk ((show Kd.C (Kd.int .i64) w34 (some ad185) y186.length y186 from by rw [Ny186.out]; exact Kd.C_take (m := (x8_3 : Int).toNat) ((Kd.R_reads' (Kd.R_after (ok := (fun k_ => some k_ ≠ (.slice Ao35 y193.length co35 : Value).ownBlock)) Z41 hg hat)).2.2) KL28.out))
             replace HR202 := Aside0.mk ((show Kd.C (Kd.int .i64) w34 A29 y199.length y199 from by rw [Ny199.out, KA29.out]; exact Kd.C_drop (m := (x8_3 : Int).toNat) (c := co26) ((Kd.R_reads' (Kd.R_after (ok := (fun k_ => some k_ ≠ (.slice Ao35 y193.length co35 : Value).ownBlock)) Z41 hg hat)).2.2) KL29.out ((Kd.R_reads' (Kd.R_after (ok := (fun k_ => some k_ ≠ (.slice Ao35 y193.length co35 : Value).ownBlock)) Z41 hg hat)).2.1)))
             replace HO_5 := Aside0.mk (Kd.R_after (ok := (fun k_ => some k_ ≠ (.slice Ao35 y193.length co35 : Value).ownBlock)) Z41 hg hat)
             have HO198 := Aside0.mk (ho)
             clear HO192
             clear ho hb hg hat
             refine hK.out _ _ trivial (fun hHeld => ?_)
             clear hK K
             refine norm_ (a' := ?_) ?_ ?_
             rotate_left
             ·
              show Act.put _ (some 44) _ = _
              simp only [Act.put, setIfInBounds_toArray, set_cons_zero, set_cons_succ, i64_w, i32_w]
              rfl
             refine one_ (i := 10) (N := some 48) (bA 12 2047) rfl rfl (one_of HT_.out Z92) Z19 (fun K hK => ?_)
             refine Kd.R_append_rows_step (Kd.int .i64) w.heap.size Z63 (.tmp 44) (.tmp 47) 24 3 (.int .i64 0) 8 rfl Try.underlying24 info3 rfl Z19 Z69 v197 y196 y199 _ _ _ (fun k_ => some k_ ≠ (.slice (some ad185) x5_2.length co26 : Value).ownBlock ∧ some k_ ≠ (.slice Ao35 y193.length co35 : Value).ownBlock) (fun _ => False) rfl rfl ?aO ?aR (fun _ _ h => h) (fun _ h => h.elim) ?aF (Below.refl _ _) ?aS ?aL ?_
             (case aR => repeat (first | exact Z50 | (with_reducible refine Kd.C_alloc ?_ _) | (with_reducible refine Kd.C_drewN ?_ _) | (with_reducible refine Kd.C_drew ?_)))
             (case aF => exact (fun k_ hk => ⟨Kd.fresh' (Kd.R_lt (uR HO_5)) k_ hk, Kd.fresh' (Kd.R_lt (uR HO195)) k_ hk⟩))
             (case aO => exact (uR HO198))
             (case aS => exact (keep_size (w := w) (g := g) (row := none) Z2))
             (case aL => have := LMc25.out; omega)
             intro v204 w36 ho hb hg hat
             rw [← Ny203.out] at ho
             replace HO195 := Aside0.mk (Kd.R_after (ok := (fun k_ => some k_ ≠ (.slice (some ad185) x5_2.length co26 : Value).ownBlock)) (uR HO195) hg hat)
             replace HB := Aside0.mk (below_weaken Z4 HL.out hb)
             replace HI0 := Aside0.mk (IsS47.grown Z1 hg (IsS47.own_ne HI0.out HO198.out Z19))
             replace HK := Aside0.mk (KeepBut.trans Z2 (KeepBut.of_grown hg g) (Kd.R_base2 HO198.out))
             replace HR189 := Aside0.mk ((show Kd.C (Kd.int .i64) w36 (some ad185) y186.length y186 from by rw [Ny186.out]; exact Kd.C_take (m := (x8_3 : Int).toNat) ((Kd.R_reads' (Kd.R_after (ok := (fun k_ => some k_ ≠ (.slice Ao35 y193.length co35 : Value).ownBlock)) (uR HO_5) hg hat)).2.2) KL28.out))
             replace HR202 := Aside0.mk ((show Kd.C (Kd.int .i64) w36 A29 y199.length y199 from by rw [Ny199.out, KA29.out]; exact Kd.C_drop (m := (x8_3 : Int).toNat) (c := co26) ((Kd.R_reads' (Kd.R_after (ok := (fun k_ => some k_ ≠ (.slice Ao35 y193.length co35 : Value).ownBlock)) (uR HO_5) hg hat)).2.2) KL29.out ((Kd.R_reads' (Kd.R_after (ok := (fun k_ => some k_ ≠ (.slice Ao35 y193.length co35 : Value).ownBlock)) (uR HO_5) hg hat)).2.1)))
             replace HO_5 := Aside0.mk (Kd.R_after (ok := (fun k_ => some k_ ≠ (.slice Ao35 y193.length co35 : Value).ownBlock)) (uR HO_5) hg hat)
             have HO205 := Aside0.mk (ho)
             clear HO198
             clear ho hb hg hat
             refine hK.out _ _ trivial (fun hHeld => ?_)
             clear hK K
             refine norm_ (a' := ?_) ?_ ?_
             rotate_left
             ·
              show Act.put _ (some 48) _ = _
              simp only [Act.put, setIfInBounds_toArray, set_cons_zero, set_cons_succ, i64_w, i32_w]
              rfl
             refine pS 11 5 (bA 12 4095) ?_
             refine done_ (done_of HT_.out Z92) ?_
             try go_wp2
             go_roundg k3
             case measure => have := HJ4.out; have := HK2.out; have := HK3.out; omega
             case rel => exact ⟨(y203), (wrap64 (x6_2 - 1)), (t183), (t184), Z91, H', ⟨by have := HJ4.out; have := HK2.out; have := HK3.out; omega⟩, ⟨by (with_reducible repeat (first | apply Kd.R_alloc | apply Kd.R_drewN | apply Kd.R_drew)); exact Kd.R_mono HO205.out (fun _ hk => trivial)⟩, ⟨Z1⟩, ⟨Z2⟩, ⟨Z4⟩⟩
            rw [if_neg c25] at H
            exact absurd H Z37
           rw [if_neg c22] at H
           exact absurd H Z37
          rw [if_neg c20] at H
          exact absurd H Z37
         rw [if_neg c16] at H
         exact absurd H Z37
        rw [if_neg c15] at H
        have c15b0 : decide (x8_3 < (x5_2.length : Int)) = false := decide_eq_false c15
        clear c15
        by_cases c37 : 0 ≤ x8_3
        ·
         rw [if_pos c37] at H
         have c37b0 := eq_true c37
         have c37b1 : decide (0 ≤ x8_3) = true := decide_eq_true c37
         clear c37
         by_cases c38 : x8_3 ≤ (x5_2.length : Int)
         ·
          rw [if_pos c38] at H
          have c38b0 := eq_true c38
          have c38b1 : decide (x8_3 ≤ (x5_2.length : Int)) = true := decide_eq_true c38
          have CK38b1_ : Aside0 (x8_3 ≤ (x5_2.length : Int)) := Aside0.mk (of_decide_eq_true c38b1)
          clear c38
          obtain ⟨y206, hy206⟩ : ∃ y_ : List Int, y_ = (x5_2.take (x8_3 : Int).toNat) := ⟨_, rfl⟩
          replace H : ((spec_l1Own.f y206).bind fun t210 => ((some (([t182] : List Int) : List Int)).bind fun y213 => (if t210.length + y213.length < 17592186044416 then ((some (t210 ++ y213 : List Int)).bind fun y216 => ((some (x5_2.drop (x8_3 : Int).toNat : List Int)).bind fun y219 => (if y216.length + y219.length < 17592186044416 then (spec_l1Cur_sorted.l0 k3 a1 (y216 ++ y219) (wrap64 (x6_2 - 1)) s0_0 t183 t184) else (none)))) else (none)))) = some (r1, r2, r3) := by first | (rw [hy206]; with_reducible exact H) | (have H2_ := (Option.bind_some _ _).symm.trans H; rw [hy206]; with_reducible exact H2_) | (have H2_ := (Option.bind_some _ _).symm.trans H; with_reducible exact H2_) | with_reducible exact H | (rw [hy206]; exact H) | exact H
          have Ny206 := Aside0.mk hy206
          clear hy206
          replace H := Option.bind_eq_some_iff.mp H
          obtain ⟨t210, A390, H⟩ := H
          try dsimp only at H
          have A39 := Aside0.mk A390
          clear A390
          obtain ⟨y213, hy213⟩ : ∃ y_ : List Int, y_ = (([t182] : List Int)) := ⟨_, rfl⟩
          replace H : (if t210.length + y213.length < 17592186044416 then ((some (t210 ++ y213 : List Int)).bind fun y216 => ((some (x5_2.drop (x8_3 : Int).toNat : List Int)).bind fun y219 => (if y216.length + y219.length < 17592186044416 then (spec_l1Cur_sorted.l0 k3 a1 (y216 ++ y219) (wrap64 (x6_2 - 1)) s0_0 t183 t184) else (none)))) else (none)) = some (r1, r2, r3) := by first | (rw [hy213]; with_reducible exact H) | (have H2_ := (Option.bind_some _ _).symm.trans H; rw [hy213]; with_reducible exact H2_) | (have H2_ := (Option.bind_some _ _).symm.trans H; with_reducible exact H2_) | with_reducible exact H | (rw [hy213]; exact H) | exact H
          have Ny213 := Aside0.mk hy213
          clear hy213
          by_cases c40 : t210.length + y213.length < 17592186044416
          ·
           rw [if_pos c40] at H
           have LMc40 := Aside0.mk c40
           clear c40
           obtain ⟨y216, hy216⟩ : ∃ y_ : List Int, y_ = (t210 ++ y213) := ⟨_, rfl⟩
           replace H : ((some (x5_2.drop (x8_3 : Int).toNat : List Int)).bind fun y219 => (if y216.length + y219.length < 17592186044416 then (spec_l1Cur_sorted.l0 k3 a1 (y216 ++ y219) (wrap64 (x6_2 - 1)) s0_0 t183 t184) else (none))) = some (r1, r2, r3) := by first | (rw [hy216]; with_reducible exact H) | (have H2_ := (Option.bind_some _ _).symm.trans H; rw [hy216]; with_reducible exact H2_) | (have H2_ := (Option.bind_some _ _).symm.trans H; with_reducible exact H2_) | with_reducible exact H | (rw [hy216]; exact H) | exact H
           have Ny216 := Aside0.mk hy216
           clear hy216
           have c41b0 := eq_true (of_decide_eq_true Z6 : 0 ≤ x8_3)
           have c42b0 := eq_true (of_decide_eq_true Z6 : x8_3 ≤ (x5_2.length : Int))
           obtain ⟨y219, hy219⟩ : ∃ y_ : List Int, y_ = (x5_2.drop (x8_3 : Int).toNat) := ⟨_, rfl⟩
           replace H : (if y216.length + y219.length < 17592186044416 then (spec_l1Cur_sorted.l0 k3 a1 (y216 ++ y219) (wrap64 (x6_2 - 1)) s0_0 t183 t184) else (none)) = some (r1, r2, r3) := by first | (rw [hy219]; with_reducible exact H) | (have H2_ := (Option.bind_some _ _).symm.trans H; rw [hy219]; with_reducible exact H2_) | (have H2_ := (Option.bind_some _ _).symm.trans H; with_reducible exact H2_) | with_reducible exact H | (rw [hy219]; exact H) | exact H
           have Ny219 := Aside0.mk hy219
           clear hy219
           by_cases c43 : y216.length + y219.length < 17592186044416
           ·
            rw [if_pos c43] at H
            have LMc43 := Aside0.mk c43
            clear c43
            obtain ⟨y223, hy223⟩ : ∃ y_ : List Int, y_ = (y216 ++ y219) := ⟨_, rfl⟩
            replace H : (spec_l1Cur_sorted.l0 k3 a1 y223 (wrap64 (x6_2 - 1)) s0_0 t183 t184) = some (r1, r2, r3) := by first | (rw [hy223]; with_reducible exact H) | (have H2_ := (Option.bind_some _ _).symm.trans H; rw [hy223]; with_reducible exact H2_) | (have H2_ := (Option.bind_some _ _).symm.trans H; with_reducible exact H2_) | with_reducible exact H | (rw [hy223]; exact H) | exact H
            have Ny223 := Aside0.mk hy223
            clear hy223
            have H' := Aside0.mk H
            clear H
            obtain ⟨Ao44, co44, eo44⟩ := Kd.R_slice HO_5.out
            subst eo44
            try go_wp2
            replace HO_5 := Aside0.mk (Kd.R_drew HO_5.out)
            replace HI0 := Aside0.mk (IsS47.drew HI0.out)
            replace HK := Aside0.mk (keep_drew HK.out)
            replace HB := Aside0.mk (below_drew1 HB.out)
            have q46 : (x8_3 : Int) ≤ ((x5_2.length : Int) : Int) := of_decide_eq_true Z6
            obtain ⟨i046, hi046, _, hsz46, _⟩ := info_parts info3
            have hroom46 : x5_2.length ≤ co44 := (Kd.R_reads' HO_5.out).2.1
            have hC46 : Kd.C (Kd.int .i64) _ Ao44 x5_2.length x5_2 := (Kd.R_reads' HO_5.out).2.2
            have hcut46 := cut_to (P := Try.prog) 24 3 .i64 Try.underlying24 hi046 Ao44 x5_2.length co44 x8_3 (of_decide_eq_true Z6) q46 hroom46
            have hr46 := Kd.C_take (m := (x8_3 : Int).toNat) hC46 Z69
            have hy46 : y206.length = (x8_3 : Int).toNat := (by rw [Ny206.out, List.length_take]; omega)
            rw [← Ny206.out] at hr46
            rw [← hy46] at hcut46
            have HR209 := Aside0.mk hr46
            have HC209 := Aside0.mk (show y206.length ≤ co44 from Z69)
            clear hr46 hC46 hroom46 hi046 hsz46
            have KY46 := Aside0.mk hy46
            clear hy46
            have KL46 := Aside0.mk (show (x8_3 : Int).toNat ≤ x5_2.length from Z69)
            replace q46 := eq_true q46
            have q47 : (x8_3 : Int) ≤ ((x5_2.length : Int) : Int) := of_decide_eq_true Z6
            obtain ⟨i047, hi047, _, hsz47, _⟩ := info_parts info3
            have hroom47 : x5_2.length ≤ co44 := (Kd.R_reads' HO_5.out).2.1
            have hC47 : Kd.C (Kd.int .i64) _ Ao44 x5_2.length x5_2 := (Kd.R_reads' HO_5.out).2.2
            have q047 : (0 : Int) ≤ (x8_3 : Int) := of_decide_eq_true Z6
            have hcut47 := cut_from (P := Try.prog) 24 3 .i64 Try.underlying24 hi047 1 hsz47 Ao44 x5_2.length co44 x8_3 q047 q47
            have hr47 := Kd.C_drop (m := (x8_3 : Int).toNat) (c := co44) hC47 Z69 hroom47
            obtain ⟨A47, hA47⟩ : ∃ A1, A1 = (if co44 = (x8_3 : Int).toNat then Ao44 else (Ao44 : Option Addr).map (·.add ((x8_3 : Int).toNat * 1))) := ⟨_, rfl⟩
            obtain ⟨c47, hc47⟩ : ∃ c1, c1 = co44 - (x8_3 : Int).toNat := ⟨_, rfl⟩
            have hy47 : y219.length = x5_2.length - (x8_3 : Int).toNat := (by rw [Ny219.out, List.length_drop] <;> omega)
            rw [show (x5_2).drop (x8_3 : Int).toNat = y219 from Ny219.out.symm] at hr47
            replace hr47 : Kd.C (Kd.int .i64) _ A47 y219.length y219 := (by rw [hA47]; exact hr47)
            rw [← hy47, ← hA47, ← hc47] at hcut47
            have HR222 := Aside0.mk hr47
            have HC222 := Aside0.mk (show y219.length ≤ c47 from by rw [hy47, hc47]; exact Nat.sub_le_sub_right hroom47 _)
            clear hr47 hC47 hroom47 hi047 hsz47 hc47
            have KY47 := Aside0.mk hy47
            have KA47 := Aside0.mk hA47
            clear hy47 hA47
            have KL47 := Aside0.mk (show (x8_3 : Int).toNat ≤ x5_2.length from Z69)
            replace q47 := eq_true q47
            refine start_ (n := 12) (S := fun w' => True) (ds := []) (bA 12 0) Z92 rfl rfl trivial (fun hHeld => ?_); refine with_tabW spec_l1Cur_sorted.tab11 spec_l1Cur_sorted.bits11 (fun HT_ HW_ => ?_)
            generalize wr.drew = w45 at HO_5 HI0 HK HB HR209 HR222 hHeld ⊢
            refine pS 0 38 (bA 12 1) ?_
            refine pS 1 39 (bA 12 3) ?_
            refine pS 2 40 (bA 12 7) ?_
            refine pS 4 42 (bA 12 23) ?_
            refine pS 7 45 (bA 12 151) ?_
            refine pS 8 46 (bA 12 407) ?_
            refine pS 9 47 (bA 12 919) ?_
            refine join_ (σ := Value × Value) 3 (bA 12 959) (fun s_ => [(41, s_.1), (43, s_.2)]) (fun s_ w' => (Kd.R (Kd.int .i64) 3 w' w.heap.size (fun k_ => some k_ ≠ (s_.2 : Value).ownBlock ∧ some k_ ≠ (.slice Ao44 x5_2.length co44 : Value).ownBlock) s_.1 t210) ∧ (Kd.R (Kd.int .i64) 3 w' w.heap.size (fun k_ => some k_ ≠ (s_.1 : Value).ownBlock ∧ some k_ ≠ (.slice Ao44 x5_2.length co44 : Value).ownBlock) s_.2 y213) ∧ (Kd.R (Kd.int .i64) 3 w' w.heap.size (fun k_ => some k_ ≠ (s_.1 : Value).ownBlock ∧ some k_ ≠ (s_.2 : Value).ownBlock) (.slice Ao44 x5_2.length co44) x5_2) ∧ (IsS47 w0 w' g s0_0 t183 t184) ∧ (KeepBut w w' g none) ∧ (Below w0.heap.size w0 w')) ?_ ?_
            rotate_left
            ·
             intro hCont
             refine two_ (i := 3) (j := 5) (Ni := some 41) (Nj := some 43) (bA 12 927) (bA 12 951) rfl rfl rfl rfl (two_of HT_.out Z92) Z19 Z19 (fun K hK => ?_) (fun K hK => ?_)
             ·
              skip
              refine goes_ Try.func74 Z92 rfl #[.slice Ao44 y206.length co44] Z63 rfl rfl Z104 ?_
              with_reducible refine (spec_l1Own.calls _ _ y206 t210 _ ?side1 ?side2 A39.out).mono ?_
              (case side1 => exact Z101)
              (case side2 => exact HC209.out)
              rintro e w48 ⟨v211, rfl, ho0, hb⟩
              refine ⟨_, rfl, ?_⟩
              have HO212 := Aside0.mk (Kd.R_lower (Kd.R_new' ho0 (Kd.R_lt (uR HO_5))) (keep_size (w := w) (g := g) (row := none) Z2))
              replace HO_5 := Aside0.mk (Kd.R_elder' (uR HO_5) (Kd.R_base ho0) hb)
              replace HR209 := Aside0.mk (Kd.C_below Z38 hb)
              replace HR222 := Aside0.mk (Kd.C_below Z49 hb)
              replace HK := Aside0.mk (KeepBut.trans Z2 (KeepBut.of_below hb g none) (.inl rfl))
              replace HB := Aside0.mk (below_step Z4 hb)
              replace HI0 := Aside0.mk (IsS47.below Z1 hb)
              (try clear hb)
              (try clear hb2)
              (try clear hk)
              (try clear hi)
              (try clear ho0)
              refine hK.out _ _ trivial (fun hHeld => ?_)
              clear hK K
              refine norm_ (a' := ?_) ?_ ?_
              rotate_left
              ·
               show Act.put _ (some 41) _ = _
               simp only [Act.put, setIfInBounds_toArray, set_cons_zero, set_cons_succ, i64_w, i32_w]
               rfl
              refine one_ (i := 5) (N := some 43) (bA 12 959) rfl rfl (one_of HT_.out Z92) Z19 (fun K hK => ?_)
              refine Kd.R_lit_step (Kd.int .i64) _ 3 ?hg (N := 43) ?hd (xs := ([t182] : List Int)) (inner := [.int .i64 t182]) (ok := fun _ => True) (okp := fun _ => True) ?hr ?hp (fun _ hk => hk) trivial (Below.refl _ _) (Nat.le_refl _) Z37 ?_; (case hd => rfl); (case hg => rfl); (case hr => exact Z93); (case hp => exact (Reps.one (show Kd.M (Kd.int .i64) _ _ _ t182 [.int .i64 t182] from rfl) (Reps.none _ _)))
              intro v214 w49 ho50 hb hg_ hnew_
              clear hg_ hnew_
              (first | rw [← Ny213.out] at ho50 | (simp only [Int.reduceToNat] at ho50; rw [← Ny213.out] at ho50))
              have HO215 := Aside0.mk (Kd.R_lower (Kd.R_new' (Kd.R_new' ho50 (Kd.R_lt (uR HO_5))) (Kd.R_lt (uR HO212))) (keep_size (w := w) (g := g) (row := none) Z2))
              replace HO_5 := Aside0.mk (Kd.R_elder' (uR HO_5) (Kd.R_base ho50) hb)
              replace HO212 := Aside0.mk (Kd.R_elder' (uR HO212) (Kd.R_base ho50) hb)
              replace HR209 := Aside0.mk (Kd.C_below Z38 hb)
              replace HR222 := Aside0.mk (Kd.C_below Z49 hb)
              replace HK := Aside0.mk (KeepBut.trans Z2 (KeepBut.of_below hb g none) (.inl rfl))
              replace HB := Aside0.mk (below_step Z4 hb)
              replace HI0 := Aside0.mk (IsS47.below Z1 hb)
              clear hb ho50
              refine hK.out _ _ trivial (fun hHeld => ?_)
              clear hK K
              refine norm_ (a' := ?_) ?_ ?_
              rotate_left
              ·
               show Act.put _ (some 43) _ = _
               simp only [Act.put, setIfInBounds_toArray, set_cons_zero, set_cons_succ, i64_w, i32_w]
               rfl
              exact norm_ Z97 (hCont (v211, v214) _ ⟨Z72, Z71, Z76, Z1, Z2, Z4⟩)
             skip
             refine Kd.R_lit_step (Kd.int .i64) _ 3 ?hg (N := 43) ?hd (xs := ([t182] : List Int)) (inner := [.int .i64 t182]) (ok := fun _ => True) (okp := fun _ => True) ?hr ?hp (fun _ hk => hk) trivial (Below.refl _ _) (Nat.le_refl _) Z37 ?_; (case hd => rfl); (case hg => rfl); (case hr => exact Z93); (case hp => exact (Reps.one (show Kd.M (Kd.int .i64) _ _ _ t182 [.int .i64 t182] from rfl) (Reps.none _ _)))
             intro v214 w48 ho49 hb hg_ hnew_
             clear hg_ hnew_
             (first | rw [← Ny213.out] at ho49 | (simp only [Int.reduceToNat] at ho49; rw [← Ny213.out] at ho49))
             have HO215 := Aside0.mk (Kd.R_lower (Kd.R_new' ho49 (Kd.R_lt (uR HO_5))) (keep_size (w := w) (g := g) (row := none) Z2))
             replace HO_5 := Aside0.mk (Kd.R_elder' (uR HO_5) (Kd.R_base ho49) hb)
             replace HR209 := Aside0.mk (Kd.C_below Z38 hb)
             replace HR222 := Aside0.mk (Kd.C_below Z49 hb)
             replace HK := Aside0.mk (KeepBut.trans Z2 (KeepBut.of_below hb g none) (.inl rfl))
             replace HB := Aside0.mk (below_step Z4 hb)
             replace HI0 := Aside0.mk (IsS47.below Z1 hb)
             clear hb ho49
             refine hK.out _ _ trivial (fun hHeld => ?_)
             clear hK K
             refine norm_ (a' := ?_) ?_ ?_
             rotate_left
             ·
              show Act.put _ (some 43) _ = _
              simp only [Act.put, setIfInBounds_toArray, set_cons_zero, set_cons_succ, i64_w, i32_w]
              rfl
             refine one_ (i := 3) (N := some 41) (bA 12 959) rfl rfl (one_of HT_.out Z92) Z19 (fun K hK => ?_)
             refine goes_ Try.func74 Z92 rfl #[.slice Ao44 y206.length co44] Z63 rfl rfl Z104 ?_
             with_reducible refine (spec_l1Own.calls _ _ y206 t210 _ ?side1 ?side2 A39.out).mono ?_
             (case side1 => exact Z101)
             (case side2 => exact HC209.out)
             rintro e w50 ⟨v211, rfl, ho0, hb⟩
             refine ⟨_, rfl, ?_⟩
             have HO212 := Aside0.mk (Kd.R_lower (Kd.R_new' (Kd.R_new' ho0 (Kd.R_lt (uR HO_5))) (Kd.R_lt (uR HO215))) (keep_size (w := w) (g := g) (row := none) Z2))
             replace HO_5 := Aside0.mk (Kd.R_elder' (uR HO_5) (Kd.R_base ho0) hb)
             replace HO215 := Aside0.mk (Kd.R_elder' (uR HO215) (Kd.R_base ho0) hb)
             replace HR209 := Aside0.mk (Kd.C_below Z38 hb)
             replace HR222 := Aside0.mk (Kd.C_below Z49 hb)
             replace HK := Aside0.mk (KeepBut.trans Z2 (KeepBut.of_below hb g none) (.inl rfl))
             replace HB := Aside0.mk (below_step Z4 hb)
             replace HI0 := Aside0.mk (IsS47.below Z1 hb)
             (try clear hb)
             (try clear hb2)
             (try clear hk)
             (try clear hi)
             (try clear ho0)
             refine hK.out _ _ trivial (fun hHeld => ?_)
             clear hK K
             refine norm_ (a' := ?_) ?_ ?_
             rotate_left
             ·
              show Act.put _ (some 41) _ = _
              simp only [Act.put, setIfInBounds_toArray, set_cons_zero, set_cons_succ, i64_w, i32_w]
              rfl
             exact norm_ Z97 (hCont (v211, v214) _ ⟨Z72, Z71, Z75, Z1, Z2, Z4⟩)
            rintro ⟨v211, v214⟩ w51 ⟨h0_, h1_, h2_, h3_, h4_, h5_⟩
            have n0_ : Aside0 (Kd.R (Kd.int .i64) 3 w51 w.heap.size (fun k_ => some k_ ≠ (v214 : Value).ownBlock ∧ some k_ ≠ (.slice Ao44 x5_2.length co44 : Value).ownBlock) v211 t210) := ⟨h0_⟩
            have n1_ : Aside0 (Kd.R (Kd.int .i64) 3 w51 w.heap.size (fun k_ => some k_ ≠ (v211 : Value).ownBlock ∧ some k_ ≠ (.slice Ao44 x5_2.length co44 : Value).ownBlock) v214 y213) := ⟨h1_⟩
            have n2_ : Aside0 (Kd.R (Kd.int .i64) 3 w51 w.heap.size (fun k_ => some k_ ≠ (v211 : Value).ownBlock ∧ some k_ ≠ (v214 : Value).ownBlock) (.slice Ao44 x5_2.length co44) x5_2) := ⟨h2_⟩
            have n3_ : Aside0 (IsS47 w0 w51 g s0_0 t183 t184) := ⟨h3_⟩
            have n4_ : Aside0 (KeepBut w w51 g none) := ⟨h4_⟩
            have n5_ : Aside0 (Below w0.heap.size w0 w51) := ⟨h5_⟩
            clear HO_5
            clear HI0
            clear HK
            clear HB
            clear h0_ h1_ h2_ h3_ h4_ h5_
            have HO212 := n0_
            have HO215 := n1_
            have HO_5 := n2_
            have HI0 := n3_
            have HK := n4_
            have HB := n5_
            clear n0_ n1_ n2_ n3_ n4_ n5_
            have hHeld := trivial
            (try clear HR209)
            have HR209 := Aside0.mk (show Kd.C (Kd.int .i64) w51 Ao44 y206.length y206 from by rw [Ny206.out]; exact Kd.C_take (m := (x8_3 : Int).toNat) ((Kd.R_reads' HO_5.out).2.2) KL46.out)
            (try clear HR222)
            have HR222 := Aside0.mk (show Kd.C (Kd.int .i64) w51 A47 y219.length y219 from by rw [Ny219.out, KA47.out]; exact Kd.C_drop (m := (x8_3 : Int).toNat) (c := co44) ((Kd.R_reads' HO_5.out).2.2) KL47.out ((Kd.R_reads' HO_5.out).2.1))
            obtain ⟨Ao53, co53, eo53⟩ := Kd.R_slice HO215.out
            (first | subst eo53 | (injection eo53 with f1_ f2_ f3_; have f4_ := f1_.symm; have f5_ := f3_.symm; clear f1_ f2_ f3_; subst f4_; subst f5_))
            refine norm_ (a' := ?_) ?_ ?_
            rotate_left
            ·
             simp only [putAll, Act.put, setIfInBounds_toArray, set_cons_zero, set_cons_succ]
             rfl
            refine one_ (i := 6) (N := some 44) (bA 12 1023) rfl rfl (one_of HT_.out Z92) Z19 (fun K hK => ?_)
            refine Kd.R_append_rows_step (Kd.int .i64) w.heap.size Z63 (.tmp 41) (.tmp 43) 24 3 (.int .i64 0) 8 rfl Try.underlying24 info3 rfl Z19 Z69 v211 t210 y213 _ _ _ (fun k_ => some k_ ≠ (.slice Ao44 x5_2.length co44 : Value).ownBlock ∧ some k_ ≠ (.slice Ao53 y213.length co53 : Value).ownBlock) (fun _ => False) rfl rfl ?aO ?aR (fun _ _ h => h) (fun _ h => h.elim) ?aF (Below.refl _ _) ?aS ?aL ?_
            (case aR => exact uD HO215)
            (case aF => exact (fun k_ hk => ⟨Kd.fresh' (Kd.R_lt (uR HO_5)) k_ hk, Kd.fresh' (Kd.R_lt (uR HO215)) k_ hk⟩))
            (case aO => exact (by (with_reducible repeat (first | apply Kd.R_alloc | apply Kd.R_drewN | apply Kd.R_drew)); exact Kd.R_mono HO212.out (fun _ hk => ⟨hk.2, hk.1⟩)))
            (case aS => exact (keep_size (w := w) (g := g) (row := none) Z2))
            (case aL => have := LMc40.out; omega)
            intro v217 w52 ho hb hg hat
            rw [← Ny216.out] at ho
            replace HO215 := Aside0.mk (Kd.R_after (ok := (fun k_ => some k_ ≠ (.slice Ao44 x5_2.length co44 : Value).ownBlock)) (by (with_reducible repeat (first | apply Kd.R_alloc | apply Kd.R_drewN | apply Kd.R_drew)); exact Kd.R_mono HO215.out (fun _ hk => ⟨hk.2, hk.1⟩)) hg hat)
            replace HB := Aside0.mk (below_weaken Z4 HL.out hb)
            replace HI0 := Aside0.mk (IsS47.grown Z1 hg (IsS47.own_ne HI0.out HO212.out Z19))
            replace HK := Aside0.mk (KeepBut.trans Z2 (KeepBut.of_grown hg g) (Kd.R_base2 HO212.out))
            replace HR209 := Aside0.mk ((show Kd.C (Kd.int .i64) w52 Ao44 y206.length y206 from by rw [Ny206.out]; exact Kd.C_take (m := (x8_3 : Int).toNat) ((Kd.R_reads' (Kd.R_after (ok := (fun k_ => some k_ ≠ (.slice Ao53 y213.length co53 : Value).ownBlock)) Z41 hg hat)).2.2) KL46.out))
            replace HR222 := Aside0.mk ((show Kd.C (Kd.int .i64) w52 A47 y219.length y219 from by rw [Ny219.out, KA47.out]; exact Kd.C_drop (m := (x8_3 : Int).toNat) (c := co44) ((Kd.R_reads' (Kd.R_after (ok := (fun k_ => some k_ ≠ (.slice Ao53 y213.length co53 : Value).ownBlock)) Z41 hg hat)).2.2) KL47.out ((Kd.R_reads' (Kd.R_after (ok := (fun k_ => some k_ ≠ (.slice Ao53 y213.length co53 : Value).ownBlock)) Z41 hg hat)).2.1)))
            replace HO_5 := Aside0.mk (Kd.R_after (ok := (fun k_ => some k_ ≠ (.slice Ao53 y213.length co53 : Value).ownBlock)) Z41 hg hat)
            have HO218 := Aside0.mk (ho)
            clear HO212
            clear ho hb hg hat
            refine hK.out _ _ trivial (fun hHeld => ?_)
            clear hK K
            refine norm_ (a' := ?_) ?_ ?_
            rotate_left
            ·
             show Act.put _ (some 44) _ = _
             simp only [Act.put, setIfInBounds_toArray, set_cons_zero, set_cons_succ, i64_w, i32_w]
             rfl
            refine one_ (i := 10) (N := some 48) (bA 12 2047) rfl rfl (one_of HT_.out Z92) Z19 (fun K hK => ?_)
            refine Kd.R_append_rows_step (Kd.int .i64) w.heap.size Z63 (.tmp 44) (.tmp 47) 24 3 (.int .i64 0) 8 rfl Try.underlying24 info3 rfl Z19 Z69 v217 y216 y219 _ _ _ (fun k_ => some k_ ≠ (.slice Ao44 x5_2.length co44 : Value).ownBlock ∧ some k_ ≠ (.slice Ao53 y213.length co53 : Value).ownBlock) (fun _ => False) rfl rfl ?aO ?aR (fun _ _ h => h) (fun _ h => h.elim) ?aF (Below.refl _ _) ?aS ?aL ?_
            (case aR => repeat (first | exact Z49 | (with_reducible refine Kd.C_alloc ?_ _) | (with_reducible refine Kd.C_drewN ?_ _) | (with_reducible refine Kd.C_drew ?_)))
            (case aF => exact (fun k_ hk => ⟨Kd.fresh' (Kd.R_lt (uR HO_5)) k_ hk, Kd.fresh' (Kd.R_lt (uR HO215)) k_ hk⟩))
            (case aO => exact (uR HO218))
            (case aS => exact (keep_size (w := w) (g := g) (row := none) Z2))
            (case aL => have := LMc43.out; omega)
            intro v224 w54 ho hb hg hat
            rw [← Ny223.out] at ho
            replace HO215 := Aside0.mk (Kd.R_after (ok := (fun k_ => some k_ ≠ (.slice Ao44 x5_2.length co44 : Value).ownBlock)) (uR HO215) hg hat)
            replace HB := Aside0.mk (below_weaken Z4 HL.out hb)
            replace HI0 := Aside0.mk (IsS47.grown Z1 hg (IsS47.own_ne HI0.out HO218.out Z19))
            replace HK := Aside0.mk (KeepBut.trans Z2 (KeepBut.of_grown hg g) (Kd.R_base2 HO218.out))
            replace HR209 := Aside0.mk ((show Kd.C (Kd.int .i64) w54 Ao44 y206.length y206 from by rw [Ny206.out]; exact Kd.C_take (m := (x8_3 : Int).toNat) ((Kd.R_reads' (Kd.R_after (ok := (fun k_ => some k_ ≠ (.slice Ao53 y213.length co53 : Value).ownBlock)) (uR HO_5) hg hat)).2.2) KL46.out))
            replace HR222 := Aside0.mk ((show Kd.C (Kd.int .i64) w54 A47 y219.length y219 from by rw [Ny219.out, KA47.out]; exact Kd.C_drop (m := (x8_3 : Int).toNat) (c := co44) ((Kd.R_reads' (Kd.R_after (ok := (fun k_ => some k_ ≠ (.slice Ao53 y213.length co53 : Value).ownBlock)) (uR HO_5) hg hat)).2.2) KL47.out ((Kd.R_reads' (Kd.R_after (ok := (fun k_ => some k_ ≠ (.slice Ao53 y213.length co53 : Value).ownBlock)) (uR HO_5) hg hat)).2.1)))
            replace HO_5 := Aside0.mk (Kd.R_after (ok := (fun k_ => some k_ ≠ (.slice Ao53 y213.length co53 : Value).ownBlock)) (uR HO_5) hg hat)
            have HO225 := Aside0.mk (ho)
            clear HO218
            clear ho hb hg hat
            refine hK.out _ _ trivial (fun hHeld => ?_)
            clear hK K
            refine norm_ (a' := ?_) ?_ ?_
            rotate_left
            ·
             show Act.put _ (some 48) _ = _
             simp only [Act.put, setIfInBounds_toArray, set_cons_zero, set_cons_succ, i64_w, i32_w]
             rfl
            refine pS 11 5 (bA 12 4095) ?_
            refine done_ (done_of HT_.out Z92) ?_
            try go_wp2
            go_roundg k3
            case measure => have := HJ4.out; have := HK2.out; have := HK3.out; omega
            case rel => exact ⟨(y223), (wrap64 (x6_2 - 1)), (t183), (t184), Z91, H', ⟨by have := HJ4.out; have := HK2.out; have := HK3.out; omega⟩, ⟨by (with_reducible repeat (first | apply Kd.R_alloc | apply Kd.R_drewN | apply Kd.R_drew)); exact Kd.R_mono HO225.out (fun _ hk => trivial)⟩, ⟨Z1⟩, ⟨Z2⟩, ⟨Z4⟩⟩
           rw [if_neg c43] at H
           exact absurd H Z37
          rw [if_neg c40] at H
          exact absurd H Z37
         rw [if_neg c38] at H
         exact absurd H Z37
        rw [if_neg c37] at H
        exact absurd H Z37
     rw [if_neg c11] at H
     have c11b0 : decide (0 < x6_2) = false := decide_eq_false c11
     clear c11
     have HC55 := Aside0.mk H
     clear H
     go_upto_region 12 with (fail)
     go_cut [55] (fun v55 wc => ∃ (kq : Nat) (x55_54 : Bool) (x1001_54 : Int) (x1002_54 : Int), v55 = .bool x55_54 ∧ Aside0 (spec_l1Cur_sorted.j3 kq a1 x5_2 x55_54 s0_0 x1001_54 x1002_54 = some (r1, r2, r3)) ∧ Aside0 (kq ≤ k2) ∧ Aside0 (Kd.R (Kd.int .i64) 3 wc w.heap.size (fun _ => True) u5 x5_2) ∧ Aside0 (IsS47 w0 wc g s0_0 x1001_54 x1002_54) ∧ Aside0 (KeepBut w wc g none) ∧ Aside0 (Below w0.heap.size w0 wc))
     case first =>
      have H := HC55.out
      clear HC55
      replace H := Option.bind_eq_some_iff.mp H
      obtain ⟨⟨t226, t227, t228⟩, A560, H⟩ := H
      try dsimp only at H
      have A56 := Aside0.mk A560
      clear A560
      by_cases c57 : t226 = true
      ·
       subst c57
       rw [if_pos rfl] at H
       have H' := Aside0.mk H
       clear H
       go_wp2_with (first | ((with_reducible refine gate_callee (f := 73) rfl ?_); refine goesL_ (some 50) rfl rfl Try.func73 Z92 rfl #[.pointer (some ⟨g, 0, none⟩), .int .i64 12] rfl Z104 ?_; (with_reducible refine (spec_l1Cur_one.calls g s0_0 x1001_2 x1002_2 12 true t227 t228 w0 _ ?side1 ?side2 A56.out).mono ?_); (case side1 => exact Z1); (case side2 => exact Z4); rintro e w58 ⟨rfl, hi, hb, hk⟩; refine ⟨_, rfl, ?_⟩; replace HO_5 := Aside0.mk (Kd.R_mono (Kd.R_keep (IsS47.apart (show IsS47 w0 _ g s0_0 x1001_2 x1002_2 from Z1) (uR HO_5) Z19) hk (fun _ h => h.2)) (fun _ h => h.1)); replace HK := Aside0.mk (KeepBut.trans Z2 hk (.inl rfl)); replace HB := Aside0.mk (hb); replace HI0 := Aside0.mk (hi); (try clear hb); (try clear hb2); (try clear hk); (try clear hi); obtain ⟨Ao59, co59, eo59⟩ := Kd.R_slice HO_5.out; subst eo59))
       go_meet
       case rel => exact ⟨_, (decide ((x5_2.length : Int) > 0)), (t227), (t228), Z91, H', ⟨by have := HJ4.out; have := HK2.out; first | omega | exact Nat.le_refl _⟩, ⟨Z60⟩, ⟨Z1⟩, ⟨Z2⟩, ⟨Z4⟩⟩
      replace c57 := Bool.eq_false_iff.mpr c57
      subst c57
      rw [if_neg (show ¬ (false = true) from Z19)] at H
      have H' := Aside0.mk H
      clear H
      go_wp2_with (first | ((with_reducible refine gate_callee (f := 73) rfl ?_); refine goesL_ (some 50) rfl rfl Try.func73 Z92 rfl #[.pointer (some ⟨g, 0, none⟩), .int .i64 12] rfl Z104 ?_; (with_reducible refine (spec_l1Cur_one.calls g s0_0 x1001_2 x1002_2 12 false t227 t228 w0 _ ?side1 ?side2 A56.out).mono ?_); (case side1 => exact Z1); (case side2 => exact Z4); rintro e w60 ⟨rfl, hi, hb, hk⟩; refine ⟨_, rfl, ?_⟩; replace HO_5 := Aside0.mk (Kd.R_mono (Kd.R_keep (IsS47.apart (show IsS47 w0 _ g s0_0 x1001_2 x1002_2 from Z1) (uR HO_5) Z19) hk (fun _ h => h.2)) (fun _ h => h.1)); replace HK := Aside0.mk (KeepBut.trans Z2 hk (.inl rfl)); replace HB := Aside0.mk (hb); replace HI0 := Aside0.mk (hi); (try clear hb); (try clear hb2); (try clear hk); (try clear hi)))
      go_meet
      case rel => exact ⟨_, (false), (t227), (t228), Z91, H', ⟨by have := HJ4.out; have := HK2.out; first | omega | exact Nat.le_refl _⟩, ⟨Z60⟩, ⟨Z1⟩, ⟨Z2⟩, ⟨Z4⟩⟩
     case rest =>
      clear HC55
      try clear c1
      try clear c2
      try clear p2
      try clear c3
      try clear c4
      try clear q4
      try clear c5
      try clear p6
      try clear c7
      try clear c11
      try clear c11b0
      try clear c15
      try clear c15b0
      try clear c16
      try clear c20
      try clear c22
      try clear c25
      try clear c37
      try clear c37b0
      try clear c37b1
      try clear c38
      try clear c38b0
      try clear c38b1
      try clear c40
      try clear c41
      try clear c41b0
      try clear c42
      try clear c42b0
      try clear c43
      try clear q46
      try clear c47
      try clear q47
      try clear c57
      try clear q047
      try clear q46
      try clear q47
      obtain ⟨kq, x55_54, x1001_54, x1002_54, rfl, HA, HJ54, HO_5, HI0, HK, HB⟩ := hcut
      cases kq with
      | zero => exact absurd HA.out (by simp [spec_l1Cur_sorted.j3])
      | succ kj54 =>
       have H := HA.out
       clear HA
       simp only [spec_l1Cur_sorted.j3] at H
       by_cases c61 : x55_54 = true
       ·
        subst c61
        rw [if_pos rfl] at H
        replace H := Option.bind_eq_some_iff.mp H
        obtain ⟨⟨t229, t230, t231⟩, A620, H⟩ := H
        try dsimp only at H
        have A62 := Aside0.mk A620
        clear A620
        obtain ⟨y232, hy232⟩ : ∃ y_ : List Int, y_ = (([(-1), 0, a1, wrap64 (a1 - 1)] : List Int)) := ⟨_, rfl⟩
        replace H : ((spec_l1Cur_among.f s0_0 t230 t231 y232).bind fun bt235 => (if 0 ≤ t229 then (if t229 < (x5_2.length : Int) then (some ((x5_2.set (t229 : Int).toNat bt235.1), bt235.2.1, bt235.2.2)) else (none)) else (none))) = some (r1, r2, r3) := by first | (rw [hy232]; with_reducible exact H) | (have H2_ := (Option.bind_some _ _).symm.trans H; rw [hy232]; with_reducible exact H2_) | (have H2_ := (Option.bind_some _ _).symm.trans H; with_reducible exact H2_) | with_reducible exact H | (rw [hy232]; exact H) | exact H
        have Ny232 := Aside0.mk hy232
        clear hy232
        replace H := Option.bind_eq_some_iff.mp H
        obtain ⟨⟨t235, t236, t237⟩, A630, H⟩ := H
        try dsimp only at H
        have A63 := Aside0.mk A630
        clear A630
        by_cases c64 : 0 ≤ t229
        ·
         rw [if_pos c64] at H
         have c64b0 : decide (0 ≤ t229) = true := decide_eq_true c64
         clear c64
         by_cases c65 : t229 < (x5_2.length : Int)
         ·
          rw [if_pos c65] at H
          have c65b0 : decide (t229 < (x5_2.length : Int)) = true := decide_eq_true c65
          clear c65
          obtain ⟨y238, hy238⟩ : ∃ y_ : List Int, y_ = (x5_2.set (t229 : Int).toNat t235) := ⟨_, rfl⟩
          replace H : (some (y238, t236, t237)) = some (r1, r2, r3) := by first | (rw [hy238]; with_reducible exact H) | (have H2_ := (Option.bind_some _ _).symm.trans H; rw [hy238]; with_reducible exact H2_) | (have H2_ := (Option.bind_some _ _).symm.trans H; with_reducible exact H2_) | with_reducible exact H | (rw [hy238]; exact H) | exact H
          have Ny238 := Aside0.mk hy238
          clear hy238
          simp only [Option.some.injEq, Prod.mk.injEq] at H
          obtain ⟨rfl, rfl, rfl⟩ := H
          obtain ⟨Ao67, co67, eo67⟩ := Kd.R_slice HO_5.out
          subst eo67
          go_wp2_with (first | ((with_reducible refine gate_callee (f := 44) rfl ?_); refine goesL_ (some 60) rfl rfl Try.func44 Z92 rfl #[.pointer (some ⟨g, 0, none⟩), .int .i64 (x5_2.length : Int)] rfl Z104 ?_; (with_reducible refine (spec_l1Cur_pick.calls g s0_0 x1001_54 x1002_54 (x5_2.length : Int) t229 t230 t231 w0 _ ?side1 ?side2 A62.out).mono ?_); (case side1 => exact Z1); (case side2 => exact Z4); rintro e w68 ⟨rfl, hi, hb, hk⟩; refine ⟨_, rfl, ?_⟩; replace HO_5 := Aside0.mk (Kd.R_mono (Kd.R_keep (IsS47.apart (show IsS47 w0 _ g s0_0 x1001_54 x1002_54 from Z1) (uR HO_5) Z19) hk (fun _ h => h.2)) (fun _ h => h.1)); replace HK := Aside0.mk (KeepBut.trans Z2 hk (.inl rfl)); replace HB := Aside0.mk (hb); replace HI0 := Aside0.mk (hi); (try clear hb); (try clear hb2); (try clear hk); (try clear hi)) | ((with_reducible refine gate_dst (N := 65) rfl ?_); (try (refine gate_guard Z63 ?_; dsimp only)); refine Kd.R_lit (Kd.int .i64) _ 3 ?hg (N := 65) ?hd (xs := ([(-1), 0, a1, wrap64 (a1 - 1)] : List Int)) (inner := [.int .i64 (-1), .int .i64 0, .int .i64 a1, .int .i64 (wrap64 (a1 - 1))]) (ok := fun _ => True) (okp := fun _ => True) ?hr ?hp (fun _ hk => hk) trivial (Below.refl _ _) (Nat.le_refl _) Z37 ?_; (case hd => rfl); (case hg => rfl); (case hr => exact Z93); (case hp => exact (Reps.one (show Kd.M (Kd.int .i64) _ _ _ (-1) [.int .i64 (-1)] from rfl) (Reps.one (show Kd.M (Kd.int .i64) _ _ _ 0 [.int .i64 0] from rfl) (Reps.one (show Kd.M (Kd.int .i64) _ _ _ a1 [.int .i64 a1] from rfl) (Reps.one (show Kd.M (Kd.int .i64) _ _ _ (wrap64 (a1 - 1)) [.int .i64 (wrap64 (a1 - 1))] from rfl) (Reps.none _ _)))))); intro v233 w69 ho70 hb hg_ hnew_; clear hg_ hnew_; (first | rw [← Ny232.out] at ho70 | (simp only [Int.reduceToNat] at ho70; rw [← Ny232.out] at ho70)); have HO234 := Aside0.mk (Kd.R_lower (Kd.R_new' ho70 (Kd.R_lt (uR HO_5))) (keep_size (w := w) (g := g) (row := none) Z2)); replace HO_5 := Aside0.mk (Kd.R_elder' (uR HO_5) (Kd.R_base ho70) hb); replace HK := Aside0.mk (KeepBut.trans Z2 (KeepBut.of_below hb g none) (.inl rfl)); replace HB := Aside0.mk (below_step Z4 hb); replace HI0 := Aside0.mk (IsS47.below Z1 hb); clear hb ho70; obtain ⟨Ao71, co71, eo71⟩ := Kd.R_slice HO234.out; subst eo71) | ((with_reducible refine gate_callee (f := 72) rfl ?_); refine goesL_ (some 66) rfl rfl Try.func72 Z92 rfl #[.pointer (some ⟨g, 0, none⟩), .slice Ao71 y232.length co71] rfl Z104 ?_; (with_reducible refine (spec_l1Cur_among.calls g s0_0 t230 t231 _ _ y232 t235 t236 t237 w0 _ ?side1 ?side2 ?side3 ?side4 ?side5 A63.out).mono ?_); (case side1 => exact Z1); (case side2 => exact Z4); (case side3 => exact uD HO234); (case side4 => exact (Kd.R_reads' HO234.out).2.1); (case side5 => exact far_slice (IsS47.own_ne HI0.out HO234.out Z19)); rintro e w72 ⟨rfl, hi, hb, hk⟩; refine ⟨_, rfl, ?_⟩; replace HO_5 := Aside0.mk (Kd.R_mono (Kd.R_keep (IsS47.apart (show IsS47 w0 _ g s0_0 t230 t231 from Z1) (uR HO_5) Z19) hk (fun _ h => h.2)) (fun _ h => h.1)); replace HO234 := Aside0.mk (Kd.R_mono (Kd.R_keep (IsS47.apart (show IsS47 w0 _ g s0_0 t230 t231 from Z1) (uR HO234) Z19) hk (fun _ h => h.2)) (fun _ h => h.1)); replace HK := Aside0.mk (KeepBut.trans Z2 hk (.inl rfl)); replace HB := Aside0.mk (hb); replace HI0 := Aside0.mk (hi); (try clear hb); (try clear hb2); (try clear hk); (try clear hi); have p66 : 0 ≤ (t229 : Int) := of_decide_eq_true Z6; have q66 : (t229 : Int) < ((x5_2.length : Int) : Int) := of_decide_eq_true Z6; obtain ⟨go66, co66, eo66, gb66, gl66, cl66, HG66⟩ := Kd.R_form HO_5.out Z69; (first | cases eo66 | (injection eo66 with ea_ en_ ec_; (first | subst ea_ | (injection ea_ with ea_; subst ea_)); subst ec_; clear en_)); have GB66 := Aside0.mk gb66; have GG66 := Aside0.mk HG66; clear gb66 gl66 HG66; obtain ⟨hx66_0, hf66_0⟩ := Kd.R_celln 0 HO_5.out (t229 : Int) p66 q66; replace p66 := eq_true p66; replace q66 := eq_true q66; have n_ := Aside0.mk (Kd.R_mono (ok' := (fun k_ => some k_ ≠ (.slice Ao71 y232.length co71 : Value).ownBlock)) HO_5.out (fun k_ hk => hk.2)); clear HO_5; have HO_5 := n_; clear n_; obtain ⟨hy73_, hz73_⟩ := Kd.R_celln 0 HO_5.out (t229 : Int) (of_decide_eq_true Z6) (of_decide_eq_true Z6); have HP73 := Kd.R_putg HO_5.out (t229 : Int) t235) | ((with_reducible refine gate_store (t := 3) (p := 67) rfl ?_); refine store_event (t := 3) (p := 67) (v := ?vo_w74) (w1 := (w72.setCell ⟨go66, (t229 : Int).toNat, none⟩ (.int .i64 t235))) ?hg ?ho ?hn ?hr ?_; (case ho => rfl); (case hg => rfl); (case hn => rfl); (case hr => exact Z93); intro w74 hw; have hg : w72.grownBy w74 (some go66) := (by rw [hw]; exact HP73.2); have hp_ : Kd.R (Kd.int .i64) 3 w74 w.heap.size (fun k_ => some k_ ≠ (.slice Ao71 y232.length co71 : Value).ownBlock) (.slice (some ⟨go66, 0, none⟩) x5_2.length co67) y238 := (by rw [hw, Ny238.out]; exact HP73.1); clear HP73; replace HI0 := Aside0.mk (IsS47.grown Z1 hg (IsS47.own_ne HI0.out HO_5.out Z19)); replace HO234 := Aside0.mk (Kd.R_after (v := (.slice (some ⟨go66, 0, none⟩) x5_2.length co67)) (v1 := (.slice (some ⟨go66, 0, none⟩) x5_2.length co67)) (ok := (fun _ => True)) (uR HO234) hg (.inl rfl)); replace HB := Aside0.mk ((by rw [hw]; exact below_set (HB.out) (Nat.le_trans HL.out GB66.out) : Below w0.heap.size w0 w74)); replace HK := Aside0.mk (KeepBut.trans Z2 (KeepBut.of_grown hg g) (Kd.R_base2 HO_5.out)); replace HO_5 := Aside0.mk (hp_); clear hg hw hp_))
          go_ret
          exact ⟨_, Z90, by (with_reducible repeat (first | apply Kd.R_alloc | apply Kd.R_drewN | apply Kd.R_drew)); exact Kd.R_mono HO_5.out (fun _ hk => trivial), Z1, Z4, Z2⟩
         rw [if_neg c65] at H
         exact absurd H Z37
        rw [if_neg c64] at H
        exact absurd H Z37
       replace c61 := Bool.eq_false_iff.mpr c61
       subst c61
       rw [if_neg (show ¬ (false = true) from Z19)] at H
       simp only [Option.some.injEq, Prod.mk.injEq] at H
       obtain ⟨rfl, rfl, rfl⟩ := H
       go_wp2
       go_ret
       exact ⟨_, Z90, Z60, Z1, Z4, Z2⟩

end Go.Proofs.Ytllaofiopnhdgaa.PFnSparseCounts
