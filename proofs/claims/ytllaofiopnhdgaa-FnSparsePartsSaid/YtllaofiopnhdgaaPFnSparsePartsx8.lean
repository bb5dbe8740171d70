-- made by wip/tools/myprint.py over the kit's print, for this claim
import Derived.Test.YtllaofiopnhdgaaPFnSparsePartsx0
import Derived.Test.YtllaofiopnhdgaaPFnSparsePartsx6
import Derived.Test.YtllaofiopnhdgaaPFnSparsePartsx7
namespace Go.Proofs.Ytllaofiopnhdgaa.PFnSparseParts
open Go.RowKit Go.Proofs.YtllaofiopnhdgaaW.PrintWords Go.Proofs.YtllaofiopnhdgaaW.PrintLast Go.Proofs.YtllaofiopnhdgaaW.PrintMore
open List (setIfInBounds_toArray set_cons_zero set_cons_succ)
attribute [local go_sem] max2_int min2_int max_two min_two max_three min_three max_four min_four   -- for this text's walks alone
set_option linter.unusedVariables false
set_option linter.unusedSimpArgs false

/-! ### Fc: function 42 -/
mutual
def Fc.j0 : Nat → Int → List Int → Int → List Int → Int → Int → Option (List Int × Int × Int)
 | 0, _, _, _, _, _, _ => none
 | k + 1, x1, x5, x6, x2, x3, x4 => Fc.l0 k x1 x5 x6 x2 x3 x4
def Fc.l0 : Nat → Int → List Int → Int → List Int → Int → Int → Option (List Int × Int × Int)
 | 0, _, _, _, _, _, _ => none
 | k + 1, x1, x5, x6, x2, x4, x7 => if x6 > 0 then ((FP.f x1 1).bind fun t8 => ((Fd.f x2 x4 x7 t8).bind fun bt9 => (Fc.l1 k x1 x5 x6 bt9.1 0 x2 bt9.2.1 bt9.2.2))) else ((Ffa.f x2 x4 x7 12).bind fun bt10 => (if bt10.1 = true then (Fc.j3 k x1 x5 (decide ((x5.length : Int) > 0)) x2 bt10.2.1 bt10.2.2) else (Fc.j3 k x1 x5 false x2 bt10.2.1 bt10.2.2)))
def Fc.l1 : Nat → Int → List Int → Int → Int → Int → List Int → Int → Int → Option (List Int × Int × Int)
 | 0, _, _, _, _, _, _, _, _ => none
 | k + 1, x1, x5, x6, x7, x8, x2, x3, x4 => if x8 < (x5.length : Int) then (if 0 ≤ x8 then (if (rd x5 x8) ≤ x7 then (Fc.l1 k x1 x5 x6 x7 (wrap64 (x8 + 1)) x2 x3 x4) else (if x8 ≤ (x5.length : Int) then ((Fga.f (x5.take (x8 : Int).toNat)).bind fun t9 => ((some (([x7] : List Int) : List Int)).bind fun y10 => (if t9.length + y10.length < 17592186044416 then ((some (t9 ++ y10 : List Int)).bind fun y11 => ((some (x5.drop (x8 : Int).toNat : List Int)).bind fun y12 => (if y11.length + y12.length < 17592186044416 then (Fc.l0 k x1 (y11 ++ y12) (wrap64 (x6 - 1)) x2 x3 x4) else (none)))) else (none)))) else (none))) else (none)) else (if 0 ≤ x8 then (if x8 ≤ (x5.length : Int) then ((Fga.f (x5.take (x8 : Int).toNat)).bind fun t13 => ((some (([x7] : List Int) : List Int)).bind fun y14 => (if t13.length + y14.length < 17592186044416 then ((some (t13 ++ y14 : List Int)).bind fun y15 => ((some (x5.drop (x8 : Int).toNat : List Int)).bind fun y16 => (if y15.length + y16.length < 17592186044416 then (Fc.l0 k x1 (y15 ++ y16) (wrap64 (x6 - 1)) x2 x3 x4) else (none)))) else (none)))) else (none)) else (none))
def Fc.j3 : Nat → Int → List Int → Bool → List Int → Int → Int → Option (List Int × Int × Int)
 | 0, _, _, _, _, _, _ => none
 | k + 1, x1, x5, x55, x2, x4, x6 => if x55 = true then ((Fd.f x2 x4 x6 (x5.length : Int)).bind fun bt7 => ((FY.f x2 bt7.2.1 bt7.2.2 (([(-1), 0, x1, wrap64 (x1 - 1)] : List Int))).bind fun bt8 => (if 0 ≤ bt7.1 then (if bt7.1 < (x5.length : Int) then (some ((x5.set (bt7.1 : Int).toNat bt8.1), bt8.2.1, bt8.2.2)) else (none)) else (none)))) else (some (x5, x4, x6))
end
def Fc.f (k : Nat) (s0_0 : List Int) (s0_1 : Int) (s0_2 : Int) (a1 : Int) : Option (List Int × Int × Int) := (Fd.f s0_0 s0_1 s0_2 9).bind fun bt3 => ((Ffa.f s0_0 bt3.2.1 bt3.2.2 24).bind fun bt4 => (if bt4.1 = true then ((Fd.f s0_0 bt4.2.1 bt4.2.2 2).bind fun bt5 => (Fc.j0 k a1 ([] : List Int) (wrap64 (60 + bt5.1)) s0_0 bt5.2.1 bt5.2.2)) else (Fc.j0 k a1 ([] : List Int) bt3.1 s0_0 bt4.2.1 bt4.2.2)))
theorem Fc.mono_l : ∀ k, (∀ y0 y1 y2 y3 y4 y5, LeO (Fc.j0 k y0 y1 y2 y3 y4 y5) (Fc.j0 (k + 1) y0 y1 y2 y3 y4 y5)) ∧ (∀ y0 y1 y2 y3 y4 y5, LeO (Fc.l0 k y0 y1 y2 y3 y4 y5) (Fc.l0 (k + 1) y0 y1 y2 y3 y4 y5)) ∧ (∀ y0 y1 y2 y3 y4 y5 y6 y7, LeO (Fc.l1 k y0 y1 y2 y3 y4 y5 y6 y7) (Fc.l1 (k + 1) y0 y1 y2 y3 y4 y5 y6 y7)) ∧ (∀ y0 y1 y2 y3 y4 y5, LeO (Fc.j3 k y0 y1 y2 y3 y4 y5) (Fc.j3 (k + 1) y0 y1 y2 y3 y4 y5))
 | 0 => ⟨fun _ _ _ _ _ _ r h => by simp [Fc.j0] at h, fun _ _ _ _ _ _ r h => by simp [Fc.l0] at h, fun _ _ _ _ _ _ _ _ r h => by simp [Fc.l1] at h, fun _ _ _ _ _ _ r h => by simp [Fc.j3] at h⟩ | k + 1 => by
  obtain ⟨ih0, ih1, ih2, ih3⟩ := Fc.mono_l k
  refine ⟨?_, ?_, ?_, ?_⟩
  ·
   intro y0 y1 y2 y3 y4 y5
   unfold Fc.j0
   exact Mo7
  ·
   intro y0 y1 y2 y3 y4 y5
   unfold Fc.l0
   exact Mo7
  ·
   intro y0 y1 y2 y3 y4 y5 y6 y7
   unfold Fc.l1
   exact Mo7
  intro y0 y1 y2 y3 y4 y5
  unfold Fc.j3
  exact Mo7
theorem Fc.mono : ∀ a0 a1 a2 a3 k, LeO (Fc.f k a0 a1 a2 a3) (Fc.f (k + 1) a0 a1 a2 a3) := by
 intro a0 a1 a2 a3 k
 obtain ⟨ih0, ih1, ih2, ih3⟩ := Fc.mono_l k
 unfold Fc.f
 exact Mo7
def Fc.T11 : Bool × List (List Nat × List Nat) := (true, [([], []), ([], []), ([0, 1], [0, 1]), ([2], [2]), ([], []), ([4], [4]), ([3, 5, 3], [3, 5]), ([], []), ([], []), ([7, 8], [7, 8]), ([6, 9, 6], [6, 9]), ([10, 10, 0, 1, 2, 3, 4, 5, 6, 7, 8, 9, 10], [0, 7, 10])])
def Fc.B11 : List Nat := [0, 0, 3, 7, 0, 16, 63, 0, 0, 384, 1023, 2047]
theorem Fc.tab11 : rtab .any (opsOf Try.f42 11) = Fc.T11 := by kernel_rfl
theorem Fc.bits11 : waitsOk Fc.T11.2 Fc.B11 = true := by kernel_rfl
set_option maxHeartbeats 8000000 in
set_option maxRecDepth 100000 in
theorem Fc.calls (k : Nat) (g : Nat) (s0_0 : List Int) (s0_1 : Int) (s0_2 : Int) (a1 : Int) (r1 : List Int) (r2 : Int) (r3 : Int) (w0 w : World) (hI : IsS47 w0 w g s0_0 s0_1 s0_2) (hB : Below w0.heap.size w0 w) (h : Fc.f k s0_0 s0_1 s0_2 a1 = some (r1, r2, r3)) :
  Calls Try.prog 42 #[.pointer (some ⟨g, 0, none⟩), .int .i64 a1] w fun e w' => ∃ v0_ : Value, e = .returned (v0_) ∧ Kd.R (Kd.int .i64) 3 w' w.heap.size (fun _ => True) v0_ r1 ∧ IsS47 w0 w' g s0_0 r2 r3 ∧ Below w0.heap.size w0 w' ∧ KeepBut w w' g none := by
 have HI0 := am hI
 have HK := am (KeepBut.refl w g none)
 have HL := am hB.size
 clear hI
 have HW0 := am hB.size
 have HB := am hB
 clear hB
 have H : ((Fd.f s0_0 s0_1 s0_2 9).bind fun bt75 => ((Ffa.f s0_0 bt75.2.1 bt75.2.2 24).bind fun bt76 => (if bt76.1 = true then ((Fd.f s0_0 bt76.2.1 bt76.2.2 2).bind fun bt77 => (Fc.j0 k a1 ([] : List Int) (wrap64 (60 + bt77.1)) s0_0 bt77.2.1 bt77.2.2)) else (Fc.j0 k a1 ([] : List Int) bt75.1 s0_0 bt76.2.1 bt76.2.2)))) = some (r1, r2, r3) := h
 clear h
 replace H := Option.bind_eq_some_iff.mp H
 obtain ⟨⟨t75, t78, t79⟩, A30, H⟩ := H
 try dsimp only at H
 have A3 := am A30
 clear A30
 replace H := Option.bind_eq_some_iff.mp H
 obtain ⟨⟨t76, t80, t81⟩, A40, H⟩ := H
 try dsimp only at H
 have A4 := am A40
 clear A40
 have HC5 := am H
 clear H
 go_enter Try.func42, Try.ntmps42
 go_upto_if 12 with (first | ((with_reducible refine gate_callee (f := 44) rfl ?_); refine goesL_ (some 10) rfl rfl Try.func44 Z112 rfl #[.pointer (some ⟨g, 0, none⟩), .int .i64 9] rfl Z140 ?_; (with_reducible refine (Fd.calls g s0_0 s0_1 s0_2 9 t75 t78 t79 w0 _ ?side1 ?side2 A3.out).mono ?_); (case side1 => exact Z1); (case side2 => exact Z4); rintro e w6 ⟨rfl, hi, hb, hk⟩; refine ⟨_, rfl, ?_⟩; replace HK := am (KeepBut.trans Z2 hk (.inl rfl)); replace HB := am (hb); replace HI0 := am (hi); (try clear hb); (try clear hb2); (try clear hk); (try clear hi)) | ((with_reducible refine gate_callee (f := 73) rfl ?_); refine goesL_ (some 12) rfl rfl Try.func73 Z112 rfl #[.pointer (some ⟨g, 0, none⟩), .int .i64 24] rfl Z140 ?_; (with_reducible refine (Ffa.calls g s0_0 t78 t79 24 t76 t80 t81 w0 _ ?side1 ?side2 A4.out).mono ?_); (case side1 => exact Z1); (case side2 => exact Z4); rintro e w7 ⟨rfl, hi, hb, hk⟩; refine ⟨_, rfl, ?_⟩; replace HK := am (KeepBut.trans Z2 hk (.inl rfl)); replace HB := am (hb); replace HI0 := am (hi); (try clear hb); (try clear hb2); (try clear hk); (try clear hi)))
 (try simp only [Act.put, setIfInBounds_toArray, set_cons_zero, set_cons_succ])
 go_cut [6] (fun v6 wc => ∃ (kq : Nat) (x6_4 : Int) (x82_4 : Int) (x83_4 : Int), v6 = .int .i64 x6_4 ∧ Aside0 (Fc.j0 kq a1 ([] : List Int) x6_4 s0_0 x82_4 x83_4 = some (r1, r2, r3)) ∧ Aside0 (kq ≤ k) ∧ Aside0 (Kd.R (Kd.int .i64) 3 wc w.heap.size (fun _ => True) (.slice none 0 0) ([] : List Int)) ∧ Aside0 (IsS47 w0 wc g s0_0 x82_4 x83_4) ∧ Aside0 (KeepBut w wc g none) ∧ Aside0 (Below w0.heap.size w0 wc))
 case first =>
  have H := HC5.out
  clear HC5
  by_cases c8 : t76 = true
  rotate_left
  ·
   replace c8 := Bool.eq_false_iff.mpr c8
   subst c8
   rw [if_neg (show ¬ (false = true) from Z16)] at H
   have H' := am H
   clear H
   go_wp2
   go_meet
   case rel => exact ⟨_, (t75), (t80), (t81), Z110, H', ⟨Z129⟩, ⟨Z23⟩, ⟨Z1⟩, ⟨Z2⟩, ⟨Z4⟩⟩
  subst c8
  rw [if_pos rfl] at H
  replace H := Option.bind_eq_some_iff.mp H
  obtain ⟨⟨t77, t84, t85⟩, A90, H⟩ := H
  try dsimp only at H
  have A9 := am A90
  clear A90
  have H' := am H
  clear H
  go_wp2_with (first | ((with_reducible refine gate_callee (f := 44) rfl ?_); refine goesL_ (some 14) rfl rfl Try.func44 Z112 rfl #[.pointer (some ⟨g, 0, none⟩), .int .i64 2] rfl Z140 ?_; (with_reducible refine (Fd.calls g s0_0 t80 t81 2 t77 t84 t85 w0 _ ?side1 ?side2 A9.out).mono ?_); (case side1 => exact Z1); (case side2 => exact Z4); rintro e w10 ⟨rfl, hi, hb, hk⟩; refine ⟨_, rfl, ?_⟩; replace HK := am (KeepBut.trans Z2 hk (.inl rfl)); replace HB := am (hb); replace HI0 := am (hi); (try clear hb); (try clear hb2); (try clear hk); (try clear hi)))
  go_meet
  case rel => exact ⟨_, (wrap64 (60 + t77)), (t84), (t85), Z110, H', ⟨Z129⟩, ⟨Z23⟩, ⟨Z1⟩, ⟨Z2⟩, ⟨Z4⟩⟩
 case rest =>
  clear HC5
  try clear p2
  try clear c4
  try clear p6
  try clear c7
  try clear c8
  obtain ⟨kq, x6_4, x82_4, x83_4, rfl, HA, HJ4, HO_5, HI0, HK, HB⟩ := hcut
  cases kq with
  | zero => exact absurd HA.out (by simp [Fc.j0])
  | succ kj4 =>
   have H := HA.out
   clear HA
   simp only [Fc.j0] at H
   have H' := am H
   clear H
   go_wp2
   go_loopg [5, 6] kj4 (fun kq v5 v6 w' => ∃ (x5_2 : List Int) (x6_2 : Int) (x82_2 : Int) (x83_2 : Int), v6 = .int .i64 x6_2 ∧ Aside0 (Fc.l0 kq a1 x5_2 x6_2 s0_0 x82_2 x83_2 = some (r1, r2, r3)) ∧ Aside0 (kq ≤ kj4) ∧ Aside0 (Kd.R (Kd.int .i64) 3 w' w.heap.size (fun _ => True) v5 x5_2) ∧ Aside0 (IsS47 w0 w' g s0_0 x82_2 x83_2) ∧ Aside0 (KeepBut w w' g none) ∧ Aside0 (Below w0.heap.size w0 w'))
   case atStart => exact ⟨(([] : List Int)), (x6_4), (x82_4), (x83_4), Z110, H', ⟨Nat.le_refl _⟩, ⟨Z66⟩, ⟨Z1⟩, ⟨Z2⟩, ⟨Z4⟩⟩
   case round =>
    clear H'
    try clear p2
    try clear c4
    try clear p6
    try clear c7
    try clear c8
    try clear p2
    try clear p6
    try clear HO_5
    obtain ⟨x5_2, x6_2, x82_2, x83_2, rfl, HA, HK2, HO_5, HI0, HK, HB⟩ := hrel
    cases gk with
    | zero => exact absurd HA.out (by simp [Fc.l0])
    | succ k2 =>
     have H := HA.out
     clear HA
     simp only [Fc.l0] at H
     by_cases c11 : x6_2 > 0
     ·
      rw [if_pos c11] at H
      have c11b0 := decide_eq_true c11
      clear c11
      replace H := Option.bind_eq_some_iff.mp H
      obtain ⟨t86, A87, H⟩ := H
      try dsimp only at H
      have A12 := am A87
      clear A87
      replace H := Option.bind_eq_some_iff.mp H
      obtain ⟨⟨t88, t89, t91⟩, A92, H⟩ := H
      try dsimp only at H
      have A13 := am A92
      clear A92
      have H' := am H
      clear H
      go_wp2_with (first | ((with_reducible refine gate_callee (f := 48) rfl ?_); refine goesL_ (some 22) rfl rfl Try.func48 Z112 rfl #[.int .i64 a1, .int .i64 1] rfl Z140 ?_; (with_reducible refine (FP.calls a1 1 t86 _ A12.out).mono ?_); rintro e w' ⟨rfl, ⟨nd, rfl⟩⟩; refine ⟨_, rfl, ?_⟩) | ((with_reducible refine gate_callee (f := 44) rfl ?_); refine goesL_ (some 23) rfl rfl Try.func44 Z112 rfl #[.pointer (some ⟨g, 0, none⟩), .int .i64 t86] rfl Z140 ?_; (with_reducible refine (Fd.calls g s0_0 x82_2 x83_2 t86 t88 t89 t91 w0 _ ?side1 ?side2 A13.out).mono ?_); (case side1 => exact Z1); (case side2 => exact Z4); rintro e w14 ⟨rfl, hi, hb, hk⟩; refine ⟨_, rfl, ?_⟩; replace HO_5 := am (Kd.R_mono (Kd.R_keep (IsS47.apart (show IsS47 w0 _ g s0_0 x82_2 x83_2 from Z1) (uR HO_5) Z16) hk (fun _ h => h.2)) (fun _ h => h.1)); replace HK := am (KeepBut.trans Z2 hk (.inl rfl)); replace HB := am (hb); replace HI0 := am (hi); (try clear hb); (try clear hb2); (try clear hk); (try clear hi)))
      go_loopg [8] k2 (fun kq v8 w' => ∃ (x8_3 : Int), v8 = .int .i64 x8_3 ∧ Aside0 (Fc.l1 kq a1 x5_2 x6_2 t88 x8_3 s0_0 t89 t91 = some (r1, r2, r3)) ∧ Aside0 (kq ≤ k2) ∧ Aside0 (Kd.R (Kd.int .i64) 3 w' w.heap.size (fun _ => True) u5 x5_2) ∧ Aside0 (IsS47 w0 w' g s0_0 t89 t91) ∧ Aside0 (KeepBut w w' g none) ∧ Aside0 (Below w0.heap.size w0 w'))
      case atStart => exact ⟨(0), Z110, H', ⟨Nat.le_refl _⟩, ⟨Z66⟩, ⟨Z1⟩, ⟨Z2⟩, ⟨Z4⟩⟩
      case round =>
       clear H'
       try clear c1
       try clear p2
       try clear c4
       try clear p6
       try clear c7
       try clear c8
       try clear c11
       try clear c11b0
       try clear p2
       try clear p6
       try clear HO_5
       obtain ⟨x8_3, rfl, HA, HK3, HO_5, HI0, HK, HB⟩ := hrel
       cases gk with
       | zero => exact absurd HA.out (by simp [Fc.l1])
       | succ k3 =>
        have H := HA.out
        clear HA
        simp only [Fc.l1] at H
        by_cases c15 : x8_3 < (x5_2.length : Int)
        ·
         rw [if_pos c15] at H
         have c15b0 := decide_eq_true c15
         clear c15
         by_cases c16 : 0 ≤ x8_3
         rotate_left
         ·
          rw [if_neg c16] at H
          exact absurd H Z43
         rw [if_pos c16] at H
         have c16b0 := decide_eq_true c16
         clear c16
         by_cases c17 : (rd x5_2 x8_3) ≤ t88
         ·
          rw [if_pos c17] at H
          have c17b0 := decide_eq_true c17
          clear c17
          have H' := am H
          clear H
          obtain ⟨Ao18, co18, eo18⟩ := Kd.R_slice HO_5.out
          subst eo18
          have p93 : 0 ≤ (x8_3 : Int) := of_decide_eq_true Z6
          have q93 : x8_3 < (x5_2.length : Int) := of_decide_eq_true Z6
          obtain ⟨ad93, e93, hx93_0⟩ := Kd.at_int (Kd.R_reads' HO_5.out).2.2 x8_3 p93 q93
          cases e93
          replace p93 := eq_true p93
          replace q93 := eq_true q93
          go_wp2
          go_roundg k3
          case measure => have := HJ4.out; have := HK2.out; have := HK3.out; omega
          case rel => exact ⟨(wrap64 (x8_3 + 1)), Z110, H', ⟨by have := HJ4.out; have := HK2.out; have := HK3.out; omega⟩, ⟨Z66⟩, ⟨Z1⟩, ⟨Z2⟩, ⟨Z4⟩⟩
         rw [if_neg c17] at H
         have c17b0 := decide_eq_false c17
         clear c17
         have c19b0 := eq_true (of_decide_eq_true Z6 : 0 ≤ x8_3)
         by_cases c20 : x8_3 ≤ (x5_2.length : Int)
         rotate_left
         ·
          rw [if_neg c20] at H
          exact absurd H Z43
         rw [if_pos c20] at H
         have c20b0 := eq_true c20
         have c20b1 := decide_eq_true c20
         have CK20b1_ : Aside0 (x8_3 ≤ (x5_2.length : Int)) := am (of_decide_eq_true c20b1)
         clear c20
         obtain ⟨y94, hy94⟩ : ∃ y_ : List Int, y_ = (x5_2.take (x8_3 : Int).toNat) := ⟨_, rfl⟩
         replace H : ((Fga.f y94).bind fun t95 => ((some (([t88] : List Int) : List Int)).bind fun y96 => (if t95.length + y96.length < 17592186044416 then ((some (t95 ++ y96 : List Int)).bind fun y97 => ((some (x5_2.drop (x8_3 : Int).toNat : List Int)).bind fun y98 => (if y97.length + y98.length < 17592186044416 then (Fc.l0 k3 a1 (y97 ++ y98) (wrap64 (x6_2 - 1)) s0_0 t89 t91) else (none)))) else (none)))) = some (r1, r2, r3) := by first | (rw [hy94]; with_reducible exact H) | (have H2_ := (Option.bind_some _ _).symm.trans H; rw [hy94]; with_reducible exact H2_) | (have H2_ := (Option.bind_some _ _).symm.trans H; with_reducible exact H2_) | with_reducible exact H | (rw [hy94]; exact H) | exact H
         have Ny94 := am hy94
         clear hy94
         replace H := Option.bind_eq_some_iff.mp H
         obtain ⟨t95, A99, H⟩ := H
         try dsimp only at H
         have A21 := am A99
         clear A99
         obtain ⟨y96, hy96⟩ : ∃ y_ : List Int, y_ = (([t88] : List Int)) := ⟨_, rfl⟩
         replace H : (if t95.length + y96.length < 17592186044416 then ((some (t95 ++ y96 : List Int)).bind fun y97 => ((some (x5_2.drop (x8_3 : Int).toNat : List Int)).bind fun y98 => (if y97.length + y98.length < 17592186044416 then (Fc.l0 k3 a1 (y97 ++ y98) (wrap64 (x6_2 - 1)) s0_0 t89 t91) else (none)))) else (none)) = some (r1, r2, r3) := by first | (rw [hy96]; with_reducible exact H) | (have H2_ := (Option.bind_some _ _).symm.trans H; rw [hy96]; with_reducible exact H2_) | (have H2_ := (Option.bind_some _ _).symm.trans H; with_reducible exact H2_) | with_reducible exact H | (rw [hy96]; exact H) | exact H
         have Ny96 := am hy96
         clear hy96
         by_cases c22 : t95.length + y96.length < 17592186044416
         rotate_left
         ·
          rw [if_neg c22] at H
          exact absurd H Z43
         rw [if_pos c22] at H
         have LMc22 := am c22
         clear c22
         obtain ⟨y97, hy97⟩ : ∃ y_ : List Int, y_ = (t95 ++ y96) := ⟨_, rfl⟩
         replace H : ((some (x5_2.drop (x8_3 : Int).toNat : List Int)).bind fun y98 => (if y97.length + y98.length < 17592186044416 then (Fc.l0 k3 a1 (y97 ++ y98) (wrap64 (x6_2 - 1)) s0_0 t89 t91) else (none))) = some (r1, r2, r3) := by first | (rw [hy97]; with_reducible exact H) | (have H2_ := (Option.bind_some _ _).symm.trans H; rw [hy97]; with_reducible exact H2_) | (have H2_ := (Option.bind_some _ _).symm.trans H; with_reducible exact H2_) | with_reducible exact H | (rw [hy97]; exact H) | exact H
         have Ny97 := am hy97
         clear hy97
         have c23b0 := eq_true (of_decide_eq_true Z6 : 0 ≤ x8_3)
         have c24b0 := eq_true (of_decide_eq_true Z6 : x8_3 ≤ (x5_2.length : Int))
         obtain ⟨y98, hy98⟩ : ∃ y_ : List Int, y_ = (x5_2.drop (x8_3 : Int).toNat) := ⟨_, rfl⟩
         replace H : (if y97.length + y98.length < 17592186044416 then (Fc.l0 k3 a1 (y97 ++ y98) (wrap64 (x6_2 - 1)) s0_0 t89 t91) else (none)) = some (r1, r2, r3) := by first | (rw [hy98]; with_reducible exact H) | (have H2_ := (Option.bind_some _ _).symm.trans H; rw [hy98]; with_reducible exact H2_) | (have H2_ := (Option.bind_some _ _).symm.trans H; with_reducible exact H2_) | with_reducible exact H | (rw [hy98]; exact H) | exact H
         have Ny98 := am hy98
         clear hy98
         by_cases c25 : y97.length + y98.length < 17592186044416
         rotate_left
         ·
          rw [if_neg c25] at H
          exact absurd H Z43
         rw [if_pos c25] at H
         have LMc25 := am c25
         clear c25
         obtain ⟨y100, hy100⟩ : ∃ y_ : List Int, y_ = (y97 ++ y98) := ⟨_, rfl⟩
         replace H : (Fc.l0 k3 a1 y100 (wrap64 (x6_2 - 1)) s0_0 t89 t91) = some (r1, r2, r3) := by first | (rw [hy100]; with_reducible exact H) | (have H2_ := (Option.bind_some _ _).symm.trans H; rw [hy100]; with_reducible exact H2_) | (have H2_ := (Option.bind_some _ _).symm.trans H; with_reducible exact H2_) | with_reducible exact H | (rw [hy100]; exact H) | exact H
         have Ny100 := am hy100
         clear hy100
         have H' := am H
         clear H
         obtain ⟨Ao26, co26, eo26⟩ := Kd.R_slice HO_5.out
         subst eo26
         have p93 : 0 ≤ (x8_3 : Int) := of_decide_eq_true Z6
         have q93 : x8_3 < (x5_2.length : Int) := of_decide_eq_true Z6
         obtain ⟨ad93, e93, hx93_0⟩ := Kd.at_int (Kd.R_reads' HO_5.out).2.2 x8_3 p93 q93
         cases e93
         replace p93 := eq_true p93
         replace q93 := eq_true q93
         try go_wp2
         replace HO_5 := am (Kd.R_drew HO_5.out)
         replace HI0 := am (IsS47.drew HI0.out)
         replace HK := am (keep_drew HK.out)
         replace HB := am (below_drew1 HB.out)
         have q28 : (x8_3 : Int) ≤ ((x5_2.length : Int) : Int) := of_decide_eq_true Z6
         obtain ⟨i028, hi028, _, hsz28, _⟩ := info_parts info3
         have hroom28 : x5_2.length ≤ co26 := (Kd.R_reads' HO_5.out).2.1
         have hC28 : Kd.C (Kd.int .i64) _ (some ad93) x5_2.length x5_2 := (Kd.R_reads' HO_5.out).2.2
         have hcut28 := cut_to (P := Try.prog) 24 3 .i64 Try.underlying24 hi028 (some ad93) x5_2.length co26 x8_3 (of_decide_eq_true Z6) q28 hroom28
         have hr28 := Kd.C_take (m := (x8_3 : Int).toNat) hC28 Z70
         have hy28 : y94.length = (x8_3 : Int).toNat := (by rw [Ny94.out, List.length_take]; omega)
         rw [← Ny94.out] at hr28
         rw [← hy28] at hcut28
         have HR101 := am hr28
         have HC101 := am (show y94.length ≤ co26 from Z70)
         clear hr28 hC28 hroom28 hi028 hsz28
         have KY28 := am hy28
         clear hy28
         have KL28 := am (show (x8_3 : Int).toNat ≤ x5_2.length from Z70)
         replace q28 := eq_true q28
         have q29 : (x8_3 : Int) ≤ ((x5_2.length : Int) : Int) := of_decide_eq_true Z6
         obtain ⟨i029, hi029, _, hsz29, _⟩ := info_parts info3
         have hroom29 : x5_2.length ≤ co26 := (Kd.R_reads' HO_5.out).2.1
         have hC29 : Kd.C (Kd.int .i64) _ (some ad93) x5_2.length x5_2 := (Kd.R_reads' HO_5.out).2.2
         have q029 : (0 : Int) ≤ (x8_3 : Int) := of_decide_eq_true Z6
         have hcut29 := cut_from (P := Try.prog) 24 3 .i64 Try.underlying24 hi029 1 hsz29 (some ad93) x5_2.length co26 x8_3 q029 q29
         have hr29 := Kd.C_drop (m := (x8_3 : Int).toNat) (c := co26) hC29 Z70 hroom29
         obtain ⟨A29, hA29⟩ : ∃ A1, A1 = (if co26 = (x8_3 : Int).toNat then (some ad93) else ((some ad93) : Option Addr).map (·.add ((x8_3 : Int).toNat * 1))) := ⟨_, rfl⟩
         obtain ⟨c29, hc29⟩ : ∃ c1, c1 = co26 - (x8_3 : Int).toNat := ⟨_, rfl⟩
         have hy29 : y98.length = x5_2.length - (x8_3 : Int).toNat := (by rw [Ny98.out, List.length_drop] <;> omega)
         rw [show (x5_2).drop (x8_3 : Int).toNat = y98 from Ny98.out.symm] at hr29
         replace hr29 : Kd.C (Kd.int .i64) _ A29 y98.length y98 := (by rw [hA29]; exact hr29)
         rw [← hy29, ← hA29, ← hc29] at hcut29
         have HR102 := am hr29
         have HC102 := am (show y98.length ≤ c29 from by rw [hy29, hc29]; exact Nat.sub_le_sub_right hroom29 _)
         clear hr29 hC29 hroom29 hi029 hsz29 hc29
         have KY29 := am hy29
         have KA29 := am hA29
         clear hy29 hA29
         have KL29 := am (show (x8_3 : Int).toNat ≤ x5_2.length from Z70)
         replace q29 := eq_true q29
         refine start_ (n := 12) (S := fun w' => True) (ds := []) (bA 12 0) Z112 rfl rfl trivial (fun hHeld => ?_); refine with_tabW Fc.tab11 Fc.bits11 (fun HT_ HW_ => ?_)
         generalize wr.drew = w27 at HO_5 HI0 HK HB HR101 HR102 hHeld ⊢
         refine pS 0 38 (bA 12 1) ?_
         refine pS 1 39 (bA 12 3) ?_
         refine pS 2 40 (bA 12 7) ?_
         refine pS 4 42 (bA 12 23) ?_
         refine pS 7 45 (bA 12 151) ?_
         refine pS 8 46 (bA 12 407) ?_
         refine pS 9 47 (bA 12 919) ?_
         refine join_ (σ := Value × Value) 3 (bA 12 959) (fun s_ => [(41, s_.1), (43, s_.2)]) (fun s_ w' => (Kd.R (Kd.int .i64) 3 w' w.heap.size (fun k_ => some k_ ≠ (s_.2 : Value).ownBlock ∧ some k_ ≠ (.slice (some ad93) x5_2.length co26 : Value).ownBlock) s_.1 t95) ∧ (Kd.R (Kd.int .i64) 3 w' w.heap.size (fun k_ => some k_ ≠ (s_.1 : Value).ownBlock ∧ some k_ ≠ (.slice (some ad93) x5_2.length co26 : Value).ownBlock) s_.2 y96) ∧ (Kd.R (Kd.int .i64) 3 w' w.heap.size (fun k_ => some k_ ≠ (s_.1 : Value).ownBlock ∧ some k_ ≠ (s_.2 : Value).ownBlock) (.slice (some ad93) x5_2.length co26) x5_2) ∧ (IsS47 w0 w' g s0_0 t89 t91) ∧ (KeepBut w w' g none) ∧ (Below w0.heap.size w0 w')) ?_ ?_
         rotate_left
         ·
          intro hCont
          refine two_ (i := 3) (j := 5) (Ni := some 41) (Nj := some 43) (bA 12 927) (bA 12 951) rfl rfl rfl rfl (two_of HT_.out Z112) Z16 Z16 (fun K hK => ?_) (fun K hK => ?_)
          ·
           skip
           refine goes_ Try.func74 Z112 rfl #[.slice (some ad93) y94.length co26] Z63 rfl rfl Z140 ?_
           with_reducible refine (Fga.calls _ _ y94 t95 _ ?side1 ?side2 A21.out).mono ?_
           (case side1 => exact Z137)
           (case side2 => exact HC101.out)
           rintro e w30 ⟨v103, rfl, ho0, hb⟩
           refine ⟨_, rfl, ?_⟩
           have HO104 := am (Kd.R_lower (Kd.R_new' ho0 (Kd.R_lt (uR HO_5))) (keep_size (w := w) (g := g) (row := none) Z2))
           replace HO_5 := am (Kd.R_elder' (uR HO_5) (Kd.R_base ho0) hb)
           replace HR101 := am (Kd.C_below Z52 hb)
           replace HR102 := am (Kd.C_below Z57 hb)
           replace HK := am (KeepBut.trans Z2 (KeepBut.of_below hb g none) (.inl rfl))
           replace HB := am (below_step Z4 hb)
           replace HI0 := am (IsS47.below Z1 hb)
           (try clear hb)
           (try clear hb2)
           (try clear hk)
           (try clear hi)
           (try clear ho0)
           refine hK.out _ _ trivial (fun hHeld => ?_)
           clear hK K
           refine norm_ (a' := ?_) ?_ ?_
           rotate_left
           ·
            show Act.put _ (some 41) _ = _
            simp only [Act.put, setIfInBounds_toArray, set_cons_zero, set_cons_succ, i64_w, i32_w]
            rfl
           refine one_ (i := 5) (N := some 43) (bA 12 959) rfl rfl (one_of HT_.out Z112) Z16 (fun K hK => ?_)
           refine Kd.R_lit_step (Kd.int .i64) _ 3 ?hg (N := 43) ?hd (xs := ([t88] : List Int)) (inner := [.int .i64 t88]) (ok := fun _ => True) (okp := fun _ => True) ?hr ?hp (fun _ hk => hk) trivial (Below.refl _ _) (Nat.le_refl _) Z43 ?_; (case hd => rfl); (case hg => rfl); (case hr => exact Z111); (case hp => exact (Reps.one (show Kd.M (Kd.int .i64) _ _ _ t88 [.int .i64 t88] from rfl) (Reps.none _ _)))
           intro v105 w31 ho32 hb hg_ hnew_
           clear hg_ hnew_
           (first | rw [← Ny96.out] at ho32 | (simp only [Int.reduceToNat] at ho32; rw [← Ny96.out] at ho32))
           have HO106 := am (Kd.R_lower (Kd.R_new' (Kd.R_new' ho32 (Kd.R_lt (uR HO_5))) (Kd.R_lt (uR HO104))) (keep_size (w := w) (g := g) (row := none) Z2))
           replace HO_5 := am (Kd.R_elder' (uR HO_5) (Kd.R_base ho32) hb)
           replace HO104 := am (Kd.R_elder' (uR HO104) (Kd.R_base ho32) hb)
           replace HR101 := am (Kd.C_below Z52 hb)
           replace HR102 := am (Kd.C_below Z57 hb)
           replace HK := am (KeepBut.trans Z2 (KeepBut.of_below hb g none) (.inl rfl))
           replace HB := am (below_step Z4 hb)
           replace HI0 := am (IsS47.below Z1 hb)
           clear hb ho32
           refine hK.out _ _ trivial (fun hHeld => ?_)
           clear hK K
           refine norm_ (a' := ?_) ?_ ?_
           rotate_left
           ·
            show Act.put _ (some 43) _ = _
            simp only [Act.put, setIfInBounds_toArray, set_cons_zero, set_cons_succ, i64_w, i32_w]
            rfl
           exact norm_ Z131 (hCont (v103, v105) _ ⟨Z82, Z81, Z84, Z1, Z2, Z4⟩)
          skip
          refine Kd.R_lit_step (Kd.int .i64) _ 3 ?hg (N := 43) ?hd (xs := ([t88] : List Int)) (inner := [.int .i64 t88]) (ok := fun _ => True) (okp := fun _ => True) ?hr ?hp (fun _ hk => hk) trivial (Below.refl _ _) (Nat.le_refl _) Z43 ?_; (case hd => rfl); (case hg => rfl); (case hr => exact Z111); (case hp => exact (Reps.one (show Kd.M (Kd.int .i64) _ _ _ t88 [.int .i64 t88] from rfl) (Reps.none _ _)))
          intro v105 w30 ho31 hb hg_ hnew_
          clear hg_ hnew_
          (first | rw [← Ny96.out] at ho31 | (simp only [Int.reduceToNat] at ho31; rw [← Ny96.out] at ho31))
          have HO106 := am (Kd.R_lower (Kd.R_new' ho31 (Kd.R_lt (uR HO_5))) (keep_size (w := w) (g := g) (row := none) Z2))
          replace HO_5 := am (Kd.R_elder' (uR HO_5) (Kd.R_base ho31) hb)
          replace HR101 := am (Kd.C_below Z52 hb)
          replace HR102 := am (Kd.C_below Z57 hb)
          replace HK := am (KeepBut.trans Z2 (KeepBut.of_below hb g none) (.inl rfl))
          replace HB := am (below_step Z4 hb)
          replace HI0 := am (IsS47.below Z1 hb)
          clear hb ho31
          refine hK.out _ _ trivial (fun hHeld => ?_)
          clear hK K
          refine norm_ (a' := ?_) ?_ ?_
          rotate_left
          ·
           show Act.put _ (some 43) _ = _
           simp only [Act.put, setIfInBounds_toArray, set_cons_zero, set_cons_succ, i64_w, i32_w]
           rfl
          refine one_ (i := 3) (N := some 41) (bA 12 959) rfl rfl (one_of HT_.out Z112) Z16 (fun K hK => ?_)
          refine goes_ Try.func74 Z112 rfl #[.slice (some ad93) y94.length co26] Z63 rfl rfl Z140 ?_
          with_reducible refine (Fga.calls _ _ y94 t95 _ ?side1 ?side2 A21.out).mono ?_
          (case side1 => exact Z137)
          (case side2 => exact HC101.out)
          rintro e w32 ⟨v103, rfl, ho0, hb⟩
          refine ⟨_, rfl, ?_⟩
          have HO104 := am (Kd.R_lower (Kd.R_new' (Kd.R_new' ho0 (Kd.R_lt (uR HO_5))) (Kd.R_lt (uR HO106))) (keep_size (w := w) (g := g) (row := none) Z2))
          replace HO_5 := am (Kd.R_elder' (uR HO_5) (Kd.R_base ho0) hb)
          replace HO106 := am (Kd.R_elder' (uR HO106) (Kd.R_base ho0) hb)
          replace HR101 := am (Kd.C_below Z52 hb)
          replace HR102 := am (Kd.C_below Z57 hb)
          replace HK := am (KeepBut.trans Z2 (KeepBut.of_below hb g none) (.inl rfl))
          replace HB := am (below_step Z4 hb)
          replace HI0 := am (IsS47.below Z1 hb)
          (try clear hb)
          (try clear hb2)
          (try clear hk)
          (try clear hi)
          (try clear ho0)
          refine hK.out _ _ trivial (fun hHeld => ?_)
          clear hK K
          refine norm_ (a' := ?_) ?_ ?_
          rotate_left
          ·
           show Act.put _ (some 41) _ = _
           simp only [Act.put, setIfInBounds_toArray, set_cons_zero, set_cons_succ, i64_w, i32_w]
           rfl
          exact norm_ Z131 (hCont (v103, v105) _ ⟨Z82, Z81, Z83, Z1, Z2, Z4⟩)
         rintro ⟨v103, v105⟩ w33 ⟨h0_, h1_, h2_, h3_, h4_, h5_⟩
         have n0_ : Aside0 (Kd.R (Kd.int .i64) 3 w33 w.heap.size (fun k_ => some k_ ≠ (v105 : Value).ownBlock ∧ some k_ ≠ (.slice (some ad93) x5_2.length co26 : Value).ownBlock) v103 t95) := ⟨h0_⟩
         have n1_ : Aside0 (Kd.R (Kd.int .i64) 3 w33 w.heap.size (fun k_ => some k_ ≠ (v103 : Value).ownBlock ∧ some k_ ≠ (.slice (some ad93) x5_2.length co26 : Value).ownBlock) v105 y96) := ⟨h1_⟩
         have n2_ : Aside0 (Kd.R (Kd.int .i64) 3 w33 w.heap.size (fun k_ => some k_ ≠ (v103 : Value).ownBlock ∧ some k_ ≠ (v105 : Value).ownBlock) (.slice (some ad93) x5_2.length co26) x5_2) := ⟨h2_⟩
         have n3_ : Aside0 (IsS47 w0 w33 g s0_0 t89 t91) := ⟨h3_⟩
         have n4_ : Aside0 (KeepBut w w33 g none) := ⟨h4_⟩
         have n5_ : Aside0 (Below w0.heap.size w0 w33) := ⟨h5_⟩
         clear HO_5
         clear HI0
         clear HK
         clear HB
         clear h0_ h1_ h2_ h3_ h4_ h5_
         have HO104 := n0_
         have HO106 := n1_
         have HO_5 := n2_
         have HI0 := n3_
         have HK := n4_
         have HB := n5_
         clear n0_ n1_ n2_ n3_ n4_ n5_
         have hHeld := trivial
         (try clear HR101)
         have HR101 := am (show Kd.C (Kd.int .i64) w33 (some ad93) y94.length y94 from by rw [Ny94.out]; exact Kd.C_take (m := (x8_3 : Int).toNat) ((Kd.R_reads' HO_5.out).2.2) KL28.out)
         (try clear HR102)
         have HR102 := am (show Kd.C (Kd.int .i64) w33 A29 y98.length y98 from by rw [Ny98.out, KA29.out]; exact Kd.C_drop (m := (x8_3 : Int).toNat) (c := co26) ((Kd.R_reads' HO_5.out).2.2) KL29.out ((Kd.R_reads' HO_5.out).2.1))
         obtain ⟨Ao35, co35, eo35⟩ := Kd.R_slice HO106.out
         (first | subst eo35 | (injection eo35 with f1_ f2_ f3_; have f4_ := f1_.symm; have f5_ := f3_.symm; clear f1_ f2_ f3_; subst f4_; subst f5_))
         refine norm_ (a' := ?_) ?_ ?_
         rotate_left
         ·
          simp only [putAll, Act.put, setIfInBounds_toArray, set_cons_zero, set_cons_succ]
          rfl
         refine one_ (i := 6) (N := some 44) (bA 12 1023) rfl rfl (one_of HT_.out Z112) Z16 (fun K hK => ?_)
         refine Kd.R_append_rows_step (Kd.int .i64) w.heap.size Z63 (.tmp 41) (.tmp 43) 24 3 (.int .i64 0) 8 rfl Try.underlying24 info3 rfl Z16 Z70 v103 t95 y96 _ _ _ (fun k_ => some k_ ≠ (.slice (some ad93) x5_2.length co26 : Value).ownBlock ∧ some k_ ≠ (.slice Ao35 y96.length co35 : Value).ownBlock) (fun _ => False) rfl rfl ?aO ?aR (fun _ _ h => h) (fun _ h => h.elim) ?aF (Below.refl _ _) ?aS ?aL ?_
         (case aR => exact uD HO106)
         (case aF => exact (fun k_ hk => ⟨Kd.fresh' (Kd.R_lt (uR HO_5)) k_ hk, Kd.fresh' (Kd.R_lt (uR HO106)) k_ hk⟩))
         (case aO => exact (by (with_reducible repeat (first | apply Kd.R_alloc | apply Kd.R_drewN | apply Kd.R_drew)); exact Kd.R_mono HO104.out (fun _ hk => ⟨hk.2, hk.1⟩)))
         (case aS => exact (keep_size (w := w) (g := g) (row := none) Z2))
         (case aL => have := LMc22.out; omega)
         intro v107 w34 ho hb hg hat
         rw [← Ny97.out] at ho
         replace HO106 := am (Kd.R_after (ok := (fun k_ => some k_ ≠ (.slice (some ad93) x5_2.length co26 : Value).ownBlock)) (by (with_reducible repeat (first | apply Kd.R_alloc | apply Kd.R_drewN | apply Kd.R_drew)); exact Kd.R_mono HO106.out (fun _ hk => ⟨hk.2, hk.1⟩)) hg hat)
         replace HB := am (below_weaken Z4 HL.out hb)
         replace HI0 := am (IsS47.grown Z1 hg (IsS47.own_ne HI0.out HO104.out Z16))
         replace HK := am (KeepBut.trans Z2 (KeepBut.of_grown hg g) (Kd.R_base2 HO104.out))
         replace HR101 := am ((show Kd.C (Kd.int .i64) w34 (some ad93) y94.length y94 from by rw [Ny94.out]; exact Kd.C_take (m := (x8_3 : Int).toNat) ((Kd.R_reads' (Kd.R_after (ok := (fun k_ => some k_ ≠ (.slice Ao35 y96.length co35 : Value).ownBlock)) Z53 hg hat)).2.2) KL28.out))
         replace HR102 := am ((show Kd.C (Kd.int .i64) w34 A29 y98.length y98 from by rw [Ny98.out, KA29.out]; exact Kd.C_drop (m := (x8_3 : Int).toNat) (c := co26) ((Kd.R_reads' (Kd.R_after (ok := (fun k_ => some k_ ≠ (.slice Ao35 y96.length co35 : Value).ownBlock)) Z53 hg hat)).2.2) KL29.out ((Kd.R_reads' (Kd.R_after (ok := (fun k_ => some k_ ≠ (.slice Ao35 y96.length co35 : Value).ownBlock)) Z53 hg hat)).2.1)))
         replace HO_5 := am (Kd.R_after (ok := (fun k_ => some k_ ≠ (.slice Ao35 y96.length co35 : Value).ownBlock)) Z53 hg hat)
         have HO108 := am (ho)
         clear HO104
         clear ho hb hg hat
         refine hK.out _ _ trivial (fun hHeld => ?_)
         clear hK K
         refine norm_ (a' := ?_) ?_ ?_
         rotate_left
         ·
          show Act.put _ (some 44) _ = _
          simp only [Act.put, setIfInBounds_toArray, set_cons_zero, set_cons_succ, i64_w, i32_w]
          rfl
         refine one_ (i := 10) (N := some 48) (bA 12 2047) rfl rfl (one_of HT_.out Z112) Z16 (fun K hK => ?_)
         refine Kd.R_append_rows_step (Kd.int .i64) w.heap.size Z63 (.tmp 44) (.tmp 47) 24 3 (.int .i64 0) 8 rfl Try.underlying24 info3 rfl Z16 Z70 v107 y97 y98 _ _ _ (fun k_ => some k_ ≠ (.slice (some ad93) x5_2.length co26 : Value).ownBlock ∧ some k_ ≠ (.slice Ao35 y96.length co35 : Value).ownBlock) (fun _ => False) rfl rfl ?aO ?aR (fun _ _ h => h) (fun _ h => h.elim) ?aF (Below.refl _ _) ?aS ?aL ?_
         (case aR => repeat (first | exact Z57 | (with_reducible refine Kd.C_alloc ?_ _) | (with_reducible refine Kd.C_drewN ?_ _) | (with_reducible refine Kd.C_drew ?_)))
         (case aF => exact (fun k_ hk => ⟨Kd.fresh' (Kd.R_lt (uR HO_5)) k_ hk, Kd.fresh' (Kd.R_lt (uR HO106)) k_ hk⟩))
         (case aO => exact (uR HO108))
         (case aS => exact (keep_size (w := w) (g := g) (row := none) Z2))
         (case aL => have := LMc25.out; omega)
         intro v109 w36 ho hb hg hat
         rw [← Ny100.out] at ho
         replace HO106 := am (Kd.R_after (ok := (fun k_ => some k_ ≠ (.slice (some ad93) x5_2.length co26 : Value).ownBlock)) (uR HO106) hg hat)
         replace HB := am (below_weaken Z4 HL.out hb)
         replace HI0 := am (IsS47.grown Z1 hg (IsS47.own_ne HI0.out HO108.out Z16))
         replace HK := am (KeepBut.trans Z2 (KeepBut.of_grown hg g) (Kd.R_base2 HO108.out))
         replace HR101 := am ((show Kd.C (Kd.int .i64) w36 (some ad93) y94.length y94 from by rw [Ny94.out]; exact Kd.C_take (m := (x8_3 : Int).toNat) ((Kd.R_reads' (Kd.R_after (ok := (fun k_ => some k_ ≠ (.slice Ao35 y96.length co35 : Value).ownBlock)) (uR HO_5) hg hat)).2.2) KL28.out))
         replace HR102 := am ((show Kd.C (Kd.int .i64) w36 A29 y98.length y98 from by rw [Ny98.out, KA29.out]; exact Kd.C_drop (m := (x8_3 : Int).toNat) (c := co26) ((Kd.R_reads' (Kd.R_after (ok := (fun k_ => some k_ ≠ (.slice Ao35 y96.length co35 : Value).ownBlock)) (uR HO_5) hg hat)).2.2) KL29.out ((Kd.R_reads' (Kd.R_after (ok := (fun k_ => some k_ ≠ (.slice Ao35 y96.length co35 : Value).ownBlock)) (uR HO_5) hg hat)).2.1)))
         replace HO_5 := am (Kd.R_after (ok := (fun k_ => some k_ ≠ (.slice Ao35 y96.length co35 : Value).ownBlock)) (uR HO_5) hg hat)
         have HO110 := am (ho)
         clear HO108
         clear ho hb hg hat
         refine hK.out _ _ trivial (fun hHeld => ?_)
         clear hK K
         refine norm_ (a' := ?_) ?_ ?_
         rotate_left
         ·
          show Act.put _ (some 48) _ = _
          simp only [Act.put, setIfInBounds_toArray, set_cons_zero, set_cons_succ, i64_w, i32_w]
          rfl
         refine pS 11 5 (bA 12 4095) ?_
         refine done_ (done_of HT_.out Z112) ?_
         try go_wp2
         go_roundg k3
         case measure => have := HJ4.out; have := HK2.out; have := HK3.out; omega
         case rel => exact ⟨(y100), (wrap64 (x6_2 - 1)), (t89), (t91), Z110, H', ⟨by have := HJ4.out; have := HK2.out; have := HK3.out; omega⟩, ⟨by (with_reducible repeat (first | apply Kd.R_alloc | apply Kd.R_drewN | apply Kd.R_drew)); exact Kd.R_mono HO110.out (fun _ hk => trivial)⟩, ⟨Z1⟩, ⟨Z2⟩, ⟨Z4⟩⟩
        rw [if_neg c15] at H
        have c15b0 := decide_eq_false c15
        clear c15
        by_cases c37 : 0 ≤ x8_3
        rotate_left
        ·
         rw [if_neg c37] at H
         exact absurd H Z43
        rw [if_pos c37] at H
        have c37b0 := eq_true c37
        have c37b1 := decide_eq_true c37
        clear c37
        by_cases c38 : x8_3 ≤ (x5_2.length : Int)
        rotate_left
        ·
         rw [if_neg c38] at H
         exact absurd H Z43
        rw [if_pos c38] at H
        have c38b0 := eq_true c38
        have c38b1 := decide_eq_true c38
        have CK38b1_ : Aside0 (x8_3 ≤ (x5_2.length : Int)) := am (of_decide_eq_true c38b1)
        clear c38
        obtain ⟨y111, hy111⟩ : ∃ y_ : List Int, y_ = (x5_2.take (x8_3 : Int).toNat) := ⟨_, rfl⟩
        replace H : ((Fga.f y111).bind fun t112 => ((some (([t88] : List Int) : List Int)).bind fun y113 => (if t112.length + y113.length < 17592186044416 then ((some (t112 ++ y113 : List Int)).bind fun y114 => ((some (x5_2.drop (x8_3 : Int).toNat : List Int)).bind fun y115 => (if y114.length + y115.length < 17592186044416 then (Fc.l0 k3 a1 (y114 ++ y115) (wrap64 (x6_2 - 1)) s0_0 t89 t91) else (none)))) else (none)))) = some (r1, r2, r3) := by first | (rw [hy111]; with_reducible exact H) | (have H2_ := (Option.bind_some _ _).symm.trans H; rw [hy111]; with_reducible exact H2_) | (have H2_ := (Option.bind_some _ _).symm.trans H; with_reducible exact H2_) | with_reducible exact H | (rw [hy111]; exact H) | exact H
        have Ny111 := am hy111
        clear hy111
        replace H := Option.bind_eq_some_iff.mp H
        obtain ⟨t112, A116, H⟩ := H
        try dsimp only at H
        have A39 := am A116
        clear A116
        obtain ⟨y113, hy113⟩ : ∃ y_ : List Int, y_ = (([t88] : List Int)) := ⟨_, rfl⟩
        replace H : (if t112.length + y113.length < 17592186044416 then ((some (t112 ++ y113 : List Int)).bind fun y114 => ((some (x5_2.drop (x8_3 : Int).toNat : List Int)).bind fun y115 => (if y114.length + y115.length < 17592186044416 then (Fc.l0 k3 a1 (y114 ++ y115) (wrap64 (x6_2 - 1)) s0_0 t89 t91) else (none)))) else (none)) = some (r1, r2, r3) := by first | (rw [hy113]; with_reducible exact H) | (have H2_ := (Option.bind_some _ _).symm.trans H; rw [hy113]; with_reducible exact H2_) | (have H2_ := (Option.bind_some _ _).symm.trans H; with_reducible exact H2_) | with_reducible exact H | (rw [hy113]; exact H) | exact H
        have Ny113 := am hy113
        clear hy113
        by_cases c40 : t112.length + y113.length < 17592186044416
        rotate_left
        ·
         rw [if_neg c40] at H
         exact absurd H Z43
        rw [if_pos c40] at H
        have LMc40 := am c40
        clear c40
        obtain ⟨y114, hy114⟩ : ∃ y_ : List Int, y_ = (t112 ++ y113) := ⟨_, rfl⟩
        replace H : ((some (x5_2.drop (x8_3 : Int).toNat : List Int)).bind fun y115 => (if y114.length + y115.length < 17592186044416 then (Fc.l0 k3 a1 (y114 ++ y115) (wrap64 (x6_2 - 1)) s0_0 t89 t91) else (none))) = some (r1, r2, r3) := by first | (rw [hy114]; with_reducible exact H) | (have H2_ := (Option.bind_some _ _).symm.trans H; rw [hy114]; with_reducible exact H2_) | (have H2_ := (Option.bind_some _ _).symm.trans H; with_reducible exact H2_) | with_reducible exact H | (rw [hy114]; exact H) | exact H
        have Ny114 := am hy114
        clear hy114
        have c41b0 := eq_true (of_decide_eq_true Z6 : 0 ≤ x8_3)
        have c42b0 := eq_true (of_decide_eq_true Z6 : x8_3 ≤ (x5_2.length : Int))
        obtain ⟨y115, hy115⟩ : ∃ y_ : List Int, y_ = (x5_2.drop (x8_3 : Int).toNat) := ⟨_, rfl⟩
        replace H : (if y114.length + y115.length < 17592186044416 then (Fc.l0 k3 a1 (y114 ++ y115) (wrap64 (x6_2 - 1)) s0_0 t89 t91) else (none)) = some (r1, r2, r3) := by first | (rw [hy115]; with_reducible exact H) | (have H2_ := (Option.bind_some _ _).symm.trans H; rw [hy115]; with_reducible exact H2_) | (have H2_ := (Option.bind_some _ _).symm.trans H; with_reducible exact H2_) | with_reducible exact H | (rw [hy115]; exact H) | exact H
        have Ny115 := am hy115
        clear hy115
        by_cases c43 : y114.length + y115.length < 17592186044416
        rotate_left
        ·
         rw [if_neg c43] at H
         exact absurd H Z43
        rw [if_pos c43] at H
        have LMc43 := am c43
        clear c43
        obtain ⟨y117, hy117⟩ : ∃ y_ : List Int, y_ = (y114 ++ y115) := ⟨_, rfl⟩
        replace H : (Fc.l0 k3 a1 y117 (wrap64 (x6_2 - 1)) s0_0 t89 t91) = some (r1, r2, r3) := by first | (rw [hy117]; with_reducible exact H) | (have H2_ := (Option.bind_some _ _).symm.trans H; rw [hy117]; with_reducible exact H2_) | (have H2_ := (Option.bind_some _ _).symm.trans H; with_reducible exact H2_) | with_reducible exact H | (rw [hy117]; exact H) | exact H
        have Ny117 := am hy117
        clear hy117
        have H' := am H
        clear H
        obtain ⟨Ao44, co44, eo44⟩ := Kd.R_slice HO_5.out
        subst eo44
        try go_wp2
        replace HO_5 := am (Kd.R_drew HO_5.out)
        replace HI0 := am (IsS47.drew HI0.out)
        replace HK := am (keep_drew HK.out)
        replace HB := am (below_drew1 HB.out)
        have q46 : (x8_3 : Int) ≤ ((x5_2.length : Int) : Int) := of_decide_eq_true Z6
        obtain ⟨i046, hi046, _, hsz46, _⟩ := info_parts info3
        have hroom46 : x5_2.length ≤ co44 := (Kd.R_reads' HO_5.out).2.1
        have hC46 : Kd.C (Kd.int .i64) _ Ao44 x5_2.length x5_2 := (Kd.R_reads' HO_5.out).2.2
        have hcut46 := cut_to (P := Try.prog) 24 3 .i64 Try.underlying24 hi046 Ao44 x5_2.length co44 x8_3 (of_decide_eq_true Z6) q46 hroom46
        have hr46 := Kd.C_take (m := (x8_3 : Int).toNat) hC46 Z70
        have hy46 : y111.length = (x8_3 : Int).toNat := (by rw [Ny111.out, List.length_take]; omega)
        rw [← Ny111.out] at hr46
        rw [← hy46] at hcut46
        have HR118 := am hr46
        have HC118 := am (show y111.length ≤ co44 from Z70)
        clear hr46 hC46 hroom46 hi046 hsz46
        have KY46 := am hy46
        clear hy46
        have KL46 := am (show (x8_3 : Int).toNat ≤ x5_2.length from Z70)
        replace q46 := eq_true q46
        have q47 : (x8_3 : Int) ≤ ((x5_2.length : Int) : Int) := of_decide_eq_true Z6
        obtain ⟨i047, hi047, _, hsz47, _⟩ := info_parts info3
        have hroom47 : x5_2.length ≤ co44 := (Kd.R_reads' HO_5.out).2.1
        have hC47 : Kd.C (Kd.int .i64) _ Ao44 x5_2.length x5_2 := (Kd.R_reads' HO_5.out).2.2
        have q047 : (0 : Int) ≤ (x8_3 : Int) := of_decide_eq_true Z6
        have hcut47 := cut_from (P := Try.prog) 24 3 .i64 Try.underlying24 hi047 1 hsz47 Ao44 x5_2.length co44 x8_3 q047 q47
        have hr47 := Kd.C_drop (m := (x8_3 : Int).toNat) (c := co44) hC47 Z70 hroom47
        obtain ⟨A47, hA47⟩ : ∃ A1, A1 = (if co44 = (x8_3 : Int).toNat then Ao44 else (Ao44 : Option Addr).map (·.add ((x8_3 : Int).toNat * 1))) := ⟨_, rfl⟩
        obtain ⟨c47, hc47⟩ : ∃ c1, c1 = co44 - (x8_3 : Int).toNat := ⟨_, rfl⟩
        have hy47 : y115.length = x5_2.length - (x8_3 : Int).toNat := (by rw [Ny115.out, List.length_drop] <;> omega)
        rw [show (x5_2).drop (x8_3 : Int).toNat = y115 from Ny115.out.symm] at hr47
        replace hr47 : Kd.C (Kd.int .i64) _ A47 y115.length y115 := (by rw [hA47]; exact hr47)
        rw [← hy47, ← hA47, ← hc47] at hcut47
        have HR119 := am hr47
        have HC119 := am (show y115.length ≤ c47 from by rw [hy47, hc47]; exact Nat.sub_le_sub_right hroom47 _)
        clear hr47 hC47 hroom47 hi047 hsz47 hc47
        have KY47 := am hy47
        have KA47 := am hA47
        clear hy47 hA47
        have KL47 := am (show (x8_3 : Int).toNat ≤ x5_2.length from Z70)
        replace q47 := eq_true q47
        refine start_ (n := 12) (S := fun w' => True) (ds := []) (bA 12 0) Z112 rfl rfl trivial (fun hHeld => ?_); refine with_tabW Fc.tab11 Fc.bits11 (fun HT_ HW_ => ?_)
        generalize wr.drew = w45 at HO_5 HI0 HK HB HR118 HR119 hHeld ⊢
        refine pS 0 38 (bA 12 1) ?_
        refine pS 1 39 (bA 12 3) ?_
        refine pS 2 40 (bA 12 7) ?_
        refine pS 4 42 (bA 12 23) ?_
        refine pS 7 45 (bA 12 151) ?_
        refine pS 8 46 (bA 12 407) ?_
        refine pS 9 47 (bA 12 919) ?_
        refine join_ (σ := Value × Value) 3 (bA 12 959) (fun s_ => [(41, s_.1), (43, s_.2)]) (fun s_ w' => (Kd.R (Kd.int .i64) 3 w' w.heap.size (fun k_ => some k_ ≠ (s_.2 : Value).ownBlock ∧ some k_ ≠ (.slice Ao44 x5_2.length co44 : Value).ownBlock) s_.1 t112) ∧ (Kd.R (Kd.int .i64) 3 w' w.heap.size (fun k_ => some k_ ≠ (s_.1 : Value).ownBlock ∧ some k_ ≠ (.slice Ao44 x5_2.length co44 : Value).ownBlock) s_.2 y113) ∧ (Kd.R (Kd.int .i64) 3 w' w.heap.size (fun k_ => some k_ ≠ (s_.1 : Value).ownBlock ∧ some k_ ≠ (s_.2 : Value).ownBlock) (.slice Ao44 x5_2.length co44) x5_2) ∧ (IsS47 w0 w' g s0_0 t89 t91) ∧ (KeepBut w w' g none) ∧ (Below w0.heap.size w0 w')) ?_ ?_
        rotate_left
        ·
         intro hCont
         refine two_ (i := 3) (j := 5) (Ni := some 41) (Nj := some 43) (bA 12 927) (bA 12 951) rfl rfl rfl rfl (two_of HT_.out Z112) Z16 Z16 (fun K hK => ?_) (fun K hK => ?_)
         ·
          skip
          refine goes_ Try.func74 Z112 rfl #[.slice Ao44 y111.length co44] Z63 rfl rfl Z140 ?_
          with_reducible refine (Fga.calls _ _ y111 t112 _ ?side1 ?side2 A39.out).mono ?_
          (case side1 => exact Z138)
          (case side2 => exact HC118.out)
          rintro e w48 ⟨v121, rfl, ho0, hb⟩
          refine ⟨_, rfl, ?_⟩
          have HO122 := am (Kd.R_lower (Kd.R_new' ho0 (Kd.R_lt (uR HO_5))) (keep_size (w := w) (g := g) (row := none) Z2))
          replace HO_5 := am (Kd.R_elder' (uR HO_5) (Kd.R_base ho0) hb)
          replace HR118 := am (Kd.C_below Z51 hb)
          replace HR119 := am (Kd.C_below Z56 hb)
          replace HK := am (KeepBut.trans Z2 (KeepBut.of_below hb g none) (.inl rfl))
          replace HB := am (below_step Z4 hb)
          replace HI0 := am (IsS47.below Z1 hb)
          (try clear hb)
          (try clear hb2)
          (try clear hk)
          (try clear hi)
          (try clear ho0)
          refine hK.out _ _ trivial (fun hHeld => ?_)
          clear hK K
          refine norm_ (a' := ?_) ?_ ?_
          rotate_left
          ·
           show Act.put _ (some 41) _ = _
           simp only [Act.put, setIfInBounds_toArray, set_cons_zero, set_cons_succ, i64_w, i32_w]
           rfl
          refine one_ (i := 5) (N := some 43) (bA 12 959) rfl rfl (one_of HT_.out Z112) Z16 (fun K hK => ?_)
          refine Kd.R_lit_step (Kd.int .i64) _ 3 ?hg (N := 43) ?hd (xs := ([t88] : List Int)) (inner := [.int .i64 t88]) (ok := fun _ => True) (okp := fun _ => True) ?hr ?hp (fun _ hk => hk) trivial (Below.refl _ _) (Nat.le_refl _) Z43 ?_; (case hd => rfl); (case hg => rfl); (case hr => exact Z111); (case hp => exact (Reps.one (show Kd.M (Kd.int .i64) _ _ _ t88 [.int .i64 t88] from rfl) (Reps.none _ _)))
          intro v123 w49 ho50 hb hg_ hnew_
          clear hg_ hnew_
          (first | rw [← Ny113.out] at ho50 | (simp only [Int.reduceToNat] at ho50; rw [← Ny113.out] at ho50))
          have HO124 := am (Kd.R_lower (Kd.R_new' (Kd.R_new' ho50 (Kd.R_lt (uR HO_5))) (Kd.R_lt (uR HO122))) (keep_size (w := w) (g := g) (row := none) Z2))
          replace HO_5 := am (Kd.R_elder' (uR HO_5) (Kd.R_base ho50) hb)
          replace HO122 := am (Kd.R_elder' (uR HO122) (Kd.R_base ho50) hb)
          replace HR118 := am (Kd.C_below Z51 hb)
          replace HR119 := am (Kd.C_below Z56 hb)
          replace HK := am (KeepBut.trans Z2 (KeepBut.of_below hb g none) (.inl rfl))
          replace HB := am (below_step Z4 hb)
          replace HI0 := am (IsS47.below Z1 hb)
          clear hb ho50
          refine hK.out _ _ trivial (fun hHeld => ?_)
          clear hK K
          refine norm_ (a' := ?_) ?_ ?_
          rotate_left
          ·
           show Act.put _ (some 43) _ = _
           simp only [Act.put, setIfInBounds_toArray, set_cons_zero, set_cons_succ, i64_w, i32_w]
           rfl
          exact norm_ Z131 (hCont (v121, v123) _ ⟨Z80, Z79, Z84, Z1, Z2, Z4⟩)
         skip
         refine Kd.R_lit_step (Kd.int .i64) _ 3 ?hg (N := 43) ?hd (xs := ([t88] : List Int)) (inner := [.int .i64 t88]) (ok := fun _ => True) (okp := fun _ => True) ?hr ?hp (fun _ hk => hk) trivial (Below.refl _ _) (Nat.le_refl _) Z43 ?_; (case hd => rfl); (case hg => rfl); (case hr => exact Z111); (case hp => exact (Reps.one (show Kd.M (Kd.int .i64) _ _ _ t88 [.int .i64 t88] from rfl) (Reps.none _ _)))
         intro v123 w48 ho49 hb hg_ hnew_
         clear hg_ hnew_
         (first | rw [← Ny113.out] at ho49 | (simp only [Int.reduceToNat] at ho49; rw [← Ny113.out] at ho49))
         have HO124 := am (Kd.R_lower (Kd.R_new' ho49 (Kd.R_lt (uR HO_5))) (keep_size (w := w) (g := g) (row := none) Z2))
         replace HO_5 := am (Kd.R_elder' (uR HO_5) (Kd.R_base ho49) hb)
         replace HR118 := am (Kd.C_below Z51 hb)
         replace HR119 := am (Kd.C_below Z56 hb)
         replace HK := am (KeepBut.trans Z2 (KeepBut.of_below hb g none) (.inl rfl))
         replace HB := am (below_step Z4 hb)
         replace HI0 := am (IsS47.below Z1 hb)
         clear hb ho49
         refine hK.out _ _ trivial (fun hHeld => ?_)
         clear hK K
         refine norm_ (a' := ?_) ?_ ?_
         rotate_left
         ·
          show Act.put _ (some 43) _ = _
          simp only [Act.put, setIfInBounds_toArray, set_cons_zero, set_cons_succ, i64_w, i32_w]
          rfl
         refine one_ (i := 3) (N := some 41) (bA 12 959) rfl rfl (one_of HT_.out Z112) Z16 (fun K hK => ?_)
         refine goes_ Try.func74 Z112 rfl #[.slice Ao44 y111.length co44] Z63 rfl rfl Z140 ?_
         with_reducible refine (Fga.calls _ _ y111 t112 _ ?side1 ?side2 A39.out).mono ?_
         (case side1 => exact Z138)
         (case side2 => exact HC118.out)
         rintro e w50 ⟨v121, rfl, ho0, hb⟩
         refine ⟨_, rfl, ?_⟩
         have HO122 := am (Kd.R_lower (Kd.R_new' (Kd.R_new' ho0 (Kd.R_lt (uR HO_5))) (Kd.R_lt (uR HO124))) (keep_size (w := w) (g := g) (row := none) Z2))
         replace HO_5 := am (Kd.R_elder' (uR HO_5) (Kd.R_base ho0) hb)
         replace HO124 := am (Kd.R_elder' (uR HO124) (Kd.R_base ho0) hb)
         replace HR118 := am (Kd.C_below Z51 hb)
         replace HR119 := am (Kd.C_below Z56 hb)
         replace HK := am (KeepBut.trans Z2 (KeepBut.of_below hb g none) (.inl rfl))
         replace HB := am (below_step Z4 hb)
         replace HI0 := am (IsS47.below Z1 hb)
         (try clear hb)
         (try clear hb2)
         (try clear hk)
         (try clear hi)
         (try clear ho0)
         refine hK.out _ _ trivial (fun hHeld => ?_)
         clear hK K
         refine norm_ (a' := ?_) ?_ ?_
         rotate_left
         ·
          show Act.put _ (some 41) _ = _
          simp only [Act.put, setIfInBounds_toArray, set_cons_zero, set_cons_succ, i64_w, i32_w]
          rfl
         exact norm_ Z131 (hCont (v121, v123) _ ⟨Z80, Z79, Z83, Z1, Z2, Z4⟩)
        rintro ⟨v121, v123⟩ w51 ⟨h0_, h1_, h2_, h3_, h4_, h5_⟩
        have n0_ : Aside0 (Kd.R (Kd.int .i64) 3 w51 w.heap.size (fun k_ => some k_ ≠ (v123 : Value).ownBlock ∧ some k_ ≠ (.slice Ao44 x5_2.length co44 : Value).ownBlock) v121 t112) := ⟨h0_⟩
        have n1_ : Aside0 (Kd.R (Kd.int .i64) 3 w51 w.heap.size (fun k_ => some k_ ≠ (v121 : Value).ownBlock ∧ some k_ ≠ (.slice Ao44 x5_2.length co44 : Value).ownBlock) v123 y113) := ⟨h1_⟩
        have n2_ : Aside0 (Kd.R (Kd.int .i64) 3 w51 w.heap.size (fun k_ => some k_ ≠ (v121 : Value).ownBlock ∧ some k_ ≠ (v123 : Value).ownBlock) (.slice Ao44 x5_2.length co44) x5_2) := ⟨h2_⟩
        have n3_ : Aside0 (IsS47 w0 w51 g s0_0 t89 t91) := ⟨h3_⟩
        have n4_ : Aside0 (KeepBut w w51 g none) := ⟨h4_⟩
        have n5_ : Aside0 (Below w0.heap.size w0 w51) := ⟨h5_⟩
        clear HO_5
        clear HI0
        clear HK
        clear HB
        clear h0_ h1_ h2_ h3_ h4_ h5_
        have HO122 := n0_
        have HO124 := n1_
        have HO_5 := n2_
        have HI0 := n3_
        have HK := n4_
        have HB := n5_
        clear n0_ n1_ n2_ n3_ n4_ n5_
        have hHeld := trivial
        (try clear HR118)
        have HR118 := am (show Kd.C (Kd.int .i64) w51 Ao44 y111.length y111 from by rw [Ny111.out]; exact Kd.C_take (m := (x8_3 : Int).toNat) ((Kd.R_reads' HO_5.out).2.2) KL46.out)
        (try clear HR119)
        have HR119 := am (show Kd.C (Kd.int .i64) w51 A47 y115.length y115 from by rw [Ny115.out, KA47.out]; exact Kd.C_drop (m := (x8_3 : Int).toNat) (c := co44) ((Kd.R_reads' HO_5.out).2.2) KL47.out ((Kd.R_reads' HO_5.out).2.1))
        obtain ⟨Ao53, co53, eo53⟩ := Kd.R_slice HO124.out
        (first | subst eo53 | (injection eo53 with f1_ f2_ f3_; have f4_ := f1_.symm; have f5_ := f3_.symm; clear f1_ f2_ f3_; subst f4_; subst f5_))
        refine norm_ (a' := ?_) ?_ ?_
        rotate_left
        ·
         simp only [putAll, Act.put, setIfInBounds_toArray, set_cons_zero, set_cons_succ]
         rfl
        refine one_ (i := 6) (N := some 44) (bA 12 1023) rfl rfl (one_of HT_.out Z112) Z16 (fun K hK => ?_)
        refine Kd.R_append_rows_step (Kd.int .i64) w.heap.size Z63 (.tmp 41) (.tmp 43) 24 3 (.int .i64 0) 8 rfl Try.underlying24 info3 rfl Z16 Z70 v121 t112 y113 _ _ _ (fun k_ => some k_ ≠ (.slice Ao44 x5_2.length co44 : Value).ownBlock ∧ some k_ ≠ (.slice Ao53 y113.length co53 : Value).ownBlock) (fun _ => False) rfl rfl ?aO ?aR (fun _ _ h => h) (fun _ h => h.elim) ?aF (Below.refl _ _) ?aS ?aL ?_
        (case aR => exact uD HO124)
        (case aF => exact (fun k_ hk => ⟨Kd.fresh' (Kd.R_lt (uR HO_5)) k_ hk, Kd.fresh' (Kd.R_lt (uR HO124)) k_ hk⟩))
        (case aO => exact (by (with_reducible repeat (first | apply Kd.R_alloc | apply Kd.R_drewN | apply Kd.R_drew)); exact Kd.R_mono HO122.out (fun _ hk => ⟨hk.2, hk.1⟩)))
        (case aS => exact (keep_size (w := w) (g := g) (row := none) Z2))
        (case aL => have := LMc40.out; omega)
        intro v125 w52 ho hb hg hat
        rw [← Ny114.out] at ho
        replace HO124 := am (Kd.R_after (ok := (fun k_ => some k_ ≠ (.slice Ao44 x5_2.length co44 : Value).ownBlock)) (by (with_reducible repeat (first | apply Kd.R_alloc | apply Kd.R_drewN | apply Kd.R_drew)); exact Kd.R_mono HO124.out (fun _ hk => ⟨hk.2, hk.1⟩)) hg hat)
        replace HB := am (below_weaken Z4 HL.out hb)
        replace HI0 := am (IsS47.grown Z1 hg (IsS47.own_ne HI0.out HO122.out Z16))
        replace HK := am (KeepBut.trans Z2 (KeepBut.of_grown hg g) (Kd.R_base2 HO122.out))
        replace HR118 := am ((show Kd.C (Kd.int .i64) w52 Ao44 y111.length y111 from by rw [Ny111.out]; exact Kd.C_take (m := (x8_3 : Int).toNat) ((Kd.R_reads' (Kd.R_after (ok := (fun k_ => some k_ ≠ (.slice Ao53 y113.length co53 : Value).ownBlock)) Z53 hg hat)).2.2) KL46.out))
        replace HR119 := am ((show Kd.C (Kd.int .i64) w52 A47 y115.length y115 from by rw [Ny115.out, KA47.out]; exact Kd.C_drop (m := (x8_3 : Int).toNat) (c := co44) ((Kd.R_reads' (Kd.R_after (ok := (fun k_ => some k_ ≠ (.slice Ao53 y113.length co53 : Value).ownBlock)) Z53 hg hat)).2.2) KL47.out ((Kd.R_reads' (Kd.R_after (ok := (fun k_ => some k_ ≠ (.slice Ao53 y113.length co53 : Value).ownBlock)) Z53 hg hat)).2.1)))
        replace HO_5 := am (Kd.R_after (ok := (fun k_ => some k_ ≠ (.slice Ao53 y113.length co53 : Value).ownBlock)) Z53 hg hat)
        have HO126 := am (ho)
        clear HO122
        clear ho hb hg hat
        refine hK.out _ _ trivial (fun hHeld => ?_)
        clear hK K
        refine norm_ (a' := ?_) ?_ ?_
        rotate_left
        ·
         show Act.put _ (some 44) _ = _
         simp only [Act.put, setIfInBounds_toArray, set_cons_zero, set_cons_succ, i64_w, i32_w]
         rfl
        refine one_ (i := 10) (N := some 48) (bA 12 2047) rfl rfl (one_of HT_.out Z112) Z16 (fun K hK => ?_)
        refine Kd.R_append_rows_step (Kd.int .i64) w.heap.size Z63 (.tmp 44) (.tmp 47) 24 3 (.int .i64 0) 8 rfl Try.underlying24 info3 rfl Z16 Z70 v125 y114 y115 _ _ _ (fun k_ => some k_ ≠ (.slice Ao44 x5_2.length co44 : Value).ownBlock ∧ some k_ ≠ (.slice Ao53 y113.length co53 : Value).ownBlock) (fun _ => False) rfl rfl ?aO ?aR (fun _ _ h => h) (fun _ h => h.elim) ?aF (Below.refl _ _) ?aS ?aL ?_
        (case aR => repeat (first | exact Z56 | (with_reducible refine Kd.C_alloc ?_ _) | (with_reducible refine Kd.C_drewN ?_ _) | (with_reducible refine Kd.C_drew ?_)))
        (case aF => exact (fun k_ hk => ⟨Kd.fresh' (Kd.R_lt (uR HO_5)) k_ hk, Kd.fresh' (Kd.R_lt (uR HO124)) k_ hk⟩))
        (case aO => exact (uR HO126))
        (case aS => exact (keep_size (w := w) (g := g) (row := none) Z2))
        (case aL => have := LMc43.out; omega)
        intro v127 w54 ho hb hg hat
        rw [← Ny117.out] at ho
        replace HO124 := am (Kd.R_after (ok := (fun k_ => some k_ ≠ (.slice Ao44 x5_2.length co44 : Value).ownBlock)) (uR HO124) hg hat)
        replace HB := am (below_weaken Z4 HL.out hb)
        replace HI0 := am (IsS47.grown Z1 hg (IsS47.own_ne HI0.out HO126.out Z16))
        replace HK := am (KeepBut.trans Z2 (KeepBut.of_grown hg g) (Kd.R_base2 HO126.out))
        replace HR118 := am ((show Kd.C (Kd.int .i64) w54 Ao44 y111.length y111 from by rw [Ny111.out]; exact Kd.C_take (m := (x8_3 : Int).toNat) ((Kd.R_reads' (Kd.R_after (ok := (fun k_ => some k_ ≠ (.slice Ao53 y113.length co53 : Value).ownBlock)) (uR HO_5) hg hat)).2.2) KL46.out))
        replace HR119 := am ((show Kd.C (Kd.int .i64) w54 A47 y115.length y115 from by rw [Ny115.out, KA47.out]; exact Kd.C_drop (m := (x8_3 : Int).toNat) (c := co44) ((Kd.R_reads' (Kd.R_after (ok := (fun k_ => some k_ ≠ (.slice Ao53 y113.length co53 : Value).ownBlock)) (uR HO_5) hg hat)).2.2) KL47.out ((Kd.R_reads' (Kd.R_after (ok := (fun k_ => some k_ ≠ (.slice Ao53 y113.length co53 : Value).ownBlock)) (uR HO_5) hg hat)).2.1)))
        replace HO_5 := am (Kd.R_after (ok := (fun k_ => some k_ ≠ (.slice Ao53 y113.length co53 : Value).ownBlock)) (uR HO_5) hg hat)
        have HO128 := am (ho)
        clear HO126
        clear ho hb hg hat
        refine hK.out _ _ trivial (fun hHeld => ?_)
        clear hK K
        refine norm_ (a' := ?_) ?_ ?_
        rotate_left
        ·
         show Act.put _ (some 48) _ = _
         simp only [Act.put, setIfInBounds_toArray, set_cons_zero, set_cons_succ, i64_w, i32_w]
         rfl
        refine pS 11 5 (bA 12 4095) ?_
        refine done_ (done_of HT_.out Z112) ?_
        try go_wp2
        go_roundg k3
        case measure => have := HJ4.out; have := HK2.out; have := HK3.out; omega
        case rel => exact ⟨(y117), (wrap64 (x6_2 - 1)), (t89), (t91), Z110, H', ⟨by have := HJ4.out; have := HK2.out; have := HK3.out; omega⟩, ⟨by (with_reducible repeat (first | apply Kd.R_alloc | apply Kd.R_drewN | apply Kd.R_drew)); exact Kd.R_mono HO128.out (fun _ hk => trivial)⟩, ⟨Z1⟩, ⟨Z2⟩, ⟨Z4⟩⟩
     rw [if_neg c11] at H
     have c11b0 := decide_eq_false c11
     clear c11
     have HC55 := am H
     clear H
     go_upto_region 12 with (fail)
     go_cut [55] (fun v55 wc => ∃ (kq : Nat) (x55_54 : Bool) (x82_54 : Int) (x83_54 : Int), v55 = .bool x55_54 ∧ Aside0 (Fc.j3 kq a1 x5_2 x55_54 s0_0 x82_54 x83_54 = some (r1, r2, r3)) ∧ Aside0 (kq ≤ k2) ∧ Aside0 (Kd.R (Kd.int .i64) 3 wc w.heap.size (fun _ => True) u5 x5_2) ∧ Aside0 (IsS47 w0 wc g s0_0 x82_54 x83_54) ∧ Aside0 (KeepBut w wc g none) ∧ Aside0 (Below w0.heap.size w0 wc))
     case first =>
      have H := HC55.out
      clear HC55
      replace H := Option.bind_eq_some_iff.mp H
      obtain ⟨⟨t129, t131, t132⟩, A133, H⟩ := H
      try dsimp only at H
      have A56 := am A133
      clear A133
      by_cases c57 : t129 = true
      ·
       subst c57
       rw [if_pos rfl] at H
       have H' := am H
       clear H
       go_wp2_with (first | ((with_reducible refine gate_callee (f := 73) rfl ?_); refine goesL_ (some 50) rfl rfl Try.func73 Z112 rfl #[.pointer (some ⟨g, 0, none⟩), .int .i64 12] rfl Z140 ?_; (with_reducible refine (Ffa.calls g s0_0 x82_2 x83_2 12 true t131 t132 w0 _ ?side1 ?side2 A56.out).mono ?_); (case side1 => exact Z1); (case side2 => exact Z4); rintro e w58 ⟨rfl, hi, hb, hk⟩; refine ⟨_, rfl, ?_⟩; replace HO_5 := am (Kd.R_mono (Kd.R_keep (IsS47.apart (show IsS47 w0 _ g s0_0 x82_2 x83_2 from Z1) (uR HO_5) Z16) hk (fun _ h => h.2)) (fun _ h => h.1)); replace HK := am (KeepBut.trans Z2 hk (.inl rfl)); replace HB := am (hb); replace HI0 := am (hi); (try clear hb); (try clear hb2); (try clear hk); (try clear hi); obtain ⟨Ao59, co59, eo59⟩ := Kd.R_slice HO_5.out; subst eo59))
       go_meet
       case rel => exact ⟨_, (decide ((x5_2.length : Int) > 0)), (t131), (t132), Z110, H', ⟨by have := HJ4.out; have := HK2.out; first | omega | exact Nat.le_refl _⟩, ⟨Z66⟩, ⟨Z1⟩, ⟨Z2⟩, ⟨Z4⟩⟩
      replace c57 := Bool.eq_false_iff.mpr c57
      subst c57
      rw [if_neg (show ¬ (false = true) from Z16)] at H
      have H' := am H
      clear H
      go_wp2_with (first | ((with_reducible refine gate_callee (f := 73) rfl ?_); refine goesL_ (some 50) rfl rfl Try.func73 Z112 rfl #[.pointer (some ⟨g, 0, none⟩), .int .i64 12] rfl Z140 ?_; (with_reducible refine (Ffa.calls g s0_0 x82_2 x83_2 12 false t131 t132 w0 _ ?side1 ?side2 A56.out).mono ?_); (case side1 => exact Z1); (case side2 => exact Z4); rintro e w60 ⟨rfl, hi, hb, hk⟩; refine ⟨_, rfl, ?_⟩; replace HO_5 := am (Kd.R_mono (Kd.R_keep (IsS47.apart (show IsS47 w0 _ g s0_0 x82_2 x83_2 from Z1) (uR HO_5) Z16) hk (fun _ h => h.2)) (fun _ h => h.1)); replace HK := am (KeepBut.trans Z2 hk (.inl rfl)); replace HB := am (hb); replace HI0 := am (hi); (try clear hb); (try clear hb2); (try clear hk); (try clear hi)))
      go_meet
      case rel => exact ⟨_, (false), (t131), (t132), Z110, H', ⟨by have := HJ4.out; have := HK2.out; first | omega | exact Nat.le_refl _⟩, ⟨Z66⟩, ⟨Z1⟩, ⟨Z2⟩, ⟨Z4⟩⟩
     case rest =>
      clear HC55
      try clear c1
      try clear c2
      try clear p2
      try clear c3
      try clear c4
      try clear q4
      try clear c5
      try clear p6
      try clear c7
      try clear c11
      try clear c11b0
      try clear c15
      try clear c15b0
      try clear c16
      try clear c20
      try clear c22
      try clear c25
      try clear c37
      try clear c37b0
      try clear c37b1
      try clear c38
      try clear c38b0
      try clear c38b1
      try clear c40
      try clear c41
      try clear c41b0
      try clear c42
      try clear c42b0
      try clear c43
      try clear q46
      try clear c47
      try clear q47
      try clear c57
      try clear q047
      try clear q46
      try clear q47
      obtain ⟨kq, x55_54, x82_54, x83_54, rfl, HA, HJ54, HO_5, HI0, HK, HB⟩ := hcut
      cases kq with
      | zero => exact absurd HA.out (by simp [Fc.j3])
      | succ kj54 =>
       have H := HA.out
       clear HA
       simp only [Fc.j3] at H
       by_cases c61 : x55_54 = true
       rotate_left
       ·
        replace c61 := Bool.eq_false_iff.mpr c61
        subst c61
        rw [if_neg (show ¬ (false = true) from Z16)] at H
        simp only [Option.some.injEq, Prod.mk.injEq] at H
        obtain ⟨rfl, rfl, rfl⟩ := H
        go_wp2
        go_ret
        exact ⟨_, Z109, Z66, Z1, Z4, Z2⟩
       subst c61
       rw [if_pos rfl] at H
       replace H := Option.bind_eq_some_iff.mp H
       obtain ⟨⟨t134, t136, t137⟩, A138, H⟩ := H
       try dsimp only at H
       have A62 := am A138
       clear A138
       obtain ⟨y139, hy139⟩ : ∃ y_ : List Int, y_ = (([(-1), 0, a1, wrap64 (a1 - 1)] : List Int)) := ⟨_, rfl⟩
       replace H : ((FY.f s0_0 t136 t137 y139).bind fun bt135 => (if 0 ≤ t134 then (if t134 < (x5_2.length : Int) then (some ((x5_2.set (t134 : Int).toNat bt135.1), bt135.2.1, bt135.2.2)) else (none)) else (none))) = some (r1, r2, r3) := by first | (rw [hy139]; with_reducible exact H) | (have H2_ := (Option.bind_some _ _).symm.trans H; rw [hy139]; with_reducible exact H2_) | (have H2_ := (Option.bind_some _ _).symm.trans H; with_reducible exact H2_) | with_reducible exact H | (rw [hy139]; exact H) | exact H
       have Ny139 := am hy139
       clear hy139
       replace H := Option.bind_eq_some_iff.mp H
       obtain ⟨⟨t135, t140, t141⟩, A142, H⟩ := H
       try dsimp only at H
       have A63 := am A142
       clear A142
       by_cases c64 : 0 ≤ t134
       rotate_left
       ·
        rw [if_neg c64] at H
        exact absurd H Z43
       rw [if_pos c64] at H
       have c64b0 := decide_eq_true c64
       clear c64
       by_cases c65 : t134 < (x5_2.length : Int)
       rotate_left
       ·
        rw [if_neg c65] at H
        exact absurd H Z43
       rw [if_pos c65] at H
       have c65b0 := decide_eq_true c65
       clear c65
       obtain ⟨y143, hy143⟩ : ∃ y_ : List Int, y_ = (x5_2.set (t134 : Int).toNat t135) := ⟨_, rfl⟩
       replace H : (some (y143, t140, t141)) = some (r1, r2, r3) := by first | (rw [hy143]; with_reducible exact H) | (have H2_ := (Option.bind_some _ _).symm.trans H; rw [hy143]; with_reducible exact H2_) | (have H2_ := (Option.bind_some _ _).symm.trans H; with_reducible exact H2_) | with_reducible exact H | (rw [hy143]; exact H) | exact H
       have Ny143 := am hy143
       clear hy143
       simp only [Option.some.injEq, Prod.mk.injEq] at H
       obtain ⟨rfl, rfl, rfl⟩ := H
       obtain ⟨Ao67, co67, eo67⟩ := Kd.R_slice HO_5.out
       subst eo67
       go_wp2_with (first | ((with_reducible refine gate_callee (f := 44) rfl ?_); refine goesL_ (some 60) rfl rfl Try.func44 Z112 rfl #[.pointer (some ⟨g, 0, none⟩), .int .i64 (x5_2.length : Int)] rfl Z140 ?_; (with_reducible refine (Fd.calls g s0_0 x82_54 x83_54 (x5_2.length : Int) t134 t136 t137 w0 _ ?side1 ?side2 A62.out).mono ?_); (case side1 => exact Z1); (case side2 => exact Z4); rintro e w68 ⟨rfl, hi, hb, hk⟩; refine ⟨_, rfl, ?_⟩; replace HO_5 := am (Kd.R_mono (Kd.R_keep (IsS47.apart (show IsS47 w0 _ g s0_0 x82_54 x83_54 from Z1) (uR HO_5) Z16) hk (fun _ h => h.2)) (fun _ h => h.1)); replace HK := am (KeepBut.trans Z2 hk (.inl rfl)); replace HB := am (hb); replace HI0 := am (hi); (try clear hb); (try clear hb2); (try clear hk); (try clear hi)) | ((with_reducible refine gate_dst (N := 65) rfl ?_); (try (refine gate_guard Z63 ?_; dsimp only)); refine Kd.R_lit (Kd.int .i64) _ 3 ?hg (N := 65) ?hd (xs := ([(-1), 0, a1, wrap64 (a1 - 1)] : List Int)) (inner := [.int .i64 (-1), .int .i64 0, .int .i64 a1, .int .i64 (wrap64 (a1 - 1))]) (ok := fun _ => True) (okp := fun _ => True) ?hr ?hp (fun _ hk => hk) trivial (Below.refl _ _) (Nat.le_refl _) Z43 ?_; (case hd => rfl); (case hg => rfl); (case hr => exact Z111); (case hp => exact (Reps.one (show Kd.M (Kd.int .i64) _ _ _ (-1) [.int .i64 (-1)] from rfl) (Reps.one (show Kd.M (Kd.int .i64) _ _ _ 0 [.int .i64 0] from rfl) (Reps.one (show Kd.M (Kd.int .i64) _ _ _ a1 [.int .i64 a1] from rfl) (Reps.one (show Kd.M (Kd.int .i64) _ _ _ (wrap64 (a1 - 1)) [.int .i64 (wrap64 (a1 - 1))] from rfl) (Reps.none _ _)))))); intro v144 w69 ho70 hb hg_ hnew_; clear hg_ hnew_; (first | rw [← Ny139.out] at ho70 | (simp only [Int.reduceToNat] at ho70; rw [← Ny139.out] at ho70)); have HO145 := am (Kd.R_lower (Kd.R_new' ho70 (Kd.R_lt (uR HO_5))) (keep_size (w := w) (g := g) (row := none) Z2)); replace HO_5 := am (Kd.R_elder' (uR HO_5) (Kd.R_base ho70) hb); replace HK := am (KeepBut.trans Z2 (KeepBut.of_below hb g none) (.inl rfl)); replace HB := am (below_step Z4 hb); replace HI0 := am (IsS47.below Z1 hb); clear hb ho70; obtain ⟨Ao71, co71, eo71⟩ := Kd.R_slice HO145.out; subst eo71) | ((with_reducible refine gate_callee (f := 72) rfl ?_); refine goesL_ (some 66) rfl rfl Try.func72 Z112 rfl #[.pointer (some ⟨g, 0, none⟩), .slice Ao71 y139.length co71] rfl Z140 ?_; (with_reducible refine (FY.calls g s0_0 t136 t137 _ _ y139 t135 t140 t141 w0 _ ?side1 ?side2 ?side3 ?side4 ?side5 A63.out).mono ?_); (case side1 => exact Z1); (case side2 => exact Z4); (case side3 => exact uD HO145); (case side4 => exact (Kd.R_reads' HO145.out).2.1); (case side5 => exact far_slice (IsS47.own_ne HI0.out HO145.out Z16)); rintro e w72 ⟨rfl, hi, hb, hk⟩; refine ⟨_, rfl, ?_⟩; replace HO_5 := am (Kd.R_mono (Kd.R_keep (IsS47.apart (show IsS47 w0 _ g s0_0 t136 t137 from Z1) (uR HO_5) Z16) hk (fun _ h => h.2)) (fun _ h => h.1)); replace HO145 := am (Kd.R_mono (Kd.R_keep (IsS47.apart (show IsS47 w0 _ g s0_0 t136 t137 from Z1) (uR HO145) Z16) hk (fun _ h => h.2)) (fun _ h => h.1)); replace HK := am (KeepBut.trans Z2 hk (.inl rfl)); replace HB := am (hb); replace HI0 := am (hi); (try clear hb); (try clear hb2); (try clear hk); (try clear hi); have p66 : 0 ≤ (t134 : Int) := of_decide_eq_true Z6; have q66 : (t134 : Int) < ((x5_2.length : Int) : Int) := of_decide_eq_true Z6; obtain ⟨go66, co66, eo66, gb66, gl66, cl66, HG66⟩ := Kd.R_form HO_5.out Z70; (first | cases eo66 | (injection eo66 with ea_ en_ ec_; (first | subst ea_ | (injection ea_ with ea_; subst ea_)); subst ec_; clear en_)); have GB66 := am gb66; have GG66 := am HG66; clear gb66 gl66 HG66; obtain ⟨hx66_0, hf66_0⟩ := Kd.R_celln 0 HO_5.out (t134 : Int) p66 q66; replace p66 := eq_true p66; replace q66 := eq_true q66; have n_ := am (Kd.R_mono (ok' := (fun k_ => some k_ ≠ (.slice Ao71 y139.length co71 : Value).ownBlock)) HO_5.out (fun k_ hk => hk.2)); clear HO_5; have HO_5 := n_; clear n_; obtain ⟨hy73_, hz73_⟩ := Kd.R_celln 0 HO_5.out (t134 : Int) (of_decide_eq_true Z6) (of_decide_eq_true Z6); have HP73 := Kd.R_putg HO_5.out (t134 : Int) t135) | ((with_reducible refine gate_store (t := 3) (p := 67) rfl ?_); refine store_event (t := 3) (p := 67) (v := ?vo_w74) (w1 := (w72.setCell ⟨go66, (t134 : Int).toNat, none⟩ (.int .i64 t135))) ?hg ?ho ?hn ?hr ?_; (case ho => rfl); (case hg => rfl); (case hn => rfl); (case hr => exact Z111); intro w74 hw; have hg : w72.grownBy w74 (some go66) := (by rw [hw]; exact HP73.2); have hp_ : Kd.R (Kd.int .i64) 3 w74 w.heap.size (fun k_ => some k_ ≠ (.slice Ao71 y139.length co71 : Value).ownBlock) (.slice (some ⟨go66, 0, none⟩) x5_2.length co67) y143 := (by rw [hw, Ny143.out]; exact HP73.1); clear HP73; replace HI0 := am (IsS47.grown Z1 hg (IsS47.own_ne HI0.out HO_5.out Z16)); replace HO145 := am (Kd.R_after (v := (.slice (some ⟨go66, 0, none⟩) x5_2.length co67)) (v1 := (.slice (some ⟨go66, 0, none⟩) x5_2.length co67)) (ok := (fun _ => True)) (uR HO145) hg (.inl rfl)); replace HB := am ((by rw [hw]; exact below_set (HB.out) (Nat.le_trans HL.out GB66.out) : Below w0.heap.size w0 w74)); replace HK := am (KeepBut.trans Z2 (KeepBut.of_grown hg g) (Kd.R_base2 HO_5.out)); replace HO_5 := am (hp_); clear hg hw hp_))
       go_ret
       exact ⟨_, Z109, by (with_reducible repeat (first | apply Kd.R_alloc | apply Kd.R_drewN | apply Kd.R_drew)); exact Kd.R_mono HO_5.out (fun _ hk => trivial), Z1, Z4, Z2⟩

end Go.Proofs.Ytllaofiopnhdgaa.PFnSparseParts
