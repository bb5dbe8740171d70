-- made by wip/tools/myprint.py over the kit's print, for this claim
import Derived.Test.YthaicmebdgeamaaPFnExactCuckooInsertx0
import Derived.Test.YthaicmebdgeamaaPFnExactCuckooInsertx1
import Derived.Test.YthaicmebdgeamaaPFnExactCuckooInsertx2
import Derived.Test.YthaicmebdgeamaaPFnExactCuckooInsertx6
import Derived.Test.YthaicmebdgeamaaPFnExactCuckooInsertx10
namespace Go.Proofs.Ythaicmebdgeamaa.PFnExactCuckooInsert
open Go.RowKit Go.Proofs.YthaicmebdgeamaaW.PrintWords Go.Proofs.YthaicmebdgeamaaW.PrintLast Go.Proofs.YthaicmebdgeamaaW.PrintMore
attribute [local go_sem] max2_int min2_int max_two min_two max_three min_three max_four min_four   -- for this text's walks alone
set_option linter.unusedVariables false
set_option linter.unusedSimpArgs false

open List (setIfInBounds_toArray set_cons_zero set_cons_succ)
/-! ### laws_FnExactCuckooInsert: function 4 -/
mutual
def laws_FnExactCuckooInsert.j0 : Nat → ByteArray → Int → Int → Bool → Int → Bool → Bool → Int → List ByteArray → List ByteArray → Int → List ByteArray → List ByteArray → Int → List ByteArray → List ByteArray → Int → List ByteArray → List ByteArray → Option (Bool)
 | 0, _, _, _, _, _, _, _, _, _, _, _, _, _, _, _, _, _, _, _ => none
 | k + 1, x1, x2, x9, x10, x13, x14, x61, x348000, x348001, x348002, x366000, x366001, x366002, x374000, x374001, x374002, x384000, x384001, x384002 => if x61 = true then (some false) else ((laws_toCuckoo.f k x348000 x348001 x348002).bind fun bt385 => ((laws_eqCuckoo.f k x374000 x374001 x374002 bt385.1 bt385.2.1 bt385.2.2).bind fun t392 => (if t392 = true then ((laws_markCuckoo.f k x374000 x374001 x374002 1).bind fun bt393 => (if bt393.1 < 0 then (laws_FnExactCuckooInsert.j1 k x1 x2 x9 x10 true x348000 x348001 x348002 x366000 x366001 x366002 x384000 x384001 x384002) else ((laws_eqCuckoo.f k x384000 x384001 x384002 x366000 x366001 x366002).bind fun t396 => (if t396 = true then (if x13 = x9 then (laws_FnExactCuckooInsert.j1 k x1 x2 x9 x10 (x14 != x10) x348000 x348001 x348002 x366000 x366001 x366002 x384000 x384001 x384002) else (laws_FnExactCuckooInsert.j1 k x1 x2 x9 x10 true x348000 x348001 x348002 x366000 x366001 x366002 x384000 x384001 x384002)) else (laws_FnExactCuckooInsert.j1 k x1 x2 x9 x10 true x348000 x348001 x348002 x366000 x366001 x366002 x384000 x384001 x384002))))) else (some false))))
def laws_FnExactCuckooInsert.j1 : Nat → ByteArray → Int → Int → Bool → Bool → Int → List ByteArray → List ByteArray → Int → List ByteArray → List ByteArray → Int → List ByteArray → List ByteArray → Option (Bool)
 | 0, _, _, _, _, _, _, _, _, _, _, _, _, _, _ => none
 | k + 1, x1, x2, x9, x10, x87, x348000, x348001, x348002, x366000, x366001, x366002, x384000, x384001, x384002 => if x87 = true then (some false) else ((laws_markCuckoo.f k x384000 x384001 x384002 1).bind fun bt397 => ((laws_heldCuckoo.f k x384000 bt397.2.1 bt397.2.2 1).bind fun t400 => (if t400 < 0 then (some false) else (if t400 = bt397.1 then ((laws_toCuckoo.f k x348000 x348001 x348002).bind fun bt401 => ((impl_CuckooInsert.f k bt401.1 bt401.2.1 bt401.2.2 x1 x2).bind fun bt408 => ((laws_eqCuckoo.f k bt408.1 bt408.2.1 bt408.2.2.1 x366000 x366001 x366002).bind fun t418 => (if t418 = true then (if bt408.2.2.2.1 = x9 then (laws_FnExactCuckooInsert.j2 k bt397.1 (bt408.2.2.2.2 != x10) x384000 bt397.2.1 bt397.2.2) else (laws_FnExactCuckooInsert.j2 k bt397.1 true x384000 bt397.2.1 bt397.2.2)) else (laws_FnExactCuckooInsert.j2 k bt397.1 true x384000 bt397.2.1 bt397.2.2))))) else (some false)))))
def laws_FnExactCuckooInsert.j2 : Nat → Int → Bool → Int → List ByteArray → List ByteArray → Option (Bool)
 | 0, _, _, _, _, _ => none
 | k + 1, x16, x121, x384000, x384001, x384002 => if x121 = true then (some false) else ((laws_heldCuckoo.f k x384000 x384001 x384002 1).bind fun t419 => (if t419 < 0 then (some false) else (if t419 = x16 then (some true) else (some false))))
end
def laws_FnExactCuckooInsert.f (k : Nat) (a0_0 : Int) (l0_1 : List ByteArray) (l0_2 : List ByteArray) (a1 : ByteArray) (a2 : Int) : Option (Bool) := if (a1.size : Int) > 1048576 then (some true) else ((laws_szCuckoo.f k a0_0 l0_1 l0_2 1048576).bind fun t348 => (if t348 < 0 then (some true) else ((laws_toCuckoo.f k a0_0 l0_1 l0_2).bind fun bt349 => ((spec_CuckooInsert.f k bt349.1 bt349.2.1 bt349.2.2 a1 a2).bind fun bt356 => ((laws_toCuckoo.f k a0_0 l0_1 l0_2).bind fun bt366 => ((impl_CuckooInsert.f k bt366.1 bt366.2.1 bt366.2.2 a1 a2).bind fun bt374 => ((laws_eqCuckoo.f k bt374.1 bt374.2.1 bt374.2.2.1 bt356.1 bt356.2.1 bt356.2.2.1).bind fun t384 => (if t384 = true then (if bt374.2.2.2.1 = bt356.2.2.2.1 then (laws_FnExactCuckooInsert.j0 k a1 a2 bt356.2.2.2.1 bt356.2.2.2.2 bt374.2.2.2.1 bt374.2.2.2.2 (bt374.2.2.2.2 != bt356.2.2.2.2) a0_0 l0_1 l0_2 bt356.1 bt356.2.1 bt356.2.2.1 bt366.1 bt366.2.1 bt366.2.2 bt374.1 bt374.2.1 bt374.2.2.1) else (laws_FnExactCuckooInsert.j0 k a1 a2 bt356.2.2.2.1 bt356.2.2.2.2 bt374.2.2.2.1 bt374.2.2.2.2 true a0_0 l0_1 l0_2 bt356.1 bt356.2.1 bt356.2.2.1 bt366.1 bt366.2.1 bt366.2.2 bt374.1 bt374.2.1 bt374.2.2.1)) else (laws_FnExactCuckooInsert.j0 k a1 a2 bt356.2.2.2.1 bt356.2.2.2.2 bt374.2.2.2.1 bt374.2.2.2.2 true a0_0 l0_1 l0_2 bt356.1 bt356.2.1 bt356.2.2.1 bt366.1 bt366.2.1 bt366.2.2 bt374.1 bt374.2.1 bt374.2.2.1)))))))))
theorem laws_FnExactCuckooInsert.mono_l : ∀ k, (∀ y0 y1 y2 y3 y4 y5 y6 y7 y8 y9 y10 y11 y12 y13 y14 y15 y16 y17 y18, LeO (laws_FnExactCuckooInsert.j0 k y0 y1 y2 y3 y4 y5 y6 y7 y8 y9 y10 y11 y12 y13 y14 y15 y16 y17 y18) (laws_FnExactCuckooInsert.j0 (k + 1) y0 y1 y2 y3 y4 y5 y6 y7 y8 y9 y10 y11 y12 y13 y14 y15 y16 y17 y18)) ∧ (∀ y0 y1 y2 y3 y4 y5 y6 y7 y8 y9 y10 y11 y12 y13, LeO (laws_FnExactCuckooInsert.j1 k y0 y1 y2 y3 y4 y5 y6 y7 y8 y9 y10 y11 y12 y13) (laws_FnExactCuckooInsert.j1 (k + 1) y0 y1 y2 y3 y4 y5 y6 y7 y8 y9 y10 y11 y12 y13)) ∧ (∀ y0 y1 y2 y3 y4, LeO (laws_FnExactCuckooInsert.j2 k y0 y1 y2 y3 y4) (laws_FnExactCuckooInsert.j2 (k + 1) y0 y1 y2 y3 y4))
 | 0 => ⟨fun _ _ _ _ _ _ _ _ _ _ _ _ _ _ _ _ _ _ _ r h => by simp [laws_FnExactCuckooInsert.j0] at h, fun _ _ _ _ _ _ _ _ _ _ _ _ _ _ r h => by simp [laws_FnExactCuckooInsert.j1] at h, fun _ _ _ _ _ r h => by simp [laws_FnExactCuckooInsert.j2] at h⟩
 | k + 1 => by
  obtain ⟨ih0, ih1, ih2⟩ := laws_FnExactCuckooInsert.mono_l k
  refine ⟨?_, ?_, ?_⟩
  ·
   intro y0 y1 y2 y3 y4 y5 y6 y7 y8 y9 y10 y11 y12 y13 y14 y15 y16 y17 y18
   unfold laws_FnExactCuckooInsert.j0
   repeat' first
   | (with_reducible exact ih0 _ _ _ _ _ _ _ _ _ _ _ _ _ _ _ _ _ _ _)
   | (with_reducible exact ih1 _ _ _ _ _ _ _ _ _ _ _ _ _ _)
   | (with_reducible exact ih2 _ _ _ _ _)
   | (with_reducible exact impl_CuckooInsert.mono _ _ _ _ _ _)
   | (with_reducible exact laws_eqCuckoo.mono _ _ _ _ _ _ _)
   | (with_reducible exact laws_heldCuckoo.mono _ _ _ _ _)
   | (with_reducible exact laws_markCuckoo.mono _ _ _ _ _)
   | (with_reducible exact laws_szCuckoo.mono _ _ _ _ _)
   | (with_reducible exact laws_toCuckoo.mono _ _ _ _)
   | (with_reducible exact spec_CuckooInsert.mono _ _ _ _ _ _)
   | (with_reducible exact LeO.refl _)
   | (with_reducible exact LeO.none _)
   | (with_reducible refine LeO.ite ?_ ?_)
   | (with_reducible refine LeO.bind ?_ (fun _ => ?_))
   | exact ih0 _ _ _ _ _ _ _ _ _ _ _ _ _ _ _ _ _ _ _
   | exact ih1 _ _ _ _ _ _ _ _ _ _ _ _ _ _
   | exact ih2 _ _ _ _ _
   | exact impl_CuckooInsert.mono _ _ _ _ _ _
   | exact laws_eqCuckoo.mono _ _ _ _ _ _ _
   | exact laws_heldCuckoo.mono _ _ _ _ _
   | exact laws_markCuckoo.mono _ _ _ _ _
   | exact laws_szCuckoo.mono _ _ _ _ _
   | exact laws_toCuckoo.mono _ _ _ _
   | exact spec_CuckooInsert.mono _ _ _ _ _ _
   | exact LeO.none _
   | refine LeO.ite ?_ ?_
   | refine LeO.bind ?_ (fun _ => ?_)
  ·
   intro y0 y1 y2 y3 y4 y5 y6 y7 y8 y9 y10 y11 y12 y13
   unfold laws_FnExactCuckooInsert.j1
   repeat' first
   | (with_reducible exact ih0 _ _ _ _ _ _ _ _ _ _ _ _ _ _ _ _ _ _ _)
   | (with_reducible exact ih1 _ _ _ _ _ _ _ _ _ _ _ _ _ _)
   | (with_reducible exact ih2 _ _ _ _ _)
   | (with_reducible exact impl_CuckooInsert.mono _ _ _ _ _ _)
   | (with_reducible exact laws_eqCuckoo.mono _ _ _ _ _ _ _)
   | (with_reducible exact laws_heldCuckoo.mono _ _ _ _ _)
   | (with_reducible exact laws_markCuckoo.mono _ _ _ _ _)
   | (with_reducible exact laws_szCuckoo.mono _ _ _ _ _)
   | (with_reducible exact laws_toCuckoo.mono _ _ _ _)
   | (with_reducible exact spec_CuckooInsert.mono _ _ _ _ _ _)
   | (with_reducible exact LeO.refl _)
   | (with_reducible exact LeO.none _)
   | (with_reducible refine LeO.ite ?_ ?_)
   | (with_reducible refine LeO.bind ?_ (fun _ => ?_))
   | exact ih0 _ _ _ _ _ _ _ _ _ _ _ _ _ _ _ _ _ _ _
   | exact ih1 _ _ _ _ _ _ _ _ _ _ _ _ _ _
   | exact ih2 _ _ _ _ _
   | exact impl_CuckooInsert.mono _ _ _ _ _ _
   | exact laws_eqCuckoo.mono _ _ _ _ _ _ _
   | exact laws_heldCuckoo.mono _ _ _ _ _
   | exact laws_markCuckoo.mono _ _ _ _ _
   | exact laws_szCuckoo.mono _ _ _ _ _
   | exact laws_toCuckoo.mono _ _ _ _
   | exact spec_CuckooInsert.mono _ _ _ _ _ _
   | exact LeO.none _
   | refine LeO.ite ?_ ?_
   | refine LeO.bind ?_ (fun _ => ?_)
  intro y0 y1 y2 y3 y4
  unfold laws_FnExactCuckooInsert.j2
  repeat' first
  | (with_reducible exact ih0 _ _ _ _ _ _ _ _ _ _ _ _ _ _ _ _ _ _ _)
  | (with_reducible exact ih1 _ _ _ _ _ _ _ _ _ _ _ _ _ _)
  | (with_reducible exact ih2 _ _ _ _ _)
  | (with_reducible exact impl_CuckooInsert.mono _ _ _ _ _ _)
  | (with_reducible exact laws_eqCuckoo.mono _ _ _ _ _ _ _)
  | (with_reducible exact laws_heldCuckoo.mono _ _ _ _ _)
  | (with_reducible exact laws_markCuckoo.mono _ _ _ _ _)
  | (with_reducible exact laws_szCuckoo.mono _ _ _ _ _)
  | (with_reducible exact laws_toCuckoo.mono _ _ _ _)
  | (with_reducible exact spec_CuckooInsert.mono _ _ _ _ _ _)
  | (with_reducible exact LeO.refl _)
  | (with_reducible exact LeO.none _)
  | (with_reducible refine LeO.ite ?_ ?_)
  | (with_reducible refine LeO.bind ?_ (fun _ => ?_))
  | exact ih0 _ _ _ _ _ _ _ _ _ _ _ _ _ _ _ _ _ _ _
  | exact ih1 _ _ _ _ _ _ _ _ _ _ _ _ _ _
  | exact ih2 _ _ _ _ _
  | exact impl_CuckooInsert.mono _ _ _ _ _ _
  | exact laws_eqCuckoo.mono _ _ _ _ _ _ _
  | exact laws_heldCuckoo.mono _ _ _ _ _
  | exact laws_markCuckoo.mono _ _ _ _ _
  | exact laws_szCuckoo.mono _ _ _ _ _
  | exact laws_toCuckoo.mono _ _ _ _
  | exact spec_CuckooInsert.mono _ _ _ _ _ _
  | exact LeO.none _
  | refine LeO.ite ?_ ?_
  | refine LeO.bind ?_ (fun _ => ?_)
theorem laws_FnExactCuckooInsert.mono : ∀ a0 a1 a2 a3 a4 k, LeO (laws_FnExactCuckooInsert.f k a0 a1 a2 a3 a4) (laws_FnExactCuckooInsert.f (k + 1) a0 a1 a2 a3 a4) := by
 intro a0 a1 a2 a3 a4 k
 obtain ⟨ih0, ih1, ih2⟩ := laws_FnExactCuckooInsert.mono_l k
 unfold laws_FnExactCuckooInsert.f
 repeat' first
   | (with_reducible exact ih0 _ _ _ _ _ _ _ _ _ _ _ _ _ _ _ _ _ _ _)
   | (with_reducible exact ih1 _ _ _ _ _ _ _ _ _ _ _ _ _ _)
   | (with_reducible exact ih2 _ _ _ _ _)
   | (with_reducible exact impl_CuckooInsert.mono _ _ _ _ _ _)
   | (with_reducible exact laws_eqCuckoo.mono _ _ _ _ _ _ _)
   | (with_reducible exact laws_heldCuckoo.mono _ _ _ _ _)
   | (with_reducible exact laws_markCuckoo.mono _ _ _ _ _)
   | (with_reducible exact laws_szCuckoo.mono _ _ _ _ _)
   | (with_reducible exact laws_toCuckoo.mono _ _ _ _)
   | (with_reducible exact spec_CuckooInsert.mono _ _ _ _ _ _)
   | (with_reducible exact LeO.refl _)
   | (with_reducible exact LeO.none _)
   | (with_reducible refine LeO.ite ?_ ?_)
   | (with_reducible refine LeO.bind ?_ (fun _ => ?_))
   | exact ih0 _ _ _ _ _ _ _ _ _ _ _ _ _ _ _ _ _ _ _
   | exact ih1 _ _ _ _ _ _ _ _ _ _ _ _ _ _
   | exact ih2 _ _ _ _ _
   | exact impl_CuckooInsert.mono _ _ _ _ _ _
   | exact laws_eqCuckoo.mono _ _ _ _ _ _ _
   | exact laws_heldCuckoo.mono _ _ _ _ _
   | exact laws_markCuckoo.mono _ _ _ _ _
   | exact laws_szCuckoo.mono _ _ _ _ _
   | exact laws_toCuckoo.mono _ _ _ _
   | exact spec_CuckooInsert.mono _ _ _ _ _ _
   | exact LeO.none _
   | refine LeO.ite ?_ ?_
   | refine LeO.bind ?_ (fun _ => ?_)
set_option maxHeartbeats 8000000 in
set_option maxRecDepth 100000 in
theorem laws_FnExactCuckooInsert.calls (k : Nat) (a0_0 : Int) (A0_1 : Option Addr) (c0_1 : Nat) (l0_1 : List ByteArray) (A0_2 : Option Addr) (c0_2 : Nat) (l0_2 : List ByteArray) (a1 : ByteArray) (a2 : Int) (r : Bool) (w : World) (hr0_1 : Kd.C Kd.string w A0_1 l0_1.length l0_1) (hc0_1 : l0_1.length ≤ c0_1) (hr0_2 : Kd.C Kd.string w A0_2 l0_2.length l0_2) (hc0_2 : l0_2.length ≤ c0_2) (h : laws_FnExactCuckooInsert.f k a0_0 l0_1 l0_2 a1 a2 = some r) :
  Calls Try.prog 4 #[.agg #[.int .i64 a0_0, .slice A0_1 l0_1.length c0_1, .slice A0_2 l0_2.length c0_2], .string a1, .int .i64 a2] w fun e w' => e = .returned (.bool r) ∧ Below w.heap.size w w' := by
 have hu24 := Try.underlying24
 have hu26 := Try.underlying26
 have HR0_1 := Aside0.mk hr0_1
 have HC0_1 := Aside0.mk hc0_1
 clear hr0_1 hc0_1
 have HR0_2 := Aside0.mk hr0_2
 have HC0_2 := Aside0.mk hc0_2
 clear hr0_2 hc0_2
 have HB := Aside0.mk (Below.refl w.heap.size w)
 have H : (if (a1.size : Int) > 1048576 then (some true) else ((laws_szCuckoo.f k a0_0 l0_1 l0_2 1048576).bind fun t348 => (if t348 < 0 then (some true) else ((laws_toCuckoo.f k a0_0 l0_1 l0_2).bind fun bt349 => ((spec_CuckooInsert.f k bt349.1 bt349.2.1 bt349.2.2 a1 a2).bind fun bt356 => ((laws_toCuckoo.f k a0_0 l0_1 l0_2).bind fun bt366 => ((impl_CuckooInsert.f k bt366.1 bt366.2.1 bt366.2.2 a1 a2).bind fun bt374 => ((laws_eqCuckoo.f k bt374.1 bt374.2.1 bt374.2.2.1 bt356.1 bt356.2.1 bt356.2.2.1).bind fun t384 => (if t384 = true then (if bt374.2.2.2.1 = bt356.2.2.2.1 then (laws_FnExactCuckooInsert.j0 k a1 a2 bt356.2.2.2.1 bt356.2.2.2.2 bt374.2.2.2.1 bt374.2.2.2.2 (bt374.2.2.2.2 != bt356.2.2.2.2) a0_0 l0_1 l0_2 bt356.1 bt356.2.1 bt356.2.2.1 bt366.1 bt366.2.1 bt366.2.2 bt374.1 bt374.2.1 bt374.2.2.1) else (laws_FnExactCuckooInsert.j0 k a1 a2 bt356.2.2.2.1 bt356.2.2.2.2 bt374.2.2.2.1 bt374.2.2.2.2 true a0_0 l0_1 l0_2 bt356.1 bt356.2.1 bt356.2.2.1 bt366.1 bt366.2.1 bt366.2.2 bt374.1 bt374.2.1 bt374.2.2.1)) else (laws_FnExactCuckooInsert.j0 k a1 a2 bt356.2.2.2.1 bt356.2.2.2.2 bt374.2.2.2.1 bt374.2.2.2.2 true a0_0 l0_1 l0_2 bt356.1 bt356.2.1 bt356.2.2.1 bt366.1 bt366.2.1 bt366.2.2 bt374.1 bt374.2.1 bt374.2.2.1)))))))))) = some r := h
 clear h
 by_cases c4 : (a1.size : Int) > 1048576
 ·
  rw [if_pos c4] at H
  have c4b0 : decide (1048576 < (a1.size : Int)) = true := decide_eq_true c4
  have c4b1 : decide (1048576 < a1.size) = true := decide_eq_true (by omega)
  clear c4
  obtain rfl := Option.some.inj H
  go_enter Try.func4, Try.ntmps4
  go_wp2_with (first | ((with_reducible refine gate_dst (N := 3) rfl ?_); refine box_event ?hg (N := 3) ?hd (cs := #[.int .i64 a0_0, .slice A0_1 l0_1.length c0_1, .slice A0_2 l0_2.length c0_2]) (t := 24) ?hr ?_; (case hd => rfl); (case hg => rfl); (case hr => first | (go_simp; done) | (go_simp; rfl)); intro gb347 hg w5 hbox hb; have BK347 := Aside0.mk (hbox); have GW347 := nG HB hg; have GE347 := nG HB hg; have GI347 := gI GE347; replace HB := Aside0.mk (below_step (uN HB) hb); clear hb hbox hg))
  go_ret
  exact ⟨by first | rfl | (simp [errW_none, errW_some] <;> rfl) | (simp [*, errW_none, errW_some] <;> rfl), uN HB⟩
 rw [if_neg c4] at H
 have c4b0 : decide (1048576 < (a1.size : Int)) = false := decide_eq_false c4
 have c4b1 : decide (1048576 < a1.size) = false := decide_eq_false (by omega)
 clear c4
 replace H := Option.bind_eq_some_iff.mp H
 obtain ⟨t348, A60, H⟩ := H
 try dsimp only at H
 have A6 := Aside0.mk A60
 clear A60
 by_cases c7 : t348 < 0
 ·
  rw [if_pos c7] at H
  have c7b0 : decide (t348 < 0) = true := decide_eq_true c7
  clear c7
  obtain rfl := Option.some.inj H
  go_enter Try.func4, Try.ntmps4
  go_wp2_with (first | ((with_reducible refine gate_dst (N := 3) rfl ?_); refine box_event ?hg (N := 3) ?hd (cs := #[.int .i64 a0_0, .slice A0_1 l0_1.length c0_1, .slice A0_2 l0_2.length c0_2]) (t := 24) ?hr ?_; (case hd => rfl); (case hg => rfl); (case hr => first | (go_simp; done) | (go_simp; rfl)); intro gb347 hg w8 hbox hb; have BK347 := Aside0.mk (hbox); have GW347 := nG HB hg; have GE347 := nG HB hg; have GI347 := gI GE347; replace HB := Aside0.mk (below_step (uN HB) hb); clear hb hbox hg; obtain ⟨hcz9_0, hcz9_1, hcz9_2, hfz9_0, hfz9_1, hfz9_2⟩ := ce3 BK347) | ((with_reducible refine gate_callee (f := 6) rfl ?_); refine goesL_ (some 26) rfl rfl Try.func6 (by kernel_rfl) rfl #[.agg #[.int .i64 a0_0, .slice A0_1 l0_1.length c0_1, .slice A0_2 l0_2.length c0_2], .int .i64 1048576] rfl (by (try simp only [List.map_toArray, List.map_cons, List.map_nil]); first | done | rfl) ?_; (with_reducible refine (laws_szCuckoo.calls k a0_0 _ _ l0_1 _ _ l0_2 1048576 t348 _ ?side1 ?side2 ?side3 ?side4 A6.out).mono ?_); (case side1 => exact uC HR0_1 HB); (case side2 => exact HC0_1.out); (case side3 => exact uC HR0_2 HB); (case side4 => exact HC0_2.out); rintro e w10 ⟨rfl, hb⟩; refine ⟨_, rfl, ?_⟩; replace BK347 := kB BK347 hb; replace HB := Aside0.mk (below_step (uN HB) hb); (try clear hb); (try clear hb2); (try clear hk); (try clear hi)))
  go_ret
  exact ⟨by first | rfl | (simp [errW_none, errW_some] <;> rfl) | (simp [*, errW_none, errW_some] <;> rfl), uN HB⟩
 rw [if_neg c7] at H
 have c7b0 : decide (t348 < 0) = false := decide_eq_false c7
 clear c7
 replace H := Option.bind_eq_some_iff.mp H
 obtain ⟨⟨t349, t350, t353⟩, A110, H⟩ := H
 try dsimp only at H
 have A11 := Aside0.mk A110
 clear A110
 replace H := Option.bind_eq_some_iff.mp H
 obtain ⟨⟨t356, t357, t360, t363, t364⟩, A120, H⟩ := H
 try dsimp only at H
 have A12 := Aside0.mk A120
 clear A120
 replace H := Option.bind_eq_some_iff.mp H
 obtain ⟨⟨t366, t367, t370⟩, A130, H⟩ := H
 try dsimp only at H
 have A13 := Aside0.mk A130
 clear A130
 replace H := Option.bind_eq_some_iff.mp H
 obtain ⟨⟨t374, t375, t378, t381, t382⟩, A140, H⟩ := H
 try dsimp only at H
 have A14 := Aside0.mk A140
 clear A140
 have HC15 := Aside0.mk H
 clear H
 go_enter Try.func4, Try.ntmps4
 go_upto_region 10 with (first | ((with_reducible refine gate_dst (N := 3) rfl ?_); refine box_event ?hg (N := 3) ?hd (cs := #[.int .i64 a0_0, .slice A0_1 l0_1.length c0_1, .slice A0_2 l0_2.length c0_2]) (t := 24) ?hr ?_; (case hd => rfl); (case hg => rfl); (case hr => first | (go_simp; done) | (go_simp; rfl)); intro gb347 hg w16 hbox hb; have BK347 := Aside0.mk (hbox); have GW347 := nG HB hg; have GE347 := nG HB hg; have GI347 := gI GE347; replace HB := Aside0.mk (below_step (uN HB) hb); clear hb hbox hg; obtain ⟨hcz17_0, hcz17_1, hcz17_2, hfz17_0, hfz17_1, hfz17_2⟩ := ce3 BK347) | ((with_reducible refine gate_callee (f := 6) rfl ?_); refine goesL_ (some 26) rfl rfl Try.func6 (by kernel_rfl) rfl #[.agg #[.int .i64 a0_0, .slice A0_1 l0_1.length c0_1, .slice A0_2 l0_2.length c0_2], .int .i64 1048576] rfl (by (try simp only [List.map_toArray, List.map_cons, List.map_nil]); first | done | rfl) ?_; (with_reducible refine (laws_szCuckoo.calls k a0_0 _ _ l0_1 _ _ l0_2 1048576 t348 _ ?side1 ?side2 ?side3 ?side4 A6.out).mono ?_); (case side1 => exact uC HR0_1 HB); (case side2 => exact HC0_1.out); (case side3 => exact uC HR0_2 HB); (case side4 => exact HC0_2.out); rintro e w18 ⟨rfl, hb⟩; refine ⟨_, rfl, ?_⟩; replace BK347 := kB BK347 hb; replace HB := Aside0.mk (below_step (uN HB) hb); (try clear hb); (try clear hb2); (try clear hk); (try clear hi); obtain ⟨hcz19_0, hcz19_1, hcz19_2, hfz19_0, hfz19_1, hfz19_2⟩ := ce3 BK347) | ((with_reducible refine gate_callee (f := 8) rfl ?_); refine goesL_ (some 31) rfl rfl Try.func8 (by kernel_rfl) rfl #[.agg #[.int .i64 a0_0, .slice A0_1 l0_1.length c0_1, .slice A0_2 l0_2.length c0_2]] rfl (by (try simp only [List.map_toArray, List.map_cons, List.map_nil]); first | done | rfl) ?_; (with_reducible refine (laws_toCuckoo.calls k a0_0 _ _ l0_1 _ _ l0_2 t349 t350 t353 _ ?side1 ?side2 ?side3 ?side4 A11.out).mono ?_); (case side1 => exact uC HR0_1 HB); (case side2 => exact HC0_1.out); (case side3 => exact uC HR0_2 HB); (case side4 => exact HC0_2.out); rintro e w20 ⟨v351, v354, rfl, ho0, ho1, hb⟩; refine ⟨_, rfl, ?_⟩; have HO352 := Aside0.mk (Kd.R_lower ho0 (below_size (uN HB))); have HO355 := Aside0.mk (Kd.R_lower ho1 (below_size (uN HB))); replace BK347 := kB BK347 hb; replace HB := Aside0.mk (below_step (uN HB) hb); (try clear hb); (try clear hb2); (try clear hk); (try clear hi); (try clear ho0); (try clear ho1); obtain ⟨Ao21, co21, eo21⟩ := Kd.R_slice HO352.out; subst eo21; obtain ⟨Ao22, co22, eo22⟩ := Kd.R_slice HO355.out; subst eo22) | ((with_reducible refine gate_callee (f := 13) rfl ?_); refine goesL_ (some 34) rfl rfl Try.func13 (by kernel_rfl) rfl #[.agg #[.int .i64 t349, .slice Ao21 t350.length co21, .slice Ao22 t353.length co22], .string a1, .int .i64 a2] rfl (by (try simp only [List.map_toArray, List.map_cons, List.map_nil]); first | done | rfl) ?_; (with_reducible refine (spec_CuckooInsert.calls k t349 _ _ t350 _ _ t353 a1 a2 t356 t357 t360 t363 t364 _ ?side1 ?side2 ?side3 ?side4 A12.out).mono ?_); (case side1 => exact uD HO352); (case side2 => exact (Kd.R_reads' HO352.out).2.1); (case side3 => exact uD HO355); (case side4 => exact (Kd.R_reads' HO355.out).2.1); rintro e w23 ⟨v358, v361, rfl, ho0, ho1, hb⟩; refine ⟨_, rfl, ?_⟩; have HO359 := Aside0.mk (Kd.R_lower (Kd.R_new' (Kd.R_new' (Kd.R_mono (ok' := fun k_ => True) ho0 (fun _ hk_ => trivial)) (Kd.R_lt (uR HO352))) (Kd.R_lt (uR HO355))) (below_size (uN HB))); have HO362 := Aside0.mk (Kd.V_lower (Kd.V_mono (ok' := fun k_ => some k_ ≠ (v358 : Value).ownBlock ∧ some k_ ≠ (.slice Ao21 t350.length co21 : Value).ownBlock ∧ some k_ ≠ (.slice Ao22 t353.length co22 : Value).ownBlock ∧ k_ ≠ gb347) ho1 (fun k_ hk_ => ⟨hk_.2, (Kd.fresh' (Kd.R_lt (uR HO352)) k_ hk_.1), (Kd.fresh' (Kd.R_lt (uR HO355)) k_ hk_.1), (Kd.freshB (g := gb347) (o := .cells #[.int .i64 a0_0, .slice A0_1 l0_1.length c0_1, .slice A0_2 l0_2.length c0_2] 24 (0, 0)) (uK BK347) k_ hk_.1)⟩)) (below_size (uN HB))); replace HO352 := Aside0.mk (Kd.R_elder' (uR HO352) (Kd.R_base ho0) hb); replace HO355 := Aside0.mk (Kd.R_elder' (uR HO355) (Kd.R_base ho0) hb); replace BK347 := kB BK347 hb; replace HB := Aside0.mk (below_step (uN HB) hb); (try clear hb); (try clear hb2); (try clear hk); (try clear hi); (try clear ho0); (try clear ho1)) | ((with_reducible refine gate_dst (N := 8) rfl ?_); refine box_event ?hg (N := 8) ?hd (cs := #[.int .i64 0, .slice none 0 0, .slice none 0 0]) (t := 26) ?hr ?_; (case hd => rfl); (case hg => rfl); (case hr => first | (go_simp; done) | (go_simp; rfl)); intro gb365 hg w24 hbox hb; replace HO352 := Aside0.mk (Kd.R_below (uR HO352) hb); replace HO355 := Aside0.mk (Kd.R_below (uR HO355) hb); replace HO359 := Aside0.mk (Kd.R_below (uR HO359) hb); replace HO362 := Aside0.mk (Kd.V_below (Kd.V_elderB (by (with_reducible repeat (first | apply Kd.V_alloc | apply Kd.V_drewN | apply Kd.V_drew)); exact HO362.out) gb365 (Nat.le_of_eq hg.symm)) hb); have BK365 := Aside0.mk (hbox); have GW365 := nG HB hg; have GE365 := nG HB hg; have GI365 := gI GE365; replace HB := Aside0.mk (below_step (uN HB) hb); have NB347_365 := nL BK347 hg; have NB365_347 := nR BK347 hg; replace BK347 := kB BK347 hb; clear hb hbox hg; have hnb25 := NB365_347.out; have hnc25 := NB347_365.out; obtain ⟨hcz26_0, hcz26_1, hcz26_2, hfz26_0, hfz26_1, hfz26_2⟩ := ce3 BK365; obtain ⟨Ao27, co27, eo27⟩ := Kd.R_slice HO359.out; subst eo27; obtain ⟨Ao28, co28, eo28⟩ := Kd.V_slice HO362.out; subst eo28; obtain ⟨hcz29_0, hcz29_1, hcz29_2, hfz29_0, hfz29_1, hfz29_2⟩ := ce3 BK347) | ((with_reducible refine gate_callee (f := 8) rfl ?_); refine goesL_ (some 39) rfl rfl Try.func8 (by kernel_rfl) rfl #[.agg #[.int .i64 a0_0, .slice A0_1 l0_1.length c0_1, .slice A0_2 l0_2.length c0_2]] rfl (by (try simp only [List.map_toArray, List.map_cons, List.map_nil]); first | done | rfl) ?_; (with_reducible refine (laws_toCuckoo.calls k a0_0 _ _ l0_1 _ _ l0_2 t366 t367 t370 _ ?side1 ?side2 ?side3 ?side4 A13.out).mono ?_); (case side1 => exact Kd.C_below HR0_1.out (uN HB)); (case side2 => exact HC0_1.out); (case side3 => exact Kd.C_below HR0_2.out (uN HB)); (case side4 => exact HC0_2.out); rintro e w30 ⟨v368, v371, rfl, ho0, ho1, hb⟩; refine ⟨_, rfl, ?_⟩; replace HO362 := Aside0.mk (Kd.V_mono (Kd.V_told (Kd.V_told (Kd.V_old (by (with_reducible repeat (first | apply Kd.V_alloc | apply Kd.V_drewN | apply Kd.V_drew)); exact (Kd.V_mono (Kd.V_far (p := ⟨gb365, 2, none⟩) (Kd.V_far (p := ⟨gb365, 1, none⟩) (Kd.V_far (p := ⟨gb365, 0, none⟩) (Kd.V_mono HO362.out (fun k_ hk => (⟨hk, hk.2⟩ : _ ∧ k_ ≠ gb365))) (fun _ hk => hk.2) (.int .i64 t356)) (fun _ hk => hk.2) (.slice Ao27 t357.length co27)) (fun _ hk => hk.2) (.slice Ao28 t360.length co28)) (fun _ h_ => h_.1))) hb) (Kd.R_base ho0)) (Kd.R_base ho1)) (fun _ h_ => h_.1)); have HO369 := Aside0.mk (Kd.R_lower (Kd.R_new' (Kd.R_new' (Kd.R_new' ho0 (Kd.R_lt (fS HO352 BK365 (by decide)))) (Kd.R_lt (fS HO355 BK365 (by decide)))) (Kd.R_lt (fS HO359 BK365 (by decide)))) (below_size (uN HB))); have HO372 := Aside0.mk (Kd.R_lower (Kd.R_new' (Kd.R_new' (Kd.R_new' ho1 (Kd.R_lt (fS HO352 BK365 (by decide)))) (Kd.R_lt (fS HO355 BK365 (by decide)))) (Kd.R_lt (fS HO359 BK365 (by decide)))) (below_size (uN HB))); replace HO352 := Aside0.mk (Kd.R_mono (Kd.R_told (Kd.R_told (Kd.R_old (fS HO352 BK365 (by decide)) hb) (Kd.R_base ho0)) (Kd.R_base ho1)) (fun _ h_ => h_.1)); replace HO355 := Aside0.mk (Kd.R_mono (Kd.R_told (Kd.R_told (Kd.R_old (fS HO355 BK365 (by decide)) hb) (Kd.R_base ho0)) (Kd.R_base ho1)) (fun _ h_ => h_.1)); replace HO359 := Aside0.mk (Kd.R_mono (Kd.R_told (Kd.R_told (Kd.R_old (fS HO359 BK365 (by decide)) hb) (Kd.R_base ho0)) (Kd.R_base ho1)) (fun _ h_ => h_.1)); replace BK347 := Aside0.mk (blk_below (g := gb347) (o := .cells #[.int .i64 a0_0, .slice A0_1 l0_1.length c0_1, .slice A0_2 l0_2.length c0_2] 24 (0, 0)) (by refine uW ?_; refine blk_far ?_ NB347_365.out _; refine uW ?_; refine blk_far ?_ NB347_365.out _; refine uW ?_; refine blk_far ?_ NB347_365.out _; refine uW ?_; exact BK347.out) hb); replace BK365 := Aside0.mk (blk_below (g := gb365) (o := .cells #[.int .i64 t356, .slice Ao27 t357.length co27, .slice Ao28 t360.length co28] 26 (0, 0)) (by refine uW ?_; refine blk_put (cs := #[.int .i64 t356, .slice Ao27 t357.length co27, .slice none 0 0]) ?_ 2 _ rfl; refine uW ?_; refine blk_put (cs := #[.int .i64 t356, .slice none 0 0, .slice none 0 0]) ?_ 1 _ rfl; refine uW ?_; refine blk_put (cs := #[.int .i64 0, .slice none 0 0, .slice none 0 0]) ?_ 0 _ rfl; refine uW ?_; exact BK365.out) hb); replace HB := Aside0.mk (below_step (uN HB) hb); (try clear hb); (try clear hb2); (try clear hk); (try clear hi); (try clear ho0); (try clear ho1)) | ((with_reducible refine gate_dst (N := 11) rfl ?_); refine box_event ?hg (N := 11) ?hd (cs := #[.int .i64 0, .slice none 0 0, .slice none 0 0]) (t := 26) ?hr ?_; (case hd => rfl); (case hg => rfl); (case hr => first | (go_simp; done) | (go_simp; rfl)); intro gb373 hg w31 hbox hb; replace HO352 := Aside0.mk (Kd.R_below (uR HO352) hb); replace HO355 := Aside0.mk (Kd.R_below (uR HO355) hb); replace HO359 := Aside0.mk (Kd.R_below (uR HO359) hb); replace HO362 := Aside0.mk (Kd.V_below (Kd.V_elderB (by (with_reducible repeat (first | apply Kd.V_alloc | apply Kd.V_drewN | apply Kd.V_drew)); exact HO362.out) gb373 (Nat.le_of_eq hg.symm)) hb); replace HO369 := Aside0.mk (Kd.R_below (uR HO369) hb); replace HO372 := Aside0.mk (Kd.R_below (uR HO372) hb); have BK373 := Aside0.mk (hbox); have GW373 := nG HB hg; have GE373 := nG HB hg; have GI373 := gI GE373; replace HB := Aside0.mk (below_step (uN HB) hb); have NB347_373 := nL BK347 hg; have NB373_347 := nR BK347 hg; replace BK347 := kB BK347 hb; have NB365_373 := nL BK365 hg; have NB373_365 := nR BK365 hg; replace BK365 := kB BK365 hb; clear hb hbox hg; have hnb32 := NB373_347.out; have hnc32 := NB347_373.out; have hnb33 := NB373_365.out; have hnc33 := NB365_373.out; obtain ⟨hcz34_0, hcz34_1, hcz34_2, hfz34_0, hfz34_1, hfz34_2⟩ := ce3 BK373; obtain ⟨Ao35, co35, eo35⟩ := Kd.R_slice HO369.out; subst eo35; obtain ⟨Ao36, co36, eo36⟩ := Kd.R_slice HO372.out; subst eo36) | ((with_reducible refine gate_callee (f := 14) rfl ?_); refine goesL_ (some 44) rfl rfl Try.func14 (by kernel_rfl) rfl #[.agg #[.int .i64 t366, .slice Ao35 t367.length co35, .slice Ao36 t370.length co36], .string a1, .int .i64 a2] rfl (by (try simp only [List.map_toArray, List.map_cons, List.map_nil]); first | done | rfl) ?_; (with_reducible refine (impl_CuckooInsert.calls k t366 _ _ t367 _ _ t370 a1 a2 t374 t375 t378 t381 t382 _ ?side1 ?side2 ?side3 ?side4 A14.out).mono ?_); (case side1 => refine (Kd.R_reads' (e := 9) (base := w.heap.size) (ok := fun k_ => (((some k_ ≠ (.slice Ao36 t370.length co36 : Value).ownBlock ∧ some k_ ≠ (.slice Ao21 t350.length co21 : Value).ownBlock) ∧ some k_ ≠ (.slice Ao22 t353.length co22 : Value).ownBlock) ∧ some k_ ≠ (.slice Ao27 t357.length co27 : Value).ownBlock)) (n := t367.length) (c := co35) ?_).2.2; exact (fS HO369 BK373 (by decide))); (case side2 => exact (Kd.R_reads' HO369.out).2.1); (case side3 => refine (Kd.R_reads' (e := 9) (base := w.heap.size) (ok := fun k_ => (((some k_ ≠ (.slice Ao35 t367.length co35 : Value).ownBlock ∧ some k_ ≠ (.slice Ao21 t350.length co21 : Value).ownBlock) ∧ some k_ ≠ (.slice Ao22 t353.length co22 : Value).ownBlock) ∧ some k_ ≠ (.slice Ao27 t357.length co27 : Value).ownBlock)) (n := t370.length) (c := co36) ?_).2.2; exact (fS HO372 BK373 (by decide))); (case side4 => exact (Kd.R_reads' HO372.out).2.1); rintro e w37 ⟨v376, v379, rfl, ho0, ho1, hb⟩; refine ⟨_, rfl, ?_⟩; replace HO362 := Aside0.mk (Kd.V_mono (Kd.V_told (Kd.V_told (Kd.V_old (by (with_reducible repeat (first | apply Kd.V_alloc | apply Kd.V_drewN | apply Kd.V_drew)); exact (Kd.V_mono (Kd.V_far (p := ⟨gb373, 2, none⟩) (Kd.V_far (p := ⟨gb373, 1, none⟩) (Kd.V_far (p := ⟨gb373, 0, none⟩) (Kd.V_mono HO362.out (fun k_ hk => (⟨hk, hk.2⟩ : _ ∧ k_ ≠ gb373))) (fun _ hk => hk.2) (.int .i64 t366)) (fun _ hk => hk.2) (.slice Ao35 t367.length co35)) (fun _ hk => hk.2) (.slice Ao36 t370.length co36)) (fun _ h_ => h_.1))) hb) (Kd.R_base ho0)) (Kd.R_base ho1)) (fun _ h_ => h_.1)); have HO377 := Aside0.mk (Kd.R_lower (Kd.R_new' (Kd.R_new' (Kd.R_new' (Kd.R_new' (Kd.R_new' ho0 (Kd.R_lt (fS HO352 BK373 (by decide)))) (Kd.R_lt (fS HO355 BK373 (by decide)))) (Kd.R_lt (fS HO359 BK373 (by decide)))) (Kd.R_lt (fS HO369 BK373 (by decide)))) (Kd.R_lt (fS HO372 BK373 (by decide)))) (below_size (uN HB))); have HO380 := Aside0.mk (Kd.R_lower (Kd.R_new' (Kd.R_new' (Kd.R_new' (Kd.R_new' (Kd.R_new' ho1 (Kd.R_lt (fS HO352 BK373 (by decide)))) (Kd.R_lt (fS HO355 BK373 (by decide)))) (Kd.R_lt (fS HO359 BK373 (by decide)))) (Kd.R_lt (fS HO369 BK373 (by decide)))) (Kd.R_lt (fS HO372 BK373 (by decide)))) (below_size (uN HB))); replace HO352 := Aside0.mk (Kd.R_mono (Kd.R_told (Kd.R_told (Kd.R_old (fS HO352 BK373 (by decide)) hb) (Kd.R_base ho0)) (Kd.R_base ho1)) (fun _ h_ => h_.1)); replace HO355 := Aside0.mk (Kd.R_mono (Kd.R_told (Kd.R_told (Kd.R_old (fS HO355 BK373 (by decide)) hb) (Kd.R_base ho0)) (Kd.R_base ho1)) (fun _ h_ => h_.1)); replace HO359 := Aside0.mk (Kd.R_mono (Kd.R_told (Kd.R_told (Kd.R_old (fS HO359 BK373 (by decide)) hb) (Kd.R_base ho0)) (Kd.R_base ho1)) (fun _ h_ => h_.1)); replace HO369 := Aside0.mk (Kd.R_mono (Kd.R_told (Kd.R_told (Kd.R_old (fS HO369 BK373 (by decide)) hb) (Kd.R_base ho0)) (Kd.R_base ho1)) (fun _ h_ => h_.1)); replace HO372 := Aside0.mk (Kd.R_mono (Kd.R_told (Kd.R_told (Kd.R_old (fS HO372 BK373 (by decide)) hb) (Kd.R_base ho0)) (Kd.R_base ho1)) (fun _ h_ => h_.1)); replace BK347 := Aside0.mk (blk_below (g := gb347) (o := .cells #[.int .i64 a0_0, .slice A0_1 l0_1.length c0_1, .slice A0_2 l0_2.length c0_2] 24 (0, 0)) (by refine uW ?_; refine blk_far ?_ NB347_373.out _; refine uW ?_; refine blk_far ?_ NB347_373.out _; refine uW ?_; refine blk_far ?_ NB347_373.out _; refine uW ?_; exact BK347.out) hb); replace BK365 := Aside0.mk (blk_below (g := gb365) (o := .cells #[.int .i64 t356, .slice Ao27 t357.length co27, .slice Ao28 t360.length co28] 26 (0, 0)) (by refine uW ?_; refine blk_far ?_ NB365_373.out _; refine uW ?_; refine blk_far ?_ NB365_373.out _; refine uW ?_; refine blk_far ?_ NB365_373.out _; refine uW ?_; exact BK365.out) hb); replace BK373 := Aside0.mk (blk_below (g := gb373) (o := .cells #[.int .i64 t366, .slice Ao35 t367.length co35, .slice Ao36 t370.length co36] 26 (0, 0)) (by refine uW ?_; refine blk_put (cs := #[.int .i64 t366, .slice Ao35 t367.length co35, .slice none 0 0]) ?_ 2 _ rfl; refine uW ?_; refine blk_put (cs := #[.int .i64 t366, .slice none 0 0, .slice none 0 0]) ?_ 1 _ rfl; refine uW ?_; refine blk_put (cs := #[.int .i64 0, .slice none 0 0, .slice none 0 0]) ?_ 0 _ rfl; refine uW ?_; exact BK373.out) hb); replace HB := Aside0.mk (below_step (uN HB) hb); (try clear hb); (try clear hb2); (try clear hk); (try clear hi); (try clear ho0); (try clear ho1)) | ((with_reducible refine gate_dst (N := 12) rfl ?_); refine box_event ?hg (N := 12) ?hd (cs := #[.int .i64 0, .slice none 0 0, .slice none 0 0]) (t := 26) ?hr ?_; (case hd => rfl); (case hg => rfl); (case hr => first | (go_simp; done) | (go_simp; rfl)); intro gb383 hg w38 hbox hb; replace HO352 := Aside0.mk (Kd.R_below (uR HO352) hb); replace HO355 := Aside0.mk (Kd.R_below (uR HO355) hb); replace HO359 := Aside0.mk (Kd.R_below (uR HO359) hb); replace HO362 := Aside0.mk (Kd.V_below (Kd.V_elderB (by (with_reducible repeat (first | apply Kd.V_alloc | apply Kd.V_drewN | apply Kd.V_drew)); exact HO362.out) gb383 (Nat.le_of_eq hg.symm)) hb); replace HO369 := Aside0.mk (Kd.R_below (uR HO369) hb); replace HO372 := Aside0.mk (Kd.R_below (uR HO372) hb); replace HO377 := Aside0.mk (Kd.R_below (uR HO377) hb); replace HO380 := Aside0.mk (Kd.R_below (uR HO380) hb); have BK383 := Aside0.mk (hbox); have GW383 := nG HB hg; have GE383 := nG HB hg; have GI383 := gI GE383; replace HB := Aside0.mk (below_step (uN HB) hb); have NB347_383 := nL BK347 hg; have NB383_347 := nR BK347 hg; replace BK347 := kB BK347 hb; have NB365_383 := nL BK365 hg; have NB383_365 := nR BK365 hg; replace BK365 := kB BK365 hb; have NB373_383 := nL BK373 hg; have NB383_373 := nR BK373 hg; replace BK373 := kB BK373 hb; clear hb hbox hg; have hnb39 := NB383_347.out; have hnc39 := NB347_383.out; have hnb40 := NB383_365.out; have hnc40 := NB365_383.out; have hnb41 := NB383_373.out; have hnc41 := NB373_383.out; obtain ⟨hcz42_0, hcz42_1, hcz42_2, hfz42_0, hfz42_1, hfz42_2⟩ := ce3 BK383; obtain ⟨Ao43, co43, eo43⟩ := Kd.R_slice HO377.out; subst eo43; obtain ⟨Ao44, co44, eo44⟩ := Kd.R_slice HO380.out; subst eo44))
 (try simp only [Act.put, setIfInBounds_toArray, set_cons_zero, set_cons_succ])
 go_cut [61] (fun v61 wc => ∃ (kq : Nat) (x61_14 : Bool), v61 = .bool x61_14 ∧ Aside0 (laws_FnExactCuckooInsert.j0 kq a1 a2 t363 t364 t381 t382 x61_14 a0_0 l0_1 l0_2 t356 t357 t360 t366 t367 t370 t374 t375 t378 = some r) ∧ Aside0 (kq ≤ k) ∧ Aside0 (Kd.R Kd.string 9 wc w.heap.size (fun k_ => some k_ ≠ ((.slice Ao35 t367.length co35) : Value).ownBlock ∧ some k_ ≠ ((.slice Ao36 t370.length co36) : Value).ownBlock ∧ some k_ ≠ ((.slice Ao43 t375.length co43) : Value).ownBlock ∧ some k_ ≠ ((.slice Ao44 t378.length co44) : Value).ownBlock) (.slice Ao27 t357.length co27) t357) ∧ Aside0 (Kd.V Kd.string 9 wc w.heap.size (fun k_ => some k_ ≠ ((.slice Ao27 t357.length co27) : Value).ownBlock ∧ some k_ ≠ ((.slice Ao35 t367.length co35) : Value).ownBlock ∧ some k_ ≠ ((.slice Ao36 t370.length co36) : Value).ownBlock ∧ some k_ ≠ ((.slice Ao43 t375.length co43) : Value).ownBlock ∧ some k_ ≠ ((.slice Ao44 t378.length co44) : Value).ownBlock ∧ k_ ≠ gb347 ∧ k_ ≠ gb365 ∧ k_ ≠ gb373 ∧ k_ ≠ gb383) (.slice Ao28 t360.length co28) t360) ∧ Aside0 (Kd.R Kd.string 9 wc w.heap.size (fun k_ => some k_ ≠ ((.slice Ao27 t357.length co27) : Value).ownBlock ∧ some k_ ≠ ((.slice Ao36 t370.length co36) : Value).ownBlock ∧ some k_ ≠ ((.slice Ao43 t375.length co43) : Value).ownBlock ∧ some k_ ≠ ((.slice Ao44 t378.length co44) : Value).ownBlock) (.slice Ao35 t367.length co35) t367) ∧ Aside0 (Kd.R Kd.string 9 wc w.heap.size (fun k_ => some k_ ≠ ((.slice Ao27 t357.length co27) : Value).ownBlock ∧ some k_ ≠ ((.slice Ao35 t367.length co35) : Value).ownBlock ∧ some k_ ≠ ((.slice Ao43 t375.length co43) : Value).ownBlock ∧ some k_ ≠ ((.slice Ao44 t378.length co44) : Value).ownBlock) (.slice Ao36 t370.length co36) t370) ∧ Aside0 (Kd.R Kd.string 9 wc w.heap.size (fun k_ => some k_ ≠ ((.slice Ao27 t357.length co27) : Value).ownBlock ∧ some k_ ≠ ((.slice Ao35 t367.length co35) : Value).ownBlock ∧ some k_ ≠ ((.slice Ao36 t370.length co36) : Value).ownBlock ∧ some k_ ≠ ((.slice Ao44 t378.length co44) : Value).ownBlock) (.slice Ao43 t375.length co43) t375) ∧ Aside0 (Kd.R Kd.string 9 wc w.heap.size (fun k_ => some k_ ≠ ((.slice Ao27 t357.length co27) : Value).ownBlock ∧ some k_ ≠ ((.slice Ao35 t367.length co35) : Value).ownBlock ∧ some k_ ≠ ((.slice Ao36 t370.length co36) : Value).ownBlock ∧ some k_ ≠ ((.slice Ao43 t375.length co43) : Value).ownBlock) (.slice Ao44 t378.length co44) t378) ∧ Aside0 (wc.heap[gb347]? = some (.cells #[.int .i64 a0_0, (.slice A0_1 l0_1.length c0_1), (.slice A0_2 l0_2.length c0_2)] 24 (0, 0))) ∧ Aside0 (wc.heap[gb365]? = some (.cells #[.int .i64 t356, (.slice Ao27 t357.length co27), (.slice Ao28 t360.length co28)] 26 (0, 0))) ∧ Aside0 (wc.heap[gb373]? = some (.cells #[.int .i64 t366, (.slice Ao35 t367.length co35), (.slice Ao36 t370.length co36)] 26 (0, 0))) ∧ Aside0 (wc.heap[gb383]? = some (.cells #[.int .i64 t374, (.slice Ao43 t375.length co43), (.slice Ao44 t378.length co44)] 26 (0, 0))) ∧ Aside0 (Below w.heap.size w wc))
 case first =>
  have H := HC15.out
  clear HC15
  replace H := Option.bind_eq_some_iff.mp H
  obtain ⟨t384, A450, H⟩ := H
  try dsimp only at H
  have A45 := Aside0.mk A450
  clear A450
  by_cases c46 : t384 = true
  ·
   subst c46
   rw [if_pos rfl] at H
   by_cases c47 : t381 = t363
   ·
    rw [if_pos c47] at H
    have c47b0 : (t381 == t363) = true := beq_iff_eq.mpr c47
    have c47b1 : (t381 != t363) = false := bne_eq_false_iff_eq.mpr c47
    clear c47
    (first | rw [c47b0] | (simp only [i64_w, i32_w]; rw [c47b0]) | skip)
    have H' := Aside0.mk H
    clear H
    have hnb48 := NB383_347.out
    have hnc48 := NB347_383.out
    have hnb49 := NB383_365.out
    have hnc49 := NB365_383.out
    have hnb50 := NB383_373.out
    have hnc50 := NB373_383.out
    obtain ⟨hcz51_0, hcz51_1, hcz51_2, hfz51_0, hfz51_1, hfz51_2⟩ := ce3 BK383
    have hnb52 := NB365_347.out
    have hnc52 := NB347_365.out
    have hnb53 := NB365_373.out
    have hnc53 := NB373_365.out
    obtain ⟨hcz54_0, hcz54_1, hcz54_2, hfz54_0, hfz54_1, hfz54_2⟩ := ce3 BK365
    go_wp2_with (first | ((with_reducible refine gate_callee (f := 10) rfl ?_); refine goesL_ (some 50) rfl rfl Try.func10 (by kernel_rfl) rfl #[.agg #[.int .i64 t374, .slice Ao43 t375.length co43, .slice Ao44 t378.length co44], .agg #[.int .i64 t356, .slice Ao27 t357.length co27, .slice Ao28 t360.length co28]] rfl (by (try simp only [List.map_toArray, List.map_cons, List.map_nil]); first | done | rfl) ?_; (with_reducible refine (laws_eqCuckoo.calls k t374 _ _ t375 _ _ t378 t356 _ _ t357 _ _ t360 true _ ?side1 ?side2 ?side3 ?side4 ?side5 ?side6 ?side7 ?side8 A45.out).mono ?_); (case side1 => refine (Kd.R_reads' (e := 9) (base := w.heap.size) (ok := fun k_ => (((((some k_ ≠ (.slice Ao44 t378.length co44 : Value).ownBlock ∧ some k_ ≠ (.slice Ao21 t350.length co21 : Value).ownBlock) ∧ some k_ ≠ (.slice Ao22 t353.length co22 : Value).ownBlock) ∧ some k_ ≠ (.slice Ao27 t357.length co27 : Value).ownBlock) ∧ some k_ ≠ (.slice Ao35 t367.length co35 : Value).ownBlock) ∧ some k_ ≠ (.slice Ao36 t370.length co36 : Value).ownBlock)) (n := t375.length) (c := co43) ?_).2.2; exact (fS HO377 BK383 (by decide))); (case side2 => exact (Kd.R_reads' HO377.out).2.1); (case side3 => refine (Kd.R_reads' (e := 9) (base := w.heap.size) (ok := fun k_ => (((((some k_ ≠ (.slice Ao43 t375.length co43 : Value).ownBlock ∧ some k_ ≠ (.slice Ao21 t350.length co21 : Value).ownBlock) ∧ some k_ ≠ (.slice Ao22 t353.length co22 : Value).ownBlock) ∧ some k_ ≠ (.slice Ao27 t357.length co27 : Value).ownBlock) ∧ some k_ ≠ (.slice Ao35 t367.length co35 : Value).ownBlock) ∧ some k_ ≠ (.slice Ao36 t370.length co36 : Value).ownBlock)) (n := t378.length) (c := co44) ?_).2.2; exact (fS HO380 BK383 (by decide))); (case side4 => exact (Kd.R_reads' HO380.out).2.1); (case side5 => refine (Kd.R_reads' (e := 9) (base := w.heap.size) (ok := fun k_ => ((((((True ∧ some k_ ≠ (.slice Ao21 t350.length co21 : Value).ownBlock) ∧ some k_ ≠ (.slice Ao22 t353.length co22 : Value).ownBlock) ∧ some k_ ≠ (.slice Ao35 t367.length co35 : Value).ownBlock) ∧ some k_ ≠ (.slice Ao36 t370.length co36 : Value).ownBlock) ∧ some k_ ≠ (.slice Ao43 t375.length co43 : Value).ownBlock) ∧ some k_ ≠ (.slice Ao44 t378.length co44 : Value).ownBlock)) (n := t357.length) (c := co27) ?_).2.2; exact (fS HO359 BK383 (by decide))); (case side6 => exact (Kd.R_reads' HO359.out).2.1); (case side7 => refine (Kd.V_reads' (e := 9) (base := w.heap.size) (ok := fun k_ => ((((((((some k_ ≠ (.slice Ao27 t357.length co27 : Value).ownBlock ∧ (some k_ ≠ (.slice Ao21 t350.length co21 : Value).ownBlock ∧ (some k_ ≠ (.slice Ao22 t353.length co22 : Value).ownBlock ∧ k_ ≠ gb347))) ∧ k_ ≠ gb365) ∧ some k_ ≠ (.slice Ao35 t367.length co35 : Value).ownBlock) ∧ some k_ ≠ (.slice Ao36 t370.length co36 : Value).ownBlock) ∧ k_ ≠ gb373) ∧ some k_ ≠ (.slice Ao43 t375.length co43 : Value).ownBlock) ∧ some k_ ≠ (.slice Ao44 t378.length co44 : Value).ownBlock) ∧ k_ ≠ gb383)) (n := t360.length) (c := co28) ?_).2.2; exact (by (with_reducible repeat (first | apply Kd.V_alloc | apply Kd.V_drewN | apply Kd.V_drew)); exact (Kd.V_mono (Kd.V_far (p := ⟨gb383, 2, none⟩) (Kd.V_far (p := ⟨gb383, 1, none⟩) (Kd.V_far (p := ⟨gb383, 0, none⟩) (Kd.V_mono HO362.out (fun k_ hk => (⟨hk, hk.2⟩ : _ ∧ k_ ≠ gb383))) (fun _ hk => hk.2) (.int .i64 t374)) (fun _ hk => hk.2) (.slice Ao43 t375.length co43)) (fun _ hk => hk.2) (.slice Ao44 t378.length co44)) (fun _ h_ => h_.1)))); (case side8 => exact (Kd.V_reads' HO362.out).2.1); rintro e w55 ⟨rfl, hb⟩; refine ⟨_, rfl, ?_⟩; replace HO352 := Aside0.mk (Kd.R_below (fS HO352 BK383 (by decide)) hb); replace HO355 := Aside0.mk (Kd.R_below (fS HO355 BK383 (by decide)) hb); replace HO359 := Aside0.mk (Kd.R_below (fS HO359 BK383 (by decide)) hb); replace HO362 := Aside0.mk (Kd.V_below (by (with_reducible repeat (first | apply Kd.V_alloc | apply Kd.V_drewN | apply Kd.V_drew)); exact (Kd.V_mono (Kd.V_far (p := ⟨gb383, 2, none⟩) (Kd.V_far (p := ⟨gb383, 1, none⟩) (Kd.V_far (p := ⟨gb383, 0, none⟩) (Kd.V_mono HO362.out (fun k_ hk => (⟨hk, hk.2⟩ : _ ∧ k_ ≠ gb383))) (fun _ hk => hk.2) (.int .i64 t374)) (fun _ hk => hk.2) (.slice Ao43 t375.length co43)) (fun _ hk => hk.2) (.slice Ao44 t378.length co44)) (fun _ h_ => h_.1))) hb); replace HO369 := Aside0.mk (Kd.R_below (fS HO369 BK383 (by decide)) hb); replace HO372 := Aside0.mk (Kd.R_below (fS HO372 BK383 (by decide)) hb); replace HO377 := Aside0.mk (Kd.R_below (fS HO377 BK383 (by decide)) hb); replace HO380 := Aside0.mk (Kd.R_below (fS HO380 BK383 (by decide)) hb); replace BK347 := Aside0.mk (blk_below (g := gb347) (o := .cells #[.int .i64 a0_0, .slice A0_1 l0_1.length c0_1, .slice A0_2 l0_2.length c0_2] 24 (0, 0)) (by refine uW ?_; refine blk_far ?_ NB347_383.out _; refine uW ?_; refine blk_far ?_ NB347_383.out _; refine uW ?_; refine blk_far ?_ NB347_383.out _; refine uW ?_; exact BK347.out) hb); replace BK365 := Aside0.mk (blk_below (g := gb365) (o := .cells #[.int .i64 t356, .slice Ao27 t357.length co27, .slice Ao28 t360.length co28] 26 (0, 0)) (by refine uW ?_; refine blk_far ?_ NB365_383.out _; refine uW ?_; refine blk_far ?_ NB365_383.out _; refine uW ?_; refine blk_far ?_ NB365_383.out _; refine uW ?_; exact BK365.out) hb); replace BK373 := Aside0.mk (blk_below (g := gb373) (o := .cells #[.int .i64 t366, .slice Ao35 t367.length co35, .slice Ao36 t370.length co36] 26 (0, 0)) (by refine uW ?_; refine blk_far ?_ NB373_383.out _; refine uW ?_; refine blk_far ?_ NB373_383.out _; refine uW ?_; refine blk_far ?_ NB373_383.out _; refine uW ?_; exact BK373.out) hb); replace BK383 := Aside0.mk (blk_below (g := gb383) (o := .cells #[.int .i64 t374, .slice Ao43 t375.length co43, .slice Ao44 t378.length co44] 26 (0, 0)) (by refine uW ?_; refine blk_put (cs := #[.int .i64 t374, .slice Ao43 t375.length co43, .slice none 0 0]) ?_ 2 _ rfl; refine uW ?_; refine blk_put (cs := #[.int .i64 t374, .slice none 0 0, .slice none 0 0]) ?_ 1 _ rfl; refine uW ?_; refine blk_put (cs := #[.int .i64 0, .slice none 0 0, .slice none 0 0]) ?_ 0 _ rfl; refine uW ?_; exact BK383.out) hb); replace HB := Aside0.mk (below_step (uN HB) hb); (try clear hb); (try clear hb2); (try clear hk); (try clear hi)))
    go_meet
    case rel => exact ⟨_, ((t382 != t364)), (by first | rfl | (simp; done) | (simp [*]; done)), H', ⟨by first | omega | exact Nat.le_refl _⟩, ⟨by (with_reducible repeat (first | apply Kd.R_alloc | apply Kd.R_drewN | apply Kd.R_drew)); exact Kd.R_mono HO359.out (fun _ hk => ⟨hk.1.1.1.2, ⟨hk.1.1.2, ⟨hk.1.2, hk.2⟩⟩⟩)⟩, ⟨by (with_reducible repeat (first | apply Kd.V_alloc | apply Kd.V_drewN | apply Kd.V_drew)); exact Kd.V_mono HO362.out (fun _ hk => ⟨hk.1.1.1.1.1.1.1.1, ⟨hk.1.1.1.1.1.2, ⟨hk.1.1.1.1.2, ⟨hk.1.1.2, ⟨hk.1.2, ⟨hk.1.1.1.1.1.1.1.2.2.2, ⟨hk.1.1.1.1.1.1.2, ⟨hk.1.1.1.2, hk.2⟩⟩⟩⟩⟩⟩⟩⟩)⟩, ⟨by (with_reducible repeat (first | apply Kd.R_alloc | apply Kd.R_drewN | apply Kd.R_drew)); exact Kd.R_mono HO369.out (fun _ hk => ⟨hk.1.1.2, ⟨hk.1.1.1.1.1, ⟨hk.1.2, hk.2⟩⟩⟩)⟩, ⟨by (with_reducible repeat (first | apply Kd.R_alloc | apply Kd.R_drewN | apply Kd.R_drew)); exact Kd.R_mono HO372.out (fun _ hk => ⟨hk.1.1.2, ⟨hk.1.1.1.1.1, ⟨hk.1.2, hk.2⟩⟩⟩)⟩, ⟨by (with_reducible repeat (first | apply Kd.R_alloc | apply Kd.R_drewN | apply Kd.R_drew)); exact Kd.R_mono HO377.out (fun _ hk => ⟨hk.1.1.2, ⟨hk.1.2, ⟨hk.2, hk.1.1.1.1.1⟩⟩⟩)⟩, ⟨by (with_reducible repeat (first | apply Kd.R_alloc | apply Kd.R_drewN | apply Kd.R_drew)); exact Kd.R_mono HO380.out (fun _ hk => ⟨hk.1.1.2, ⟨hk.1.2, ⟨hk.2, hk.1.1.1.1.1⟩⟩⟩)⟩, ⟨by refine uW ?_; exact BK347.out⟩, ⟨by refine uW ?_; exact BK365.out⟩, ⟨by refine uW ?_; exact BK373.out⟩, ⟨by refine uW ?_; exact BK383.out⟩, ⟨uN HB⟩⟩
   rw [if_neg c47] at H
   have c47b0 : (t381 == t363) = false := beq_eq_false_iff_ne.mpr c47
   have c47b1 : (t381 != t363) = true := bne_iff_ne.mpr c47
   (first | rw [c47b0] | (simp only [i64_w, i32_w]; rw [c47b0]) | skip)
   have H' := Aside0.mk H
   clear H
   have hnb56 := NB383_347.out
   have hnc56 := NB347_383.out
   have hnb57 := NB383_365.out
   have hnc57 := NB365_383.out
   have hnb58 := NB383_373.out
   have hnc58 := NB373_383.out
   obtain ⟨hcz59_0, hcz59_1, hcz59_2, hfz59_0, hfz59_1, hfz59_2⟩ := ce3 BK383
   have hnb60 := NB365_347.out
   have hnc60 := NB347_365.out
   have hnb61 := NB365_373.out
   have hnc61 := NB373_365.out
   obtain ⟨hcz62_0, hcz62_1, hcz62_2, hfz62_0, hfz62_1, hfz62_2⟩ := ce3 BK365
   go_wp2_with (first | ((with_reducible refine gate_callee (f := 10) rfl ?_); refine goesL_ (some 50) rfl rfl Try.func10 (by kernel_rfl) rfl #[.agg #[.int .i64 t374, .slice Ao43 t375.length co43, .slice Ao44 t378.length co44], .agg #[.int .i64 t356, .slice Ao27 t357.length co27, .slice Ao28 t360.length co28]] rfl (by (try simp only [List.map_toArray, List.map_cons, List.map_nil]); first | done | rfl) ?_; (with_reducible refine (laws_eqCuckoo.calls k t374 _ _ t375 _ _ t378 t356 _ _ t357 _ _ t360 true _ ?side1 ?side2 ?side3 ?side4 ?side5 ?side6 ?side7 ?side8 A45.out).mono ?_); (case side1 => refine (Kd.R_reads' (e := 9) (base := w.heap.size) (ok := fun k_ => (((((some k_ ≠ (.slice Ao44 t378.length co44 : Value).ownBlock ∧ some k_ ≠ (.slice Ao21 t350.length co21 : Value).ownBlock) ∧ some k_ ≠ (.slice Ao22 t353.length co22 : Value).ownBlock) ∧ some k_ ≠ (.slice Ao27 t357.length co27 : Value).ownBlock) ∧ some k_ ≠ (.slice Ao35 t367.length co35 : Value).ownBlock) ∧ some k_ ≠ (.slice Ao36 t370.length co36 : Value).ownBlock)) (n := t375.length) (c := co43) ?_).2.2; exact (fS HO377 BK383 (by decide))); (case side2 => exact (Kd.R_reads' HO377.out).2.1); (case side3 => refine (Kd.R_reads' (e := 9) (base := w.heap.size) (ok := fun k_ => (((((some k_ ≠ (.slice Ao43 t375.length co43 : Value).ownBlock ∧ some k_ ≠ (.slice Ao21 t350.length co21 : Value).ownBlock) ∧ some k_ ≠ (.slice Ao22 t353.length co22 : Value).ownBlock) ∧ some k_ ≠ (.slice Ao27 t357.length co27 : Value).ownBlock) ∧ some k_ ≠ (.slice Ao35 t367.length co35 : Value).ownBlock) ∧ some k_ ≠ (.slice Ao36 t370.length co36 : Value).ownBlock)) (n := t378.length) (c := co44) ?_).2.2; exact (fS HO380 BK383 (by decide))); (case side4 => exact (Kd.R_reads' HO380.out).2.1); (case side5 => refine (Kd.R_reads' (e := 9) (base := w.heap.size) (ok := fun k_ => ((((((True ∧ some k_ ≠ (.slice Ao21 t350.length co21 : Value).ownBlock) ∧ some k_ ≠ (.slice Ao22 t353.length co22 : Value).ownBlock) ∧ some k_ ≠ (.slice Ao35 t367.length co35 : Value).ownBlock) ∧ some k_ ≠ (.slice Ao36 t370.length co36 : Value).ownBlock) ∧ some k_ ≠ (.slice Ao43 t375.length co43 : Value).ownBlock) ∧ some k_ ≠ (.slice Ao44 t378.length co44 : Value).ownBlock)) (n := t357.length) (c := co27) ?_).2.2; exact (fS HO359 BK383 (by decide))); (case side6 => exact (Kd.R_reads' HO359.out).2.1); (case side7 => refine (Kd.V_reads' (e := 9) (base := w.heap.size) (ok := fun k_ => ((((((((some k_ ≠ (.slice Ao27 t357.length co27 : Value).ownBlock ∧ (some k_ ≠ (.slice Ao21 t350.length co21 : Value).ownBlock ∧ (some k_ ≠ (.slice Ao22 t353.length co22 : Value).ownBlock ∧ k_ ≠ gb347))) ∧ k_ ≠ gb365) ∧ some k_ ≠ (.slice Ao35 t367.length co35 : Value).ownBlock) ∧ some k_ ≠ (.slice Ao36 t370.length co36 : Value).ownBlock) ∧ k_ ≠ gb373) ∧ some k_ ≠ (.slice Ao43 t375.length co43 : Value).ownBlock) ∧ some k_ ≠ (.slice Ao44 t378.length co44 : Value).ownBlock) ∧ k_ ≠ gb383)) (n := t360.length) (c := co28) ?_).2.2; exact (by (with_reducible repeat (first | apply Kd.V_alloc | apply Kd.V_drewN | apply Kd.V_drew)); exact (Kd.V_mono (Kd.V_far (p := ⟨gb383, 2, none⟩) (Kd.V_far (p := ⟨gb383, 1, none⟩) (Kd.V_far (p := ⟨gb383, 0, none⟩) (Kd.V_mono HO362.out (fun k_ hk => (⟨hk, hk.2⟩ : _ ∧ k_ ≠ gb383))) (fun _ hk => hk.2) (.int .i64 t374)) (fun _ hk => hk.2) (.slice Ao43 t375.length co43)) (fun _ hk => hk.2) (.slice Ao44 t378.length co44)) (fun _ h_ => h_.1)))); (case side8 => exact (Kd.V_reads' HO362.out).2.1); rintro e w63 ⟨rfl, hb⟩; refine ⟨_, rfl, ?_⟩; replace HO352 := Aside0.mk (Kd.R_below (fS HO352 BK383 (by decide)) hb); replace HO355 := Aside0.mk (Kd.R_below (fS HO355 BK383 (by decide)) hb); replace HO359 := Aside0.mk (Kd.R_below (fS HO359 BK383 (by decide)) hb); replace HO362 := Aside0.mk (Kd.V_below (by (with_reducible repeat (first | apply Kd.V_alloc | apply Kd.V_drewN | apply Kd.V_drew)); exact (Kd.V_mono (Kd.V_far (p := ⟨gb383, 2, none⟩) (Kd.V_far (p := ⟨gb383, 1, none⟩) (Kd.V_far (p := ⟨gb383, 0, none⟩) (Kd.V_mono HO362.out (fun k_ hk => (⟨hk, hk.2⟩ : _ ∧ k_ ≠ gb383))) (fun _ hk => hk.2) (.int .i64 t374)) (fun _ hk => hk.2) (.slice Ao43 t375.length co43)) (fun _ hk => hk.2) (.slice Ao44 t378.length co44)) (fun _ h_ => h_.1))) hb); replace HO369 := Aside0.mk (Kd.R_below (fS HO369 BK383 (by decide)) hb); replace HO372 := Aside0.mk (Kd.R_below (fS HO372 BK383 (by decide)) hb); replace HO377 := Aside0.mk (Kd.R_below (fS HO377 BK383 (by decide)) hb); replace HO380 := Aside0.mk (Kd.R_below (fS HO380 BK383 (by decide)) hb); replace BK347 := Aside0.mk (blk_below (g := gb347) (o := .cells #[.int .i64 a0_0, .slice A0_1 l0_1.length c0_1, .slice A0_2 l0_2.length c0_2] 24 (0, 0)) (by refine uW ?_; refine blk_far ?_ NB347_383.out _; refine uW ?_; refine blk_far ?_ NB347_383.out _; refine uW ?_; refine blk_far ?_ NB347_383.out _; refine uW ?_; exact BK347.out) hb); replace BK365 := Aside0.mk (blk_below (g := gb365) (o := .cells #[.int .i64 t356, .slice Ao27 t357.length co27, .slice Ao28 t360.length co28] 26 (0, 0)) (by refine uW ?_; refine blk_far ?_ NB365_383.out _; refine uW ?_; refine blk_far ?_ NB365_383.out _; refine uW ?_; refine blk_far ?_ NB365_383.out _; refine uW ?_; exact BK365.out) hb); replace BK373 := Aside0.mk (blk_below (g := gb373) (o := .cells #[.int .i64 t366, .slice Ao35 t367.length co35, .slice Ao36 t370.length co36] 26 (0, 0)) (by refine uW ?_; refine blk_far ?_ NB373_383.out _; refine uW ?_; refine blk_far ?_ NB373_383.out _; refine uW ?_; refine blk_far ?_ NB373_383.out _; refine uW ?_; exact BK373.out) hb); replace BK383 := Aside0.mk (blk_below (g := gb383) (o := .cells #[.int .i64 t374, .slice Ao43 t375.length co43, .slice Ao44 t378.length co44] 26 (0, 0)) (by refine uW ?_; refine blk_put (cs := #[.int .i64 t374, .slice Ao43 t375.length co43, .slice none 0 0]) ?_ 2 _ rfl; refine uW ?_; refine blk_put (cs := #[.int .i64 t374, .slice none 0 0, .slice none 0 0]) ?_ 1 _ rfl; refine uW ?_; refine blk_put (cs := #[.int .i64 0, .slice none 0 0, .slice none 0 0]) ?_ 0 _ rfl; refine uW ?_; exact BK383.out) hb); replace HB := Aside0.mk (below_step (uN HB) hb); (try clear hb); (try clear hb2); (try clear hk); (try clear hi)))
   go_meet
   case rel => exact ⟨_, (true), (by first | rfl | (simp; done) | (simp [*]; done)), H', ⟨by first | omega | exact Nat.le_refl _⟩, ⟨by (with_reducible repeat (first | apply Kd.R_alloc | apply Kd.R_drewN | apply Kd.R_drew)); exact Kd.R_mono HO359.out (fun _ hk => ⟨hk.1.1.1.2, ⟨hk.1.1.2, ⟨hk.1.2, hk.2⟩⟩⟩)⟩, ⟨by (with_reducible repeat (first | apply Kd.V_alloc | apply Kd.V_drewN | apply Kd.V_drew)); exact Kd.V_mono HO362.out (fun _ hk => ⟨hk.1.1.1.1.1.1.1.1, ⟨hk.1.1.1.1.1.2, ⟨hk.1.1.1.1.2, ⟨hk.1.1.2, ⟨hk.1.2, ⟨hk.1.1.1.1.1.1.1.2.2.2, ⟨hk.1.1.1.1.1.1.2, ⟨hk.1.1.1.2, hk.2⟩⟩⟩⟩⟩⟩⟩⟩)⟩, ⟨by (with_reducible repeat (first | apply Kd.R_alloc | apply Kd.R_drewN | apply Kd.R_drew)); exact Kd.R_mono HO369.out (fun _ hk => ⟨hk.1.1.2, ⟨hk.1.1.1.1.1, ⟨hk.1.2, hk.2⟩⟩⟩)⟩, ⟨by (with_reducible repeat (first | apply Kd.R_alloc | apply Kd.R_drewN | apply Kd.R_drew)); exact Kd.R_mono HO372.out (fun _ hk => ⟨hk.1.1.2, ⟨hk.1.1.1.1.1, ⟨hk.1.2, hk.2⟩⟩⟩)⟩, ⟨by (with_reducible repeat (first | apply Kd.R_alloc | apply Kd.R_drewN | apply Kd.R_drew)); exact Kd.R_mono HO377.out (fun _ hk => ⟨hk.1.1.2, ⟨hk.1.2, ⟨hk.2, hk.1.1.1.1.1⟩⟩⟩)⟩, ⟨by (with_reducible repeat (first | apply Kd.R_alloc | apply Kd.R_drewN | apply Kd.R_drew)); exact Kd.R_mono HO380.out (fun _ hk => ⟨hk.1.1.2, ⟨hk.1.2, ⟨hk.2, hk.1.1.1.1.1⟩⟩⟩)⟩, ⟨by refine uW ?_; exact BK347.out⟩, ⟨by refine uW ?_; exact BK365.out⟩, ⟨by refine uW ?_; exact BK373.out⟩, ⟨by refine uW ?_; exact BK383.out⟩, ⟨uN HB⟩⟩
  replace c46 := Bool.eq_false_iff.mpr c46
  subst c46
  rw [if_neg (show ¬ (false = true) by decide)] at H
  have H' := Aside0.mk H
  clear H
  have hnb64 := NB383_347.out
  have hnc64 := NB347_383.out
  have hnb65 := NB383_365.out
  have hnc65 := NB365_383.out
  have hnb66 := NB383_373.out
  have hnc66 := NB373_383.out
  obtain ⟨hcz67_0, hcz67_1, hcz67_2, hfz67_0, hfz67_1, hfz67_2⟩ := ce3 BK383
  have hnb68 := NB365_347.out
  have hnc68 := NB347_365.out
  have hnb69 := NB365_373.out
  have hnc69 := NB373_365.out
  obtain ⟨hcz70_0, hcz70_1, hcz70_2, hfz70_0, hfz70_1, hfz70_2⟩ := ce3 BK365
  go_wp2_with (first | ((with_reducible refine gate_callee (f := 10) rfl ?_); refine goesL_ (some 50) rfl rfl Try.func10 (by kernel_rfl) rfl #[.agg #[.int .i64 t374, .slice Ao43 t375.length co43, .slice Ao44 t378.length co44], .agg #[.int .i64 t356, .slice Ao27 t357.length co27, .slice Ao28 t360.length co28]] rfl (by (try simp only [List.map_toArray, List.map_cons, List.map_nil]); first | done | rfl) ?_; (with_reducible refine (laws_eqCuckoo.calls k t374 _ _ t375 _ _ t378 t356 _ _ t357 _ _ t360 false _ ?side1 ?side2 ?side3 ?side4 ?side5 ?side6 ?side7 ?side8 A45.out).mono ?_); (case side1 => refine (Kd.R_reads' (e := 9) (base := w.heap.size) (ok := fun k_ => (((((some k_ ≠ (.slice Ao44 t378.length co44 : Value).ownBlock ∧ some k_ ≠ (.slice Ao21 t350.length co21 : Value).ownBlock) ∧ some k_ ≠ (.slice Ao22 t353.length co22 : Value).ownBlock) ∧ some k_ ≠ (.slice Ao27 t357.length co27 : Value).ownBlock) ∧ some k_ ≠ (.slice Ao35 t367.length co35 : Value).ownBlock) ∧ some k_ ≠ (.slice Ao36 t370.length co36 : Value).ownBlock)) (n := t375.length) (c := co43) ?_).2.2; exact (fS HO377 BK383 (by decide))); (case side2 => exact (Kd.R_reads' HO377.out).2.1); (case side3 => refine (Kd.R_reads' (e := 9) (base := w.heap.size) (ok := fun k_ => (((((some k_ ≠ (.slice Ao43 t375.length co43 : Value).ownBlock ∧ some k_ ≠ (.slice Ao21 t350.length co21 : Value).ownBlock) ∧ some k_ ≠ (.slice Ao22 t353.length co22 : Value).ownBlock) ∧ some k_ ≠ (.slice Ao27 t357.length co27 : Value).ownBlock) ∧ some k_ ≠ (.slice Ao35 t367.length co35 : Value).ownBlock) ∧ some k_ ≠ (.slice Ao36 t370.length co36 : Value).ownBlock)) (n := t378.length) (c := co44) ?_).2.2; exact (fS HO380 BK383 (by decide))); (case side4 => exact (Kd.R_reads' HO380.out).2.1); (case side5 => refine (Kd.R_reads' (e := 9) (base := w.heap.size) (ok := fun k_ => ((((((True ∧ some k_ ≠ (.slice Ao21 t350.length co21 : Value).ownBlock) ∧ some k_ ≠ (.slice Ao22 t353.length co22 : Value).ownBlock) ∧ some k_ ≠ (.slice Ao35 t367.length co35 : Value).ownBlock) ∧ some k_ ≠ (.slice Ao36 t370.length co36 : Value).ownBlock) ∧ some k_ ≠ (.slice Ao43 t375.length co43 : Value).ownBlock) ∧ some k_ ≠ (.slice Ao44 t378.length co44 : Value).ownBlock)) (n := t357.length) (c := co27) ?_).2.2; exact (fS HO359 BK383 (by decide))); (case side6 => exact (Kd.R_reads' HO359.out).2.1); (case side7 => refine (Kd.V_reads' (e := 9) (base := w.heap.size) (ok := fun k_ => ((((((((some k_ ≠ (.slice Ao27 t357.length co27 : Value).ownBlock ∧ (some k_ ≠ (.slice Ao21 t350.length co21 : Value).ownBlock ∧ (some k_ ≠ (.slice Ao22 t353.length co22 : Value).ownBlock ∧ k_ ≠ gb347))) ∧ k_ ≠ gb365) ∧ some k_ ≠ (.slice Ao35 t367.length co35 : Value).ownBlock) ∧ some k_ ≠ (.slice Ao36 t370.length co36 : Value).ownBlock) ∧ k_ ≠ gb373) ∧ some k_ ≠ (.slice Ao43 t375.length co43 : Value).ownBlock) ∧ some k_ ≠ (.slice Ao44 t378.length co44 : Value).ownBlock) ∧ k_ ≠ gb383)) (n := t360.length) (c := co28) ?_).2.2; exact (by (with_reducible repeat (first | apply Kd.V_alloc | apply Kd.V_drewN | apply Kd.V_drew)); exact (Kd.V_mono (Kd.V_far (p := ⟨gb383, 2, none⟩) (Kd.V_far (p := ⟨gb383, 1, none⟩) (Kd.V_far (p := ⟨gb383, 0, none⟩) (Kd.V_mono HO362.out (fun k_ hk => (⟨hk, hk.2⟩ : _ ∧ k_ ≠ gb383))) (fun _ hk => hk.2) (.int .i64 t374)) (fun _ hk => hk.2) (.slice Ao43 t375.length co43)) (fun _ hk => hk.2) (.slice Ao44 t378.length co44)) (fun _ h_ => h_.1)))); (case side8 => exact (Kd.V_reads' HO362.out).2.1); rintro e w71 ⟨rfl, hb⟩; refine ⟨_, rfl, ?_⟩; replace HO352 := Aside0.mk (Kd.R_below (fS HO352 BK383 (by decide)) hb); replace HO355 := Aside0.mk (Kd.R_below (fS HO355 BK383 (by decide)) hb); replace HO359 := Aside0.mk (Kd.R_below (fS HO359 BK383 (by decide)) hb); replace HO362 := Aside0.mk (Kd.V_below (by (with_reducible repeat (first | apply Kd.V_alloc | apply Kd.V_drewN | apply Kd.V_drew)); exact (Kd.V_mono (Kd.V_far (p := ⟨gb383, 2, none⟩) (Kd.V_far (p := ⟨gb383, 1, none⟩) (Kd.V_far (p := ⟨gb383, 0, none⟩) (Kd.V_mono HO362.out (fun k_ hk => (⟨hk, hk.2⟩ : _ ∧ k_ ≠ gb383))) (fun _ hk => hk.2) (.int .i64 t374)) (fun _ hk => hk.2) (.slice Ao43 t375.length co43)) (fun _ hk => hk.2) (.slice Ao44 t378.length co44)) (fun _ h_ => h_.1))) hb); replace HO369 := Aside0.mk (Kd.R_below (fS HO369 BK383 (by decide)) hb); replace HO372 := Aside0.mk (Kd.R_below (fS HO372 BK383 (by decide)) hb); replace HO377 := Aside0.mk (Kd.R_below (fS HO377 BK383 (by decide)) hb); replace HO380 := Aside0.mk (Kd.R_below (fS HO380 BK383 (by decide)) hb); replace BK347 := Aside0.mk (blk_below (g := gb347) (o := .cells #[.int .i64 a0_0, .slice A0_1 l0_1.length c0_1, .slice A0_2 l0_2.length c0_2] 24 (0, 0)) (by refine uW ?_; refine blk_far ?_ NB347_383.out _; refine uW ?_; refine blk_far ?_ NB347_383.out _; refine uW ?_; refine blk_far ?_ NB347_383.out _; refine uW ?_; exact BK347.out) hb); replace BK365 := Aside0.mk (blk_below (g := gb365) (o := .cells #[.int .i64 t356, .slice Ao27 t357.length co27, .slice Ao28 t360.length co28] 26 (0, 0)) (by refine uW ?_; refine blk_far ?_ NB365_383.out _; refine uW ?_; refine blk_far ?_ NB365_383.out _; refine uW ?_; refine blk_far ?_ NB365_383.out _; refine uW ?_; exact BK365.out) hb); replace BK373 := Aside0.mk (blk_below (g := gb373) (o := .cells #[.int .i64 t366, .slice Ao35 t367.length co35, .slice Ao36 t370.length co36] 26 (0, 0)) (by refine uW ?_; refine blk_far ?_ NB373_383.out _; refine uW ?_; refine blk_far ?_ NB373_383.out _; refine uW ?_; refine blk_far ?_ NB373_383.out _; refine uW ?_; exact BK373.out) hb); replace BK383 := Aside0.mk (blk_below (g := gb383) (o := .cells #[.int .i64 t374, .slice Ao43 t375.length co43, .slice Ao44 t378.length co44] 26 (0, 0)) (by refine uW ?_; refine blk_put (cs := #[.int .i64 t374, .slice Ao43 t375.length co43, .slice none 0 0]) ?_ 2 _ rfl; refine uW ?_; refine blk_put (cs := #[.int .i64 t374, .slice none 0 0, .slice none 0 0]) ?_ 1 _ rfl; refine uW ?_; refine blk_put (cs := #[.int .i64 0, .slice none 0 0, .slice none 0 0]) ?_ 0 _ rfl; refine uW ?_; exact BK383.out) hb); replace HB := Aside0.mk (below_step (uN HB) hb); (try clear hb); (try clear hb2); (try clear hk); (try clear hi)))
  go_meet
  case rel => exact ⟨_, (true), (by first | rfl | (simp; done) | (simp [*]; done)), H', ⟨by first | omega | exact Nat.le_refl _⟩, ⟨by (with_reducible repeat (first | apply Kd.R_alloc | apply Kd.R_drewN | apply Kd.R_drew)); exact Kd.R_mono HO359.out (fun _ hk => ⟨hk.1.1.1.2, ⟨hk.1.1.2, ⟨hk.1.2, hk.2⟩⟩⟩)⟩, ⟨by (with_reducible repeat (first | apply Kd.V_alloc | apply Kd.V_drewN | apply Kd.V_drew)); exact Kd.V_mono HO362.out (fun _ hk => ⟨hk.1.1.1.1.1.1.1.1, ⟨hk.1.1.1.1.1.2, ⟨hk.1.1.1.1.2, ⟨hk.1.1.2, ⟨hk.1.2, ⟨hk.1.1.1.1.1.1.1.2.2.2, ⟨hk.1.1.1.1.1.1.2, ⟨hk.1.1.1.2, hk.2⟩⟩⟩⟩⟩⟩⟩⟩)⟩, ⟨by (with_reducible repeat (first | apply Kd.R_alloc | apply Kd.R_drewN | apply Kd.R_drew)); exact Kd.R_mono HO369.out (fun _ hk => ⟨hk.1.1.2, ⟨hk.1.1.1.1.1, ⟨hk.1.2, hk.2⟩⟩⟩)⟩, ⟨by (with_reducible repeat (first | apply Kd.R_alloc | apply Kd.R_drewN | apply Kd.R_drew)); exact Kd.R_mono HO372.out (fun _ hk => ⟨hk.1.1.2, ⟨hk.1.1.1.1.1, ⟨hk.1.2, hk.2⟩⟩⟩)⟩, ⟨by (with_reducible repeat (first | apply Kd.R_alloc | apply Kd.R_drewN | apply Kd.R_drew)); exact Kd.R_mono HO377.out (fun _ hk => ⟨hk.1.1.2, ⟨hk.1.2, ⟨hk.2, hk.1.1.1.1.1⟩⟩⟩)⟩, ⟨by (with_reducible repeat (first | apply Kd.R_alloc | apply Kd.R_drewN | apply Kd.R_drew)); exact Kd.R_mono HO380.out (fun _ hk => ⟨hk.1.1.2, ⟨hk.1.2, ⟨hk.2, hk.1.1.1.1.1⟩⟩⟩)⟩, ⟨by refine uW ?_; exact BK347.out⟩, ⟨by refine uW ?_; exact BK365.out⟩, ⟨by refine uW ?_; exact BK373.out⟩, ⟨by refine uW ?_; exact BK383.out⟩, ⟨uN HB⟩⟩
 case rest =>
  clear HC15
  try clear c1
  try clear c2
  try clear p2
  try clear c3
  try clear c4
  try clear c4b0
  try clear c4b1
  try clear c5
  try clear c6
  try clear c7
  try clear c7b0
  try clear c8
  try clear c10
  try clear c13
  try clear c14
  try clear c25
  try clear c32
  try clear c33
  try clear c39
  try clear c40
  try clear c41
  try clear c46
  try clear c47
  try clear c47b0
  try clear c47b1
  try clear c48
  try clear c49
  try clear c50
  try clear c52
  try clear c53
  try clear c56
  try clear c57
  try clear c58
  try clear c60
  try clear c61
  try clear c64
  try clear c65
  try clear c66
  try clear c68
  try clear c69
  try clear hcz17_0
  try clear hcz17_1
  try clear hcz17_2
  try clear hcz19_0
  try clear hcz19_1
  try clear hcz19_2
  try clear hcz26_0
  try clear hcz26_1
  try clear hcz26_2
  try clear hcz29_0
  try clear hcz29_1
  try clear hcz29_2
  try clear hcz34_0
  try clear hcz34_1
  try clear hcz34_2
  try clear hcz42_0
  try clear hcz42_1
  try clear hcz42_2
  try clear hcz51_0
  try clear hcz51_1
  try clear hcz51_2
  try clear hcz54_0
  try clear hcz54_1
  try clear hcz54_2
  try clear hcz59_0
  try clear hcz59_1
  try clear hcz59_2
  try clear hcz62_0
  try clear hcz62_1
  try clear hcz62_2
  try clear hcz67_0
  try clear hcz67_1
  try clear hcz67_2
  try clear hcz70_0
  try clear hcz70_1
  try clear hcz70_2
  try clear hcz9_0
  try clear hcz9_1
  try clear hcz9_2
  try clear hfz17_0
  try clear hfz17_1
  try clear hfz17_2
  try clear hfz19_0
  try clear hfz19_1
  try clear hfz19_2
  try clear hfz26_0
  try clear hfz26_1
  try clear hfz26_2
  try clear hfz29_0
  try clear hfz29_1
  try clear hfz29_2
  try clear hfz34_0
  try clear hfz34_1
  try clear hfz34_2
  try clear hfz42_0
  try clear hfz42_1
  try clear hfz42_2
  try clear hfz51_0
  try clear hfz51_1
  try clear hfz51_2
  try clear hfz54_0
  try clear hfz54_1
  try clear hfz54_2
  try clear hfz59_0
  try clear hfz59_1
  try clear hfz59_2
  try clear hfz62_0
  try clear hfz62_1
  try clear hfz62_2
  try clear hfz67_0
  try clear hfz67_1
  try clear hfz67_2
  try clear hfz70_0
  try clear hfz70_1
  try clear hfz70_2
  try clear hfz9_0
  try clear hfz9_1
  try clear hfz9_2
  obtain ⟨kq, x61_14, rfl, HA, HJ14, HO_366001, HO_366002, HO_374001, HO_374002, HO_384001, HO_384002, BK347, BK365, BK373, BK383, HB⟩ := hcut
  cases kq with
  | zero => exact absurd HA.out (by simp [laws_FnExactCuckooInsert.j0])
  | succ kj14 =>
   have H := HA.out
   clear HA
   simp only [laws_FnExactCuckooInsert.j0] at H
   by_cases c72 : x61_14 = true
   ·
    subst c72
    rw [if_pos rfl] at H
    obtain rfl := Option.some.inj H
    go_wp2
    go_ret
    exact ⟨by first | rfl | (simp [errW_none, errW_some] <;> rfl) | (simp [*, errW_none, errW_some] <;> rfl), uN HB⟩
   replace c72 := Bool.eq_false_iff.mpr c72
   subst c72
   rw [if_neg (show ¬ (false = true) by decide)] at H
   replace H := Option.bind_eq_some_iff.mp H
   obtain ⟨⟨t385, t386, t389⟩, A730, H⟩ := H
   try dsimp only at H
   have A73 := Aside0.mk A730
   clear A730
   replace H := Option.bind_eq_some_iff.mp H
   obtain ⟨t392, A740, H⟩ := H
   try dsimp only at H
   have A74 := Aside0.mk A740
   clear A740
   by_cases c75 : t392 = true
   ·
    subst c75
    rw [if_pos rfl] at H
    replace H := Option.bind_eq_some_iff.mp H
    obtain ⟨⟨t393, t394, t395⟩, A760, H⟩ := H
    try dsimp only at H
    have A76 := Aside0.mk A760
    clear A760
    have HC77 := Aside0.mk H
    clear H
    try go_wp2
    replace HO_366001 := Aside0.mk (Kd.R_drew HO_366001.out)
    replace HO_366002 := Aside0.mk (Kd.V_drew HO_366002.out)
    replace HO_374001 := Aside0.mk (Kd.R_drew HO_374001.out)
    replace HO_374002 := Aside0.mk (Kd.R_drew HO_374002.out)
    replace HO_384001 := Aside0.mk (Kd.R_drew HO_384001.out)
    replace HO_384002 := Aside0.mk (Kd.R_drew HO_384002.out)
    replace BK347 := Aside0.mk (blk_drew BK347.out)
    replace BK365 := Aside0.mk (blk_drew BK365.out)
    replace BK373 := Aside0.mk (blk_drew BK373.out)
    replace BK383 := Aside0.mk (blk_drew BK383.out)
    replace HB := Aside0.mk (below_drew1 HB.out)
    refine start_ (n := 5) (S := fun w' => w'.cell? ⟨gb373, 0, none⟩ = some (.int .i64 t366) ∧ w'.cell? ⟨gb373, 1, none⟩ = some (.slice Ao35 t367.length co35) ∧ w'.cell? ⟨gb373, 2, none⟩ = some (.slice Ao36 t370.length co36) ∧ w'.cell? ⟨gb347, 0, none⟩ = some (.int .i64 a0_0) ∧ w'.cell? ⟨gb347, 1, none⟩ = some (.slice A0_1 l0_1.length c0_1) ∧ w'.cell? ⟨gb347, 2, none⟩ = some (.slice A0_2 l0_2.length c0_2)) (ds := []) #[false, false, false, false, false] (by kernel_rfl) rfl rfl ⟨bc BK373 0, bc BK373 1, bc BK373 2, bc BK347 0, bc BK347 1, bc BK347 2⟩ (fun hHeld => ?_)
    generalize wc.drew = w78 at HO_366001 HO_366002 HO_374001 HO_374002 HO_384001 HO_384002 BK347 BK365 BK373 BK383 HB hHeld ⊢
    refine take_ (i := 0) (N := some 62) (v := ?_) (a' := ?_) #[true, false, false, false, false] rfl rfl (by kernel_rfl) (fun _ _ _ h => h) (Or.inl ⟨by rfl, ?_⟩) hHeld ?_ ?_
    rotate_left
    ·
     rintro w' ⟨s0, s1, s2, s3, s4, s5⟩
     go_simp
     with_reducible rfl
    rotate_left
    ·
     simp only [Act.put, setIfInBounds_toArray, set_cons_zero, set_cons_succ, i64_w, i32_w]
     rfl
    refine take_ (i := 1) (N := some 63) (v := ?_) (a' := ?_) #[true, true, false, false, false] rfl rfl (by kernel_rfl) (fun _ _ _ h => h) (Or.inl ⟨by rfl, ?_⟩) hHeld ?_ ?_
    rotate_left
    ·
     rintro w' ⟨s0, s1, s2, s3, s4, s5⟩
     go_simp
     with_reducible rfl
    rotate_left
    ·
     simp only [Act.put, setIfInBounds_toArray, set_cons_zero, set_cons_succ, i64_w, i32_w]
     rfl
    refine one_ (i := 2) (N := some 64) #[true, true, true, false, false] rfl rfl (by kernel_rfl) (by decide) (fun K hK => ?_)
    refine goes_ Try.func8 (by kernel_rfl) rfl #[.agg #[.int .i64 a0_0, .slice A0_1 l0_1.length c0_1, .slice A0_2 l0_2.length c0_2]] (by rfl) rfl rfl (by (try simp only [List.map_toArray, List.map_cons, List.map_nil]); first | done | rfl) ?_
    with_reducible refine (laws_toCuckoo.calls kj14 a0_0 _ _ l0_1 _ _ l0_2 t385 t386 t389 _ ?side1 ?side2 ?side3 ?side4 A73.out).mono ?_
    (case side1 => exact uC HR0_1 HB)
    (case side2 => exact HC0_1.out)
    (case side3 => exact uC HR0_2 HB)
    (case side4 => exact HC0_2.out)
    rintro e w79 ⟨v387, v390, rfl, ho0, ho1, hb⟩
    refine ⟨_, rfl, ?_⟩
    replace HO_366002 := Aside0.mk (Kd.V_mono (Kd.V_told (Kd.V_told (Kd.V_old (by (with_reducible repeat (first | apply Kd.V_alloc | apply Kd.V_drewN | apply Kd.V_drew)); exact HO_366002.out) hb) (Kd.R_base ho0)) (Kd.R_base ho1)) (fun _ h_ => h_.1))
    have HO388 := Aside0.mk (Kd.R_lower (Kd.R_new' (Kd.R_new' (Kd.R_new' (Kd.R_new' (Kd.R_new' ho0 (Kd.R_lt (uR HO_366001))) (Kd.R_lt (uR HO_374001))) (Kd.R_lt (uR HO_374002))) (Kd.R_lt (uR HO_384001))) (Kd.R_lt (uR HO_384002))) (below_size (uN HB)))
    have HO391 := Aside0.mk (Kd.R_lower (Kd.R_new' (Kd.R_new' (Kd.R_new' (Kd.R_new' (Kd.R_new' ho1 (Kd.R_lt (uR HO_366001))) (Kd.R_lt (uR HO_374001))) (Kd.R_lt (uR HO_374002))) (Kd.R_lt (uR HO_384001))) (Kd.R_lt (uR HO_384002))) (below_size (uN HB)))
    replace HO_366001 := Aside0.mk (Kd.R_mono (Kd.R_told (Kd.R_told (Kd.R_old (uR HO_366001) hb) (Kd.R_base ho0)) (Kd.R_base ho1)) (fun _ h_ => h_.1))
    replace HO_374001 := Aside0.mk (Kd.R_mono (Kd.R_told (Kd.R_told (Kd.R_old (uR HO_374001) hb) (Kd.R_base ho0)) (Kd.R_base ho1)) (fun _ h_ => h_.1))
    replace HO_374002 := Aside0.mk (Kd.R_mono (Kd.R_told (Kd.R_told (Kd.R_old (uR HO_374002) hb) (Kd.R_base ho0)) (Kd.R_base ho1)) (fun _ h_ => h_.1))
    replace HO_384001 := Aside0.mk (Kd.R_mono (Kd.R_told (Kd.R_told (Kd.R_old (uR HO_384001) hb) (Kd.R_base ho0)) (Kd.R_base ho1)) (fun _ h_ => h_.1))
    replace HO_384002 := Aside0.mk (Kd.R_mono (Kd.R_told (Kd.R_told (Kd.R_old (uR HO_384002) hb) (Kd.R_base ho0)) (Kd.R_base ho1)) (fun _ h_ => h_.1))
    replace BK347 := kB BK347 hb
    replace BK365 := kB BK365 hb
    replace BK373 := kB BK373 hb
    replace BK383 := kB BK383 hb
    replace HB := Aside0.mk (below_step (uN HB) hb)
    (try clear hb)
    (try clear hb2)
    (try clear hk)
    (try clear hi)
    (try clear ho0)
    (try clear ho1)
    obtain ⟨Ao80, co80, eo80⟩ := Kd.R_slice HO388.out
    (first | subst eo80 | (injection eo80 with f1_ f2_ f3_; have f4_ := f1_.symm; have f5_ := f3_.symm; clear f1_ f2_ f3_; subst f4_; subst f5_))
    obtain ⟨Ao81, co81, eo81⟩ := Kd.R_slice HO391.out
    (first | subst eo81 | (injection eo81 with f1_ f2_ f3_; have f4_ := f1_.symm; have f5_ := f3_.symm; clear f1_ f2_ f3_; subst f4_; subst f5_))
    refine hK.out _ _ ⟨bc BK373 0, bc BK373 1, bc BK373 2, bc BK347 0, bc BK347 1, bc BK347 2⟩ (fun hHeld => ?_)
    clear hK K
    refine norm_ (a' := ?_) ?_ ?_
    rotate_left
    ·
     show Act.put _ (some 64) _ = _
     simp only [Act.put, setIfInBounds_toArray, set_cons_zero, set_cons_succ, i64_w, i32_w]
     rfl
    refine one_ (i := 3) (N := some 65) #[true, true, true, true, false] rfl rfl (by kernel_rfl) (by decide) (fun K hK => ?_)
    refine goes_ Try.func10 (by kernel_rfl) rfl #[.agg #[.int .i64 t366, .slice Ao35 t367.length co35, .slice Ao36 t370.length co36], .agg #[.int .i64 t385, .slice Ao80 t386.length co80, .slice Ao81 t389.length co81]] (by rfl) rfl rfl (by (try simp only [List.map_toArray, List.map_cons, List.map_nil]); first | done | rfl) ?_
    with_reducible refine (laws_eqCuckoo.calls kj14 t366 _ _ t367 _ _ t370 t385 _ _ t386 _ _ t389 true _ ?side1 ?side2 ?side3 ?side4 ?side5 ?side6 ?side7 ?side8 A74.out).mono ?_
    (case side1 => exact uD HO_374001)
    (case side2 => exact (Kd.R_reads' HO_374001.out).2.1)
    (case side3 => exact uD HO_374002)
    (case side4 => exact (Kd.R_reads' HO_374002.out).2.1)
    (case side5 => exact uD HO388)
    (case side6 => exact (Kd.R_reads' HO388.out).2.1)
    (case side7 => exact uD HO391)
    (case side8 => exact (Kd.R_reads' HO391.out).2.1)
    rintro e w82 ⟨rfl, hb⟩
    refine ⟨_, rfl, ?_⟩
    replace HO_366001 := Aside0.mk (Kd.R_below (uR HO_366001) hb)
    replace HO_366002 := Aside0.mk (Kd.V_below (by (with_reducible repeat (first | apply Kd.V_alloc | apply Kd.V_drewN | apply Kd.V_drew)); exact HO_366002.out) hb)
    replace HO_374001 := Aside0.mk (Kd.R_below (uR HO_374001) hb)
    replace HO_374002 := Aside0.mk (Kd.R_below (uR HO_374002) hb)
    replace HO_384001 := Aside0.mk (Kd.R_below (uR HO_384001) hb)
    replace HO_384002 := Aside0.mk (Kd.R_below (uR HO_384002) hb)
    replace HO388 := Aside0.mk (Kd.R_below (uR HO388) hb)
    replace HO391 := Aside0.mk (Kd.R_below (uR HO391) hb)
    replace BK347 := kB BK347 hb
    replace BK365 := kB BK365 hb
    replace BK373 := kB BK373 hb
    replace BK383 := kB BK383 hb
    replace HB := Aside0.mk (below_step (uN HB) hb)
    (try clear hb)
    (try clear hb2)
    (try clear hk)
    (try clear hi)
    refine hK.out _ _ ⟨bc BK373 0, bc BK373 1, bc BK373 2, bc BK347 0, bc BK347 1, bc BK347 2⟩ (fun hHeld => ?_)
    clear hK K
    refine norm_ (a' := ?_) ?_ ?_
    rotate_left
    ·
     show Act.put _ (some 65) _ = _
     simp only [Act.put, setIfInBounds_toArray, set_cons_zero, set_cons_succ, i64_w, i32_w]
     rfl
    refine pure_ (i := 4) (N := some 66) (v := ?_) (a' := ?_) #[true, true, true, true, true] rfl rfl (by kernel_rfl) (fun _ _ _ h => h) (Or.inl ⟨by rfl, ?_⟩) ?_ ?_
    rotate_left
    ·
     intro w'
     go_simp
     with_reducible rfl
    rotate_left
    ·
     simp only [Act.put, setIfInBounds_toArray, set_cons_zero, set_cons_succ, i64_w, i32_w]
     rfl
    refine done_ (by kernel_rfl) ?_
    have hnb83 := NB373_347.out
    have hnc83 := NB347_373.out
    have hnb84 := NB373_365.out
    have hnc84 := NB365_373.out
    have hnb85 := NB373_383.out
    have hnc85 := NB383_373.out
    obtain ⟨hcz86_0, hcz86_1, hcz86_2, hfz86_0, hfz86_1, hfz86_2⟩ := ce3 BK373
    go_upto_region 16 with (first | ((with_reducible refine gate_callee (f := 11) rfl ?_); refine goesL_ (some 69) rfl rfl Try.func11 (by kernel_rfl) rfl #[.agg #[.int .i64 t366, .slice Ao35 t367.length co35, .slice Ao36 t370.length co36], .int .i64 1] rfl (by (try simp only [List.map_toArray, List.map_cons, List.map_nil]); first | done | rfl) ?_; (with_reducible refine (laws_markCuckoo.calls kj14 t366 (fun k_ => some k_ = (.slice Ao35 t367.length co35 : Value).ownBlock) (.slice Ao35 t367.length co35) t367 (fun k_ => some k_ = (.slice Ao36 t370.length co36 : Value).ownBlock) (.slice Ao36 t370.length co36) t370 1 t393 t394 t395 w _ ?side1 ?side2 ?side3 ?side4 ?side5 A76.out).mono ?_); (case side1 => exact uN HB); (case side2 => exact Kd.R_tight rfl HO_374001.out); (case side3 => exact fun k_ e_ => (HO_374001.out.1 k_ e_.symm).1.1.2.1); (case side4 => exact Kd.R_tight rfl HO_374002.out); (case side5 => exact fun k_ e_ => (HO_374002.out.1 k_ e_.symm).1.1.2.1); rintro e w87 ⟨rfl, hy0, hy1, hb, hkp⟩; refine ⟨_, rfl, ?_⟩; replace HO_366001 := Aside0.mk (Kd.R_mono (ok' := fun k_ => some k_ ≠ (.slice Ao35 t367.length co35 : Value).ownBlock ∧ some k_ ≠ (.slice Ao36 t370.length co36 : Value).ownBlock ∧ some k_ ≠ (.slice Ao43 t375.length co43 : Value).ownBlock ∧ some k_ ≠ (.slice Ao44 t378.length co44 : Value).ownBlock ∧ some k_ ≠ (.slice Ao80 t386.length co80 : Value).ownBlock ∧ some k_ ≠ (.slice Ao81 t389.length co81 : Value).ownBlock) (Kd.R_keptB (HO_366001.out) hkp (fun k_ hk_ hs_ => Or.elim hs_ (fun e_ => (hk_.1.1.1) e_) (fun e_ => (hk_.1.1.2.1) e_))) (fun k_ hk_ => ⟨hk_.1.1.1.1, hk_.1.1.1.2.1, hk_.1.1.1.2.2.1, hk_.1.1.1.2.2.2, hk_.1.1.2, hk_.1.2⟩)); replace HO_366002 := Aside0.mk (Kd.V_mono (ok' := fun k_ => some k_ ≠ (.slice Ao27 t357.length co27 : Value).ownBlock ∧ some k_ ≠ (.slice Ao35 t367.length co35 : Value).ownBlock ∧ some k_ ≠ (.slice Ao36 t370.length co36 : Value).ownBlock ∧ some k_ ≠ (.slice Ao43 t375.length co43 : Value).ownBlock ∧ some k_ ≠ (.slice Ao44 t378.length co44 : Value).ownBlock ∧ some k_ ≠ (.slice Ao80 t386.length co80 : Value).ownBlock ∧ some k_ ≠ (.slice Ao81 t389.length co81 : Value).ownBlock ∧ k_ ≠ gb347 ∧ k_ ≠ gb365 ∧ k_ ≠ gb373 ∧ k_ ≠ gb383) (Kd.V_keptB (HO_366002.out) hkp (fun k_ hk_ hs_ => Or.elim hs_ (fun e_ => (hk_.1.1.2.1) e_) (fun e_ => (hk_.1.1.2.2.1) e_))) (fun k_ hk_ => ⟨hk_.1.1.1.1, hk_.1.1.1.2.1, hk_.1.1.1.2.2.1, hk_.1.1.1.2.2.2.1, hk_.1.1.1.2.2.2.2.1, hk_.1.1.2, hk_.1.2, hk_.1.1.1.2.2.2.2.2.1, hk_.1.1.1.2.2.2.2.2.2.1, hk_.1.1.1.2.2.2.2.2.2.2.1, hk_.1.1.1.2.2.2.2.2.2.2.2⟩)); replace HO_384001 := Aside0.mk (Kd.R_mono (ok' := fun k_ => some k_ ≠ (.slice Ao27 t357.length co27 : Value).ownBlock ∧ some k_ ≠ (.slice Ao35 t367.length co35 : Value).ownBlock ∧ some k_ ≠ (.slice Ao36 t370.length co36 : Value).ownBlock ∧ some k_ ≠ (.slice Ao44 t378.length co44 : Value).ownBlock ∧ some k_ ≠ (.slice Ao80 t386.length co80 : Value).ownBlock ∧ some k_ ≠ (.slice Ao81 t389.length co81 : Value).ownBlock) (Kd.R_keptB (HO_384001.out) hkp (fun k_ hk_ hs_ => Or.elim hs_ (fun e_ => (hk_.1.1.2.1) e_) (fun e_ => (hk_.1.1.2.2.1) e_))) (fun k_ hk_ => ⟨hk_.1.1.1.1, hk_.1.1.1.2.1, hk_.1.1.1.2.2.1, hk_.1.1.1.2.2.2, hk_.1.1.2, hk_.1.2⟩)); replace HO_384002 := Aside0.mk (Kd.R_mono (ok' := fun k_ => some k_ ≠ (.slice Ao27 t357.length co27 : Value).ownBlock ∧ some k_ ≠ (.slice Ao35 t367.length co35 : Value).ownBlock ∧ some k_ ≠ (.slice Ao36 t370.length co36 : Value).ownBlock ∧ some k_ ≠ (.slice Ao43 t375.length co43 : Value).ownBlock ∧ some k_ ≠ (.slice Ao80 t386.length co80 : Value).ownBlock ∧ some k_ ≠ (.slice Ao81 t389.length co81 : Value).ownBlock) (Kd.R_keptB (HO_384002.out) hkp (fun k_ hk_ hs_ => Or.elim hs_ (fun e_ => (hk_.1.1.2.1) e_) (fun e_ => (hk_.1.1.2.2.1) e_))) (fun k_ hk_ => ⟨hk_.1.1.1.1, hk_.1.1.1.2.1, hk_.1.1.1.2.2.1, hk_.1.1.1.2.2.2, hk_.1.1.2, hk_.1.2⟩)); replace BK347 := Aside0.mk (blk_kept (uK BK347) hkp (fun hs_ => Or.elim hs_ (fun e_ => (fun e_ => (Kd.R_ne HO_374001.out BK347.out (by decide)) e_) e_) (fun e_ => (fun e_ => (Kd.R_ne HO_374002.out BK347.out (by decide)) e_) e_))); replace BK365 := Aside0.mk (blk_kept (uK BK365) hkp (fun hs_ => Or.elim hs_ (fun e_ => (fun e_ => (Kd.R_ne HO_374001.out BK365.out (by decide)) e_) e_) (fun e_ => (fun e_ => (Kd.R_ne HO_374002.out BK365.out (by decide)) e_) e_))); replace BK373 := Aside0.mk (blk_kept (uK BK373) hkp (fun hs_ => Or.elim hs_ (fun e_ => (fun e_ => (Kd.R_ne HO_374001.out BK373.out (by decide)) e_) e_) (fun e_ => (fun e_ => (Kd.R_ne HO_374002.out BK373.out (by decide)) e_) e_))); replace BK383 := Aside0.mk (blk_kept (uK BK383) hkp (fun hs_ => Or.elim hs_ (fun e_ => (fun e_ => (Kd.R_ne HO_374001.out BK383.out (by decide)) e_) e_) (fun e_ => (fun e_ => (Kd.R_ne HO_374002.out BK383.out (by decide)) e_) e_))); replace HO_374001 := Aside0.mk (Kd.R_reok rfl hy0 (fun k_ e_ => HO_374001.out.1 k_ e_)); replace HO_374002 := Aside0.mk (Kd.R_reok rfl hy1 (fun k_ e_ => HO_374002.out.1 k_ e_)); replace HO388 := Aside0.mk (Kd.R_mono (ok' := fun k_ => some k_ ≠ (.slice Ao27 t357.length co27 : Value).ownBlock ∧ some k_ ≠ (.slice Ao35 t367.length co35 : Value).ownBlock ∧ some k_ ≠ (.slice Ao36 t370.length co36 : Value).ownBlock ∧ some k_ ≠ (.slice Ao43 t375.length co43 : Value).ownBlock ∧ some k_ ≠ (.slice Ao44 t378.length co44 : Value).ownBlock ∧ some k_ ≠ (.slice Ao81 t389.length co81 : Value).ownBlock) (Kd.R_keptB (HO388.out) hkp (fun k_ hk_ hs_ => Or.elim hs_ (fun e_ => (hk_.1.1.1.2) e_) (fun e_ => (hk_.1.1.2) e_))) (fun k_ hk_ => ⟨hk_.1.1.1.1.1.2, hk_.1.1.1.1.2, hk_.1.1.1.2, hk_.1.1.2, hk_.1.2, hk_.1.1.1.1.1.1⟩)); replace HO391 := Aside0.mk (Kd.R_mono (ok' := fun k_ => some k_ ≠ (.slice Ao27 t357.length co27 : Value).ownBlock ∧ some k_ ≠ (.slice Ao35 t367.length co35 : Value).ownBlock ∧ some k_ ≠ (.slice Ao36 t370.length co36 : Value).ownBlock ∧ some k_ ≠ (.slice Ao43 t375.length co43 : Value).ownBlock ∧ some k_ ≠ (.slice Ao44 t378.length co44 : Value).ownBlock ∧ some k_ ≠ (.slice Ao80 t386.length co80 : Value).ownBlock) (Kd.R_keptB (HO391.out) hkp (fun k_ hk_ hs_ => Or.elim hs_ (fun e_ => (hk_.1.1.1.2) e_) (fun e_ => (hk_.1.1.2) e_))) (fun k_ hk_ => ⟨hk_.1.1.1.1.1.2, hk_.1.1.1.1.2, hk_.1.1.1.2, hk_.1.1.2, hk_.1.2, hk_.1.1.1.1.1.1⟩)); replace HB := Aside0.mk (hb); (try clear hb); (try clear hkp); (try clear hy0); (try clear hy1)))
    (try simp only [Act.put, setIfInBounds_toArray, set_cons_zero, set_cons_succ])
    go_cut [87] (fun v87 wc => ∃ (kq : Nat) (x87_76 : Bool), v87 = .bool x87_76 ∧ Aside0 (laws_FnExactCuckooInsert.j1 kq a1 a2 t363 t364 x87_76 a0_0 l0_1 l0_2 t356 t357 t360 t374 t375 t378 = some r) ∧ Aside0 (kq ≤ kj14) ∧ Aside0 (Kd.R Kd.string 9 wc w.heap.size (fun k_ => some k_ ≠ ((.slice Ao35 t367.length co35) : Value).ownBlock ∧ some k_ ≠ ((.slice Ao36 t370.length co36) : Value).ownBlock ∧ some k_ ≠ ((.slice Ao43 t375.length co43) : Value).ownBlock ∧ some k_ ≠ ((.slice Ao44 t378.length co44) : Value).ownBlock) (.slice Ao27 t357.length co27) t357) ∧ Aside0 (Kd.V Kd.string 9 wc w.heap.size (fun k_ => some k_ ≠ ((.slice Ao27 t357.length co27) : Value).ownBlock ∧ some k_ ≠ ((.slice Ao35 t367.length co35) : Value).ownBlock ∧ some k_ ≠ ((.slice Ao36 t370.length co36) : Value).ownBlock ∧ some k_ ≠ ((.slice Ao43 t375.length co43) : Value).ownBlock ∧ some k_ ≠ ((.slice Ao44 t378.length co44) : Value).ownBlock ∧ k_ ≠ gb347 ∧ k_ ≠ gb365 ∧ k_ ≠ gb373 ∧ k_ ≠ gb383) (.slice Ao28 t360.length co28) t360) ∧ Aside0 (Kd.R Kd.string 9 wc w.heap.size (fun k_ => some k_ ≠ ((.slice Ao27 t357.length co27) : Value).ownBlock ∧ some k_ ≠ ((.slice Ao36 t370.length co36) : Value).ownBlock ∧ some k_ ≠ ((.slice Ao43 t375.length co43) : Value).ownBlock ∧ some k_ ≠ ((.slice Ao44 t378.length co44) : Value).ownBlock) (.slice Ao35 t367.length co35) t394) ∧ Aside0 (Kd.R Kd.string 9 wc w.heap.size (fun k_ => some k_ ≠ ((.slice Ao27 t357.length co27) : Value).ownBlock ∧ some k_ ≠ ((.slice Ao35 t367.length co35) : Value).ownBlock ∧ some k_ ≠ ((.slice Ao43 t375.length co43) : Value).ownBlock ∧ some k_ ≠ ((.slice Ao44 t378.length co44) : Value).ownBlock) (.slice Ao36 t370.length co36) t395) ∧ Aside0 (Kd.R Kd.string 9 wc w.heap.size (fun k_ => some k_ ≠ ((.slice Ao27 t357.length co27) : Value).ownBlock ∧ some k_ ≠ ((.slice Ao35 t367.length co35) : Value).ownBlock ∧ some k_ ≠ ((.slice Ao36 t370.length co36) : Value).ownBlock ∧ some k_ ≠ ((.slice Ao44 t378.length co44) : Value).ownBlock) (.slice Ao43 t375.length co43) t375) ∧ Aside0 (Kd.R Kd.string 9 wc w.heap.size (fun k_ => some k_ ≠ ((.slice Ao27 t357.length co27) : Value).ownBlock ∧ some k_ ≠ ((.slice Ao35 t367.length co35) : Value).ownBlock ∧ some k_ ≠ ((.slice Ao36 t370.length co36) : Value).ownBlock ∧ some k_ ≠ ((.slice Ao43 t375.length co43) : Value).ownBlock) (.slice Ao44 t378.length co44) t378) ∧ Aside0 (wc.heap[gb347]? = some (.cells #[.int .i64 a0_0, (.slice A0_1 l0_1.length c0_1), (.slice A0_2 l0_2.length c0_2)] 24 (0, 0))) ∧ Aside0 (wc.heap[gb365]? = some (.cells #[.int .i64 t356, (.slice Ao27 t357.length co27), (.slice Ao28 t360.length co28)] 26 (0, 0))) ∧ Aside0 (wc.heap[gb373]? = some (.cells #[.int .i64 t366, (.slice Ao35 t367.length co35), (.slice Ao36 t370.length co36)] 26 (0, 0))) ∧ Aside0 (wc.heap[gb383]? = some (.cells #[.int .i64 t374, (.slice Ao43 t375.length co43), (.slice Ao44 t378.length co44)] 26 (0, 0))) ∧ Aside0 (Below w.heap.size w wc))
    case first =>
     have H := HC77.out
     clear HC77
     by_cases c88 : t393 < 0
     ·
      rw [if_pos c88] at H
      have c88b0 : decide (t393 < 0) = true := decide_eq_true c88
      clear c88
      (first | rw [c88b0] | (simp only [i64_w, i32_w]; rw [c88b0]) | skip)
      have H' := Aside0.mk H
      clear H
      go_wp2
      go_meet
      case rel => exact ⟨_, (true), (by first | rfl | (simp; done) | (simp [*]; done)), H', ⟨by have := HJ14.out; first | omega | exact Nat.le_refl _⟩, ⟨by (with_reducible repeat (first | apply Kd.R_alloc | apply Kd.R_drewN | apply Kd.R_drew)); exact Kd.R_mono HO_366001.out (fun _ hk => ⟨hk.1, ⟨hk.2.1, ⟨hk.2.2.1, hk.2.2.2.1⟩⟩⟩)⟩, ⟨by (with_reducible repeat (first | apply Kd.V_alloc | apply Kd.V_drewN | apply Kd.V_drew)); exact Kd.V_mono HO_366002.out (fun _ hk => ⟨hk.1, ⟨hk.2.1, ⟨hk.2.2.1, ⟨hk.2.2.2.1, ⟨hk.2.2.2.2.1, ⟨hk.2.2.2.2.2.2.2.1, ⟨hk.2.2.2.2.2.2.2.2.1, ⟨hk.2.2.2.2.2.2.2.2.2.1, hk.2.2.2.2.2.2.2.2.2.2⟩⟩⟩⟩⟩⟩⟩⟩)⟩, ⟨by (with_reducible repeat (first | apply Kd.R_alloc | apply Kd.R_drewN | apply Kd.R_drew)); exact Kd.R_mono HO_374001.out (fun _ hk => ⟨hk.1.1.1, ⟨hk.1.1.2.1, ⟨hk.1.1.2.2.1, hk.1.1.2.2.2⟩⟩⟩)⟩, ⟨by (with_reducible repeat (first | apply Kd.R_alloc | apply Kd.R_drewN | apply Kd.R_drew)); exact Kd.R_mono HO_374002.out (fun _ hk => ⟨hk.1.1.1, ⟨hk.1.1.2.1, ⟨hk.1.1.2.2.1, hk.1.1.2.2.2⟩⟩⟩)⟩, ⟨by (with_reducible repeat (first | apply Kd.R_alloc | apply Kd.R_drewN | apply Kd.R_drew)); exact Kd.R_mono HO_384001.out (fun _ hk => ⟨hk.1, ⟨hk.2.1, ⟨hk.2.2.1, hk.2.2.2.1⟩⟩⟩)⟩, ⟨by (with_reducible repeat (first | apply Kd.R_alloc | apply Kd.R_drewN | apply Kd.R_drew)); exact Kd.R_mono HO_384002.out (fun _ hk => ⟨hk.1, ⟨hk.2.1, ⟨hk.2.2.1, hk.2.2.2.1⟩⟩⟩)⟩, ⟨by refine uW ?_; exact BK347.out⟩, ⟨by refine uW ?_; exact BK365.out⟩, ⟨by refine uW ?_; exact BK373.out⟩, ⟨by refine uW ?_; exact BK383.out⟩, ⟨uN HB⟩⟩
     rw [if_neg c88] at H
     have c88b0 : decide (t393 < 0) = false := decide_eq_false c88
     clear c88
     (first | rw [c88b0] | (simp only [i64_w, i32_w]; rw [c88b0]) | skip)
     replace H := Option.bind_eq_some_iff.mp H
     obtain ⟨t396, A890, H⟩ := H
     try dsimp only at H
     have A89 := Aside0.mk A890
     clear A890
     by_cases c90 : t396 = true
     ·
      subst c90
      rw [if_pos rfl] at H
      by_cases c91 : t381 = t363
      ·
       rw [if_pos c91] at H
       have c91b0 : (t381 == t363) = true := beq_iff_eq.mpr c91
       have c91b1 : (t381 != t363) = false := bne_eq_false_iff_eq.mpr c91
       clear c91
       have H' := Aside0.mk H
       clear H
       have hnb92 := NB383_347.out
       have hnc92 := NB347_383.out
       have hnb93 := NB383_365.out
       have hnc93 := NB365_383.out
       have hnb94 := NB383_373.out
       have hnc94 := NB373_383.out
       obtain ⟨hcz95_0, hcz95_1, hcz95_2, hfz95_0, hfz95_1, hfz95_2⟩ := ce3 BK383
       have hnb96 := NB365_347.out
       have hnc96 := NB347_365.out
       have hnb97 := NB365_373.out
       have hnc97 := NB373_365.out
       obtain ⟨hcz98_0, hcz98_1, hcz98_2, hfz98_0, hfz98_1, hfz98_2⟩ := ce3 BK365
       go_wp2_with (first | (go_at_call 10; (with_reducible refine (laws_eqCuckoo.calls kj14 t374 _ _ t375 _ _ t378 t356 _ _ t357 _ _ t360 true _ ?side1 ?side2 ?side3 ?side4 ?side5 ?side6 ?side7 ?side8 A89.out).mono ?_); (case side1 => exact uD HO_384001); (case side2 => exact (Kd.R_reads' HO_384001.out).2.1); (case side3 => exact uD HO_384002); (case side4 => exact (Kd.R_reads' HO_384002.out).2.1); (case side5 => exact uD HO_366001); (case side6 => exact (Kd.R_reads' HO_366001.out).2.1); (case side7 => repeat (first | exact (Kd.V_reads' HO_366002.out).2.2 | (with_reducible refine Kd.C_alloc ?_ _) | (with_reducible refine Kd.C_drewN ?_ _) | (with_reducible refine Kd.C_drew ?_))); (case side8 => exact (Kd.V_reads' HO_366002.out).2.1); rintro e w99 ⟨rfl, hb⟩; replace HO_366001 := Aside0.mk (Kd.R_below (uR HO_366001) hb); replace HO_366002 := Aside0.mk (Kd.V_below (by (with_reducible repeat (first | apply Kd.V_alloc | apply Kd.V_drewN | apply Kd.V_drew)); exact HO_366002.out) hb); replace HO_374001 := Aside0.mk (Kd.R_below (uR HO_374001) hb); replace HO_374002 := Aside0.mk (Kd.R_below (uR HO_374002) hb); replace HO_384001 := Aside0.mk (Kd.R_below (uR HO_384001) hb); replace HO_384002 := Aside0.mk (Kd.R_below (uR HO_384002) hb); replace HO388 := Aside0.mk (Kd.R_below (uR HO388) hb); replace HO391 := Aside0.mk (Kd.R_below (uR HO391) hb); replace BK347 := kB BK347 hb; replace BK365 := kB BK365 hb; replace BK373 := kB BK373 hb; replace BK383 := kB BK383 hb; replace HB := Aside0.mk (below_step (uN HB) hb); (try clear hb); (try clear hb2); (try clear hk); (try clear hi)))
       go_meet
       case rel => exact ⟨_, ((t382 != t364)), (by first | rfl | (simp; done) | (simp [*]; done)), H', ⟨by have := HJ14.out; first | omega | exact Nat.le_refl _⟩, ⟨by (with_reducible repeat (first | apply Kd.R_alloc | apply Kd.R_drewN | apply Kd.R_drew)); exact Kd.R_mono HO_366001.out (fun _ hk => ⟨hk.1, ⟨hk.2.1, ⟨hk.2.2.1, hk.2.2.2.1⟩⟩⟩)⟩, ⟨by (with_reducible repeat (first | apply Kd.V_alloc | apply Kd.V_drewN | apply Kd.V_drew)); exact Kd.V_mono HO_366002.out (fun _ hk => ⟨hk.1, ⟨hk.2.1, ⟨hk.2.2.1, ⟨hk.2.2.2.1, ⟨hk.2.2.2.2.1, ⟨hk.2.2.2.2.2.2.2.1, ⟨hk.2.2.2.2.2.2.2.2.1, ⟨hk.2.2.2.2.2.2.2.2.2.1, hk.2.2.2.2.2.2.2.2.2.2⟩⟩⟩⟩⟩⟩⟩⟩)⟩, ⟨by (with_reducible repeat (first | apply Kd.R_alloc | apply Kd.R_drewN | apply Kd.R_drew)); exact Kd.R_mono HO_374001.out (fun _ hk => ⟨hk.1.1.1, ⟨hk.1.1.2.1, ⟨hk.1.1.2.2.1, hk.1.1.2.2.2⟩⟩⟩)⟩, ⟨by (with_reducible repeat (first | apply Kd.R_alloc | apply Kd.R_drewN | apply Kd.R_drew)); exact Kd.R_mono HO_374002.out (fun _ hk => ⟨hk.1.1.1, ⟨hk.1.1.2.1, ⟨hk.1.1.2.2.1, hk.1.1.2.2.2⟩⟩⟩)⟩, ⟨by (with_reducible repeat (first | apply Kd.R_alloc | apply Kd.R_drewN | apply Kd.R_drew)); exact Kd.R_mono HO_384001.out (fun _ hk => ⟨hk.1, ⟨hk.2.1, ⟨hk.2.2.1, hk.2.2.2.1⟩⟩⟩)⟩, ⟨by (with_reducible repeat (first | apply Kd.R_alloc | apply Kd.R_drewN | apply Kd.R_drew)); exact Kd.R_mono HO_384002.out (fun _ hk => ⟨hk.1, ⟨hk.2.1, ⟨hk.2.2.1, hk.2.2.2.1⟩⟩⟩)⟩, ⟨by refine uW ?_; exact BK347.out⟩, ⟨by refine uW ?_; exact BK365.out⟩, ⟨by refine uW ?_; exact BK373.out⟩, ⟨by refine uW ?_; exact BK383.out⟩, ⟨uN HB⟩⟩
      rw [if_neg c91] at H
      have c91b0 : (t381 == t363) = false := beq_eq_false_iff_ne.mpr c91
      have c91b1 : (t381 != t363) = true := bne_iff_ne.mpr c91
      have H' := Aside0.mk H
      clear H
      have hnb100 := NB383_347.out
      have hnc100 := NB347_383.out
      have hnb101 := NB383_365.out
      have hnc101 := NB365_383.out
      have hnb102 := NB383_373.out
      have hnc102 := NB373_383.out
      obtain ⟨hcz103_0, hcz103_1, hcz103_2, hfz103_0, hfz103_1, hfz103_2⟩ := ce3 BK383
      have hnb104 := NB365_347.out
      have hnc104 := NB347_365.out
      have hnb105 := NB365_373.out
      have hnc105 := NB373_365.out
      obtain ⟨hcz106_0, hcz106_1, hcz106_2, hfz106_0, hfz106_1, hfz106_2⟩ := ce3 BK365
      go_wp2_with (first | (go_at_call 10; (with_reducible refine (laws_eqCuckoo.calls kj14 t374 _ _ t375 _ _ t378 t356 _ _ t357 _ _ t360 true _ ?side1 ?side2 ?side3 ?side4 ?side5 ?side6 ?side7 ?side8 A89.out).mono ?_); (case side1 => exact uD HO_384001); (case side2 => exact (Kd.R_reads' HO_384001.out).2.1); (case side3 => exact uD HO_384002); (case side4 => exact (Kd.R_reads' HO_384002.out).2.1); (case side5 => exact uD HO_366001); (case side6 => exact (Kd.R_reads' HO_366001.out).2.1); (case side7 => repeat (first | exact (Kd.V_reads' HO_366002.out).2.2 | (with_reducible refine Kd.C_alloc ?_ _) | (with_reducible refine Kd.C_drewN ?_ _) | (with_reducible refine Kd.C_drew ?_))); (case side8 => exact (Kd.V_reads' HO_366002.out).2.1); rintro e w107 ⟨rfl, hb⟩; replace HO_366001 := Aside0.mk (Kd.R_below (uR HO_366001) hb); replace HO_366002 := Aside0.mk (Kd.V_below (by (with_reducible repeat (first | apply Kd.V_alloc | apply Kd.V_drewN | apply Kd.V_drew)); exact HO_366002.out) hb); replace HO_374001 := Aside0.mk (Kd.R_below (uR HO_374001) hb); replace HO_374002 := Aside0.mk (Kd.R_below (uR HO_374002) hb); replace HO_384001 := Aside0.mk (Kd.R_below (uR HO_384001) hb); replace HO_384002 := Aside0.mk (Kd.R_below (uR HO_384002) hb); replace HO388 := Aside0.mk (Kd.R_below (uR HO388) hb); replace HO391 := Aside0.mk (Kd.R_below (uR HO391) hb); replace BK347 := kB BK347 hb; replace BK365 := kB BK365 hb; replace BK373 := kB BK373 hb; replace BK383 := kB BK383 hb; replace HB := Aside0.mk (below_step (uN HB) hb); (try clear hb); (try clear hb2); (try clear hk); (try clear hi)))
      go_meet
      case rel => exact ⟨_, (true), (by first | rfl | (simp; done) | (simp [*]; done)), H', ⟨by have := HJ14.out; first | omega | exact Nat.le_refl _⟩, ⟨by (with_reducible repeat (first | apply Kd.R_alloc | apply Kd.R_drewN | apply Kd.R_drew)); exact Kd.R_mono HO_366001.out (fun _ hk => ⟨hk.1, ⟨hk.2.1, ⟨hk.2.2.1, hk.2.2.2.1⟩⟩⟩)⟩, ⟨by (with_reducible repeat (first | apply Kd.V_alloc | apply Kd.V_drewN | apply Kd.V_drew)); exact Kd.V_mono HO_366002.out (fun _ hk => ⟨hk.1, ⟨hk.2.1, ⟨hk.2.2.1, ⟨hk.2.2.2.1, ⟨hk.2.2.2.2.1, ⟨hk.2.2.2.2.2.2.2.1, ⟨hk.2.2.2.2.2.2.2.2.1, ⟨hk.2.2.2.2.2.2.2.2.2.1, hk.2.2.2.2.2.2.2.2.2.2⟩⟩⟩⟩⟩⟩⟩⟩)⟩, ⟨by (with_reducible repeat (first | apply Kd.R_alloc | apply Kd.R_drewN | apply Kd.R_drew)); exact Kd.R_mono HO_374001.out (fun _ hk => ⟨hk.1.1.1, ⟨hk.1.1.2.1, ⟨hk.1.1.2.2.1, hk.1.1.2.2.2⟩⟩⟩)⟩, ⟨by (with_reducible repeat (first | apply Kd.R_alloc | apply Kd.R_drewN | apply Kd.R_drew)); exact Kd.R_mono HO_374002.out (fun _ hk => ⟨hk.1.1.1, ⟨hk.1.1.2.1, ⟨hk.1.1.2.2.1, hk.1.1.2.2.2⟩⟩⟩)⟩, ⟨by (with_reducible repeat (first | apply Kd.R_alloc | apply Kd.R_drewN | apply Kd.R_drew)); exact Kd.R_mono HO_384001.out (fun _ hk => ⟨hk.1, ⟨hk.2.1, ⟨hk.2.2.1, hk.2.2.2.1⟩⟩⟩)⟩, ⟨by (with_reducible repeat (first | apply Kd.R_alloc | apply Kd.R_drewN | apply Kd.R_drew)); exact Kd.R_mono HO_384002.out (fun _ hk => ⟨hk.1, ⟨hk.2.1, ⟨hk.2.2.1, hk.2.2.2.1⟩⟩⟩)⟩, ⟨by refine uW ?_; exact BK347.out⟩, ⟨by refine uW ?_; exact BK365.out⟩, ⟨by refine uW ?_; exact BK373.out⟩, ⟨by refine uW ?_; exact BK383.out⟩, ⟨uN HB⟩⟩
     replace c90 := Bool.eq_false_iff.mpr c90
     subst c90
     rw [if_neg (show ¬ (false = true) by decide)] at H
     have H' := Aside0.mk H
     clear H
     have hnb108 := NB383_347.out
     have hnc108 := NB347_383.out
     have hnb109 := NB383_365.out
     have hnc109 := NB365_383.out
     have hnb110 := NB383_373.out
     have hnc110 := NB373_383.out
     obtain ⟨hcz111_0, hcz111_1, hcz111_2, hfz111_0, hfz111_1, hfz111_2⟩ := ce3 BK383
     have hnb112 := NB365_347.out
     have hnc112 := NB347_365.out
     have hnb113 := NB365_373.out
     have hnc113 := NB373_365.out
     obtain ⟨hcz114_0, hcz114_1, hcz114_2, hfz114_0, hfz114_1, hfz114_2⟩ := ce3 BK365
     go_wp2_with (first | (go_at_call 10; (with_reducible refine (laws_eqCuckoo.calls kj14 t374 _ _ t375 _ _ t378 t356 _ _ t357 _ _ t360 false _ ?side1 ?side2 ?side3 ?side4 ?side5 ?side6 ?side7 ?side8 A89.out).mono ?_); (case side1 => exact uD HO_384001); (case side2 => exact (Kd.R_reads' HO_384001.out).2.1); (case side3 => exact uD HO_384002); (case side4 => exact (Kd.R_reads' HO_384002.out).2.1); (case side5 => exact uD HO_366001); (case side6 => exact (Kd.R_reads' HO_366001.out).2.1); (case side7 => repeat (first | exact (Kd.V_reads' HO_366002.out).2.2 | (with_reducible refine Kd.C_alloc ?_ _) | (with_reducible refine Kd.C_drewN ?_ _) | (with_reducible refine Kd.C_drew ?_))); (case side8 => exact (Kd.V_reads' HO_366002.out).2.1); rintro e w115 ⟨rfl, hb⟩; replace HO_366001 := Aside0.mk (Kd.R_below (uR HO_366001) hb); replace HO_366002 := Aside0.mk (Kd.V_below (by (with_reducible repeat (first | apply Kd.V_alloc | apply Kd.V_drewN | apply Kd.V_drew)); exact HO_366002.out) hb); replace HO_374001 := Aside0.mk (Kd.R_below (uR HO_374001) hb); replace HO_374002 := Aside0.mk (Kd.R_below (uR HO_374002) hb); replace HO_384001 := Aside0.mk (Kd.R_below (uR HO_384001) hb); replace HO_384002 := Aside0.mk (Kd.R_below (uR HO_384002) hb); replace HO388 := Aside0.mk (Kd.R_below (uR HO388) hb); replace HO391 := Aside0.mk (Kd.R_below (uR HO391) hb); replace BK347 := kB BK347 hb; replace BK365 := kB BK365 hb; replace BK373 := kB BK373 hb; replace BK383 := kB BK383 hb; replace HB := Aside0.mk (below_step (uN HB) hb); (try clear hb); (try clear hb2); (try clear hk); (try clear hi)))
     go_meet
     case rel => exact ⟨_, (true), (by first | rfl | (simp; done) | (simp [*]; done)), H', ⟨by have := HJ14.out; first | omega | exact Nat.le_refl _⟩, ⟨by (with_reducible repeat (first | apply Kd.R_alloc | apply Kd.R_drewN | apply Kd.R_drew)); exact Kd.R_mono HO_366001.out (fun _ hk => ⟨hk.1, ⟨hk.2.1, ⟨hk.2.2.1, hk.2.2.2.1⟩⟩⟩)⟩, ⟨by (with_reducible repeat (first | apply Kd.V_alloc | apply Kd.V_drewN | apply Kd.V_drew)); exact Kd.V_mono HO_366002.out (fun _ hk => ⟨hk.1, ⟨hk.2.1, ⟨hk.2.2.1, ⟨hk.2.2.2.1, ⟨hk.2.2.2.2.1, ⟨hk.2.2.2.2.2.2.2.1, ⟨hk.2.2.2.2.2.2.2.2.1, ⟨hk.2.2.2.2.2.2.2.2.2.1, hk.2.2.2.2.2.2.2.2.2.2⟩⟩⟩⟩⟩⟩⟩⟩)⟩, ⟨by (with_reducible repeat (first | apply Kd.R_alloc | apply Kd.R_drewN | apply Kd.R_drew)); exact Kd.R_mono HO_374001.out (fun _ hk => ⟨hk.1.1.1, ⟨hk.1.1.2.1, ⟨hk.1.1.2.2.1, hk.1.1.2.2.2⟩⟩⟩)⟩, ⟨by (with_reducible repeat (first | apply Kd.R_alloc | apply Kd.R_drewN | apply Kd.R_drew)); exact Kd.R_mono HO_374002.out (fun _ hk => ⟨hk.1.1.1, ⟨hk.1.1.2.1, ⟨hk.1.1.2.2.1, hk.1.1.2.2.2⟩⟩⟩)⟩, ⟨by (with_reducible repeat (first | apply Kd.R_alloc | apply Kd.R_drewN | apply Kd.R_drew)); exact Kd.R_mono HO_384001.out (fun _ hk => ⟨hk.1, ⟨hk.2.1, ⟨hk.2.2.1, hk.2.2.2.1⟩⟩⟩)⟩, ⟨by (with_reducible repeat (first | apply Kd.R_alloc | apply Kd.R_drewN | apply Kd.R_drew)); exact Kd.R_mono HO_384002.out (fun _ hk => ⟨hk.1, ⟨hk.2.1, ⟨hk.2.2.1, hk.2.2.2.1⟩⟩⟩)⟩, ⟨by refine uW ?_; exact BK347.out⟩, ⟨by refine uW ?_; exact BK365.out⟩, ⟨by refine uW ?_; exact BK373.out⟩, ⟨by refine uW ?_; exact BK383.out⟩, ⟨uN HB⟩⟩
    case rest =>
     clear HC77
     try clear c1
     try clear c2
     try clear p2
     try clear c3
     try clear c4
     try clear c4b0
     try clear c4b1
     try clear c5
     try clear c6
     try clear c7
     try clear c7b0
     try clear c8
     try clear c9
     try clear c10
     try clear c11
     try clear c13
     try clear c14
     try clear c25
     try clear c32
     try clear c33
     try clear c39
     try clear c40
     try clear c41
     try clear c46
     try clear c47
     try clear c47b0
     try clear c47b1
     try clear c48
     try clear c49
     try clear c50
     try clear c52
     try clear c53
     try clear c56
     try clear c57
     try clear c58
     try clear c60
     try clear c61
     try clear c64
     try clear c65
     try clear c66
     try clear c68
     try clear c69
     try clear c72
     try clear c75
     try clear c83
     try clear c84
     try clear c85
     try clear c88
     try clear c88b0
     try clear c90
     try clear c91
     try clear c91b0
     try clear c91b1
     try clear c92
     try clear c93
     try clear c94
     try clear c96
     try clear c97
     try clear c100
     try clear c101
     try clear c102
     try clear c104
     try clear c105
     try clear c108
     try clear c109
     try clear c110
     try clear c112
     try clear c113
     try clear hcz103_0
     try clear hcz103_1
     try clear hcz103_2
     try clear hcz106_0
     try clear hcz106_1
     try clear hcz106_2
     try clear hcz111_0
     try clear hcz111_1
     try clear hcz111_2
     try clear hcz114_0
     try clear hcz114_1
     try clear hcz114_2
     try clear hcz17_0
     try clear hcz17_1
     try clear hcz17_2
     try clear hcz19_0
     try clear hcz19_1
     try clear hcz19_2
     try clear hcz26_0
     try clear hcz26_1
     try clear hcz26_2
     try clear hcz29_0
     try clear hcz29_1
     try clear hcz29_2
     try clear hcz34_0
     try clear hcz34_1
     try clear hcz34_2
     try clear hcz42_0
     try clear hcz42_1
     try clear hcz42_2
     try clear hcz51_0
     try clear hcz51_1
     try clear hcz51_2
     try clear hcz54_0
     try clear hcz54_1
     try clear hcz54_2
     try clear hcz59_0
     try clear hcz59_1
     try clear hcz59_2
     try clear hcz62_0
     try clear hcz62_1
     try clear hcz62_2
     try clear hcz67_0
     try clear hcz67_1
     try clear hcz67_2
     try clear hcz70_0
     try clear hcz70_1
     try clear hcz70_2
     try clear hcz86_0
     try clear hcz86_1
     try clear hcz86_2
     try clear hcz95_0
     try clear hcz95_1
     try clear hcz95_2
     try clear hcz98_0
     try clear hcz98_1
     try clear hcz98_2
     try clear hcz9_0
     try clear hcz9_1
     try clear hcz9_2
     try clear hfz103_0
     try clear hfz103_1
     try clear hfz103_2
     try clear hfz106_0
     try clear hfz106_1
     try clear hfz106_2
     try clear hfz111_0
     try clear hfz111_1
     try clear hfz111_2
     try clear hfz114_0
     try clear hfz114_1
     try clear hfz114_2
     try clear hfz17_0
     try clear hfz17_1
     try clear hfz17_2
     try clear hfz19_0
     try clear hfz19_1
     try clear hfz19_2
     try clear hfz26_0
     try clear hfz26_1
     try clear hfz26_2
     try clear hfz29_0
     try clear hfz29_1
     try clear hfz29_2
     try clear hfz34_0
     try clear hfz34_1
     try clear hfz34_2
     try clear hfz42_0
     try clear hfz42_1
     try clear hfz42_2
     try clear hfz51_0
     try clear hfz51_1
     try clear hfz51_2
     try clear hfz54_0
     try clear hfz54_1
     try clear hfz54_2
     try clear hfz59_0
     try clear hfz59_1
     try clear hfz59_2
     try clear hfz62_0
     try clear hfz62_1
     try clear hfz62_2
     try clear hfz67_0
     try clear hfz67_1
     try clear hfz67_2
     try clear hfz70_0
     try clear hfz70_1
     try clear hfz70_2
     try clear hfz86_0
     try clear hfz86_1
     try clear hfz86_2
     try clear hfz95_0
     try clear hfz95_1
     try clear hfz95_2
     try clear hfz98_0
     try clear hfz98_1
     try clear hfz98_2
     try clear hfz9_0
     try clear hfz9_1
     try clear hfz9_2
     try clear p2
     obtain ⟨kq, x87_76, rfl, HA, HJ76, HO_366001, HO_366002, HO_374001, HO_374002, HO_384001, HO_384002, BK347, BK365, BK373, BK383, HB⟩ := hcut
     have hl374001_76 := (Kd.R_reads' HO_374001.out).1
     rw [hl374001_76] at HO_374001
     (try simp only [hl374001_76])
     (try simp only [hl374001_76] at BK347)
     (try simp only [hl374001_76] at BK365)
     (try simp only [hl374001_76] at BK373)
     (try simp only [hl374001_76] at BK383)
     (try simp only [hl374001_76] at HO_366001)
     (try simp only [hl374001_76] at HO_366002)
     (try simp only [hl374001_76] at HO_374002)
     (try simp only [hl374001_76] at HO_384001)
     (try simp only [hl374001_76] at HO_384002)
     have hl374002_76 := (Kd.R_reads' HO_374002.out).1
     rw [hl374002_76] at HO_374002
     (try simp only [hl374002_76])
     (try simp only [hl374002_76] at BK347)
     (try simp only [hl374002_76] at BK365)
     (try simp only [hl374002_76] at BK373)
     (try simp only [hl374002_76] at BK383)
     (try simp only [hl374002_76] at HO_366001)
     (try simp only [hl374002_76] at HO_366002)
     (try simp only [hl374002_76] at HO_374001)
     (try simp only [hl374002_76] at HO_384001)
     (try simp only [hl374002_76] at HO_384002)
     cases kq with
     | zero => exact absurd HA.out (by simp [laws_FnExactCuckooInsert.j1])
     | succ kj76 =>
      have H := HA.out
      clear HA
      simp only [laws_FnExactCuckooInsert.j1] at H
      by_cases c116 : x87_76 = true
      ·
       subst c116
       rw [if_pos rfl] at H
       obtain rfl := Option.some.inj H
       go_wp2
       go_ret
       exact ⟨by first | rfl | (simp [errW_none, errW_some] <;> rfl) | (simp [*, errW_none, errW_some] <;> rfl), uN HB⟩
      replace c116 := Bool.eq_false_iff.mpr c116
      subst c116
      rw [if_neg (show ¬ (false = true) by decide)] at H
      replace H := Option.bind_eq_some_iff.mp H
      obtain ⟨⟨t397, t398, t399⟩, A1170, H⟩ := H
      try dsimp only at H
      have A117 := Aside0.mk A1170
      clear A1170
      replace H := Option.bind_eq_some_iff.mp H
      obtain ⟨t400, A1180, H⟩ := H
      try dsimp only at H
      have A118 := Aside0.mk A1180
      clear A1180
      by_cases c119 : t400 < 0
      ·
       rw [if_pos c119] at H
       have c119b0 : decide (t400 < 0) = true := decide_eq_true c119
       clear c119
       obtain rfl := Option.some.inj H
       have hnb120 := NB383_347.out
       have hnc120 := NB347_383.out
       have hnb121 := NB383_365.out
       have hnc121 := NB365_383.out
       have hnb122 := NB383_373.out
       have hnc122 := NB373_383.out
       obtain ⟨hcz123_0, hcz123_1, hcz123_2, hfz123_0, hfz123_1, hfz123_2⟩ := ce3 BK383
       go_wp2_with (first | ((with_reducible refine gate_callee (f := 11) rfl ?_); refine goesL_ (some 90) rfl rfl Try.func11 (by kernel_rfl) rfl #[.agg #[.int .i64 t374, .slice Ao43 t375.length co43, .slice Ao44 t378.length co44], .int .i64 1] rfl (by (try simp only [List.map_toArray, List.map_cons, List.map_nil]); first | done | rfl) ?_; (with_reducible refine (laws_markCuckoo.calls kj76 t374 (fun k_ => some k_ = (.slice Ao43 t375.length co43 : Value).ownBlock) (.slice Ao43 t375.length co43) t375 (fun k_ => some k_ = (.slice Ao44 t378.length co44 : Value).ownBlock) (.slice Ao44 t378.length co44) t378 1 t397 t398 t399 w _ ?side1 ?side2 ?side3 ?side4 ?side5 A117.out).mono ?_); (case side1 => exact uN HB); (case side2 => exact Kd.R_tight rfl HO_384001.out); (case side3 => exact fun k_ e_ => (HO_384001.out.1 k_ e_.symm).2.2.2); (case side4 => exact Kd.R_tight rfl HO_384002.out); (case side5 => exact fun k_ e_ => (HO_384002.out.1 k_ e_.symm).2.2.2); rintro e w124 ⟨rfl, hy0, hy1, hb, hkp⟩; refine ⟨_, rfl, ?_⟩; replace HO_366001 := Aside0.mk (Kd.R_mono (ok' := fun k_ => some k_ ≠ (.slice Ao35 t394.length co35 : Value).ownBlock ∧ some k_ ≠ (.slice Ao36 t395.length co36 : Value).ownBlock ∧ some k_ ≠ (.slice Ao43 t375.length co43 : Value).ownBlock ∧ some k_ ≠ (.slice Ao44 t378.length co44 : Value).ownBlock) (Kd.R_keptB (HO_366001.out) hkp (fun k_ hk_ hs_ => Or.elim hs_ (fun e_ => (hk_.2.2.1) e_) (fun e_ => (hk_.2.2.2) e_))) (fun k_ hk_ => ⟨hk_.1.1, hk_.1.2.1, hk_.1.2.2.1, hk_.1.2.2.2⟩)); replace HO_366002 := Aside0.mk (Kd.V_mono (ok' := fun k_ => some k_ ≠ (.slice Ao27 t357.length co27 : Value).ownBlock ∧ some k_ ≠ (.slice Ao35 t394.length co35 : Value).ownBlock ∧ some k_ ≠ (.slice Ao36 t395.length co36 : Value).ownBlock ∧ some k_ ≠ (.slice Ao43 t375.length co43 : Value).ownBlock ∧ some k_ ≠ (.slice Ao44 t378.length co44 : Value).ownBlock ∧ k_ ≠ gb347 ∧ k_ ≠ gb365 ∧ k_ ≠ gb373 ∧ k_ ≠ gb383) (Kd.V_keptB (HO_366002.out) hkp (fun k_ hk_ hs_ => Or.elim hs_ (fun e_ => (hk_.2.2.2.1) e_) (fun e_ => (hk_.2.2.2.2.1) e_))) (fun k_ hk_ => ⟨hk_.1.1, hk_.1.2.1, hk_.1.2.2.1, hk_.1.2.2.2.1, hk_.1.2.2.2.2.1, hk_.1.2.2.2.2.2.1, hk_.1.2.2.2.2.2.2.1, hk_.1.2.2.2.2.2.2.2.1, hk_.1.2.2.2.2.2.2.2.2⟩)); replace HO_374001 := Aside0.mk (Kd.R_mono (ok' := fun k_ => some k_ ≠ (.slice Ao27 t357.length co27 : Value).ownBlock ∧ some k_ ≠ (.slice Ao36 t395.length co36 : Value).ownBlock ∧ some k_ ≠ (.slice Ao43 t375.length co43 : Value).ownBlock ∧ some k_ ≠ (.slice Ao44 t378.length co44 : Value).ownBlock) (Kd.R_keptB (HO_374001.out) hkp (fun k_ hk_ hs_ => Or.elim hs_ (fun e_ => (hk_.2.2.1) e_) (fun e_ => (hk_.2.2.2) e_))) (fun k_ hk_ => ⟨hk_.1.1, hk_.1.2.1, hk_.1.2.2.1, hk_.1.2.2.2⟩)); replace HO_374002 := Aside0.mk (Kd.R_mono (ok' := fun k_ => some k_ ≠ (.slice Ao27 t357.length co27 : Value).ownBlock ∧ some k_ ≠ (.slice Ao35 t394.length co35 : Value).ownBlock ∧ some k_ ≠ (.slice Ao43 t375.length co43 : Value).ownBlock ∧ some k_ ≠ (.slice Ao44 t378.length co44 : Value).ownBlock) (Kd.R_keptB (HO_374002.out) hkp (fun k_ hk_ hs_ => Or.elim hs_ (fun e_ => (hk_.2.2.1) e_) (fun e_ => (hk_.2.2.2) e_))) (fun k_ hk_ => ⟨hk_.1.1, hk_.1.2.1, hk_.1.2.2.1, hk_.1.2.2.2⟩)); replace BK347 := Aside0.mk (blk_kept (uK BK347) hkp (fun hs_ => Or.elim hs_ (fun e_ => (fun e_ => (Kd.R_ne HO_384001.out BK347.out (by decide)) e_) e_) (fun e_ => (fun e_ => (Kd.R_ne HO_384002.out BK347.out (by decide)) e_) e_))); replace BK365 := Aside0.mk (blk_kept (uK BK365) hkp (fun hs_ => Or.elim hs_ (fun e_ => (fun e_ => (Kd.R_ne HO_384001.out BK365.out (by decide)) e_) e_) (fun e_ => (fun e_ => (Kd.R_ne HO_384002.out BK365.out (by decide)) e_) e_))); replace BK373 := Aside0.mk (blk_kept (uK BK373) hkp (fun hs_ => Or.elim hs_ (fun e_ => (fun e_ => (Kd.R_ne HO_384001.out BK373.out (by decide)) e_) e_) (fun e_ => (fun e_ => (Kd.R_ne HO_384002.out BK373.out (by decide)) e_) e_))); replace BK383 := Aside0.mk (blk_kept (uK BK383) hkp (fun hs_ => Or.elim hs_ (fun e_ => (fun e_ => (Kd.R_ne HO_384001.out BK383.out (by decide)) e_) e_) (fun e_ => (fun e_ => (Kd.R_ne HO_384002.out BK383.out (by decide)) e_) e_))); replace HO_384001 := Aside0.mk (Kd.R_reok rfl hy0 (fun k_ e_ => HO_384001.out.1 k_ e_)); replace HO_384002 := Aside0.mk (Kd.R_reok rfl hy1 (fun k_ e_ => HO_384002.out.1 k_ e_)); replace HB := Aside0.mk (hb); (try clear hb); (try clear hkp); (try clear hy0); (try clear hy1); obtain ⟨hcz125_0, hcz125_1, hcz125_2, hfz125_0, hfz125_1, hfz125_2⟩ := ce3 BK383) | ((with_reducible refine gate_callee (f := 12) rfl ?_); refine goesL_ (some 93) rfl rfl Try.func12 (by kernel_rfl) rfl #[.agg #[.int .i64 t374, .slice Ao43 t398.length co43, .slice Ao44 t399.length co44], .int .i64 1] rfl (by (try simp only [List.map_toArray, List.map_cons, List.map_nil]); first | done | (rw [show t398.length = t375.length from (Kd.R_reads' HO_384001.out).1.symm, show t399.length = t378.length from (Kd.R_reads' HO_384002.out).1.symm] <;> rfl) | rfl | (simp only [List.length_drop, List.length_take]; rfl)) ?_; (with_reducible refine (laws_heldCuckoo.calls kj76 t374 _ _ t398 _ _ t399 1 t400 _ ?side1 ?side2 ?side3 ?side4 A118.out).mono ?_); (case side1 => exact uD HO_384001); (case side2 => rw [show t398.length = t375.length from (Kd.R_reads' HO_384001.out).1.symm]; exact (Kd.R_reads' HO_384001.out).2.1); (case side3 => exact uD HO_384002); (case side4 => rw [show t399.length = t378.length from (Kd.R_reads' HO_384002.out).1.symm]; exact (Kd.R_reads' HO_384002.out).2.1); rintro e w126 ⟨rfl, hb⟩; refine ⟨_, rfl, ?_⟩; replace HO_366001 := Aside0.mk (Kd.R_below (uR HO_366001) hb); replace HO_366002 := Aside0.mk (Kd.V_below (by (with_reducible repeat (first | apply Kd.V_alloc | apply Kd.V_drewN | apply Kd.V_drew)); exact HO_366002.out) hb); replace HO_374001 := Aside0.mk (Kd.R_below (uR HO_374001) hb); replace HO_374002 := Aside0.mk (Kd.R_below (uR HO_374002) hb); replace HO_384001 := Aside0.mk (Kd.R_below (uR HO_384001) hb); replace HO_384002 := Aside0.mk (Kd.R_below (uR HO_384002) hb); replace BK347 := kB BK347 hb; replace BK365 := kB BK365 hb; replace BK373 := kB BK373 hb; replace BK383 := kB BK383 hb; replace HB := Aside0.mk (below_step (uN HB) hb); (try clear hb); (try clear hb2); (try clear hk); (try clear hi)))
       go_ret
       exact ⟨by first | rfl | (simp [errW_none, errW_some] <;> rfl) | (simp [*, errW_none, errW_some] <;> rfl), uN HB⟩
      rw [if_neg c119] at H
      have c119b0 : decide (t400 < 0) = false := decide_eq_false c119
      clear c119
      by_cases c127 : t400 = t397
      ·
       rw [if_pos c127] at H
       have c127b0 : (t400 == t397) = true := beq_iff_eq.mpr c127
       have c127b1 : (t400 != t397) = false := bne_eq_false_iff_eq.mpr c127
       clear c127
       replace H := Option.bind_eq_some_iff.mp H
       obtain ⟨⟨t401, t402, t405⟩, A1280, H⟩ := H
       try dsimp only at H
       have A128 := Aside0.mk A1280
       clear A1280
       replace H := Option.bind_eq_some_iff.mp H
       obtain ⟨⟨t408, t409, t412, t415, t416⟩, A1290, H⟩ := H
       try dsimp only at H
       have A129 := Aside0.mk A1290
       clear A1290
       have HC130 := Aside0.mk H
       clear H
       have hnb131 := NB383_347.out
       have hnc131 := NB347_383.out
       have hnb132 := NB383_365.out
       have hnc132 := NB365_383.out
       have hnb133 := NB383_373.out
       have hnc133 := NB373_383.out
       obtain ⟨hcz134_0, hcz134_1, hcz134_2, hfz134_0, hfz134_1, hfz134_2⟩ := ce3 BK383
       go_upto_region 27 with (first | ((with_reducible refine gate_callee (f := 11) rfl ?_); refine goesL_ (some 90) rfl rfl Try.func11 (by kernel_rfl) rfl #[.agg #[.int .i64 t374, .slice Ao43 t375.length co43, .slice Ao44 t378.length co44], .int .i64 1] rfl (by (try simp only [List.map_toArray, List.map_cons, List.map_nil]); first | done | rfl) ?_; (with_reducible refine (laws_markCuckoo.calls kj76 t374 (fun k_ => some k_ = (.slice Ao43 t375.length co43 : Value).ownBlock) (.slice Ao43 t375.length co43) t375 (fun k_ => some k_ = (.slice Ao44 t378.length co44 : Value).ownBlock) (.slice Ao44 t378.length co44) t378 1 t397 t398 t399 w _ ?side1 ?side2 ?side3 ?side4 ?side5 A117.out).mono ?_); (case side1 => exact uN HB); (case side2 => exact Kd.R_tight rfl HO_384001.out); (case side3 => exact fun k_ e_ => (HO_384001.out.1 k_ e_.symm).2.2.2); (case side4 => exact Kd.R_tight rfl HO_384002.out); (case side5 => exact fun k_ e_ => (HO_384002.out.1 k_ e_.symm).2.2.2); rintro e w135 ⟨rfl, hy0, hy1, hb, hkp⟩; refine ⟨_, rfl, ?_⟩; replace HO_366001 := Aside0.mk (Kd.R_mono (ok' := fun k_ => some k_ ≠ (.slice Ao35 t394.length co35 : Value).ownBlock ∧ some k_ ≠ (.slice Ao36 t395.length co36 : Value).ownBlock ∧ some k_ ≠ (.slice Ao43 t375.length co43 : Value).ownBlock ∧ some k_ ≠ (.slice Ao44 t378.length co44 : Value).ownBlock) (Kd.R_keptB (HO_366001.out) hkp (fun k_ hk_ hs_ => Or.elim hs_ (fun e_ => (hk_.2.2.1) e_) (fun e_ => (hk_.2.2.2) e_))) (fun k_ hk_ => ⟨hk_.1.1, hk_.1.2.1, hk_.1.2.2.1, hk_.1.2.2.2⟩)); replace HO_366002 := Aside0.mk (Kd.V_mono (ok' := fun k_ => some k_ ≠ (.slice Ao27 t357.length co27 : Value).ownBlock ∧ some k_ ≠ (.slice Ao35 t394.length co35 : Value).ownBlock ∧ some k_ ≠ (.slice Ao36 t395.length co36 : Value).ownBlock ∧ some k_ ≠ (.slice Ao43 t375.length co43 : Value).ownBlock ∧ some k_ ≠ (.slice Ao44 t378.length co44 : Value).ownBlock ∧ k_ ≠ gb347 ∧ k_ ≠ gb365 ∧ k_ ≠ gb373 ∧ k_ ≠ gb383) (Kd.V_keptB (HO_366002.out) hkp (fun k_ hk_ hs_ => Or.elim hs_ (fun e_ => (hk_.2.2.2.1) e_) (fun e_ => (hk_.2.2.2.2.1) e_))) (fun k_ hk_ => ⟨hk_.1.1, hk_.1.2.1, hk_.1.2.2.1, hk_.1.2.2.2.1, hk_.1.2.2.2.2.1, hk_.1.2.2.2.2.2.1, hk_.1.2.2.2.2.2.2.1, hk_.1.2.2.2.2.2.2.2.1, hk_.1.2.2.2.2.2.2.2.2⟩)); replace HO_374001 := Aside0.mk (Kd.R_mono (ok' := fun k_ => some k_ ≠ (.slice Ao27 t357.length co27 : Value).ownBlock ∧ some k_ ≠ (.slice Ao36 t395.length co36 : Value).ownBlock ∧ some k_ ≠ (.slice Ao43 t375.length co43 : Value).ownBlock ∧ some k_ ≠ (.slice Ao44 t378.length co44 : Value).ownBlock) (Kd.R_keptB (HO_374001.out) hkp (fun k_ hk_ hs_ => Or.elim hs_ (fun e_ => (hk_.2.2.1) e_) (fun e_ => (hk_.2.2.2) e_))) (fun k_ hk_ => ⟨hk_.1.1, hk_.1.2.1, hk_.1.2.2.1, hk_.1.2.2.2⟩)); replace HO_374002 := Aside0.mk (Kd.R_mono (ok' := fun k_ => some k_ ≠ (.slice Ao27 t357.length co27 : Value).ownBlock ∧ some k_ ≠ (.slice Ao35 t394.length co35 : Value).ownBlock ∧ some k_ ≠ (.slice Ao43 t375.length co43 : Value).ownBlock ∧ some k_ ≠ (.slice Ao44 t378.length co44 : Value).ownBlock) (Kd.R_keptB (HO_374002.out) hkp (fun k_ hk_ hs_ => Or.elim hs_ (fun e_ => (hk_.2.2.1) e_) (fun e_ => (hk_.2.2.2) e_))) (fun k_ hk_ => ⟨hk_.1.1, hk_.1.2.1, hk_.1.2.2.1, hk_.1.2.2.2⟩)); replace BK347 := Aside0.mk (blk_kept (uK BK347) hkp (fun hs_ => Or.elim hs_ (fun e_ => (fun e_ => (Kd.R_ne HO_384001.out BK347.out (by decide)) e_) e_) (fun e_ => (fun e_ => (Kd.R_ne HO_384002.out BK347.out (by decide)) e_) e_))); replace BK365 := Aside0.mk (blk_kept (uK BK365) hkp (fun hs_ => Or.elim hs_ (fun e_ => (fun e_ => (Kd.R_ne HO_384001.out BK365.out (by decide)) e_) e_) (fun e_ => (fun e_ => (Kd.R_ne HO_384002.out BK365.out (by decide)) e_) e_))); replace BK373 := Aside0.mk (blk_kept (uK BK373) hkp (fun hs_ => Or.elim hs_ (fun e_ => (fun e_ => (Kd.R_ne HO_384001.out BK373.out (by decide)) e_) e_) (fun e_ => (fun e_ => (Kd.R_ne HO_384002.out BK373.out (by decide)) e_) e_))); replace BK383 := Aside0.mk (blk_kept (uK BK383) hkp (fun hs_ => Or.elim hs_ (fun e_ => (fun e_ => (Kd.R_ne HO_384001.out BK383.out (by decide)) e_) e_) (fun e_ => (fun e_ => (Kd.R_ne HO_384002.out BK383.out (by decide)) e_) e_))); replace HO_384001 := Aside0.mk (Kd.R_reok rfl hy0 (fun k_ e_ => HO_384001.out.1 k_ e_)); replace HO_384002 := Aside0.mk (Kd.R_reok rfl hy1 (fun k_ e_ => HO_384002.out.1 k_ e_)); replace HB := Aside0.mk (hb); (try clear hb); (try clear hkp); (try clear hy0); (try clear hy1); obtain ⟨hcz136_0, hcz136_1, hcz136_2, hfz136_0, hfz136_1, hfz136_2⟩ := ce3 BK383) | ((with_reducible refine gate_callee (f := 12) rfl ?_); refine goesL_ (some 93) rfl rfl Try.func12 (by kernel_rfl) rfl #[.agg #[.int .i64 t374, .slice Ao43 t398.length co43, .slice Ao44 t399.length co44], .int .i64 1] rfl (by (try simp only [List.map_toArray, List.map_cons, List.map_nil]); first | done | (rw [show t398.length = t375.length from (Kd.R_reads' HO_384001.out).1.symm, show t399.length = t378.length from (Kd.R_reads' HO_384002.out).1.symm] <;> rfl) | rfl | (simp only [List.length_drop, List.length_take]; rfl)) ?_; (with_reducible refine (laws_heldCuckoo.calls kj76 t374 _ _ t398 _ _ t399 1 t400 _ ?side1 ?side2 ?side3 ?side4 A118.out).mono ?_); (case side1 => exact uD HO_384001); (case side2 => rw [show t398.length = t375.length from (Kd.R_reads' HO_384001.out).1.symm]; exact (Kd.R_reads' HO_384001.out).2.1); (case side3 => exact uD HO_384002); (case side4 => rw [show t399.length = t378.length from (Kd.R_reads' HO_384002.out).1.symm]; exact (Kd.R_reads' HO_384002.out).2.1); rintro e w137 ⟨rfl, hb⟩; refine ⟨_, rfl, ?_⟩; replace HO_366001 := Aside0.mk (Kd.R_below (uR HO_366001) hb); replace HO_366002 := Aside0.mk (Kd.V_below (by (with_reducible repeat (first | apply Kd.V_alloc | apply Kd.V_drewN | apply Kd.V_drew)); exact HO_366002.out) hb); replace HO_374001 := Aside0.mk (Kd.R_below (uR HO_374001) hb); replace HO_374002 := Aside0.mk (Kd.R_below (uR HO_374002) hb); replace HO_384001 := Aside0.mk (Kd.R_below (uR HO_384001) hb); replace HO_384002 := Aside0.mk (Kd.R_below (uR HO_384002) hb); replace BK347 := kB BK347 hb; replace BK365 := kB BK365 hb; replace BK373 := kB BK373 hb; replace BK383 := kB BK383 hb; replace HB := Aside0.mk (below_step (uN HB) hb); (try clear hb); (try clear hb2); (try clear hk); (try clear hi); have hnb138 := NB347_365.out; have hnc138 := NB365_347.out; have hnb139 := NB347_373.out; have hnc139 := NB373_347.out; obtain ⟨hcz140_0, hcz140_1, hcz140_2, hfz140_0, hfz140_1, hfz140_2⟩ := ce3 BK347) | ((with_reducible refine gate_callee (f := 8) rfl ?_); refine goesL_ (some 101) rfl rfl Try.func8 (by kernel_rfl) rfl #[.agg #[.int .i64 a0_0, .slice A0_1 l0_1.length c0_1, .slice A0_2 l0_2.length c0_2]] rfl (by (try simp only [List.map_toArray, List.map_cons, List.map_nil]); first | done | rfl) ?_; (with_reducible refine (laws_toCuckoo.calls kj76 a0_0 _ _ l0_1 _ _ l0_2 t401 t402 t405 _ ?side1 ?side2 ?side3 ?side4 A128.out).mono ?_); (case side1 => exact uC HR0_1 HB); (case side2 => exact HC0_1.out); (case side3 => exact uC HR0_2 HB); (case side4 => exact HC0_2.out); rintro e w141 ⟨v403, v406, rfl, ho0, ho1, hb⟩; refine ⟨_, rfl, ?_⟩; replace HO_366002 := Aside0.mk (Kd.V_mono (Kd.V_told (Kd.V_told (Kd.V_old (by (with_reducible repeat (first | apply Kd.V_alloc | apply Kd.V_drewN | apply Kd.V_drew)); exact HO_366002.out) hb) (Kd.R_base ho0)) (Kd.R_base ho1)) (fun _ h_ => h_.1)); have HO404 := Aside0.mk (Kd.R_lower (Kd.R_new' (Kd.R_new' (Kd.R_new' (Kd.R_new' (Kd.R_new' ho0 (Kd.R_lt (uR HO_366001))) (Kd.R_lt (uR HO_374001))) (Kd.R_lt (uR HO_374002))) (Kd.R_lt (uR HO_384001))) (Kd.R_lt (uR HO_384002))) (below_size (uN HB))); have HO407 := Aside0.mk (Kd.R_lower (Kd.R_new' (Kd.R_new' (Kd.R_new' (Kd.R_new' (Kd.R_new' ho1 (Kd.R_lt (uR HO_366001))) (Kd.R_lt (uR HO_374001))) (Kd.R_lt (uR HO_374002))) (Kd.R_lt (uR HO_384001))) (Kd.R_lt (uR HO_384002))) (below_size (uN HB))); replace HO_366001 := Aside0.mk (Kd.R_mono (Kd.R_told (Kd.R_told (Kd.R_old (uR HO_366001) hb) (Kd.R_base ho0)) (Kd.R_base ho1)) (fun _ h_ => h_.1)); replace HO_374001 := Aside0.mk (Kd.R_mono (Kd.R_told (Kd.R_told (Kd.R_old (uR HO_374001) hb) (Kd.R_base ho0)) (Kd.R_base ho1)) (fun _ h_ => h_.1)); replace HO_374002 := Aside0.mk (Kd.R_mono (Kd.R_told (Kd.R_told (Kd.R_old (uR HO_374002) hb) (Kd.R_base ho0)) (Kd.R_base ho1)) (fun _ h_ => h_.1)); replace HO_384001 := Aside0.mk (Kd.R_mono (Kd.R_told (Kd.R_told (Kd.R_old (uR HO_384001) hb) (Kd.R_base ho0)) (Kd.R_base ho1)) (fun _ h_ => h_.1)); replace HO_384002 := Aside0.mk (Kd.R_mono (Kd.R_told (Kd.R_told (Kd.R_old (uR HO_384002) hb) (Kd.R_base ho0)) (Kd.R_base ho1)) (fun _ h_ => h_.1)); replace BK347 := kB BK347 hb; replace BK365 := kB BK365 hb; replace BK373 := kB BK373 hb; replace BK383 := kB BK383 hb; replace HB := Aside0.mk (below_step (uN HB) hb); (try clear hb); (try clear hb2); (try clear hk); (try clear hi); (try clear ho0); (try clear ho1); obtain ⟨Ao142, co142, eo142⟩ := Kd.R_slice HO404.out; subst eo142; obtain ⟨Ao143, co143, eo143⟩ := Kd.R_slice HO407.out; subst eo143) | ((with_reducible refine gate_callee (f := 14) rfl ?_); refine goesL_ (some 104) rfl rfl Try.func14 (by kernel_rfl) rfl #[.agg #[.int .i64 t401, .slice Ao142 t402.length co142, .slice Ao143 t405.length co143], .string a1, .int .i64 a2] rfl (by (try simp only [List.map_toArray, List.map_cons, List.map_nil]); first | done | rfl) ?_; (with_reducible refine (impl_CuckooInsert.calls kj76 t401 _ _ t402 _ _ t405 a1 a2 t408 t409 t412 t415 t416 _ ?side1 ?side2 ?side3 ?side4 A129.out).mono ?_); (case side1 => exact uD HO404); (case side2 => exact (Kd.R_reads' HO404.out).2.1); (case side3 => exact uD HO407); (case side4 => exact (Kd.R_reads' HO407.out).2.1); rintro e w144 ⟨v410, v413, rfl, ho0, ho1, hb⟩; refine ⟨_, rfl, ?_⟩; replace HO_366002 := Aside0.mk (Kd.V_mono (Kd.V_told (Kd.V_told (Kd.V_old (by (with_reducible repeat (first | apply Kd.V_alloc | apply Kd.V_drewN | apply Kd.V_drew)); exact HO_366002.out) hb) (Kd.R_base ho0)) (Kd.R_base ho1)) (fun _ h_ => h_.1)); have HO411 := Aside0.mk (Kd.R_lower (Kd.R_new' (Kd.R_new' (Kd.R_new' (Kd.R_new' (Kd.R_new' (Kd.R_new' (Kd.R_new' ho0 (Kd.R_lt (uR HO_366001))) (Kd.R_lt (uR HO_374001))) (Kd.R_lt (uR HO_374002))) (Kd.R_lt (uR HO_384001))) (Kd.R_lt (uR HO_384002))) (Kd.R_lt (uR HO404))) (Kd.R_lt (uR HO407))) (below_size (uN HB))); have HO414 := Aside0.mk (Kd.R_lower (Kd.R_new' (Kd.R_new' (Kd.R_new' (Kd.R_new' (Kd.R_new' (Kd.R_new' (Kd.R_new' ho1 (Kd.R_lt (uR HO_366001))) (Kd.R_lt (uR HO_374001))) (Kd.R_lt (uR HO_374002))) (Kd.R_lt (uR HO_384001))) (Kd.R_lt (uR HO_384002))) (Kd.R_lt (uR HO404))) (Kd.R_lt (uR HO407))) (below_size (uN HB))); replace HO_366001 := Aside0.mk (Kd.R_mono (Kd.R_told (Kd.R_told (Kd.R_old (uR HO_366001) hb) (Kd.R_base ho0)) (Kd.R_base ho1)) (fun _ h_ => h_.1)); replace HO_374001 := Aside0.mk (Kd.R_mono (Kd.R_told (Kd.R_told (Kd.R_old (uR HO_374001) hb) (Kd.R_base ho0)) (Kd.R_base ho1)) (fun _ h_ => h_.1)); replace HO_374002 := Aside0.mk (Kd.R_mono (Kd.R_told (Kd.R_told (Kd.R_old (uR HO_374002) hb) (Kd.R_base ho0)) (Kd.R_base ho1)) (fun _ h_ => h_.1)); replace HO_384001 := Aside0.mk (Kd.R_mono (Kd.R_told (Kd.R_told (Kd.R_old (uR HO_384001) hb) (Kd.R_base ho0)) (Kd.R_base ho1)) (fun _ h_ => h_.1)); replace HO_384002 := Aside0.mk (Kd.R_mono (Kd.R_told (Kd.R_told (Kd.R_old (uR HO_384002) hb) (Kd.R_base ho0)) (Kd.R_base ho1)) (fun _ h_ => h_.1)); replace HO404 := Aside0.mk (Kd.R_mono (Kd.R_told (Kd.R_told (Kd.R_old (uR HO404) hb) (Kd.R_base ho0)) (Kd.R_base ho1)) (fun _ h_ => h_.1)); replace HO407 := Aside0.mk (Kd.R_mono (Kd.R_told (Kd.R_told (Kd.R_old (uR HO407) hb) (Kd.R_base ho0)) (Kd.R_base ho1)) (fun _ h_ => h_.1)); replace BK347 := kB BK347 hb; replace BK365 := kB BK365 hb; replace BK373 := kB BK373 hb; replace BK383 := kB BK383 hb; replace HB := Aside0.mk (below_step (uN HB) hb); (try clear hb); (try clear hb2); (try clear hk); (try clear hi); (try clear ho0); (try clear ho1)) | ((with_reducible refine gate_dst (N := 18) rfl ?_); refine box_event ?hg (N := 18) ?hd (cs := #[.int .i64 0, .slice none 0 0, .slice none 0 0]) (t := 26) ?hr ?_; (case hd => rfl); (case hg => rfl); (case hr => first | (go_simp; done) | (go_simp; rfl)); intro gb417 hg w145 hbox hb; replace HO_366001 := Aside0.mk (Kd.R_below (uR HO_366001) hb); replace HO_366002 := Aside0.mk (Kd.V_below (Kd.V_elderB (by (with_reducible repeat (first | apply Kd.V_alloc | apply Kd.V_drewN | apply Kd.V_drew)); exact HO_366002.out) gb417 (Nat.le_of_eq hg.symm)) hb); replace HO_374001 := Aside0.mk (Kd.R_below (uR HO_374001) hb); replace HO_374002 := Aside0.mk (Kd.R_below (uR HO_374002) hb); replace HO_384001 := Aside0.mk (Kd.R_below (uR HO_384001) hb); replace HO_384002 := Aside0.mk (Kd.R_below (uR HO_384002) hb); replace HO404 := Aside0.mk (Kd.R_below (uR HO404) hb); replace HO407 := Aside0.mk (Kd.R_below (uR HO407) hb); replace HO411 := Aside0.mk (Kd.R_below (uR HO411) hb); replace HO414 := Aside0.mk (Kd.R_below (uR HO414) hb); have BK417 := Aside0.mk (hbox); have GW417 := nG HB hg; have GE417 := nG HB hg; have GI417 := gI GE417; replace HB := Aside0.mk (below_step (uN HB) hb); have NB347_417 := nL BK347 hg; have NB417_347 := nR BK347 hg; replace BK347 := kB BK347 hb; have NB365_417 := nL BK365 hg; have NB417_365 := nR BK365 hg; replace BK365 := kB BK365 hb; have NB373_417 := nL BK373 hg; have NB417_373 := nR BK373 hg; replace BK373 := kB BK373 hb; have NB383_417 := nL BK383 hg; have NB417_383 := nR BK383 hg; replace BK383 := kB BK383 hb; clear hb hbox hg; have hnb146 := NB417_347.out; have hnc146 := NB347_417.out; have hnb147 := NB417_365.out; have hnc147 := NB365_417.out; have hnb148 := NB417_373.out; have hnc148 := NB373_417.out; have hnb149 := NB417_383.out; have hnc149 := NB383_417.out; obtain ⟨hcz150_0, hcz150_1, hcz150_2, hfz150_0, hfz150_1, hfz150_2⟩ := ce3 BK417; obtain ⟨Ao151, co151, eo151⟩ := Kd.R_slice HO411.out; subst eo151; obtain ⟨Ao152, co152, eo152⟩ := Kd.R_slice HO414.out; subst eo152))
       (try simp only [Act.put, setIfInBounds_toArray, set_cons_zero, set_cons_succ])
       go_cut [121] (fun v121 wc => ∃ (kq : Nat) (x121_129 : Bool), v121 = .bool x121_129 ∧ Aside0 (laws_FnExactCuckooInsert.j2 kq t397 x121_129 t374 t398 t399 = some r) ∧ Aside0 (kq ≤ kj76) ∧ Aside0 (Kd.R Kd.string 9 wc w.heap.size (fun k_ => some k_ ≠ ((.slice Ao35 t394.length co35) : Value).ownBlock ∧ some k_ ≠ ((.slice Ao36 t395.length co36) : Value).ownBlock ∧ some k_ ≠ ((.slice Ao43 t375.length co43) : Value).ownBlock ∧ some k_ ≠ ((.slice Ao44 t378.length co44) : Value).ownBlock ∧ some k_ ≠ ((.slice Ao151 t409.length co151) : Value).ownBlock ∧ some k_ ≠ ((.slice Ao152 t412.length co152) : Value).ownBlock) (.slice Ao27 t357.length co27) t357) ∧ Aside0 (Kd.V Kd.string 9 wc w.heap.size (fun k_ => some k_ ≠ ((.slice Ao27 t357.length co27) : Value).ownBlock ∧ some k_ ≠ ((.slice Ao35 t394.length co35) : Value).ownBlock ∧ some k_ ≠ ((.slice Ao36 t395.length co36) : Value).ownBlock ∧ some k_ ≠ ((.slice Ao43 t375.length co43) : Value).ownBlock ∧ some k_ ≠ ((.slice Ao44 t378.length co44) : Value).ownBlock ∧ some k_ ≠ ((.slice Ao151 t409.length co151) : Value).ownBlock ∧ some k_ ≠ ((.slice Ao152 t412.length co152) : Value).ownBlock ∧ k_ ≠ gb347 ∧ k_ ≠ gb365 ∧ k_ ≠ gb373 ∧ k_ ≠ gb383 ∧ k_ ≠ gb417) (.slice Ao28 t360.length co28) t360) ∧ Aside0 (Kd.R Kd.string 9 wc w.heap.size (fun k_ => some k_ ≠ ((.slice Ao27 t357.length co27) : Value).ownBlock ∧ some k_ ≠ ((.slice Ao36 t395.length co36) : Value).ownBlock ∧ some k_ ≠ ((.slice Ao43 t375.length co43) : Value).ownBlock ∧ some k_ ≠ ((.slice Ao44 t378.length co44) : Value).ownBlock ∧ some k_ ≠ ((.slice Ao151 t409.length co151) : Value).ownBlock ∧ some k_ ≠ ((.slice Ao152 t412.length co152) : Value).ownBlock) (.slice Ao35 t394.length co35) t394) ∧ Aside0 (Kd.R Kd.string 9 wc w.heap.size (fun k_ => some k_ ≠ ((.slice Ao27 t357.length co27) : Value).ownBlock ∧ some k_ ≠ ((.slice Ao35 t394.length co35) : Value).ownBlock ∧ some k_ ≠ ((.slice Ao43 t375.length co43) : Value).ownBlock ∧ some k_ ≠ ((.slice Ao44 t378.length co44) : Value).ownBlock ∧ some k_ ≠ ((.slice Ao151 t409.length co151) : Value).ownBlock ∧ some k_ ≠ ((.slice Ao152 t412.length co152) : Value).ownBlock) (.slice Ao36 t395.length co36) t395) ∧ Aside0 (Kd.R Kd.string 9 wc w.heap.size (fun k_ => some k_ ≠ ((.slice Ao27 t357.length co27) : Value).ownBlock ∧ some k_ ≠ ((.slice Ao35 t394.length co35) : Value).ownBlock ∧ some k_ ≠ ((.slice Ao36 t395.length co36) : Value).ownBlock ∧ some k_ ≠ ((.slice Ao44 t378.length co44) : Value).ownBlock ∧ some k_ ≠ ((.slice Ao151 t409.length co151) : Value).ownBlock ∧ some k_ ≠ ((.slice Ao152 t412.length co152) : Value).ownBlock) (.slice Ao43 t375.length co43) t398) ∧ Aside0 (Kd.R Kd.string 9 wc w.heap.size (fun k_ => some k_ ≠ ((.slice Ao27 t357.length co27) : Value).ownBlock ∧ some k_ ≠ ((.slice Ao35 t394.length co35) : Value).ownBlock ∧ some k_ ≠ ((.slice Ao36 t395.length co36) : Value).ownBlock ∧ some k_ ≠ ((.slice Ao43 t375.length co43) : Value).ownBlock ∧ some k_ ≠ ((.slice Ao151 t409.length co151) : Value).ownBlock ∧ some k_ ≠ ((.slice Ao152 t412.length co152) : Value).ownBlock) (.slice Ao44 t378.length co44) t399) ∧ Aside0 (Kd.R Kd.string 9 wc w.heap.size (fun k_ => some k_ ≠ ((.slice Ao27 t357.length co27) : Value).ownBlock ∧ some k_ ≠ ((.slice Ao35 t394.length co35) : Value).ownBlock ∧ some k_ ≠ ((.slice Ao36 t395.length co36) : Value).ownBlock ∧ some k_ ≠ ((.slice Ao43 t375.length co43) : Value).ownBlock ∧ some k_ ≠ ((.slice Ao44 t378.length co44) : Value).ownBlock ∧ some k_ ≠ ((.slice Ao152 t412.length co152) : Value).ownBlock) (.slice Ao151 t409.length co151) t409) ∧ Aside0 (Kd.R Kd.string 9 wc w.heap.size (fun k_ => some k_ ≠ ((.slice Ao27 t357.length co27) : Value).ownBlock ∧ some k_ ≠ ((.slice Ao35 t394.length co35) : Value).ownBlock ∧ some k_ ≠ ((.slice Ao36 t395.length co36) : Value).ownBlock ∧ some k_ ≠ ((.slice Ao43 t375.length co43) : Value).ownBlock ∧ some k_ ≠ ((.slice Ao44 t378.length co44) : Value).ownBlock ∧ some k_ ≠ ((.slice Ao151 t409.length co151) : Value).ownBlock) (.slice Ao152 t412.length co152) t412) ∧ Aside0 (wc.heap[gb347]? = some (.cells #[.int .i64 a0_0, (.slice A0_1 l0_1.length c0_1), (.slice A0_2 l0_2.length c0_2)] 24 (0, 0))) ∧ Aside0 (wc.heap[gb365]? = some (.cells #[.int .i64 t356, (.slice Ao27 t357.length co27), (.slice Ao28 t360.length co28)] 26 (0, 0))) ∧ Aside0 (wc.heap[gb373]? = some (.cells #[.int .i64 t366, (.slice Ao35 t394.length co35), (.slice Ao36 t395.length co36)] 26 (0, 0))) ∧ Aside0 (wc.heap[gb383]? = some (.cells #[.int .i64 t374, (.slice Ao43 t375.length co43), (.slice Ao44 t378.length co44)] 26 (0, 0))) ∧ Aside0 (wc.heap[gb417]? = some (.cells #[.int .i64 t408, (.slice Ao151 t409.length co151), (.slice Ao152 t412.length co152)] 26 (0, 0))) ∧ Aside0 (Below w.heap.size w wc))
       case first =>
        have H := HC130.out
        clear HC130
        replace H := Option.bind_eq_some_iff.mp H
        obtain ⟨t418, A1530, H⟩ := H
        try dsimp only at H
        have A153 := Aside0.mk A1530
        clear A1530
        by_cases c154 : t418 = true
        ·
         subst c154
         rw [if_pos rfl] at H
         by_cases c155 : t415 = t363
         ·
          rw [if_pos c155] at H
          have c155b0 : (t415 == t363) = true := beq_iff_eq.mpr c155
          have c155b1 : (t415 != t363) = false := bne_eq_false_iff_eq.mpr c155
          clear c155
          (first | rw [c155b0] | (simp only [i64_w, i32_w]; rw [c155b0]) | skip)
          have H' := Aside0.mk H
          clear H
          have hnb156 := NB417_347.out
          have hnc156 := NB347_417.out
          have hnb157 := NB417_365.out
          have hnc157 := NB365_417.out
          have hnb158 := NB417_373.out
          have hnc158 := NB373_417.out
          have hnb159 := NB417_383.out
          have hnc159 := NB383_417.out
          obtain ⟨hcz160_0, hcz160_1, hcz160_2, hfz160_0, hfz160_1, hfz160_2⟩ := ce3 BK417
          have hnb161 := NB365_347.out
          have hnc161 := NB347_365.out
          have hnb162 := NB365_373.out
          have hnc162 := NB373_365.out
          have hnb163 := NB365_383.out
          have hnc163 := NB383_365.out
          obtain ⟨hcz164_0, hcz164_1, hcz164_2, hfz164_0, hfz164_1, hfz164_2⟩ := ce3 BK365
          go_wp2_with (first | ((with_reducible refine gate_callee (f := 10) rfl ?_); refine goesL_ (some 110) rfl rfl Try.func10 (by kernel_rfl) rfl #[.agg #[.int .i64 t408, .slice Ao151 t409.length co151, .slice Ao152 t412.length co152], .agg #[.int .i64 t356, .slice Ao27 t357.length co27, .slice Ao28 t360.length co28]] rfl (by (try simp only [List.map_toArray, List.map_cons, List.map_nil]); first | done | rfl) ?_; (with_reducible refine (laws_eqCuckoo.calls kj76 t408 _ _ t409 _ _ t412 t356 _ _ t357 _ _ t360 true _ ?side1 ?side2 ?side3 ?side4 ?side5 ?side6 ?side7 ?side8 A153.out).mono ?_); (case side1 => refine (Kd.R_reads' (e := 9) (base := w.heap.size) (ok := fun k_ => (((((((some k_ ≠ (.slice Ao152 t412.length co152 : Value).ownBlock ∧ some k_ ≠ (.slice Ao27 t357.length co27 : Value).ownBlock) ∧ some k_ ≠ (.slice Ao35 t394.length co35 : Value).ownBlock) ∧ some k_ ≠ (.slice Ao36 t395.length co36 : Value).ownBlock) ∧ some k_ ≠ (.slice Ao43 t375.length co43 : Value).ownBlock) ∧ some k_ ≠ (.slice Ao44 t378.length co44 : Value).ownBlock) ∧ some k_ ≠ (.slice Ao142 t402.length co142 : Value).ownBlock) ∧ some k_ ≠ (.slice Ao143 t405.length co143 : Value).ownBlock)) (n := t409.length) (c := co151) ?_).2.2; exact (fS HO411 BK417 (by decide))); (case side2 => exact (Kd.R_reads' HO411.out).2.1); (case side3 => refine (Kd.R_reads' (e := 9) (base := w.heap.size) (ok := fun k_ => (((((((some k_ ≠ (.slice Ao151 t409.length co151 : Value).ownBlock ∧ some k_ ≠ (.slice Ao27 t357.length co27 : Value).ownBlock) ∧ some k_ ≠ (.slice Ao35 t394.length co35 : Value).ownBlock) ∧ some k_ ≠ (.slice Ao36 t395.length co36 : Value).ownBlock) ∧ some k_ ≠ (.slice Ao43 t375.length co43 : Value).ownBlock) ∧ some k_ ≠ (.slice Ao44 t378.length co44 : Value).ownBlock) ∧ some k_ ≠ (.slice Ao142 t402.length co142 : Value).ownBlock) ∧ some k_ ≠ (.slice Ao143 t405.length co143 : Value).ownBlock)) (n := t412.length) (c := co152) ?_).2.2; exact (fS HO414 BK417 (by decide))); (case side4 => exact (Kd.R_reads' HO414.out).2.1); (case side5 => refine (Kd.R_reads' (e := 9) (base := w.heap.size) (ok := fun k_ => (((((some k_ ≠ (.slice Ao35 t394.length co35 : Value).ownBlock ∧ (some k_ ≠ (.slice Ao36 t395.length co36 : Value).ownBlock ∧ (some k_ ≠ (.slice Ao43 t375.length co43 : Value).ownBlock ∧ some k_ ≠ (.slice Ao44 t378.length co44 : Value).ownBlock))) ∧ some k_ ≠ (.slice Ao142 t402.length co142 : Value).ownBlock) ∧ some k_ ≠ (.slice Ao143 t405.length co143 : Value).ownBlock) ∧ some k_ ≠ (.slice Ao151 t409.length co151 : Value).ownBlock) ∧ some k_ ≠ (.slice Ao152 t412.length co152 : Value).ownBlock)) (n := t357.length) (c := co27) ?_).2.2; exact (fS HO_366001 BK417 (by decide))); (case side6 => exact (Kd.R_reads' HO_366001.out).2.1); (case side7 => refine (Kd.V_reads' (e := 9) (base := w.heap.size) (ok := fun k_ => ((((((some k_ ≠ (.slice Ao27 t357.length co27 : Value).ownBlock ∧ (some k_ ≠ (.slice Ao35 t394.length co35 : Value).ownBlock ∧ (some k_ ≠ (.slice Ao36 t395.length co36 : Value).ownBlock ∧ (some k_ ≠ (.slice Ao43 t375.length co43 : Value).ownBlock ∧ (some k_ ≠ (.slice Ao44 t378.length co44 : Value).ownBlock ∧ (k_ ≠ gb347 ∧ (k_ ≠ gb365 ∧ (k_ ≠ gb373 ∧ k_ ≠ gb383)))))))) ∧ some k_ ≠ (.slice Ao142 t402.length co142 : Value).ownBlock) ∧ some k_ ≠ (.slice Ao143 t405.length co143 : Value).ownBlock) ∧ some k_ ≠ (.slice Ao151 t409.length co151 : Value).ownBlock) ∧ some k_ ≠ (.slice Ao152 t412.length co152 : Value).ownBlock) ∧ k_ ≠ gb417)) (n := t360.length) (c := co28) ?_).2.2; exact (by (with_reducible repeat (first | apply Kd.V_alloc | apply Kd.V_drewN | apply Kd.V_drew)); exact (Kd.V_mono (Kd.V_far (p := ⟨gb417, 2, none⟩) (Kd.V_far (p := ⟨gb417, 1, none⟩) (Kd.V_far (p := ⟨gb417, 0, none⟩) (Kd.V_mono HO_366002.out (fun k_ hk => (⟨hk, hk.2⟩ : _ ∧ k_ ≠ gb417))) (fun _ hk => hk.2) (.int .i64 t408)) (fun _ hk => hk.2) (.slice Ao151 t409.length co151)) (fun _ hk => hk.2) (.slice Ao152 t412.length co152)) (fun _ h_ => h_.1)))); (case side8 => exact (Kd.V_reads' HO_366002.out).2.1); rintro e w165 ⟨rfl, hb⟩; refine ⟨_, rfl, ?_⟩; replace HO_366001 := Aside0.mk (Kd.R_below (fS HO_366001 BK417 (by decide)) hb); replace HO_366002 := Aside0.mk (Kd.V_below (by (with_reducible repeat (first | apply Kd.V_alloc | apply Kd.V_drewN | apply Kd.V_drew)); exact (Kd.V_mono (Kd.V_far (p := ⟨gb417, 2, none⟩) (Kd.V_far (p := ⟨gb417, 1, none⟩) (Kd.V_far (p := ⟨gb417, 0, none⟩) (Kd.V_mono HO_366002.out (fun k_ hk => (⟨hk, hk.2⟩ : _ ∧ k_ ≠ gb417))) (fun _ hk => hk.2) (.int .i64 t408)) (fun _ hk => hk.2) (.slice Ao151 t409.length co151)) (fun _ hk => hk.2) (.slice Ao152 t412.length co152)) (fun _ h_ => h_.1))) hb); replace HO_374001 := Aside0.mk (Kd.R_below (fS HO_374001 BK417 (by decide)) hb); replace HO_374002 := Aside0.mk (Kd.R_below (fS HO_374002 BK417 (by decide)) hb); replace HO_384001 := Aside0.mk (Kd.R_below (fS HO_384001 BK417 (by decide)) hb); replace HO_384002 := Aside0.mk (Kd.R_below (fS HO_384002 BK417 (by decide)) hb); replace HO404 := Aside0.mk (Kd.R_below (fS HO404 BK417 (by decide)) hb); replace HO407 := Aside0.mk (Kd.R_below (fS HO407 BK417 (by decide)) hb); replace HO411 := Aside0.mk (Kd.R_below (fS HO411 BK417 (by decide)) hb); replace HO414 := Aside0.mk (Kd.R_below (fS HO414 BK417 (by decide)) hb); replace BK347 := Aside0.mk (blk_below (g := gb347) (o := .cells #[.int .i64 a0_0, .slice A0_1 l0_1.length c0_1, .slice A0_2 l0_2.length c0_2] 24 (0, 0)) (by refine uW ?_; refine blk_far ?_ NB347_417.out _; refine uW ?_; refine blk_far ?_ NB347_417.out _; refine uW ?_; refine blk_far ?_ NB347_417.out _; refine uW ?_; exact BK347.out) hb); replace BK365 := Aside0.mk (blk_below (g := gb365) (o := .cells #[.int .i64 t356, .slice Ao27 t357.length co27, .slice Ao28 t360.length co28] 26 (0, 0)) (by refine uW ?_; refine blk_far ?_ NB365_417.out _; refine uW ?_; refine blk_far ?_ NB365_417.out _; refine uW ?_; refine blk_far ?_ NB365_417.out _; refine uW ?_; exact BK365.out) hb); replace BK373 := Aside0.mk (blk_below (g := gb373) (o := .cells #[.int .i64 t366, .slice Ao35 t394.length co35, .slice Ao36 t395.length co36] 26 (0, 0)) (by refine uW ?_; refine blk_far ?_ NB373_417.out _; refine uW ?_; refine blk_far ?_ NB373_417.out _; refine uW ?_; refine blk_far ?_ NB373_417.out _; refine uW ?_; exact BK373.out) hb); replace BK383 := Aside0.mk (blk_below (g := gb383) (o := .cells #[.int .i64 t374, .slice Ao43 t375.length co43, .slice Ao44 t378.length co44] 26 (0, 0)) (by refine uW ?_; refine blk_far ?_ NB383_417.out _; refine uW ?_; refine blk_far ?_ NB383_417.out _; refine uW ?_; refine blk_far ?_ NB383_417.out _; refine uW ?_; exact BK383.out) hb); replace BK417 := Aside0.mk (blk_below (g := gb417) (o := .cells #[.int .i64 t408, .slice Ao151 t409.length co151, .slice Ao152 t412.length co152] 26 (0, 0)) (by refine uW ?_; refine blk_put (cs := #[.int .i64 t408, .slice Ao151 t409.length co151, .slice none 0 0]) ?_ 2 _ rfl; refine uW ?_; refine blk_put (cs := #[.int .i64 t408, .slice none 0 0, .slice none 0 0]) ?_ 1 _ rfl; refine uW ?_; refine blk_put (cs := #[.int .i64 0, .slice none 0 0, .slice none 0 0]) ?_ 0 _ rfl; refine uW ?_; exact BK417.out) hb); replace HB := Aside0.mk (below_step (uN HB) hb); (try clear hb); (try clear hb2); (try clear hk); (try clear hi)))
          go_meet
          case rel => exact ⟨_, ((t416 != t364)), (by first | rfl | (simp; done) | (simp [*]; done)), H', ⟨by have := HJ14.out; have := HJ76.out; first | omega | exact Nat.le_refl _⟩, ⟨by (try simp only [hl374001_76]); (try simp only [hl374002_76]); (with_reducible repeat (first | apply Kd.R_alloc | apply Kd.R_drewN | apply Kd.R_drew)); exact Kd.R_mono HO_366001.out (fun _ hk => ⟨hk.1.1.1.1.1, ⟨hk.1.1.1.1.2.1, ⟨hk.1.1.1.1.2.2.1, ⟨hk.1.1.1.1.2.2.2, ⟨hk.1.2, hk.2⟩⟩⟩⟩⟩)⟩, ⟨by (try simp only [hl374001_76]); (try simp only [hl374002_76]); (with_reducible repeat (first | apply Kd.V_alloc | apply Kd.V_drewN | apply Kd.V_drew)); exact Kd.V_mono HO_366002.out (fun _ hk => ⟨hk.1.1.1.1.1.1, ⟨hk.1.1.1.1.1.2.1, ⟨hk.1.1.1.1.1.2.2.1, ⟨hk.1.1.1.1.1.2.2.2.1, ⟨hk.1.1.1.1.1.2.2.2.2.1, ⟨hk.1.1.2, ⟨hk.1.2, ⟨hk.1.1.1.1.1.2.2.2.2.2.1, ⟨hk.1.1.1.1.1.2.2.2.2.2.2.1, ⟨hk.1.1.1.1.1.2.2.2.2.2.2.2.1, ⟨hk.1.1.1.1.1.2.2.2.2.2.2.2.2, hk.2⟩⟩⟩⟩⟩⟩⟩⟩⟩⟩⟩)⟩, ⟨by (try simp only [hl374001_76]); (try simp only [hl374002_76]); (with_reducible repeat (first | apply Kd.R_alloc | apply Kd.R_drewN | apply Kd.R_drew)); exact Kd.R_mono HO_374001.out (fun _ hk => ⟨hk.1.1.1.1.1, ⟨hk.1.1.1.1.2.1, ⟨hk.1.1.1.1.2.2.1, ⟨hk.1.1.1.1.2.2.2, ⟨hk.1.2, hk.2⟩⟩⟩⟩⟩)⟩, ⟨by (try simp only [hl374001_76]); (try simp only [hl374002_76]); (with_reducible repeat (first | apply Kd.R_alloc | apply Kd.R_drewN | apply Kd.R_drew)); exact Kd.R_mono HO_374002.out (fun _ hk => ⟨hk.1.1.1.1.1, ⟨hk.1.1.1.1.2.1, ⟨hk.1.1.1.1.2.2.1, ⟨hk.1.1.1.1.2.2.2, ⟨hk.1.2, hk.2⟩⟩⟩⟩⟩)⟩, ⟨by (try simp only [hl374001_76]); (try simp only [hl374002_76]); (with_reducible repeat (first | apply Kd.R_alloc | apply Kd.R_drewN | apply Kd.R_drew)); exact Kd.R_mono HO_384001.out (fun _ hk => ⟨hk.1.1.1.1.1, ⟨hk.1.1.1.1.2.1, ⟨hk.1.1.1.1.2.2.1, ⟨hk.1.1.1.1.2.2.2, ⟨hk.1.2, hk.2⟩⟩⟩⟩⟩)⟩, ⟨by (try simp only [hl374001_76]); (try simp only [hl374002_76]); (with_reducible repeat (first | apply Kd.R_alloc | apply Kd.R_drewN | apply Kd.R_drew)); exact Kd.R_mono HO_384002.out (fun _ hk => ⟨hk.1.1.1.1.1, ⟨hk.1.1.1.1.2.1, ⟨hk.1.1.1.1.2.2.1, ⟨hk.1.1.1.1.2.2.2, ⟨hk.1.2, hk.2⟩⟩⟩⟩⟩)⟩, ⟨by (try simp only [hl374001_76]); (try simp only [hl374002_76]); (with_reducible repeat (first | apply Kd.R_alloc | apply Kd.R_drewN | apply Kd.R_drew)); exact Kd.R_mono HO411.out (fun _ hk => ⟨hk.1.1.1.1.1.1.2, ⟨hk.1.1.1.1.1.2, ⟨hk.1.1.1.1.2, ⟨hk.1.1.1.2, ⟨hk.1.1.2, hk.1.1.1.1.1.1.1⟩⟩⟩⟩⟩)⟩, ⟨by (try simp only [hl374001_76]); (try simp only [hl374002_76]); (with_reducible repeat (first | apply Kd.R_alloc | apply Kd.R_drewN | apply Kd.R_drew)); exact Kd.R_mono HO414.out (fun _ hk => ⟨hk.1.1.1.1.1.1.2, ⟨hk.1.1.1.1.1.2, ⟨hk.1.1.1.1.2, ⟨hk.1.1.1.2, ⟨hk.1.1.2, hk.1.1.1.1.1.1.1⟩⟩⟩⟩⟩)⟩, ⟨by (try simp only [hl374001_76]); (try simp only [hl374002_76]); refine uW ?_; exact BK347.out⟩, ⟨by (try simp only [hl374001_76]); (try simp only [hl374002_76]); refine uW ?_; exact BK365.out⟩, ⟨by (try simp only [hl374001_76]); (try simp only [hl374002_76]); refine uW ?_; exact BK373.out⟩, ⟨by (try simp only [hl374001_76]); (try simp only [hl374002_76]); refine uW ?_; exact BK383.out⟩, ⟨by (try simp only [hl374001_76]); (try simp only [hl374002_76]); refine uW ?_; exact BK417.out⟩, ⟨uN HB⟩⟩
         rw [if_neg c155] at H
         have c155b0 : (t415 == t363) = false := beq_eq_false_iff_ne.mpr c155
         have c155b1 : (t415 != t363) = true := bne_iff_ne.mpr c155
         (first | rw [c155b0] | (simp only [i64_w, i32_w]; rw [c155b0]) | skip)
         have H' := Aside0.mk H
         clear H
         have hnb166 := NB417_347.out
         have hnc166 := NB347_417.out
         have hnb167 := NB417_365.out
         have hnc167 := NB365_417.out
         have hnb168 := NB417_373.out
         have hnc168 := NB373_417.out
         have hnb169 := NB417_383.out
         have hnc169 := NB383_417.out
         obtain ⟨hcz170_0, hcz170_1, hcz170_2, hfz170_0, hfz170_1, hfz170_2⟩ := ce3 BK417
         have hnb171 := NB365_347.out
         have hnc171 := NB347_365.out
         have hnb172 := NB365_373.out
         have hnc172 := NB373_365.out
         have hnb173 := NB365_383.out
         have hnc173 := NB383_365.out
         obtain ⟨hcz174_0, hcz174_1, hcz174_2, hfz174_0, hfz174_1, hfz174_2⟩ := ce3 BK365
         go_wp2_with (first | ((with_reducible refine gate_callee (f := 10) rfl ?_); refine goesL_ (some 110) rfl rfl Try.func10 (by kernel_rfl) rfl #[.agg #[.int .i64 t408, .slice Ao151 t409.length co151, .slice Ao152 t412.length co152], .agg #[.int .i64 t356, .slice Ao27 t357.length co27, .slice Ao28 t360.length co28]] rfl (by (try simp only [List.map_toArray, List.map_cons, List.map_nil]); first | done | rfl) ?_; (with_reducible refine (laws_eqCuckoo.calls kj76 t408 _ _ t409 _ _ t412 t356 _ _ t357 _ _ t360 true _ ?side1 ?side2 ?side3 ?side4 ?side5 ?side6 ?side7 ?side8 A153.out).mono ?_); (case side1 => refine (Kd.R_reads' (e := 9) (base := w.heap.size) (ok := fun k_ => (((((((some k_ ≠ (.slice Ao152 t412.length co152 : Value).ownBlock ∧ some k_ ≠ (.slice Ao27 t357.length co27 : Value).ownBlock) ∧ some k_ ≠ (.slice Ao35 t394.length co35 : Value).ownBlock) ∧ some k_ ≠ (.slice Ao36 t395.length co36 : Value).ownBlock) ∧ some k_ ≠ (.slice Ao43 t375.length co43 : Value).ownBlock) ∧ some k_ ≠ (.slice Ao44 t378.length co44 : Value).ownBlock) ∧ some k_ ≠ (.slice Ao142 t402.length co142 : Value).ownBlock) ∧ some k_ ≠ (.slice Ao143 t405.length co143 : Value).ownBlock)) (n := t409.length) (c := co151) ?_).2.2; exact (fS HO411 BK417 (by decide))); (case side2 => exact (Kd.R_reads' HO411.out).2.1); (case side3 => refine (Kd.R_reads' (e := 9) (base := w.heap.size) (ok := fun k_ => (((((((some k_ ≠ (.slice Ao151 t409.length co151 : Value).ownBlock ∧ some k_ ≠ (.slice Ao27 t357.length co27 : Value).ownBlock) ∧ some k_ ≠ (.slice Ao35 t394.length co35 : Value).ownBlock) ∧ some k_ ≠ (.slice Ao36 t395.length co36 : Value).ownBlock) ∧ some k_ ≠ (.slice Ao43 t375.length co43 : Value).ownBlock) ∧ some k_ ≠ (.slice Ao44 t378.length co44 : Value).ownBlock) ∧ some k_ ≠ (.slice Ao142 t402.length co142 : Value).ownBlock) ∧ some k_ ≠ (.slice Ao143 t405.length co143 : Value).ownBlock)) (n := t412.length) (c := co152) ?_).2.2; exact (fS HO414 BK417 (by decide))); (case side4 => exact (Kd.R_reads' HO414.out).2.1); (case side5 => refine (Kd.R_reads' (e := 9) (base := w.heap.size) (ok := fun k_ => (((((some k_ ≠ (.slice Ao35 t394.length co35 : Value).ownBlock ∧ (some k_ ≠ (.slice Ao36 t395.length co36 : Value).ownBlock ∧ (some k_ ≠ (.slice Ao43 t375.length co43 : Value).ownBlock ∧ some k_ ≠ (.slice Ao44 t378.length co44 : Value).ownBlock))) ∧ some k_ ≠ (.slice Ao142 t402.length co142 : Value).ownBlock) ∧ some k_ ≠ (.slice Ao143 t405.length co143 : Value).ownBlock) ∧ some k_ ≠ (.slice Ao151 t409.length co151 : Value).ownBlock) ∧ some k_ ≠ (.slice Ao152 t412.length co152 : Value).ownBlock)) (n := t357.length) (c := co27) ?_).2.2; exact (fS HO_366001 BK417 (by decide))); (case side6 => exact (Kd.R_reads' HO_366001.out).2.1); (case side7 => refine (Kd.V_reads' (e := 9) (base := w.heap.size) (ok := fun k_ => ((((((some k_ ≠ (.slice Ao27 t357.length co27 : Value).ownBlock ∧ (some k_ ≠ (.slice Ao35 t394.length co35 : Value).ownBlock ∧ (some k_ ≠ (.slice Ao36 t395.length co36 : Value).ownBlock ∧ (some k_ ≠ (.slice Ao43 t375.length co43 : Value).ownBlock ∧ (some k_ ≠ (.slice Ao44 t378.length co44 : Value).ownBlock ∧ (k_ ≠ gb347 ∧ (k_ ≠ gb365 ∧ (k_ ≠ gb373 ∧ k_ ≠ gb383)))))))) ∧ some k_ ≠ (.slice Ao142 t402.length co142 : Value).ownBlock) ∧ some k_ ≠ (.slice Ao143 t405.length co143 : Value).ownBlock) ∧ some k_ ≠ (.slice Ao151 t409.length co151 : Value).ownBlock) ∧ some k_ ≠ (.slice Ao152 t412.length co152 : Value).ownBlock) ∧ k_ ≠ gb417)) (n := t360.length) (c := co28) ?_).2.2; exact (by (with_reducible repeat (first | apply Kd.V_alloc | apply Kd.V_drewN | apply Kd.V_drew)); exact (Kd.V_mono (Kd.V_far (p := ⟨gb417, 2, none⟩) (Kd.V_far (p := ⟨gb417, 1, none⟩) (Kd.V_far (p := ⟨gb417, 0, none⟩) (Kd.V_mono HO_366002.out (fun k_ hk => (⟨hk, hk.2⟩ : _ ∧ k_ ≠ gb417))) (fun _ hk => hk.2) (.int .i64 t408)) (fun _ hk => hk.2) (.slice Ao151 t409.length co151)) (fun _ hk => hk.2) (.slice Ao152 t412.length co152)) (fun _ h_ => h_.1)))); (case side8 => exact (Kd.V_reads' HO_366002.out).2.1); rintro e w175 ⟨rfl, hb⟩; refine ⟨_, rfl, ?_⟩; replace HO_366001 := Aside0.mk (Kd.R_below (fS HO_366001 BK417 (by decide)) hb); replace HO_366002 := Aside0.mk (Kd.V_below (by (with_reducible repeat (first | apply Kd.V_alloc | apply Kd.V_drewN | apply Kd.V_drew)); exact (Kd.V_mono (Kd.V_far (p := ⟨gb417, 2, none⟩) (Kd.V_far (p := ⟨gb417, 1, none⟩) (Kd.V_far (p := ⟨gb417, 0, none⟩) (Kd.V_mono HO_366002.out (fun k_ hk => (⟨hk, hk.2⟩ : _ ∧ k_ ≠ gb417))) (fun _ hk => hk.2) (.int .i64 t408)) (fun _ hk => hk.2) (.slice Ao151 t409.length co151)) (fun _ hk => hk.2) (.slice Ao152 t412.length co152)) (fun _ h_ => h_.1))) hb); replace HO_374001 := Aside0.mk (Kd.R_below (fS HO_374001 BK417 (by decide)) hb); replace HO_374002 := Aside0.mk (Kd.R_below (fS HO_374002 BK417 (by decide)) hb); replace HO_384001 := Aside0.mk (Kd.R_below (fS HO_384001 BK417 (by decide)) hb); replace HO_384002 := Aside0.mk (Kd.R_below (fS HO_384002 BK417 (by decide)) hb); replace HO404 := Aside0.mk (Kd.R_below (fS HO404 BK417 (by decide)) hb); replace HO407 := Aside0.mk (Kd.R_below (fS HO407 BK417 (by decide)) hb); replace HO411 := Aside0.mk (Kd.R_below (fS HO411 BK417 (by decide)) hb); replace HO414 := Aside0.mk (Kd.R_below (fS HO414 BK417 (by decide)) hb); replace BK347 := Aside0.mk (blk_below (g := gb347) (o := .cells #[.int .i64 a0_0, .slice A0_1 l0_1.length c0_1, .slice A0_2 l0_2.length c0_2] 24 (0, 0)) (by refine uW ?_; refine blk_far ?_ NB347_417.out _; refine uW ?_; refine blk_far ?_ NB347_417.out _; refine uW ?_; refine blk_far ?_ NB347_417.out _; refine uW ?_; exact BK347.out) hb); replace BK365 := Aside0.mk (blk_below (g := gb365) (o := .cells #[.int .i64 t356, .slice Ao27 t357.length co27, .slice Ao28 t360.length co28] 26 (0, 0)) (by refine uW ?_; refine blk_far ?_ NB365_417.out _; refine uW ?_; refine blk_far ?_ NB365_417.out _; refine uW ?_; refine blk_far ?_ NB365_417.out _; refine uW ?_; exact BK365.out) hb); replace BK373 := Aside0.mk (blk_below (g := gb373) (o := .cells #[.int .i64 t366, .slice Ao35 t394.length co35, .slice Ao36 t395.length co36] 26 (0, 0)) (by refine uW ?_; refine blk_far ?_ NB373_417.out _; refine uW ?_; refine blk_far ?_ NB373_417.out _; refine uW ?_; refine blk_far ?_ NB373_417.out _; refine uW ?_; exact BK373.out) hb); replace BK383 := Aside0.mk (blk_below (g := gb383) (o := .cells #[.int .i64 t374, .slice Ao43 t375.length co43, .slice Ao44 t378.length co44] 26 (0, 0)) (by refine uW ?_; refine blk_far ?_ NB383_417.out _; refine uW ?_; refine blk_far ?_ NB383_417.out _; refine uW ?_; refine blk_far ?_ NB383_417.out _; refine uW ?_; exact BK383.out) hb); replace BK417 := Aside0.mk (blk_below (g := gb417) (o := .cells #[.int .i64 t408, .slice Ao151 t409.length co151, .slice Ao152 t412.length co152] 26 (0, 0)) (by refine uW ?_; refine blk_put (cs := #[.int .i64 t408, .slice Ao151 t409.length co151, .slice none 0 0]) ?_ 2 _ rfl; refine uW ?_; refine blk_put (cs := #[.int .i64 t408, .slice none 0 0, .slice none 0 0]) ?_ 1 _ rfl; refine uW ?_; refine blk_put (cs := #[.int .i64 0, .slice none 0 0, .slice none 0 0]) ?_ 0 _ rfl; refine uW ?_; exact BK417.out) hb); replace HB := Aside0.mk (below_step (uN HB) hb); (try clear hb); (try clear hb2); (try clear hk); (try clear hi)))
         go_meet
         case rel => exact ⟨_, (true), (by first | rfl | (simp; done) | (simp [*]; done)), H', ⟨by have := HJ14.out; have := HJ76.out; first | omega | exact Nat.le_refl _⟩, ⟨by (try simp only [hl374001_76]); (try simp only [hl374002_76]); (with_reducible repeat (first | apply Kd.R_alloc | apply Kd.R_drewN | apply Kd.R_drew)); exact Kd.R_mono HO_366001.out (fun _ hk => ⟨hk.1.1.1.1.1, ⟨hk.1.1.1.1.2.1, ⟨hk.1.1.1.1.2.2.1, ⟨hk.1.1.1.1.2.2.2, ⟨hk.1.2, hk.2⟩⟩⟩⟩⟩)⟩, ⟨by (try simp only [hl374001_76]); (try simp only [hl374002_76]); (with_reducible repeat (first | apply Kd.V_alloc | apply Kd.V_drewN | apply Kd.V_drew)); exact Kd.V_mono HO_366002.out (fun _ hk => ⟨hk.1.1.1.1.1.1, ⟨hk.1.1.1.1.1.2.1, ⟨hk.1.1.1.1.1.2.2.1, ⟨hk.1.1.1.1.1.2.2.2.1, ⟨hk.1.1.1.1.1.2.2.2.2.1, ⟨hk.1.1.2, ⟨hk.1.2, ⟨hk.1.1.1.1.1.2.2.2.2.2.1, ⟨hk.1.1.1.1.1.2.2.2.2.2.2.1, ⟨hk.1.1.1.1.1.2.2.2.2.2.2.2.1, ⟨hk.1.1.1.1.1.2.2.2.2.2.2.2.2, hk.2⟩⟩⟩⟩⟩⟩⟩⟩⟩⟩⟩)⟩, ⟨by (try simp only [hl374001_76]); (try simp only [hl374002_76]); (with_reducible repeat (first | apply Kd.R_alloc | apply Kd.R_drewN | apply Kd.R_drew)); exact Kd.R_mono HO_374001.out (fun _ hk => ⟨hk.1.1.1.1.1, ⟨hk.1.1.1.1.2.1, ⟨hk.1.1.1.1.2.2.1, ⟨hk.1.1.1.1.2.2.2, ⟨hk.1.2, hk.2⟩⟩⟩⟩⟩)⟩, ⟨by (try simp only [hl374001_76]); (try simp only [hl374002_76]); (with_reducible repeat (first | apply Kd.R_alloc | apply Kd.R_drewN | apply Kd.R_drew)); exact Kd.R_mono HO_374002.out (fun _ hk => ⟨hk.1.1.1.1.1, ⟨hk.1.1.1.1.2.1, ⟨hk.1.1.1.1.2.2.1, ⟨hk.1.1.1.1.2.2.2, ⟨hk.1.2, hk.2⟩⟩⟩⟩⟩)⟩, ⟨by (try simp only [hl374001_76]); (try simp only [hl374002_76]); (with_reducible repeat (first | apply Kd.R_alloc | apply Kd.R_drewN | apply Kd.R_drew)); exact Kd.R_mono HO_384001.out (fun _ hk => ⟨hk.1.1.1.1.1, ⟨hk.1.1.1.1.2.1, ⟨hk.1.1.1.1.2.2.1, ⟨hk.1.1.1.1.2.2.2, ⟨hk.1.2, hk.2⟩⟩⟩⟩⟩)⟩, ⟨by (try simp only [hl374001_76]); (try simp only [hl374002_76]); (with_reducible repeat (first | apply Kd.R_alloc | apply Kd.R_drewN | apply Kd.R_drew)); exact Kd.R_mono HO_384002.out (fun _ hk => ⟨hk.1.1.1.1.1, ⟨hk.1.1.1.1.2.1, ⟨hk.1.1.1.1.2.2.1, ⟨hk.1.1.1.1.2.2.2, ⟨hk.1.2, hk.2⟩⟩⟩⟩⟩)⟩, ⟨by (try simp only [hl374001_76]); (try simp only [hl374002_76]); (with_reducible repeat (first | apply Kd.R_alloc | apply Kd.R_drewN | apply Kd.R_drew)); exact Kd.R_mono HO411.out (fun _ hk => ⟨hk.1.1.1.1.1.1.2, ⟨hk.1.1.1.1.1.2, ⟨hk.1.1.1.1.2, ⟨hk.1.1.1.2, ⟨hk.1.1.2, hk.1.1.1.1.1.1.1⟩⟩⟩⟩⟩)⟩, ⟨by (try simp only [hl374001_76]); (try simp only [hl374002_76]); (with_reducible repeat (first | apply Kd.R_alloc | apply Kd.R_drewN | apply Kd.R_drew)); exact Kd.R_mono HO414.out (fun _ hk => ⟨hk.1.1.1.1.1.1.2, ⟨hk.1.1.1.1.1.2, ⟨hk.1.1.1.1.2, ⟨hk.1.1.1.2, ⟨hk.1.1.2, hk.1.1.1.1.1.1.1⟩⟩⟩⟩⟩)⟩, ⟨by (try simp only [hl374001_76]); (try simp only [hl374002_76]); refine uW ?_; exact BK347.out⟩, ⟨by (try simp only [hl374001_76]); (try simp only [hl374002_76]); refine uW ?_; exact BK365.out⟩, ⟨by (try simp only [hl374001_76]); (try simp only [hl374002_76]); refine uW ?_; exact BK373.out⟩, ⟨by (try simp only [hl374001_76]); (try simp only [hl374002_76]); refine uW ?_; exact BK383.out⟩, ⟨by (try simp only [hl374001_76]); (try simp only [hl374002_76]); refine uW ?_; exact BK417.out⟩, ⟨uN HB⟩⟩
        replace c154 := Bool.eq_false_iff.mpr c154
        subst c154
        rw [if_neg (show ¬ (false = true) by decide)] at H
        have H' := Aside0.mk H
        clear H
        have hnb176 := NB417_347.out
        have hnc176 := NB347_417.out
        have hnb177 := NB417_365.out
        have hnc177 := NB365_417.out
        have hnb178 := NB417_373.out
        have hnc178 := NB373_417.out
        have hnb179 := NB417_383.out
        have hnc179 := NB383_417.out
        obtain ⟨hcz180_0, hcz180_1, hcz180_2, hfz180_0, hfz180_1, hfz180_2⟩ := ce3 BK417
        have hnb181 := NB365_347.out
        have hnc181 := NB347_365.out
        have hnb182 := NB365_373.out
        have hnc182 := NB373_365.out
        have hnb183 := NB365_383.out
        have hnc183 := NB383_365.out
        obtain ⟨hcz184_0, hcz184_1, hcz184_2, hfz184_0, hfz184_1, hfz184_2⟩ := ce3 BK365
        go_wp2_with (first | ((with_reducible refine gate_callee (f := 10) rfl ?_); refine goesL_ (some 110) rfl rfl Try.func10 (by kernel_rfl) rfl #[.agg #[.int .i64 t408, .slice Ao151 t409.length co151, .slice Ao152 t412.length co152], .agg #[.int .i64 t356, .slice Ao27 t357.length co27, .slice Ao28 t360.length co28]] rfl (by (try simp only [List.map_toArray, List.map_cons, List.map_nil]); first | done | rfl) ?_; (with_reducible refine (laws_eqCuckoo.calls kj76 t408 _ _ t409 _ _ t412 t356 _ _ t357 _ _ t360 false _ ?side1 ?side2 ?side3 ?side4 ?side5 ?side6 ?side7 ?side8 A153.out).mono ?_); (case side1 => refine (Kd.R_reads' (e := 9) (base := w.heap.size) (ok := fun k_ => (((((((some k_ ≠ (.slice Ao152 t412.length co152 : Value).ownBlock ∧ some k_ ≠ (.slice Ao27 t357.length co27 : Value).ownBlock) ∧ some k_ ≠ (.slice Ao35 t394.length co35 : Value).ownBlock) ∧ some k_ ≠ (.slice Ao36 t395.length co36 : Value).ownBlock) ∧ some k_ ≠ (.slice Ao43 t375.length co43 : Value).ownBlock) ∧ some k_ ≠ (.slice Ao44 t378.length co44 : Value).ownBlock) ∧ some k_ ≠ (.slice Ao142 t402.length co142 : Value).ownBlock) ∧ some k_ ≠ (.slice Ao143 t405.length co143 : Value).ownBlock)) (n := t409.length) (c := co151) ?_).2.2; exact (fS HO411 BK417 (by decide))); (case side2 => exact (Kd.R_reads' HO411.out).2.1); (case side3 => refine (Kd.R_reads' (e := 9) (base := w.heap.size) (ok := fun k_ => (((((((some k_ ≠ (.slice Ao151 t409.length co151 : Value).ownBlock ∧ some k_ ≠ (.slice Ao27 t357.length co27 : Value).ownBlock) ∧ some k_ ≠ (.slice Ao35 t394.length co35 : Value).ownBlock) ∧ some k_ ≠ (.slice Ao36 t395.length co36 : Value).ownBlock) ∧ some k_ ≠ (.slice Ao43 t375.length co43 : Value).ownBlock) ∧ some k_ ≠ (.slice Ao44 t378.length co44 : Value).ownBlock) ∧ some k_ ≠ (.slice Ao142 t402.length co142 : Value).ownBlock) ∧ some k_ ≠ (.slice Ao143 t405.length co143 : Value).ownBlock)) (n := t412.length) (c := co152) ?_).2.2; exact (fS HO414 BK417 (by decide))); (case side4 => exact (Kd.R_reads' HO414.out).2.1); (case side5 => refine (Kd.R_reads' (e := 9) (base := w.heap.size) (ok := fun k_ => (((((some k_ ≠ (.slice Ao35 t394.length co35 : Value).ownBlock ∧ (some k_ ≠ (.slice Ao36 t395.length co36 : Value).ownBlock ∧ (some k_ ≠ (.slice Ao43 t375.length co43 : Value).ownBlock ∧ some k_ ≠ (.slice Ao44 t378.length co44 : Value).ownBlock))) ∧ some k_ ≠ (.slice Ao142 t402.length co142 : Value).ownBlock) ∧ some k_ ≠ (.slice Ao143 t405.length co143 : Value).ownBlock) ∧ some k_ ≠ (.slice Ao151 t409.length co151 : Value).ownBlock) ∧ some k_ ≠ (.slice Ao152 t412.length co152 : Value).ownBlock)) (n := t357.length) (c := co27) ?_).2.2; exact (fS HO_366001 BK417 (by decide))); (case side6 => exact (Kd.R_reads' HO_366001.out).2.1); (case side7 => refine (Kd.V_reads' (e := 9) (base := w.heap.size) (ok := fun k_ => ((((((some k_ ≠ (.slice Ao27 t357.length co27 : Value).ownBlock ∧ (some k_ ≠ (.slice Ao35 t394.length co35 : Value).ownBlock ∧ (some k_ ≠ (.slice Ao36 t395.length co36 : Value).ownBlock ∧ (some k_ ≠ (.slice Ao43 t375.length co43 : Value).ownBlock ∧ (some k_ ≠ (.slice Ao44 t378.length co44 : Value).ownBlock ∧ (k_ ≠ gb347 ∧ (k_ ≠ gb365 ∧ (k_ ≠ gb373 ∧ k_ ≠ gb383)))))))) ∧ some k_ ≠ (.slice Ao142 t402.length co142 : Value).ownBlock) ∧ some k_ ≠ (.slice Ao143 t405.length co143 : Value).ownBlock) ∧ some k_ ≠ (.slice Ao151 t409.length co151 : Value).ownBlock) ∧ some k_ ≠ (.slice Ao152 t412.length co152 : Value).ownBlock) ∧ k_ ≠ gb417)) (n := t360.length) (c := co28) ?_).2.2; exact (by (with_reducible repeat (first | apply Kd.V_alloc | apply Kd.V_drewN | apply Kd.V_drew)); exact (Kd.V_mono (Kd.V_far (p := ⟨gb417, 2, none⟩) (Kd.V_far (p := ⟨gb417, 1, none⟩) (Kd.V_far (p := ⟨gb417, 0, none⟩) (Kd.V_mono HO_366002.out (fun k_ hk => (⟨hk, hk.2⟩ : _ ∧ k_ ≠ gb417))) (fun _ hk => hk.2) (.int .i64 t408)) (fun _ hk => hk.2) (.slice Ao151 t409.length co151)) (fun _ hk => hk.2) (.slice Ao152 t412.length co152)) (fun _ h_ => h_.1)))); (case side8 => exact (Kd.V_reads' HO_366002.out).2.1); rintro e w185 ⟨rfl, hb⟩; refine ⟨_, rfl, ?_⟩; replace HO_366001 := Aside0.mk (Kd.R_below (fS HO_366001 BK417 (by decide)) hb); replace HO_366002 := Aside0.mk (Kd.V_below (by (with_reducible repeat (first | apply Kd.V_alloc | apply Kd.V_drewN | apply Kd.V_drew)); exact (Kd.V_mono (Kd.V_far (p := ⟨gb417, 2, none⟩) (Kd.V_far (p := ⟨gb417, 1, none⟩) (Kd.V_far (p := ⟨gb417, 0, none⟩) (Kd.V_mono HO_366002.out (fun k_ hk => (⟨hk, hk.2⟩ : _ ∧ k_ ≠ gb417))) (fun _ hk => hk.2) (.int .i64 t408)) (fun _ hk => hk.2) (.slice Ao151 t409.length co151)) (fun _ hk => hk.2) (.slice Ao152 t412.length co152)) (fun _ h_ => h_.1))) hb); replace HO_374001 := Aside0.mk (Kd.R_below (fS HO_374001 BK417 (by decide)) hb); replace HO_374002 := Aside0.mk (Kd.R_below (fS HO_374002 BK417 (by decide)) hb); replace HO_384001 := Aside0.mk (Kd.R_below (fS HO_384001 BK417 (by decide)) hb); replace HO_384002 := Aside0.mk (Kd.R_below (fS HO_384002 BK417 (by decide)) hb); replace HO404 := Aside0.mk (Kd.R_below (fS HO404 BK417 (by decide)) hb); replace HO407 := Aside0.mk (Kd.R_below (fS HO407 BK417 (by decide)) hb); replace HO411 := Aside0.mk (Kd.R_below (fS HO411 BK417 (by decide)) hb); replace HO414 := Aside0.mk (Kd.R_below (fS HO414 BK417 (by decide)) hb); replace BK347 := Aside0.mk (blk_below (g := gb347) (o := .cells #[.int .i64 a0_0, .slice A0_1 l0_1.length c0_1, .slice A0_2 l0_2.length c0_2] 24 (0, 0)) (by refine uW ?_; refine blk_far ?_ NB347_417.out _; refine uW ?_; refine blk_far ?_ NB347_417.out _; refine uW ?_; refine blk_far ?_ NB347_417.out _; refine uW ?_; exact BK347.out) hb); replace BK365 := Aside0.mk (blk_below (g := gb365) (o := .cells #[.int .i64 t356, .slice Ao27 t357.length co27, .slice Ao28 t360.length co28] 26 (0, 0)) (by refine uW ?_; refine blk_far ?_ NB365_417.out _; refine uW ?_; refine blk_far ?_ NB365_417.out _; refine uW ?_; refine blk_far ?_ NB365_417.out _; refine uW ?_; exact BK365.out) hb); replace BK373 := Aside0.mk (blk_below (g := gb373) (o := .cells #[.int .i64 t366, .slice Ao35 t394.length co35, .slice Ao36 t395.length co36] 26 (0, 0)) (by refine uW ?_; refine blk_far ?_ NB373_417.out _; refine uW ?_; refine blk_far ?_ NB373_417.out _; refine uW ?_; refine blk_far ?_ NB373_417.out _; refine uW ?_; exact BK373.out) hb); replace BK383 := Aside0.mk (blk_below (g := gb383) (o := .cells #[.int .i64 t374, .slice Ao43 t375.length co43, .slice Ao44 t378.length co44] 26 (0, 0)) (by refine uW ?_; refine blk_far ?_ NB383_417.out _; refine uW ?_; refine blk_far ?_ NB383_417.out _; refine uW ?_; refine blk_far ?_ NB383_417.out _; refine uW ?_; exact BK383.out) hb); replace BK417 := Aside0.mk (blk_below (g := gb417) (o := .cells #[.int .i64 t408, .slice Ao151 t409.length co151, .slice Ao152 t412.length co152] 26 (0, 0)) (by refine uW ?_; refine blk_put (cs := #[.int .i64 t408, .slice Ao151 t409.length co151, .slice none 0 0]) ?_ 2 _ rfl; refine uW ?_; refine blk_put (cs := #[.int .i64 t408, .slice none 0 0, .slice none 0 0]) ?_ 1 _ rfl; refine uW ?_; refine blk_put (cs := #[.int .i64 0, .slice none 0 0, .slice none 0 0]) ?_ 0 _ rfl; refine uW ?_; exact BK417.out) hb); replace HB := Aside0.mk (below_step (uN HB) hb); (try clear hb); (try clear hb2); (try clear hk); (try clear hi)))
        go_meet
        case rel => exact ⟨_, (true), (by first | rfl | (simp; done) | (simp [*]; done)), H', ⟨by have := HJ14.out; have := HJ76.out; first | omega | exact Nat.le_refl _⟩, ⟨by (try simp only [hl374001_76]); (try simp only [hl374002_76]); (with_reducible repeat (first | apply Kd.R_alloc | apply Kd.R_drewN | apply Kd.R_drew)); exact Kd.R_mono HO_366001.out (fun _ hk => ⟨hk.1.1.1.1.1, ⟨hk.1.1.1.1.2.1, ⟨hk.1.1.1.1.2.2.1, ⟨hk.1.1.1.1.2.2.2, ⟨hk.1.2, hk.2⟩⟩⟩⟩⟩)⟩, ⟨by (try simp only [hl374001_76]); (try simp only [hl374002_76]); (with_reducible repeat (first | apply Kd.V_alloc | apply Kd.V_drewN | apply Kd.V_drew)); exact Kd.V_mono HO_366002.out (fun _ hk => ⟨hk.1.1.1.1.1.1, ⟨hk.1.1.1.1.1.2.1, ⟨hk.1.1.1.1.1.2.2.1, ⟨hk.1.1.1.1.1.2.2.2.1, ⟨hk.1.1.1.1.1.2.2.2.2.1, ⟨hk.1.1.2, ⟨hk.1.2, ⟨hk.1.1.1.1.1.2.2.2.2.2.1, ⟨hk.1.1.1.1.1.2.2.2.2.2.2.1, ⟨hk.1.1.1.1.1.2.2.2.2.2.2.2.1, ⟨hk.1.1.1.1.1.2.2.2.2.2.2.2.2, hk.2⟩⟩⟩⟩⟩⟩⟩⟩⟩⟩⟩)⟩, ⟨by (try simp only [hl374001_76]); (try simp only [hl374002_76]); (with_reducible repeat (first | apply Kd.R_alloc | apply Kd.R_drewN | apply Kd.R_drew)); exact Kd.R_mono HO_374001.out (fun _ hk => ⟨hk.1.1.1.1.1, ⟨hk.1.1.1.1.2.1, ⟨hk.1.1.1.1.2.2.1, ⟨hk.1.1.1.1.2.2.2, ⟨hk.1.2, hk.2⟩⟩⟩⟩⟩)⟩, ⟨by (try simp only [hl374001_76]); (try simp only [hl374002_76]); (with_reducible repeat (first | apply Kd.R_alloc | apply Kd.R_drewN | apply Kd.R_drew)); exact Kd.R_mono HO_374002.out (fun _ hk => ⟨hk.1.1.1.1.1, ⟨hk.1.1.1.1.2.1, ⟨hk.1.1.1.1.2.2.1, ⟨hk.1.1.1.1.2.2.2, ⟨hk.1.2, hk.2⟩⟩⟩⟩⟩)⟩, ⟨by (try simp only [hl374001_76]); (try simp only [hl374002_76]); (with_reducible repeat (first | apply Kd.R_alloc | apply Kd.R_drewN | apply Kd.R_drew)); exact Kd.R_mono HO_384001.out (fun _ hk => ⟨hk.1.1.1.1.1, ⟨hk.1.1.1.1.2.1, ⟨hk.1.1.1.1.2.2.1, ⟨hk.1.1.1.1.2.2.2, ⟨hk.1.2, hk.2⟩⟩⟩⟩⟩)⟩, ⟨by (try simp only [hl374001_76]); (try simp only [hl374002_76]); (with_reducible repeat (first | apply Kd.R_alloc | apply Kd.R_drewN | apply Kd.R_drew)); exact Kd.R_mono HO_384002.out (fun _ hk => ⟨hk.1.1.1.1.1, ⟨hk.1.1.1.1.2.1, ⟨hk.1.1.1.1.2.2.1, ⟨hk.1.1.1.1.2.2.2, ⟨hk.1.2, hk.2⟩⟩⟩⟩⟩)⟩, ⟨by (try simp only [hl374001_76]); (try simp only [hl374002_76]); (with_reducible repeat (first | apply Kd.R_alloc | apply Kd.R_drewN | apply Kd.R_drew)); exact Kd.R_mono HO411.out (fun _ hk => ⟨hk.1.1.1.1.1.1.2, ⟨hk.1.1.1.1.1.2, ⟨hk.1.1.1.1.2, ⟨hk.1.1.1.2, ⟨hk.1.1.2, hk.1.1.1.1.1.1.1⟩⟩⟩⟩⟩)⟩, ⟨by (try simp only [hl374001_76]); (try simp only [hl374002_76]); (with_reducible repeat (first | apply Kd.R_alloc | apply Kd.R_drewN | apply Kd.R_drew)); exact Kd.R_mono HO414.out (fun _ hk => ⟨hk.1.1.1.1.1.1.2, ⟨hk.1.1.1.1.1.2, ⟨hk.1.1.1.1.2, ⟨hk.1.1.1.2, ⟨hk.1.1.2, hk.1.1.1.1.1.1.1⟩⟩⟩⟩⟩)⟩, ⟨by (try simp only [hl374001_76]); (try simp only [hl374002_76]); refine uW ?_; exact BK347.out⟩, ⟨by (try simp only [hl374001_76]); (try simp only [hl374002_76]); refine uW ?_; exact BK365.out⟩, ⟨by (try simp only [hl374001_76]); (try simp only [hl374002_76]); refine uW ?_; exact BK373.out⟩, ⟨by (try simp only [hl374001_76]); (try simp only [hl374002_76]); refine uW ?_; exact BK383.out⟩, ⟨by (try simp only [hl374001_76]); (try simp only [hl374002_76]); refine uW ?_; exact BK417.out⟩, ⟨uN HB⟩⟩
       case rest =>
        clear HC130
        try clear c1
        try clear c2
        try clear p2
        try clear c3
        try clear c4
        try clear c4b0
        try clear c4b1
        try clear c5
        try clear c6
        try clear c7
        try clear c7b0
        try clear c8
        try clear c9
        try clear c10
        try clear c11
        try clear c12
        try clear c13
        try clear c14
        try clear c15
        try clear c16
        try clear c17
        try clear c18
        try clear c25
        try clear c32
        try clear c33
        try clear c39
        try clear c40
        try clear c41
        try clear c46
        try clear c47
        try clear c47b0
        try clear c47b1
        try clear c48
        try clear c49
        try clear c50
        try clear c52
        try clear c53
        try clear c56
        try clear c57
        try clear c58
        try clear c60
        try clear c61
        try clear c64
        try clear c65
        try clear c66
        try clear c68
        try clear c69
        try clear c72
        try clear c75
        try clear c83
        try clear c84
        try clear c85
        try clear c88
        try clear c88b0
        try clear c90
        try clear c91
        try clear c91b0
        try clear c91b1
        try clear c92
        try clear c93
        try clear c94
        try clear c96
        try clear c97
        try clear c100
        try clear c101
        try clear c102
        try clear c104
        try clear c105
        try clear c108
        try clear c109
        try clear c110
        try clear c112
        try clear c113
        try clear c116
        try clear c119
        try clear c119b0
        try clear c120
        try clear c121
        try clear c122
        try clear c127
        try clear c127b0
        try clear c127b1
        try clear c131
        try clear c132
        try clear c133
        try clear c138
        try clear c139
        try clear c146
        try clear c147
        try clear c148
        try clear c149
        try clear c154
        try clear c155
        try clear c155b0
        try clear c155b1
        try clear c156
        try clear c157
        try clear c158
        try clear c159
        try clear c161
        try clear c162
        try clear c163
        try clear c166
        try clear c167
        try clear c168
        try clear c169
        try clear c171
        try clear c172
        try clear c173
        try clear c176
        try clear c177
        try clear c178
        try clear c179
        try clear c181
        try clear c182
        try clear c183
        try clear hcz103_0
        try clear hcz103_1
        try clear hcz103_2
        try clear hcz106_0
        try clear hcz106_1
        try clear hcz106_2
        try clear hcz111_0
        try clear hcz111_1
        try clear hcz111_2
        try clear hcz114_0
        try clear hcz114_1
        try clear hcz114_2
        try clear hcz123_0
        try clear hcz123_1
        try clear hcz123_2
        try clear hcz125_0
        try clear hcz125_1
        try clear hcz125_2
        try clear hcz134_0
        try clear hcz134_1
        try clear hcz134_2
        try clear hcz136_0
        try clear hcz136_1
        try clear hcz136_2
        try clear hcz140_0
        try clear hcz140_1
        try clear hcz140_2
        try clear hcz150_0
        try clear hcz150_1
        try clear hcz150_2
        try clear hcz160_0
        try clear hcz160_1
        try clear hcz160_2
        try clear hcz164_0
        try clear hcz164_1
        try clear hcz164_2
        try clear hcz170_0
        try clear hcz170_1
        try clear hcz170_2
        try clear hcz174_0
        try clear hcz174_1
        try clear hcz174_2
        try clear hcz17_0
        try clear hcz17_1
        try clear hcz17_2
        try clear hcz180_0
        try clear hcz180_1
        try clear hcz180_2
        try clear hcz184_0
        try clear hcz184_1
        try clear hcz184_2
        try clear hcz19_0
        try clear hcz19_1
        try clear hcz19_2
        try clear hcz26_0
        try clear hcz26_1
        try clear hcz26_2
        try clear hcz29_0
        try clear hcz29_1
        try clear hcz29_2
        try clear hcz34_0
        try clear hcz34_1
        try clear hcz34_2
        try clear hcz42_0
        try clear hcz42_1
        try clear hcz42_2
        try clear hcz51_0
        try clear hcz51_1
        try clear hcz51_2
        try clear hcz54_0
        try clear hcz54_1
        try clear hcz54_2
        try clear hcz59_0
        try clear hcz59_1
        try clear hcz59_2
        try clear hcz62_0
        try clear hcz62_1
        try clear hcz62_2
        try clear hcz67_0
        try clear hcz67_1
        try clear hcz67_2
        try clear hcz70_0
        try clear hcz70_1
        try clear hcz70_2
        try clear hcz86_0
        try clear hcz86_1
        try clear hcz86_2
        try clear hcz95_0
        try clear hcz95_1
        try clear hcz95_2
        try clear hcz98_0
        try clear hcz98_1
        try clear hcz98_2
        try clear hcz9_0
        try clear hcz9_1
        try clear hcz9_2
        try clear hfz103_0
        try clear hfz103_1
        try clear hfz103_2
        try clear hfz106_0
        try clear hfz106_1
        try clear hfz106_2
        try clear hfz111_0
        try clear hfz111_1
        try clear hfz111_2
        try clear hfz114_0
        try clear hfz114_1
        try clear hfz114_2
        try clear hfz123_0
        try clear hfz123_1
        try clear hfz123_2
        try clear hfz125_0
        try clear hfz125_1
        try clear hfz125_2
        try clear hfz134_0
        try clear hfz134_1
        try clear hfz134_2
        try clear hfz136_0
        try clear hfz136_1
        try clear hfz136_2
        try clear hfz140_0
        try clear hfz140_1
        try clear hfz140_2
        try clear hfz150_0
        try clear hfz150_1
        try clear hfz150_2
        try clear hfz160_0
        try clear hfz160_1
        try clear hfz160_2
        try clear hfz164_0
        try clear hfz164_1
        try clear hfz164_2
        try clear hfz170_0
        try clear hfz170_1
        try clear hfz170_2
        try clear hfz174_0
        try clear hfz174_1
        try clear hfz174_2
        try clear hfz17_0
        try clear hfz17_1
        try clear hfz17_2
        try clear hfz180_0
        try clear hfz180_1
        try clear hfz180_2
        try clear hfz184_0
        try clear hfz184_1
        try clear hfz184_2
        try clear hfz19_0
        try clear hfz19_1
        try clear hfz19_2
        try clear hfz26_0
        try clear hfz26_1
        try clear hfz26_2
        try clear hfz29_0
        try clear hfz29_1
        try clear hfz29_2
        try clear hfz34_0
        try clear hfz34_1
        try clear hfz34_2
        try clear hfz42_0
        try clear hfz42_1
        try clear hfz42_2
        try clear hfz51_0
        try clear hfz51_1
        try clear hfz51_2
        try clear hfz54_0
        try clear hfz54_1
        try clear hfz54_2
        try clear hfz59_0
        try clear hfz59_1
        try clear hfz59_2
        try clear hfz62_0
        try clear hfz62_1
        try clear hfz62_2
        try clear hfz67_0
        try clear hfz67_1
        try clear hfz67_2
        try clear hfz70_0
        try clear hfz70_1
        try clear hfz70_2
        try clear hfz86_0
        try clear hfz86_1
        try clear hfz86_2
        try clear hfz95_0
        try clear hfz95_1
        try clear hfz95_2
        try clear hfz98_0
        try clear hfz98_1
        try clear hfz98_2
        try clear hfz9_0
        try clear hfz9_1
        try clear hfz9_2
        try clear p2
        obtain ⟨kq, x121_129, rfl, HA, HJ129, HO_366001, HO_366002, HO_374001, HO_374002, HO_384001, HO_384002, HO_418001, HO_418002, BK347, BK365, BK373, BK383, BK417, HB⟩ := hcut
        have hl384001_129 := (Kd.R_reads' HO_384001.out).1
        rw [hl384001_129] at HO_384001
        (try simp only [hl384001_129])
        (try simp only [hl384001_129] at BK347)
        (try simp only [hl384001_129] at BK365)
        (try simp only [hl384001_129] at BK373)
        (try simp only [hl384001_129] at BK383)
        (try simp only [hl384001_129] at BK417)
        (try simp only [hl384001_129] at HO_366001)
        (try simp only [hl384001_129] at HO_366002)
        (try simp only [hl384001_129] at HO_374001)
        (try simp only [hl384001_129] at HO_374002)
        (try simp only [hl384001_129] at HO_384002)
        (try simp only [hl384001_129] at HO_418001)
        (try simp only [hl384001_129] at HO_418002)
        have hl384002_129 := (Kd.R_reads' HO_384002.out).1
        rw [hl384002_129] at HO_384002
        (try simp only [hl384002_129])
        (try simp only [hl384002_129] at BK347)
        (try simp only [hl384002_129] at BK365)
        (try simp only [hl384002_129] at BK373)
        (try simp only [hl384002_129] at BK383)
        (try simp only [hl384002_129] at BK417)
        (try simp only [hl384002_129] at HO_366001)
        (try simp only [hl384002_129] at HO_366002)
        (try simp only [hl384002_129] at HO_374001)
        (try simp only [hl384002_129] at HO_374002)
        (try simp only [hl384002_129] at HO_384001)
        (try simp only [hl384002_129] at HO_418001)
        (try simp only [hl384002_129] at HO_418002)
        cases kq with
        | zero => exact absurd HA.out (by simp [laws_FnExactCuckooInsert.j2])
        | succ kj129 =>
         have H := HA.out
         clear HA
         simp only [laws_FnExactCuckooInsert.j2] at H
         by_cases c186 : x121_129 = true
         ·
          subst c186
          rw [if_pos rfl] at H
          obtain rfl := Option.some.inj H
          go_wp2
          go_ret
          exact ⟨by first | rfl | (simp [errW_none, errW_some] <;> rfl) | (simp [*, errW_none, errW_some] <;> rfl), uN HB⟩
         replace c186 := Bool.eq_false_iff.mpr c186
         subst c186
         rw [if_neg (show ¬ (false = true) by decide)] at H
         replace H := Option.bind_eq_some_iff.mp H
         obtain ⟨t419, A1870, H⟩ := H
         try dsimp only at H
         have A187 := Aside0.mk A1870
         clear A1870
         by_cases c188 : t419 < 0
         ·
          rw [if_pos c188] at H
          have c188b0 : decide (t419 < 0) = true := decide_eq_true c188
          clear c188
          obtain rfl := Option.some.inj H
          have hnb189 := NB383_347.out
          have hnc189 := NB347_383.out
          have hnb190 := NB383_365.out
          have hnc190 := NB365_383.out
          have hnb191 := NB383_373.out
          have hnc191 := NB373_383.out
          have hnb192 := NB383_417.out
          have hnc192 := NB417_383.out
          obtain ⟨hcz193_0, hcz193_1, hcz193_2, hfz193_0, hfz193_1, hfz193_2⟩ := ce3 BK383
          go_wp2_with (first | ((with_reducible refine gate_callee (f := 12) rfl ?_); refine goesL_ (some 124) rfl rfl Try.func12 (by kernel_rfl) rfl #[.agg #[.int .i64 t374, .slice Ao43 t398.length co43, .slice Ao44 t399.length co44], .int .i64 1] rfl (by (try simp only [List.map_toArray, List.map_cons, List.map_nil]); first | done | rfl) ?_; (with_reducible refine (laws_heldCuckoo.calls kj129 t374 _ _ t398 _ _ t399 1 t419 _ ?side1 ?side2 ?side3 ?side4 A187.out).mono ?_); (case side1 => exact uD HO_384001); (case side2 => exact (Kd.R_reads' HO_384001.out).2.1); (case side3 => exact uD HO_384002); (case side4 => exact (Kd.R_reads' HO_384002.out).2.1); rintro e w194 ⟨rfl, hb⟩; refine ⟨_, rfl, ?_⟩; replace HO_366001 := Aside0.mk (Kd.R_below (uR HO_366001) hb); replace HO_366002 := Aside0.mk (Kd.V_below (by (with_reducible repeat (first | apply Kd.V_alloc | apply Kd.V_drewN | apply Kd.V_drew)); exact HO_366002.out) hb); replace HO_374001 := Aside0.mk (Kd.R_below (uR HO_374001) hb); replace HO_374002 := Aside0.mk (Kd.R_below (uR HO_374002) hb); replace HO_384001 := Aside0.mk (Kd.R_below (uR HO_384001) hb); replace HO_384002 := Aside0.mk (Kd.R_below (uR HO_384002) hb); replace HO_418001 := Aside0.mk (Kd.R_below (uR HO_418001) hb); replace HO_418002 := Aside0.mk (Kd.R_below (uR HO_418002) hb); replace BK347 := kB BK347 hb; replace BK365 := kB BK365 hb; replace BK373 := kB BK373 hb; replace BK383 := kB BK383 hb; replace BK417 := kB BK417 hb; replace HB := Aside0.mk (below_step (uN HB) hb); (try clear hb); (try clear hb2); (try clear hk); (try clear hi)))
          go_ret
          exact ⟨by first | rfl | (simp [errW_none, errW_some] <;> rfl) | (simp [*, errW_none, errW_some] <;> rfl), uN HB⟩
         rw [if_neg c188] at H
         have c188b0 : decide (t419 < 0) = false := decide_eq_false c188
         clear c188
         by_cases c195 : t419 = t397
         ·
          rw [if_pos c195] at H
          have c195b0 : (t419 == t397) = true := beq_iff_eq.mpr c195
          have c195b1 : (t419 != t397) = false := bne_eq_false_iff_eq.mpr c195
          clear c195
          obtain rfl := Option.some.inj H
          have hnb196 := NB383_347.out
          have hnc196 := NB347_383.out
          have hnb197 := NB383_365.out
          have hnc197 := NB365_383.out
          have hnb198 := NB383_373.out
          have hnc198 := NB373_383.out
          have hnb199 := NB383_417.out
          have hnc199 := NB417_383.out
          obtain ⟨hcz200_0, hcz200_1, hcz200_2, hfz200_0, hfz200_1, hfz200_2⟩ := ce3 BK383
          go_wp2_with (first | ((with_reducible refine gate_callee (f := 12) rfl ?_); refine goesL_ (some 124) rfl rfl Try.func12 (by kernel_rfl) rfl #[.agg #[.int .i64 t374, .slice Ao43 t398.length co43, .slice Ao44 t399.length co44], .int .i64 1] rfl (by (try simp only [List.map_toArray, List.map_cons, List.map_nil]); first | done | rfl) ?_; (with_reducible refine (laws_heldCuckoo.calls kj129 t374 _ _ t398 _ _ t399 1 t419 _ ?side1 ?side2 ?side3 ?side4 A187.out).mono ?_); (case side1 => exact uD HO_384001); (case side2 => exact (Kd.R_reads' HO_384001.out).2.1); (case side3 => exact uD HO_384002); (case side4 => exact (Kd.R_reads' HO_384002.out).2.1); rintro e w201 ⟨rfl, hb⟩; refine ⟨_, rfl, ?_⟩; replace HO_366001 := Aside0.mk (Kd.R_below (uR HO_366001) hb); replace HO_366002 := Aside0.mk (Kd.V_below (by (with_reducible repeat (first | apply Kd.V_alloc | apply Kd.V_drewN | apply Kd.V_drew)); exact HO_366002.out) hb); replace HO_374001 := Aside0.mk (Kd.R_below (uR HO_374001) hb); replace HO_374002 := Aside0.mk (Kd.R_below (uR HO_374002) hb); replace HO_384001 := Aside0.mk (Kd.R_below (uR HO_384001) hb); replace HO_384002 := Aside0.mk (Kd.R_below (uR HO_384002) hb); replace HO_418001 := Aside0.mk (Kd.R_below (uR HO_418001) hb); replace HO_418002 := Aside0.mk (Kd.R_below (uR HO_418002) hb); replace BK347 := kB BK347 hb; replace BK365 := kB BK365 hb; replace BK373 := kB BK373 hb; replace BK383 := kB BK383 hb; replace BK417 := kB BK417 hb; replace HB := Aside0.mk (below_step (uN HB) hb); (try clear hb); (try clear hb2); (try clear hk); (try clear hi)))
          go_ret
          exact ⟨by first | rfl | (simp [errW_none, errW_some] <;> rfl) | (simp [*, errW_none, errW_some] <;> rfl), uN HB⟩
         rw [if_neg c195] at H
         have c195b0 : (t419 == t397) = false := beq_eq_false_iff_ne.mpr c195
         have c195b1 : (t419 != t397) = true := bne_iff_ne.mpr c195
         obtain rfl := Option.some.inj H
         have hnb202 := NB383_347.out
         have hnc202 := NB347_383.out
         have hnb203 := NB383_365.out
         have hnc203 := NB365_383.out
         have hnb204 := NB383_373.out
         have hnc204 := NB373_383.out
         have hnb205 := NB383_417.out
         have hnc205 := NB417_383.out
         obtain ⟨hcz206_0, hcz206_1, hcz206_2, hfz206_0, hfz206_1, hfz206_2⟩ := ce3 BK383
         go_wp2_with (first | ((with_reducible refine gate_callee (f := 12) rfl ?_); refine goesL_ (some 124) rfl rfl Try.func12 (by kernel_rfl) rfl #[.agg #[.int .i64 t374, .slice Ao43 t398.length co43, .slice Ao44 t399.length co44], .int .i64 1] rfl (by (try simp only [List.map_toArray, List.map_cons, List.map_nil]); first | done | rfl) ?_; (with_reducible refine (laws_heldCuckoo.calls kj129 t374 _ _ t398 _ _ t399 1 t419 _ ?side1 ?side2 ?side3 ?side4 A187.out).mono ?_); (case side1 => exact uD HO_384001); (case side2 => exact (Kd.R_reads' HO_384001.out).2.1); (case side3 => exact uD HO_384002); (case side4 => exact (Kd.R_reads' HO_384002.out).2.1); rintro e w207 ⟨rfl, hb⟩; refine ⟨_, rfl, ?_⟩; replace HO_366001 := Aside0.mk (Kd.R_below (uR HO_366001) hb); replace HO_366002 := Aside0.mk (Kd.V_below (by (with_reducible repeat (first | apply Kd.V_alloc | apply Kd.V_drewN | apply Kd.V_drew)); exact HO_366002.out) hb); replace HO_374001 := Aside0.mk (Kd.R_below (uR HO_374001) hb); replace HO_374002 := Aside0.mk (Kd.R_below (uR HO_374002) hb); replace HO_384001 := Aside0.mk (Kd.R_below (uR HO_384001) hb); replace HO_384002 := Aside0.mk (Kd.R_below (uR HO_384002) hb); replace HO_418001 := Aside0.mk (Kd.R_below (uR HO_418001) hb); replace HO_418002 := Aside0.mk (Kd.R_below (uR HO_418002) hb); replace BK347 := kB BK347 hb; replace BK365 := kB BK365 hb; replace BK373 := kB BK373 hb; replace BK383 := kB BK383 hb; replace BK417 := kB BK417 hb; replace HB := Aside0.mk (below_step (uN HB) hb); (try clear hb); (try clear hb2); (try clear hk); (try clear hi)))
         go_ret
         exact ⟨by first | rfl | (simp [errW_none, errW_some] <;> rfl) | (simp [*, errW_none, errW_some] <;> rfl), uN HB⟩
      rw [if_neg c127] at H
      have c127b0 : (t400 == t397) = false := beq_eq_false_iff_ne.mpr c127
      have c127b1 : (t400 != t397) = true := bne_iff_ne.mpr c127
      obtain rfl := Option.some.inj H
      have hnb208 := NB383_347.out
      have hnc208 := NB347_383.out
      have hnb209 := NB383_365.out
      have hnc209 := NB365_383.out
      have hnb210 := NB383_373.out
      have hnc210 := NB373_383.out
      obtain ⟨hcz211_0, hcz211_1, hcz211_2, hfz211_0, hfz211_1, hfz211_2⟩ := ce3 BK383
      go_wp2_with (first | ((with_reducible refine gate_callee (f := 11) rfl ?_); refine goesL_ (some 90) rfl rfl Try.func11 (by kernel_rfl) rfl #[.agg #[.int .i64 t374, .slice Ao43 t375.length co43, .slice Ao44 t378.length co44], .int .i64 1] rfl (by (try simp only [List.map_toArray, List.map_cons, List.map_nil]); first | done | rfl) ?_; (with_reducible refine (laws_markCuckoo.calls kj76 t374 (fun k_ => some k_ = (.slice Ao43 t375.length co43 : Value).ownBlock) (.slice Ao43 t375.length co43) t375 (fun k_ => some k_ = (.slice Ao44 t378.length co44 : Value).ownBlock) (.slice Ao44 t378.length co44) t378 1 t397 t398 t399 w _ ?side1 ?side2 ?side3 ?side4 ?side5 A117.out).mono ?_); (case side1 => exact uN HB); (case side2 => exact Kd.R_tight rfl HO_384001.out); (case side3 => exact fun k_ e_ => (HO_384001.out.1 k_ e_.symm).2.2.2); (case side4 => exact Kd.R_tight rfl HO_384002.out); (case side5 => exact fun k_ e_ => (HO_384002.out.1 k_ e_.symm).2.2.2); rintro e w212 ⟨rfl, hy0, hy1, hb, hkp⟩; refine ⟨_, rfl, ?_⟩; replace HO_366001 := Aside0.mk (Kd.R_mono (ok' := fun k_ => some k_ ≠ (.slice Ao35 t394.length co35 : Value).ownBlock ∧ some k_ ≠ (.slice Ao36 t395.length co36 : Value).ownBlock ∧ some k_ ≠ (.slice Ao43 t375.length co43 : Value).ownBlock ∧ some k_ ≠ (.slice Ao44 t378.length co44 : Value).ownBlock) (Kd.R_keptB (HO_366001.out) hkp (fun k_ hk_ hs_ => Or.elim hs_ (fun e_ => (hk_.2.2.1) e_) (fun e_ => (hk_.2.2.2) e_))) (fun k_ hk_ => ⟨hk_.1.1, hk_.1.2.1, hk_.1.2.2.1, hk_.1.2.2.2⟩)); replace HO_366002 := Aside0.mk (Kd.V_mono (ok' := fun k_ => some k_ ≠ (.slice Ao27 t357.length co27 : Value).ownBlock ∧ some k_ ≠ (.slice Ao35 t394.length co35 : Value).ownBlock ∧ some k_ ≠ (.slice Ao36 t395.length co36 : Value).ownBlock ∧ some k_ ≠ (.slice Ao43 t375.length co43 : Value).ownBlock ∧ some k_ ≠ (.slice Ao44 t378.length co44 : Value).ownBlock ∧ k_ ≠ gb347 ∧ k_ ≠ gb365 ∧ k_ ≠ gb373 ∧ k_ ≠ gb383) (Kd.V_keptB (HO_366002.out) hkp (fun k_ hk_ hs_ => Or.elim hs_ (fun e_ => (hk_.2.2.2.1) e_) (fun e_ => (hk_.2.2.2.2.1) e_))) (fun k_ hk_ => ⟨hk_.1.1, hk_.1.2.1, hk_.1.2.2.1, hk_.1.2.2.2.1, hk_.1.2.2.2.2.1, hk_.1.2.2.2.2.2.1, hk_.1.2.2.2.2.2.2.1, hk_.1.2.2.2.2.2.2.2.1, hk_.1.2.2.2.2.2.2.2.2⟩)); replace HO_374001 := Aside0.mk (Kd.R_mono (ok' := fun k_ => some k_ ≠ (.slice Ao27 t357.length co27 : Value).ownBlock ∧ some k_ ≠ (.slice Ao36 t395.length co36 : Value).ownBlock ∧ some k_ ≠ (.slice Ao43 t375.length co43 : Value).ownBlock ∧ some k_ ≠ (.slice Ao44 t378.length co44 : Value).ownBlock) (Kd.R_keptB (HO_374001.out) hkp (fun k_ hk_ hs_ => Or.elim hs_ (fun e_ => (hk_.2.2.1) e_) (fun e_ => (hk_.2.2.2) e_))) (fun k_ hk_ => ⟨hk_.1.1, hk_.1.2.1, hk_.1.2.2.1, hk_.1.2.2.2⟩)); replace HO_374002 := Aside0.mk (Kd.R_mono (ok' := fun k_ => some k_ ≠ (.slice Ao27 t357.length co27 : Value).ownBlock ∧ some k_ ≠ (.slice Ao35 t394.length co35 : Value).ownBlock ∧ some k_ ≠ (.slice Ao43 t375.length co43 : Value).ownBlock ∧ some k_ ≠ (.slice Ao44 t378.length co44 : Value).ownBlock) (Kd.R_keptB (HO_374002.out) hkp (fun k_ hk_ hs_ => Or.elim hs_ (fun e_ => (hk_.2.2.1) e_) (fun e_ => (hk_.2.2.2) e_))) (fun k_ hk_ => ⟨hk_.1.1, hk_.1.2.1, hk_.1.2.2.1, hk_.1.2.2.2⟩)); replace BK347 := Aside0.mk (blk_kept (uK BK347) hkp (fun hs_ => Or.elim hs_ (fun e_ => (fun e_ => (Kd.R_ne HO_384001.out BK347.out (by decide)) e_) e_) (fun e_ => (fun e_ => (Kd.R_ne HO_384002.out BK347.out (by decide)) e_) e_))); replace BK365 := Aside0.mk (blk_kept (uK BK365) hkp (fun hs_ => Or.elim hs_ (fun e_ => (fun e_ => (Kd.R_ne HO_384001.out BK365.out (by decide)) e_) e_) (fun e_ => (fun e_ => (Kd.R_ne HO_384002.out BK365.out (by decide)) e_) e_))); replace BK373 := Aside0.mk (blk_kept (uK BK373) hkp (fun hs_ => Or.elim hs_ (fun e_ => (fun e_ => (Kd.R_ne HO_384001.out BK373.out (by decide)) e_) e_) (fun e_ => (fun e_ => (Kd.R_ne HO_384002.out BK373.out (by decide)) e_) e_))); replace BK383 := Aside0.mk (blk_kept (uK BK383) hkp (fun hs_ => Or.elim hs_ (fun e_ => (fun e_ => (Kd.R_ne HO_384001.out BK383.out (by decide)) e_) e_) (fun e_ => (fun e_ => (Kd.R_ne HO_384002.out BK383.out (by decide)) e_) e_))); replace HO_384001 := Aside0.mk (Kd.R_reok rfl hy0 (fun k_ e_ => HO_384001.out.1 k_ e_)); replace HO_384002 := Aside0.mk (Kd.R_reok rfl hy1 (fun k_ e_ => HO_384002.out.1 k_ e_)); replace HB := Aside0.mk (hb); (try clear hb); (try clear hkp); (try clear hy0); (try clear hy1); obtain ⟨hcz213_0, hcz213_1, hcz213_2, hfz213_0, hfz213_1, hfz213_2⟩ := ce3 BK383) | ((with_reducible refine gate_callee (f := 12) rfl ?_); refine goesL_ (some 93) rfl rfl Try.func12 (by kernel_rfl) rfl #[.agg #[.int .i64 t374, .slice Ao43 t398.length co43, .slice Ao44 t399.length co44], .int .i64 1] rfl (by (try simp only [List.map_toArray, List.map_cons, List.map_nil]); first | done | (rw [show t398.length = t375.length from (Kd.R_reads' HO_384001.out).1.symm, show t399.length = t378.length from (Kd.R_reads' HO_384002.out).1.symm] <;> rfl) | rfl | (simp only [List.length_drop, List.length_take]; rfl)) ?_; (with_reducible refine (laws_heldCuckoo.calls kj76 t374 _ _ t398 _ _ t399 1 t400 _ ?side1 ?side2 ?side3 ?side4 A118.out).mono ?_); (case side1 => exact uD HO_384001); (case side2 => rw [show t398.length = t375.length from (Kd.R_reads' HO_384001.out).1.symm]; exact (Kd.R_reads' HO_384001.out).2.1); (case side3 => exact uD HO_384002); (case side4 => rw [show t399.length = t378.length from (Kd.R_reads' HO_384002.out).1.symm]; exact (Kd.R_reads' HO_384002.out).2.1); rintro e w214 ⟨rfl, hb⟩; refine ⟨_, rfl, ?_⟩; replace HO_366001 := Aside0.mk (Kd.R_below (uR HO_366001) hb); replace HO_366002 := Aside0.mk (Kd.V_below (by (with_reducible repeat (first | apply Kd.V_alloc | apply Kd.V_drewN | apply Kd.V_drew)); exact HO_366002.out) hb); replace HO_374001 := Aside0.mk (Kd.R_below (uR HO_374001) hb); replace HO_374002 := Aside0.mk (Kd.R_below (uR HO_374002) hb); replace HO_384001 := Aside0.mk (Kd.R_below (uR HO_384001) hb); replace HO_384002 := Aside0.mk (Kd.R_below (uR HO_384002) hb); replace BK347 := kB BK347 hb; replace BK365 := kB BK365 hb; replace BK373 := kB BK373 hb; replace BK383 := kB BK383 hb; replace HB := Aside0.mk (below_step (uN HB) hb); (try clear hb); (try clear hb2); (try clear hk); (try clear hi)))
      go_ret
      exact ⟨by first | rfl | (simp [errW_none, errW_some] <;> rfl) | (simp [*, errW_none, errW_some] <;> rfl), uN HB⟩
   replace c75 := Bool.eq_false_iff.mpr c75
   subst c75
   rw [if_neg (show ¬ (false = true) by decide)] at H
   obtain rfl := Option.some.inj H
   try go_wp2
   replace HO_366001 := Aside0.mk (Kd.R_drew HO_366001.out)
   replace HO_366002 := Aside0.mk (Kd.V_drew HO_366002.out)
   replace HO_374001 := Aside0.mk (Kd.R_drew HO_374001.out)
   replace HO_374002 := Aside0.mk (Kd.R_drew HO_374002.out)
   replace HO_384001 := Aside0.mk (Kd.R_drew HO_384001.out)
   replace HO_384002 := Aside0.mk (Kd.R_drew HO_384002.out)
   replace BK347 := Aside0.mk (blk_drew BK347.out)
   replace BK365 := Aside0.mk (blk_drew BK365.out)
   replace BK373 := Aside0.mk (blk_drew BK373.out)
   replace BK383 := Aside0.mk (blk_drew BK383.out)
   replace HB := Aside0.mk (below_drew1 HB.out)
   refine start_ (n := 5) (S := fun w' => w'.cell? ⟨gb373, 0, none⟩ = some (.int .i64 t366) ∧ w'.cell? ⟨gb373, 1, none⟩ = some (.slice Ao35 t367.length co35) ∧ w'.cell? ⟨gb373, 2, none⟩ = some (.slice Ao36 t370.length co36) ∧ w'.cell? ⟨gb347, 0, none⟩ = some (.int .i64 a0_0) ∧ w'.cell? ⟨gb347, 1, none⟩ = some (.slice A0_1 l0_1.length c0_1) ∧ w'.cell? ⟨gb347, 2, none⟩ = some (.slice A0_2 l0_2.length c0_2)) (ds := []) #[false, false, false, false, false] (by kernel_rfl) rfl rfl ⟨bc BK373 0, bc BK373 1, bc BK373 2, bc BK347 0, bc BK347 1, bc BK347 2⟩ (fun hHeld => ?_)
   generalize wc.drew = w215 at HO_366001 HO_366002 HO_374001 HO_374002 HO_384001 HO_384002 BK347 BK365 BK373 BK383 HB hHeld ⊢
   refine take_ (i := 0) (N := some 62) (v := ?_) (a' := ?_) #[true, false, false, false, false] rfl rfl (by kernel_rfl) (fun _ _ _ h => h) (Or.inl ⟨by rfl, ?_⟩) hHeld ?_ ?_
   rotate_left
   ·
    rintro w' ⟨s0, s1, s2, s3, s4, s5⟩
    go_simp
    with_reducible rfl
   rotate_left
   ·
    simp only [Act.put, setIfInBounds_toArray, set_cons_zero, set_cons_succ, i64_w, i32_w]
    rfl
   refine take_ (i := 1) (N := some 63) (v := ?_) (a' := ?_) #[true, true, false, false, false] rfl rfl (by kernel_rfl) (fun _ _ _ h => h) (Or.inl ⟨by rfl, ?_⟩) hHeld ?_ ?_
   rotate_left
   ·
    rintro w' ⟨s0, s1, s2, s3, s4, s5⟩
    go_simp
    with_reducible rfl
   rotate_left
   ·
    simp only [Act.put, setIfInBounds_toArray, set_cons_zero, set_cons_succ, i64_w, i32_w]
    rfl
   refine one_ (i := 2) (N := some 64) #[true, true, true, false, false] rfl rfl (by kernel_rfl) (by decide) (fun K hK => ?_)
   refine goes_ Try.func8 (by kernel_rfl) rfl #[.agg #[.int .i64 a0_0, .slice A0_1 l0_1.length c0_1, .slice A0_2 l0_2.length c0_2]] (by rfl) rfl rfl (by (try simp only [List.map_toArray, List.map_cons, List.map_nil]); first | done | rfl) ?_
   with_reducible refine (laws_toCuckoo.calls kj14 a0_0 _ _ l0_1 _ _ l0_2 t385 t386 t389 _ ?side1 ?side2 ?side3 ?side4 A73.out).mono ?_
   (case side1 => exact uC HR0_1 HB)
   (case side2 => exact HC0_1.out)
   (case side3 => exact uC HR0_2 HB)
   (case side4 => exact HC0_2.out)
   rintro e w216 ⟨v387, v390, rfl, ho0, ho1, hb⟩
   refine ⟨_, rfl, ?_⟩
   replace HO_366002 := Aside0.mk (Kd.V_mono (Kd.V_told (Kd.V_told (Kd.V_old (by (with_reducible repeat (first | apply Kd.V_alloc | apply Kd.V_drewN | apply Kd.V_drew)); exact HO_366002.out) hb) (Kd.R_base ho0)) (Kd.R_base ho1)) (fun _ h_ => h_.1))
   have HO388 := Aside0.mk (Kd.R_lower (Kd.R_new' (Kd.R_new' (Kd.R_new' (Kd.R_new' (Kd.R_new' ho0 (Kd.R_lt (uR HO_366001))) (Kd.R_lt (uR HO_374001))) (Kd.R_lt (uR HO_374002))) (Kd.R_lt (uR HO_384001))) (Kd.R_lt (uR HO_384002))) (below_size (uN HB)))
   have HO391 := Aside0.mk (Kd.R_lower (Kd.R_new' (Kd.R_new' (Kd.R_new' (Kd.R_new' (Kd.R_new' ho1 (Kd.R_lt (uR HO_366001))) (Kd.R_lt (uR HO_374001))) (Kd.R_lt (uR HO_374002))) (Kd.R_lt (uR HO_384001))) (Kd.R_lt (uR HO_384002))) (below_size (uN HB)))
   replace HO_366001 := Aside0.mk (Kd.R_mono (Kd.R_told (Kd.R_told (Kd.R_old (uR HO_366001) hb) (Kd.R_base ho0)) (Kd.R_base ho1)) (fun _ h_ => h_.1))
   replace HO_374001 := Aside0.mk (Kd.R_mono (Kd.R_told (Kd.R_told (Kd.R_old (uR HO_374001) hb) (Kd.R_base ho0)) (Kd.R_base ho1)) (fun _ h_ => h_.1))
   replace HO_374002 := Aside0.mk (Kd.R_mono (Kd.R_told (Kd.R_told (Kd.R_old (uR HO_374002) hb) (Kd.R_base ho0)) (Kd.R_base ho1)) (fun _ h_ => h_.1))
   replace HO_384001 := Aside0.mk (Kd.R_mono (Kd.R_told (Kd.R_told (Kd.R_old (uR HO_384001) hb) (Kd.R_base ho0)) (Kd.R_base ho1)) (fun _ h_ => h_.1))
   replace HO_384002 := Aside0.mk (Kd.R_mono (Kd.R_told (Kd.R_told (Kd.R_old (uR HO_384002) hb) (Kd.R_base ho0)) (Kd.R_base ho1)) (fun _ h_ => h_.1))
   replace BK347 := kB BK347 hb
   replace BK365 := kB BK365 hb
   replace BK373 := kB BK373 hb
   replace BK383 := kB BK383 hb
   replace HB := Aside0.mk (below_step (uN HB) hb)
   (try clear hb)
   (try clear hb2)
   (try clear hk)
   (try clear hi)
   (try clear ho0)
   (try clear ho1)
   obtain ⟨Ao217, co217, eo217⟩ := Kd.R_slice HO388.out
   (first | subst eo217 | (injection eo217 with f1_ f2_ f3_; have f4_ := f1_.symm; have f5_ := f3_.symm; clear f1_ f2_ f3_; subst f4_; subst f5_))
   obtain ⟨Ao218, co218, eo218⟩ := Kd.R_slice HO391.out
   (first | subst eo218 | (injection eo218 with f1_ f2_ f3_; have f4_ := f1_.symm; have f5_ := f3_.symm; clear f1_ f2_ f3_; subst f4_; subst f5_))
   refine hK.out _ _ ⟨bc BK373 0, bc BK373 1, bc BK373 2, bc BK347 0, bc BK347 1, bc BK347 2⟩ (fun hHeld => ?_)
   clear hK K
   refine norm_ (a' := ?_) ?_ ?_
   rotate_left
   ·
    show Act.put _ (some 64) _ = _
    simp only [Act.put, setIfInBounds_toArray, set_cons_zero, set_cons_succ, i64_w, i32_w]
    rfl
   refine one_ (i := 3) (N := some 65) #[true, true, true, true, false] rfl rfl (by kernel_rfl) (by decide) (fun K hK => ?_)
   refine goes_ Try.func10 (by kernel_rfl) rfl #[.agg #[.int .i64 t366, .slice Ao35 t367.length co35, .slice Ao36 t370.length co36], .agg #[.int .i64 t385, .slice Ao217 t386.length co217, .slice Ao218 t389.length co218]] (by rfl) rfl rfl (by (try simp only [List.map_toArray, List.map_cons, List.map_nil]); first | done | rfl) ?_
   with_reducible refine (laws_eqCuckoo.calls kj14 t366 _ _ t367 _ _ t370 t385 _ _ t386 _ _ t389 false _ ?side1 ?side2 ?side3 ?side4 ?side5 ?side6 ?side7 ?side8 A74.out).mono ?_
   (case side1 => exact uD HO_374001)
   (case side2 => exact (Kd.R_reads' HO_374001.out).2.1)
   (case side3 => exact uD HO_374002)
   (case side4 => exact (Kd.R_reads' HO_374002.out).2.1)
   (case side5 => exact uD HO388)
   (case side6 => exact (Kd.R_reads' HO388.out).2.1)
   (case side7 => exact uD HO391)
   (case side8 => exact (Kd.R_reads' HO391.out).2.1)
   rintro e w219 ⟨rfl, hb⟩
   refine ⟨_, rfl, ?_⟩
   replace HO_366001 := Aside0.mk (Kd.R_below (uR HO_366001) hb)
   replace HO_366002 := Aside0.mk (Kd.V_below (by (with_reducible repeat (first | apply Kd.V_alloc | apply Kd.V_drewN | apply Kd.V_drew)); exact HO_366002.out) hb)
   replace HO_374001 := Aside0.mk (Kd.R_below (uR HO_374001) hb)
   replace HO_374002 := Aside0.mk (Kd.R_below (uR HO_374002) hb)
   replace HO_384001 := Aside0.mk (Kd.R_below (uR HO_384001) hb)
   replace HO_384002 := Aside0.mk (Kd.R_below (uR HO_384002) hb)
   replace HO388 := Aside0.mk (Kd.R_below (uR HO388) hb)
   replace HO391 := Aside0.mk (Kd.R_below (uR HO391) hb)
   replace BK347 := kB BK347 hb
   replace BK365 := kB BK365 hb
   replace BK373 := kB BK373 hb
   replace BK383 := kB BK383 hb
   replace HB := Aside0.mk (below_step (uN HB) hb)
   (try clear hb)
   (try clear hb2)
   (try clear hk)
   (try clear hi)
   refine hK.out _ _ ⟨bc BK373 0, bc BK373 1, bc BK373 2, bc BK347 0, bc BK347 1, bc BK347 2⟩ (fun hHeld => ?_)
   clear hK K
   refine norm_ (a' := ?_) ?_ ?_
   rotate_left
   ·
    show Act.put _ (some 65) _ = _
    simp only [Act.put, setIfInBounds_toArray, set_cons_zero, set_cons_succ, i64_w, i32_w]
    rfl
   refine pure_ (i := 4) (N := some 66) (v := ?_) (a' := ?_) #[true, true, true, true, true] rfl rfl (by kernel_rfl) (fun _ _ _ h => h) (Or.inl ⟨by rfl, ?_⟩) ?_ ?_
   rotate_left
   ·
    intro w'
    go_simp
    with_reducible rfl
   rotate_left
   ·
    simp only [Act.put, setIfInBounds_toArray, set_cons_zero, set_cons_succ, i64_w, i32_w]
    rfl
   refine done_ (by kernel_rfl) ?_
   try go_wp2
   go_ret
   exact ⟨by first | rfl | (simp [errW_none, errW_some] <;> rfl) | (simp [*, errW_none, errW_some] <;> rfl), uN HB⟩

end Go.Proofs.Ythaicmebdgeamaa.PFnExactCuckooInsert
