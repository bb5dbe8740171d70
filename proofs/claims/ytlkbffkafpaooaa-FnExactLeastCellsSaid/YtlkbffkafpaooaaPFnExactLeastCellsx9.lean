-- made by wip/tools/myprint.py over the kit's print, for this claim
import Derived.Test.YtlkbffkafpaooaaPFnExactLeastCellsx0
import Derived.Test.YtlkbffkafpaooaaPFnExactLeastCellsx1
import Derived.Test.YtlkbffkafpaooaaPFnExactLeastCellsx5
import Derived.Test.YtlkbffkafpaooaaPFnExactLeastCellsx8
namespace Go.Proofs.Ytlkbffkafpaooaa.PFnExactLeastCells
open Go.RowKit Go.Proofs.YtlkbffkafpaooaaW.PrintWords Go.Proofs.YtlkbffkafpaooaaW.PrintLast Go.Proofs.YtlkbffkafpaooaaW.PrintMore
attribute [local go_sem] max2_int min2_int max_two min_two max_three min_three max_four min_four   -- for this text's walks alone
set_option linter.unusedVariables false
set_option linter.unusedSimpArgs false

/-! ### laws_FnExactLeastCells: function 5 -/
def laws_FnExactLeastCells.j0 : Nat → List ByteArray → List ByteArray → Bool → Option (Bool)
 | 0, _, _, _ => none
 | k + 1, x1, x10, x42 => if x42 = true then (some false) else ((laws_toStringS.f k x1).bind fun t264 => ((laws_eqStringS.f k x10 t264).bind fun t267 => (if t267 = true then (some true) else (some false))))
def laws_FnExactLeastCells.f (k : Nat) (a0 : Int) (l1 : List ByteArray) (a2 : Int) : Option (Bool) := (laws_szStringS.f k l1 1048576).bind fun t253 => (if t253 < 0 then (some true) else ((laws_toStringS.f k l1).bind fun t254 => ((spec_LeastCells.f k a0 t254 a2).bind fun bt257 => ((laws_toStringS.f k l1).bind fun t259 => ((impl_LeastCells.f k a0 t259 a2).bind fun bt262 => (if bt262.1 = bt257.1 then (laws_FnExactLeastCells.j0 k l1 t259 (bt262.2 != bt257.2)) else (laws_FnExactLeastCells.j0 k l1 t259 true)))))))
theorem laws_FnExactLeastCells.mono_l : ∀ k, (∀ y0 y1 y2, LeO (laws_FnExactLeastCells.j0 k y0 y1 y2) (laws_FnExactLeastCells.j0 (k + 1) y0 y1 y2))
 | 0 => fun _ _ _ r h => by simp [laws_FnExactLeastCells.j0] at h
 | k + 1 => by
  have ih0 := laws_FnExactLeastCells.mono_l k
  ·
   intro y0 y1 y2
   unfold laws_FnExactLeastCells.j0
   repeat' first
   | (with_reducible exact ih0 _ _ _)
   | (with_reducible exact impl_LeastCells.mono _ _ _ _)
   | (with_reducible exact laws_eqStringS.mono _ _ _)
   | (with_reducible exact laws_szStringS.mono _ _ _)
   | (with_reducible exact laws_toStringS.mono _ _)
   | (with_reducible exact spec_LeastCells.mono _ _ _ _)
   | (with_reducible exact LeO.refl _)
   | (with_reducible exact LeO.none _)
   | (with_reducible refine LeO.ite ?_ ?_)
   | (with_reducible refine LeO.bind ?_ (fun _ => ?_))
   | exact ih0 _ _ _
   | exact impl_LeastCells.mono _ _ _ _
   | exact laws_eqStringS.mono _ _ _
   | exact laws_szStringS.mono _ _ _
   | exact laws_toStringS.mono _ _
   | exact spec_LeastCells.mono _ _ _ _
   | exact LeO.none _
   | refine LeO.ite ?_ ?_
   | refine LeO.bind ?_ (fun _ => ?_)
theorem laws_FnExactLeastCells.mono : ∀ a0 a1 a2 k, LeO (laws_FnExactLeastCells.f k a0 a1 a2) (laws_FnExactLeastCells.f (k + 1) a0 a1 a2) := by
 intro a0 a1 a2 k
 have ih0 := laws_FnExactLeastCells.mono_l k
 unfold laws_FnExactLeastCells.f
 repeat' first
   | (with_reducible exact ih0 _ _ _)
   | (with_reducible exact impl_LeastCells.mono _ _ _ _)
   | (with_reducible exact laws_eqStringS.mono _ _ _)
   | (with_reducible exact laws_szStringS.mono _ _ _)
   | (with_reducible exact laws_toStringS.mono _ _)
   | (with_reducible exact spec_LeastCells.mono _ _ _ _)
   | (with_reducible exact LeO.refl _)
   | (with_reducible exact LeO.none _)
   | (with_reducible refine LeO.ite ?_ ?_)
   | (with_reducible refine LeO.bind ?_ (fun _ => ?_))
   | exact ih0 _ _ _
   | exact impl_LeastCells.mono _ _ _ _
   | exact laws_eqStringS.mono _ _ _
   | exact laws_szStringS.mono _ _ _
   | exact laws_toStringS.mono _ _
   | exact spec_LeastCells.mono _ _ _ _
   | exact LeO.none _
   | refine LeO.ite ?_ ?_
   | refine LeO.bind ?_ (fun _ => ?_)
set_option maxHeartbeats 8000000 in
set_option maxRecDepth 100000 in
theorem laws_FnExactLeastCells.calls (k : Nat) (a0 : Int) (A1 : Option Addr) (c1 : Nat) (l1 : List ByteArray) (a2 : Int) (r : Bool) (w : World) (hr1 : Kd.C Kd.string w A1 l1.length l1) (hc1 : l1.length ≤ c1) (h : laws_FnExactLeastCells.f k a0 l1 a2 = some r) :
  Calls Try.prog 5 #[.int .i64 a0, .slice A1 l1.length c1, .int .i64 a2] w fun e w' => e = .returned (.bool r) ∧ Below w.heap.size w w' := by
 have HR1 := Aside0.mk hr1
 have HC1 := Aside0.mk hc1
 clear hr1 hc1
 have HB := Aside0.mk (Below.refl w.heap.size w)
 have H : ((laws_szStringS.f k l1 1048576).bind fun t253 => (if t253 < 0 then (some true) else ((laws_toStringS.f k l1).bind fun t254 => ((spec_LeastCells.f k a0 t254 a2).bind fun bt257 => ((laws_toStringS.f k l1).bind fun t259 => ((impl_LeastCells.f k a0 t259 a2).bind fun bt262 => (if bt262.1 = bt257.1 then (laws_FnExactLeastCells.j0 k l1 t259 (bt262.2 != bt257.2)) else (laws_FnExactLeastCells.j0 k l1 t259 true)))))))) = some r := h
 clear h
 replace H := Option.bind_eq_some_iff.mp H
 obtain ⟨t253, A40, H⟩ := H
 replace H : (if t253 < 0 then (some true) else ((laws_toStringS.f k l1).bind fun t254 => ((spec_LeastCells.f k a0 t254 a2).bind fun bt257 => ((laws_toStringS.f k l1).bind fun t259 => ((impl_LeastCells.f k a0 t259 a2).bind fun bt262 => (if bt262.1 = bt257.1 then (laws_FnExactLeastCells.j0 k l1 t259 (bt262.2 != bt257.2)) else (laws_FnExactLeastCells.j0 k l1 t259 true))))))) = some r := H
 have A4 := Aside0.mk A40
 clear A40
 by_cases c5 : t253 < 0
 ·
  rw [if_pos c5] at H
  have c5b0 : decide (t253 < 0) = true := decide_eq_true c5
  clear c5
  obtain rfl := Option.some.inj H
  go_enter Try.func5, Try.ntmps5
  go_wp2_with (first | ((with_reducible refine gate_callee (f := 10) rfl ?_); refine goesL_ (some 15) rfl rfl Try.func10 (by kernel_rfl) rfl #[.slice A1 l1.length c1, .int .i64 1048576] rfl (by (try simp only [List.map_toArray, List.map_cons, List.map_nil]); first | done | rfl | (simp only [List.length_drop, List.length_take]; rfl)) ?_; (with_reducible refine (laws_szStringS.calls k _ _ l1 1048576 t253 _ ?side1 ?side2 A4.out).mono ?_); (case side1 => repeat (first | exact HR1.out | (with_reducible refine Kd.C_alloc ?_ _) | (with_reducible refine Kd.C_drewN ?_ _) | (with_reducible refine Kd.C_drew ?_))); (case side2 => exact HC1.out); rintro e w' ⟨rfl, ⟨nd, rfl⟩⟩; refine ⟨_, rfl, ?_⟩))
  go_ret
  exact ⟨by first | rfl | (simp [errW_none, errW_some] <;> rfl) | (simp [*, errW_none, errW_some] <;> rfl), uB HB⟩
 ·
  rw [if_neg c5] at H
  have c5b0 : decide (t253 < 0) = false := decide_eq_false c5
  clear c5
  replace H := Option.bind_eq_some_iff.mp H
  obtain ⟨t254, A60, H⟩ := H
  replace H : ((spec_LeastCells.f k a0 t254 a2).bind fun bt257 => ((laws_toStringS.f k l1).bind fun t259 => ((impl_LeastCells.f k a0 t259 a2).bind fun bt262 => (if bt262.1 = bt257.1 then (laws_FnExactLeastCells.j0 k l1 t259 (bt262.2 != bt257.2)) else (laws_FnExactLeastCells.j0 k l1 t259 true))))) = some r := H
  have A6 := Aside0.mk A60
  clear A60
  replace H := Option.bind_eq_some_iff.mp H
  obtain ⟨⟨t257, t258⟩, A70, H⟩ := H
  replace H : ((laws_toStringS.f k l1).bind fun t259 => ((impl_LeastCells.f k a0 t259 a2).bind fun bt262 => (if bt262.1 = t257 then (laws_FnExactLeastCells.j0 k l1 t259 (bt262.2 != t258)) else (laws_FnExactLeastCells.j0 k l1 t259 true)))) = some r := H
  have A7 := Aside0.mk A70
  clear A70
  replace H := Option.bind_eq_some_iff.mp H
  obtain ⟨t259, A80, H⟩ := H
  replace H : ((impl_LeastCells.f k a0 t259 a2).bind fun bt262 => (if bt262.1 = t257 then (laws_FnExactLeastCells.j0 k l1 t259 (bt262.2 != t258)) else (laws_FnExactLeastCells.j0 k l1 t259 true))) = some r := H
  have A8 := Aside0.mk A80
  clear A80
  replace H := Option.bind_eq_some_iff.mp H
  obtain ⟨⟨t262, t263⟩, A90, H⟩ := H
  replace H : (if t262 = t257 then (laws_FnExactLeastCells.j0 k l1 t259 (t263 != t258)) else (laws_FnExactLeastCells.j0 k l1 t259 true)) = some r := H
  have A9 := Aside0.mk A90
  clear A90
  have HC10 := Aside0.mk H
  clear H
  go_enter Try.func5, Try.ntmps5
  go_upto_region 8 with (first | ((with_reducible refine gate_callee (f := 10) rfl ?_); refine goesL_ (some 15) rfl rfl Try.func10 (by kernel_rfl) rfl #[.slice A1 l1.length c1, .int .i64 1048576] rfl (by (try simp only [List.map_toArray, List.map_cons, List.map_nil]); first | done | rfl | (simp only [List.length_drop, List.length_take]; rfl)) ?_; (with_reducible refine (laws_szStringS.calls k _ _ l1 1048576 t253 _ ?side1 ?side2 A4.out).mono ?_); (case side1 => repeat (first | exact HR1.out | (with_reducible refine Kd.C_alloc ?_ _) | (with_reducible refine Kd.C_drewN ?_ _) | (with_reducible refine Kd.C_drew ?_))); (case side2 => exact HC1.out); rintro e w' ⟨rfl, ⟨nd, rfl⟩⟩; refine ⟨_, rfl, ?_⟩) | ((with_reducible refine gate_callee (f := 12) rfl ?_); refine goesL_ (some 21) rfl rfl Try.func12 (by kernel_rfl) rfl #[.slice A1 l1.length c1] rfl (by (try simp only [List.map_toArray, List.map_cons, List.map_nil]); first | done | rfl | (simp only [List.length_drop, List.length_take]; rfl)) ?_; (with_reducible refine (laws_toStringS.calls k _ _ l1 t254 _ ?side1 ?side2 A6.out).mono ?_); (case side1 => repeat (first | exact HR1.out | (with_reducible refine Kd.C_alloc ?_ _) | (with_reducible refine Kd.C_drewN ?_ _) | (with_reducible refine Kd.C_drew ?_))); (case side2 => exact HC1.out); rintro e w11 ⟨v255, rfl, ho0, hb⟩; refine ⟨_, rfl, ?_⟩; have n0_ := Aside0.mk (Kd.R_lower ho0 (below_size (uB HB))); have n1_ := Aside0.mk (below_step (uB HB) hb); clear HB; have HO256 := n0_; have HB := n1_; clear n0_ n1_; (try clear hb); (try clear hb2); (try clear hk); (try clear hi); (try clear ho0); obtain ⟨Ao12, co12, eo12⟩ := Kd.R_slice HO256.out; subst eo12) | ((with_reducible refine gate_callee (f := 19) rfl ?_); refine goesL_ (some 23) rfl rfl Try.func19 (by kernel_rfl) rfl #[.int .i64 a0, .slice Ao12 t254.length co12, .int .i64 a2] rfl (by (try simp only [List.map_toArray, List.map_cons, List.map_nil]); first | done | rfl | (simp only [List.length_drop, List.length_take]; rfl)) ?_; (with_reducible refine (spec_LeastCells.calls k a0 _ _ t254 a2 t257 t258 _ ?side1 ?side2 A7.out).mono ?_); (case side1 => exact uD HO256); (case side2 => exact (Kd.R_reads' HO256.out).2.1); rintro e w13 ⟨rfl, hb⟩; refine ⟨_, rfl, ?_⟩; have n0_ := Aside0.mk (Kd.R_below (uR HO256) hb); have n1_ := Aside0.mk (below_step (uB HB) hb); clear HO256 HB; have HO256 := n0_; have HB := n1_; clear n0_ n1_; (try clear hb); (try clear hb2); (try clear hk); (try clear hi)) | ((with_reducible refine gate_callee (f := 12) rfl ?_); refine goesL_ (some 27) rfl rfl Try.func12 (by kernel_rfl) rfl #[.slice A1 l1.length c1] rfl (by (try simp only [List.map_toArray, List.map_cons, List.map_nil]); first | done | rfl | (simp only [List.length_drop, List.length_take]; rfl)) ?_; (with_reducible refine (laws_toStringS.calls k _ _ l1 t259 _ ?side1 ?side2 A8.out).mono ?_); (case side1 => exact uC HR1 HB); (case side2 => exact HC1.out); rintro e w14 ⟨v260, rfl, ho0, hb⟩; refine ⟨_, rfl, ?_⟩; have n0_ := Aside0.mk (Kd.R_elder' (uR HO256) (Kd.R_base ho0) hb); have n1_ := Aside0.mk (Kd.R_lower (Kd.R_new' ho0 (Kd.R_lt (uR HO256))) (below_size (uB HB))); have n2_ := Aside0.mk (below_step (uB HB) hb); clear HO256 HB; have HO256 := n0_; have HO261 := n1_; have HB := n2_; clear n0_ n1_ n2_; (try clear hb); (try clear hb2); (try clear hk); (try clear hi); (try clear ho0); obtain ⟨Ao15, co15, eo15⟩ := Kd.R_slice HO261.out; subst eo15) | ((with_reducible refine gate_callee (f := 20) rfl ?_); refine goesL_ (some 32) rfl rfl Try.func20 (by kernel_rfl) rfl #[.int .i64 a0, .slice Ao15 t259.length co15, .int .i64 a2] rfl (by (try simp only [List.map_toArray, List.map_cons, List.map_nil]); first | done | rfl | (simp only [List.length_drop, List.length_take]; rfl)) ?_; (with_reducible refine (impl_LeastCells.calls k a0 _ _ t259 a2 t262 t263 _ ?side1 ?side2 A9.out).mono ?_); (case side1 => exact uD HO261); (case side2 => exact (Kd.R_reads' HO261.out).2.1); rintro e w16 ⟨rfl, hb⟩; refine ⟨_, rfl, ?_⟩; have n0_ := Aside0.mk (Kd.R_below (uR HO256) hb); have n1_ := Aside0.mk (Kd.R_below (uR HO261) hb); have n2_ := Aside0.mk (below_step (uB HB) hb); clear HO256 HO261 HB; have HO256 := n0_; have HO261 := n1_; have HB := n2_; clear n0_ n1_ n2_; (try clear hb); (try clear hb2); (try clear hk); (try clear hi)))
  (try simp only [Act.put, List.setIfInBounds_toArray, List.set_cons_zero, List.set_cons_succ])
  go_cut [42] (fun v42 wc => ∃ (kq : Nat) (x42_9 : Bool), v42 = .bool x42_9 ∧ Aside0 (laws_FnExactLeastCells.j0 kq l1 t259 x42_9 = some r) ∧ Aside0 (kq ≤ k) ∧ Aside0 (Kd.R Kd.string 9 wc w.heap.size (fun _ => True) (.slice Ao15 t259.length co15) t259) ∧ Aside0 (Below w.heap.size w wc))
  case first =>
   have H := HC10.out
   clear HC10
   by_cases c17 : t262 = t257
   ·
    rw [if_pos c17] at H
    have c17b0 : (t262 == t257) = true := beq_iff_eq.mpr c17
    have c17b1 : (t262 != t257) = false := bne_eq_false_iff_eq.mpr c17
    clear c17
    (first | rw [c17b0] | (simp only [i64_w, i32_w]; rw [c17b0]) | skip)
    have H' := Aside0.mk H
    clear H
    go_wp2
    go_meet
    case rel => exact ⟨_, ((t263 != t258)), (by first | rfl | (simp; done) | (simp [*]; done)), H', ⟨by first | omega | exact Nat.le_refl _⟩, ⟨by (with_reducible repeat (first | apply Kd.R_alloc | apply Kd.R_drewN | apply Kd.R_drew)); exact Kd.R_mono HO261.out (fun _ hk => trivial)⟩, ⟨uB HB⟩⟩
   ·
    rw [if_neg c17] at H
    have c17b0 : (t262 == t257) = false := beq_eq_false_iff_ne.mpr c17
    have c17b1 : (t262 != t257) = true := bne_iff_ne.mpr c17
    (first | rw [c17b0] | (simp only [i64_w, i32_w]; rw [c17b0]) | skip)
    have H' := Aside0.mk H
    clear H
    go_wp2
    go_meet
    case rel => exact ⟨_, (true), (by first | rfl | (simp; done) | (simp [*]; done)), H', ⟨by first | omega | exact Nat.le_refl _⟩, ⟨by (with_reducible repeat (first | apply Kd.R_alloc | apply Kd.R_drewN | apply Kd.R_drew)); exact Kd.R_mono HO261.out (fun _ hk => trivial)⟩, ⟨uB HB⟩⟩
  case rest =>
   clear HC10
   try clear c1
   try clear c2
   try clear p2
   try clear c5
   try clear c5b0
   try clear c10
   try clear c12
   try clear c17
   try clear c17b0
   try clear c17b1
   obtain ⟨kq, x42_9, rfl, HA, HJ9, HO_10, HB⟩ := hcut
   cases kq with
   | zero => exact absurd HA.out (by simp [laws_FnExactLeastCells.j0])
   | succ kj9 =>
    have H := HA.out
    clear HA
    simp only [laws_FnExactLeastCells.j0] at H
    by_cases c18 : x42_9 = true
    ·
     subst c18
     have H1 : (some false) = some r := by rw [if_pos rfl] at H; exact H
     clear H
     have H := H1
     clear H1
     obtain rfl := Option.some.inj H
     go_wp2
     go_ret
     exact ⟨by first | rfl | (simp [errW_none, errW_some] <;> rfl) | (simp [*, errW_none, errW_some] <;> rfl), uB HB⟩
    ·
     replace c18 := Bool.eq_false_iff.mpr c18
     subst c18
     have H1 : ((laws_toStringS.f kj9 l1).bind fun t264 => ((laws_eqStringS.f kj9 t259 t264).bind fun t267 => (if t267 = true then (some true) else (some false)))) = some r := by rw [if_neg (show ¬ (false = true) by decide)] at H; exact H
     clear H
     have H := H1
     clear H1
     replace H := Option.bind_eq_some_iff.mp H
     obtain ⟨t264, A190, H⟩ := H
     replace H : ((laws_eqStringS.f kj9 t259 t264).bind fun t267 => (if t267 = true then (some true) else (some false))) = some r := H
     have A19 := Aside0.mk A190
     clear A190
     replace H := Option.bind_eq_some_iff.mp H
     obtain ⟨t267, A200, H⟩ := H
     replace H : (if t267 = true then (some true) else (some false)) = some r := H
     have A20 := Aside0.mk A200
     clear A200
     by_cases c21 : t267 = true
     ·
      subst c21
      have H1 : (some true) = some r := by rw [if_pos rfl] at H; exact H
      clear H
      have H := H1
      clear H1
      obtain rfl := Option.some.inj H
      go_wp2_with (first | ((with_reducible refine gate_callee (f := 12) rfl ?_); refine goesL_ (some 45) rfl rfl Try.func12 (by kernel_rfl) rfl #[.slice A1 l1.length c1] rfl (by (try simp only [List.map_toArray, List.map_cons, List.map_nil]); first | done | rfl | (simp only [List.length_drop, List.length_take]; rfl)) ?_; (with_reducible refine (laws_toStringS.calls kj9 _ _ l1 t264 _ ?side1 ?side2 A19.out).mono ?_); (case side1 => exact uC HR1 HB); (case side2 => exact HC1.out); rintro e w22 ⟨v265, rfl, ho0, hb⟩; refine ⟨_, rfl, ?_⟩; have n0_ := Aside0.mk (Kd.R_elder' (uR HO_10) (Kd.R_base ho0) hb); have n1_ := Aside0.mk (Kd.R_lower (Kd.R_new' ho0 (Kd.R_lt (uR HO_10))) (below_size (uB HB))); have n2_ := Aside0.mk (below_step (uB HB) hb); clear HO_10 HB; have HO_10 := n0_; have HO266 := n1_; have HB := n2_; clear n0_ n1_ n2_; (try clear hb); (try clear hb2); (try clear hk); (try clear hi); (try clear ho0); obtain ⟨Ao23, co23, eo23⟩ := Kd.R_slice HO266.out; subst eo23) | ((with_reducible refine gate_callee (f := 15) rfl ?_); refine goesL_ (some 46) rfl rfl Try.func15 (by kernel_rfl) rfl #[.slice Ao15 t259.length co15, .slice Ao23 t264.length co23] rfl (by (try simp only [List.map_toArray, List.map_cons, List.map_nil]); first | done | rfl | (simp only [List.length_drop, List.length_take]; rfl)) ?_; (with_reducible refine (laws_eqStringS.calls kj9 _ _ t259 _ _ t264 true _ ?side1 ?side2 ?side3 ?side4 A20.out).mono ?_); (case side1 => exact uD HO_10); (case side2 => exact (Kd.R_reads' HO_10.out).2.1); (case side3 => exact uD HO266); (case side4 => exact (Kd.R_reads' HO266.out).2.1); rintro e w' ⟨rfl, ⟨nd, rfl⟩⟩; refine ⟨_, rfl, ?_⟩))
      go_ret
      exact ⟨by first | rfl | (simp [errW_none, errW_some] <;> rfl) | (simp [*, errW_none, errW_some] <;> rfl), uB HB⟩
     ·
      replace c21 := Bool.eq_false_iff.mpr c21
      subst c21
      have H1 : (some false) = some r := by rw [if_neg (show ¬ (false = true) by decide)] at H; exact H
      clear H
      have H := H1
      clear H1
      obtain rfl := Option.some.inj H
      go_wp2_with (first | ((with_reducible refine gate_callee (f := 12) rfl ?_); refine goesL_ (some 45) rfl rfl Try.func12 (by kernel_rfl) rfl #[.slice A1 l1.length c1] rfl (by (try simp only [List.map_toArray, List.map_cons, List.map_nil]); first | done | rfl | (simp only [List.length_drop, List.length_take]; rfl)) ?_; (with_reducible refine (laws_toStringS.calls kj9 _ _ l1 t264 _ ?side1 ?side2 A19.out).mono ?_); (case side1 => exact uC HR1 HB); (case side2 => exact HC1.out); rintro e w24 ⟨v265, rfl, ho0, hb⟩; refine ⟨_, rfl, ?_⟩; have n0_ := Aside0.mk (Kd.R_elder' (uR HO_10) (Kd.R_base ho0) hb); have n1_ := Aside0.mk (Kd.R_lower (Kd.R_new' ho0 (Kd.R_lt (uR HO_10))) (below_size (uB HB))); have n2_ := Aside0.mk (below_step (uB HB) hb); clear HO_10 HB; have HO_10 := n0_; have HO266 := n1_; have HB := n2_; clear n0_ n1_ n2_; (try clear hb); (try clear hb2); (try clear hk); (try clear hi); (try clear ho0); obtain ⟨Ao25, co25, eo25⟩ := Kd.R_slice HO266.out; subst eo25) | ((with_reducible refine gate_callee (f := 15) rfl ?_); refine goesL_ (some 46) rfl rfl Try.func15 (by kernel_rfl) rfl #[.slice Ao15 t259.length co15, .slice Ao25 t264.length co25] rfl (by (try simp only [List.map_toArray, List.map_cons, List.map_nil]); first | done | rfl | (simp only [List.length_drop, List.length_take]; rfl)) ?_; (with_reducible refine (laws_eqStringS.calls kj9 _ _ t259 _ _ t264 false _ ?side1 ?side2 ?side3 ?side4 A20.out).mono ?_); (case side1 => exact uD HO_10); (case side2 => exact (Kd.R_reads' HO_10.out).2.1); (case side3 => exact uD HO266); (case side4 => exact (Kd.R_reads' HO266.out).2.1); rintro e w' ⟨rfl, ⟨nd, rfl⟩⟩; refine ⟨_, rfl, ?_⟩))
      go_ret
      exact ⟨by first | rfl | (simp [errW_none, errW_some] <;> rfl) | (simp [*, errW_none, errW_some] <;> rfl), uB HB⟩

end Go.Proofs.Ytlkbffkafpaooaa.PFnExactLeastCells
