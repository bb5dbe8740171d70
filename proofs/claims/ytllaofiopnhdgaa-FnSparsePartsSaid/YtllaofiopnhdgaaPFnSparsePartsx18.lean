-- made by wip/tools/myprint.py over the kit's print, for this claim
import Derived.Test.YtllaofiopnhdgaaPFnSparsePartsx0
import Derived.Test.YtllaofiopnhdgaaPFnSparsePartsx1
import Derived.Test.YtllaofiopnhdgaaPFnSparsePartsx6
import Derived.Test.YtllaofiopnhdgaaPFnSparsePartsx12
import Derived.Test.YtllaofiopnhdgaaPFnSparsePartsx16
import Derived.Test.YtllaofiopnhdgaaPFnSparsePartsx17
namespace Go.Proofs.Ytllaofiopnhdgaa.PFnSparseParts
open Go.RowKit Go.Proofs.YtllaofiopnhdgaaW.PrintWords Go.Proofs.YtllaofiopnhdgaaW.PrintLast Go.Proofs.YtllaofiopnhdgaaW.PrintMore
open List (setIfInBounds_toArray set_cons_zero set_cons_succ)
attribute [local go_sem] max2_int min2_int max_two min_two max_three min_three max_four min_four   -- for this text's walks alone
set_option linter.unusedVariables false
set_option linter.unusedSimpArgs false

open List (setIfInBounds_toArray set_cons_zero set_cons_succ)
/-! ### Ff: function 4 -/
mutual
def Ff.j0 : Nat → Int → Int → Bool → Bool → Int → Int → Int → Int → List Int → Int → List Int → Int → Int → Int → Int → List Int → Int → List Int → Option (Bool)
 | 0, _, _, _, _, _, _, _, _, _, _, _, _, _, _, _, _, _, _ => none
 | k + 1, x6, x7, x11, x62, x2, x3, x4, x5, x8, x9, x10, x12, x13, x14, x15, x16, x17, x18 => if x62 = true then (some false) else (if x11 = true then ((FJ.f k x2 x3 x4 x5 x8 x9 x10 0 x6).bind fun bt19 => ((FJ.f k x2 x3 x4 x5 x8 x9 x10 x7 x2).bind fun bt20 => ((FZ.f k bt19.1 bt19.2.1 bt19.2.2.1 bt19.2.2.2.1 bt19.2.2.2.2.1 bt19.2.2.2.2.2.1 bt19.2.2.2.2.2.2.1 bt20.1 bt20.2.1 bt20.2.2.1 bt20.2.2.2.1 bt20.2.2.2.2.1 bt20.2.2.2.2.2.1 bt20.2.2.2.2.2.2.1).bind fun bt21 => ((FZ.f k bt21.1 bt21.2.1 bt21.2.2.1 bt21.2.2.2.1 bt21.2.2.2.2.1 bt21.2.2.2.2.2.1 bt21.2.2.2.2.2.2.1 x12 x13 x14 x15 x16 x17 x18).bind fun bt22 => (if bt19.2.2.2.2.2.2.2 = true then (if bt20.2.2.2.2.2.2.2 = true then (if bt21.2.2.2.2.2.2.2 = true then (if bt22.2.2.2.2.2.2.2 = true then ((FX.f k bt22.1 bt22.2.1 bt22.2.2.1 bt22.2.2.2.1 bt22.2.2.2.2.1 bt22.2.2.2.2.2.1 bt22.2.2.2.2.2.2.1 x2 x3 x4 x5 x8 x9 x10).bind fun t23 => (Ff.j1 k x6 (!t23) x2 x3 x4 x5 x8 x9 x10 x12 x13 x14 x15 x16 x17 x18)) else (Ff.j1 k x6 true x2 x3 x4 x5 x8 x9 x10 x12 x13 x14 x15 x16 x17 x18)) else (Ff.j1 k x6 true x2 x3 x4 x5 x8 x9 x10 x12 x13 x14 x15 x16 x17 x18)) else (Ff.j1 k x6 true x2 x3 x4 x5 x8 x9 x10 x12 x13 x14 x15 x16 x17 x18)) else (Ff.j1 k x6 true x2 x3 x4 x5 x8 x9 x10 x12 x13 x14 x15 x16 x17 x18)))))) else (some true))
def Ff.j1 : Nat → Int → Bool → Int → Int → Int → Int → List Int → Int → List Int → Int → Int → Int → Int → List Int → Int → List Int → Option (Bool)
 | 0, _, _, _, _, _, _, _, _, _, _, _, _, _, _, _, _ => none
 | k + 1, x6, x2, x3, x4, x5, x7, x8, x9, x10, x11, x12, x13, x14, x15, x16, x17 => if x2 = true then (some false) else ((Fba.f k x3 x4 x5 x7 x8 x9 x10 x11 x12 x13 x14 x15 x16 x17).bind fun bt18 => (if bt18.2 = true then (Ff.l0 k x6 bt18.1 bt18.1 (bt18.1.length : Int) 0 x3 x4 x5 x7 x8 x9 x10 x11 x12 x13 x14 x15 x16 x17) else (some false)))
def Ff.l0 : Nat → Int → List Int → List Int → Int → Int → Int → Int → Int → Int → List Int → Int → List Int → Int → Int → Int → Int → List Int → Int → List Int → Option (Bool)
 | 0, _, _, _, _, _, _, _, _, _, _, _, _, _, _, _, _, _, _, _ => none
 | k + 1, x6, x20, x2, x3, x4, x5, x7, x8, x9, x10, x11, x12, x13, x14, x15, x16, x17, x18, x19 => if x4 < x3 then (if 0 ≤ x4 then (if x4 < (x2.length : Int) then ((FW.f k x13 x14 x15 x16 x17 x18 x19 (rd x2 x4)).bind fun bt21 => (if bt21.2 = true then (if bt21.1 = true then (Ff.l0 k x6 x20 x2 x3 (wrap64 (x4 + 1)) x5 x7 x8 x9 x10 x11 x12 x13 x14 x15 x16 x17 x18 x19) else (some false)) else (some false))) else (none)) else (none)) else (Ff.l1 k x6 x20 0 x5 x7 x8 x9 x10 x11 x12 x13 x14 x15 x16 x17 x18 x19)
def Ff.l1 : Nat → Int → List Int → Int → Int → Int → Int → Int → List Int → Int → List Int → Int → Int → Int → Int → List Int → Int → List Int → Option (Bool)
 | 0, _, _, _, _, _, _, _, _, _, _, _, _, _, _, _, _, _ => none
 | k + 1, x6, x20, x26, x2, x3, x4, x5, x7, x8, x9, x10, x11, x12, x13, x14, x15, x16 => if x26 < x10 then ((FM.f k x10 x11 x12 x13 x14 x15 x16 x26).bind fun bt17 => ((FM.f k x2 x3 x4 x5 x7 x8 x9 (wrap64 (x6 + x26))).bind fun bt18 => (if bt17.2 = true then (if bt18.2 = true then (if bt17.1 = bt18.1 then ((FF.f k x20 bt17.1).bind fun t19 => (if t19 = true then (Ff.l1 k x6 x20 (wrap64 (x26 + 1)) x2 x3 x4 x5 x7 x8 x9 x10 x11 x12 x13 x14 x15 x16) else (some false))) else (some false)) else (some false)) else (some false)))) else (some true)
end
def Ff.f (k : Nat) (l0 : List Int) (l1 : List Int) : Option (Bool) := (Fra.f l0 l1).bind fun t2 => (if t2 = true then (some true) else ((FL.f k l0).bind fun bt3 => ((FJ.f k bt3.1 bt3.2.1 bt3.2.2.1 bt3.2.2.2.1 bt3.2.2.2.2.1 bt3.2.2.2.2.2.1 bt3.2.2.2.2.2.2.1 bt3.2.2.2.2.2.2.2.1 bt3.2.2.2.2.2.2.2.2).bind fun bt4 => ((Fo.f k bt3.1 bt3.2.1 bt3.2.2.1 bt3.2.2.2.1 bt3.2.2.2.2.1 bt3.2.2.2.2.2.1 bt3.2.2.2.2.2.2.1 bt3.2.2.2.2.2.2.2.1 bt3.2.2.2.2.2.2.2.2).bind fun bt5 => (if (bt4.2.2.2.2.2.2.2 != bt5.2.2.2.2.2.2.2) = true then (Ff.j0 k bt3.2.2.2.2.2.2.2.1 bt3.2.2.2.2.2.2.2.2 bt5.2.2.2.2.2.2.2 true bt3.1 bt3.2.1 bt3.2.2.1 bt3.2.2.2.1 bt3.2.2.2.2.1 bt3.2.2.2.2.2.1 bt3.2.2.2.2.2.2.1 bt4.1 bt4.2.1 bt4.2.2.1 bt4.2.2.2.1 bt4.2.2.2.2.1 bt4.2.2.2.2.2.1 bt4.2.2.2.2.2.2.1) else ((FX.f k bt4.1 bt4.2.1 bt4.2.2.1 bt4.2.2.2.1 bt4.2.2.2.2.1 bt4.2.2.2.2.2.1 bt4.2.2.2.2.2.2.1 bt5.1 bt5.2.1 bt5.2.2.1 bt5.2.2.2.1 bt5.2.2.2.2.1 bt5.2.2.2.2.2.1 bt5.2.2.2.2.2.2.1).bind fun t6 => (Ff.j0 k bt3.2.2.2.2.2.2.2.1 bt3.2.2.2.2.2.2.2.2 bt5.2.2.2.2.2.2.2 (!t6) bt3.1 bt3.2.1 bt3.2.2.1 bt3.2.2.2.1 bt3.2.2.2.2.1 bt3.2.2.2.2.2.1 bt3.2.2.2.2.2.2.1 bt4.1 bt4.2.1 bt4.2.2.1 bt4.2.2.2.1 bt4.2.2.2.2.1 bt4.2.2.2.2.2.1 bt4.2.2.2.2.2.2.1)))))))
theorem Ff.mono_l : ∀ k, (∀ y0 y1 y2 y3 y4 y5 y6 y7 y8 y9 y10 y11 y12 y13 y14 y15 y16 y17, LeO (Ff.j0 k y0 y1 y2 y3 y4 y5 y6 y7 y8 y9 y10 y11 y12 y13 y14 y15 y16 y17) (Ff.j0 (k + 1) y0 y1 y2 y3 y4 y5 y6 y7 y8 y9 y10 y11 y12 y13 y14 y15 y16 y17)) ∧ (∀ y0 y1 y2 y3 y4 y5 y6 y7 y8 y9 y10 y11 y12 y13 y14 y15, LeO (Ff.j1 k y0 y1 y2 y3 y4 y5 y6 y7 y8 y9 y10 y11 y12 y13 y14 y15) (Ff.j1 (k + 1) y0 y1 y2 y3 y4 y5 y6 y7 y8 y9 y10 y11 y12 y13 y14 y15)) ∧ (∀ y0 y1 y2 y3 y4 y5 y6 y7 y8 y9 y10 y11 y12 y13 y14 y15 y16 y17 y18, LeO (Ff.l0 k y0 y1 y2 y3 y4 y5 y6 y7 y8 y9 y10 y11 y12 y13 y14 y15 y16 y17 y18) (Ff.l0 (k + 1) y0 y1 y2 y3 y4 y5 y6 y7 y8 y9 y10 y11 y12 y13 y14 y15 y16 y17 y18)) ∧ (∀ y0 y1 y2 y3 y4 y5 y6 y7 y8 y9 y10 y11 y12 y13 y14 y15 y16, LeO (Ff.l1 k y0 y1 y2 y3 y4 y5 y6 y7 y8 y9 y10 y11 y12 y13 y14 y15 y16) (Ff.l1 (k + 1) y0 y1 y2 y3 y4 y5 y6 y7 y8 y9 y10 y11 y12 y13 y14 y15 y16))
 | 0 => ⟨fun _ _ _ _ _ _ _ _ _ _ _ _ _ _ _ _ _ _ r h => by simp [Ff.j0] at h, fun _ _ _ _ _ _ _ _ _ _ _ _ _ _ _ _ r h => by simp [Ff.j1] at h, fun _ _ _ _ _ _ _ _ _ _ _ _ _ _ _ _ _ _ _ r h => by simp [Ff.l0] at h, fun _ _ _ _ _ _ _ _ _ _ _ _ _ _ _ _ _ r h => by simp [Ff.l1] at h⟩ | k + 1 => by
  obtain ⟨ih0, ih1, ih2, ih3⟩ := Ff.mono_l k
  refine ⟨?_, ?_, ?_, ?_⟩
  ·
   intro y0 y1 y2 y3 y4 y5 y6 y7 y8 y9 y10 y11 y12 y13 y14 y15 y16 y17
   unfold Ff.j0
   exact Mo14
  ·
   intro y0 y1 y2 y3 y4 y5 y6 y7 y8 y9 y10 y11 y12 y13 y14 y15
   unfold Ff.j1
   exact Mo14
  ·
   intro y0 y1 y2 y3 y4 y5 y6 y7 y8 y9 y10 y11 y12 y13 y14 y15 y16 y17 y18
   unfold Ff.l0
   exact Mo14
  intro y0 y1 y2 y3 y4 y5 y6 y7 y8 y9 y10 y11 y12 y13 y14 y15 y16
  unfold Ff.l1
  exact Mo14
theorem Ff.mono : ∀ a0 a1 k, LeO (Ff.f k a0 a1) (Ff.f (k + 1) a0 a1) := by
 intro a0 a1 k
 obtain ⟨ih0, ih1, ih2, ih3⟩ := Ff.mono_l k
 unfold Ff.f
 exact Mo14
set_option maxHeartbeats 8000000 in
set_option maxRecDepth 100000 in
theorem Ff.calls (k : Nat) (A0 : Option Addr) (c0 : Nat) (l0 : List Int) (A1 : Option Addr) (c1 : Nat) (l1 : List Int) (r : Bool) (w : World) (hr0 : Kd.C (Kd.int .u8) w A0 l0.length l0) (hc0 : l0.length ≤ c0) (hr1 : Kd.C (Kd.int .u8) w A1 l1.length l1) (hc1 : l1.length ≤ c1) (h : Ff.f k l0 l1 = some r) :
  Calls Try.prog 4 #[.slice A0 l0.length c0, .slice A1 l1.length c1] w fun e w' => e = .returned (.bool r) ∧ Below w.heap.size w w' := by
 have hu28 := Try.underlying28
 have HR0 := am hr0
 have HC0 := am hc0
 clear hr0 hc0
 have HR1 := am hr1
 have HC1 := am hc1
 clear hr1 hc1
 have HB := am (Below.refl w.heap.size w)
 have H : ((Fra.f l0 l1).bind fun t259 => (if t259 = true then (some true) else ((FL.f k l0).bind fun bt260 => ((FJ.f k bt260.1 bt260.2.1 bt260.2.2.1 bt260.2.2.2.1 bt260.2.2.2.2.1 bt260.2.2.2.2.2.1 bt260.2.2.2.2.2.2.1 bt260.2.2.2.2.2.2.2.1 bt260.2.2.2.2.2.2.2.2).bind fun bt261 => ((Fo.f k bt260.1 bt260.2.1 bt260.2.2.1 bt260.2.2.2.1 bt260.2.2.2.2.1 bt260.2.2.2.2.2.1 bt260.2.2.2.2.2.2.1 bt260.2.2.2.2.2.2.2.1 bt260.2.2.2.2.2.2.2.2).bind fun bt262 => (if (bt261.2.2.2.2.2.2.2 != bt262.2.2.2.2.2.2.2) = true then (Ff.j0 k bt260.2.2.2.2.2.2.2.1 bt260.2.2.2.2.2.2.2.2 bt262.2.2.2.2.2.2.2 true bt260.1 bt260.2.1 bt260.2.2.1 bt260.2.2.2.1 bt260.2.2.2.2.1 bt260.2.2.2.2.2.1 bt260.2.2.2.2.2.2.1 bt261.1 bt261.2.1 bt261.2.2.1 bt261.2.2.2.1 bt261.2.2.2.2.1 bt261.2.2.2.2.2.1 bt261.2.2.2.2.2.2.1) else ((FX.f k bt261.1 bt261.2.1 bt261.2.2.1 bt261.2.2.2.1 bt261.2.2.2.2.1 bt261.2.2.2.2.2.1 bt261.2.2.2.2.2.2.1 bt262.1 bt262.2.1 bt262.2.2.1 bt262.2.2.2.1 bt262.2.2.2.2.1 bt262.2.2.2.2.2.1 bt262.2.2.2.2.2.2.1).bind fun t263 => (Ff.j0 k bt260.2.2.2.2.2.2.2.1 bt260.2.2.2.2.2.2.2.2 bt262.2.2.2.2.2.2.2 (!t263) bt260.1 bt260.2.1 bt260.2.2.1 bt260.2.2.2.1 bt260.2.2.2.2.1 bt260.2.2.2.2.2.1 bt260.2.2.2.2.2.2.1 bt261.1 bt261.2.1 bt261.2.2.1 bt261.2.2.2.1 bt261.2.2.2.2.1 bt261.2.2.2.2.2.1 bt261.2.2.2.2.2.2.1)))))))) = some r := h
 clear h
 replace H := Option.bind_eq_some_iff.mp H
 obtain ⟨t259, A30, H⟩ := H
 try dsimp only at H
 have A3 := am A30
 clear A30
 by_cases c4 : t259 = true
 ·
  subst c4
  rw [if_pos rfl] at H
  obtain rfl := Option.some.inj H
  go_enter Try.func4, Try.ntmps4
  go_wp2_with (first | ((with_reducible refine gate_callee (f := 5) rfl ?_); refine gL 33 rfl Try.func5 #[.slice A0 l0.length c0, .slice A1 l1.length c1] ?_; (with_reducible refine (Fra.calls _ _ l0 _ _ l1 true _ ?side1 ?side2 ?side3 ?side4 A3.out).mono ?_); (case side1 => exact Z68); (case side2 => exact HC0.out); (case side3 => exact Z78); (case side4 => exact HC1.out); rintro e w' ⟨rfl, ⟨nd, rfl⟩⟩; refine ⟨_, rfl, ?_⟩))
  go_ret
  exact ⟨Z109, uN HB⟩
 replace c4 := Bool.eq_false_iff.mpr c4
 subst c4
 rw [if_neg (show ¬ (false = true) from Z16)] at H
 replace H := Option.bind_eq_some_iff.mp H
 obtain ⟨⟨t260, t264, t265, t266, t267, t268, t269, t270, t271⟩, A50, H⟩ := H
 try dsimp only at H
 have A5 := am A50
 clear A50
 replace H := Option.bind_eq_some_iff.mp H
 obtain ⟨⟨t261, t272, t273, t274, t275, t276, t277, t278⟩, A60, H⟩ := H
 try dsimp only at H
 have A6 := am A60
 clear A60
 replace H := Option.bind_eq_some_iff.mp H
 obtain ⟨⟨t262, t279, t280, t281, t282, t283, t284, t285⟩, A70, H⟩ := H
 try dsimp only at H
 have A7 := am A70
 clear A70
 have HC8 := am H
 clear H
 go_enter Try.func4, Try.ntmps4
 go_upto_region 6 with (first | ((with_reducible refine gate_callee (f := 5) rfl ?_); refine gL 33 rfl Try.func5 #[.slice A0 l0.length c0, .slice A1 l1.length c1] ?_; (with_reducible refine (Fra.calls _ _ l0 _ _ l1 false _ ?side1 ?side2 ?side3 ?side4 A3.out).mono ?_); (case side1 => exact Z68); (case side2 => exact HC0.out); (case side3 => exact Z78); (case side4 => exact HC1.out); rintro e w' ⟨rfl, ⟨nd, rfl⟩⟩; refine ⟨_, rfl, ?_⟩) | ((with_reducible refine gate_callee (f := 12) rfl ?_); refine gL 36 rfl Try.func12 #[.slice A0 l0.length c0] ?_; (with_reducible refine (FL.calls k _ _ l0 t260 t264 t265 t266 t267 t268 t269 t270 t271 _ ?side1 ?side2 A5.out).mono ?_); (case side1 => exact Z68); (case side2 => exact HC0.out); rintro e w9 ⟨v286, v287, rfl, ho0, ho1, hb⟩; refine ⟨_, rfl, ?_⟩; have HO288 := am (Kd.R_lower ho0 (below_size (uN HB))); have HO289 := am (Kd.R_lower ho1 (below_size (uN HB))); replace HB := am (below_step (uN HB) hb); (try clear hb); (try clear hb2); (try clear hk); (try clear hi); (try clear ho0); (try clear ho1)) | ((with_reducible refine gate_dst (N := 5) rfl ?_); refine box_event ?hg (N := 5) ?hd (cs := #[.int .i64 0, .int .i64 0, .int .i64 0, .int .i64 0, .slice none 0 0, .int .i64 0, .slice none 0 0]) (t := 28) ?hr ?_; (case hd => rfl); (case hg => rfl); (case hr => exact Z111); intro gb291 hg w10 hbox hb; replace HO288 := rB HO288 hb; replace HO289 := rB HO289 hb; have BK291 := am (hbox); have GW291 := nG HB hg; have GE291 := nG HB hg; have GI291 := gI GE291; have GI291 := gI GE291; replace HB := am (below_step (uN HB) hb); clear hb hbox hg; obtain ⟨hcz11_0, hcz11_1, hcz11_2, hcz11_3, hcz11_4, hcz11_5, hcz11_6, hfz11_0, hfz11_1, hfz11_2, hfz11_3, hfz11_4, hfz11_5, hfz11_6⟩ := ce7 BK291; obtain ⟨Ao12, co12, eo12⟩ := Kd.R_slice HO288.out; subst eo12; obtain ⟨Ao13, co13, eo13⟩ := Kd.R_slice HO289.out; subst eo13) | ((with_reducible refine gate_callee (f := 13) rfl ?_); refine gL 44 rfl Try.func13 #[.agg #[.int .i64 t260, .int .i64 t264, .int .i64 t265, .int .i64 t266, .slice Ao12 t267.length co12, .int .i64 t268, .slice Ao13 t269.length co13], .int .i64 t270, .int .i64 t271] ?_; (with_reducible refine (FJ.calls k t260 t264 t265 t266 _ _ t267 t268 _ _ t269 t270 t271 t261 t272 t273 t274 t275 t276 t277 t278 _ ?side1 ?side2 ?side3 ?side4 A6.out).mono ?_); (case side1 => refine (Kd.R_reads' (e := 3) (base := w.heap.size) (ok := fun k_ => some k_ ≠ (.slice Ao13 t269.length co13 : Value).ownBlock) (n := t267.length) (c := co12) ?_).2.2; exact (fS HO288 BK291 Z16)); (case side2 => exact (Kd.R_reads' HO288.out).2.1); (case side3 => refine (Kd.R_reads' (e := 3) (base := w.heap.size) (ok := fun k_ => some k_ ≠ (.slice Ao12 t267.length co12 : Value).ownBlock) (n := t269.length) (c := co13) ?_).2.2; exact (fS HO289 BK291 Z16)); (case side4 => exact (Kd.R_reads' HO289.out).2.1); rintro e w14 ⟨v292, v293, rfl, ho0, ho1, hb⟩; refine ⟨_, rfl, ?_⟩; have HO294 := am (Kd.R_lower (Kd.R_new' (Kd.R_new' ho0 (Kd.R_lt (fS HO288 BK291 Z16))) (Kd.R_lt (fS HO289 BK291 Z16))) (below_size (uN HB))); have HO295 := am (Kd.R_lower (Kd.R_new' (Kd.R_new' ho1 (Kd.R_lt (fS HO288 BK291 Z16))) (Kd.R_lt (fS HO289 BK291 Z16))) (below_size (uN HB))); replace HO288 := am (Kd.R_mono (Kd.R_told (Kd.R_told (Kd.R_old (fS HO288 BK291 Z16) hb) (Kd.R_base ho0)) (Kd.R_base ho1)) (fun _ h_ => h_.1)); replace HO289 := am (Kd.R_mono (Kd.R_told (Kd.R_told (Kd.R_old (fS HO289 BK291 Z16) hb) (Kd.R_base ho0)) (Kd.R_base ho1)) (fun _ h_ => h_.1)); replace BK291 := am (blk_below (g := gb291) (o := .cells #[.int .i64 t260, .int .i64 t264, .int .i64 t265, .int .i64 t266, .slice Ao12 t267.length co12, .int .i64 t268, .slice Ao13 t269.length co13] 28 (0, 0)) (pT (pp 6 (pp 5 (pp 4 (pp 3 (pp 2 (pp 1 (pp 0 (pb BK291))))))))) hb); replace HB := am (below_step (uN HB) hb); (try clear hb); (try clear hb2); (try clear hk); (try clear hi); (try clear ho0); (try clear ho1)) | ((with_reducible refine gate_dst (N := 8) rfl ?_); refine box_event ?hg (N := 8) ?hd (cs := #[.int .i64 0, .int .i64 0, .int .i64 0, .int .i64 0, .slice none 0 0, .int .i64 0, .slice none 0 0]) (t := 28) ?hr ?_; (case hd => rfl); (case hg => rfl); (case hr => exact Z111); intro gb296 hg w15 hbox hb; replace HO288 := rB HO288 hb; replace HO289 := rB HO289 hb; replace HO294 := rB HO294 hb; replace HO295 := rB HO295 hb; have BK296 := am (hbox); have GW296 := nG HB hg; have GE296 := nG HB hg; have GI296 := gI GE296; have GI296 := gI GE296; replace HB := am (below_step (uN HB) hb); have NB291_296 := nL BK291 hg; have NB296_291 := nR BK291 hg; replace BK291 := kB BK291 hb; clear hb hbox hg; have hnb16 := NB296_291.out; have hnc16 := NB291_296.out; obtain ⟨hcz17_0, hcz17_1, hcz17_2, hcz17_3, hcz17_4, hcz17_5, hcz17_6, hfz17_0, hfz17_1, hfz17_2, hfz17_3, hfz17_4, hfz17_5, hfz17_6⟩ := ce7 BK296; obtain ⟨Ao18, co18, eo18⟩ := Kd.R_slice HO294.out; subst eo18; obtain ⟨Ao19, co19, eo19⟩ := Kd.R_slice HO295.out; subst eo19; obtain ⟨hcz20_0, hcz20_1, hcz20_2, hcz20_3, hcz20_4, hcz20_5, hcz20_6, hfz20_0, hfz20_1, hfz20_2, hfz20_3, hfz20_4, hfz20_5, hfz20_6⟩ := ce7 BK291) | ((with_reducible refine gate_callee (f := 14) rfl ?_); refine gL 51 rfl Try.func14 #[.agg #[.int .i64 t260, .int .i64 t264, .int .i64 t265, .int .i64 t266, .slice Ao12 t267.length co12, .int .i64 t268, .slice Ao13 t269.length co13], .int .i64 t270, .int .i64 t271] ?_; (with_reducible refine (Fo.calls k t260 t264 t265 t266 _ _ t267 t268 _ _ t269 t270 t271 t262 t279 t280 t281 t282 t283 t284 t285 _ ?side1 ?side2 ?side3 ?side4 A7.out).mono ?_); (case side1 => refine (Kd.R_reads' (e := 3) (base := w.heap.size) (ok := fun k_ => ((some k_ ≠ (.slice Ao13 t269.length co13 : Value).ownBlock ∧ some k_ ≠ (.slice Ao18 t275.length co18 : Value).ownBlock) ∧ some k_ ≠ (.slice Ao19 t277.length co19 : Value).ownBlock)) (n := t267.length) (c := co12) ?_).2.2; exact (fS HO288 BK296 Z16)); (case side2 => exact (Kd.R_reads' HO288.out).2.1); (case side3 => refine (Kd.R_reads' (e := 3) (base := w.heap.size) (ok := fun k_ => ((some k_ ≠ (.slice Ao12 t267.length co12 : Value).ownBlock ∧ some k_ ≠ (.slice Ao18 t275.length co18 : Value).ownBlock) ∧ some k_ ≠ (.slice Ao19 t277.length co19 : Value).ownBlock)) (n := t269.length) (c := co13) ?_).2.2; exact (fS HO289 BK296 Z16)); (case side4 => exact (Kd.R_reads' HO289.out).2.1); rintro e w21 ⟨v297, v298, rfl, ho0, ho1, hb⟩; refine ⟨_, rfl, ?_⟩; have HO299 := am (Kd.R_lower (Kd.R_new' (Kd.R_new' (Kd.R_new' (Kd.R_new' ho0 (Kd.R_lt (fS HO288 BK296 Z16))) (Kd.R_lt (fS HO289 BK296 Z16))) (Kd.R_lt (fS HO294 BK296 Z16))) (Kd.R_lt (fS HO295 BK296 Z16))) (below_size (uN HB))); have HO300 := am (Kd.R_lower (Kd.R_new' (Kd.R_new' (Kd.R_new' (Kd.R_new' ho1 (Kd.R_lt (fS HO288 BK296 Z16))) (Kd.R_lt (fS HO289 BK296 Z16))) (Kd.R_lt (fS HO294 BK296 Z16))) (Kd.R_lt (fS HO295 BK296 Z16))) (below_size (uN HB))); replace HO288 := am (Kd.R_mono (Kd.R_told (Kd.R_told (Kd.R_old (fS HO288 BK296 Z16) hb) (Kd.R_base ho0)) (Kd.R_base ho1)) (fun _ h_ => h_.1)); replace HO289 := am (Kd.R_mono (Kd.R_told (Kd.R_told (Kd.R_old (fS HO289 BK296 Z16) hb) (Kd.R_base ho0)) (Kd.R_base ho1)) (fun _ h_ => h_.1)); replace HO294 := am (Kd.R_mono (Kd.R_told (Kd.R_told (Kd.R_old (fS HO294 BK296 Z16) hb) (Kd.R_base ho0)) (Kd.R_base ho1)) (fun _ h_ => h_.1)); replace HO295 := am (Kd.R_mono (Kd.R_told (Kd.R_told (Kd.R_old (fS HO295 BK296 Z16) hb) (Kd.R_base ho0)) (Kd.R_base ho1)) (fun _ h_ => h_.1)); replace BK291 := am (blk_below (g := gb291) (o := .cells #[.int .i64 t260, .int .i64 t264, .int .i64 t265, .int .i64 t266, .slice Ao12 t267.length co12, .int .i64 t268, .slice Ao13 t269.length co13] 28 (0, 0)) (pf NB291_296 (pf NB291_296 (pf NB291_296 (pf NB291_296 (pf NB291_296 (pf NB291_296 (pf NB291_296 (pb BK291)))))))) hb); replace BK296 := am (blk_below (g := gb296) (o := .cells #[.int .i64 t261, .int .i64 t272, .int .i64 t273, .int .i64 t274, .slice Ao18 t275.length co18, .int .i64 t276, .slice Ao19 t277.length co19] 28 (0, 0)) (pT (pp 6 (pp 5 (pp 4 (pp 3 (pp 2 (pp 1 (pp 0 (pb BK296))))))))) hb); replace HB := am (below_step (uN HB) hb); (try clear hb); (try clear hb2); (try clear hk); (try clear hi); (try clear ho0); (try clear ho1)) | ((with_reducible refine gate_dst (N := 10) rfl ?_); refine box_event ?hg (N := 10) ?hd (cs := #[.int .i64 0, .int .i64 0, .int .i64 0, .int .i64 0, .slice none 0 0, .int .i64 0, .slice none 0 0]) (t := 28) ?hr ?_; (case hd => rfl); (case hg => rfl); (case hr => exact Z111); intro gb301 hg w22 hbox hb; replace HO288 := rB HO288 hb; replace HO289 := rB HO289 hb; replace HO294 := rB HO294 hb; replace HO295 := rB HO295 hb; replace HO299 := rB HO299 hb; replace HO300 := rB HO300 hb; have BK301 := am (hbox); have GW301 := nG HB hg; have GE301 := nG HB hg; have GI301 := gI GE301; have GI301 := gI GE301; replace HB := am (below_step (uN HB) hb); have NB291_301 := nL BK291 hg; have NB301_291 := nR BK291 hg; replace BK291 := kB BK291 hb; have NB296_301 := nL BK296 hg; have NB301_296 := nR BK296 hg; replace BK296 := kB BK296 hb; clear hb hbox hg; have hnb23 := NB301_291.out; have hnc23 := NB291_301.out; have hnb24 := NB301_296.out; have hnc24 := NB296_301.out; obtain ⟨hcz25_0, hcz25_1, hcz25_2, hcz25_3, hcz25_4, hcz25_5, hcz25_6, hfz25_0, hfz25_1, hfz25_2, hfz25_3, hfz25_4, hfz25_5, hfz25_6⟩ := ce7 BK301; obtain ⟨Ao26, co26, eo26⟩ := Kd.R_slice HO299.out; subst eo26; obtain ⟨Ao27, co27, eo27⟩ := Kd.R_slice HO300.out; subst eo27))
 (try simp only [Act.put, setIfInBounds_toArray, set_cons_zero, set_cons_succ])
 go_cut [62] (fun v62 wc => ∃ (kq : Nat) (x62_7 : Bool), v62 = .bool x62_7 ∧ Aside0 (Ff.j0 kq t270 t271 t285 x62_7 t260 t264 t265 t266 t267 t268 t269 t261 t272 t273 t274 t275 t276 t277 = some r) ∧ Aside0 (kq ≤ k) ∧ Aside0 (Kd.R (Kd.int .i64) 3 wc w.heap.size (fun k_ => nb k_ Ao13 t269.length co13 ∧ nb k_ Ao18 t275.length co18 ∧ nb k_ Ao19 t277.length co19 ∧ nb k_ Ao26 t282.length co26 ∧ some k_ ≠ ((.slice Ao27 t284.length co27) : Value).ownBlock) (.slice Ao12 t267.length co12) t267) ∧ Aside0 (Kd.R (Kd.int .i64) 3 wc w.heap.size (fun k_ => nb k_ Ao12 t267.length co12 ∧ nb k_ Ao18 t275.length co18 ∧ nb k_ Ao19 t277.length co19 ∧ nb k_ Ao26 t282.length co26 ∧ some k_ ≠ ((.slice Ao27 t284.length co27) : Value).ownBlock) (.slice Ao13 t269.length co13) t269) ∧ Aside0 (Kd.R (Kd.int .i64) 3 wc w.heap.size (fun k_ => nb k_ Ao12 t267.length co12 ∧ nb k_ Ao13 t269.length co13 ∧ nb k_ Ao19 t277.length co19 ∧ nb k_ Ao26 t282.length co26 ∧ some k_ ≠ ((.slice Ao27 t284.length co27) : Value).ownBlock) (.slice Ao18 t275.length co18) t275) ∧ Aside0 (Kd.R (Kd.int .i64) 3 wc w.heap.size (fun k_ => nb k_ Ao12 t267.length co12 ∧ nb k_ Ao13 t269.length co13 ∧ nb k_ Ao18 t275.length co18 ∧ nb k_ Ao26 t282.length co26 ∧ some k_ ≠ ((.slice Ao27 t284.length co27) : Value).ownBlock) (.slice Ao19 t277.length co19) t277) ∧ Aside0 (Kd.R (Kd.int .i64) 3 wc w.heap.size (fun k_ => nb k_ Ao12 t267.length co12 ∧ nb k_ Ao13 t269.length co13 ∧ nb k_ Ao18 t275.length co18 ∧ nb k_ Ao19 t277.length co19 ∧ some k_ ≠ ((.slice Ao27 t284.length co27) : Value).ownBlock) (.slice Ao26 t282.length co26) t282) ∧ Aside0 (Kd.R (Kd.int .i64) 3 wc w.heap.size (fun k_ => nb k_ Ao12 t267.length co12 ∧ nb k_ Ao13 t269.length co13 ∧ nb k_ Ao18 t275.length co18 ∧ nb k_ Ao19 t277.length co19 ∧ some k_ ≠ ((.slice Ao26 t282.length co26) : Value).ownBlock) (.slice Ao27 t284.length co27) t284) ∧ Aside0 (wc.heap[gb291]? = some (.cells #[.int .i64 t260, .int .i64 t264, .int .i64 t265, .int .i64 t266, (.slice Ao12 t267.length co12), .int .i64 t268, (.slice Ao13 t269.length co13)] 28 (0, 0))) ∧ Aside0 (wc.heap[gb296]? = some (.cells #[.int .i64 t261, .int .i64 t272, .int .i64 t273, .int .i64 t274, (.slice Ao18 t275.length co18), .int .i64 t276, (.slice Ao19 t277.length co19)] 28 (0, 0))) ∧ Aside0 (wc.heap[gb301]? = some (.cells #[.int .i64 t262, .int .i64 t279, .int .i64 t280, .int .i64 t281, (.slice Ao26 t282.length co26), .int .i64 t283, (.slice Ao27 t284.length co27)] 28 (0, 0))) ∧ Aside0 (Below w.heap.size w wc))
 case first =>
  have H := HC8.out
  clear HC8
  by_cases c28 : (t278 != t285) = true
  ·
   rw [if_pos c28] at H
   have c28b0 : (t278 != t285) = true := c28
   (try (have c28b1 : decide (t278 = t285) = false := by simpa using c28))
   (try (have c28b2 : (t278 == t285) = false := by simpa using c28))
   (try (have c28b3 : ¬ (t278 = t285) := by simpa using c28))
   clear c28
   (first | rw [c28b0] | (simp only [i64_w, i32_w]; rw [c28b0]) | skip)
   have H' := am H
   clear H
   go_wp2
   go_meet
   case rel => exact ⟨_, (true), Z110, H', ⟨Z129⟩, ⟨by (with_reducible repeat (first | apply Kd.R_alloc | apply Kd.R_drewN | apply Kd.R_drew)); exact Kd.R_mono (fT HO288 BK301 Z16) (fun _ hk => ⟨hk.1.1.1.1.1, ⟨hk.1.1.1.1.2, ⟨hk.1.1.1.2, ⟨hk.1.1.2, hk.1.2⟩⟩⟩⟩)⟩, ⟨by (with_reducible repeat (first | apply Kd.R_alloc | apply Kd.R_drewN | apply Kd.R_drew)); exact Kd.R_mono (fT HO289 BK301 Z16) (fun _ hk => ⟨hk.1.1.1.1.1, ⟨hk.1.1.1.1.2, ⟨hk.1.1.1.2, ⟨hk.1.1.2, hk.1.2⟩⟩⟩⟩)⟩, ⟨by (with_reducible repeat (first | apply Kd.R_alloc | apply Kd.R_drewN | apply Kd.R_drew)); exact Kd.R_mono (fT HO294 BK301 Z16) (fun _ hk => ⟨hk.1.1.1.1.2, ⟨hk.1.1.1.2, ⟨hk.1.1.1.1.1, ⟨hk.1.1.2, hk.1.2⟩⟩⟩⟩)⟩, ⟨by (with_reducible repeat (first | apply Kd.R_alloc | apply Kd.R_drewN | apply Kd.R_drew)); exact Kd.R_mono (fT HO295 BK301 Z16) (fun _ hk => ⟨hk.1.1.1.1.2, ⟨hk.1.1.1.2, ⟨hk.1.1.1.1.1, ⟨hk.1.1.2, hk.1.2⟩⟩⟩⟩)⟩, ⟨by (with_reducible repeat (first | apply Kd.R_alloc | apply Kd.R_drewN | apply Kd.R_drew)); exact Kd.R_mono (fT HO299 BK301 Z16) (fun _ hk => ⟨hk.1.1.1.1.2, ⟨hk.1.1.1.2, ⟨hk.1.1.2, ⟨hk.1.2, hk.1.1.1.1.1⟩⟩⟩⟩)⟩, ⟨by (with_reducible repeat (first | apply Kd.R_alloc | apply Kd.R_drewN | apply Kd.R_drew)); exact Kd.R_mono (fT HO300 BK301 Z16) (fun _ hk => ⟨hk.1.1.1.1.2, ⟨hk.1.1.1.2, ⟨hk.1.1.2, ⟨hk.1.2, hk.1.1.1.1.1⟩⟩⟩⟩)⟩, ⟨pf NB291_301 (pf NB291_301 (pf NB291_301 (pf NB291_301 (pf NB291_301 (pf NB291_301 (pf NB291_301 (pb BK291)))))))⟩, ⟨pf NB296_301 (pf NB296_301 (pf NB296_301 (pf NB296_301 (pf NB296_301 (pf NB296_301 (pf NB296_301 (pb BK296)))))))⟩, ⟨pT (pp 6 (pp 5 (pp 4 (pp 3 (pp 2 (pp 1 (pp 0 (pb BK301))))))))⟩, ⟨uN HB⟩⟩
  rw [if_neg c28] at H
  have c28b0 : (t278 != t285) = false := by simpa using c28
  (try (have c28b1 : decide (t278 = t285) = true := by simpa using c28))
  (try (have c28b2 : (t278 == t285) = true := by simpa using c28))
  clear c28
  (first | rw [c28b0] | (simp only [i64_w, i32_w]; rw [c28b0]) | skip)
  replace H := Option.bind_eq_some_iff.mp H
  obtain ⟨t263, A302, H⟩ := H
  try dsimp only at H
  have A29 := am A302
  clear A302
  have H' := am H
  clear H
  have hnb30 := NB296_291.out
  have hnc30 := NB291_296.out
  have hnb31 := NB296_301.out
  have hnc31 := NB301_296.out
  obtain ⟨hcz32_0, hcz32_1, hcz32_2, hcz32_3, hcz32_4, hcz32_5, hcz32_6, hfz32_0, hfz32_1, hfz32_2, hfz32_3, hfz32_4, hfz32_5, hfz32_6⟩ := ce7 BK296
  have hnb33 := NB301_291.out
  have hnc33 := NB291_301.out
  obtain ⟨hcz34_0, hcz34_1, hcz34_2, hcz34_3, hcz34_4, hcz34_5, hcz34_6, hfz34_0, hfz34_1, hfz34_2, hfz34_3, hfz34_4, hfz34_5, hfz34_6⟩ := ce7 BK301
  go_wp2_with (first | (go_at_call 15; (with_reducible refine (FX.calls k t261 t272 t273 t274 _ _ t275 t276 _ _ t277 t262 t279 t280 t281 _ _ t282 t283 _ _ t284 t263 _ ?side1 ?side2 ?side3 ?side4 ?side5 ?side6 ?side7 ?side8 A29.out).mono ?_); (case side1 => refine (Kd.R_reads' (e := 3) (base := w.heap.size) (ok := fun k_ => ((((some k_ ≠ (.slice Ao19 t277.length co19 : Value).ownBlock ∧ some k_ ≠ (.slice Ao12 t267.length co12 : Value).ownBlock) ∧ some k_ ≠ (.slice Ao13 t269.length co13 : Value).ownBlock) ∧ some k_ ≠ (.slice Ao26 t282.length co26 : Value).ownBlock) ∧ some k_ ≠ (.slice Ao27 t284.length co27 : Value).ownBlock)) (n := t275.length) (c := co18) ?_).2.2; exact (fS HO294 BK301 Z16)); (case side2 => exact (Kd.R_reads' HO294.out).2.1); (case side3 => refine (Kd.R_reads' (e := 3) (base := w.heap.size) (ok := fun k_ => ((((some k_ ≠ (.slice Ao18 t275.length co18 : Value).ownBlock ∧ some k_ ≠ (.slice Ao12 t267.length co12 : Value).ownBlock) ∧ some k_ ≠ (.slice Ao13 t269.length co13 : Value).ownBlock) ∧ some k_ ≠ (.slice Ao26 t282.length co26 : Value).ownBlock) ∧ some k_ ≠ (.slice Ao27 t284.length co27 : Value).ownBlock)) (n := t277.length) (c := co19) ?_).2.2; exact (fS HO295 BK301 Z16)); (case side4 => exact (Kd.R_reads' HO295.out).2.1); (case side5 => refine (Kd.R_reads' (e := 3) (base := w.heap.size) (ok := fun k_ => ((((some k_ ≠ (.slice Ao27 t284.length co27 : Value).ownBlock ∧ some k_ ≠ (.slice Ao12 t267.length co12 : Value).ownBlock) ∧ some k_ ≠ (.slice Ao13 t269.length co13 : Value).ownBlock) ∧ some k_ ≠ (.slice Ao18 t275.length co18 : Value).ownBlock) ∧ some k_ ≠ (.slice Ao19 t277.length co19 : Value).ownBlock)) (n := t282.length) (c := co26) ?_).2.2; exact (fS HO299 BK301 Z16)); (case side6 => exact (Kd.R_reads' HO299.out).2.1); (case side7 => refine (Kd.R_reads' (e := 3) (base := w.heap.size) (ok := fun k_ => ((((some k_ ≠ (.slice Ao26 t282.length co26 : Value).ownBlock ∧ some k_ ≠ (.slice Ao12 t267.length co12 : Value).ownBlock) ∧ some k_ ≠ (.slice Ao13 t269.length co13 : Value).ownBlock) ∧ some k_ ≠ (.slice Ao18 t275.length co18 : Value).ownBlock) ∧ some k_ ≠ (.slice Ao19 t277.length co19 : Value).ownBlock)) (n := t284.length) (c := co27) ?_).2.2; exact (fS HO300 BK301 Z16)); (case side8 => exact (Kd.R_reads' HO300.out).2.1); rintro e w35 ⟨rfl, hb⟩; replace HO288 := am (Kd.R_below (fS HO288 BK301 Z16) hb); replace HO289 := am (Kd.R_below (fS HO289 BK301 Z16) hb); replace HO294 := am (Kd.R_below (fS HO294 BK301 Z16) hb); replace HO295 := am (Kd.R_below (fS HO295 BK301 Z16) hb); replace HO299 := am (Kd.R_below (fS HO299 BK301 Z16) hb); replace HO300 := am (Kd.R_below (fS HO300 BK301 Z16) hb); replace BK291 := am (blk_below (g := gb291) (o := .cells #[.int .i64 t260, .int .i64 t264, .int .i64 t265, .int .i64 t266, .slice Ao12 t267.length co12, .int .i64 t268, .slice Ao13 t269.length co13] 28 (0, 0)) (pf NB291_301 (pf NB291_301 (pf NB291_301 (pf NB291_301 (pf NB291_301 (pf NB291_301 (pf NB291_301 (pb BK291)))))))) hb); replace BK296 := am (blk_below (g := gb296) (o := .cells #[.int .i64 t261, .int .i64 t272, .int .i64 t273, .int .i64 t274, .slice Ao18 t275.length co18, .int .i64 t276, .slice Ao19 t277.length co19] 28 (0, 0)) (pf NB296_301 (pf NB296_301 (pf NB296_301 (pf NB296_301 (pf NB296_301 (pf NB296_301 (pf NB296_301 (pb BK296)))))))) hb); replace BK301 := am (blk_below (g := gb301) (o := .cells #[.int .i64 t262, .int .i64 t279, .int .i64 t280, .int .i64 t281, .slice Ao26 t282.length co26, .int .i64 t283, .slice Ao27 t284.length co27] 28 (0, 0)) (pT (pp 6 (pp 5 (pp 4 (pp 3 (pp 2 (pp 1 (pp 0 (pb BK301))))))))) hb); replace HB := am (below_step (uN HB) hb); (try clear hb); (try clear hb2); (try clear hk); (try clear hi)))
  go_meet
  case rel => exact ⟨_, (!t263), Z110, H', ⟨Z129⟩, ⟨by (with_reducible repeat (first | apply Kd.R_alloc | apply Kd.R_drewN | apply Kd.R_drew)); exact Kd.R_mono HO288.out (fun _ hk => ⟨hk.1.1.1.1, ⟨hk.1.1.1.2, ⟨hk.1.1.2, ⟨hk.1.2, hk.2⟩⟩⟩⟩)⟩, ⟨by (with_reducible repeat (first | apply Kd.R_alloc | apply Kd.R_drewN | apply Kd.R_drew)); exact Kd.R_mono HO289.out (fun _ hk => ⟨hk.1.1.1.1, ⟨hk.1.1.1.2, ⟨hk.1.1.2, ⟨hk.1.2, hk.2⟩⟩⟩⟩)⟩, ⟨by (with_reducible repeat (first | apply Kd.R_alloc | apply Kd.R_drewN | apply Kd.R_drew)); exact Kd.R_mono HO294.out (fun _ hk => ⟨hk.1.1.1.2, ⟨hk.1.1.2, ⟨hk.1.1.1.1, ⟨hk.1.2, hk.2⟩⟩⟩⟩)⟩, ⟨by (with_reducible repeat (first | apply Kd.R_alloc | apply Kd.R_drewN | apply Kd.R_drew)); exact Kd.R_mono HO295.out (fun _ hk => ⟨hk.1.1.1.2, ⟨hk.1.1.2, ⟨hk.1.1.1.1, ⟨hk.1.2, hk.2⟩⟩⟩⟩)⟩, ⟨by (with_reducible repeat (first | apply Kd.R_alloc | apply Kd.R_drewN | apply Kd.R_drew)); exact Kd.R_mono HO299.out (fun _ hk => ⟨hk.1.1.1.2, ⟨hk.1.1.2, ⟨hk.1.2, ⟨hk.2, hk.1.1.1.1⟩⟩⟩⟩)⟩, ⟨by (with_reducible repeat (first | apply Kd.R_alloc | apply Kd.R_drewN | apply Kd.R_drew)); exact Kd.R_mono HO300.out (fun _ hk => ⟨hk.1.1.1.2, ⟨hk.1.1.2, ⟨hk.1.2, ⟨hk.2, hk.1.1.1.1⟩⟩⟩⟩)⟩, ⟨pb BK291⟩, ⟨pb BK296⟩, ⟨pb BK301⟩, ⟨uN HB⟩⟩
 case rest =>
  clear HC8
  try clear c1
  try clear c2
  try clear p2
  try clear c3
  try clear c4
  try clear c5
  try clear c12
  try clear c13
  try clear c14
  try clear c16
  try clear c23
  try clear c24
  try clear c28
  try clear c28b0
  try clear c28b1
  try clear c28b2
  try clear c30
  try clear c31
  try clear c33
  try clear hcz11_0 hcz11_1 hcz11_2 hcz11_3 hcz11_4 hcz11_5 hcz11_6 hcz17_0 hcz17_1 hcz17_2 hcz17_3 hcz17_4 hcz17_5 hcz17_6 hcz20_0 hcz20_1 hcz20_2 hcz20_3 hcz20_4 hcz20_5 hcz20_6 hcz25_0 hcz25_1 hcz25_2 hcz25_3 hcz25_4 hcz25_5 hcz25_6 hcz32_0 hcz32_1 hcz32_2 hcz32_3 hcz32_4 hcz32_5 hcz32_6 hcz34_0 hcz34_1 hcz34_2 hcz34_3 hcz34_4 hcz34_5 hcz34_6
  try clear hfz11_0 hfz11_1 hfz11_2 hfz11_3 hfz11_4 hfz11_5 hfz11_6 hfz17_0 hfz17_1 hfz17_2 hfz17_3 hfz17_4 hfz17_5 hfz17_6 hfz20_0 hfz20_1 hfz20_2 hfz20_3 hfz20_4 hfz20_5 hfz20_6 hfz25_0 hfz25_1 hfz25_2 hfz25_3 hfz25_4 hfz25_5 hfz25_6 hfz32_0 hfz32_1 hfz32_2 hfz32_3 hfz32_4 hfz32_5 hfz32_6 hfz34_0 hfz34_1 hfz34_2 hfz34_3 hfz34_4 hfz34_5 hfz34_6
  obtain ⟨kq, x62_7, rfl, HA, HJ7, HO_303, HO_304, HO_305, HO_306, HO_307, HO_308, BK291, BK296, BK301, HB⟩ := hcut
  cases kq with
  | zero => exact absurd HA.out (by simp [Ff.j0])
  | succ kj7 =>
   have H := HA.out
   clear HA
   simp only [Ff.j0] at H
   by_cases c36 : x62_7 = true
   ·
    subst c36
    rw [if_pos rfl] at H
    obtain rfl := Option.some.inj H
    go_wp2
    go_ret
    exact ⟨Z109, uN HB⟩
   replace c36 := Bool.eq_false_iff.mpr c36
   subst c36
   rw [if_neg (show ¬ (false = true) from Z16)] at H
   by_cases c37 : t285 = true
   rotate_left
   ·
    replace c37 := Bool.eq_false_iff.mpr c37
    subst c37
    rw [if_neg (show ¬ (false = true) from Z16)] at H
    obtain rfl := Option.some.inj H
    go_wp2
    go_ret
    exact ⟨Z109, uN HB⟩
   subst c37
   rw [if_pos rfl] at H
   replace H := Option.bind_eq_some_iff.mp H
   obtain ⟨⟨t309, t310, t311, t312, t313, t314, t315, t316⟩, A317, H⟩ := H
   try dsimp only at H
   have A38 := am A317
   clear A317
   replace H := Option.bind_eq_some_iff.mp H
   obtain ⟨⟨t318, t319, t320, t321, t322, t323, t324, t325⟩, A326, H⟩ := H
   try dsimp only at H
   have A39 := am A326
   clear A326
   replace H := Option.bind_eq_some_iff.mp H
   obtain ⟨⟨t327, t328, t329, t330, t331, t332, t333, t334⟩, A335, H⟩ := H
   try dsimp only at H
   have A40 := am A335
   clear A335
   replace H := Option.bind_eq_some_iff.mp H
   obtain ⟨⟨t336, t337, t338, t339, t340, t341, t342, t343⟩, A344, H⟩ := H
   try dsimp only at H
   have A41 := am A344
   clear A344
   have HC42 := am H
   clear H
   have hnb43 := NB291_296.out
   have hnc43 := NB296_291.out
   have hnb44 := NB291_301.out
   have hnc44 := NB301_291.out
   obtain ⟨hcz45_0, hcz45_1, hcz45_2, hcz45_3, hcz45_4, hcz45_5, hcz45_6, hfz45_0, hfz45_1, hfz45_2, hfz45_3, hfz45_4, hfz45_5, hfz45_6⟩ := ce7 BK291
   go_upto_region 14 with (first | ((with_reducible refine gate_callee (f := 13) rfl ?_); refine gL 68 rfl Try.func13 #[.agg #[.int .i64 t260, .int .i64 t264, .int .i64 t265, .int .i64 t266, .slice Ao12 t267.length co12, .int .i64 t268, .slice Ao13 t269.length co13], .int .i64 0, .int .i64 t270] ?_; (with_reducible refine (FJ.calls kj7 t260 t264 t265 t266 _ _ t267 t268 _ _ t269 0 t270 t309 t310 t311 t312 t313 t314 t315 t316 _ ?side1 ?side2 ?side3 ?side4 A38.out).mono ?_); (case side1 => exact uD HO_303); (case side2 => exact (Kd.R_reads' HO_303.out).2.1); (case side3 => exact uD HO_304); (case side4 => exact (Kd.R_reads' HO_304.out).2.1); rintro e w46 ⟨v345, v346, rfl, ho0, ho1, hb⟩; refine ⟨_, rfl, ?_⟩; have HO347 := am (Kd.R_lower (Kd.R_new' (Kd.R_new' (Kd.R_new' (Kd.R_new' (Kd.R_new' (Kd.R_new' ho0 (Kd.R_lt (uR HO_303))) (Kd.R_lt (uR HO_304))) (Kd.R_lt (uR HO_305))) (Kd.R_lt (uR HO_306))) (Kd.R_lt (uR HO_307))) (Kd.R_lt (uR HO_308))) (below_size (uN HB))); have HO348 := am (Kd.R_lower (Kd.R_new' (Kd.R_new' (Kd.R_new' (Kd.R_new' (Kd.R_new' (Kd.R_new' ho1 (Kd.R_lt (uR HO_303))) (Kd.R_lt (uR HO_304))) (Kd.R_lt (uR HO_305))) (Kd.R_lt (uR HO_306))) (Kd.R_lt (uR HO_307))) (Kd.R_lt (uR HO_308))) (below_size (uN HB))); replace HO_303 := am (Kd.R_mono (Kd.R_told (Kd.R_told (Kd.R_old (uR HO_303) hb) (Kd.R_base ho0)) (Kd.R_base ho1)) (fun _ h_ => h_.1)); replace HO_304 := am (Kd.R_mono (Kd.R_told (Kd.R_told (Kd.R_old (uR HO_304) hb) (Kd.R_base ho0)) (Kd.R_base ho1)) (fun _ h_ => h_.1)); replace HO_305 := am (Kd.R_mono (Kd.R_told (Kd.R_told (Kd.R_old (uR HO_305) hb) (Kd.R_base ho0)) (Kd.R_base ho1)) (fun _ h_ => h_.1)); replace HO_306 := am (Kd.R_mono (Kd.R_told (Kd.R_told (Kd.R_old (uR HO_306) hb) (Kd.R_base ho0)) (Kd.R_base ho1)) (fun _ h_ => h_.1)); replace HO_307 := am (Kd.R_mono (Kd.R_told (Kd.R_told (Kd.R_old (uR HO_307) hb) (Kd.R_base ho0)) (Kd.R_base ho1)) (fun _ h_ => h_.1)); replace HO_308 := am (Kd.R_mono (Kd.R_told (Kd.R_told (Kd.R_old (uR HO_308) hb) (Kd.R_base ho0)) (Kd.R_base ho1)) (fun _ h_ => h_.1)); replace BK291 := kB BK291 hb; replace BK296 := kB BK296 hb; replace BK301 := kB BK301 hb; replace HB := am (below_step (uN HB) hb); (try clear hb); (try clear hb2); (try clear hk); (try clear hi); (try clear ho0); (try clear ho1)) | ((with_reducible refine gate_dst (N := 12) rfl ?_); refine box_event ?hg (N := 12) ?hd (cs := #[.int .i64 0, .int .i64 0, .int .i64 0, .int .i64 0, .slice none 0 0, .int .i64 0, .slice none 0 0]) (t := 28) ?hr ?_; (case hd => rfl); (case hg => rfl); (case hr => exact Z111); intro gb349 hg w47 hbox hb; replace HO_303 := rB HO_303 hb; replace HO_304 := rB HO_304 hb; replace HO_305 := rB HO_305 hb; replace HO_306 := rB HO_306 hb; replace HO_307 := rB HO_307 hb; replace HO_308 := rB HO_308 hb; replace HO347 := rB HO347 hb; replace HO348 := rB HO348 hb; have BK349 := am (hbox); have GW349 := nG HB hg; have GE349 := nG HB hg; have GI349 := gI GE349; have GI349 := gI GE349; replace HB := am (below_step (uN HB) hb); have NB291_349 := nL BK291 hg; have NB349_291 := nR BK291 hg; replace BK291 := kB BK291 hb; have NB296_349 := nL BK296 hg; have NB349_296 := nR BK296 hg; replace BK296 := kB BK296 hb; have NB301_349 := nL BK301 hg; have NB349_301 := nR BK301 hg; replace BK301 := kB BK301 hb; clear hb hbox hg; have hnb48 := NB349_291.out; have hnc48 := NB291_349.out; have hnb49 := NB349_296.out; have hnc49 := NB296_349.out; have hnb50 := NB349_301.out; have hnc50 := NB301_349.out; obtain ⟨hcz51_0, hcz51_1, hcz51_2, hcz51_3, hcz51_4, hcz51_5, hcz51_6, hfz51_0, hfz51_1, hfz51_2, hfz51_3, hfz51_4, hfz51_5, hfz51_6⟩ := ce7 BK349; obtain ⟨Ao52, co52, eo52⟩ := Kd.R_slice HO347.out; subst eo52; obtain ⟨Ao53, co53, eo53⟩ := Kd.R_slice HO348.out; subst eo53; obtain ⟨hcz54_0, hcz54_1, hcz54_2, hcz54_3, hcz54_4, hcz54_5, hcz54_6, hfz54_0, hfz54_1, hfz54_2, hfz54_3, hfz54_4, hfz54_5, hfz54_6⟩ := ce7 BK291) | ((with_reducible refine gate_callee (f := 13) rfl ?_); refine gL 76 rfl Try.func13 #[.agg #[.int .i64 t260, .int .i64 t264, .int .i64 t265, .int .i64 t266, .slice Ao12 t267.length co12, .int .i64 t268, .slice Ao13 t269.length co13], .int .i64 t271, .int .i64 t260] ?_; (with_reducible refine (FJ.calls kj7 t260 t264 t265 t266 _ _ t267 t268 _ _ t269 t271 t260 t318 t319 t320 t321 t322 t323 t324 t325 _ ?side1 ?side2 ?side3 ?side4 A39.out).mono ?_); (case side1 => refine (Kd.R_reads' (e := 3) (base := w.heap.size) (ok := fun k_ => (((some k_ ≠ (.slice Ao13 t269.length co13 : Value).ownBlock ∧ (some k_ ≠ (.slice Ao18 t275.length co18 : Value).ownBlock ∧ (some k_ ≠ (.slice Ao19 t277.length co19 : Value).ownBlock ∧ (some k_ ≠ (.slice Ao26 t282.length co26 : Value).ownBlock ∧ some k_ ≠ (.slice Ao27 t284.length co27 : Value).ownBlock)))) ∧ some k_ ≠ (.slice Ao52 t313.length co52 : Value).ownBlock) ∧ some k_ ≠ (.slice Ao53 t315.length co53 : Value).ownBlock)) (n := t267.length) (c := co12) ?_).2.2; exact (fS HO_303 BK349 Z16)); (case side2 => exact (Kd.R_reads' HO_303.out).2.1); (case side3 => refine (Kd.R_reads' (e := 3) (base := w.heap.size) (ok := fun k_ => (((some k_ ≠ (.slice Ao12 t267.length co12 : Value).ownBlock ∧ (some k_ ≠ (.slice Ao18 t275.length co18 : Value).ownBlock ∧ (some k_ ≠ (.slice Ao19 t277.length co19 : Value).ownBlock ∧ (some k_ ≠ (.slice Ao26 t282.length co26 : Value).ownBlock ∧ some k_ ≠ (.slice Ao27 t284.length co27 : Value).ownBlock)))) ∧ some k_ ≠ (.slice Ao52 t313.length co52 : Value).ownBlock) ∧ some k_ ≠ (.slice Ao53 t315.length co53 : Value).ownBlock)) (n := t269.length) (c := co13) ?_).2.2; exact (fS HO_304 BK349 Z16)); (case side4 => exact (Kd.R_reads' HO_304.out).2.1); rintro e w55 ⟨v350, v351, rfl, ho0, ho1, hb⟩; refine ⟨_, rfl, ?_⟩; have HO352 := am (Kd.R_lower (Kd.R_new' (Kd.R_new' (Kd.R_new' (Kd.R_new' (Kd.R_new' (Kd.R_new' (Kd.R_new' (Kd.R_new' ho0 (Kd.R_lt (fS HO_303 BK349 Z16))) (Kd.R_lt (fS HO_304 BK349 Z16))) (Kd.R_lt (fS HO_305 BK349 Z16))) (Kd.R_lt (fS HO_306 BK349 Z16))) (Kd.R_lt (fS HO_307 BK349 Z16))) (Kd.R_lt (fS HO_308 BK349 Z16))) (Kd.R_lt (fS HO347 BK349 Z16))) (Kd.R_lt (fS HO348 BK349 Z16))) (below_size (uN HB))); have HO353 := am (Kd.R_lower (Kd.R_new' (Kd.R_new' (Kd.R_new' (Kd.R_new' (Kd.R_new' (Kd.R_new' (Kd.R_new' (Kd.R_new' ho1 (Kd.R_lt (fS HO_303 BK349 Z16))) (Kd.R_lt (fS HO_304 BK349 Z16))) (Kd.R_lt (fS HO_305 BK349 Z16))) (Kd.R_lt (fS HO_306 BK349 Z16))) (Kd.R_lt (fS HO_307 BK349 Z16))) (Kd.R_lt (fS HO_308 BK349 Z16))) (Kd.R_lt (fS HO347 BK349 Z16))) (Kd.R_lt (fS HO348 BK349 Z16))) (below_size (uN HB))); replace HO_303 := am (Kd.R_mono (Kd.R_told (Kd.R_told (Kd.R_old (fS HO_303 BK349 Z16) hb) (Kd.R_base ho0)) (Kd.R_base ho1)) (fun _ h_ => h_.1)); replace HO_304 := am (Kd.R_mono (Kd.R_told (Kd.R_told (Kd.R_old (fS HO_304 BK349 Z16) hb) (Kd.R_base ho0)) (Kd.R_base ho1)) (fun _ h_ => h_.1)); replace HO_305 := am (Kd.R_mono (Kd.R_told (Kd.R_told (Kd.R_old (fS HO_305 BK349 Z16) hb) (Kd.R_base ho0)) (Kd.R_base ho1)) (fun _ h_ => h_.1)); replace HO_306 := am (Kd.R_mono (Kd.R_told (Kd.R_told (Kd.R_old (fS HO_306 BK349 Z16) hb) (Kd.R_base ho0)) (Kd.R_base ho1)) (fun _ h_ => h_.1)); replace HO_307 := am (Kd.R_mono (Kd.R_told (Kd.R_told (Kd.R_old (fS HO_307 BK349 Z16) hb) (Kd.R_base ho0)) (Kd.R_base ho1)) (fun _ h_ => h_.1)); replace HO_308 := am (Kd.R_mono (Kd.R_told (Kd.R_told (Kd.R_old (fS HO_308 BK349 Z16) hb) (Kd.R_base ho0)) (Kd.R_base ho1)) (fun _ h_ => h_.1)); replace HO347 := am (Kd.R_mono (Kd.R_told (Kd.R_told (Kd.R_old (fS HO347 BK349 Z16) hb) (Kd.R_base ho0)) (Kd.R_base ho1)) (fun _ h_ => h_.1)); replace HO348 := am (Kd.R_mono (Kd.R_told (Kd.R_told (Kd.R_old (fS HO348 BK349 Z16) hb) (Kd.R_base ho0)) (Kd.R_base ho1)) (fun _ h_ => h_.1)); replace BK291 := am (blk_below (g := gb291) (o := .cells #[.int .i64 t260, .int .i64 t264, .int .i64 t265, .int .i64 t266, .slice Ao12 t267.length co12, .int .i64 t268, .slice Ao13 t269.length co13] 28 (0, 0)) (pf NB291_349 (pf NB291_349 (pf NB291_349 (pf NB291_349 (pf NB291_349 (pf NB291_349 (pf NB291_349 (pb BK291)))))))) hb); replace BK296 := am (blk_below (g := gb296) (o := .cells #[.int .i64 t261, .int .i64 t272, .int .i64 t273, .int .i64 t274, .slice Ao18 t275.length co18, .int .i64 t276, .slice Ao19 t277.length co19] 28 (0, 0)) (pf NB296_349 (pf NB296_349 (pf NB296_349 (pf NB296_349 (pf NB296_349 (pf NB296_349 (pf NB296_349 (pb BK296)))))))) hb); replace BK301 := am (blk_below (g := gb301) (o := .cells #[.int .i64 t262, .int .i64 t279, .int .i64 t280, .int .i64 t281, .slice Ao26 t282.length co26, .int .i64 t283, .slice Ao27 t284.length co27] 28 (0, 0)) (pf NB301_349 (pf NB301_349 (pf NB301_349 (pf NB301_349 (pf NB301_349 (pf NB301_349 (pf NB301_349 (pb BK301)))))))) hb); replace BK349 := am (blk_below (g := gb349) (o := .cells #[.int .i64 t309, .int .i64 t310, .int .i64 t311, .int .i64 t312, .slice Ao52 t313.length co52, .int .i64 t314, .slice Ao53 t315.length co53] 28 (0, 0)) (pT (pp 6 (pp 5 (pp 4 (pp 3 (pp 2 (pp 1 (pp 0 (pb BK349))))))))) hb); replace HB := am (below_step (uN HB) hb); (try clear hb); (try clear hb2); (try clear hk); (try clear hi); (try clear ho0); (try clear ho1)) | ((with_reducible refine gate_dst (N := 14) rfl ?_); refine box_event ?hg (N := 14) ?hd (cs := #[.int .i64 0, .int .i64 0, .int .i64 0, .int .i64 0, .slice none 0 0, .int .i64 0, .slice none 0 0]) (t := 28) ?hr ?_; (case hd => rfl); (case hg => rfl); (case hr => exact Z111); intro gb354 hg w56 hbox hb; replace HO_303 := rB HO_303 hb; replace HO_304 := rB HO_304 hb; replace HO_305 := rB HO_305 hb; replace HO_306 := rB HO_306 hb; replace HO_307 := rB HO_307 hb; replace HO_308 := rB HO_308 hb; replace HO347 := rB HO347 hb; replace HO348 := rB HO348 hb; replace HO352 := rB HO352 hb; replace HO353 := rB HO353 hb; have BK354 := am (hbox); have GW354 := nG HB hg; have GE354 := nG HB hg; have GI354 := gI GE354; have GI354 := gI GE354; replace HB := am (below_step (uN HB) hb); have NB291_354 := nL BK291 hg; have NB354_291 := nR BK291 hg; replace BK291 := kB BK291 hb; have NB296_354 := nL BK296 hg; have NB354_296 := nR BK296 hg; replace BK296 := kB BK296 hb; have NB301_354 := nL BK301 hg; have NB354_301 := nR BK301 hg; replace BK301 := kB BK301 hb; have NB349_354 := nL BK349 hg; have NB354_349 := nR BK349 hg; replace BK349 := kB BK349 hb; clear hb hbox hg; have hnb57 := NB354_291.out; have hnc57 := NB291_354.out; have hnb58 := NB354_296.out; have hnc58 := NB296_354.out; have hnb59 := NB354_301.out; have hnc59 := NB301_354.out; have hnb60 := NB354_349.out; have hnc60 := NB349_354.out; obtain ⟨hcz61_0, hcz61_1, hcz61_2, hcz61_3, hcz61_4, hcz61_5, hcz61_6, hfz61_0, hfz61_1, hfz61_2, hfz61_3, hfz61_4, hfz61_5, hfz61_6⟩ := ce7 BK354; obtain ⟨Ao62, co62, eo62⟩ := Kd.R_slice HO352.out; subst eo62; obtain ⟨Ao63, co63, eo63⟩ := Kd.R_slice HO353.out; subst eo63; obtain ⟨hcz64_0, hcz64_1, hcz64_2, hcz64_3, hcz64_4, hcz64_5, hcz64_6, hfz64_0, hfz64_1, hfz64_2, hfz64_3, hfz64_4, hfz64_5, hfz64_6⟩ := ce7 BK349) | ((with_reducible refine gate_callee (f := 16) rfl ?_); refine gL 82 rfl Try.func16 #[.agg #[.int .i64 t309, .int .i64 t310, .int .i64 t311, .int .i64 t312, .slice Ao52 t313.length co52, .int .i64 t314, .slice Ao53 t315.length co53], .agg #[.int .i64 t318, .int .i64 t319, .int .i64 t320, .int .i64 t321, .slice Ao62 t322.length co62, .int .i64 t323, .slice Ao63 t324.length co63]] ?_; (with_reducible refine (FZ.calls kj7 t309 t310 t311 t312 _ _ t313 t314 _ _ t315 t318 t319 t320 t321 _ _ t322 t323 _ _ t324 t327 t328 t329 t330 t331 t332 t333 t334 _ ?side1 ?side2 ?side3 ?side4 ?side5 ?side6 ?side7 ?side8 A40.out).mono ?_); (case side1 => refine (Kd.R_reads' (e := 3) (base := w.heap.size) (ok := fun k_ => ((((((((some k_ ≠ (.slice Ao53 t315.length co53 : Value).ownBlock ∧ some k_ ≠ (.slice Ao12 t267.length co12 : Value).ownBlock) ∧ some k_ ≠ (.slice Ao13 t269.length co13 : Value).ownBlock) ∧ some k_ ≠ (.slice Ao18 t275.length co18 : Value).ownBlock) ∧ some k_ ≠ (.slice Ao19 t277.length co19 : Value).ownBlock) ∧ some k_ ≠ (.slice Ao26 t282.length co26 : Value).ownBlock) ∧ some k_ ≠ (.slice Ao27 t284.length co27 : Value).ownBlock) ∧ some k_ ≠ (.slice Ao62 t322.length co62 : Value).ownBlock) ∧ some k_ ≠ (.slice Ao63 t324.length co63 : Value).ownBlock)) (n := t313.length) (c := co52) ?_).2.2; exact (fS HO347 BK354 Z16)); (case side2 => exact (Kd.R_reads' HO347.out).2.1); (case side3 => refine (Kd.R_reads' (e := 3) (base := w.heap.size) (ok := fun k_ => ((((((((some k_ ≠ (.slice Ao52 t313.length co52 : Value).ownBlock ∧ some k_ ≠ (.slice Ao12 t267.length co12 : Value).ownBlock) ∧ some k_ ≠ (.slice Ao13 t269.length co13 : Value).ownBlock) ∧ some k_ ≠ (.slice Ao18 t275.length co18 : Value).ownBlock) ∧ some k_ ≠ (.slice Ao19 t277.length co19 : Value).ownBlock) ∧ some k_ ≠ (.slice Ao26 t282.length co26 : Value).ownBlock) ∧ some k_ ≠ (.slice Ao27 t284.length co27 : Value).ownBlock) ∧ some k_ ≠ (.slice Ao62 t322.length co62 : Value).ownBlock) ∧ some k_ ≠ (.slice Ao63 t324.length co63 : Value).ownBlock)) (n := t315.length) (c := co53) ?_).2.2; exact (fS HO348 BK354 Z16)); (case side4 => exact (Kd.R_reads' HO348.out).2.1); (case side5 => refine (Kd.R_reads' (e := 3) (base := w.heap.size) (ok := fun k_ => ((((((((some k_ ≠ (.slice Ao63 t324.length co63 : Value).ownBlock ∧ some k_ ≠ (.slice Ao12 t267.length co12 : Value).ownBlock) ∧ some k_ ≠ (.slice Ao13 t269.length co13 : Value).ownBlock) ∧ some k_ ≠ (.slice Ao18 t275.length co18 : Value).ownBlock) ∧ some k_ ≠ (.slice Ao19 t277.length co19 : Value).ownBlock) ∧ some k_ ≠ (.slice Ao26 t282.length co26 : Value).ownBlock) ∧ some k_ ≠ (.slice Ao27 t284.length co27 : Value).ownBlock) ∧ some k_ ≠ (.slice Ao52 t313.length co52 : Value).ownBlock) ∧ some k_ ≠ (.slice Ao53 t315.length co53 : Value).ownBlock)) (n := t322.length) (c := co62) ?_).2.2; exact (fS HO352 BK354 Z16)); (case side6 => exact (Kd.R_reads' HO352.out).2.1); (case side7 => refine (Kd.R_reads' (e := 3) (base := w.heap.size) (ok := fun k_ => ((((((((some k_ ≠ (.slice Ao62 t322.length co62 : Value).ownBlock ∧ some k_ ≠ (.slice Ao12 t267.length co12 : Value).ownBlock) ∧ some k_ ≠ (.slice Ao13 t269.length co13 : Value).ownBlock) ∧ some k_ ≠ (.slice Ao18 t275.length co18 : Value).ownBlock) ∧ some k_ ≠ (.slice Ao19 t277.length co19 : Value).ownBlock) ∧ some k_ ≠ (.slice Ao26 t282.length co26 : Value).ownBlock) ∧ some k_ ≠ (.slice Ao27 t284.length co27 : Value).ownBlock) ∧ some k_ ≠ (.slice Ao52 t313.length co52 : Value).ownBlock) ∧ some k_ ≠ (.slice Ao53 t315.length co53 : Value).ownBlock)) (n := t324.length) (c := co63) ?_).2.2; exact (fS HO353 BK354 Z16)); (case side8 => exact (Kd.R_reads' HO353.out).2.1); rintro e w65 ⟨v355, v356, rfl, ho0, ho1, hb⟩; refine ⟨_, rfl, ?_⟩; have HO357 := am (Kd.R_lower (Kd.R_new' (Kd.R_new' (Kd.R_new' (Kd.R_new' (Kd.R_new' (Kd.R_new' (Kd.R_new' (Kd.R_new' (Kd.R_new' (Kd.R_new' ho0 (Kd.R_lt (fS HO_303 BK354 Z16))) (Kd.R_lt (fS HO_304 BK354 Z16))) (Kd.R_lt (fS HO_305 BK354 Z16))) (Kd.R_lt (fS HO_306 BK354 Z16))) (Kd.R_lt (fS HO_307 BK354 Z16))) (Kd.R_lt (fS HO_308 BK354 Z16))) (Kd.R_lt (fS HO347 BK354 Z16))) (Kd.R_lt (fS HO348 BK354 Z16))) (Kd.R_lt (fS HO352 BK354 Z16))) (Kd.R_lt (fS HO353 BK354 Z16))) (below_size (uN HB))); have HO358 := am (Kd.R_lower (Kd.R_new' (Kd.R_new' (Kd.R_new' (Kd.R_new' (Kd.R_new' (Kd.R_new' (Kd.R_new' (Kd.R_new' (Kd.R_new' (Kd.R_new' ho1 (Kd.R_lt (fS HO_303 BK354 Z16))) (Kd.R_lt (fS HO_304 BK354 Z16))) (Kd.R_lt (fS HO_305 BK354 Z16))) (Kd.R_lt (fS HO_306 BK354 Z16))) (Kd.R_lt (fS HO_307 BK354 Z16))) (Kd.R_lt (fS HO_308 BK354 Z16))) (Kd.R_lt (fS HO347 BK354 Z16))) (Kd.R_lt (fS HO348 BK354 Z16))) (Kd.R_lt (fS HO352 BK354 Z16))) (Kd.R_lt (fS HO353 BK354 Z16))) (below_size (uN HB))); replace HO_303 := am (Kd.R_mono (Kd.R_told (Kd.R_told (Kd.R_old (fS HO_303 BK354 Z16) hb) (Kd.R_base ho0)) (Kd.R_base ho1)) (fun _ h_ => h_.1)); replace HO_304 := am (Kd.R_mono (Kd.R_told (Kd.R_told (Kd.R_old (fS HO_304 BK354 Z16) hb) (Kd.R_base ho0)) (Kd.R_base ho1)) (fun _ h_ => h_.1)); replace HO_305 := am (Kd.R_mono (Kd.R_told (Kd.R_told (Kd.R_old (fS HO_305 BK354 Z16) hb) (Kd.R_base ho0)) (Kd.R_base ho1)) (fun _ h_ => h_.1)); replace HO_306 := am (Kd.R_mono (Kd.R_told (Kd.R_told (Kd.R_old (fS HO_306 BK354 Z16) hb) (Kd.R_base ho0)) (Kd.R_base ho1)) (fun _ h_ => h_.1)); replace HO_307 := am (Kd.R_mono (Kd.R_told (Kd.R_told (Kd.R_old (fS HO_307 BK354 Z16) hb) (Kd.R_base ho0)) (Kd.R_base ho1)) (fun _ h_ => h_.1)); replace HO_308 := am (Kd.R_mono (Kd.R_told (Kd.R_told (Kd.R_old (fS HO_308 BK354 Z16) hb) (Kd.R_base ho0)) (Kd.R_base ho1)) (fun _ h_ => h_.1)); replace HO347 := am (Kd.R_mono (Kd.R_told (Kd.R_told (Kd.R_old (fS HO347 BK354 Z16) hb) (Kd.R_base ho0)) (Kd.R_base ho1)) (fun _ h_ => h_.1)); replace HO348 := am (Kd.R_mono (Kd.R_told (Kd.R_told (Kd.R_old (fS HO348 BK354 Z16) hb) (Kd.R_base ho0)) (Kd.R_base ho1)) (fun _ h_ => h_.1)); replace HO352 := am (Kd.R_mono (Kd.R_told (Kd.R_told (Kd.R_old (fS HO352 BK354 Z16) hb) (Kd.R_base ho0)) (Kd.R_base ho1)) (fun _ h_ => h_.1)); replace HO353 := am (Kd.R_mono (Kd.R_told (Kd.R_told (Kd.R_old (fS HO353 BK354 Z16) hb) (Kd.R_base ho0)) (Kd.R_base ho1)) (fun _ h_ => h_.1)); replace BK291 := am (blk_below (g := gb291) (o := .cells #[.int .i64 t260, .int .i64 t264, .int .i64 t265, .int .i64 t266, .slice Ao12 t267.length co12, .int .i64 t268, .slice Ao13 t269.length co13] 28 (0, 0)) (pf NB291_354 (pf NB291_354 (pf NB291_354 (pf NB291_354 (pf NB291_354 (pf NB291_354 (pf NB291_354 (pb BK291)))))))) hb); replace BK296 := am (blk_below (g := gb296) (o := .cells #[.int .i64 t261, .int .i64 t272, .int .i64 t273, .int .i64 t274, .slice Ao18 t275.length co18, .int .i64 t276, .slice Ao19 t277.length co19] 28 (0, 0)) (pf NB296_354 (pf NB296_354 (pf NB296_354 (pf NB296_354 (pf NB296_354 (pf NB296_354 (pf NB296_354 (pb BK296)))))))) hb); replace BK301 := am (blk_below (g := gb301) (o := .cells #[.int .i64 t262, .int .i64 t279, .int .i64 t280, .int .i64 t281, .slice Ao26 t282.length co26, .int .i64 t283, .slice Ao27 t284.length co27] 28 (0, 0)) (pf NB301_354 (pf NB301_354 (pf NB301_354 (pf NB301_354 (pf NB301_354 (pf NB301_354 (pf NB301_354 (pb BK301)))))))) hb); replace BK349 := am (blk_below (g := gb349) (o := .cells #[.int .i64 t309, .int .i64 t310, .int .i64 t311, .int .i64 t312, .slice Ao52 t313.length co52, .int .i64 t314, .slice Ao53 t315.length co53] 28 (0, 0)) (pf NB349_354 (pf NB349_354 (pf NB349_354 (pf NB349_354 (pf NB349_354 (pf NB349_354 (pf NB349_354 (pb BK349)))))))) hb); replace BK354 := am (blk_below (g := gb354) (o := .cells #[.int .i64 t318, .int .i64 t319, .int .i64 t320, .int .i64 t321, .slice Ao62 t322.length co62, .int .i64 t323, .slice Ao63 t324.length co63] 28 (0, 0)) (pT (pp 6 (pp 5 (pp 4 (pp 3 (pp 2 (pp 1 (pp 0 (pb BK354))))))))) hb); replace HB := am (below_step (uN HB) hb); (try clear hb); (try clear hb2); (try clear hk); (try clear hi); (try clear ho0); (try clear ho1)) | ((with_reducible refine gate_dst (N := 16) rfl ?_); refine box_event ?hg (N := 16) ?hd (cs := #[.int .i64 0, .int .i64 0, .int .i64 0, .int .i64 0, .slice none 0 0, .int .i64 0, .slice none 0 0]) (t := 28) ?hr ?_; (case hd => rfl); (case hg => rfl); (case hr => exact Z111); intro gb359 hg w66 hbox hb; replace HO_303 := rB HO_303 hb; replace HO_304 := rB HO_304 hb; replace HO_305 := rB HO_305 hb; replace HO_306 := rB HO_306 hb; replace HO_307 := rB HO_307 hb; replace HO_308 := rB HO_308 hb; replace HO347 := rB HO347 hb; replace HO348 := rB HO348 hb; replace HO352 := rB HO352 hb; replace HO353 := rB HO353 hb; replace HO357 := rB HO357 hb; replace HO358 := rB HO358 hb; have BK359 := am (hbox); have GW359 := nG HB hg; have GE359 := nG HB hg; have GI359 := gI GE359; have GI359 := gI GE359; replace HB := am (below_step (uN HB) hb); have NB291_359 := nL BK291 hg; have NB359_291 := nR BK291 hg; replace BK291 := kB BK291 hb; have NB296_359 := nL BK296 hg; have NB359_296 := nR BK296 hg; replace BK296 := kB BK296 hb; have NB301_359 := nL BK301 hg; have NB359_301 := nR BK301 hg; replace BK301 := kB BK301 hb; have NB349_359 := nL BK349 hg; have NB359_349 := nR BK349 hg; replace BK349 := kB BK349 hb; have NB354_359 := nL BK354 hg; have NB359_354 := nR BK354 hg; replace BK354 := kB BK354 hb; clear hb hbox hg; have hnb67 := NB359_291.out; have hnc67 := NB291_359.out; have hnb68 := NB359_296.out; have hnc68 := NB296_359.out; have hnb69 := NB359_301.out; have hnc69 := NB301_359.out; have hnb70 := NB359_349.out; have hnc70 := NB349_359.out; have hnb71 := NB359_354.out; have hnc71 := NB354_359.out; obtain ⟨hcz72_0, hcz72_1, hcz72_2, hcz72_3, hcz72_4, hcz72_5, hcz72_6, hfz72_0, hfz72_1, hfz72_2, hfz72_3, hfz72_4, hfz72_5, hfz72_6⟩ := ce7 BK359; obtain ⟨Ao73, co73, eo73⟩ := Kd.R_slice HO357.out; subst eo73; obtain ⟨Ao74, co74, eo74⟩ := Kd.R_slice HO358.out; subst eo74; have hnb75 := NB296_301.out; have hnc75 := NB301_296.out; obtain ⟨hcz76_0, hcz76_1, hcz76_2, hcz76_3, hcz76_4, hcz76_5, hcz76_6, hfz76_0, hfz76_1, hfz76_2, hfz76_3, hfz76_4, hfz76_5, hfz76_6⟩ := ce7 BK296) | ((with_reducible refine gate_callee (f := 16) rfl ?_); refine gL 88 rfl Try.func16 #[.agg #[.int .i64 t327, .int .i64 t328, .int .i64 t329, .int .i64 t330, .slice Ao73 t331.length co73, .int .i64 t332, .slice Ao74 t333.length co74], .agg #[.int .i64 t261, .int .i64 t272, .int .i64 t273, .int .i64 t274, .slice Ao18 t275.length co18, .int .i64 t276, .slice Ao19 t277.length co19]] ?_; (with_reducible refine (FZ.calls kj7 t327 t328 t329 t330 _ _ t331 t332 _ _ t333 t261 t272 t273 t274 _ _ t275 t276 _ _ t277 t336 t337 t338 t339 t340 t341 t342 t343 _ ?side1 ?side2 ?side3 ?side4 ?side5 ?side6 ?side7 ?side8 A41.out).mono ?_); (case side1 => refine (Kd.R_reads' (e := 3) (base := w.heap.size) (ok := fun k_ => ((((((((((some k_ ≠ (.slice Ao74 t333.length co74 : Value).ownBlock ∧ some k_ ≠ (.slice Ao12 t267.length co12 : Value).ownBlock) ∧ some k_ ≠ (.slice Ao13 t269.length co13 : Value).ownBlock) ∧ some k_ ≠ (.slice Ao18 t275.length co18 : Value).ownBlock) ∧ some k_ ≠ (.slice Ao19 t277.length co19 : Value).ownBlock) ∧ some k_ ≠ (.slice Ao26 t282.length co26 : Value).ownBlock) ∧ some k_ ≠ (.slice Ao27 t284.length co27 : Value).ownBlock) ∧ some k_ ≠ (.slice Ao52 t313.length co52 : Value).ownBlock) ∧ some k_ ≠ (.slice Ao53 t315.length co53 : Value).ownBlock) ∧ some k_ ≠ (.slice Ao62 t322.length co62 : Value).ownBlock) ∧ some k_ ≠ (.slice Ao63 t324.length co63 : Value).ownBlock)) (n := t331.length) (c := co73) ?_).2.2; exact (fS HO357 BK359 Z16)); (case side2 => exact (Kd.R_reads' HO357.out).2.1); (case side3 => refine (Kd.R_reads' (e := 3) (base := w.heap.size) (ok := fun k_ => ((((((((((some k_ ≠ (.slice Ao73 t331.length co73 : Value).ownBlock ∧ some k_ ≠ (.slice Ao12 t267.length co12 : Value).ownBlock) ∧ some k_ ≠ (.slice Ao13 t269.length co13 : Value).ownBlock) ∧ some k_ ≠ (.slice Ao18 t275.length co18 : Value).ownBlock) ∧ some k_ ≠ (.slice Ao19 t277.length co19 : Value).ownBlock) ∧ some k_ ≠ (.slice Ao26 t282.length co26 : Value).ownBlock) ∧ some k_ ≠ (.slice Ao27 t284.length co27 : Value).ownBlock) ∧ some k_ ≠ (.slice Ao52 t313.length co52 : Value).ownBlock) ∧ some k_ ≠ (.slice Ao53 t315.length co53 : Value).ownBlock) ∧ some k_ ≠ (.slice Ao62 t322.length co62 : Value).ownBlock) ∧ some k_ ≠ (.slice Ao63 t324.length co63 : Value).ownBlock)) (n := t333.length) (c := co74) ?_).2.2; exact (fS HO358 BK359 Z16)); (case side4 => exact (Kd.R_reads' HO358.out).2.1); (case side5 => refine (Kd.R_reads' (e := 3) (base := w.heap.size) (ok := fun k_ => (((((((some k_ ≠ (.slice Ao12 t267.length co12 : Value).ownBlock ∧ (some k_ ≠ (.slice Ao13 t269.length co13 : Value).ownBlock ∧ (some k_ ≠ (.slice Ao19 t277.length co19 : Value).ownBlock ∧ (some k_ ≠ (.slice Ao26 t282.length co26 : Value).ownBlock ∧ some k_ ≠ (.slice Ao27 t284.length co27 : Value).ownBlock)))) ∧ some k_ ≠ (.slice Ao52 t313.length co52 : Value).ownBlock) ∧ some k_ ≠ (.slice Ao53 t315.length co53 : Value).ownBlock) ∧ some k_ ≠ (.slice Ao62 t322.length co62 : Value).ownBlock) ∧ some k_ ≠ (.slice Ao63 t324.length co63 : Value).ownBlock) ∧ some k_ ≠ (.slice Ao73 t331.length co73 : Value).ownBlock) ∧ some k_ ≠ (.slice Ao74 t333.length co74 : Value).ownBlock)) (n := t275.length) (c := co18) ?_).2.2; exact (fS HO_305 BK359 Z16)); (case side6 => exact (Kd.R_reads' HO_305.out).2.1); (case side7 => refine (Kd.R_reads' (e := 3) (base := w.heap.size) (ok := fun k_ => (((((((some k_ ≠ (.slice Ao12 t267.length co12 : Value).ownBlock ∧ (some k_ ≠ (.slice Ao13 t269.length co13 : Value).ownBlock ∧ (some k_ ≠ (.slice Ao18 t275.length co18 : Value).ownBlock ∧ (some k_ ≠ (.slice Ao26 t282.length co26 : Value).ownBlock ∧ some k_ ≠ (.slice Ao27 t284.length co27 : Value).ownBlock)))) ∧ some k_ ≠ (.slice Ao52 t313.length co52 : Value).ownBlock) ∧ some k_ ≠ (.slice Ao53 t315.length co53 : Value).ownBlock) ∧ some k_ ≠ (.slice Ao62 t322.length co62 : Value).ownBlock) ∧ some k_ ≠ (.slice Ao63 t324.length co63 : Value).ownBlock) ∧ some k_ ≠ (.slice Ao73 t331.length co73 : Value).ownBlock) ∧ some k_ ≠ (.slice Ao74 t333.length co74 : Value).ownBlock)) (n := t277.length) (c := co19) ?_).2.2; exact (fS HO_306 BK359 Z16)); (case side8 => exact (Kd.R_reads' HO_306.out).2.1); rintro e w77 ⟨v360, v361, rfl, ho0, ho1, hb⟩; refine ⟨_, rfl, ?_⟩; have HO362 := am (Kd.R_lower (Kd.R_new' (Kd.R_new' (Kd.R_new' (Kd.R_new' (Kd.R_new' (Kd.R_new' (Kd.R_new' (Kd.R_new' (Kd.R_new' (Kd.R_new' (Kd.R_new' (Kd.R_new' ho0 (Kd.R_lt (fS HO_303 BK359 Z16))) (Kd.R_lt (fS HO_304 BK359 Z16))) (Kd.R_lt (fS HO_305 BK359 Z16))) (Kd.R_lt (fS HO_306 BK359 Z16))) (Kd.R_lt (fS HO_307 BK359 Z16))) (Kd.R_lt (fS HO_308 BK359 Z16))) (Kd.R_lt (fS HO347 BK359 Z16))) (Kd.R_lt (fS HO348 BK359 Z16))) (Kd.R_lt (fS HO352 BK359 Z16))) (Kd.R_lt (fS HO353 BK359 Z16))) (Kd.R_lt (fS HO357 BK359 Z16))) (Kd.R_lt (fS HO358 BK359 Z16))) (below_size (uN HB))); have HO363 := am (Kd.R_lower (Kd.R_new' (Kd.R_new' (Kd.R_new' (Kd.R_new' (Kd.R_new' (Kd.R_new' (Kd.R_new' (Kd.R_new' (Kd.R_new' (Kd.R_new' (Kd.R_new' (Kd.R_new' ho1 (Kd.R_lt (fS HO_303 BK359 Z16))) (Kd.R_lt (fS HO_304 BK359 Z16))) (Kd.R_lt (fS HO_305 BK359 Z16))) (Kd.R_lt (fS HO_306 BK359 Z16))) (Kd.R_lt (fS HO_307 BK359 Z16))) (Kd.R_lt (fS HO_308 BK359 Z16))) (Kd.R_lt (fS HO347 BK359 Z16))) (Kd.R_lt (fS HO348 BK359 Z16))) (Kd.R_lt (fS HO352 BK359 Z16))) (Kd.R_lt (fS HO353 BK359 Z16))) (Kd.R_lt (fS HO357 BK359 Z16))) (Kd.R_lt (fS HO358 BK359 Z16))) (below_size (uN HB))); replace HO_303 := am (Kd.R_mono (Kd.R_told (Kd.R_told (Kd.R_old (fS HO_303 BK359 Z16) hb) (Kd.R_base ho0)) (Kd.R_base ho1)) (fun _ h_ => h_.1)); replace HO_304 := am (Kd.R_mono (Kd.R_told (Kd.R_told (Kd.R_old (fS HO_304 BK359 Z16) hb) (Kd.R_base ho0)) (Kd.R_base ho1)) (fun _ h_ => h_.1)); replace HO_305 := am (Kd.R_mono (Kd.R_told (Kd.R_told (Kd.R_old (fS HO_305 BK359 Z16) hb) (Kd.R_base ho0)) (Kd.R_base ho1)) (fun _ h_ => h_.1)); replace HO_306 := am (Kd.R_mono (Kd.R_told (Kd.R_told (Kd.R_old (fS HO_306 BK359 Z16) hb) (Kd.R_base ho0)) (Kd.R_base ho1)) (fun _ h_ => h_.1)); replace HO_307 := am (Kd.R_mono (Kd.R_told (Kd.R_told (Kd.R_old (fS HO_307 BK359 Z16) hb) (Kd.R_base ho0)) (Kd.R_base ho1)) (fun _ h_ => h_.1)); replace HO_308 := am (Kd.R_mono (Kd.R_told (Kd.R_told (Kd.R_old (fS HO_308 BK359 Z16) hb) (Kd.R_base ho0)) (Kd.R_base ho1)) (fun _ h_ => h_.1)); replace HO347 := am (Kd.R_mono (Kd.R_told (Kd.R_told (Kd.R_old (fS HO347 BK359 Z16) hb) (Kd.R_base ho0)) (Kd.R_base ho1)) (fun _ h_ => h_.1)); replace HO348 := am (Kd.R_mono (Kd.R_told (Kd.R_told (Kd.R_old (fS HO348 BK359 Z16) hb) (Kd.R_base ho0)) (Kd.R_base ho1)) (fun _ h_ => h_.1)); replace HO352 := am (Kd.R_mono (Kd.R_told (Kd.R_told (Kd.R_old (fS HO352 BK359 Z16) hb) (Kd.R_base ho0)) (Kd.R_base ho1)) (fun _ h_ => h_.1)); replace HO353 := am (Kd.R_mono (Kd.R_told (Kd.R_told (Kd.R_old (fS HO353 BK359 Z16) hb) (Kd.R_base ho0)) (Kd.R_base ho1)) (fun _ h_ => h_.1)); replace HO357 := am (Kd.R_mono (Kd.R_told (Kd.R_told (Kd.R_old (fS HO357 BK359 Z16) hb) (Kd.R_base ho0)) (Kd.R_base ho1)) (fun _ h_ => h_.1)); replace HO358 := am (Kd.R_mono (Kd.R_told (Kd.R_told (Kd.R_old (fS HO358 BK359 Z16) hb) (Kd.R_base ho0)) (Kd.R_base ho1)) (fun _ h_ => h_.1)); replace BK291 := am (blk_below (g := gb291) (o := .cells #[.int .i64 t260, .int .i64 t264, .int .i64 t265, .int .i64 t266, .slice Ao12 t267.length co12, .int .i64 t268, .slice Ao13 t269.length co13] 28 (0, 0)) (pf NB291_359 (pf NB291_359 (pf NB291_359 (pf NB291_359 (pf NB291_359 (pf NB291_359 (pf NB291_359 (pb BK291)))))))) hb); replace BK296 := am (blk_below (g := gb296) (o := .cells #[.int .i64 t261, .int .i64 t272, .int .i64 t273, .int .i64 t274, .slice Ao18 t275.length co18, .int .i64 t276, .slice Ao19 t277.length co19] 28 (0, 0)) (pf NB296_359 (pf NB296_359 (pf NB296_359 (pf NB296_359 (pf NB296_359 (pf NB296_359 (pf NB296_359 (pb BK296)))))))) hb); replace BK301 := am (blk_below (g := gb301) (o := .cells #[.int .i64 t262, .int .i64 t279, .int .i64 t280, .int .i64 t281, .slice Ao26 t282.length co26, .int .i64 t283, .slice Ao27 t284.length co27] 28 (0, 0)) (pf NB301_359 (pf NB301_359 (pf NB301_359 (pf NB301_359 (pf NB301_359 (pf NB301_359 (pf NB301_359 (pb BK301)))))))) hb); replace BK349 := am (blk_below (g := gb349) (o := .cells #[.int .i64 t309, .int .i64 t310, .int .i64 t311, .int .i64 t312, .slice Ao52 t313.length co52, .int .i64 t314, .slice Ao53 t315.length co53] 28 (0, 0)) (pf NB349_359 (pf NB349_359 (pf NB349_359 (pf NB349_359 (pf NB349_359 (pf NB349_359 (pf NB349_359 (pb BK349)))))))) hb); replace BK354 := am (blk_below (g := gb354) (o := .cells #[.int .i64 t318, .int .i64 t319, .int .i64 t320, .int .i64 t321, .slice Ao62 t322.length co62, .int .i64 t323, .slice Ao63 t324.length co63] 28 (0, 0)) (pf NB354_359 (pf NB354_359 (pf NB354_359 (pf NB354_359 (pf NB354_359 (pf NB354_359 (pf NB354_359 (pb BK354)))))))) hb); replace BK359 := am (blk_below (g := gb359) (o := .cells #[.int .i64 t327, .int .i64 t328, .int .i64 t329, .int .i64 t330, .slice Ao73 t331.length co73, .int .i64 t332, .slice Ao74 t333.length co74] 28 (0, 0)) (pT (pp 6 (pp 5 (pp 4 (pp 3 (pp 2 (pp 1 (pp 0 (pb BK359))))))))) hb); replace HB := am (below_step (uN HB) hb); (try clear hb); (try clear hb2); (try clear hk); (try clear hi); (try clear ho0); (try clear ho1)) | ((with_reducible refine gate_dst (N := 18) rfl ?_); refine box_event ?hg (N := 18) ?hd (cs := #[.int .i64 0, .int .i64 0, .int .i64 0, .int .i64 0, .slice none 0 0, .int .i64 0, .slice none 0 0]) (t := 28) ?hr ?_; (case hd => rfl); (case hg => rfl); (case hr => exact Z111); intro gb364 hg w78 hbox hb; replace HO_303 := rB HO_303 hb; replace HO_304 := rB HO_304 hb; replace HO_305 := rB HO_305 hb; replace HO_306 := rB HO_306 hb; replace HO_307 := rB HO_307 hb; replace HO_308 := rB HO_308 hb; replace HO347 := rB HO347 hb; replace HO348 := rB HO348 hb; replace HO352 := rB HO352 hb; replace HO353 := rB HO353 hb; replace HO357 := rB HO357 hb; replace HO358 := rB HO358 hb; replace HO362 := rB HO362 hb; replace HO363 := rB HO363 hb; have BK364 := am (hbox); have GW364 := nG HB hg; have GE364 := nG HB hg; have GI364 := gI GE364; have GI364 := gI GE364; replace HB := am (below_step (uN HB) hb); have NB291_364 := nL BK291 hg; have NB364_291 := nR BK291 hg; replace BK291 := kB BK291 hb; have NB296_364 := nL BK296 hg; have NB364_296 := nR BK296 hg; replace BK296 := kB BK296 hb; have NB301_364 := nL BK301 hg; have NB364_301 := nR BK301 hg; replace BK301 := kB BK301 hb; have NB349_364 := nL BK349 hg; have NB364_349 := nR BK349 hg; replace BK349 := kB BK349 hb; have NB354_364 := nL BK354 hg; have NB364_354 := nR BK354 hg; replace BK354 := kB BK354 hb; have NB359_364 := nL BK359 hg; have NB364_359 := nR BK359 hg; replace BK359 := kB BK359 hb; clear hb hbox hg; have hnb79 := NB364_291.out; have hnc79 := NB291_364.out; have hnb80 := NB364_296.out; have hnc80 := NB296_364.out; have hnb81 := NB364_301.out; have hnc81 := NB301_364.out; have hnb82 := NB364_349.out; have hnc82 := NB349_364.out; have hnb83 := NB364_354.out; have hnc83 := NB354_364.out; have hnb84 := NB364_359.out; have hnc84 := NB359_364.out; obtain ⟨hcz85_0, hcz85_1, hcz85_2, hcz85_3, hcz85_4, hcz85_5, hcz85_6, hfz85_0, hfz85_1, hfz85_2, hfz85_3, hfz85_4, hfz85_5, hfz85_6⟩ := ce7 BK364; obtain ⟨Ao86, co86, eo86⟩ := Kd.R_slice HO362.out; subst eo86; obtain ⟨Ao87, co87, eo87⟩ := Kd.R_slice HO363.out; subst eo87))
   (try simp only [Act.put, setIfInBounds_toArray, set_cons_zero, set_cons_succ])
   go_cut [110] (fun v365 wc => ∃ (kq : Nat) (x365_41 : Bool), v365 = .bool x365_41 ∧ Aside0 (Ff.j1 kq t270 x365_41 t260 t264 t265 t266 t267 t268 t269 t261 t272 t273 t274 t275 t276 t277 = some r) ∧ Aside0 (kq ≤ kj7) ∧ Aside0 (Kd.R (Kd.int .i64) 3 wc w.heap.size (fun k_ => nb k_ Ao13 t269.length co13 ∧ nb k_ Ao18 t275.length co18 ∧ nb k_ Ao19 t277.length co19 ∧ nb k_ Ao26 t282.length co26 ∧ nb k_ Ao27 t284.length co27 ∧ nb k_ Ao52 t313.length co52 ∧ nb k_ Ao53 t315.length co53 ∧ nb k_ Ao62 t322.length co62 ∧ nb k_ Ao63 t324.length co63 ∧ nb k_ Ao73 t331.length co73 ∧ nb k_ Ao74 t333.length co74 ∧ nb k_ Ao86 t340.length co86 ∧ some k_ ≠ ((.slice Ao87 t342.length co87) : Value).ownBlock) (.slice Ao12 t267.length co12) t267) ∧ Aside0 (Kd.R (Kd.int .i64) 3 wc w.heap.size (fun k_ => nb k_ Ao12 t267.length co12 ∧ nb k_ Ao18 t275.length co18 ∧ nb k_ Ao19 t277.length co19 ∧ nb k_ Ao26 t282.length co26 ∧ nb k_ Ao27 t284.length co27 ∧ nb k_ Ao52 t313.length co52 ∧ nb k_ Ao53 t315.length co53 ∧ nb k_ Ao62 t322.length co62 ∧ nb k_ Ao63 t324.length co63 ∧ nb k_ Ao73 t331.length co73 ∧ nb k_ Ao74 t333.length co74 ∧ nb k_ Ao86 t340.length co86 ∧ some k_ ≠ ((.slice Ao87 t342.length co87) : Value).ownBlock) (.slice Ao13 t269.length co13) t269) ∧ Aside0 (Kd.R (Kd.int .i64) 3 wc w.heap.size (fun k_ => nb k_ Ao12 t267.length co12 ∧ nb k_ Ao13 t269.length co13 ∧ nb k_ Ao19 t277.length co19 ∧ nb k_ Ao26 t282.length co26 ∧ nb k_ Ao27 t284.length co27 ∧ nb k_ Ao52 t313.length co52 ∧ nb k_ Ao53 t315.length co53 ∧ nb k_ Ao62 t322.length co62 ∧ nb k_ Ao63 t324.length co63 ∧ nb k_ Ao73 t331.length co73 ∧ nb k_ Ao74 t333.length co74 ∧ nb k_ Ao86 t340.length co86 ∧ some k_ ≠ ((.slice Ao87 t342.length co87) : Value).ownBlock) (.slice Ao18 t275.length co18) t275) ∧ Aside0 (Kd.R (Kd.int .i64) 3 wc w.heap.size (fun k_ => nb k_ Ao12 t267.length co12 ∧ nb k_ Ao13 t269.length co13 ∧ nb k_ Ao18 t275.length co18 ∧ nb k_ Ao26 t282.length co26 ∧ nb k_ Ao27 t284.length co27 ∧ nb k_ Ao52 t313.length co52 ∧ nb k_ Ao53 t315.length co53 ∧ nb k_ Ao62 t322.length co62 ∧ nb k_ Ao63 t324.length co63 ∧ nb k_ Ao73 t331.length co73 ∧ nb k_ Ao74 t333.length co74 ∧ nb k_ Ao86 t340.length co86 ∧ some k_ ≠ ((.slice Ao87 t342.length co87) : Value).ownBlock) (.slice Ao19 t277.length co19) t277) ∧ Aside0 (Kd.R (Kd.int .i64) 3 wc w.heap.size (fun k_ => nb k_ Ao12 t267.length co12 ∧ nb k_ Ao13 t269.length co13 ∧ nb k_ Ao18 t275.length co18 ∧ nb k_ Ao19 t277.length co19 ∧ nb k_ Ao27 t284.length co27 ∧ nb k_ Ao52 t313.length co52 ∧ nb k_ Ao53 t315.length co53 ∧ nb k_ Ao62 t322.length co62 ∧ nb k_ Ao63 t324.length co63 ∧ nb k_ Ao73 t331.length co73 ∧ nb k_ Ao74 t333.length co74 ∧ nb k_ Ao86 t340.length co86 ∧ some k_ ≠ ((.slice Ao87 t342.length co87) : Value).ownBlock) (.slice Ao26 t282.length co26) t282) ∧ Aside0 (Kd.R (Kd.int .i64) 3 wc w.heap.size (fun k_ => nb k_ Ao12 t267.length co12 ∧ nb k_ Ao13 t269.length co13 ∧ nb k_ Ao18 t275.length co18 ∧ nb k_ Ao19 t277.length co19 ∧ nb k_ Ao26 t282.length co26 ∧ nb k_ Ao52 t313.length co52 ∧ nb k_ Ao53 t315.length co53 ∧ nb k_ Ao62 t322.length co62 ∧ nb k_ Ao63 t324.length co63 ∧ nb k_ Ao73 t331.length co73 ∧ nb k_ Ao74 t333.length co74 ∧ nb k_ Ao86 t340.length co86 ∧ some k_ ≠ ((.slice Ao87 t342.length co87) : Value).ownBlock) (.slice Ao27 t284.length co27) t284) ∧ Aside0 (Kd.R (Kd.int .i64) 3 wc w.heap.size (fun k_ => nb k_ Ao12 t267.length co12 ∧ nb k_ Ao13 t269.length co13 ∧ nb k_ Ao18 t275.length co18 ∧ nb k_ Ao19 t277.length co19 ∧ nb k_ Ao26 t282.length co26 ∧ nb k_ Ao27 t284.length co27 ∧ nb k_ Ao53 t315.length co53 ∧ nb k_ Ao62 t322.length co62 ∧ nb k_ Ao63 t324.length co63 ∧ nb k_ Ao73 t331.length co73 ∧ nb k_ Ao74 t333.length co74 ∧ nb k_ Ao86 t340.length co86 ∧ some k_ ≠ ((.slice Ao87 t342.length co87) : Value).ownBlock) (.slice Ao52 t313.length co52) t313) ∧ Aside0 (Kd.R (Kd.int .i64) 3 wc w.heap.size (fun k_ => nb k_ Ao12 t267.length co12 ∧ nb k_ Ao13 t269.length co13 ∧ nb k_ Ao18 t275.length co18 ∧ nb k_ Ao19 t277.length co19 ∧ nb k_ Ao26 t282.length co26 ∧ nb k_ Ao27 t284.length co27 ∧ nb k_ Ao52 t313.length co52 ∧ nb k_ Ao62 t322.length co62 ∧ nb k_ Ao63 t324.length co63 ∧ nb k_ Ao73 t331.length co73 ∧ nb k_ Ao74 t333.length co74 ∧ nb k_ Ao86 t340.length co86 ∧ some k_ ≠ ((.slice Ao87 t342.length co87) : Value).ownBlock) (.slice Ao53 t315.length co53) t315) ∧ Aside0 (Kd.R (Kd.int .i64) 3 wc w.heap.size (fun k_ => nb k_ Ao12 t267.length co12 ∧ nb k_ Ao13 t269.length co13 ∧ nb k_ Ao18 t275.length co18 ∧ nb k_ Ao19 t277.length co19 ∧ nb k_ Ao26 t282.length co26 ∧ nb k_ Ao27 t284.length co27 ∧ nb k_ Ao52 t313.length co52 ∧ nb k_ Ao53 t315.length co53 ∧ nb k_ Ao63 t324.length co63 ∧ nb k_ Ao73 t331.length co73 ∧ nb k_ Ao74 t333.length co74 ∧ nb k_ Ao86 t340.length co86 ∧ some k_ ≠ ((.slice Ao87 t342.length co87) : Value).ownBlock) (.slice Ao62 t322.length co62) t322) ∧ Aside0 (Kd.R (Kd.int .i64) 3 wc w.heap.size (fun k_ => nb k_ Ao12 t267.length co12 ∧ nb k_ Ao13 t269.length co13 ∧ nb k_ Ao18 t275.length co18 ∧ nb k_ Ao19 t277.length co19 ∧ nb k_ Ao26 t282.length co26 ∧ nb k_ Ao27 t284.length co27 ∧ nb k_ Ao52 t313.length co52 ∧ nb k_ Ao53 t315.length co53 ∧ nb k_ Ao62 t322.length co62 ∧ nb k_ Ao73 t331.length co73 ∧ nb k_ Ao74 t333.length co74 ∧ nb k_ Ao86 t340.length co86 ∧ some k_ ≠ ((.slice Ao87 t342.length co87) : Value).ownBlock) (.slice Ao63 t324.length co63) t324) ∧ Aside0 (Kd.R (Kd.int .i64) 3 wc w.heap.size (fun k_ => nb k_ Ao12 t267.length co12 ∧ nb k_ Ao13 t269.length co13 ∧ nb k_ Ao18 t275.length co18 ∧ nb k_ Ao19 t277.length co19 ∧ nb k_ Ao26 t282.length co26 ∧ nb k_ Ao27 t284.length co27 ∧ nb k_ Ao52 t313.length co52 ∧ nb k_ Ao53 t315.length co53 ∧ nb k_ Ao62 t322.length co62 ∧ nb k_ Ao63 t324.length co63 ∧ nb k_ Ao74 t333.length co74 ∧ nb k_ Ao86 t340.length co86 ∧ some k_ ≠ ((.slice Ao87 t342.length co87) : Value).ownBlock) (.slice Ao73 t331.length co73) t331) ∧ Aside0 (Kd.R (Kd.int .i64) 3 wc w.heap.size (fun k_ => nb k_ Ao12 t267.length co12 ∧ nb k_ Ao13 t269.length co13 ∧ nb k_ Ao18 t275.length co18 ∧ nb k_ Ao19 t277.length co19 ∧ nb k_ Ao26 t282.length co26 ∧ nb k_ Ao27 t284.length co27 ∧ nb k_ Ao52 t313.length co52 ∧ nb k_ Ao53 t315.length co53 ∧ nb k_ Ao62 t322.length co62 ∧ nb k_ Ao63 t324.length co63 ∧ nb k_ Ao73 t331.length co73 ∧ nb k_ Ao86 t340.length co86 ∧ some k_ ≠ ((.slice Ao87 t342.length co87) : Value).ownBlock) (.slice Ao74 t333.length co74) t333) ∧ Aside0 (Kd.R (Kd.int .i64) 3 wc w.heap.size (fun k_ => nb k_ Ao12 t267.length co12 ∧ nb k_ Ao13 t269.length co13 ∧ nb k_ Ao18 t275.length co18 ∧ nb k_ Ao19 t277.length co19 ∧ nb k_ Ao26 t282.length co26 ∧ nb k_ Ao27 t284.length co27 ∧ nb k_ Ao52 t313.length co52 ∧ nb k_ Ao53 t315.length co53 ∧ nb k_ Ao62 t322.length co62 ∧ nb k_ Ao63 t324.length co63 ∧ nb k_ Ao73 t331.length co73 ∧ nb k_ Ao74 t333.length co74 ∧ some k_ ≠ ((.slice Ao87 t342.length co87) : Value).ownBlock) (.slice Ao86 t340.length co86) t340) ∧ Aside0 (Kd.R (Kd.int .i64) 3 wc w.heap.size (fun k_ => nb k_ Ao12 t267.length co12 ∧ nb k_ Ao13 t269.length co13 ∧ nb k_ Ao18 t275.length co18 ∧ nb k_ Ao19 t277.length co19 ∧ nb k_ Ao26 t282.length co26 ∧ nb k_ Ao27 t284.length co27 ∧ nb k_ Ao52 t313.length co52 ∧ nb k_ Ao53 t315.length co53 ∧ nb k_ Ao62 t322.length co62 ∧ nb k_ Ao63 t324.length co63 ∧ nb k_ Ao73 t331.length co73 ∧ nb k_ Ao74 t333.length co74 ∧ some k_ ≠ ((.slice Ao86 t340.length co86) : Value).ownBlock) (.slice Ao87 t342.length co87) t342) ∧ Aside0 (wc.heap[gb291]? = some (.cells #[.int .i64 t260, .int .i64 t264, .int .i64 t265, .int .i64 t266, (.slice Ao12 t267.length co12), .int .i64 t268, (.slice Ao13 t269.length co13)] 28 (0, 0))) ∧ Aside0 (wc.heap[gb296]? = some (.cells #[.int .i64 t261, .int .i64 t272, .int .i64 t273, .int .i64 t274, (.slice Ao18 t275.length co18), .int .i64 t276, (.slice Ao19 t277.length co19)] 28 (0, 0))) ∧ Aside0 (wc.heap[gb301]? = some (.cells #[.int .i64 t262, .int .i64 t279, .int .i64 t280, .int .i64 t281, (.slice Ao26 t282.length co26), .int .i64 t283, (.slice Ao27 t284.length co27)] 28 (0, 0))) ∧ Aside0 (wc.heap[gb349]? = some (.cells #[.int .i64 t309, .int .i64 t310, .int .i64 t311, .int .i64 t312, (.slice Ao52 t313.length co52), .int .i64 t314, (.slice Ao53 t315.length co53)] 28 (0, 0))) ∧ Aside0 (wc.heap[gb354]? = some (.cells #[.int .i64 t318, .int .i64 t319, .int .i64 t320, .int .i64 t321, (.slice Ao62 t322.length co62), .int .i64 t323, (.slice Ao63 t324.length co63)] 28 (0, 0))) ∧ Aside0 (wc.heap[gb359]? = some (.cells #[.int .i64 t327, .int .i64 t328, .int .i64 t329, .int .i64 t330, (.slice Ao73 t331.length co73), .int .i64 t332, (.slice Ao74 t333.length co74)] 28 (0, 0))) ∧ Aside0 (wc.heap[gb364]? = some (.cells #[.int .i64 t336, .int .i64 t337, .int .i64 t338, .int .i64 t339, (.slice Ao86 t340.length co86), .int .i64 t341, (.slice Ao87 t342.length co87)] 28 (0, 0))) ∧ Aside0 (Below w.heap.size w wc))
   case first =>
    have H := HC42.out
    clear HC42
    by_cases c88 : t316 = true
    ·
     subst c88
     rw [if_pos rfl] at H
     by_cases c89 : t325 = true
     ·
      subst c89
      rw [if_pos rfl] at H
      by_cases c90 : t334 = true
      ·
       subst c90
       rw [if_pos rfl] at H
       by_cases c91 : t343 = true
       ·
        subst c91
        rw [if_pos rfl] at H
        replace H := Option.bind_eq_some_iff.mp H
        obtain ⟨t366, A367, H⟩ := H
        try dsimp only at H
        have A92 := am A367
        clear A367
        have H' := am H
        clear H
        have hnb93 := NB364_291.out
        have hnc93 := NB291_364.out
        have hnb94 := NB364_296.out
        have hnc94 := NB296_364.out
        have hnb95 := NB364_301.out
        have hnc95 := NB301_364.out
        have hnb96 := NB364_349.out
        have hnc96 := NB349_364.out
        have hnb97 := NB364_354.out
        have hnc97 := NB354_364.out
        have hnb98 := NB364_359.out
        have hnc98 := NB359_364.out
        obtain ⟨hcz99_0, hcz99_1, hcz99_2, hcz99_3, hcz99_4, hcz99_5, hcz99_6, hfz99_0, hfz99_1, hfz99_2, hfz99_3, hfz99_4, hfz99_5, hfz99_6⟩ := ce7 BK364
        have hnb368 := NB291_296.out
        have hnc368 := NB296_291.out
        have hnb369 := NB291_301.out
        have hnc369 := NB301_291.out
        have hnb370 := NB291_349.out
        have hnc370 := NB349_291.out
        have hnb371 := NB291_354.out
        have hnc371 := NB354_291.out
        have hnb372 := NB291_359.out
        have hnc372 := NB359_291.out
        obtain ⟨hcz373_0, hcz373_1, hcz373_2, hcz373_3, hcz373_4, hcz373_5, hcz373_6, hfz373_0, hfz373_1, hfz373_2, hfz373_3, hfz373_4, hfz373_5, hfz373_6⟩ := ce7 BK291
        go_wp2_with (first | (go_at_call 15; (with_reducible refine (FX.calls kj7 t336 t337 t338 t339 _ _ t340 t341 _ _ t342 t260 t264 t265 t266 _ _ t267 t268 _ _ t269 t366 _ ?side1 ?side2 ?side3 ?side4 ?side5 ?side6 ?side7 ?side8 A92.out).mono ?_); (case side1 => refine (Kd.R_reads' (e := 3) (base := w.heap.size) (ok := fun k_ => ((((((((((((some k_ ≠ (.slice Ao87 t342.length co87 : Value).ownBlock ∧ some k_ ≠ (.slice Ao12 t267.length co12 : Value).ownBlock) ∧ some k_ ≠ (.slice Ao13 t269.length co13 : Value).ownBlock) ∧ some k_ ≠ (.slice Ao18 t275.length co18 : Value).ownBlock) ∧ some k_ ≠ (.slice Ao19 t277.length co19 : Value).ownBlock) ∧ some k_ ≠ (.slice Ao26 t282.length co26 : Value).ownBlock) ∧ some k_ ≠ (.slice Ao27 t284.length co27 : Value).ownBlock) ∧ some k_ ≠ (.slice Ao52 t313.length co52 : Value).ownBlock) ∧ some k_ ≠ (.slice Ao53 t315.length co53 : Value).ownBlock) ∧ some k_ ≠ (.slice Ao62 t322.length co62 : Value).ownBlock) ∧ some k_ ≠ (.slice Ao63 t324.length co63 : Value).ownBlock) ∧ some k_ ≠ (.slice Ao73 t331.length co73 : Value).ownBlock) ∧ some k_ ≠ (.slice Ao74 t333.length co74 : Value).ownBlock)) (n := t340.length) (c := co86) ?_).2.2; exact (fS HO362 BK364 Z16)); (case side2 => exact (Kd.R_reads' HO362.out).2.1); (case side3 => refine (Kd.R_reads' (e := 3) (base := w.heap.size) (ok := fun k_ => ((((((((((((some k_ ≠ (.slice Ao86 t340.length co86 : Value).ownBlock ∧ some k_ ≠ (.slice Ao12 t267.length co12 : Value).ownBlock) ∧ some k_ ≠ (.slice Ao13 t269.length co13 : Value).ownBlock) ∧ some k_ ≠ (.slice Ao18 t275.length co18 : Value).ownBlock) ∧ some k_ ≠ (.slice Ao19 t277.length co19 : Value).ownBlock) ∧ some k_ ≠ (.slice Ao26 t282.length co26 : Value).ownBlock) ∧ some k_ ≠ (.slice Ao27 t284.length co27 : Value).ownBlock) ∧ some k_ ≠ (.slice Ao52 t313.length co52 : Value).ownBlock) ∧ some k_ ≠ (.slice Ao53 t315.length co53 : Value).ownBlock) ∧ some k_ ≠ (.slice Ao62 t322.length co62 : Value).ownBlock) ∧ some k_ ≠ (.slice Ao63 t324.length co63 : Value).ownBlock) ∧ some k_ ≠ (.slice Ao73 t331.length co73 : Value).ownBlock) ∧ some k_ ≠ (.slice Ao74 t333.length co74 : Value).ownBlock)) (n := t342.length) (c := co87) ?_).2.2; exact (fS HO363 BK364 Z16)); (case side4 => exact (Kd.R_reads' HO363.out).2.1); (case side5 => refine (Kd.R_reads' (e := 3) (base := w.heap.size) (ok := fun k_ => (((((((((some k_ ≠ (.slice Ao13 t269.length co13 : Value).ownBlock ∧ (some k_ ≠ (.slice Ao18 t275.length co18 : Value).ownBlock ∧ (some k_ ≠ (.slice Ao19 t277.length co19 : Value).ownBlock ∧ (some k_ ≠ (.slice Ao26 t282.length co26 : Value).ownBlock ∧ some k_ ≠ (.slice Ao27 t284.length co27 : Value).ownBlock)))) ∧ some k_ ≠ (.slice Ao52 t313.length co52 : Value).ownBlock) ∧ some k_ ≠ (.slice Ao53 t315.length co53 : Value).ownBlock) ∧ some k_ ≠ (.slice Ao62 t322.length co62 : Value).ownBlock) ∧ some k_ ≠ (.slice Ao63 t324.length co63 : Value).ownBlock) ∧ some k_ ≠ (.slice Ao73 t331.length co73 : Value).ownBlock) ∧ some k_ ≠ (.slice Ao74 t333.length co74 : Value).ownBlock) ∧ some k_ ≠ (.slice Ao86 t340.length co86 : Value).ownBlock) ∧ some k_ ≠ (.slice Ao87 t342.length co87 : Value).ownBlock)) (n := t267.length) (c := co12) ?_).2.2; exact (fS HO_303 BK364 Z16)); (case side6 => exact (Kd.R_reads' HO_303.out).2.1); (case side7 => refine (Kd.R_reads' (e := 3) (base := w.heap.size) (ok := fun k_ => (((((((((some k_ ≠ (.slice Ao12 t267.length co12 : Value).ownBlock ∧ (some k_ ≠ (.slice Ao18 t275.length co18 : Value).ownBlock ∧ (some k_ ≠ (.slice Ao19 t277.length co19 : Value).ownBlock ∧ (some k_ ≠ (.slice Ao26 t282.length co26 : Value).ownBlock ∧ some k_ ≠ (.slice Ao27 t284.length co27 : Value).ownBlock)))) ∧ some k_ ≠ (.slice Ao52 t313.length co52 : Value).ownBlock) ∧ some k_ ≠ (.slice Ao53 t315.length co53 : Value).ownBlock) ∧ some k_ ≠ (.slice Ao62 t322.length co62 : Value).ownBlock) ∧ some k_ ≠ (.slice Ao63 t324.length co63 : Value).ownBlock) ∧ some k_ ≠ (.slice Ao73 t331.length co73 : Value).ownBlock) ∧ some k_ ≠ (.slice Ao74 t333.length co74 : Value).ownBlock) ∧ some k_ ≠ (.slice Ao86 t340.length co86 : Value).ownBlock) ∧ some k_ ≠ (.slice Ao87 t342.length co87 : Value).ownBlock)) (n := t269.length) (c := co13) ?_).2.2; exact (fS HO_304 BK364 Z16)); (case side8 => exact (Kd.R_reads' HO_304.out).2.1); rintro e w374 ⟨rfl, hb⟩; replace HO_303 := am (Kd.R_below (fS HO_303 BK364 Z16) hb); replace HO_304 := am (Kd.R_below (fS HO_304 BK364 Z16) hb); replace HO_305 := am (Kd.R_below (fS HO_305 BK364 Z16) hb); replace HO_306 := am (Kd.R_below (fS HO_306 BK364 Z16) hb); replace HO_307 := am (Kd.R_below (fS HO_307 BK364 Z16) hb); replace HO_308 := am (Kd.R_below (fS HO_308 BK364 Z16) hb); replace HO347 := am (Kd.R_below (fS HO347 BK364 Z16) hb); replace HO348 := am (Kd.R_below (fS HO348 BK364 Z16) hb); replace HO352 := am (Kd.R_below (fS HO352 BK364 Z16) hb); replace HO353 := am (Kd.R_below (fS HO353 BK364 Z16) hb); replace HO357 := am (Kd.R_below (fS HO357 BK364 Z16) hb); replace HO358 := am (Kd.R_below (fS HO358 BK364 Z16) hb); replace HO362 := am (Kd.R_below (fS HO362 BK364 Z16) hb); replace HO363 := am (Kd.R_below (fS HO363 BK364 Z16) hb); replace BK291 := am (blk_below (g := gb291) (o := .cells #[.int .i64 t260, .int .i64 t264, .int .i64 t265, .int .i64 t266, .slice Ao12 t267.length co12, .int .i64 t268, .slice Ao13 t269.length co13] 28 (0, 0)) (pf NB291_364 (pf NB291_364 (pf NB291_364 (pf NB291_364 (pf NB291_364 (pf NB291_364 (pf NB291_364 (pb BK291)))))))) hb); replace BK296 := am (blk_below (g := gb296) (o := .cells #[.int .i64 t261, .int .i64 t272, .int .i64 t273, .int .i64 t274, .slice Ao18 t275.length co18, .int .i64 t276, .slice Ao19 t277.length co19] 28 (0, 0)) (pf NB296_364 (pf NB296_364 (pf NB296_364 (pf NB296_364 (pf NB296_364 (pf NB296_364 (pf NB296_364 (pb BK296)))))))) hb); replace BK301 := am (blk_below (g := gb301) (o := .cells #[.int .i64 t262, .int .i64 t279, .int .i64 t280, .int .i64 t281, .slice Ao26 t282.length co26, .int .i64 t283, .slice Ao27 t284.length co27] 28 (0, 0)) (pf NB301_364 (pf NB301_364 (pf NB301_364 (pf NB301_364 (pf NB301_364 (pf NB301_364 (pf NB301_364 (pb BK301)))))))) hb); replace BK349 := am (blk_below (g := gb349) (o := .cells #[.int .i64 t309, .int .i64 t310, .int .i64 t311, .int .i64 t312, .slice Ao52 t313.length co52, .int .i64 t314, .slice Ao53 t315.length co53] 28 (0, 0)) (pf NB349_364 (pf NB349_364 (pf NB349_364 (pf NB349_364 (pf NB349_364 (pf NB349_364 (pf NB349_364 (pb BK349)))))))) hb); replace BK354 := am (blk_below (g := gb354) (o := .cells #[.int .i64 t318, .int .i64 t319, .int .i64 t320, .int .i64 t321, .slice Ao62 t322.length co62, .int .i64 t323, .slice Ao63 t324.length co63] 28 (0, 0)) (pf NB354_364 (pf NB354_364 (pf NB354_364 (pf NB354_364 (pf NB354_364 (pf NB354_364 (pf NB354_364 (pb BK354)))))))) hb); replace BK359 := am (blk_below (g := gb359) (o := .cells #[.int .i64 t327, .int .i64 t328, .int .i64 t329, .int .i64 t330, .slice Ao73 t331.length co73, .int .i64 t332, .slice Ao74 t333.length co74] 28 (0, 0)) (pf NB359_364 (pf NB359_364 (pf NB359_364 (pf NB359_364 (pf NB359_364 (pf NB359_364 (pf NB359_364 (pb BK359)))))))) hb); replace BK364 := am (blk_below (g := gb364) (o := .cells #[.int .i64 t336, .int .i64 t337, .int .i64 t338, .int .i64 t339, .slice Ao86 t340.length co86, .int .i64 t341, .slice Ao87 t342.length co87] 28 (0, 0)) (pT (pp 6 (pp 5 (pp 4 (pp 3 (pp 2 (pp 1 (pp 0 (pb BK364))))))))) hb); replace HB := am (below_step (uN HB) hb); (try clear hb); (try clear hb2); (try clear hk); (try clear hi)))
        go_meet
        case rel => exact ⟨_, (!t366), Z110, H', ⟨by have := HJ7.out; first | omega | exact Nat.le_refl _⟩, ⟨by (with_reducible repeat (first | apply Kd.R_alloc | apply Kd.R_drewN | apply Kd.R_drew)); exact Kd.R_mono HO_303.out (fun _ hk => ⟨hk.1.1.1.1.1.1.1.1.1, ⟨hk.1.1.1.1.1.1.1.1.2.1, ⟨hk.1.1.1.1.1.1.1.1.2.2.1, ⟨hk.1.1.1.1.1.1.1.1.2.2.2.1, ⟨hk.1.1.1.1.1.1.1.1.2.2.2.2, ⟨hk.1.1.1.1.1.1.1.2, ⟨hk.1.1.1.1.1.1.2, ⟨hk.1.1.1.1.1.2, ⟨hk.1.1.1.1.2, ⟨hk.1.1.1.2, ⟨hk.1.1.2, ⟨hk.1.2, hk.2⟩⟩⟩⟩⟩⟩⟩⟩⟩⟩⟩⟩)⟩, ⟨by (with_reducible repeat (first | apply Kd.R_alloc | apply Kd.R_drewN | apply Kd.R_drew)); exact Kd.R_mono HO_304.out (fun _ hk => ⟨hk.1.1.1.1.1.1.1.1.1, ⟨hk.1.1.1.1.1.1.1.1.2.1, ⟨hk.1.1.1.1.1.1.1.1.2.2.1, ⟨hk.1.1.1.1.1.1.1.1.2.2.2.1, ⟨hk.1.1.1.1.1.1.1.1.2.2.2.2, ⟨hk.1.1.1.1.1.1.1.2, ⟨hk.1.1.1.1.1.1.2, ⟨hk.1.1.1.1.1.2, ⟨hk.1.1.1.1.2, ⟨hk.1.1.1.2, ⟨hk.1.1.2, ⟨hk.1.2, hk.2⟩⟩⟩⟩⟩⟩⟩⟩⟩⟩⟩⟩)⟩, ⟨by (with_reducible repeat (first | apply Kd.R_alloc | apply Kd.R_drewN | apply Kd.R_drew)); exact Kd.R_mono HO_305.out (fun _ hk => ⟨hk.1.1.1.1.1.1.1.1.1, ⟨hk.1.1.1.1.1.1.1.1.2.1, ⟨hk.1.1.1.1.1.1.1.1.2.2.1, ⟨hk.1.1.1.1.1.1.1.1.2.2.2.1, ⟨hk.1.1.1.1.1.1.1.1.2.2.2.2, ⟨hk.1.1.1.1.1.1.1.2, ⟨hk.1.1.1.1.1.1.2, ⟨hk.1.1.1.1.1.2, ⟨hk.1.1.1.1.2, ⟨hk.1.1.1.2, ⟨hk.1.1.2, ⟨hk.1.2, hk.2⟩⟩⟩⟩⟩⟩⟩⟩⟩⟩⟩⟩)⟩, ⟨by (with_reducible repeat (first | apply Kd.R_alloc | apply Kd.R_drewN | apply Kd.R_drew)); exact Kd.R_mono HO_306.out (fun _ hk => ⟨hk.1.1.1.1.1.1.1.1.1, ⟨hk.1.1.1.1.1.1.1.1.2.1, ⟨hk.1.1.1.1.1.1.1.1.2.2.1, ⟨hk.1.1.1.1.1.1.1.1.2.2.2.1, ⟨hk.1.1.1.1.1.1.1.1.2.2.2.2, ⟨hk.1.1.1.1.1.1.1.2, ⟨hk.1.1.1.1.1.1.2, ⟨hk.1.1.1.1.1.2, ⟨hk.1.1.1.1.2, ⟨hk.1.1.1.2, ⟨hk.1.1.2, ⟨hk.1.2, hk.2⟩⟩⟩⟩⟩⟩⟩⟩⟩⟩⟩⟩)⟩, ⟨by (with_reducible repeat (first | apply Kd.R_alloc | apply Kd.R_drewN | apply Kd.R_drew)); exact Kd.R_mono HO_307.out (fun _ hk => ⟨hk.1.1.1.1.1.1.1.1.1, ⟨hk.1.1.1.1.1.1.1.1.2.1, ⟨hk.1.1.1.1.1.1.1.1.2.2.1, ⟨hk.1.1.1.1.1.1.1.1.2.2.2.1, ⟨hk.1.1.1.1.1.1.1.1.2.2.2.2, ⟨hk.1.1.1.1.1.1.1.2, ⟨hk.1.1.1.1.1.1.2, ⟨hk.1.1.1.1.1.2, ⟨hk.1.1.1.1.2, ⟨hk.1.1.1.2, ⟨hk.1.1.2, ⟨hk.1.2, hk.2⟩⟩⟩⟩⟩⟩⟩⟩⟩⟩⟩⟩)⟩, ⟨by (with_reducible repeat (first | apply Kd.R_alloc | apply Kd.R_drewN | apply Kd.R_drew)); exact Kd.R_mono HO_308.out (fun _ hk => ⟨hk.1.1.1.1.1.1.1.1.1, ⟨hk.1.1.1.1.1.1.1.1.2.1, ⟨hk.1.1.1.1.1.1.1.1.2.2.1, ⟨hk.1.1.1.1.1.1.1.1.2.2.2.1, ⟨hk.1.1.1.1.1.1.1.1.2.2.2.2, ⟨hk.1.1.1.1.1.1.1.2, ⟨hk.1.1.1.1.1.1.2, ⟨hk.1.1.1.1.1.2, ⟨hk.1.1.1.1.2, ⟨hk.1.1.1.2, ⟨hk.1.1.2, ⟨hk.1.2, hk.2⟩⟩⟩⟩⟩⟩⟩⟩⟩⟩⟩⟩)⟩, ⟨by (with_reducible repeat (first | apply Kd.R_alloc | apply Kd.R_drewN | apply Kd.R_drew)); exact Kd.R_mono HO347.out (fun _ hk => ⟨hk.1.1.1.1.1.1.1.1.1.1.1.2, ⟨hk.1.1.1.1.1.1.1.1.1.1.2, ⟨hk.1.1.1.1.1.1.1.1.1.2, ⟨hk.1.1.1.1.1.1.1.1.2, ⟨hk.1.1.1.1.1.1.1.2, ⟨hk.1.1.1.1.1.1.2, ⟨hk.1.1.1.1.1.1.1.1.1.1.1.1, ⟨hk.1.1.1.1.1.2, ⟨hk.1.1.1.1.2, ⟨hk.1.1.1.2, ⟨hk.1.1.2, ⟨hk.1.2, hk.2⟩⟩⟩⟩⟩⟩⟩⟩⟩⟩⟩⟩)⟩, ⟨by (with_reducible repeat (first | apply Kd.R_alloc | apply Kd.R_drewN | apply Kd.R_drew)); exact Kd.R_mono HO348.out (fun _ hk => ⟨hk.1.1.1.1.1.1.1.1.1.1.1.2, ⟨hk.1.1.1.1.1.1.1.1.1.1.2, ⟨hk.1.1.1.1.1.1.1.1.1.2, ⟨hk.1.1.1.1.1.1.1.1.2, ⟨hk.1.1.1.1.1.1.1.2, ⟨hk.1.1.1.1.1.1.2, ⟨hk.1.1.1.1.1.1.1.1.1.1.1.1, ⟨hk.1.1.1.1.1.2, ⟨hk.1.1.1.1.2, ⟨hk.1.1.1.2, ⟨hk.1.1.2, ⟨hk.1.2, hk.2⟩⟩⟩⟩⟩⟩⟩⟩⟩⟩⟩⟩)⟩, ⟨by (with_reducible repeat (first | apply Kd.R_alloc | apply Kd.R_drewN | apply Kd.R_drew)); exact Kd.R_mono HO352.out (fun _ hk => ⟨hk.1.1.1.1.1.1.1.1.1.1.1.2, ⟨hk.1.1.1.1.1.1.1.1.1.1.2, ⟨hk.1.1.1.1.1.1.1.1.1.2, ⟨hk.1.1.1.1.1.1.1.1.2, ⟨hk.1.1.1.1.1.1.1.2, ⟨hk.1.1.1.1.1.1.2, ⟨hk.1.1.1.1.1.2, ⟨hk.1.1.1.1.2, ⟨hk.1.1.1.1.1.1.1.1.1.1.1.1, ⟨hk.1.1.1.2, ⟨hk.1.1.2, ⟨hk.1.2, hk.2⟩⟩⟩⟩⟩⟩⟩⟩⟩⟩⟩⟩)⟩, ⟨by (with_reducible repeat (first | apply Kd.R_alloc | apply Kd.R_drewN | apply Kd.R_drew)); exact Kd.R_mono HO353.out (fun _ hk => ⟨hk.1.1.1.1.1.1.1.1.1.1.1.2, ⟨hk.1.1.1.1.1.1.1.1.1.1.2, ⟨hk.1.1.1.1.1.1.1.1.1.2, ⟨hk.1.1.1.1.1.1.1.1.2, ⟨hk.1.1.1.1.1.1.1.2, ⟨hk.1.1.1.1.1.1.2, ⟨hk.1.1.1.1.1.2, ⟨hk.1.1.1.1.2, ⟨hk.1.1.1.1.1.1.1.1.1.1.1.1, ⟨hk.1.1.1.2, ⟨hk.1.1.2, ⟨hk.1.2, hk.2⟩⟩⟩⟩⟩⟩⟩⟩⟩⟩⟩⟩)⟩, ⟨by (with_reducible repeat (first | apply Kd.R_alloc | apply Kd.R_drewN | apply Kd.R_drew)); exact Kd.R_mono HO357.out (fun _ hk => ⟨hk.1.1.1.1.1.1.1.1.1.1.1.2, ⟨hk.1.1.1.1.1.1.1.1.1.1.2, ⟨hk.1.1.1.1.1.1.1.1.1.2, ⟨hk.1.1.1.1.1.1.1.1.2, ⟨hk.1.1.1.1.1.1.1.2, ⟨hk.1.1.1.1.1.1.2, ⟨hk.1.1.1.1.1.2, ⟨hk.1.1.1.1.2, ⟨hk.1.1.1.2, ⟨hk.1.1.2, ⟨hk.1.1.1.1.1.1.1.1.1.1.1.1, ⟨hk.1.2, hk.2⟩⟩⟩⟩⟩⟩⟩⟩⟩⟩⟩⟩)⟩, ⟨by (with_reducible repeat (first | apply Kd.R_alloc | apply Kd.R_drewN | apply Kd.R_drew)); exact Kd.R_mono HO358.out (fun _ hk => ⟨hk.1.1.1.1.1.1.1.1.1.1.1.2, ⟨hk.1.1.1.1.1.1.1.1.1.1.2, ⟨hk.1.1.1.1.1.1.1.1.1.2, ⟨hk.1.1.1.1.1.1.1.1.2, ⟨hk.1.1.1.1.1.1.1.2, ⟨hk.1.1.1.1.1.1.2, ⟨hk.1.1.1.1.1.2, ⟨hk.1.1.1.1.2, ⟨hk.1.1.1.2, ⟨hk.1.1.2, ⟨hk.1.1.1.1.1.1.1.1.1.1.1.1, ⟨hk.1.2, hk.2⟩⟩⟩⟩⟩⟩⟩⟩⟩⟩⟩⟩)⟩, ⟨by (with_reducible repeat (first | apply Kd.R_alloc | apply Kd.R_drewN | apply Kd.R_drew)); exact Kd.R_mono HO362.out (fun _ hk => ⟨hk.1.1.1.1.1.1.1.1.1.1.1.2, ⟨hk.1.1.1.1.1.1.1.1.1.1.2, ⟨hk.1.1.1.1.1.1.1.1.1.2, ⟨hk.1.1.1.1.1.1.1.1.2, ⟨hk.1.1.1.1.1.1.1.2, ⟨hk.1.1.1.1.1.1.2, ⟨hk.1.1.1.1.1.2, ⟨hk.1.1.1.1.2, ⟨hk.1.1.1.2, ⟨hk.1.1.2, ⟨hk.1.2, ⟨hk.2, hk.1.1.1.1.1.1.1.1.1.1.1.1⟩⟩⟩⟩⟩⟩⟩⟩⟩⟩⟩⟩)⟩, ⟨by (with_reducible repeat (first | apply Kd.R_alloc | apply Kd.R_drewN | apply Kd.R_drew)); exact Kd.R_mono HO363.out (fun _ hk => ⟨hk.1.1.1.1.1.1.1.1.1.1.1.2, ⟨hk.1.1.1.1.1.1.1.1.1.1.2, ⟨hk.1.1.1.1.1.1.1.1.1.2, ⟨hk.1.1.1.1.1.1.1.1.2, ⟨hk.1.1.1.1.1.1.1.2, ⟨hk.1.1.1.1.1.1.2, ⟨hk.1.1.1.1.1.2, ⟨hk.1.1.1.1.2, ⟨hk.1.1.1.2, ⟨hk.1.1.2, ⟨hk.1.2, ⟨hk.2, hk.1.1.1.1.1.1.1.1.1.1.1.1⟩⟩⟩⟩⟩⟩⟩⟩⟩⟩⟩⟩)⟩, ⟨pb BK291⟩, ⟨pb BK296⟩, ⟨pb BK301⟩, ⟨pb BK349⟩, ⟨pb BK354⟩, ⟨pb BK359⟩, ⟨pb BK364⟩, ⟨uN HB⟩⟩
       replace c91 := Bool.eq_false_iff.mpr c91
       subst c91
       rw [if_neg (show ¬ (false = true) from Z16)] at H
       have H' := am H
       clear H
       go_wp2
       go_meet
       case rel => exact ⟨_, (true), Z110, H', ⟨by have := HJ7.out; first | omega | exact Nat.le_refl _⟩, ⟨Z119⟩, ⟨Z118⟩, ⟨Z117⟩, ⟨Z116⟩, ⟨Z115⟩, ⟨Z114⟩, ⟨Z127⟩, ⟨Z126⟩, ⟨Z125⟩, ⟨Z124⟩, ⟨Z123⟩, ⟨Z122⟩, ⟨Z121⟩, ⟨Z120⟩, ⟨pf NB291_364 (pf NB291_364 (pf NB291_364 (pf NB291_364 (pf NB291_364 (pf NB291_364 (pf NB291_364 (pb BK291)))))))⟩, ⟨pf NB296_364 (pf NB296_364 (pf NB296_364 (pf NB296_364 (pf NB296_364 (pf NB296_364 (pf NB296_364 (pb BK296)))))))⟩, ⟨pf NB301_364 (pf NB301_364 (pf NB301_364 (pf NB301_364 (pf NB301_364 (pf NB301_364 (pf NB301_364 (pb BK301)))))))⟩, ⟨pf NB349_364 (pf NB349_364 (pf NB349_364 (pf NB349_364 (pf NB349_364 (pf NB349_364 (pf NB349_364 (pb BK349)))))))⟩, ⟨pf NB354_364 (pf NB354_364 (pf NB354_364 (pf NB354_364 (pf NB354_364 (pf NB354_364 (pf NB354_364 (pb BK354)))))))⟩, ⟨pf NB359_364 (pf NB359_364 (pf NB359_364 (pf NB359_364 (pf NB359_364 (pf NB359_364 (pf NB359_364 (pb BK359)))))))⟩, ⟨pT (pp 6 (pp 5 (pp 4 (pp 3 (pp 2 (pp 1 (pp 0 (pb BK364))))))))⟩, ⟨uN HB⟩⟩
      replace c90 := Bool.eq_false_iff.mpr c90
      subst c90
      rw [if_neg (show ¬ (false = true) from Z16)] at H
      have H' := am H
      clear H
      go_wp2
      go_meet
      case rel => exact ⟨_, (true), Z110, H', ⟨by have := HJ7.out; first | omega | exact Nat.le_refl _⟩, ⟨Z119⟩, ⟨Z118⟩, ⟨Z117⟩, ⟨Z116⟩, ⟨Z115⟩, ⟨Z114⟩, ⟨Z127⟩, ⟨Z126⟩, ⟨Z125⟩, ⟨Z124⟩, ⟨Z123⟩, ⟨Z122⟩, ⟨Z121⟩, ⟨Z120⟩, ⟨pf NB291_364 (pf NB291_364 (pf NB291_364 (pf NB291_364 (pf NB291_364 (pf NB291_364 (pf NB291_364 (pb BK291)))))))⟩, ⟨pf NB296_364 (pf NB296_364 (pf NB296_364 (pf NB296_364 (pf NB296_364 (pf NB296_364 (pf NB296_364 (pb BK296)))))))⟩, ⟨pf NB301_364 (pf NB301_364 (pf NB301_364 (pf NB301_364 (pf NB301_364 (pf NB301_364 (pf NB301_364 (pb BK301)))))))⟩, ⟨pf NB349_364 (pf NB349_364 (pf NB349_364 (pf NB349_364 (pf NB349_364 (pf NB349_364 (pf NB349_364 (pb BK349)))))))⟩, ⟨pf NB354_364 (pf NB354_364 (pf NB354_364 (pf NB354_364 (pf NB354_364 (pf NB354_364 (pf NB354_364 (pb BK354)))))))⟩, ⟨pf NB359_364 (pf NB359_364 (pf NB359_364 (pf NB359_364 (pf NB359_364 (pf NB359_364 (pf NB359_364 (pb BK359)))))))⟩, ⟨pT (pp 6 (pp 5 (pp 4 (pp 3 (pp 2 (pp 1 (pp 0 (pb BK364))))))))⟩, ⟨uN HB⟩⟩
     replace c89 := Bool.eq_false_iff.mpr c89
     subst c89
     rw [if_neg (show ¬ (false = true) from Z16)] at H
     have H' := am H
     clear H
     go_wp2
     go_meet
     case rel => exact ⟨_, (true), Z110, H', ⟨by have := HJ7.out; first | omega | exact Nat.le_refl _⟩, ⟨Z119⟩, ⟨Z118⟩, ⟨Z117⟩, ⟨Z116⟩, ⟨Z115⟩, ⟨Z114⟩, ⟨Z127⟩, ⟨Z126⟩, ⟨Z125⟩, ⟨Z124⟩, ⟨Z123⟩, ⟨Z122⟩, ⟨Z121⟩, ⟨Z120⟩, ⟨pf NB291_364 (pf NB291_364 (pf NB291_364 (pf NB291_364 (pf NB291_364 (pf NB291_364 (pf NB291_364 (pb BK291)))))))⟩, ⟨pf NB296_364 (pf NB296_364 (pf NB296_364 (pf NB296_364 (pf NB296_364 (pf NB296_364 (pf NB296_364 (pb BK296)))))))⟩, ⟨pf NB301_364 (pf NB301_364 (pf NB301_364 (pf NB301_364 (pf NB301_364 (pf NB301_364 (pf NB301_364 (pb BK301)))))))⟩, ⟨pf NB349_364 (pf NB349_364 (pf NB349_364 (pf NB349_364 (pf NB349_364 (pf NB349_364 (pf NB349_364 (pb BK349)))))))⟩, ⟨pf NB354_364 (pf NB354_364 (pf NB354_364 (pf NB354_364 (pf NB354_364 (pf NB354_364 (pf NB354_364 (pb BK354)))))))⟩, ⟨pf NB359_364 (pf NB359_364 (pf NB359_364 (pf NB359_364 (pf NB359_364 (pf NB359_364 (pf NB359_364 (pb BK359)))))))⟩, ⟨pT (pp 6 (pp 5 (pp 4 (pp 3 (pp 2 (pp 1 (pp 0 (pb BK364))))))))⟩, ⟨uN HB⟩⟩
    replace c88 := Bool.eq_false_iff.mpr c88
    subst c88
    rw [if_neg (show ¬ (false = true) from Z16)] at H
    have H' := am H
    clear H
    go_wp2
    go_meet
    case rel => exact ⟨_, (true), Z110, H', ⟨by have := HJ7.out; first | omega | exact Nat.le_refl _⟩, ⟨Z119⟩, ⟨Z118⟩, ⟨Z117⟩, ⟨Z116⟩, ⟨Z115⟩, ⟨Z114⟩, ⟨Z127⟩, ⟨Z126⟩, ⟨Z125⟩, ⟨Z124⟩, ⟨Z123⟩, ⟨Z122⟩, ⟨Z121⟩, ⟨Z120⟩, ⟨pf NB291_364 (pf NB291_364 (pf NB291_364 (pf NB291_364 (pf NB291_364 (pf NB291_364 (pf NB291_364 (pb BK291)))))))⟩, ⟨pf NB296_364 (pf NB296_364 (pf NB296_364 (pf NB296_364 (pf NB296_364 (pf NB296_364 (pf NB296_364 (pb BK296)))))))⟩, ⟨pf NB301_364 (pf NB301_364 (pf NB301_364 (pf NB301_364 (pf NB301_364 (pf NB301_364 (pf NB301_364 (pb BK301)))))))⟩, ⟨pf NB349_364 (pf NB349_364 (pf NB349_364 (pf NB349_364 (pf NB349_364 (pf NB349_364 (pf NB349_364 (pb BK349)))))))⟩, ⟨pf NB354_364 (pf NB354_364 (pf NB354_364 (pf NB354_364 (pf NB354_364 (pf NB354_364 (pf NB354_364 (pb BK354)))))))⟩, ⟨pf NB359_364 (pf NB359_364 (pf NB359_364 (pf NB359_364 (pf NB359_364 (pf NB359_364 (pf NB359_364 (pb BK359)))))))⟩, ⟨pT (pp 6 (pp 5 (pp 4 (pp 3 (pp 2 (pp 1 (pp 0 (pb BK364))))))))⟩, ⟨uN HB⟩⟩
   case rest =>
    clear HC42
    try clear c1
    try clear c2
    try clear p2
    try clear c3
    try clear c4
    try clear c5
    try clear c6
    try clear c7
    try clear c8
    try clear c9
    try clear c10
    try clear c12
    try clear c13
    try clear c14
    try clear c16
    try clear c23
    try clear c24
    try clear c28
    try clear c28b0
    try clear c28b1
    try clear c28b2
    try clear c30
    try clear c31
    try clear c33
    try clear c36
    try clear c37
    try clear c43
    try clear c44
    try clear c48
    try clear c49
    try clear c50
    try clear c57
    try clear c58
    try clear c59
    try clear c60
    try clear c67
    try clear c68
    try clear c69
    try clear c70
    try clear c71
    try clear c75
    try clear c79
    try clear c80
    try clear c81
    try clear c82
    try clear c83
    try clear c84
    try clear c88
    try clear c89
    try clear c90
    try clear c91
    try clear c93
    try clear c94
    try clear c95
    try clear c96
    try clear c97
    try clear c98
    try clear c368
    try clear c369
    try clear c370
    try clear c371
    try clear c372
    try clear hcz373_0 hcz373_1 hcz373_2 hcz373_3 hcz373_4 hcz373_5 hcz373_6 hcz11_0 hcz11_1 hcz11_2 hcz11_3 hcz11_4 hcz11_5 hcz11_6 hcz17_0 hcz17_1 hcz17_2 hcz17_3 hcz17_4 hcz17_5 hcz17_6 hcz20_0 hcz20_1 hcz20_2 hcz20_3 hcz20_4 hcz20_5 hcz20_6 hcz25_0 hcz25_1 hcz25_2 hcz25_3 hcz25_4 hcz25_5 hcz25_6 hcz32_0 hcz32_1 hcz32_2 hcz32_3 hcz32_4 hcz32_5 hcz32_6 hcz34_0 hcz34_1 hcz34_2 hcz34_3 hcz34_4 hcz34_5 hcz34_6 hcz45_0 hcz45_1 hcz45_2 hcz45_3 hcz45_4 hcz45_5 hcz45_6 hcz51_0 hcz51_1 hcz51_2 hcz51_3 hcz51_4 hcz51_5 hcz51_6 hcz54_0 hcz54_1 hcz54_2 hcz54_3 hcz54_4 hcz54_5 hcz54_6 hcz61_0 hcz61_1 hcz61_2 hcz61_3 hcz61_4 hcz61_5 hcz61_6 hcz64_0 hcz64_1 hcz64_2 hcz64_3 hcz64_4 hcz64_5 hcz64_6 hcz72_0 hcz72_1 hcz72_2 hcz72_3 hcz72_4 hcz72_5 hcz72_6 hcz76_0 hcz76_1 hcz76_2 hcz76_3 hcz76_4 hcz76_5 hcz76_6 hcz85_0 hcz85_1 hcz85_2 hcz85_3 hcz85_4 hcz85_5 hcz85_6 hcz99_0 hcz99_1 hcz99_2 hcz99_3 hcz99_4 hcz99_5 hcz99_6
    try clear hfz373_0 hfz373_1 hfz373_2 hfz373_3 hfz373_4 hfz373_5 hfz373_6 hfz11_0 hfz11_1 hfz11_2 hfz11_3 hfz11_4 hfz11_5 hfz11_6 hfz17_0 hfz17_1 hfz17_2 hfz17_3 hfz17_4 hfz17_5 hfz17_6 hfz20_0 hfz20_1 hfz20_2 hfz20_3 hfz20_4 hfz20_5 hfz20_6 hfz25_0 hfz25_1 hfz25_2 hfz25_3 hfz25_4 hfz25_5 hfz25_6 hfz32_0 hfz32_1 hfz32_2 hfz32_3 hfz32_4 hfz32_5 hfz32_6 hfz34_0 hfz34_1 hfz34_2 hfz34_3 hfz34_4 hfz34_5 hfz34_6 hfz45_0 hfz45_1 hfz45_2 hfz45_3 hfz45_4 hfz45_5 hfz45_6 hfz51_0 hfz51_1 hfz51_2 hfz51_3 hfz51_4 hfz51_5 hfz51_6 hfz54_0 hfz54_1 hfz54_2 hfz54_3 hfz54_4 hfz54_5 hfz54_6 hfz61_0 hfz61_1 hfz61_2 hfz61_3 hfz61_4 hfz61_5 hfz61_6 hfz64_0 hfz64_1 hfz64_2 hfz64_3 hfz64_4 hfz64_5 hfz64_6 hfz72_0 hfz72_1 hfz72_2 hfz72_3 hfz72_4 hfz72_5 hfz72_6 hfz76_0 hfz76_1 hfz76_2 hfz76_3 hfz76_4 hfz76_5 hfz76_6 hfz85_0 hfz85_1 hfz85_2 hfz85_3 hfz85_4 hfz85_5 hfz85_6 hfz99_0 hfz99_1 hfz99_2 hfz99_3 hfz99_4 hfz99_5 hfz99_6
    try clear p2
    obtain ⟨kq, x365_41, rfl, HA, HJ41, HO_303, HO_304, HO_305, HO_306, HO_307, HO_308, HO_375, HO_376, HO_377, HO_378, HO_379, HO_381, HO_382, HO_383, BK291, BK296, BK301, BK349, BK354, BK359, BK364, HB⟩ := hcut
    cases kq with
    | zero => exact absurd HA.out (by simp [Ff.j1])
    | succ kj41 =>
     have H := HA.out
     clear HA
     simp only [Ff.j1] at H
     by_cases c384 : x365_41 = true
     ·
      subst c384
      rw [if_pos rfl] at H
      obtain rfl := Option.some.inj H
      go_wp2
      go_ret
      exact ⟨Z109, uN HB⟩
     replace c384 := Bool.eq_false_iff.mpr c384
     subst c384
     rw [if_neg (show ¬ (false = true) from Z16)] at H
     replace H := Option.bind_eq_some_iff.mp H
     obtain ⟨⟨t385, t386⟩, A387, H⟩ := H
     try dsimp only at H
     have A388 := am A387
     clear A387
     by_cases c389 : t386 = true
     ·
      subst c389
      rw [if_pos rfl] at H
      have H' := am H
      clear H
      have hnb365 := NB291_296.out
      have hnc365 := NB296_291.out
      have hnb391 := NB291_301.out
      have hnc391 := NB301_291.out
      have hnb392 := NB291_349.out
      have hnc392 := NB349_291.out
      have hnb393 := NB291_354.out
      have hnc393 := NB354_291.out
      have hnb394 := NB291_359.out
      have hnc394 := NB359_291.out
      have hnb395 := NB291_364.out
      have hnc395 := NB364_291.out
      obtain ⟨hcz396_0, hcz396_1, hcz396_2, hcz396_3, hcz396_4, hcz396_5, hcz396_6, hfz396_0, hfz396_1, hfz396_2, hfz396_3, hfz396_4, hfz396_5, hfz396_6⟩ := ce7 BK291
      have hnb397 := NB296_301.out
      have hnc397 := NB301_296.out
      have hnb398 := NB296_349.out
      have hnc398 := NB349_296.out
      have hnb399 := NB296_354.out
      have hnc399 := NB354_296.out
      have hnb401 := NB296_359.out
      have hnc401 := NB359_296.out
      have hnb402 := NB296_364.out
      have hnc402 := NB364_296.out
      obtain ⟨hcz403_0, hcz403_1, hcz403_2, hcz403_3, hcz403_4, hcz403_5, hcz403_6, hfz403_0, hfz403_1, hfz403_2, hfz403_3, hfz403_4, hfz403_5, hfz403_6⟩ := ce7 BK296
      go_wp2_with (first | ((with_reducible refine gate_callee (f := 17) rfl ?_); refine gL 114 rfl Try.func17 #[.agg #[.int .i64 t260, .int .i64 t264, .int .i64 t265, .int .i64 t266, .slice Ao12 t267.length co12, .int .i64 t268, .slice Ao13 t269.length co13], .agg #[.int .i64 t261, .int .i64 t272, .int .i64 t273, .int .i64 t274, .slice Ao18 t275.length co18, .int .i64 t276, .slice Ao19 t277.length co19]] ?_; (with_reducible refine (Fba.calls kj41 t260 t264 t265 t266 _ _ t267 t268 _ _ t269 t261 t272 t273 t274 _ _ t275 t276 _ _ t277 t385 true _ ?side1 ?side2 ?side3 ?side4 ?side5 ?side6 ?side7 ?side8 A388.out).mono ?_); (case side1 => exact uD HO_303); (case side2 => exact (Kd.R_reads' HO_303.out).2.1); (case side3 => exact uD HO_304); (case side4 => exact (Kd.R_reads' HO_304.out).2.1); (case side5 => exact uD HO_305); (case side6 => exact (Kd.R_reads' HO_305.out).2.1); (case side7 => exact uD HO_306); (case side8 => exact (Kd.R_reads' HO_306.out).2.1); rintro e w404 ⟨v405, rfl, ho0, hb⟩; refine ⟨_, rfl, ?_⟩; have HO406 := am (Kd.R_lower (Kd.R_new' (Kd.R_new' (Kd.R_new' (Kd.R_new' (Kd.R_new' (Kd.R_new' (Kd.R_new' (Kd.R_new' (Kd.R_new' (Kd.R_new' (Kd.R_new' (Kd.R_new' (Kd.R_new' (Kd.R_new' ho0 (Kd.R_lt (uR HO_303))) (Kd.R_lt (uR HO_304))) (Kd.R_lt (uR HO_305))) (Kd.R_lt (uR HO_306))) (Kd.R_lt (uR HO_307))) (Kd.R_lt (uR HO_308))) (Kd.R_lt (uR HO_375))) (Kd.R_lt (uR HO_376))) (Kd.R_lt (uR HO_377))) (Kd.R_lt (uR HO_378))) (Kd.R_lt (uR HO_379))) (Kd.R_lt (uR HO_381))) (Kd.R_lt (uR HO_382))) (Kd.R_lt (uR HO_383))) (below_size (uN HB))); replace HO_303 := am (Kd.R_elder' (uR HO_303) (Kd.R_base ho0) hb); replace HO_304 := am (Kd.R_elder' (uR HO_304) (Kd.R_base ho0) hb); replace HO_305 := am (Kd.R_elder' (uR HO_305) (Kd.R_base ho0) hb); replace HO_306 := am (Kd.R_elder' (uR HO_306) (Kd.R_base ho0) hb); replace HO_307 := am (Kd.R_elder' (uR HO_307) (Kd.R_base ho0) hb); replace HO_308 := am (Kd.R_elder' (uR HO_308) (Kd.R_base ho0) hb); replace HO_375 := am (Kd.R_elder' (uR HO_375) (Kd.R_base ho0) hb); replace HO_376 := am (Kd.R_elder' (uR HO_376) (Kd.R_base ho0) hb); replace HO_377 := am (Kd.R_elder' (uR HO_377) (Kd.R_base ho0) hb); replace HO_378 := am (Kd.R_elder' (uR HO_378) (Kd.R_base ho0) hb); replace HO_379 := am (Kd.R_elder' (uR HO_379) (Kd.R_base ho0) hb); replace HO_381 := am (Kd.R_elder' (uR HO_381) (Kd.R_base ho0) hb); replace HO_382 := am (Kd.R_elder' (uR HO_382) (Kd.R_base ho0) hb); replace HO_383 := am (Kd.R_elder' (uR HO_383) (Kd.R_base ho0) hb); replace BK291 := kB BK291 hb; replace BK296 := kB BK296 hb; replace BK301 := kB BK301 hb; replace BK349 := kB BK349 hb; replace BK354 := kB BK354 hb; replace BK359 := kB BK359 hb; replace BK364 := kB BK364 hb; replace HB := am (below_step (uN HB) hb); (try clear hb); (try clear hb2); (try clear hk); (try clear hi); (try clear ho0); obtain ⟨Ao407, co407, eo407⟩ := Kd.R_slice HO406.out; subst eo407))
      go_loopg [121] kj41 (fun kq v402 w' => ∃ (x402_3 : Int), v402 = .int .i64 x402_3 ∧ Aside0 (Ff.l0 kq t270 t385 t385 (t385.length : Int) x402_3 t260 t264 t265 t266 t267 t268 t269 t261 t272 t273 t274 t275 t276 t277 = some r) ∧ Aside0 (kq ≤ kj41) ∧ Aside0 (Kd.R (Kd.int .i64) 3 w' w.heap.size (fun k_ => nb k_ Ao12 t267.length co12 ∧ nb k_ Ao13 t269.length co13 ∧ nb k_ Ao18 t275.length co18 ∧ nb k_ Ao19 t277.length co19 ∧ nb k_ Ao26 t282.length co26 ∧ nb k_ Ao27 t284.length co27 ∧ nb k_ Ao52 t313.length co52 ∧ nb k_ Ao53 t315.length co53 ∧ nb k_ Ao62 t322.length co62 ∧ nb k_ Ao63 t324.length co63 ∧ nb k_ Ao73 t331.length co73 ∧ nb k_ Ao74 t333.length co74 ∧ nb k_ Ao86 t340.length co86 ∧ some k_ ≠ ((.slice Ao87 t342.length co87) : Value).ownBlock) (.slice Ao407 t385.length co407) t385) ∧ Aside0 (Kd.R (Kd.int .i64) 3 w' w.heap.size (fun k_ => nb k_ Ao12 t267.length co12 ∧ nb k_ Ao13 t269.length co13 ∧ nb k_ Ao18 t275.length co18 ∧ nb k_ Ao19 t277.length co19 ∧ nb k_ Ao26 t282.length co26 ∧ nb k_ Ao27 t284.length co27 ∧ nb k_ Ao52 t313.length co52 ∧ nb k_ Ao53 t315.length co53 ∧ nb k_ Ao62 t322.length co62 ∧ nb k_ Ao63 t324.length co63 ∧ nb k_ Ao73 t331.length co73 ∧ nb k_ Ao74 t333.length co74 ∧ nb k_ Ao86 t340.length co86 ∧ some k_ ≠ ((.slice Ao87 t342.length co87) : Value).ownBlock) (.slice Ao407 t385.length co407) t385) ∧ Aside0 (Kd.R (Kd.int .i64) 3 w' w.heap.size (fun k_ => nb k_ Ao407 t385.length co407 ∧ nb k_ Ao407 t385.length co407 ∧ nb k_ Ao13 t269.length co13 ∧ nb k_ Ao18 t275.length co18 ∧ nb k_ Ao19 t277.length co19 ∧ nb k_ Ao26 t282.length co26 ∧ nb k_ Ao27 t284.length co27 ∧ nb k_ Ao52 t313.length co52 ∧ nb k_ Ao53 t315.length co53 ∧ nb k_ Ao62 t322.length co62 ∧ nb k_ Ao63 t324.length co63 ∧ nb k_ Ao73 t331.length co73 ∧ nb k_ Ao74 t333.length co74 ∧ nb k_ Ao86 t340.length co86 ∧ some k_ ≠ ((.slice Ao87 t342.length co87) : Value).ownBlock) (.slice Ao12 t267.length co12) t267) ∧ Aside0 (Kd.R (Kd.int .i64) 3 w' w.heap.size (fun k_ => nb k_ Ao407 t385.length co407 ∧ nb k_ Ao407 t385.length co407 ∧ nb k_ Ao12 t267.length co12 ∧ nb k_ Ao18 t275.length co18 ∧ nb k_ Ao19 t277.length co19 ∧ nb k_ Ao26 t282.length co26 ∧ nb k_ Ao27 t284.length co27 ∧ nb k_ Ao52 t313.length co52 ∧ nb k_ Ao53 t315.length co53 ∧ nb k_ Ao62 t322.length co62 ∧ nb k_ Ao63 t324.length co63 ∧ nb k_ Ao73 t331.length co73 ∧ nb k_ Ao74 t333.length co74 ∧ nb k_ Ao86 t340.length co86 ∧ some k_ ≠ ((.slice Ao87 t342.length co87) : Value).ownBlock) (.slice Ao13 t269.length co13) t269) ∧ Aside0 (Kd.R (Kd.int .i64) 3 w' w.heap.size (fun k_ => nb k_ Ao407 t385.length co407 ∧ nb k_ Ao407 t385.length co407 ∧ nb k_ Ao12 t267.length co12 ∧ nb k_ Ao13 t269.length co13 ∧ nb k_ Ao19 t277.length co19 ∧ nb k_ Ao26 t282.length co26 ∧ nb k_ Ao27 t284.length co27 ∧ nb k_ Ao52 t313.length co52 ∧ nb k_ Ao53 t315.length co53 ∧ nb k_ Ao62 t322.length co62 ∧ nb k_ Ao63 t324.length co63 ∧ nb k_ Ao73 t331.length co73 ∧ nb k_ Ao74 t333.length co74 ∧ nb k_ Ao86 t340.length co86 ∧ some k_ ≠ ((.slice Ao87 t342.length co87) : Value).ownBlock) (.slice Ao18 t275.length co18) t275) ∧ Aside0 (Kd.R (Kd.int .i64) 3 w' w.heap.size (fun k_ => nb k_ Ao407 t385.length co407 ∧ nb k_ Ao407 t385.length co407 ∧ nb k_ Ao12 t267.length co12 ∧ nb k_ Ao13 t269.length co13 ∧ nb k_ Ao18 t275.length co18 ∧ nb k_ Ao26 t282.length co26 ∧ nb k_ Ao27 t284.length co27 ∧ nb k_ Ao52 t313.length co52 ∧ nb k_ Ao53 t315.length co53 ∧ nb k_ Ao62 t322.length co62 ∧ nb k_ Ao63 t324.length co63 ∧ nb k_ Ao73 t331.length co73 ∧ nb k_ Ao74 t333.length co74 ∧ nb k_ Ao86 t340.length co86 ∧ some k_ ≠ ((.slice Ao87 t342.length co87) : Value).ownBlock) (.slice Ao19 t277.length co19) t277) ∧ Aside0 (Kd.R (Kd.int .i64) 3 w' w.heap.size (fun k_ => nb k_ Ao407 t385.length co407 ∧ nb k_ Ao407 t385.length co407 ∧ nb k_ Ao12 t267.length co12 ∧ nb k_ Ao13 t269.length co13 ∧ nb k_ Ao18 t275.length co18 ∧ nb k_ Ao19 t277.length co19 ∧ nb k_ Ao27 t284.length co27 ∧ nb k_ Ao52 t313.length co52 ∧ nb k_ Ao53 t315.length co53 ∧ nb k_ Ao62 t322.length co62 ∧ nb k_ Ao63 t324.length co63 ∧ nb k_ Ao73 t331.length co73 ∧ nb k_ Ao74 t333.length co74 ∧ nb k_ Ao86 t340.length co86 ∧ some k_ ≠ ((.slice Ao87 t342.length co87) : Value).ownBlock) (.slice Ao26 t282.length co26) t282) ∧ Aside0 (Kd.R (Kd.int .i64) 3 w' w.heap.size (fun k_ => nb k_ Ao407 t385.length co407 ∧ nb k_ Ao407 t385.length co407 ∧ nb k_ Ao12 t267.length co12 ∧ nb k_ Ao13 t269.length co13 ∧ nb k_ Ao18 t275.length co18 ∧ nb k_ Ao19 t277.length co19 ∧ nb k_ Ao26 t282.length co26 ∧ nb k_ Ao52 t313.length co52 ∧ nb k_ Ao53 t315.length co53 ∧ nb k_ Ao62 t322.length co62 ∧ nb k_ Ao63 t324.length co63 ∧ nb k_ Ao73 t331.length co73 ∧ nb k_ Ao74 t333.length co74 ∧ nb k_ Ao86 t340.length co86 ∧ some k_ ≠ ((.slice Ao87 t342.length co87) : Value).ownBlock) (.slice Ao27 t284.length co27) t284) ∧ Aside0 (Kd.R (Kd.int .i64) 3 w' w.heap.size (fun k_ => nb k_ Ao407 t385.length co407 ∧ nb k_ Ao407 t385.length co407 ∧ nb k_ Ao12 t267.length co12 ∧ nb k_ Ao13 t269.length co13 ∧ nb k_ Ao18 t275.length co18 ∧ nb k_ Ao19 t277.length co19 ∧ nb k_ Ao26 t282.length co26 ∧ nb k_ Ao27 t284.length co27 ∧ nb k_ Ao53 t315.length co53 ∧ nb k_ Ao62 t322.length co62 ∧ nb k_ Ao63 t324.length co63 ∧ nb k_ Ao73 t331.length co73 ∧ nb k_ Ao74 t333.length co74 ∧ nb k_ Ao86 t340.length co86 ∧ some k_ ≠ ((.slice Ao87 t342.length co87) : Value).ownBlock) (.slice Ao52 t313.length co52) t313) ∧ Aside0 (Kd.R (Kd.int .i64) 3 w' w.heap.size (fun k_ => nb k_ Ao407 t385.length co407 ∧ nb k_ Ao407 t385.length co407 ∧ nb k_ Ao12 t267.length co12 ∧ nb k_ Ao13 t269.length co13 ∧ nb k_ Ao18 t275.length co18 ∧ nb k_ Ao19 t277.length co19 ∧ nb k_ Ao26 t282.length co26 ∧ nb k_ Ao27 t284.length co27 ∧ nb k_ Ao52 t313.length co52 ∧ nb k_ Ao62 t322.length co62 ∧ nb k_ Ao63 t324.length co63 ∧ nb k_ Ao73 t331.length co73 ∧ nb k_ Ao74 t333.length co74 ∧ nb k_ Ao86 t340.length co86 ∧ some k_ ≠ ((.slice Ao87 t342.length co87) : Value).ownBlock) (.slice Ao53 t315.length co53) t315) ∧ Aside0 (Kd.R (Kd.int .i64) 3 w' w.heap.size (fun k_ => nb k_ Ao407 t385.length co407 ∧ nb k_ Ao407 t385.length co407 ∧ nb k_ Ao12 t267.length co12 ∧ nb k_ Ao13 t269.length co13 ∧ nb k_ Ao18 t275.length co18 ∧ nb k_ Ao19 t277.length co19 ∧ nb k_ Ao26 t282.length co26 ∧ nb k_ Ao27 t284.length co27 ∧ nb k_ Ao52 t313.length co52 ∧ nb k_ Ao53 t315.length co53 ∧ nb k_ Ao63 t324.length co63 ∧ nb k_ Ao73 t331.length co73 ∧ nb k_ Ao74 t333.length co74 ∧ nb k_ Ao86 t340.length co86 ∧ some k_ ≠ ((.slice Ao87 t342.length co87) : Value).ownBlock) (.slice Ao62 t322.length co62) t322) ∧ Aside0 (Kd.R (Kd.int .i64) 3 w' w.heap.size (fun k_ => nb k_ Ao407 t385.length co407 ∧ nb k_ Ao407 t385.length co407 ∧ nb k_ Ao12 t267.length co12 ∧ nb k_ Ao13 t269.length co13 ∧ nb k_ Ao18 t275.length co18 ∧ nb k_ Ao19 t277.length co19 ∧ nb k_ Ao26 t282.length co26 ∧ nb k_ Ao27 t284.length co27 ∧ nb k_ Ao52 t313.length co52 ∧ nb k_ Ao53 t315.length co53 ∧ nb k_ Ao62 t322.length co62 ∧ nb k_ Ao73 t331.length co73 ∧ nb k_ Ao74 t333.length co74 ∧ nb k_ Ao86 t340.length co86 ∧ some k_ ≠ ((.slice Ao87 t342.length co87) : Value).ownBlock) (.slice Ao63 t324.length co63) t324) ∧ Aside0 (Kd.R (Kd.int .i64) 3 w' w.heap.size (fun k_ => nb k_ Ao407 t385.length co407 ∧ nb k_ Ao407 t385.length co407 ∧ nb k_ Ao12 t267.length co12 ∧ nb k_ Ao13 t269.length co13 ∧ nb k_ Ao18 t275.length co18 ∧ nb k_ Ao19 t277.length co19 ∧ nb k_ Ao26 t282.length co26 ∧ nb k_ Ao27 t284.length co27 ∧ nb k_ Ao52 t313.length co52 ∧ nb k_ Ao53 t315.length co53 ∧ nb k_ Ao62 t322.length co62 ∧ nb k_ Ao63 t324.length co63 ∧ nb k_ Ao74 t333.length co74 ∧ nb k_ Ao86 t340.length co86 ∧ some k_ ≠ ((.slice Ao87 t342.length co87) : Value).ownBlock) (.slice Ao73 t331.length co73) t331) ∧ Aside0 (Kd.R (Kd.int .i64) 3 w' w.heap.size (fun k_ => nb k_ Ao407 t385.length co407 ∧ nb k_ Ao407 t385.length co407 ∧ nb k_ Ao12 t267.length co12 ∧ nb k_ Ao13 t269.length co13 ∧ nb k_ Ao18 t275.length co18 ∧ nb k_ Ao19 t277.length co19 ∧ nb k_ Ao26 t282.length co26 ∧ nb k_ Ao27 t284.length co27 ∧ nb k_ Ao52 t313.length co52 ∧ nb k_ Ao53 t315.length co53 ∧ nb k_ Ao62 t322.length co62 ∧ nb k_ Ao63 t324.length co63 ∧ nb k_ Ao73 t331.length co73 ∧ nb k_ Ao86 t340.length co86 ∧ some k_ ≠ ((.slice Ao87 t342.length co87) : Value).ownBlock) (.slice Ao74 t333.length co74) t333) ∧ Aside0 (Kd.R (Kd.int .i64) 3 w' w.heap.size (fun k_ => nb k_ Ao407 t385.length co407 ∧ nb k_ Ao407 t385.length co407 ∧ nb k_ Ao12 t267.length co12 ∧ nb k_ Ao13 t269.length co13 ∧ nb k_ Ao18 t275.length co18 ∧ nb k_ Ao19 t277.length co19 ∧ nb k_ Ao26 t282.length co26 ∧ nb k_ Ao27 t284.length co27 ∧ nb k_ Ao52 t313.length co52 ∧ nb k_ Ao53 t315.length co53 ∧ nb k_ Ao62 t322.length co62 ∧ nb k_ Ao63 t324.length co63 ∧ nb k_ Ao73 t331.length co73 ∧ nb k_ Ao74 t333.length co74 ∧ some k_ ≠ ((.slice Ao87 t342.length co87) : Value).ownBlock) (.slice Ao86 t340.length co86) t340) ∧ Aside0 (Kd.R (Kd.int .i64) 3 w' w.heap.size (fun k_ => nb k_ Ao407 t385.length co407 ∧ nb k_ Ao407 t385.length co407 ∧ nb k_ Ao12 t267.length co12 ∧ nb k_ Ao13 t269.length co13 ∧ nb k_ Ao18 t275.length co18 ∧ nb k_ Ao19 t277.length co19 ∧ nb k_ Ao26 t282.length co26 ∧ nb k_ Ao27 t284.length co27 ∧ nb k_ Ao52 t313.length co52 ∧ nb k_ Ao53 t315.length co53 ∧ nb k_ Ao62 t322.length co62 ∧ nb k_ Ao63 t324.length co63 ∧ nb k_ Ao73 t331.length co73 ∧ nb k_ Ao74 t333.length co74 ∧ some k_ ≠ ((.slice Ao86 t340.length co86) : Value).ownBlock) (.slice Ao87 t342.length co87) t342) ∧ Aside0 (w'.heap[gb291]? = some (.cells #[.int .i64 t260, .int .i64 t264, .int .i64 t265, .int .i64 t266, (.slice Ao12 t267.length co12), .int .i64 t268, (.slice Ao13 t269.length co13)] 28 (0, 0))) ∧ Aside0 (w'.heap[gb296]? = some (.cells #[.int .i64 t261, .int .i64 t272, .int .i64 t273, .int .i64 t274, (.slice Ao18 t275.length co18), .int .i64 t276, (.slice Ao19 t277.length co19)] 28 (0, 0))) ∧ Aside0 (w'.heap[gb301]? = some (.cells #[.int .i64 t262, .int .i64 t279, .int .i64 t280, .int .i64 t281, (.slice Ao26 t282.length co26), .int .i64 t283, (.slice Ao27 t284.length co27)] 28 (0, 0))) ∧ Aside0 (w'.heap[gb349]? = some (.cells #[.int .i64 t309, .int .i64 t310, .int .i64 t311, .int .i64 t312, (.slice Ao52 t313.length co52), .int .i64 t314, (.slice Ao53 t315.length co53)] 28 (0, 0))) ∧ Aside0 (w'.heap[gb354]? = some (.cells #[.int .i64 t318, .int .i64 t319, .int .i64 t320, .int .i64 t321, (.slice Ao62 t322.length co62), .int .i64 t323, (.slice Ao63 t324.length co63)] 28 (0, 0))) ∧ Aside0 (w'.heap[gb359]? = some (.cells #[.int .i64 t327, .int .i64 t328, .int .i64 t329, .int .i64 t330, (.slice Ao73 t331.length co73), .int .i64 t332, (.slice Ao74 t333.length co74)] 28 (0, 0))) ∧ Aside0 (w'.heap[gb364]? = some (.cells #[.int .i64 t336, .int .i64 t337, .int .i64 t338, .int .i64 t339, (.slice Ao86 t340.length co86), .int .i64 t341, (.slice Ao87 t342.length co87)] 28 (0, 0))) ∧ Aside0 (Below w.heap.size w w'))
      case atStart => exact ⟨(0), Z110, H', ⟨Nat.le_refl _⟩, ⟨Z58⟩, ⟨Z58⟩, ⟨by (with_reducible repeat (first | apply Kd.R_alloc | apply Kd.R_drewN | apply Kd.R_drew)); exact Kd.R_mono HO_303.out (fun _ hk => ⟨hk.2, ⟨hk.2, ⟨hk.1.1, ⟨hk.1.2.1, ⟨hk.1.2.2.1, ⟨hk.1.2.2.2.1, ⟨hk.1.2.2.2.2.1, ⟨hk.1.2.2.2.2.2.1, ⟨hk.1.2.2.2.2.2.2.1, ⟨hk.1.2.2.2.2.2.2.2.1, ⟨hk.1.2.2.2.2.2.2.2.2.1, ⟨hk.1.2.2.2.2.2.2.2.2.2.1, ⟨hk.1.2.2.2.2.2.2.2.2.2.2.1, ⟨hk.1.2.2.2.2.2.2.2.2.2.2.2.1, hk.1.2.2.2.2.2.2.2.2.2.2.2.2⟩⟩⟩⟩⟩⟩⟩⟩⟩⟩⟩⟩⟩⟩)⟩, ⟨by (with_reducible repeat (first | apply Kd.R_alloc | apply Kd.R_drewN | apply Kd.R_drew)); exact Kd.R_mono HO_304.out (fun _ hk => ⟨hk.2, ⟨hk.2, ⟨hk.1.1, ⟨hk.1.2.1, ⟨hk.1.2.2.1, ⟨hk.1.2.2.2.1, ⟨hk.1.2.2.2.2.1, ⟨hk.1.2.2.2.2.2.1, ⟨hk.1.2.2.2.2.2.2.1, ⟨hk.1.2.2.2.2.2.2.2.1, ⟨hk.1.2.2.2.2.2.2.2.2.1, ⟨hk.1.2.2.2.2.2.2.2.2.2.1, ⟨hk.1.2.2.2.2.2.2.2.2.2.2.1, ⟨hk.1.2.2.2.2.2.2.2.2.2.2.2.1, hk.1.2.2.2.2.2.2.2.2.2.2.2.2⟩⟩⟩⟩⟩⟩⟩⟩⟩⟩⟩⟩⟩⟩)⟩, ⟨by (with_reducible repeat (first | apply Kd.R_alloc | apply Kd.R_drewN | apply Kd.R_drew)); exact Kd.R_mono HO_305.out (fun _ hk => ⟨hk.2, ⟨hk.2, ⟨hk.1.1, ⟨hk.1.2.1, ⟨hk.1.2.2.1, ⟨hk.1.2.2.2.1, ⟨hk.1.2.2.2.2.1, ⟨hk.1.2.2.2.2.2.1, ⟨hk.1.2.2.2.2.2.2.1, ⟨hk.1.2.2.2.2.2.2.2.1, ⟨hk.1.2.2.2.2.2.2.2.2.1, ⟨hk.1.2.2.2.2.2.2.2.2.2.1, ⟨hk.1.2.2.2.2.2.2.2.2.2.2.1, ⟨hk.1.2.2.2.2.2.2.2.2.2.2.2.1, hk.1.2.2.2.2.2.2.2.2.2.2.2.2⟩⟩⟩⟩⟩⟩⟩⟩⟩⟩⟩⟩⟩⟩)⟩, ⟨by (with_reducible repeat (first | apply Kd.R_alloc | apply Kd.R_drewN | apply Kd.R_drew)); exact Kd.R_mono HO_306.out (fun _ hk => ⟨hk.2, ⟨hk.2, ⟨hk.1.1, ⟨hk.1.2.1, ⟨hk.1.2.2.1, ⟨hk.1.2.2.2.1, ⟨hk.1.2.2.2.2.1, ⟨hk.1.2.2.2.2.2.1, ⟨hk.1.2.2.2.2.2.2.1, ⟨hk.1.2.2.2.2.2.2.2.1, ⟨hk.1.2.2.2.2.2.2.2.2.1, ⟨hk.1.2.2.2.2.2.2.2.2.2.1, ⟨hk.1.2.2.2.2.2.2.2.2.2.2.1, ⟨hk.1.2.2.2.2.2.2.2.2.2.2.2.1, hk.1.2.2.2.2.2.2.2.2.2.2.2.2⟩⟩⟩⟩⟩⟩⟩⟩⟩⟩⟩⟩⟩⟩)⟩, ⟨by (with_reducible repeat (first | apply Kd.R_alloc | apply Kd.R_drewN | apply Kd.R_drew)); exact Kd.R_mono HO_307.out (fun _ hk => ⟨hk.2, ⟨hk.2, ⟨hk.1.1, ⟨hk.1.2.1, ⟨hk.1.2.2.1, ⟨hk.1.2.2.2.1, ⟨hk.1.2.2.2.2.1, ⟨hk.1.2.2.2.2.2.1, ⟨hk.1.2.2.2.2.2.2.1, ⟨hk.1.2.2.2.2.2.2.2.1, ⟨hk.1.2.2.2.2.2.2.2.2.1, ⟨hk.1.2.2.2.2.2.2.2.2.2.1, ⟨hk.1.2.2.2.2.2.2.2.2.2.2.1, ⟨hk.1.2.2.2.2.2.2.2.2.2.2.2.1, hk.1.2.2.2.2.2.2.2.2.2.2.2.2⟩⟩⟩⟩⟩⟩⟩⟩⟩⟩⟩⟩⟩⟩)⟩, ⟨by (with_reducible repeat (first | apply Kd.R_alloc | apply Kd.R_drewN | apply Kd.R_drew)); exact Kd.R_mono HO_308.out (fun _ hk => ⟨hk.2, ⟨hk.2, ⟨hk.1.1, ⟨hk.1.2.1, ⟨hk.1.2.2.1, ⟨hk.1.2.2.2.1, ⟨hk.1.2.2.2.2.1, ⟨hk.1.2.2.2.2.2.1, ⟨hk.1.2.2.2.2.2.2.1, ⟨hk.1.2.2.2.2.2.2.2.1, ⟨hk.1.2.2.2.2.2.2.2.2.1, ⟨hk.1.2.2.2.2.2.2.2.2.2.1, ⟨hk.1.2.2.2.2.2.2.2.2.2.2.1, ⟨hk.1.2.2.2.2.2.2.2.2.2.2.2.1, hk.1.2.2.2.2.2.2.2.2.2.2.2.2⟩⟩⟩⟩⟩⟩⟩⟩⟩⟩⟩⟩⟩⟩)⟩, ⟨by (with_reducible repeat (first | apply Kd.R_alloc | apply Kd.R_drewN | apply Kd.R_drew)); exact Kd.R_mono HO_375.out (fun _ hk => ⟨hk.2, ⟨hk.2, ⟨hk.1.1, ⟨hk.1.2.1, ⟨hk.1.2.2.1, ⟨hk.1.2.2.2.1, ⟨hk.1.2.2.2.2.1, ⟨hk.1.2.2.2.2.2.1, ⟨hk.1.2.2.2.2.2.2.1, ⟨hk.1.2.2.2.2.2.2.2.1, ⟨hk.1.2.2.2.2.2.2.2.2.1, ⟨hk.1.2.2.2.2.2.2.2.2.2.1, ⟨hk.1.2.2.2.2.2.2.2.2.2.2.1, ⟨hk.1.2.2.2.2.2.2.2.2.2.2.2.1, hk.1.2.2.2.2.2.2.2.2.2.2.2.2⟩⟩⟩⟩⟩⟩⟩⟩⟩⟩⟩⟩⟩⟩)⟩, ⟨by (with_reducible repeat (first | apply Kd.R_alloc | apply Kd.R_drewN | apply Kd.R_drew)); exact Kd.R_mono HO_376.out (fun _ hk => ⟨hk.2, ⟨hk.2, ⟨hk.1.1, ⟨hk.1.2.1, ⟨hk.1.2.2.1, ⟨hk.1.2.2.2.1, ⟨hk.1.2.2.2.2.1, ⟨hk.1.2.2.2.2.2.1, ⟨hk.1.2.2.2.2.2.2.1, ⟨hk.1.2.2.2.2.2.2.2.1, ⟨hk.1.2.2.2.2.2.2.2.2.1, ⟨hk.1.2.2.2.2.2.2.2.2.2.1, ⟨hk.1.2.2.2.2.2.2.2.2.2.2.1, ⟨hk.1.2.2.2.2.2.2.2.2.2.2.2.1, hk.1.2.2.2.2.2.2.2.2.2.2.2.2⟩⟩⟩⟩⟩⟩⟩⟩⟩⟩⟩⟩⟩⟩)⟩, ⟨by (with_reducible repeat (first | apply Kd.R_alloc | apply Kd.R_drewN | apply Kd.R_drew)); exact Kd.R_mono HO_377.out (fun _ hk => ⟨hk.2, ⟨hk.2, ⟨hk.1.1, ⟨hk.1.2.1, ⟨hk.1.2.2.1, ⟨hk.1.2.2.2.1, ⟨hk.1.2.2.2.2.1, ⟨hk.1.2.2.2.2.2.1, ⟨hk.1.2.2.2.2.2.2.1, ⟨hk.1.2.2.2.2.2.2.2.1, ⟨hk.1.2.2.2.2.2.2.2.2.1, ⟨hk.1.2.2.2.2.2.2.2.2.2.1, ⟨hk.1.2.2.2.2.2.2.2.2.2.2.1, ⟨hk.1.2.2.2.2.2.2.2.2.2.2.2.1, hk.1.2.2.2.2.2.2.2.2.2.2.2.2⟩⟩⟩⟩⟩⟩⟩⟩⟩⟩⟩⟩⟩⟩)⟩, ⟨by (with_reducible repeat (first | apply Kd.R_alloc | apply Kd.R_drewN | apply Kd.R_drew)); exact Kd.R_mono HO_378.out (fun _ hk => ⟨hk.2, ⟨hk.2, ⟨hk.1.1, ⟨hk.1.2.1, ⟨hk.1.2.2.1, ⟨hk.1.2.2.2.1, ⟨hk.1.2.2.2.2.1, ⟨hk.1.2.2.2.2.2.1, ⟨hk.1.2.2.2.2.2.2.1, ⟨hk.1.2.2.2.2.2.2.2.1, ⟨hk.1.2.2.2.2.2.2.2.2.1, ⟨hk.1.2.2.2.2.2.2.2.2.2.1, ⟨hk.1.2.2.2.2.2.2.2.2.2.2.1, ⟨hk.1.2.2.2.2.2.2.2.2.2.2.2.1, hk.1.2.2.2.2.2.2.2.2.2.2.2.2⟩⟩⟩⟩⟩⟩⟩⟩⟩⟩⟩⟩⟩⟩)⟩, ⟨by (with_reducible repeat (first | apply Kd.R_alloc | apply Kd.R_drewN | apply Kd.R_drew)); exact Kd.R_mono HO_379.out (fun _ hk => ⟨hk.2, ⟨hk.2, ⟨hk.1.1, ⟨hk.1.2.1, ⟨hk.1.2.2.1, ⟨hk.1.2.2.2.1, ⟨hk.1.2.2.2.2.1, ⟨hk.1.2.2.2.2.2.1, ⟨hk.1.2.2.2.2.2.2.1, ⟨hk.1.2.2.2.2.2.2.2.1, ⟨hk.1.2.2.2.2.2.2.2.2.1, ⟨hk.1.2.2.2.2.2.2.2.2.2.1, ⟨hk.1.2.2.2.2.2.2.2.2.2.2.1, ⟨hk.1.2.2.2.2.2.2.2.2.2.2.2.1, hk.1.2.2.2.2.2.2.2.2.2.2.2.2⟩⟩⟩⟩⟩⟩⟩⟩⟩⟩⟩⟩⟩⟩)⟩, ⟨by (with_reducible repeat (first | apply Kd.R_alloc | apply Kd.R_drewN | apply Kd.R_drew)); exact Kd.R_mono HO_381.out (fun _ hk => ⟨hk.2, ⟨hk.2, ⟨hk.1.1, ⟨hk.1.2.1, ⟨hk.1.2.2.1, ⟨hk.1.2.2.2.1, ⟨hk.1.2.2.2.2.1, ⟨hk.1.2.2.2.2.2.1, ⟨hk.1.2.2.2.2.2.2.1, ⟨hk.1.2.2.2.2.2.2.2.1, ⟨hk.1.2.2.2.2.2.2.2.2.1, ⟨hk.1.2.2.2.2.2.2.2.2.2.1, ⟨hk.1.2.2.2.2.2.2.2.2.2.2.1, ⟨hk.1.2.2.2.2.2.2.2.2.2.2.2.1, hk.1.2.2.2.2.2.2.2.2.2.2.2.2⟩⟩⟩⟩⟩⟩⟩⟩⟩⟩⟩⟩⟩⟩)⟩, ⟨by (with_reducible repeat (first | apply Kd.R_alloc | apply Kd.R_drewN | apply Kd.R_drew)); exact Kd.R_mono HO_382.out (fun _ hk => ⟨hk.2, ⟨hk.2, ⟨hk.1.1, ⟨hk.1.2.1, ⟨hk.1.2.2.1, ⟨hk.1.2.2.2.1, ⟨hk.1.2.2.2.2.1, ⟨hk.1.2.2.2.2.2.1, ⟨hk.1.2.2.2.2.2.2.1, ⟨hk.1.2.2.2.2.2.2.2.1, ⟨hk.1.2.2.2.2.2.2.2.2.1, ⟨hk.1.2.2.2.2.2.2.2.2.2.1, ⟨hk.1.2.2.2.2.2.2.2.2.2.2.1, ⟨hk.1.2.2.2.2.2.2.2.2.2.2.2.1, hk.1.2.2.2.2.2.2.2.2.2.2.2.2⟩⟩⟩⟩⟩⟩⟩⟩⟩⟩⟩⟩⟩⟩)⟩, ⟨by (with_reducible repeat (first | apply Kd.R_alloc | apply Kd.R_drewN | apply Kd.R_drew)); exact Kd.R_mono HO_383.out (fun _ hk => ⟨hk.2, ⟨hk.2, ⟨hk.1.1, ⟨hk.1.2.1, ⟨hk.1.2.2.1, ⟨hk.1.2.2.2.1, ⟨hk.1.2.2.2.2.1, ⟨hk.1.2.2.2.2.2.1, ⟨hk.1.2.2.2.2.2.2.1, ⟨hk.1.2.2.2.2.2.2.2.1, ⟨hk.1.2.2.2.2.2.2.2.2.1, ⟨hk.1.2.2.2.2.2.2.2.2.2.1, ⟨hk.1.2.2.2.2.2.2.2.2.2.2.1, ⟨hk.1.2.2.2.2.2.2.2.2.2.2.2.1, hk.1.2.2.2.2.2.2.2.2.2.2.2.2⟩⟩⟩⟩⟩⟩⟩⟩⟩⟩⟩⟩⟩⟩)⟩, ⟨pb BK291⟩, ⟨pb BK296⟩, ⟨pb BK301⟩, ⟨pb BK349⟩, ⟨pb BK354⟩, ⟨pb BK359⟩, ⟨pb BK364⟩, ⟨uN HB⟩⟩
      case round =>
       clear H'
       try clear c1
       try clear c2
       try clear p2
       try clear c3
       try clear c4
       try clear c5
       try clear c6
       try clear c7
       try clear c8
       try clear c9
       try clear c10
       try clear c11
       try clear c12
       try clear c13
       try clear c14
       try clear c16
       try clear c17
       try clear c23
       try clear c24
       try clear c28
       try clear c28b0
       try clear c28b1
       try clear c28b2
       try clear c30
       try clear c31
       try clear c33
       try clear c36
       try clear c37
       try clear c43
       try clear c44
       try clear c48
       try clear c49
       try clear c50
       try clear c57
       try clear c58
       try clear c59
       try clear c60
       try clear c67
       try clear c68
       try clear c69
       try clear c70
       try clear c71
       try clear c75
       try clear c79
       try clear c80
       try clear c81
       try clear c82
       try clear c83
       try clear c84
       try clear c88
       try clear c89
       try clear c90
       try clear c91
       try clear c93
       try clear c94
       try clear c95
       try clear c96
       try clear c97
       try clear c98
       try clear c368
       try clear c369
       try clear c370
       try clear c371
       try clear c372
       try clear c384
       try clear c389
       try clear c365
       try clear c391
       try clear c392
       try clear c393
       try clear c394
       try clear c395
       try clear c397
       try clear c398
       try clear c399
       try clear c401
       try clear c402
       try clear hcz373_0 hcz373_1 hcz373_2 hcz373_3 hcz373_4 hcz373_5 hcz373_6 hcz396_0 hcz396_1 hcz396_2 hcz396_3 hcz396_4 hcz396_5 hcz396_6 hcz11_0 hcz11_1 hcz11_2 hcz11_3 hcz11_4 hcz11_5 hcz11_6 hcz403_0 hcz403_1 hcz403_2 hcz403_3 hcz403_4 hcz403_5 hcz403_6 hcz17_0 hcz17_1 hcz17_2 hcz17_3 hcz17_4 hcz17_5 hcz17_6 hcz20_0 hcz20_1 hcz20_2 hcz20_3 hcz20_4 hcz20_5 hcz20_6 hcz25_0 hcz25_1 hcz25_2 hcz25_3 hcz25_4 hcz25_5 hcz25_6 hcz32_0 hcz32_1 hcz32_2 hcz32_3 hcz32_4 hcz32_5 hcz32_6 hcz34_0 hcz34_1 hcz34_2 hcz34_3 hcz34_4 hcz34_5 hcz34_6 hcz45_0 hcz45_1 hcz45_2 hcz45_3 hcz45_4 hcz45_5 hcz45_6 hcz51_0 hcz51_1 hcz51_2 hcz51_3 hcz51_4 hcz51_5 hcz51_6 hcz54_0 hcz54_1 hcz54_2 hcz54_3 hcz54_4 hcz54_5 hcz54_6 hcz61_0 hcz61_1 hcz61_2 hcz61_3 hcz61_4 hcz61_5 hcz61_6 hcz64_0 hcz64_1 hcz64_2 hcz64_3 hcz64_4 hcz64_5 hcz64_6 hcz72_0 hcz72_1 hcz72_2 hcz72_3 hcz72_4 hcz72_5 hcz72_6 hcz76_0 hcz76_1 hcz76_2 hcz76_3 hcz76_4 hcz76_5 hcz76_6 hcz85_0 hcz85_1 hcz85_2 hcz85_3 hcz85_4 hcz85_5 hcz85_6 hcz99_0 hcz99_1 hcz99_2 hcz99_3 hcz99_4 hcz99_5 hcz99_6
       try clear hfz373_0 hfz373_1 hfz373_2 hfz373_3 hfz373_4 hfz373_5 hfz373_6 hfz396_0 hfz396_1 hfz396_2 hfz396_3 hfz396_4 hfz396_5 hfz396_6 hfz11_0 hfz11_1 hfz11_2 hfz11_3 hfz11_4 hfz11_5 hfz11_6 hfz403_0 hfz403_1 hfz403_2 hfz403_3 hfz403_4 hfz403_5 hfz403_6 hfz17_0 hfz17_1 hfz17_2 hfz17_3 hfz17_4 hfz17_5 hfz17_6 hfz20_0 hfz20_1 hfz20_2 hfz20_3 hfz20_4 hfz20_5 hfz20_6 hfz25_0 hfz25_1 hfz25_2 hfz25_3 hfz25_4 hfz25_5 hfz25_6 hfz32_0 hfz32_1 hfz32_2 hfz32_3 hfz32_4 hfz32_5 hfz32_6 hfz34_0 hfz34_1 hfz34_2 hfz34_3 hfz34_4 hfz34_5 hfz34_6 hfz45_0 hfz45_1 hfz45_2 hfz45_3 hfz45_4 hfz45_5 hfz45_6 hfz51_0 hfz51_1 hfz51_2 hfz51_3 hfz51_4 hfz51_5 hfz51_6 hfz54_0 hfz54_1 hfz54_2 hfz54_3 hfz54_4 hfz54_5 hfz54_6 hfz61_0 hfz61_1 hfz61_2 hfz61_3 hfz61_4 hfz61_5 hfz61_6 hfz64_0 hfz64_1 hfz64_2 hfz64_3 hfz64_4 hfz64_5 hfz64_6 hfz72_0 hfz72_1 hfz72_2 hfz72_3 hfz72_4 hfz72_5 hfz72_6 hfz76_0 hfz76_1 hfz76_2 hfz76_3 hfz76_4 hfz76_5 hfz76_6 hfz85_0 hfz85_1 hfz85_2 hfz85_3 hfz85_4 hfz85_5 hfz85_6 hfz99_0 hfz99_1 hfz99_2 hfz99_3 hfz99_4 hfz99_5 hfz99_6
       try clear p2
       try clear HO_20
       try clear HO_399
       try clear HO_303
       try clear HO_304
       try clear HO_305
       try clear HO_306
       try clear HO_307
       try clear HO_308
       try clear HO_375
       try clear HO_376
       try clear HO_377
       try clear HO_378
       try clear HO_379
       try clear HO_381
       try clear HO_382
       try clear HO_383
       obtain ⟨x402_3, rfl, HA, HK3, HO_20, HO_399, HO_303, HO_304, HO_305, HO_306, HO_307, HO_308, HO_375, HO_376, HO_377, HO_378, HO_379, HO_381, HO_382, HO_383, BK291, BK296, BK301, BK349, BK354, BK359, BK364, HB⟩ := hrel
       cases gk with
       | zero => exact absurd HA.out (by simp [Ff.l0])
       | succ k3 =>
        have H := HA.out
        clear HA
        simp only [Ff.l0] at H
        by_cases c408 : x402_3 < (t385.length : Int)
        ·
         rw [if_pos c408] at H
         have c125b0 := decide_eq_true c408
         clear c408
         by_cases c409 : 0 ≤ x402_3
         rotate_left
         ·
          rw [if_neg c409] at H
          exact absurd H Z43
         rw [if_pos c409] at H
         have c126b0 := decide_eq_true c409
         clear c409
         by_cases c411 : x402_3 < (t385.length : Int)
         rotate_left
         ·
          rw [if_neg c411] at H
          exact absurd H Z43
         rw [if_pos c411] at H
         have c127b0 := decide_eq_true c411
         clear c411
         replace H := Option.bind_eq_some_iff.mp H
         obtain ⟨⟨t412, t413⟩, A414, H⟩ := H
         try dsimp only at H
         have A415 := am A414
         clear A414
         by_cases c416 : t413 = true
         ·
          subst c416
          rw [if_pos rfl] at H
          by_cases c417 : t412 = true
          ·
           subst c417
           rw [if_pos rfl] at H
           have H' := am H
           clear H
           have p418 : 0 ≤ (x402_3 : Int) := of_decide_eq_true Z6
           have q418 : x402_3 < (t385.length : Int) := of_decide_eq_true Z6
           obtain ⟨ad418, e418, hx418_0⟩ := Kd.at_int (Kd.R_reads' HO_399.out).2.2 x402_3 p418 q418
           cases e418
           replace p418 := eq_true p418
           replace q418 := eq_true q418
           have hnb419 := NB296_291.out
           have hnc419 := NB291_296.out
           have hnb420 := NB296_301.out
           have hnc420 := NB301_296.out
           have hnb421 := NB296_349.out
           have hnc421 := NB349_296.out
           have hnb422 := NB296_354.out
           have hnc422 := NB354_296.out
           have hnb423 := NB296_359.out
           have hnc423 := NB359_296.out
           have hnb424 := NB296_364.out
           have hnc424 := NB364_296.out
           obtain ⟨hcz425_0, hcz425_1, hcz425_2, hcz425_3, hcz425_4, hcz425_5, hcz425_6, hfz425_0, hfz425_1, hfz425_2, hfz425_3, hfz425_4, hfz425_5, hfz425_6⟩ := ce7 BK296
           go_wp2_with (first | ((with_reducible refine gate_callee (f := 11) rfl ?_); refine gL 128 rfl Try.func11 #[.agg #[.int .i64 t261, .int .i64 t272, .int .i64 t273, .int .i64 t274, .slice Ao18 t275.length co18, .int .i64 t276, .slice Ao19 t277.length co19], .int .i64 (rd t385 x402_3)] ?_; (with_reducible refine (FW.calls k3 t261 t272 t273 t274 _ _ t275 t276 _ _ t277 (rd t385 x402_3) true true _ ?side1 ?side2 ?side3 ?side4 A415.out).mono ?_); (case side1 => exact uD HO_305); (case side2 => exact (Kd.R_reads' HO_305.out).2.1); (case side3 => exact uD HO_306); (case side4 => exact (Kd.R_reads' HO_306.out).2.1); rintro e w426 ⟨rfl, hb⟩; refine ⟨_, rfl, ?_⟩; replace HO_20 := rB HO_20 hb; replace HO_399 := rB HO_399 hb; replace HO_303 := rB HO_303 hb; replace HO_304 := rB HO_304 hb; replace HO_305 := rB HO_305 hb; replace HO_306 := rB HO_306 hb; replace HO_307 := rB HO_307 hb; replace HO_308 := rB HO_308 hb; replace HO_375 := rB HO_375 hb; replace HO_376 := rB HO_376 hb; replace HO_377 := rB HO_377 hb; replace HO_378 := rB HO_378 hb; replace HO_379 := rB HO_379 hb; replace HO_381 := rB HO_381 hb; replace HO_382 := rB HO_382 hb; replace HO_383 := rB HO_383 hb; replace BK291 := kB BK291 hb; replace BK296 := kB BK296 hb; replace BK301 := kB BK301 hb; replace BK349 := kB BK349 hb; replace BK354 := kB BK354 hb; replace BK359 := kB BK359 hb; replace BK364 := kB BK364 hb; replace HB := am (below_step (uN HB) hb); (try clear hb); (try clear hb2); (try clear hk); (try clear hi)))
           go_roundg k3
           case measure => have := HJ7.out; have := HJ41.out; have := HK3.out; omega
           case rel => exact ⟨(wrap64 (x402_3 + 1)), Z110, H', ⟨by have := HJ7.out; have := HJ41.out; have := HK3.out; omega⟩, ⟨Z77⟩, ⟨by (with_reducible repeat (first | apply Kd.R_alloc | apply Kd.R_drewN | apply Kd.R_drew)); exact HO_399.out⟩, ⟨Z103⟩, ⟨Z102⟩, ⟨Z101⟩, ⟨Z100⟩, ⟨Z99⟩, ⟨Z98⟩, ⟨Z97⟩, ⟨Z96⟩, ⟨Z95⟩, ⟨Z94⟩, ⟨Z93⟩, ⟨Z92⟩, ⟨Z91⟩, ⟨Z90⟩, ⟨pb BK291⟩, ⟨pb BK296⟩, ⟨pb BK301⟩, ⟨pb BK349⟩, ⟨pb BK354⟩, ⟨pb BK359⟩, ⟨pb BK364⟩, ⟨uN HB⟩⟩
          replace c417 := Bool.eq_false_iff.mpr c417
          subst c417
          rw [if_neg (show ¬ (false = true) from Z16)] at H
          obtain rfl := Option.some.inj H
          have p418 : 0 ≤ (x402_3 : Int) := of_decide_eq_true Z6
          have q418 : x402_3 < (t385.length : Int) := of_decide_eq_true Z6
          obtain ⟨ad418, e418, hx418_0⟩ := Kd.at_int (Kd.R_reads' HO_399.out).2.2 x402_3 p418 q418
          cases e418
          replace p418 := eq_true p418
          replace q418 := eq_true q418
          have hnb427 := NB296_291.out
          have hnc427 := NB291_296.out
          have hnb428 := NB296_301.out
          have hnc428 := NB301_296.out
          have hnb429 := NB296_349.out
          have hnc429 := NB349_296.out
          have hnb430 := NB296_354.out
          have hnc430 := NB354_296.out
          have hnb431 := NB296_359.out
          have hnc431 := NB359_296.out
          have hnb432 := NB296_364.out
          have hnc432 := NB364_296.out
          obtain ⟨hcz433_0, hcz433_1, hcz433_2, hcz433_3, hcz433_4, hcz433_5, hcz433_6, hfz433_0, hfz433_1, hfz433_2, hfz433_3, hfz433_4, hfz433_5, hfz433_6⟩ := ce7 BK296
          go_wp2_with (first | ((with_reducible refine gate_callee (f := 11) rfl ?_); refine gL 128 rfl Try.func11 #[.agg #[.int .i64 t261, .int .i64 t272, .int .i64 t273, .int .i64 t274, .slice Ao18 t275.length co18, .int .i64 t276, .slice Ao19 t277.length co19], .int .i64 (rd t385 x402_3)] ?_; (with_reducible refine (FW.calls k3 t261 t272 t273 t274 _ _ t275 t276 _ _ t277 (rd t385 x402_3) false true _ ?side1 ?side2 ?side3 ?side4 A415.out).mono ?_); (case side1 => exact uD HO_305); (case side2 => exact (Kd.R_reads' HO_305.out).2.1); (case side3 => exact uD HO_306); (case side4 => exact (Kd.R_reads' HO_306.out).2.1); rintro e w434 ⟨rfl, hb⟩; refine ⟨_, rfl, ?_⟩; replace HO_20 := rB HO_20 hb; replace HO_399 := rB HO_399 hb; replace HO_303 := rB HO_303 hb; replace HO_304 := rB HO_304 hb; replace HO_305 := rB HO_305 hb; replace HO_306 := rB HO_306 hb; replace HO_307 := rB HO_307 hb; replace HO_308 := rB HO_308 hb; replace HO_375 := rB HO_375 hb; replace HO_376 := rB HO_376 hb; replace HO_377 := rB HO_377 hb; replace HO_378 := rB HO_378 hb; replace HO_379 := rB HO_379 hb; replace HO_381 := rB HO_381 hb; replace HO_382 := rB HO_382 hb; replace HO_383 := rB HO_383 hb; replace BK291 := kB BK291 hb; replace BK296 := kB BK296 hb; replace BK301 := kB BK301 hb; replace BK349 := kB BK349 hb; replace BK354 := kB BK354 hb; replace BK359 := kB BK359 hb; replace BK364 := kB BK364 hb; replace HB := am (below_step (uN HB) hb); (try clear hb); (try clear hb2); (try clear hk); (try clear hi)))
          go_ret
          exact ⟨Z109, uN HB⟩
         replace c416 := Bool.eq_false_iff.mpr c416
         subst c416
         rw [if_neg (show ¬ (false = true) from Z16)] at H
         obtain rfl := Option.some.inj H
         have p418 : 0 ≤ (x402_3 : Int) := of_decide_eq_true Z6
         have q418 : x402_3 < (t385.length : Int) := of_decide_eq_true Z6
         obtain ⟨ad418, e418, hx418_0⟩ := Kd.at_int (Kd.R_reads' HO_399.out).2.2 x402_3 p418 q418
         cases e418
         replace p418 := eq_true p418
         replace q418 := eq_true q418
         have hnb435 := NB296_291.out
         have hnc435 := NB291_296.out
         have hnb436 := NB296_301.out
         have hnc436 := NB301_296.out
         have hnb437 := NB296_349.out
         have hnc437 := NB349_296.out
         have hnb438 := NB296_354.out
         have hnc438 := NB354_296.out
         have hnb439 := NB296_359.out
         have hnc439 := NB359_296.out
         have hnb440 := NB296_364.out
         have hnc440 := NB364_296.out
         obtain ⟨hcz441_0, hcz441_1, hcz441_2, hcz441_3, hcz441_4, hcz441_5, hcz441_6, hfz441_0, hfz441_1, hfz441_2, hfz441_3, hfz441_4, hfz441_5, hfz441_6⟩ := ce7 BK296
         go_wp2_with (first | ((with_reducible refine gate_callee (f := 11) rfl ?_); refine gL 128 rfl Try.func11 #[.agg #[.int .i64 t261, .int .i64 t272, .int .i64 t273, .int .i64 t274, .slice Ao18 t275.length co18, .int .i64 t276, .slice Ao19 t277.length co19], .int .i64 (rd t385 x402_3)] ?_; (with_reducible refine (FW.calls k3 t261 t272 t273 t274 _ _ t275 t276 _ _ t277 (rd t385 x402_3) t412 false _ ?side1 ?side2 ?side3 ?side4 A415.out).mono ?_); (case side1 => exact uD HO_305); (case side2 => exact (Kd.R_reads' HO_305.out).2.1); (case side3 => exact uD HO_306); (case side4 => exact (Kd.R_reads' HO_306.out).2.1); rintro e w442 ⟨rfl, hb⟩; refine ⟨_, rfl, ?_⟩; replace HO_20 := rB HO_20 hb; replace HO_399 := rB HO_399 hb; replace HO_303 := rB HO_303 hb; replace HO_304 := rB HO_304 hb; replace HO_305 := rB HO_305 hb; replace HO_306 := rB HO_306 hb; replace HO_307 := rB HO_307 hb; replace HO_308 := rB HO_308 hb; replace HO_375 := rB HO_375 hb; replace HO_376 := rB HO_376 hb; replace HO_377 := rB HO_377 hb; replace HO_378 := rB HO_378 hb; replace HO_379 := rB HO_379 hb; replace HO_381 := rB HO_381 hb; replace HO_382 := rB HO_382 hb; replace HO_383 := rB HO_383 hb; replace BK291 := kB BK291 hb; replace BK296 := kB BK296 hb; replace BK301 := kB BK301 hb; replace BK349 := kB BK349 hb; replace BK354 := kB BK354 hb; replace BK359 := kB BK359 hb; replace BK364 := kB BK364 hb; replace HB := am (below_step (uN HB) hb); (try clear hb); (try clear hb2); (try clear hk); (try clear hi)))
         go_ret
         exact ⟨Z109, uN HB⟩
        rw [if_neg c408] at H
        have c125b0 := decide_eq_false c408
        clear c408
        have H' := am H
        clear H
        go_wp2
        go_loopg [26] k3 (fun kq v26 w' => ∃ (x26_4 : Int), v26 = .int .i64 x26_4 ∧ Aside0 (Ff.l1 kq t270 t385 x26_4 t260 t264 t265 t266 t267 t268 t269 t261 t272 t273 t274 t275 t276 t277 = some r) ∧ Aside0 (kq ≤ k3) ∧ Aside0 (Kd.R (Kd.int .i64) 3 w' w.heap.size (fun k_ => nb k_ Ao12 t267.length co12 ∧ nb k_ Ao13 t269.length co13 ∧ nb k_ Ao18 t275.length co18 ∧ nb k_ Ao19 t277.length co19 ∧ nb k_ Ao26 t282.length co26 ∧ nb k_ Ao27 t284.length co27 ∧ nb k_ Ao52 t313.length co52 ∧ nb k_ Ao53 t315.length co53 ∧ nb k_ Ao62 t322.length co62 ∧ nb k_ Ao63 t324.length co63 ∧ nb k_ Ao73 t331.length co73 ∧ nb k_ Ao74 t333.length co74 ∧ nb k_ Ao86 t340.length co86 ∧ some k_ ≠ ((.slice Ao87 t342.length co87) : Value).ownBlock) (.slice Ao407 t385.length co407) t385) ∧ Aside0 (Kd.R (Kd.int .i64) 3 w' w.heap.size (fun k_ => nb k_ Ao407 t385.length co407 ∧ nb k_ Ao13 t269.length co13 ∧ nb k_ Ao18 t275.length co18 ∧ nb k_ Ao19 t277.length co19 ∧ nb k_ Ao26 t282.length co26 ∧ nb k_ Ao27 t284.length co27 ∧ nb k_ Ao52 t313.length co52 ∧ nb k_ Ao53 t315.length co53 ∧ nb k_ Ao62 t322.length co62 ∧ nb k_ Ao63 t324.length co63 ∧ nb k_ Ao73 t331.length co73 ∧ nb k_ Ao74 t333.length co74 ∧ nb k_ Ao86 t340.length co86 ∧ some k_ ≠ ((.slice Ao87 t342.length co87) : Value).ownBlock) (.slice Ao12 t267.length co12) t267) ∧ Aside0 (Kd.R (Kd.int .i64) 3 w' w.heap.size (fun k_ => nb k_ Ao407 t385.length co407 ∧ nb k_ Ao12 t267.length co12 ∧ nb k_ Ao18 t275.length co18 ∧ nb k_ Ao19 t277.length co19 ∧ nb k_ Ao26 t282.length co26 ∧ nb k_ Ao27 t284.length co27 ∧ nb k_ Ao52 t313.length co52 ∧ nb k_ Ao53 t315.length co53 ∧ nb k_ Ao62 t322.length co62 ∧ nb k_ Ao63 t324.length co63 ∧ nb k_ Ao73 t331.length co73 ∧ nb k_ Ao74 t333.length co74 ∧ nb k_ Ao86 t340.length co86 ∧ some k_ ≠ ((.slice Ao87 t342.length co87) : Value).ownBlock) (.slice Ao13 t269.length co13) t269) ∧ Aside0 (Kd.R (Kd.int .i64) 3 w' w.heap.size (fun k_ => nb k_ Ao407 t385.length co407 ∧ nb k_ Ao12 t267.length co12 ∧ nb k_ Ao13 t269.length co13 ∧ nb k_ Ao19 t277.length co19 ∧ nb k_ Ao26 t282.length co26 ∧ nb k_ Ao27 t284.length co27 ∧ nb k_ Ao52 t313.length co52 ∧ nb k_ Ao53 t315.length co53 ∧ nb k_ Ao62 t322.length co62 ∧ nb k_ Ao63 t324.length co63 ∧ nb k_ Ao73 t331.length co73 ∧ nb k_ Ao74 t333.length co74 ∧ nb k_ Ao86 t340.length co86 ∧ some k_ ≠ ((.slice Ao87 t342.length co87) : Value).ownBlock) (.slice Ao18 t275.length co18) t275) ∧ Aside0 (Kd.R (Kd.int .i64) 3 w' w.heap.size (fun k_ => nb k_ Ao407 t385.length co407 ∧ nb k_ Ao12 t267.length co12 ∧ nb k_ Ao13 t269.length co13 ∧ nb k_ Ao18 t275.length co18 ∧ nb k_ Ao26 t282.length co26 ∧ nb k_ Ao27 t284.length co27 ∧ nb k_ Ao52 t313.length co52 ∧ nb k_ Ao53 t315.length co53 ∧ nb k_ Ao62 t322.length co62 ∧ nb k_ Ao63 t324.length co63 ∧ nb k_ Ao73 t331.length co73 ∧ nb k_ Ao74 t333.length co74 ∧ nb k_ Ao86 t340.length co86 ∧ some k_ ≠ ((.slice Ao87 t342.length co87) : Value).ownBlock) (.slice Ao19 t277.length co19) t277) ∧ Aside0 (Kd.R (Kd.int .i64) 3 w' w.heap.size (fun k_ => nb k_ Ao407 t385.length co407 ∧ nb k_ Ao12 t267.length co12 ∧ nb k_ Ao13 t269.length co13 ∧ nb k_ Ao18 t275.length co18 ∧ nb k_ Ao19 t277.length co19 ∧ nb k_ Ao27 t284.length co27 ∧ nb k_ Ao52 t313.length co52 ∧ nb k_ Ao53 t315.length co53 ∧ nb k_ Ao62 t322.length co62 ∧ nb k_ Ao63 t324.length co63 ∧ nb k_ Ao73 t331.length co73 ∧ nb k_ Ao74 t333.length co74 ∧ nb k_ Ao86 t340.length co86 ∧ some k_ ≠ ((.slice Ao87 t342.length co87) : Value).ownBlock) (.slice Ao26 t282.length co26) t282) ∧ Aside0 (Kd.R (Kd.int .i64) 3 w' w.heap.size (fun k_ => nb k_ Ao407 t385.length co407 ∧ nb k_ Ao12 t267.length co12 ∧ nb k_ Ao13 t269.length co13 ∧ nb k_ Ao18 t275.length co18 ∧ nb k_ Ao19 t277.length co19 ∧ nb k_ Ao26 t282.length co26 ∧ nb k_ Ao52 t313.length co52 ∧ nb k_ Ao53 t315.length co53 ∧ nb k_ Ao62 t322.length co62 ∧ nb k_ Ao63 t324.length co63 ∧ nb k_ Ao73 t331.length co73 ∧ nb k_ Ao74 t333.length co74 ∧ nb k_ Ao86 t340.length co86 ∧ some k_ ≠ ((.slice Ao87 t342.length co87) : Value).ownBlock) (.slice Ao27 t284.length co27) t284) ∧ Aside0 (Kd.R (Kd.int .i64) 3 w' w.heap.size (fun k_ => nb k_ Ao407 t385.length co407 ∧ nb k_ Ao12 t267.length co12 ∧ nb k_ Ao13 t269.length co13 ∧ nb k_ Ao18 t275.length co18 ∧ nb k_ Ao19 t277.length co19 ∧ nb k_ Ao26 t282.length co26 ∧ nb k_ Ao27 t284.length co27 ∧ nb k_ Ao53 t315.length co53 ∧ nb k_ Ao62 t322.length co62 ∧ nb k_ Ao63 t324.length co63 ∧ nb k_ Ao73 t331.length co73 ∧ nb k_ Ao74 t333.length co74 ∧ nb k_ Ao86 t340.length co86 ∧ some k_ ≠ ((.slice Ao87 t342.length co87) : Value).ownBlock) (.slice Ao52 t313.length co52) t313) ∧ Aside0 (Kd.R (Kd.int .i64) 3 w' w.heap.size (fun k_ => nb k_ Ao407 t385.length co407 ∧ nb k_ Ao12 t267.length co12 ∧ nb k_ Ao13 t269.length co13 ∧ nb k_ Ao18 t275.length co18 ∧ nb k_ Ao19 t277.length co19 ∧ nb k_ Ao26 t282.length co26 ∧ nb k_ Ao27 t284.length co27 ∧ nb k_ Ao52 t313.length co52 ∧ nb k_ Ao62 t322.length co62 ∧ nb k_ Ao63 t324.length co63 ∧ nb k_ Ao73 t331.length co73 ∧ nb k_ Ao74 t333.length co74 ∧ nb k_ Ao86 t340.length co86 ∧ some k_ ≠ ((.slice Ao87 t342.length co87) : Value).ownBlock) (.slice Ao53 t315.length co53) t315) ∧ Aside0 (Kd.R (Kd.int .i64) 3 w' w.heap.size (fun k_ => nb k_ Ao407 t385.length co407 ∧ nb k_ Ao12 t267.length co12 ∧ nb k_ Ao13 t269.length co13 ∧ nb k_ Ao18 t275.length co18 ∧ nb k_ Ao19 t277.length co19 ∧ nb k_ Ao26 t282.length co26 ∧ nb k_ Ao27 t284.length co27 ∧ nb k_ Ao52 t313.length co52 ∧ nb k_ Ao53 t315.length co53 ∧ nb k_ Ao63 t324.length co63 ∧ nb k_ Ao73 t331.length co73 ∧ nb k_ Ao74 t333.length co74 ∧ nb k_ Ao86 t340.length co86 ∧ some k_ ≠ ((.slice Ao87 t342.length co87) : Value).ownBlock) (.slice Ao62 t322.length co62) t322) ∧ Aside0 (Kd.R (Kd.int .i64) 3 w' w.heap.size (fun k_ => nb k_ Ao407 t385.length co407 ∧ nb k_ Ao12 t267.length co12 ∧ nb k_ Ao13 t269.length co13 ∧ nb k_ Ao18 t275.length co18 ∧ nb k_ Ao19 t277.length co19 ∧ nb k_ Ao26 t282.length co26 ∧ nb k_ Ao27 t284.length co27 ∧ nb k_ Ao52 t313.length co52 ∧ nb k_ Ao53 t315.length co53 ∧ nb k_ Ao62 t322.length co62 ∧ nb k_ Ao73 t331.length co73 ∧ nb k_ Ao74 t333.length co74 ∧ nb k_ Ao86 t340.length co86 ∧ some k_ ≠ ((.slice Ao87 t342.length co87) : Value).ownBlock) (.slice Ao63 t324.length co63) t324) ∧ Aside0 (Kd.R (Kd.int .i64) 3 w' w.heap.size (fun k_ => nb k_ Ao407 t385.length co407 ∧ nb k_ Ao12 t267.length co12 ∧ nb k_ Ao13 t269.length co13 ∧ nb k_ Ao18 t275.length co18 ∧ nb k_ Ao19 t277.length co19 ∧ nb k_ Ao26 t282.length co26 ∧ nb k_ Ao27 t284.length co27 ∧ nb k_ Ao52 t313.length co52 ∧ nb k_ Ao53 t315.length co53 ∧ nb k_ Ao62 t322.length co62 ∧ nb k_ Ao63 t324.length co63 ∧ nb k_ Ao74 t333.length co74 ∧ nb k_ Ao86 t340.length co86 ∧ some k_ ≠ ((.slice Ao87 t342.length co87) : Value).ownBlock) (.slice Ao73 t331.length co73) t331) ∧ Aside0 (Kd.R (Kd.int .i64) 3 w' w.heap.size (fun k_ => nb k_ Ao407 t385.length co407 ∧ nb k_ Ao12 t267.length co12 ∧ nb k_ Ao13 t269.length co13 ∧ nb k_ Ao18 t275.length co18 ∧ nb k_ Ao19 t277.length co19 ∧ nb k_ Ao26 t282.length co26 ∧ nb k_ Ao27 t284.length co27 ∧ nb k_ Ao52 t313.length co52 ∧ nb k_ Ao53 t315.length co53 ∧ nb k_ Ao62 t322.length co62 ∧ nb k_ Ao63 t324.length co63 ∧ nb k_ Ao73 t331.length co73 ∧ nb k_ Ao86 t340.length co86 ∧ some k_ ≠ ((.slice Ao87 t342.length co87) : Value).ownBlock) (.slice Ao74 t333.length co74) t333) ∧ Aside0 (Kd.R (Kd.int .i64) 3 w' w.heap.size (fun k_ => nb k_ Ao407 t385.length co407 ∧ nb k_ Ao12 t267.length co12 ∧ nb k_ Ao13 t269.length co13 ∧ nb k_ Ao18 t275.length co18 ∧ nb k_ Ao19 t277.length co19 ∧ nb k_ Ao26 t282.length co26 ∧ nb k_ Ao27 t284.length co27 ∧ nb k_ Ao52 t313.length co52 ∧ nb k_ Ao53 t315.length co53 ∧ nb k_ Ao62 t322.length co62 ∧ nb k_ Ao63 t324.length co63 ∧ nb k_ Ao73 t331.length co73 ∧ nb k_ Ao74 t333.length co74 ∧ some k_ ≠ ((.slice Ao87 t342.length co87) : Value).ownBlock) (.slice Ao86 t340.length co86) t340) ∧ Aside0 (Kd.R (Kd.int .i64) 3 w' w.heap.size (fun k_ => nb k_ Ao407 t385.length co407 ∧ nb k_ Ao12 t267.length co12 ∧ nb k_ Ao13 t269.length co13 ∧ nb k_ Ao18 t275.length co18 ∧ nb k_ Ao19 t277.length co19 ∧ nb k_ Ao26 t282.length co26 ∧ nb k_ Ao27 t284.length co27 ∧ nb k_ Ao52 t313.length co52 ∧ nb k_ Ao53 t315.length co53 ∧ nb k_ Ao62 t322.length co62 ∧ nb k_ Ao63 t324.length co63 ∧ nb k_ Ao73 t331.length co73 ∧ nb k_ Ao74 t333.length co74 ∧ some k_ ≠ ((.slice Ao86 t340.length co86) : Value).ownBlock) (.slice Ao87 t342.length co87) t342) ∧ Aside0 (w'.heap[gb291]? = some (.cells #[.int .i64 t260, .int .i64 t264, .int .i64 t265, .int .i64 t266, (.slice Ao12 t267.length co12), .int .i64 t268, (.slice Ao13 t269.length co13)] 28 (0, 0))) ∧ Aside0 (w'.heap[gb296]? = some (.cells #[.int .i64 t261, .int .i64 t272, .int .i64 t273, .int .i64 t274, (.slice Ao18 t275.length co18), .int .i64 t276, (.slice Ao19 t277.length co19)] 28 (0, 0))) ∧ Aside0 (w'.heap[gb301]? = some (.cells #[.int .i64 t262, .int .i64 t279, .int .i64 t280, .int .i64 t281, (.slice Ao26 t282.length co26), .int .i64 t283, (.slice Ao27 t284.length co27)] 28 (0, 0))) ∧ Aside0 (w'.heap[gb349]? = some (.cells #[.int .i64 t309, .int .i64 t310, .int .i64 t311, .int .i64 t312, (.slice Ao52 t313.length co52), .int .i64 t314, (.slice Ao53 t315.length co53)] 28 (0, 0))) ∧ Aside0 (w'.heap[gb354]? = some (.cells #[.int .i64 t318, .int .i64 t319, .int .i64 t320, .int .i64 t321, (.slice Ao62 t322.length co62), .int .i64 t323, (.slice Ao63 t324.length co63)] 28 (0, 0))) ∧ Aside0 (w'.heap[gb359]? = some (.cells #[.int .i64 t327, .int .i64 t328, .int .i64 t329, .int .i64 t330, (.slice Ao73 t331.length co73), .int .i64 t332, (.slice Ao74 t333.length co74)] 28 (0, 0))) ∧ Aside0 (w'.heap[gb364]? = some (.cells #[.int .i64 t336, .int .i64 t337, .int .i64 t338, .int .i64 t339, (.slice Ao86 t340.length co86), .int .i64 t341, (.slice Ao87 t342.length co87)] 28 (0, 0))) ∧ Aside0 (Below w.heap.size w w'))
        case atStart => exact ⟨(0), Z110, H', ⟨Nat.le_refl _⟩, ⟨Z77⟩, ⟨by (with_reducible repeat (first | apply Kd.R_alloc | apply Kd.R_drewN | apply Kd.R_drew)); exact Kd.R_mono HO_303.out (fun _ hk => ⟨hk.1, ⟨hk.2.2.1, ⟨hk.2.2.2.1, ⟨hk.2.2.2.2.1, ⟨hk.2.2.2.2.2.1, ⟨hk.2.2.2.2.2.2.1, ⟨hk.2.2.2.2.2.2.2.1, ⟨hk.2.2.2.2.2.2.2.2.1, ⟨hk.2.2.2.2.2.2.2.2.2.1, ⟨hk.2.2.2.2.2.2.2.2.2.2.1, ⟨hk.2.2.2.2.2.2.2.2.2.2.2.1, ⟨hk.2.2.2.2.2.2.2.2.2.2.2.2.1, ⟨hk.2.2.2.2.2.2.2.2.2.2.2.2.2.1, hk.2.2.2.2.2.2.2.2.2.2.2.2.2.2⟩⟩⟩⟩⟩⟩⟩⟩⟩⟩⟩⟩⟩)⟩, ⟨by (with_reducible repeat (first | apply Kd.R_alloc | apply Kd.R_drewN | apply Kd.R_drew)); exact Kd.R_mono HO_304.out (fun _ hk => ⟨hk.1, ⟨hk.2.2.1, ⟨hk.2.2.2.1, ⟨hk.2.2.2.2.1, ⟨hk.2.2.2.2.2.1, ⟨hk.2.2.2.2.2.2.1, ⟨hk.2.2.2.2.2.2.2.1, ⟨hk.2.2.2.2.2.2.2.2.1, ⟨hk.2.2.2.2.2.2.2.2.2.1, ⟨hk.2.2.2.2.2.2.2.2.2.2.1, ⟨hk.2.2.2.2.2.2.2.2.2.2.2.1, ⟨hk.2.2.2.2.2.2.2.2.2.2.2.2.1, ⟨hk.2.2.2.2.2.2.2.2.2.2.2.2.2.1, hk.2.2.2.2.2.2.2.2.2.2.2.2.2.2⟩⟩⟩⟩⟩⟩⟩⟩⟩⟩⟩⟩⟩)⟩, ⟨by (with_reducible repeat (first | apply Kd.R_alloc | apply Kd.R_drewN | apply Kd.R_drew)); exact Kd.R_mono HO_305.out (fun _ hk => ⟨hk.1, ⟨hk.2.2.1, ⟨hk.2.2.2.1, ⟨hk.2.2.2.2.1, ⟨hk.2.2.2.2.2.1, ⟨hk.2.2.2.2.2.2.1, ⟨hk.2.2.2.2.2.2.2.1, ⟨hk.2.2.2.2.2.2.2.2.1, ⟨hk.2.2.2.2.2.2.2.2.2.1, ⟨hk.2.2.2.2.2.2.2.2.2.2.1, ⟨hk.2.2.2.2.2.2.2.2.2.2.2.1, ⟨hk.2.2.2.2.2.2.2.2.2.2.2.2.1, ⟨hk.2.2.2.2.2.2.2.2.2.2.2.2.2.1, hk.2.2.2.2.2.2.2.2.2.2.2.2.2.2⟩⟩⟩⟩⟩⟩⟩⟩⟩⟩⟩⟩⟩)⟩, ⟨by (with_reducible repeat (first | apply Kd.R_alloc | apply Kd.R_drewN | apply Kd.R_drew)); exact Kd.R_mono HO_306.out (fun _ hk => ⟨hk.1, ⟨hk.2.2.1, ⟨hk.2.2.2.1, ⟨hk.2.2.2.2.1, ⟨hk.2.2.2.2.2.1, ⟨hk.2.2.2.2.2.2.1, ⟨hk.2.2.2.2.2.2.2.1, ⟨hk.2.2.2.2.2.2.2.2.1, ⟨hk.2.2.2.2.2.2.2.2.2.1, ⟨hk.2.2.2.2.2.2.2.2.2.2.1, ⟨hk.2.2.2.2.2.2.2.2.2.2.2.1, ⟨hk.2.2.2.2.2.2.2.2.2.2.2.2.1, ⟨hk.2.2.2.2.2.2.2.2.2.2.2.2.2.1, hk.2.2.2.2.2.2.2.2.2.2.2.2.2.2⟩⟩⟩⟩⟩⟩⟩⟩⟩⟩⟩⟩⟩)⟩, ⟨by (with_reducible repeat (first | apply Kd.R_alloc | apply Kd.R_drewN | apply Kd.R_drew)); exact Kd.R_mono HO_307.out (fun _ hk => ⟨hk.1, ⟨hk.2.2.1, ⟨hk.2.2.2.1, ⟨hk.2.2.2.2.1, ⟨hk.2.2.2.2.2.1, ⟨hk.2.2.2.2.2.2.1, ⟨hk.2.2.2.2.2.2.2.1, ⟨hk.2.2.2.2.2.2.2.2.1, ⟨hk.2.2.2.2.2.2.2.2.2.1, ⟨hk.2.2.2.2.2.2.2.2.2.2.1, ⟨hk.2.2.2.2.2.2.2.2.2.2.2.1, ⟨hk.2.2.2.2.2.2.2.2.2.2.2.2.1, ⟨hk.2.2.2.2.2.2.2.2.2.2.2.2.2.1, hk.2.2.2.2.2.2.2.2.2.2.2.2.2.2⟩⟩⟩⟩⟩⟩⟩⟩⟩⟩⟩⟩⟩)⟩, ⟨by (with_reducible repeat (first | apply Kd.R_alloc | apply Kd.R_drewN | apply Kd.R_drew)); exact Kd.R_mono HO_308.out (fun _ hk => ⟨hk.1, ⟨hk.2.2.1, ⟨hk.2.2.2.1, ⟨hk.2.2.2.2.1, ⟨hk.2.2.2.2.2.1, ⟨hk.2.2.2.2.2.2.1, ⟨hk.2.2.2.2.2.2.2.1, ⟨hk.2.2.2.2.2.2.2.2.1, ⟨hk.2.2.2.2.2.2.2.2.2.1, ⟨hk.2.2.2.2.2.2.2.2.2.2.1, ⟨hk.2.2.2.2.2.2.2.2.2.2.2.1, ⟨hk.2.2.2.2.2.2.2.2.2.2.2.2.1, ⟨hk.2.2.2.2.2.2.2.2.2.2.2.2.2.1, hk.2.2.2.2.2.2.2.2.2.2.2.2.2.2⟩⟩⟩⟩⟩⟩⟩⟩⟩⟩⟩⟩⟩)⟩, ⟨by (with_reducible repeat (first | apply Kd.R_alloc | apply Kd.R_drewN | apply Kd.R_drew)); exact Kd.R_mono HO_375.out (fun _ hk => ⟨hk.1, ⟨hk.2.2.1, ⟨hk.2.2.2.1, ⟨hk.2.2.2.2.1, ⟨hk.2.2.2.2.2.1, ⟨hk.2.2.2.2.2.2.1, ⟨hk.2.2.2.2.2.2.2.1, ⟨hk.2.2.2.2.2.2.2.2.1, ⟨hk.2.2.2.2.2.2.2.2.2.1, ⟨hk.2.2.2.2.2.2.2.2.2.2.1, ⟨hk.2.2.2.2.2.2.2.2.2.2.2.1, ⟨hk.2.2.2.2.2.2.2.2.2.2.2.2.1, ⟨hk.2.2.2.2.2.2.2.2.2.2.2.2.2.1, hk.2.2.2.2.2.2.2.2.2.2.2.2.2.2⟩⟩⟩⟩⟩⟩⟩⟩⟩⟩⟩⟩⟩)⟩, ⟨by (with_reducible repeat (first | apply Kd.R_alloc | apply Kd.R_drewN | apply Kd.R_drew)); exact Kd.R_mono HO_376.out (fun _ hk => ⟨hk.1, ⟨hk.2.2.1, ⟨hk.2.2.2.1, ⟨hk.2.2.2.2.1, ⟨hk.2.2.2.2.2.1, ⟨hk.2.2.2.2.2.2.1, ⟨hk.2.2.2.2.2.2.2.1, ⟨hk.2.2.2.2.2.2.2.2.1, ⟨hk.2.2.2.2.2.2.2.2.2.1, ⟨hk.2.2.2.2.2.2.2.2.2.2.1, ⟨hk.2.2.2.2.2.2.2.2.2.2.2.1, ⟨hk.2.2.2.2.2.2.2.2.2.2.2.2.1, ⟨hk.2.2.2.2.2.2.2.2.2.2.2.2.2.1, hk.2.2.2.2.2.2.2.2.2.2.2.2.2.2⟩⟩⟩⟩⟩⟩⟩⟩⟩⟩⟩⟩⟩)⟩, ⟨by (with_reducible repeat (first | apply Kd.R_alloc | apply Kd.R_drewN | apply Kd.R_drew)); exact Kd.R_mono HO_377.out (fun _ hk => ⟨hk.1, ⟨hk.2.2.1, ⟨hk.2.2.2.1, ⟨hk.2.2.2.2.1, ⟨hk.2.2.2.2.2.1, ⟨hk.2.2.2.2.2.2.1, ⟨hk.2.2.2.2.2.2.2.1, ⟨hk.2.2.2.2.2.2.2.2.1, ⟨hk.2.2.2.2.2.2.2.2.2.1, ⟨hk.2.2.2.2.2.2.2.2.2.2.1, ⟨hk.2.2.2.2.2.2.2.2.2.2.2.1, ⟨hk.2.2.2.2.2.2.2.2.2.2.2.2.1, ⟨hk.2.2.2.2.2.2.2.2.2.2.2.2.2.1, hk.2.2.2.2.2.2.2.2.2.2.2.2.2.2⟩⟩⟩⟩⟩⟩⟩⟩⟩⟩⟩⟩⟩)⟩, ⟨by (with_reducible repeat (first | apply Kd.R_alloc | apply Kd.R_drewN | apply Kd.R_drew)); exact Kd.R_mono HO_378.out (fun _ hk => ⟨hk.1, ⟨hk.2.2.1, ⟨hk.2.2.2.1, ⟨hk.2.2.2.2.1, ⟨hk.2.2.2.2.2.1, ⟨hk.2.2.2.2.2.2.1, ⟨hk.2.2.2.2.2.2.2.1, ⟨hk.2.2.2.2.2.2.2.2.1, ⟨hk.2.2.2.2.2.2.2.2.2.1, ⟨hk.2.2.2.2.2.2.2.2.2.2.1, ⟨hk.2.2.2.2.2.2.2.2.2.2.2.1, ⟨hk.2.2.2.2.2.2.2.2.2.2.2.2.1, ⟨hk.2.2.2.2.2.2.2.2.2.2.2.2.2.1, hk.2.2.2.2.2.2.2.2.2.2.2.2.2.2⟩⟩⟩⟩⟩⟩⟩⟩⟩⟩⟩⟩⟩)⟩, ⟨by (with_reducible repeat (first | apply Kd.R_alloc | apply Kd.R_drewN | apply Kd.R_drew)); exact Kd.R_mono HO_379.out (fun _ hk => ⟨hk.1, ⟨hk.2.2.1, ⟨hk.2.2.2.1, ⟨hk.2.2.2.2.1, ⟨hk.2.2.2.2.2.1, ⟨hk.2.2.2.2.2.2.1, ⟨hk.2.2.2.2.2.2.2.1, ⟨hk.2.2.2.2.2.2.2.2.1, ⟨hk.2.2.2.2.2.2.2.2.2.1, ⟨hk.2.2.2.2.2.2.2.2.2.2.1, ⟨hk.2.2.2.2.2.2.2.2.2.2.2.1, ⟨hk.2.2.2.2.2.2.2.2.2.2.2.2.1, ⟨hk.2.2.2.2.2.2.2.2.2.2.2.2.2.1, hk.2.2.2.2.2.2.2.2.2.2.2.2.2.2⟩⟩⟩⟩⟩⟩⟩⟩⟩⟩⟩⟩⟩)⟩, ⟨by (with_reducible repeat (first | apply Kd.R_alloc | apply Kd.R_drewN | apply Kd.R_drew)); exact Kd.R_mono HO_381.out (fun _ hk => ⟨hk.1, ⟨hk.2.2.1, ⟨hk.2.2.2.1, ⟨hk.2.2.2.2.1, ⟨hk.2.2.2.2.2.1, ⟨hk.2.2.2.2.2.2.1, ⟨hk.2.2.2.2.2.2.2.1, ⟨hk.2.2.2.2.2.2.2.2.1, ⟨hk.2.2.2.2.2.2.2.2.2.1, ⟨hk.2.2.2.2.2.2.2.2.2.2.1, ⟨hk.2.2.2.2.2.2.2.2.2.2.2.1, ⟨hk.2.2.2.2.2.2.2.2.2.2.2.2.1, ⟨hk.2.2.2.2.2.2.2.2.2.2.2.2.2.1, hk.2.2.2.2.2.2.2.2.2.2.2.2.2.2⟩⟩⟩⟩⟩⟩⟩⟩⟩⟩⟩⟩⟩)⟩, ⟨by (with_reducible repeat (first | apply Kd.R_alloc | apply Kd.R_drewN | apply Kd.R_drew)); exact Kd.R_mono HO_382.out (fun _ hk => ⟨hk.1, ⟨hk.2.2.1, ⟨hk.2.2.2.1, ⟨hk.2.2.2.2.1, ⟨hk.2.2.2.2.2.1, ⟨hk.2.2.2.2.2.2.1, ⟨hk.2.2.2.2.2.2.2.1, ⟨hk.2.2.2.2.2.2.2.2.1, ⟨hk.2.2.2.2.2.2.2.2.2.1, ⟨hk.2.2.2.2.2.2.2.2.2.2.1, ⟨hk.2.2.2.2.2.2.2.2.2.2.2.1, ⟨hk.2.2.2.2.2.2.2.2.2.2.2.2.1, ⟨hk.2.2.2.2.2.2.2.2.2.2.2.2.2.1, hk.2.2.2.2.2.2.2.2.2.2.2.2.2.2⟩⟩⟩⟩⟩⟩⟩⟩⟩⟩⟩⟩⟩)⟩, ⟨by (with_reducible repeat (first | apply Kd.R_alloc | apply Kd.R_drewN | apply Kd.R_drew)); exact Kd.R_mono HO_383.out (fun _ hk => ⟨hk.1, ⟨hk.2.2.1, ⟨hk.2.2.2.1, ⟨hk.2.2.2.2.1, ⟨hk.2.2.2.2.2.1, ⟨hk.2.2.2.2.2.2.1, ⟨hk.2.2.2.2.2.2.2.1, ⟨hk.2.2.2.2.2.2.2.2.1, ⟨hk.2.2.2.2.2.2.2.2.2.1, ⟨hk.2.2.2.2.2.2.2.2.2.2.1, ⟨hk.2.2.2.2.2.2.2.2.2.2.2.1, ⟨hk.2.2.2.2.2.2.2.2.2.2.2.2.1, ⟨hk.2.2.2.2.2.2.2.2.2.2.2.2.2.1, hk.2.2.2.2.2.2.2.2.2.2.2.2.2.2⟩⟩⟩⟩⟩⟩⟩⟩⟩⟩⟩⟩⟩)⟩, ⟨pb BK291⟩, ⟨pb BK296⟩, ⟨pb BK301⟩, ⟨pb BK349⟩, ⟨pb BK354⟩, ⟨pb BK359⟩, ⟨pb BK364⟩, ⟨uN HB⟩⟩
        case round =>
         clear H'
         try clear c1
         try clear c2
         try clear p2
         try clear c3
         try clear c4
         try clear c5
         try clear c6
         try clear p6
         try clear c7
         try clear p7
         try clear q7
         try clear hx7
         try clear c8
         try clear c9
         try clear c10
         try clear c11
         try clear c12
         try clear c13
         try clear c14
         try clear c15
         try clear c16
         try clear c17
         try clear c23
         try clear c24
         try clear c28
         try clear c28b0
         try clear c28b1
         try clear c28b2
         try clear c30
         try clear c31
         try clear c33
         try clear c36
         try clear c37
         try clear c43
         try clear c44
         try clear c48
         try clear c49
         try clear c50
         try clear c57
         try clear c58
         try clear c59
         try clear c60
         try clear p64
         try clear c67
         try clear c68
         try clear c69
         try clear c70
         try clear c71
         try clear p72
         try clear q72
         try clear hx72
         try clear c75
         try clear c79
         try clear c80
         try clear c81
         try clear c82
         try clear c83
         try clear c84
         try clear c88
         try clear c89
         try clear c90
         try clear c91
         try clear c93
         try clear c94
         try clear c95
         try clear c96
         try clear c97
         try clear c98
         try clear c368
         try clear c369
         try clear c370
         try clear c371
         try clear c372
         try clear c384
         try clear c389
         try clear c365
         try clear c391
         try clear c392
         try clear c393
         try clear c394
         try clear c395
         try clear c397
         try clear c398
         try clear c399
         try clear c401
         try clear c402
         try clear c408
         try clear c125b0
         try clear c409
         try clear c126b0
         try clear c411
         try clear c127b0
         try clear c416
         try clear c417
         try clear c419
         try clear c420
         try clear c421
         try clear c422
         try clear c423
         try clear c424
         try clear c427
         try clear c428
         try clear c429
         try clear c430
         try clear c431
         try clear c432
         try clear c435
         try clear c436
         try clear c437
         try clear c438
         try clear c439
         try clear c440
         try clear hcz373_0 hcz373_1 hcz373_2 hcz373_3 hcz373_4 hcz373_5 hcz373_6 hcz396_0 hcz396_1 hcz396_2 hcz396_3 hcz396_4 hcz396_5 hcz396_6 hcz11_0 hcz11_1 hcz11_2 hcz11_3 hcz11_4 hcz11_5 hcz11_6 hcz403_0 hcz403_1 hcz403_2 hcz403_3 hcz403_4 hcz403_5 hcz403_6 hcz425_0 hcz425_1 hcz425_2 hcz425_3 hcz425_4 hcz425_5 hcz425_6 hcz433_0 hcz433_1 hcz433_2 hcz433_3 hcz433_4 hcz433_5 hcz433_6 hcz441_0 hcz441_1 hcz441_2 hcz441_3 hcz441_4 hcz441_5 hcz441_6 hcz17_0 hcz17_1 hcz17_2 hcz17_3 hcz17_4 hcz17_5 hcz17_6 hcz20_0 hcz20_1 hcz20_2 hcz20_3 hcz20_4 hcz20_5 hcz20_6 hcz25_0 hcz25_1 hcz25_2 hcz25_3 hcz25_4 hcz25_5 hcz25_6 hcz32_0 hcz32_1 hcz32_2 hcz32_3 hcz32_4 hcz32_5 hcz32_6 hcz34_0 hcz34_1 hcz34_2 hcz34_3 hcz34_4 hcz34_5 hcz34_6 hcz45_0 hcz45_1 hcz45_2 hcz45_3 hcz45_4 hcz45_5 hcz45_6 hcz51_0 hcz51_1 hcz51_2 hcz51_3 hcz51_4 hcz51_5 hcz51_6 hcz54_0 hcz54_1 hcz54_2 hcz54_3 hcz54_4 hcz54_5 hcz54_6 hcz61_0 hcz61_1 hcz61_2 hcz61_3 hcz61_4 hcz61_5 hcz61_6 hcz64_0 hcz64_1 hcz64_2 hcz64_3 hcz64_4 hcz64_5 hcz64_6 hcz72_0 hcz72_1 hcz72_2 hcz72_3 hcz72_4 hcz72_5 hcz72_6 hcz76_0 hcz76_1 hcz76_2 hcz76_3 hcz76_4 hcz76_5 hcz76_6 hcz85_0 hcz85_1 hcz85_2 hcz85_3 hcz85_4 hcz85_5 hcz85_6 hcz99_0 hcz99_1 hcz99_2 hcz99_3 hcz99_4 hcz99_5 hcz99_6
         try clear hfz373_0 hfz373_1 hfz373_2 hfz373_3 hfz373_4 hfz373_5 hfz373_6 hfz396_0 hfz396_1 hfz396_2 hfz396_3 hfz396_4 hfz396_5 hfz396_6 hfz11_0 hfz11_1 hfz11_2 hfz11_3 hfz11_4 hfz11_5 hfz11_6 hfz403_0 hfz403_1 hfz403_2 hfz403_3 hfz403_4 hfz403_5 hfz403_6 hfz425_0 hfz425_1 hfz425_2 hfz425_3 hfz425_4 hfz425_5 hfz425_6 hfz433_0 hfz433_1 hfz433_2 hfz433_3 hfz433_4 hfz433_5 hfz433_6 hfz441_0 hfz441_1 hfz441_2 hfz441_3 hfz441_4 hfz441_5 hfz441_6 hfz17_0 hfz17_1 hfz17_2 hfz17_3 hfz17_4 hfz17_5 hfz17_6 hfz20_0 hfz20_1 hfz20_2 hfz20_3 hfz20_4 hfz20_5 hfz20_6 hfz25_0 hfz25_1 hfz25_2 hfz25_3 hfz25_4 hfz25_5 hfz25_6 hfz32_0 hfz32_1 hfz32_2 hfz32_3 hfz32_4 hfz32_5 hfz32_6 hfz34_0 hfz34_1 hfz34_2 hfz34_3 hfz34_4 hfz34_5 hfz34_6 hfz45_0 hfz45_1 hfz45_2 hfz45_3 hfz45_4 hfz45_5 hfz45_6 hfz51_0 hfz51_1 hfz51_2 hfz51_3 hfz51_4 hfz51_5 hfz51_6 hfz54_0 hfz54_1 hfz54_2 hfz54_3 hfz54_4 hfz54_5 hfz54_6 hfz61_0 hfz61_1 hfz61_2 hfz61_3 hfz61_4 hfz61_5 hfz61_6 hfz64_0 hfz64_1 hfz64_2 hfz64_3 hfz64_4 hfz64_5 hfz64_6 hfz72_0 hfz72_1 hfz72_2 hfz72_3 hfz72_4 hfz72_5 hfz72_6 hfz76_0 hfz76_1 hfz76_2 hfz76_3 hfz76_4 hfz76_5 hfz76_6 hfz85_0 hfz85_1 hfz85_2 hfz85_3 hfz85_4 hfz85_5 hfz85_6 hfz99_0 hfz99_1 hfz99_2 hfz99_3 hfz99_4 hfz99_5 hfz99_6
         try clear hx418_0
         try clear p2
         try clear p418
         try clear q418
         try clear HO_20
         try clear HO_303
         try clear HO_304
         try clear HO_305
         try clear HO_306
         try clear HO_307
         try clear HO_308
         try clear HO_375
         try clear HO_376
         try clear HO_377
         try clear HO_378
         try clear HO_379
         try clear HO_381
         try clear HO_382
         try clear HO_383
         obtain ⟨x26_4, rfl, HA, HK4, HO_20, HO_303, HO_304, HO_305, HO_306, HO_307, HO_308, HO_375, HO_376, HO_377, HO_378, HO_379, HO_381, HO_382, HO_383, BK291, BK296, BK301, BK349, BK354, BK359, BK364, HB⟩ := hrel
         cases gk with
         | zero => exact absurd HA.out (by simp [Ff.l1])
         | succ k4 =>
          have H := HA.out
          clear HA
          simp only [Ff.l1] at H
          by_cases c443 : x26_4 < t261
          rotate_left
          ·
           rw [if_neg c443] at H
           have c155b0 := decide_eq_false c443
           clear c443
           obtain rfl := Option.some.inj H
           have hnb534 := NB296_291.out
           have hnc534 := NB291_296.out
           have hnb535 := NB296_301.out
           have hnc535 := NB301_296.out
           have hnb536 := NB296_349.out
           have hnc536 := NB349_296.out
           have hnb537 := NB296_354.out
           have hnc537 := NB354_296.out
           have hnb538 := NB296_359.out
           have hnc538 := NB359_296.out
           have hnb539 := NB296_364.out
           have hnc539 := NB364_296.out
           obtain ⟨hcz540_0, hcz540_1, hcz540_2, hcz540_3, hcz540_4, hcz540_5, hcz540_6, hfz540_0, hfz540_1, hfz540_2, hfz540_3, hfz540_4, hfz540_5, hfz540_6⟩ := ce7 BK296
           go_wp2
           go_ret
           exact ⟨Z109, uN HB⟩
          rw [if_pos c443] at H
          have c155b0 := decide_eq_true c443
          clear c443
          replace H := Option.bind_eq_some_iff.mp H
          obtain ⟨⟨t444, t445⟩, A446, H⟩ := H
          try dsimp only at H
          have A447 := am A446
          clear A446
          replace H := Option.bind_eq_some_iff.mp H
          obtain ⟨⟨t448, t449⟩, A450, H⟩ := H
          try dsimp only at H
          have A451 := am A450
          clear A450
          by_cases c452 : t445 = true
          ·
           subst c452
           rw [if_pos rfl] at H
           by_cases c453 : t449 = true
           ·
            subst c453
            rw [if_pos rfl] at H
            by_cases c454 : t444 = t448
            ·
             rw [if_pos c454] at H
             have c160b0 : (t444 == t448) = true := beq_iff_eq.mpr c454
             have c160b1 : (t444 != t448) = false := bne_eq_false_iff_eq.mpr c454
             clear c454
             replace H := Option.bind_eq_some_iff.mp H
             obtain ⟨t455, A456, H⟩ := H
             try dsimp only at H
             have A457 := am A456
             clear A456
             by_cases c458 : t455 = true
             ·
              subst c458
              rw [if_pos rfl] at H
              have H' := am H
              clear H
              have hnb459 := NB296_291.out
              have hnc459 := NB291_296.out
              have hnb460 := NB296_301.out
              have hnc460 := NB301_296.out
              have hnb461 := NB296_349.out
              have hnc461 := NB349_296.out
              have hnb462 := NB296_354.out
              have hnc462 := NB354_296.out
              have hnb463 := NB296_359.out
              have hnc463 := NB359_296.out
              have hnb464 := NB296_364.out
              have hnc464 := NB364_296.out
              obtain ⟨hcz465_0, hcz465_1, hcz465_2, hcz465_3, hcz465_4, hcz465_5, hcz465_6, hfz465_0, hfz465_1, hfz465_2, hfz465_3, hfz465_4, hfz465_5, hfz465_6⟩ := ce7 BK296
              go_wp2_with (first | ((with_reducible refine gate_callee (f := 18) rfl ?_); refine gL 147 rfl Try.func18 #[.agg #[.int .i64 t261, .int .i64 t272, .int .i64 t273, .int .i64 t274, .slice Ao18 t275.length co18, .int .i64 t276, .slice Ao19 t277.length co19], .int .i64 x26_4] ?_; (with_reducible refine (FM.calls k4 t261 t272 t273 t274 _ _ t275 t276 _ _ t277 x26_4 t444 true _ ?side1 ?side2 ?side3 ?side4 A447.out).mono ?_); (case side1 => exact uD HO_305); (case side2 => exact (Kd.R_reads' HO_305.out).2.1); (case side3 => exact uD HO_306); (case side4 => exact (Kd.R_reads' HO_306.out).2.1); rintro e w466 ⟨rfl, hb⟩; refine ⟨_, rfl, ?_⟩; replace HO_20 := rB HO_20 hb; replace HO_303 := rB HO_303 hb; replace HO_304 := rB HO_304 hb; replace HO_305 := rB HO_305 hb; replace HO_306 := rB HO_306 hb; replace HO_307 := rB HO_307 hb; replace HO_308 := rB HO_308 hb; replace HO_375 := rB HO_375 hb; replace HO_376 := rB HO_376 hb; replace HO_377 := rB HO_377 hb; replace HO_378 := rB HO_378 hb; replace HO_379 := rB HO_379 hb; replace HO_381 := rB HO_381 hb; replace HO_382 := rB HO_382 hb; replace HO_383 := rB HO_383 hb; replace BK291 := kB BK291 hb; replace BK296 := kB BK296 hb; replace BK301 := kB BK301 hb; replace BK349 := kB BK349 hb; replace BK354 := kB BK354 hb; replace BK359 := kB BK359 hb; replace BK364 := kB BK364 hb; replace HB := am (below_step (uN HB) hb); (try clear hb); (try clear hb2); (try clear hk); (try clear hi); have hnb467 := NB291_301.out; have hnc467 := NB301_291.out; have hnb468 := NB291_349.out; have hnc468 := NB349_291.out; have hnb469 := NB291_354.out; have hnc469 := NB354_291.out; have hnb470 := NB291_359.out; have hnc470 := NB359_291.out; have hnb471 := NB291_364.out; have hnc471 := NB364_291.out; obtain ⟨hcz472_0, hcz472_1, hcz472_2, hcz472_3, hcz472_4, hcz472_5, hcz472_6, hfz472_0, hfz472_1, hfz472_2, hfz472_3, hfz472_4, hfz472_5, hfz472_6⟩ := ce7 BK291) | ((with_reducible refine gate_callee (f := 18) rfl ?_); refine gL 155 rfl Try.func18 #[.agg #[.int .i64 t260, .int .i64 t264, .int .i64 t265, .int .i64 t266, .slice Ao12 t267.length co12, .int .i64 t268, .slice Ao13 t269.length co13], .int .i64 (wrap64 (t270 + x26_4))] ?_; (with_reducible refine (FM.calls k4 t260 t264 t265 t266 _ _ t267 t268 _ _ t269 (wrap64 (t270 + x26_4)) t448 true _ ?side1 ?side2 ?side3 ?side4 A451.out).mono ?_); (case side1 => exact uD HO_303); (case side2 => exact (Kd.R_reads' HO_303.out).2.1); (case side3 => exact uD HO_304); (case side4 => exact (Kd.R_reads' HO_304.out).2.1); rintro e w473 ⟨rfl, hb⟩; refine ⟨_, rfl, ?_⟩; replace HO_20 := rB HO_20 hb; replace HO_303 := rB HO_303 hb; replace HO_304 := rB HO_304 hb; replace HO_305 := rB HO_305 hb; replace HO_306 := rB HO_306 hb; replace HO_307 := rB HO_307 hb; replace HO_308 := rB HO_308 hb; replace HO_375 := rB HO_375 hb; replace HO_376 := rB HO_376 hb; replace HO_377 := rB HO_377 hb; replace HO_378 := rB HO_378 hb; replace HO_379 := rB HO_379 hb; replace HO_381 := rB HO_381 hb; replace HO_382 := rB HO_382 hb; replace HO_383 := rB HO_383 hb; replace BK291 := kB BK291 hb; replace BK296 := kB BK296 hb; replace BK301 := kB BK301 hb; replace BK349 := kB BK349 hb; replace BK354 := kB BK354 hb; replace BK359 := kB BK359 hb; replace BK364 := kB BK364 hb; replace HB := am (below_step (uN HB) hb); (try clear hb); (try clear hb2); (try clear hk); (try clear hi)) | (go_at_call 19; (with_reducible refine (FF.calls k4 _ _ t385 t444 true _ ?side1 ?side2 A457.out).mono ?_); (case side1 => exact uD HO_20); (case side2 => exact (Kd.R_reads' HO_20.out).2.1); rintro e w' ⟨rfl, ⟨nd, rfl⟩⟩))
              go_roundg k4
              case measure => have := HJ7.out; have := HJ41.out; have := HK3.out; have := HK4.out; omega
              case rel => exact ⟨(wrap64 (x26_4 + 1)), Z110, H', ⟨by have := HJ7.out; have := HJ41.out; have := HK3.out; have := HK4.out; omega⟩, ⟨Z77⟩, ⟨Z103⟩, ⟨Z102⟩, ⟨Z101⟩, ⟨Z100⟩, ⟨Z99⟩, ⟨Z98⟩, ⟨Z97⟩, ⟨Z96⟩, ⟨Z95⟩, ⟨Z94⟩, ⟨Z93⟩, ⟨Z92⟩, ⟨Z91⟩, ⟨Z90⟩, ⟨pb BK291⟩, ⟨pb BK296⟩, ⟨pb BK301⟩, ⟨pb BK349⟩, ⟨pb BK354⟩, ⟨pb BK359⟩, ⟨pb BK364⟩, ⟨uN HB⟩⟩
             replace c458 := Bool.eq_false_iff.mpr c458
             subst c458
             rw [if_neg (show ¬ (false = true) from Z16)] at H
             obtain rfl := Option.some.inj H
             have hnb474 := NB296_291.out
             have hnc474 := NB291_296.out
             have hnb475 := NB296_301.out
             have hnc475 := NB301_296.out
             have hnb476 := NB296_349.out
             have hnc476 := NB349_296.out
             have hnb477 := NB296_354.out
             have hnc477 := NB354_296.out
             have hnb478 := NB296_359.out
             have hnc478 := NB359_296.out
             have hnb479 := NB296_364.out
             have hnc479 := NB364_296.out
             obtain ⟨hcz480_0, hcz480_1, hcz480_2, hcz480_3, hcz480_4, hcz480_5, hcz480_6, hfz480_0, hfz480_1, hfz480_2, hfz480_3, hfz480_4, hfz480_5, hfz480_6⟩ := ce7 BK296
             go_wp2_with (first | ((with_reducible refine gate_callee (f := 18) rfl ?_); refine gL 147 rfl Try.func18 #[.agg #[.int .i64 t261, .int .i64 t272, .int .i64 t273, .int .i64 t274, .slice Ao18 t275.length co18, .int .i64 t276, .slice Ao19 t277.length co19], .int .i64 x26_4] ?_; (with_reducible refine (FM.calls k4 t261 t272 t273 t274 _ _ t275 t276 _ _ t277 x26_4 t444 true _ ?side1 ?side2 ?side3 ?side4 A447.out).mono ?_); (case side1 => exact uD HO_305); (case side2 => exact (Kd.R_reads' HO_305.out).2.1); (case side3 => exact uD HO_306); (case side4 => exact (Kd.R_reads' HO_306.out).2.1); rintro e w481 ⟨rfl, hb⟩; refine ⟨_, rfl, ?_⟩; replace HO_20 := rB HO_20 hb; replace HO_303 := rB HO_303 hb; replace HO_304 := rB HO_304 hb; replace HO_305 := rB HO_305 hb; replace HO_306 := rB HO_306 hb; replace HO_307 := rB HO_307 hb; replace HO_308 := rB HO_308 hb; replace HO_375 := rB HO_375 hb; replace HO_376 := rB HO_376 hb; replace HO_377 := rB HO_377 hb; replace HO_378 := rB HO_378 hb; replace HO_379 := rB HO_379 hb; replace HO_381 := rB HO_381 hb; replace HO_382 := rB HO_382 hb; replace HO_383 := rB HO_383 hb; replace BK291 := kB BK291 hb; replace BK296 := kB BK296 hb; replace BK301 := kB BK301 hb; replace BK349 := kB BK349 hb; replace BK354 := kB BK354 hb; replace BK359 := kB BK359 hb; replace BK364 := kB BK364 hb; replace HB := am (below_step (uN HB) hb); (try clear hb); (try clear hb2); (try clear hk); (try clear hi); have hnb482 := NB291_301.out; have hnc482 := NB301_291.out; have hnb483 := NB291_349.out; have hnc483 := NB349_291.out; have hnb484 := NB291_354.out; have hnc484 := NB354_291.out; have hnb485 := NB291_359.out; have hnc485 := NB359_291.out; have hnb486 := NB291_364.out; have hnc486 := NB364_291.out; obtain ⟨hcz487_0, hcz487_1, hcz487_2, hcz487_3, hcz487_4, hcz487_5, hcz487_6, hfz487_0, hfz487_1, hfz487_2, hfz487_3, hfz487_4, hfz487_5, hfz487_6⟩ := ce7 BK291) | ((with_reducible refine gate_callee (f := 18) rfl ?_); refine gL 155 rfl Try.func18 #[.agg #[.int .i64 t260, .int .i64 t264, .int .i64 t265, .int .i64 t266, .slice Ao12 t267.length co12, .int .i64 t268, .slice Ao13 t269.length co13], .int .i64 (wrap64 (t270 + x26_4))] ?_; (with_reducible refine (FM.calls k4 t260 t264 t265 t266 _ _ t267 t268 _ _ t269 (wrap64 (t270 + x26_4)) t448 true _ ?side1 ?side2 ?side3 ?side4 A451.out).mono ?_); (case side1 => exact uD HO_303); (case side2 => exact (Kd.R_reads' HO_303.out).2.1); (case side3 => exact uD HO_304); (case side4 => exact (Kd.R_reads' HO_304.out).2.1); rintro e w488 ⟨rfl, hb⟩; refine ⟨_, rfl, ?_⟩; replace HO_20 := rB HO_20 hb; replace HO_303 := rB HO_303 hb; replace HO_304 := rB HO_304 hb; replace HO_305 := rB HO_305 hb; replace HO_306 := rB HO_306 hb; replace HO_307 := rB HO_307 hb; replace HO_308 := rB HO_308 hb; replace HO_375 := rB HO_375 hb; replace HO_376 := rB HO_376 hb; replace HO_377 := rB HO_377 hb; replace HO_378 := rB HO_378 hb; replace HO_379 := rB HO_379 hb; replace HO_381 := rB HO_381 hb; replace HO_382 := rB HO_382 hb; replace HO_383 := rB HO_383 hb; replace BK291 := kB BK291 hb; replace BK296 := kB BK296 hb; replace BK301 := kB BK301 hb; replace BK349 := kB BK349 hb; replace BK354 := kB BK354 hb; replace BK359 := kB BK359 hb; replace BK364 := kB BK364 hb; replace HB := am (below_step (uN HB) hb); (try clear hb); (try clear hb2); (try clear hk); (try clear hi)) | (go_at_call 19; (with_reducible refine (FF.calls k4 _ _ t385 t444 false _ ?side1 ?side2 A457.out).mono ?_); (case side1 => exact uD HO_20); (case side2 => exact (Kd.R_reads' HO_20.out).2.1); rintro e w' ⟨rfl, ⟨nd, rfl⟩⟩))
             go_ret
             exact ⟨Z109, uN HB⟩
            rw [if_neg c454] at H
            have c160b0 : (t444 == t448) = false := beq_eq_false_iff_ne.mpr c454
            have c160b1 : (t444 != t448) = true := bne_iff_ne.mpr c454
            obtain rfl := Option.some.inj H
            have hnb489 := NB296_291.out
            have hnc489 := NB291_296.out
            have hnb490 := NB296_301.out
            have hnc490 := NB301_296.out
            have hnb491 := NB296_349.out
            have hnc491 := NB349_296.out
            have hnb492 := NB296_354.out
            have hnc492 := NB354_296.out
            have hnb493 := NB296_359.out
            have hnc493 := NB359_296.out
            have hnb494 := NB296_364.out
            have hnc494 := NB364_296.out
            obtain ⟨hcz495_0, hcz495_1, hcz495_2, hcz495_3, hcz495_4, hcz495_5, hcz495_6, hfz495_0, hfz495_1, hfz495_2, hfz495_3, hfz495_4, hfz495_5, hfz495_6⟩ := ce7 BK296
            go_wp2_with (first | ((with_reducible refine gate_callee (f := 18) rfl ?_); refine gL 147 rfl Try.func18 #[.agg #[.int .i64 t261, .int .i64 t272, .int .i64 t273, .int .i64 t274, .slice Ao18 t275.length co18, .int .i64 t276, .slice Ao19 t277.length co19], .int .i64 x26_4] ?_; (with_reducible refine (FM.calls k4 t261 t272 t273 t274 _ _ t275 t276 _ _ t277 x26_4 t444 true _ ?side1 ?side2 ?side3 ?side4 A447.out).mono ?_); (case side1 => exact uD HO_305); (case side2 => exact (Kd.R_reads' HO_305.out).2.1); (case side3 => exact uD HO_306); (case side4 => exact (Kd.R_reads' HO_306.out).2.1); rintro e w496 ⟨rfl, hb⟩; refine ⟨_, rfl, ?_⟩; replace HO_20 := rB HO_20 hb; replace HO_303 := rB HO_303 hb; replace HO_304 := rB HO_304 hb; replace HO_305 := rB HO_305 hb; replace HO_306 := rB HO_306 hb; replace HO_307 := rB HO_307 hb; replace HO_308 := rB HO_308 hb; replace HO_375 := rB HO_375 hb; replace HO_376 := rB HO_376 hb; replace HO_377 := rB HO_377 hb; replace HO_378 := rB HO_378 hb; replace HO_379 := rB HO_379 hb; replace HO_381 := rB HO_381 hb; replace HO_382 := rB HO_382 hb; replace HO_383 := rB HO_383 hb; replace BK291 := kB BK291 hb; replace BK296 := kB BK296 hb; replace BK301 := kB BK301 hb; replace BK349 := kB BK349 hb; replace BK354 := kB BK354 hb; replace BK359 := kB BK359 hb; replace BK364 := kB BK364 hb; replace HB := am (below_step (uN HB) hb); (try clear hb); (try clear hb2); (try clear hk); (try clear hi); have hnb497 := NB291_301.out; have hnc497 := NB301_291.out; have hnb498 := NB291_349.out; have hnc498 := NB349_291.out; have hnb499 := NB291_354.out; have hnc499 := NB354_291.out; have hnb500 := NB291_359.out; have hnc500 := NB359_291.out; have hnb501 := NB291_364.out; have hnc501 := NB364_291.out; obtain ⟨hcz502_0, hcz502_1, hcz502_2, hcz502_3, hcz502_4, hcz502_5, hcz502_6, hfz502_0, hfz502_1, hfz502_2, hfz502_3, hfz502_4, hfz502_5, hfz502_6⟩ := ce7 BK291) | ((with_reducible refine gate_callee (f := 18) rfl ?_); refine gL 155 rfl Try.func18 #[.agg #[.int .i64 t260, .int .i64 t264, .int .i64 t265, .int .i64 t266, .slice Ao12 t267.length co12, .int .i64 t268, .slice Ao13 t269.length co13], .int .i64 (wrap64 (t270 + x26_4))] ?_; (with_reducible refine (FM.calls k4 t260 t264 t265 t266 _ _ t267 t268 _ _ t269 (wrap64 (t270 + x26_4)) t448 true _ ?side1 ?side2 ?side3 ?side4 A451.out).mono ?_); (case side1 => exact uD HO_303); (case side2 => exact (Kd.R_reads' HO_303.out).2.1); (case side3 => exact uD HO_304); (case side4 => exact (Kd.R_reads' HO_304.out).2.1); rintro e w503 ⟨rfl, hb⟩; refine ⟨_, rfl, ?_⟩; replace HO_20 := rB HO_20 hb; replace HO_303 := rB HO_303 hb; replace HO_304 := rB HO_304 hb; replace HO_305 := rB HO_305 hb; replace HO_306 := rB HO_306 hb; replace HO_307 := rB HO_307 hb; replace HO_308 := rB HO_308 hb; replace HO_375 := rB HO_375 hb; replace HO_376 := rB HO_376 hb; replace HO_377 := rB HO_377 hb; replace HO_378 := rB HO_378 hb; replace HO_379 := rB HO_379 hb; replace HO_381 := rB HO_381 hb; replace HO_382 := rB HO_382 hb; replace HO_383 := rB HO_383 hb; replace BK291 := kB BK291 hb; replace BK296 := kB BK296 hb; replace BK301 := kB BK301 hb; replace BK349 := kB BK349 hb; replace BK354 := kB BK354 hb; replace BK359 := kB BK359 hb; replace BK364 := kB BK364 hb; replace HB := am (below_step (uN HB) hb); (try clear hb); (try clear hb2); (try clear hk); (try clear hi)))
            go_ret
            exact ⟨Z109, uN HB⟩
           replace c453 := Bool.eq_false_iff.mpr c453
           subst c453
           rw [if_neg (show ¬ (false = true) from Z16)] at H
           obtain rfl := Option.some.inj H
           have hnb504 := NB296_291.out
           have hnc504 := NB291_296.out
           have hnb505 := NB296_301.out
           have hnc505 := NB301_296.out
           have hnb506 := NB296_349.out
           have hnc506 := NB349_296.out
           have hnb507 := NB296_354.out
           have hnc507 := NB354_296.out
           have hnb508 := NB296_359.out
           have hnc508 := NB359_296.out
           have hnb509 := NB296_364.out
           have hnc509 := NB364_296.out
           obtain ⟨hcz510_0, hcz510_1, hcz510_2, hcz510_3, hcz510_4, hcz510_5, hcz510_6, hfz510_0, hfz510_1, hfz510_2, hfz510_3, hfz510_4, hfz510_5, hfz510_6⟩ := ce7 BK296
           go_wp2_with (first | ((with_reducible refine gate_callee (f := 18) rfl ?_); refine gL 147 rfl Try.func18 #[.agg #[.int .i64 t261, .int .i64 t272, .int .i64 t273, .int .i64 t274, .slice Ao18 t275.length co18, .int .i64 t276, .slice Ao19 t277.length co19], .int .i64 x26_4] ?_; (with_reducible refine (FM.calls k4 t261 t272 t273 t274 _ _ t275 t276 _ _ t277 x26_4 t444 true _ ?side1 ?side2 ?side3 ?side4 A447.out).mono ?_); (case side1 => exact uD HO_305); (case side2 => exact (Kd.R_reads' HO_305.out).2.1); (case side3 => exact uD HO_306); (case side4 => exact (Kd.R_reads' HO_306.out).2.1); rintro e w511 ⟨rfl, hb⟩; refine ⟨_, rfl, ?_⟩; replace HO_20 := rB HO_20 hb; replace HO_303 := rB HO_303 hb; replace HO_304 := rB HO_304 hb; replace HO_305 := rB HO_305 hb; replace HO_306 := rB HO_306 hb; replace HO_307 := rB HO_307 hb; replace HO_308 := rB HO_308 hb; replace HO_375 := rB HO_375 hb; replace HO_376 := rB HO_376 hb; replace HO_377 := rB HO_377 hb; replace HO_378 := rB HO_378 hb; replace HO_379 := rB HO_379 hb; replace HO_381 := rB HO_381 hb; replace HO_382 := rB HO_382 hb; replace HO_383 := rB HO_383 hb; replace BK291 := kB BK291 hb; replace BK296 := kB BK296 hb; replace BK301 := kB BK301 hb; replace BK349 := kB BK349 hb; replace BK354 := kB BK354 hb; replace BK359 := kB BK359 hb; replace BK364 := kB BK364 hb; replace HB := am (below_step (uN HB) hb); (try clear hb); (try clear hb2); (try clear hk); (try clear hi); have hnb512 := NB291_301.out; have hnc512 := NB301_291.out; have hnb513 := NB291_349.out; have hnc513 := NB349_291.out; have hnb514 := NB291_354.out; have hnc514 := NB354_291.out; have hnb515 := NB291_359.out; have hnc515 := NB359_291.out; have hnb516 := NB291_364.out; have hnc516 := NB364_291.out; obtain ⟨hcz517_0, hcz517_1, hcz517_2, hcz517_3, hcz517_4, hcz517_5, hcz517_6, hfz517_0, hfz517_1, hfz517_2, hfz517_3, hfz517_4, hfz517_5, hfz517_6⟩ := ce7 BK291) | ((with_reducible refine gate_callee (f := 18) rfl ?_); refine gL 155 rfl Try.func18 #[.agg #[.int .i64 t260, .int .i64 t264, .int .i64 t265, .int .i64 t266, .slice Ao12 t267.length co12, .int .i64 t268, .slice Ao13 t269.length co13], .int .i64 (wrap64 (t270 + x26_4))] ?_; (with_reducible refine (FM.calls k4 t260 t264 t265 t266 _ _ t267 t268 _ _ t269 (wrap64 (t270 + x26_4)) t448 false _ ?side1 ?side2 ?side3 ?side4 A451.out).mono ?_); (case side1 => exact uD HO_303); (case side2 => exact (Kd.R_reads' HO_303.out).2.1); (case side3 => exact uD HO_304); (case side4 => exact (Kd.R_reads' HO_304.out).2.1); rintro e w518 ⟨rfl, hb⟩; refine ⟨_, rfl, ?_⟩; replace HO_20 := rB HO_20 hb; replace HO_303 := rB HO_303 hb; replace HO_304 := rB HO_304 hb; replace HO_305 := rB HO_305 hb; replace HO_306 := rB HO_306 hb; replace HO_307 := rB HO_307 hb; replace HO_308 := rB HO_308 hb; replace HO_375 := rB HO_375 hb; replace HO_376 := rB HO_376 hb; replace HO_377 := rB HO_377 hb; replace HO_378 := rB HO_378 hb; replace HO_379 := rB HO_379 hb; replace HO_381 := rB HO_381 hb; replace HO_382 := rB HO_382 hb; replace HO_383 := rB HO_383 hb; replace BK291 := kB BK291 hb; replace BK296 := kB BK296 hb; replace BK301 := kB BK301 hb; replace BK349 := kB BK349 hb; replace BK354 := kB BK354 hb; replace BK359 := kB BK359 hb; replace BK364 := kB BK364 hb; replace HB := am (below_step (uN HB) hb); (try clear hb); (try clear hb2); (try clear hk); (try clear hi)))
           go_ret
           exact ⟨Z109, uN HB⟩
          replace c452 := Bool.eq_false_iff.mpr c452
          subst c452
          rw [if_neg (show ¬ (false = true) from Z16)] at H
          obtain rfl := Option.some.inj H
          have hnb519 := NB296_291.out
          have hnc519 := NB291_296.out
          have hnb520 := NB296_301.out
          have hnc520 := NB301_296.out
          have hnb521 := NB296_349.out
          have hnc521 := NB349_296.out
          have hnb522 := NB296_354.out
          have hnc522 := NB354_296.out
          have hnb523 := NB296_359.out
          have hnc523 := NB359_296.out
          have hnb524 := NB296_364.out
          have hnc524 := NB364_296.out
          obtain ⟨hcz525_0, hcz525_1, hcz525_2, hcz525_3, hcz525_4, hcz525_5, hcz525_6, hfz525_0, hfz525_1, hfz525_2, hfz525_3, hfz525_4, hfz525_5, hfz525_6⟩ := ce7 BK296
          go_wp2_with (first | ((with_reducible refine gate_callee (f := 18) rfl ?_); refine gL 147 rfl Try.func18 #[.agg #[.int .i64 t261, .int .i64 t272, .int .i64 t273, .int .i64 t274, .slice Ao18 t275.length co18, .int .i64 t276, .slice Ao19 t277.length co19], .int .i64 x26_4] ?_; (with_reducible refine (FM.calls k4 t261 t272 t273 t274 _ _ t275 t276 _ _ t277 x26_4 t444 false _ ?side1 ?side2 ?side3 ?side4 A447.out).mono ?_); (case side1 => exact uD HO_305); (case side2 => exact (Kd.R_reads' HO_305.out).2.1); (case side3 => exact uD HO_306); (case side4 => exact (Kd.R_reads' HO_306.out).2.1); rintro e w526 ⟨rfl, hb⟩; refine ⟨_, rfl, ?_⟩; replace HO_20 := rB HO_20 hb; replace HO_303 := rB HO_303 hb; replace HO_304 := rB HO_304 hb; replace HO_305 := rB HO_305 hb; replace HO_306 := rB HO_306 hb; replace HO_307 := rB HO_307 hb; replace HO_308 := rB HO_308 hb; replace HO_375 := rB HO_375 hb; replace HO_376 := rB HO_376 hb; replace HO_377 := rB HO_377 hb; replace HO_378 := rB HO_378 hb; replace HO_379 := rB HO_379 hb; replace HO_381 := rB HO_381 hb; replace HO_382 := rB HO_382 hb; replace HO_383 := rB HO_383 hb; replace BK291 := kB BK291 hb; replace BK296 := kB BK296 hb; replace BK301 := kB BK301 hb; replace BK349 := kB BK349 hb; replace BK354 := kB BK354 hb; replace BK359 := kB BK359 hb; replace BK364 := kB BK364 hb; replace HB := am (below_step (uN HB) hb); (try clear hb); (try clear hb2); (try clear hk); (try clear hi); have hnb527 := NB291_301.out; have hnc527 := NB301_291.out; have hnb528 := NB291_349.out; have hnc528 := NB349_291.out; have hnb529 := NB291_354.out; have hnc529 := NB354_291.out; have hnb530 := NB291_359.out; have hnc530 := NB359_291.out; have hnb531 := NB291_364.out; have hnc531 := NB364_291.out; obtain ⟨hcz532_0, hcz532_1, hcz532_2, hcz532_3, hcz532_4, hcz532_5, hcz532_6, hfz532_0, hfz532_1, hfz532_2, hfz532_3, hfz532_4, hfz532_5, hfz532_6⟩ := ce7 BK291) | ((with_reducible refine gate_callee (f := 18) rfl ?_); refine gL 155 rfl Try.func18 #[.agg #[.int .i64 t260, .int .i64 t264, .int .i64 t265, .int .i64 t266, .slice Ao12 t267.length co12, .int .i64 t268, .slice Ao13 t269.length co13], .int .i64 (wrap64 (t270 + x26_4))] ?_; (with_reducible refine (FM.calls k4 t260 t264 t265 t266 _ _ t267 t268 _ _ t269 (wrap64 (t270 + x26_4)) t448 t449 _ ?side1 ?side2 ?side3 ?side4 A451.out).mono ?_); (case side1 => exact uD HO_303); (case side2 => exact (Kd.R_reads' HO_303.out).2.1); (case side3 => exact uD HO_304); (case side4 => exact (Kd.R_reads' HO_304.out).2.1); rintro e w533 ⟨rfl, hb⟩; refine ⟨_, rfl, ?_⟩; replace HO_20 := rB HO_20 hb; replace HO_303 := rB HO_303 hb; replace HO_304 := rB HO_304 hb; replace HO_305 := rB HO_305 hb; replace HO_306 := rB HO_306 hb; replace HO_307 := rB HO_307 hb; replace HO_308 := rB HO_308 hb; replace HO_375 := rB HO_375 hb; replace HO_376 := rB HO_376 hb; replace HO_377 := rB HO_377 hb; replace HO_378 := rB HO_378 hb; replace HO_379 := rB HO_379 hb; replace HO_381 := rB HO_381 hb; replace HO_382 := rB HO_382 hb; replace HO_383 := rB HO_383 hb; replace BK291 := kB BK291 hb; replace BK296 := kB BK296 hb; replace BK301 := kB BK301 hb; replace BK349 := kB BK349 hb; replace BK354 := kB BK354 hb; replace BK359 := kB BK359 hb; replace BK364 := kB BK364 hb; replace HB := am (below_step (uN HB) hb); (try clear hb); (try clear hb2); (try clear hk); (try clear hi)))
          go_ret
          exact ⟨Z109, uN HB⟩
     replace c389 := Bool.eq_false_iff.mpr c389
     subst c389
     rw [if_neg (show ¬ (false = true) from Z16)] at H
     obtain rfl := Option.some.inj H
     have hnb541 := NB291_296.out
     have hnc541 := NB296_291.out
     have hnb542 := NB291_301.out
     have hnc542 := NB301_291.out
     have hnb543 := NB291_349.out
     have hnc543 := NB349_291.out
     have hnb544 := NB291_354.out
     have hnc544 := NB354_291.out
     have hnb545 := NB291_359.out
     have hnc545 := NB359_291.out
     have hnb546 := NB291_364.out
     have hnc546 := NB364_291.out
     obtain ⟨hcz547_0, hcz547_1, hcz547_2, hcz547_3, hcz547_4, hcz547_5, hcz547_6, hfz547_0, hfz547_1, hfz547_2, hfz547_3, hfz547_4, hfz547_5, hfz547_6⟩ := ce7 BK291
     have hnb548 := NB296_301.out
     have hnc548 := NB301_296.out
     have hnb549 := NB296_349.out
     have hnc549 := NB349_296.out
     have hnb550 := NB296_354.out
     have hnc550 := NB354_296.out
     have hnb551 := NB296_359.out
     have hnc551 := NB359_296.out
     have hnb552 := NB296_364.out
     have hnc552 := NB364_296.out
     obtain ⟨hcz553_0, hcz553_1, hcz553_2, hcz553_3, hcz553_4, hcz553_5, hcz553_6, hfz553_0, hfz553_1, hfz553_2, hfz553_3, hfz553_4, hfz553_5, hfz553_6⟩ := ce7 BK296
     go_wp2_with (first | ((with_reducible refine gate_callee (f := 17) rfl ?_); refine gL 114 rfl Try.func17 #[.agg #[.int .i64 t260, .int .i64 t264, .int .i64 t265, .int .i64 t266, .slice Ao12 t267.length co12, .int .i64 t268, .slice Ao13 t269.length co13], .agg #[.int .i64 t261, .int .i64 t272, .int .i64 t273, .int .i64 t274, .slice Ao18 t275.length co18, .int .i64 t276, .slice Ao19 t277.length co19]] ?_; (with_reducible refine (Fba.calls kj41 t260 t264 t265 t266 _ _ t267 t268 _ _ t269 t261 t272 t273 t274 _ _ t275 t276 _ _ t277 t385 false _ ?side1 ?side2 ?side3 ?side4 ?side5 ?side6 ?side7 ?side8 A388.out).mono ?_); (case side1 => exact uD HO_303); (case side2 => exact (Kd.R_reads' HO_303.out).2.1); (case side3 => exact uD HO_304); (case side4 => exact (Kd.R_reads' HO_304.out).2.1); (case side5 => exact uD HO_305); (case side6 => exact (Kd.R_reads' HO_305.out).2.1); (case side7 => exact uD HO_306); (case side8 => exact (Kd.R_reads' HO_306.out).2.1); rintro e w554 ⟨v405, rfl, ho0, hb⟩; refine ⟨_, rfl, ?_⟩; have HO406 := am (Kd.R_lower (Kd.R_new' (Kd.R_new' (Kd.R_new' (Kd.R_new' (Kd.R_new' (Kd.R_new' (Kd.R_new' (Kd.R_new' (Kd.R_new' (Kd.R_new' (Kd.R_new' (Kd.R_new' (Kd.R_new' (Kd.R_new' ho0 (Kd.R_lt (uR HO_303))) (Kd.R_lt (uR HO_304))) (Kd.R_lt (uR HO_305))) (Kd.R_lt (uR HO_306))) (Kd.R_lt (uR HO_307))) (Kd.R_lt (uR HO_308))) (Kd.R_lt (uR HO_375))) (Kd.R_lt (uR HO_376))) (Kd.R_lt (uR HO_377))) (Kd.R_lt (uR HO_378))) (Kd.R_lt (uR HO_379))) (Kd.R_lt (uR HO_381))) (Kd.R_lt (uR HO_382))) (Kd.R_lt (uR HO_383))) (below_size (uN HB))); replace HO_303 := am (Kd.R_elder' (uR HO_303) (Kd.R_base ho0) hb); replace HO_304 := am (Kd.R_elder' (uR HO_304) (Kd.R_base ho0) hb); replace HO_305 := am (Kd.R_elder' (uR HO_305) (Kd.R_base ho0) hb); replace HO_306 := am (Kd.R_elder' (uR HO_306) (Kd.R_base ho0) hb); replace HO_307 := am (Kd.R_elder' (uR HO_307) (Kd.R_base ho0) hb); replace HO_308 := am (Kd.R_elder' (uR HO_308) (Kd.R_base ho0) hb); replace HO_375 := am (Kd.R_elder' (uR HO_375) (Kd.R_base ho0) hb); replace HO_376 := am (Kd.R_elder' (uR HO_376) (Kd.R_base ho0) hb); replace HO_377 := am (Kd.R_elder' (uR HO_377) (Kd.R_base ho0) hb); replace HO_378 := am (Kd.R_elder' (uR HO_378) (Kd.R_base ho0) hb); replace HO_379 := am (Kd.R_elder' (uR HO_379) (Kd.R_base ho0) hb); replace HO_381 := am (Kd.R_elder' (uR HO_381) (Kd.R_base ho0) hb); replace HO_382 := am (Kd.R_elder' (uR HO_382) (Kd.R_base ho0) hb); replace HO_383 := am (Kd.R_elder' (uR HO_383) (Kd.R_base ho0) hb); replace BK291 := kB BK291 hb; replace BK296 := kB BK296 hb; replace BK301 := kB BK301 hb; replace BK349 := kB BK349 hb; replace BK354 := kB BK354 hb; replace BK359 := kB BK359 hb; replace BK364 := kB BK364 hb; replace HB := am (below_step (uN HB) hb); (try clear hb); (try clear hb2); (try clear hk); (try clear hi); (try clear ho0)))
     go_ret
     exact ⟨Z109, uN HB⟩

/-- THE ONE PURE STATEMENT of Ff: yours. -/
def Ff.Pure : Prop := ∀ (l0 : List Int) (l1 : List Int), l0.length ≤ maxLen → l0.length * 1 ≤ 140737488351232 → (∀ x ∈ l0, (Lit.int .u8 x).wf = true) → l1.length ≤ maxLen → l1.length * 1 ≤ 140737488351232 → (∀ x ∈ l1, (Lit.int .u8 x).wf = true) → ∃ k, Ff.f k l0 l1 = some true
theorem Ff.walk (P : Ff.Pure) (a0 : Option Addr) (len0 cap0 : Nat) (z0 : List Int) (a1 : Option Addr) (len1 cap1 : Nat) (z1 : List Int) (w : World) (w0 : (a0 = none ∧ len0 = 0 ∧ cap0 = 0 ∧ z0 = []) ∨ ∃ x, a0 = some x ∧ len0 ≤ cap0 ∧ cap0 ≤ maxLen ∧ z0.length = cap0 ∧ (∀ i, i < z0.length → w.cell? (x.add i) = some (.int .u8 (z0.getD i 0))) ∧ ∀ n ∈ z0, (Lit.int .u8 n).wf = true) (y0 : len0 * 1 ≤ 140737488351232) (w1 : (a1 = none ∧ len1 = 0 ∧ cap1 = 0 ∧ z1 = []) ∨ ∃ x, a1 = some x ∧ len1 ≤ cap1 ∧ cap1 ≤ maxLen ∧ z1.length = cap1 ∧ (∀ i, i < z1.length → w.cell? (x.add i) = some (.int .u8 (z1.getD i 0))) ∧ ∀ n ∈ z1, (Lit.int .u8 n).wf = true) (y1 : len1 * 1 ≤ 140737488351232) :
  Calls Try.prog 4 #[.slice a0 len0 cap0, .slice a1 len1 cap1] w fun e w' => e = .returned (.bool true) ∧ Below w.heap.size w w' := by
 obtain ⟨l0, rfl, hr0, hm0, hw0, hc0⟩ := ReadsInt.ofRowC w0
 obtain ⟨l1, rfl, hr1, hm1, hw1, hc1⟩ := ReadsInt.ofRowC w1
 obtain ⟨k, h⟩ := P l0 l1 hm0 y0 hw0 hm1 y1 hw1
 refine (Ff.calls k _ _ l0 _ _ l1 true w (Kd.C_of_reads (d := (0 : Int)) (h1 := fun _ => rfl) hr0) hc0 (Kd.C_of_reads (d := (0 : Int)) (h1 := fun _ => rfl) hr1) hc1 h).mono ?_
 rintro e w' ⟨rfl, hd⟩
 exact ⟨rfl, hd⟩

end Go.Proofs.Ytllaofiopnhdgaa.PFnSparseParts
