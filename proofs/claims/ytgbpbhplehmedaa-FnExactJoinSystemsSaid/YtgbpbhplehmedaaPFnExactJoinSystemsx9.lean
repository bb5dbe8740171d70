-- made by wip/tools/myprint.py over the kit's print, for this claim
import Derived.Test.YtgbpbhplehmedaaPFnExactJoinSystemsx0
import Derived.Test.YtgbpbhplehmedaaPFnExactJoinSystemsx8
namespace Go.Proofs.Ytgbpbhplehmedaa.PFnExactJoinSystems
open Go.RowKit Go.Proofs.YtgbpbhplehmedaaW.PrintWords Go.Proofs.YtgbpbhplehmedaaW.PrintLast Go.Proofs.YtgbpbhplehmedaaW.PrintMore
open List (setIfInBounds_toArray set_cons_zero set_cons_succ)
attribute [local go_sem] max2_int min2_int max_two min_two max_three min_three max_four min_four   -- for this text's walks alone
set_option linter.unusedVariables false
set_option linter.unusedSimpArgs false

set_option maxHeartbeats 8000000
set_option maxRecDepth 100000
/-! ### Fj: function 9 -/
def Fj.f (k : Nat) (a0_0 : Int) (l0_1 : List (S53)) (l0_2 : List Bool) (a1_0 : Int) (l1_1 : List (S53)) (l1_2 : List Bool) : Option (Bool) := if a0_0 = a1_0 then ((Fg.f k l0_1 l1_1).bind fun t3 => (if t3 = true then ((Fp.f k l0_2 l1_2).bind fun t4 => (if t4 = true then (some true) else (some false))) else (some false))) else (some false)
theorem Fj.mono : ∀ a0 a1 a2 a3 a4 a5 k, LeO (Fj.f k a0 a1 a2 a3 a4 a5) (Fj.f (k + 1) a0 a1 a2 a3 a4 a5) := by
 intro a0 a1 a2 a3 a4 a5 k
 unfold Fj.f
 repeat' first
   | with_reducible first | exact Fg.mono .. | exact Fp.mono .. | exact LeO.refl _ | exact LeO.none _ | refine LeO.ite ?_ ?_ | refine LeO.bind ?_ (fun _ => ?_)
   | exact Fg.mono .. | exact Fp.mono .. | exact LeO.none _ | refine LeO.ite ?_ ?_ | refine LeO.bind ?_ (fun _ => ?_)
theorem Fj.calls (k : Nat) (a0_0 : Int) (A0_1 : Option Addr) (c0_1 : Nat) (l0_1 : List (S53)) (A0_2 : Option Addr) (c0_2 : Nat) (l0_2 : List Bool) (a1_0 : Int) (A1_1 : Option Addr) (c1_1 : Nat) (l1_1 : List (S53)) (A1_2 : Option Addr) (c1_2 : Nat) (l1_2 : List Bool) (r : Bool) (w : World) (hr0_1 : Kd.C k53 w A0_1 l0_1.length l0_1) (hc0_1 : l0_1.length ≤ c0_1) (hr0_2 : Kd.C Kd.bool w A0_2 l0_2.length l0_2) (hc0_2 : l0_2.length ≤ c0_2) (hr1_1 : Kd.C k53 w A1_1 l1_1.length l1_1) (hc1_1 : l1_1.length ≤ c1_1) (hr1_2 : Kd.C Kd.bool w A1_2 l1_2.length l1_2) (hc1_2 : l1_2.length ≤ c1_2) (h : Fj.f k a0_0 l0_1 l0_2 a1_0 l1_1 l1_2 = some r) :
  Calls Try.prog 9 #[.agg #[.int .i64 a0_0, .slice A0_1 l0_1.length c0_1, .slice A0_2 l0_2.length c0_2], .agg #[.int .i64 a1_0, .slice A1_1 l1_1.length c1_1, .slice A1_2 l1_2.length c1_2]] w fun e w' => e = .returned (.bool r) ∧ Below w.heap.size w w' := by
 have hu29 := Try.underlying29
 have HR0_1 := am hr0_1
 have HC0_1 := am hc0_1
 clear hr0_1 hc0_1
 have HR0_2 := am hr0_2
 have HC0_2 := am hc0_2
 clear hr0_2 hc0_2
 have HR1_1 := am hr1_1
 have HC1_1 := am hc1_1
 clear hr1_1 hc1_1
 have HR1_2 := am hr1_2
 have HC1_2 := am hc1_2
 clear hr1_2 hc1_2
 have HB := am (Below.refl w.heap.size w)
 have H : (if a0_0 = a1_0 then ((Fg.f k l0_1 l1_1).bind fun t35 => (if t35 = true then ((Fp.f k l0_2 l1_2).bind fun t36 => (if t36 = true then (some true) else (some false))) else (some false))) else (some false)) = some r := h
 clear h
 by_cases c3 : a0_0 = a1_0
 rotate_left
 ·
  rw [if_neg c3] at H
  have c3b0 : (a0_0 == a1_0) = false := beq_eq_false_iff_ne.mpr c3
  have c3b1 : (a0_0 != a1_0) = true := bne_iff_ne.mpr c3
  obtain rfl := Option.some.inj H
  go_enter Try.func9, Try.ntmps9
  go_wp2_with (first | ((with_reducible refine gate_dst (N := 2) rfl ?_); refine box_event ?hg (N := 2) ?hd (cs := #[.int .i64 a0_0, .slice A0_1 l0_1.length c0_1, .slice A0_2 l0_2.length c0_2]) (t := 29) ?hr ?_; (case hd => rfl); (case hg => rfl); (case hr => exact Z88); intro gb37 hg w30 hbox hb; have BK37 := am (hbox); have GW37 := nG HB hg; have GE37 := nG HB hg; have GI37 := gI GE37; replace HB := am (below_step (uN HB) hb); clear hb hbox hg) | ((with_reducible refine gate_dst (N := 3) rfl ?_); refine box_event ?hg (N := 3) ?hd (cs := #[.int .i64 a1_0, .slice A1_1 l1_1.length c1_1, .slice A1_2 l1_2.length c1_2]) (t := 29) ?hr ?_; (case hd => rfl); (case hg => rfl); (case hr => exact Z88); intro gb38 hg w31 hbox hb; have BK38 := am (hbox); have GW38 := am ((by rw [hg]; exact (below_size Z13) : w.heap.size ≤ gb38)); have GE38 := am ((by rw [hg]; exact (below_size Z13) : w.heap.size ≤ gb38)); replace HB := am (below_step Z13 hb); have NB37_38 := nL BK37 hg; have NB38_37 := nR BK37 hg; replace BK37 := kB BK37 hb; clear hb hbox hg; have hnb32 := NB37_38.out; have hnc32 := NB38_37.out; obtain ⟨hcz33_0, hcz33_1, hcz33_2, hfz33_0, hfz33_1, hfz33_2⟩ := ce3 BK37; obtain ⟨hcz34_0, hcz34_1, hcz34_2, hfz34_0, hfz34_1, hfz34_2⟩ := ce3 BK38))
  go_ret
  exact ⟨Z86, Z23⟩
 rw [if_pos c3] at H
 have c3b0 : (a0_0 == a1_0) = true := beq_iff_eq.mpr c3
 have c3b1 : (a0_0 != a1_0) = false := bne_eq_false_iff_eq.mpr c3
 clear c3
 replace H := Option.bind_eq_some_iff.mp H
 obtain ⟨t35, A40, H⟩ := H
 try dsimp only at H
 have A4 := am A40
 clear A40
 by_cases c5 : t35 = true
 ·
  subst c5
  rw [if_pos rfl] at H
  replace H := Option.bind_eq_some_iff.mp H
  obtain ⟨t36, A60, H⟩ := H
  try dsimp only at H
  have A6 := am A60
  clear A60
  by_cases c7 : t36 = true
  ·
   subst c7
   rw [if_pos rfl] at H
   obtain rfl := Option.some.inj H
   go_enter Try.func9, Try.ntmps9
   go_wp2_with (first | ((with_reducible refine gate_dst (N := 2) rfl ?_); refine box_event ?hg (N := 2) ?hd (cs := #[.int .i64 a0_0, .slice A0_1 l0_1.length c0_1, .slice A0_2 l0_2.length c0_2]) (t := 29) ?hr ?_; (case hd => rfl); (case hg => rfl); (case hr => exact Z88); intro gb37 hg w8 hbox hb; have BK37 := am (hbox); have GW37 := nG HB hg; have GE37 := nG HB hg; have GI37 := gI GE37; replace HB := am (below_step (uN HB) hb); clear hb hbox hg) | ((with_reducible refine gate_dst (N := 3) rfl ?_); refine box_event ?hg (N := 3) ?hd (cs := #[.int .i64 a1_0, .slice A1_1 l1_1.length c1_1, .slice A1_2 l1_2.length c1_2]) (t := 29) ?hr ?_; (case hd => rfl); (case hg => rfl); (case hr => exact Z88); intro gb38 hg w9 hbox hb; have BK38 := am (hbox); have GW38 := am ((by rw [hg]; exact (below_size Z13) : w.heap.size ≤ gb38)); have GE38 := am ((by rw [hg]; exact (below_size Z13) : w.heap.size ≤ gb38)); replace HB := am (below_step Z13 hb); have NB37_38 := nL BK37 hg; have NB38_37 := nR BK37 hg; replace BK37 := kB BK37 hb; clear hb hbox hg; have hnb10 := NB37_38.out; have hnc10 := NB38_37.out; obtain ⟨hcz11_0, hcz11_1, hcz11_2, hfz11_0, hfz11_1, hfz11_2⟩ := ce3 BK37; obtain ⟨hcz12_0, hcz12_1, hcz12_2, hfz12_0, hfz12_1, hfz12_2⟩ := ce3 BK38) | ((with_reducible refine gate_callee (f := 30) rfl ?_); refine gL 14 rfl Try.func30 #[.slice A0_1 l0_1.length c0_1, .slice A1_1 l1_1.length c1_1] ?_; (with_reducible refine (Fg.calls k _ _ l0_1 _ _ l1_1 true _ ?side1 ?side2 ?side3 ?side4 A4.out).mono ?_); (case side1 => exact uC HR0_1 HB); (case side2 => exact HC0_1.out); (case side3 => exact uC HR1_1 HB); (case side4 => exact HC1_1.out); rintro e w13 ⟨rfl, hb⟩; refine ⟨_, rfl, ?_⟩; replace BK37 := kB BK37 hb; replace BK38 := kB BK38 hb; replace HB := am (below_step Z23 hb); (try clear hb); (try clear hb2); (try clear hk); (try clear hi); obtain ⟨hcz14_0, hcz14_1, hcz14_2, hfz14_0, hfz14_1, hfz14_2⟩ := ce3 BK37; obtain ⟨hcz15_0, hcz15_1, hcz15_2, hfz15_0, hfz15_1, hfz15_2⟩ := ce3 BK38) | ((with_reducible refine gate_callee (f := 18) rfl ?_); refine gL 20 rfl Try.func18 #[.slice A0_2 l0_2.length c0_2, .slice A1_2 l1_2.length c1_2] ?_; (with_reducible refine (Fp.calls k _ _ l0_2 _ _ l1_2 true _ ?side1 ?side2 ?side3 ?side4 A6.out).mono ?_); (case side1 => exact uC HR0_2 HB); (case side2 => exact HC0_2.out); (case side3 => exact uC HR1_2 HB); (case side4 => exact HC1_2.out); rintro e w' ⟨rfl, ⟨nd, rfl⟩⟩; refine ⟨_, rfl, ?_⟩))
   go_ret
   exact ⟨Z86, Z23⟩
  replace c7 := Bool.eq_false_iff.mpr c7
  subst c7
  rw [if_neg (show ¬ (false = true) from Z21)] at H
  obtain rfl := Option.some.inj H
  go_enter Try.func9, Try.ntmps9
  go_wp2_with (first | ((with_reducible refine gate_dst (N := 2) rfl ?_); refine box_event ?hg (N := 2) ?hd (cs := #[.int .i64 a0_0, .slice A0_1 l0_1.length c0_1, .slice A0_2 l0_2.length c0_2]) (t := 29) ?hr ?_; (case hd => rfl); (case hg => rfl); (case hr => exact Z88); intro gb37 hg w16 hbox hb; have BK37 := am (hbox); have GW37 := nG HB hg; have GE37 := nG HB hg; have GI37 := gI GE37; replace HB := am (below_step (uN HB) hb); clear hb hbox hg) | ((with_reducible refine gate_dst (N := 3) rfl ?_); refine box_event ?hg (N := 3) ?hd (cs := #[.int .i64 a1_0, .slice A1_1 l1_1.length c1_1, .slice A1_2 l1_2.length c1_2]) (t := 29) ?hr ?_; (case hd => rfl); (case hg => rfl); (case hr => exact Z88); intro gb38 hg w17 hbox hb; have BK38 := am (hbox); have GW38 := am ((by rw [hg]; exact (below_size Z13) : w.heap.size ≤ gb38)); have GE38 := am ((by rw [hg]; exact (below_size Z13) : w.heap.size ≤ gb38)); replace HB := am (below_step Z13 hb); have NB37_38 := nL BK37 hg; have NB38_37 := nR BK37 hg; replace BK37 := kB BK37 hb; clear hb hbox hg; have hnb18 := NB37_38.out; have hnc18 := NB38_37.out; obtain ⟨hcz19_0, hcz19_1, hcz19_2, hfz19_0, hfz19_1, hfz19_2⟩ := ce3 BK37; obtain ⟨hcz20_0, hcz20_1, hcz20_2, hfz20_0, hfz20_1, hfz20_2⟩ := ce3 BK38) | ((with_reducible refine gate_callee (f := 30) rfl ?_); refine gL 14 rfl Try.func30 #[.slice A0_1 l0_1.length c0_1, .slice A1_1 l1_1.length c1_1] ?_; (with_reducible refine (Fg.calls k _ _ l0_1 _ _ l1_1 true _ ?side1 ?side2 ?side3 ?side4 A4.out).mono ?_); (case side1 => exact uC HR0_1 HB); (case side2 => exact HC0_1.out); (case side3 => exact uC HR1_1 HB); (case side4 => exact HC1_1.out); rintro e w21 ⟨rfl, hb⟩; refine ⟨_, rfl, ?_⟩; replace BK37 := kB BK37 hb; replace BK38 := kB BK38 hb; replace HB := am (below_step Z23 hb); (try clear hb); (try clear hb2); (try clear hk); (try clear hi); obtain ⟨hcz22_0, hcz22_1, hcz22_2, hfz22_0, hfz22_1, hfz22_2⟩ := ce3 BK37; obtain ⟨hcz23_0, hcz23_1, hcz23_2, hfz23_0, hfz23_1, hfz23_2⟩ := ce3 BK38) | ((with_reducible refine gate_callee (f := 18) rfl ?_); refine gL 20 rfl Try.func18 #[.slice A0_2 l0_2.length c0_2, .slice A1_2 l1_2.length c1_2] ?_; (with_reducible refine (Fp.calls k _ _ l0_2 _ _ l1_2 false _ ?side1 ?side2 ?side3 ?side4 A6.out).mono ?_); (case side1 => exact uC HR0_2 HB); (case side2 => exact HC0_2.out); (case side3 => exact uC HR1_2 HB); (case side4 => exact HC1_2.out); rintro e w' ⟨rfl, ⟨nd, rfl⟩⟩; refine ⟨_, rfl, ?_⟩))
  go_ret
  exact ⟨Z86, Z23⟩
 replace c5 := Bool.eq_false_iff.mpr c5
 subst c5
 rw [if_neg (show ¬ (false = true) from Z21)] at H
 obtain rfl := Option.some.inj H
 go_enter Try.func9, Try.ntmps9
 go_wp2_with (first | ((with_reducible refine gate_dst (N := 2) rfl ?_); refine box_event ?hg (N := 2) ?hd (cs := #[.int .i64 a0_0, .slice A0_1 l0_1.length c0_1, .slice A0_2 l0_2.length c0_2]) (t := 29) ?hr ?_; (case hd => rfl); (case hg => rfl); (case hr => exact Z88); intro gb37 hg w24 hbox hb; have BK37 := am (hbox); have GW37 := nG HB hg; have GE37 := nG HB hg; have GI37 := gI GE37; replace HB := am (below_step (uN HB) hb); clear hb hbox hg) | ((with_reducible refine gate_dst (N := 3) rfl ?_); refine box_event ?hg (N := 3) ?hd (cs := #[.int .i64 a1_0, .slice A1_1 l1_1.length c1_1, .slice A1_2 l1_2.length c1_2]) (t := 29) ?hr ?_; (case hd => rfl); (case hg => rfl); (case hr => exact Z88); intro gb38 hg w25 hbox hb; have BK38 := am (hbox); have GW38 := am ((by rw [hg]; exact (below_size Z13) : w.heap.size ≤ gb38)); have GE38 := am ((by rw [hg]; exact (below_size Z13) : w.heap.size ≤ gb38)); replace HB := am (below_step Z13 hb); have NB37_38 := nL BK37 hg; have NB38_37 := nR BK37 hg; replace BK37 := kB BK37 hb; clear hb hbox hg; have hnb26 := NB37_38.out; have hnc26 := NB38_37.out; obtain ⟨hcz27_0, hcz27_1, hcz27_2, hfz27_0, hfz27_1, hfz27_2⟩ := ce3 BK37; obtain ⟨hcz28_0, hcz28_1, hcz28_2, hfz28_0, hfz28_1, hfz28_2⟩ := ce3 BK38) | ((with_reducible refine gate_callee (f := 30) rfl ?_); refine gL 14 rfl Try.func30 #[.slice A0_1 l0_1.length c0_1, .slice A1_1 l1_1.length c1_1] ?_; (with_reducible refine (Fg.calls k _ _ l0_1 _ _ l1_1 false _ ?side1 ?side2 ?side3 ?side4 A4.out).mono ?_); (case side1 => exact uC HR0_1 HB); (case side2 => exact HC0_1.out); (case side3 => exact uC HR1_1 HB); (case side4 => exact HC1_1.out); rintro e w29 ⟨rfl, hb⟩; refine ⟨_, rfl, ?_⟩; replace BK37 := kB BK37 hb; replace BK38 := kB BK38 hb; replace HB := am (below_step Z23 hb); (try clear hb); (try clear hb2); (try clear hk); (try clear hi)))
 go_ret
 exact ⟨Z86, Z23⟩

/-! ### Fu: function 20 -/
def Fu.l0 : Nat → List Bool → Int → Int → Option (Int × List Bool)
 | 0, _, _, _ => none
 | k + 1, x0, x1, x5 => if x5 < (x0.length : Int) then (if 0 ≤ x5 then (Fu.l0 k (x0.set (x5 : Int).toNat ((Int.tmod x1 3) == 0)) (wrap64 (x1 + 1)) (wrap64 (x5 + 1))) else (none)) else (some (x1, x0))
def Fu.f (k : Nat) (l0 : List Bool) (a1 : Int) : Option (Int × List Bool) := Fu.l0 k l0 a1 0
theorem Fu.mono_l : ∀ k, (∀ y0 y1 y2, LeO (Fu.l0 k y0 y1 y2) (Fu.l0 (k + 1) y0 y1 y2))
 | 0 => fun _ _ _ r h => by simp [Fu.l0] at h | k + 1 => by
  have ih0 := Fu.mono_l k
  ·
   intro y0 y1 y2
   unfold Fu.l0
   exact Mo1
theorem Fu.mono : ∀ a0 a1 k, LeO (Fu.f k a0 a1) (Fu.f (k + 1) a0 a1) := by
 intro a0 a1 k
 have ih0 := Fu.mono_l k
 unfold Fu.f
 exact Mo1
theorem Fu.calls (k : Nat) (P0_ : Nat → Prop) (u10_ : Value) (l0 : List Bool) (a1 : Int) (r1 : Int) (r2 : List Bool) (w0 w : World) (hB : Below w0.heap.size w0 w) (ho0 : Kd.R Kd.bool 4 w w0.heap.size P0_ u10_ l0) (h : Fu.f k l0 a1 = some (r1, r2)) :
  Calls Try.prog 20 #[u10_, .int .i64 a1] w fun e w' => e = .returned (.int .i64 r1) ∧ Kd.R Kd.bool 4 w' w0.heap.size (fun k_ => (P0_ k_ ∨ w.heap.size ≤ k_)) u10_ r2 ∧ Below w0.heap.size w0 w' ∧ Kept w w' (fun k_ => P0_ k_) := by
 have HO0 := am (show Kd.R Kd.bool 4 w w0.heap.size (fun k_ => (P0_ k_ ∨ w.heap.size ≤ k_)) u10_ l0 from Kd.R_mono ho0 (fun k_ hk => (.inl hk)))
 have HK := am (Kept.refl w (fun k_ => P0_ k_))
 have HW0 := am hB.size
 have HB := am hB
 clear hB
 have H : (Fu.l0 k l0 a1 0) = some (r1, r2) := h
 clear h
 have H' := am H
 clear H
 go_enter Try.func20, Try.ntmps20
 go_wp2
 go_loopg [1, 5] k (fun kq v1 v5 w' => ∃ (x0_1 : List Bool) (x1_1 : Int) (x5_1 : Int), v1 = .int .i64 x1_1 ∧ v5 = .int .i64 x5_1 ∧ Aside0 (Fu.l0 kq x0_1 x1_1 x5_1 = some (r1, r2)) ∧ Aside0 (kq ≤ k) ∧ Aside0 (Kd.R Kd.bool 4 w' w0.heap.size (fun k_ => (P0_ k_ ∨ w.heap.size ≤ k_)) u10_ x0_1) ∧ Aside0 (Kept w w' (fun k_ => P0_ k_)) ∧ Aside0 (Below w0.heap.size w0 w'))
 case atStart => exact ⟨(l0), (a1), (0), Z87, Z87, H', ⟨Nat.le_refl _⟩, ⟨by (with_reducible repeat (first | apply Kd.R_alloc | apply Kd.R_drewN | apply Kd.R_drew)); exact HO0.out⟩, ⟨Z16⟩, ⟨uN HB⟩⟩
 case round =>
  clear H'
  try clear c2
  try clear p2
  try clear HO_0
  obtain ⟨x0_1, x1_1, x5_1, rfl, rfl, HA, HK1, HO_0, HK, HB⟩ := hrel
  cases gk with
  | zero => exact absurd HA.out (by simp [Fu.l0])
  | succ k1 =>
   have H := HA.out
   clear HA
   simp only [Fu.l0] at H
   by_cases c3 : x5_1 < (x0_1.length : Int)
   rotate_left
   ·
    rw [if_neg c3] at H
    have c3b0 := decide_eq_false c3
    clear c3
    simp only [Option.some.injEq, Prod.mk.injEq] at H
    obtain ⟨rfl, rfl⟩ := H
    obtain ⟨Ao9, co9, eo9⟩ := Kd.R_slice HO_0.out
    subst eo9
    go_wp2
    go_ret
    exact ⟨Z86, Z64, uN HB, Z16⟩
   rw [if_pos c3] at H
   have c3b0 := decide_eq_true c3
   clear c3
   by_cases c4 : 0 ≤ x5_1
   rotate_left
   ·
    rw [if_neg c4] at H
    exact absurd H Z65
   rw [if_pos c4] at H
   have c4b0 := decide_eq_true c4
   clear c4
   obtain ⟨y11, hy11⟩ : ∃ y_ : List Bool, y_ = (x0_1.set (x5_1 : Int).toNat ((Int.tmod x1_1 3) == 0)) := ⟨_, rfl⟩
   replace H : (Fu.l0 k1 y11 (wrap64 (x1_1 + 1)) (wrap64 (x5_1 + 1))) = some (r1, r2) := by first | (rw [hy11]; with_reducible exact H) | (have H2_ := (Option.bind_some _ _).symm.trans H; rw [hy11]; with_reducible exact H2_) | (have H2_ := (Option.bind_some _ _).symm.trans H; with_reducible exact H2_) | with_reducible exact H | (rw [hy11]; exact H) | exact H
   have Ny11 := am hy11
   clear hy11
   have H' := am H
   clear H
   obtain ⟨Ao6, co6, eo6⟩ := Kd.R_slice HO_0.out
   subst eo6
   have p5 : 0 ≤ (x5_1 : Int) := of_decide_eq_true Z5
   have q5 : (x5_1 : Int) < ((x0_1.length : Int) : Int) := of_decide_eq_true Z5
   obtain ⟨go5, co5, eo5, gb5, gl5, cl5, HG5⟩ := Kd.R_form HO_0.out Z70
   (first | cases eo5 | (injection eo5 with ea_ en_ ec_; (first | subst ea_ | (injection ea_ with ea_; subst ea_)); subst ec_; clear en_))
   have GB5 := am gb5
   have GG5 := am HG5
   clear gb5 gl5 HG5
   have HMgo5 := am (show (P0_ go5 ∨ w.heap.size ≤ go5) from (HO_0.out.1 _ rfl))
   obtain ⟨hx5_0, hf5_0⟩ := Kd.R_celln false HO_0.out (x5_1 : Int) p5 q5
   replace p5 := eq_true p5
   replace q5 := eq_true q5
   have HP7 := Kd.R_putg HO_0.out (x5_1 : Int) ((Int.tmod x1_1 3) == 0)
   go_wp2_with (first | ((with_reducible refine gate_store (t := 4) (p := 17) rfl ?_); refine store_event (t := 4) (p := 17) (v := ?vo_w8) (w1 := (wr.setCell ⟨go5, (x5_1 : Int).toNat, none⟩ (.bool ((Int.tmod x1_1 3) == 0)))) ?hg ?ho ?hn ?hr ?_; (case ho => rfl); (case hg => rfl); (case hn => rfl); (case hr => exact Z88); intro w8 hw; have hg : wr.grownBy w8 (some go5) := (by rw [hw]; exact HP7.2); have hp_ : Kd.R Kd.bool 4 w8 w0.heap.size (fun k_ => (P0_ k_ ∨ w.heap.size ≤ k_)) (.slice (some ⟨go5, 0, none⟩) x0_1.length co6) y11 := (by rw [hw, Ny11.out]; exact HP7.1); clear HP7; replace HB := am ((by rw [hw]; exact below_set (HB.out) GB5.out : Below w0.heap.size w0 w8)); replace HK := am (Kept.of_grown (S := (fun k_ => P0_ k_)) hg Z16 (fun k_ e_ => (HO_0.out.1 k_ e_))); replace HO_0 := am (hp_); clear hg hw hp_))
   go_roundg k1
   case measure => have := HK1.out; omega
   case rel => exact ⟨(y11), (wrap64 (x1_1 + 1)), (wrap64 (x5_1 + 1)), Z87, Z87, H', ⟨by have := HK1.out; omega⟩, ⟨Z64⟩, ⟨Z16⟩, ⟨uN HB⟩⟩

/-! ### Fv: function 55 -/
def Fv.l0 : Nat → List Int → Int → Int → Option (Int × List Int)
 | 0, _, _, _ => none
 | k + 1, x0, x1, x5 => if x5 < (x0.length : Int) then (if 0 ≤ x5 then (Fv.l0 k (x0.set (x5 : Int).toNat x1) (wrap64 (x1 + 1)) (wrap64 (x5 + 1))) else (none)) else (some (x1, x0))
def Fv.f (k : Nat) (l0 : List Int) (a1 : Int) : Option (Int × List Int) := Fv.l0 k l0 a1 0
theorem Fv.mono_l : ∀ k, (∀ y0 y1 y2, LeO (Fv.l0 k y0 y1 y2) (Fv.l0 (k + 1) y0 y1 y2))
 | 0 => fun _ _ _ r h => by simp [Fv.l0] at h | k + 1 => by
  have ih0 := Fv.mono_l k
  ·
   intro y0 y1 y2
   unfold Fv.l0
   exact Mo1
theorem Fv.mono : ∀ a0 a1 k, LeO (Fv.f k a0 a1) (Fv.f (k + 1) a0 a1) := by
 intro a0 a1 k
 have ih0 := Fv.mono_l k
 unfold Fv.f
 exact Mo1
theorem Fv.calls (k : Nat) (P0_ : Nat → Prop) (u10_ : Value) (l0 : List Int) (a1 : Int) (r1 : Int) (r2 : List Int) (w0 w : World) (hB : Below w0.heap.size w0 w) (ho0 : Kd.R (Kd.int .i64) 3 w w0.heap.size P0_ u10_ l0) (h : Fv.f k l0 a1 = some (r1, r2)) :
  Calls Try.prog 55 #[u10_, .int .i64 a1] w fun e w' => e = .returned (.int .i64 r1) ∧ Kd.R (Kd.int .i64) 3 w' w0.heap.size (fun k_ => (P0_ k_ ∨ w.heap.size ≤ k_)) u10_ r2 ∧ Below w0.heap.size w0 w' ∧ Kept w w' (fun k_ => P0_ k_) := by
 have HO0 := am (show Kd.R (Kd.int .i64) 3 w w0.heap.size (fun k_ => (P0_ k_ ∨ w.heap.size ≤ k_)) u10_ l0 from Kd.R_mono ho0 (fun k_ hk => (.inl hk)))
 have HK := am (Kept.refl w (fun k_ => P0_ k_))
 have HW0 := am hB.size
 have HB := am hB
 clear hB
 have H : (Fv.l0 k l0 a1 0) = some (r1, r2) := h
 clear h
 have H' := am H
 clear H
 go_enter Try.func55, Try.ntmps55
 go_wp2
 go_loopg [1, 5] k (fun kq v1 v5 w' => ∃ (x0_1 : List Int) (x1_1 : Int) (x5_1 : Int), v1 = .int .i64 x1_1 ∧ v5 = .int .i64 x5_1 ∧ Aside0 (Fv.l0 kq x0_1 x1_1 x5_1 = some (r1, r2)) ∧ Aside0 (kq ≤ k) ∧ Aside0 (Kd.R (Kd.int .i64) 3 w' w0.heap.size (fun k_ => (P0_ k_ ∨ w.heap.size ≤ k_)) u10_ x0_1) ∧ Aside0 (Kept w w' (fun k_ => P0_ k_)) ∧ Aside0 (Below w0.heap.size w0 w'))
 case atStart => exact ⟨(l0), (a1), (0), Z87, Z87, H', ⟨Nat.le_refl _⟩, ⟨by (with_reducible repeat (first | apply Kd.R_alloc | apply Kd.R_drewN | apply Kd.R_drew)); exact HO0.out⟩, ⟨Z16⟩, ⟨uN HB⟩⟩
 case round =>
  clear H'
  try clear p2
  try clear HO_0
  obtain ⟨x0_1, x1_1, x5_1, rfl, rfl, HA, HK1, HO_0, HK, HB⟩ := hrel
  cases gk with
  | zero => exact absurd HA.out (by simp [Fv.l0])
  | succ k1 =>
   have H := HA.out
   clear HA
   simp only [Fv.l0] at H
   by_cases c3 : x5_1 < (x0_1.length : Int)
   rotate_left
   ·
    rw [if_neg c3] at H
    have c3b0 := decide_eq_false c3
    clear c3
    simp only [Option.some.injEq, Prod.mk.injEq] at H
    obtain ⟨rfl, rfl⟩ := H
    obtain ⟨Ao9, co9, eo9⟩ := Kd.R_slice HO_0.out
    subst eo9
    go_wp2
    go_ret
    exact ⟨Z86, Z64, uN HB, Z16⟩
   rw [if_pos c3] at H
   have c3b0 := decide_eq_true c3
   clear c3
   by_cases c4 : 0 ≤ x5_1
   rotate_left
   ·
    rw [if_neg c4] at H
    exact absurd H Z65
   rw [if_pos c4] at H
   have c4b0 := decide_eq_true c4
   clear c4
   obtain ⟨y11, hy11⟩ : ∃ y_ : List Int, y_ = (x0_1.set (x5_1 : Int).toNat x1_1) := ⟨_, rfl⟩
   replace H : (Fv.l0 k1 y11 (wrap64 (x1_1 + 1)) (wrap64 (x5_1 + 1))) = some (r1, r2) := by first | (rw [hy11]; with_reducible exact H) | (have H2_ := (Option.bind_some _ _).symm.trans H; rw [hy11]; with_reducible exact H2_) | (have H2_ := (Option.bind_some _ _).symm.trans H; with_reducible exact H2_) | with_reducible exact H | (rw [hy11]; exact H) | exact H
   have Ny11 := am hy11
   clear hy11
   have H' := am H
   clear H
   obtain ⟨Ao6, co6, eo6⟩ := Kd.R_slice HO_0.out
   subst eo6
   have p5 : 0 ≤ (x5_1 : Int) := of_decide_eq_true Z5
   have q5 : (x5_1 : Int) < ((x0_1.length : Int) : Int) := of_decide_eq_true Z5
   obtain ⟨go5, co5, eo5, gb5, gl5, cl5, HG5⟩ := Kd.R_form HO_0.out Z70
   (first | cases eo5 | (injection eo5 with ea_ en_ ec_; (first | subst ea_ | (injection ea_ with ea_; subst ea_)); subst ec_; clear en_))
   have GB5 := am gb5
   have GG5 := am HG5
   clear gb5 gl5 HG5
   have HMgo5 := am (show (P0_ go5 ∨ w.heap.size ≤ go5) from (HO_0.out.1 _ rfl))
   obtain ⟨hx5_0, hf5_0⟩ := Kd.R_celln 0 HO_0.out (x5_1 : Int) p5 q5
   replace p5 := eq_true p5
   replace q5 := eq_true q5
   have HP7 := Kd.R_putg HO_0.out (x5_1 : Int) x1_1
   go_wp2_with (first | ((with_reducible refine gate_store (t := 3) (p := 15) rfl ?_); refine store_event (t := 3) (p := 15) (v := ?vo_w8) (w1 := (wr.setCell ⟨go5, (x5_1 : Int).toNat, none⟩ (.int .i64 x1_1))) ?hg ?ho ?hn ?hr ?_; (case ho => rfl); (case hg => rfl); (case hn => rfl); (case hr => exact Z88); intro w8 hw; have hg : wr.grownBy w8 (some go5) := (by rw [hw]; exact HP7.2); have hp_ : Kd.R (Kd.int .i64) 3 w8 w0.heap.size (fun k_ => (P0_ k_ ∨ w.heap.size ≤ k_)) (.slice (some ⟨go5, 0, none⟩) x0_1.length co6) y11 := (by rw [hw, Ny11.out]; exact HP7.1); clear HP7; replace HB := am ((by rw [hw]; exact below_set (HB.out) GB5.out : Below w0.heap.size w0 w8)); replace HK := am (Kept.of_grown (S := (fun k_ => P0_ k_)) hg Z16 (fun k_ e_ => (HO_0.out.1 k_ e_))); replace HO_0 := am (hp_); clear hg hw hp_))
   go_roundg k1
   case measure => have := HK1.out; omega
   case rel => exact ⟨(y11), (wrap64 (x1_1 + 1)), (wrap64 (x5_1 + 1)), Z87, Z87, H', ⟨by have := HK1.out; omega⟩, ⟨Z64⟩, ⟨Z16⟩, ⟨uN HB⟩⟩

/-! ### Fh: function 31 -/
def Fh.row (xs : List (S53)) (i : Int) : S53 := xs.getD i.toNat z53
def Fh.l0 : Nat → List (S53) → Int → Int → Option (Int × List (S53))
 | 0, _, _, _ => none
 | k + 1, x0, x1, x5 => if x5 < (x0.length : Int) then (if 0 ≤ x5 then ((Fv.f k (Fh.row x0 x5).f1 (wrap64 (x1 + 1))).bind fun bt => (Fh.l0 k (x0.set x5.toNat ⟨x1, bt.2⟩) bt.1 (wrap64 (x5 + 1)))) else (none)) else (some (x1, x0))
def Fh.f (k : Nat) (l0 : List (S53)) (a1 : Int) : Option (Int × List (S53)) := Fh.l0 k l0 a1 0
theorem Fh.mono_l : ∀ k, (∀ y0 y1 y2, LeO (Fh.l0 k y0 y1 y2) (Fh.l0 (k + 1) y0 y1 y2))
 | 0 => fun _ _ _ r h => by simp [Fh.l0] at h | k + 1 => by
  have ih0 := Fh.mono_l k
  intro y0 y1 y2
  unfold Fh.l0
  repeat' first
   | with_reducible first | exact ih0 .. | exact Fv.mono .. | exact LeO.refl _ | exact LeO.none _ | refine LeO.ite ?_ ?_ | refine LeO.bind ?_ (fun _ => ?_)
   | exact ih0 .. | exact Fv.mono .. | exact LeO.none _ | refine LeO.ite ?_ ?_ | refine LeO.bind ?_ (fun _ => ?_)
theorem Fh.mono : ∀ a0 a1 k, LeO (Fh.f k a0 a1) (Fh.f (k + 1) a0 a1) := by
 intro a0 a1 k
 exact Fh.mono_l k _ _ _
theorem Fh.stored {wr : World} {base g n co : Nat} {P oki : Nat → Prop} {xs : List S53} {i : Int} {f0 x : Int} {v1 : Value} (hH : Kd.H k53 53 wr base P (.slice (some ⟨g, 0, none⟩) n co) xs i oki [.int .i64 f0, v1]) (h0 : 0 ≤ i) (h1 : i < n) : Kd.H k53 53 (wr.setCell ⟨g, i.toNat * 2, none⟩ (.int .i64 x)) base P (.slice (some ⟨g, 0, none⟩) n co) xs i oki [.int .i64 x, v1] ∧ wr.grownBy (wr.setCell ⟨g, i.toNat * 2, none⟩ (.int .i64 x)) (some g) ∧ (wr.setCell ⟨g, i.toNat * 2, none⟩ (.int .i64 x)).cell? ⟨g, i.toNat * 2 + 1, none⟩ = some v1 := by
  have h := Kd.H_seg hH h0 h1 (seg := [.int .i64 x]) (j := 0) (by show 0 + 1 ≤ 2; decide) (by intro q hq; rw [List.mem_singleton.1 hq]; rfl)
  have h2 : Kd.H k53 53 (wr.setCell ⟨g, i.toNat * 2, none⟩ (.int .i64 x)) base P (.slice (some ⟨g, 0, none⟩) n co) xs i oki [.int .i64 x, v1] := h.1
  obtain ⟨rows, _, hraw, hcl, hco, hcc, hback⟩ := Kd.H_raw h2 h0 h1
  exact ⟨h2, h.2, hcc 1 _ rfl⟩
theorem Fh.calls (k : Nat) (P0_ : Nat → Prop) (u7_ : Value) (l0 : List (S53)) (a1 : Int) (r1 : Int) (r2 : List (S53)) (w0 w : World) (hB : Below w0.heap.size w0 w) (ho0 : Kd.S k53 53 w w0.heap.size P0_ u7_ l0) (h : Fh.f k l0 a1 = some (r1, r2)) :
  Calls Try.prog 31 #[u7_, .int .i64 a1] w fun e w' => e = .returned (.int .i64 r1) ∧ Kd.S k53 53 w' w0.heap.size P0_ u7_ r2 ∧ Below w0.heap.size w0 w' ∧ Kept w w' (fun k_ => P0_ k_) := by
 have HO_0 := am ho0
 clear ho0
 have HK := am (Kept.refl w (fun k_ => P0_ k_))
 have HB := am hB
 clear hB
 have H' := am (show (Fh.l0 k l0 a1 0) = some (r1, r2) from h)
 clear h
 go_enter Try.func31, Try.ntmps31
 go_wp2
 go_loopg [1, 5] k (fun kq v1 v5 w' => ∃ (x0_1 : List (S53)) (x1_1 : Int) (x5_1 : Int), v1 = .int .i64 x1_1 ∧ v5 = .int .i64 x5_1 ∧ Aside0 (Fh.l0 kq x0_1 x1_1 x5_1 = some (r1, r2)) ∧ Aside0 (kq ≤ k) ∧ Aside0 (Kd.S k53 53 w' w0.heap.size P0_ u7_ x0_1) ∧ Aside0 (Kept w w' (fun k_ => P0_ k_)) ∧ Aside0 (Below w0.heap.size w0 w'))
 case atStart => exact ⟨(l0), (a1), (0), rfl, rfl, H', ⟨Nat.le_refl _⟩, ⟨Z79⟩, ⟨Z16⟩, ⟨uN HB⟩⟩
 case round =>
  clear H'
  try clear HO_0
  try clear HO_0
  obtain ⟨x0_1, x1_1, x5_1, rfl, rfl, HA, HK1, HO_0, HK, HB⟩ := hrel
  cases gk with
  | zero => exact absurd HA.out (by simp [Fh.l0])
  | succ k1 =>
   have H := HA.out
   clear HA
   simp only [Fh.l0] at H
   by_cases c3 : x5_1 < (x0_1.length : Int)
   rotate_left
   ·
    rw [if_neg c3] at H
    have c3b0 := decide_eq_false c3
    clear c3
    simp only [Option.some.injEq, Prod.mk.injEq] at H
    obtain ⟨rfl, rfl⟩ := H
    obtain ⟨Ao9, co9, eo9⟩ := Kd.S_slice HO_0.out
    subst eo9
    go_wp2
    go_ret
    exact ⟨Z86, Z79, uN HB, Z16⟩
   rw [if_pos c3] at H
   have c3b0 := decide_eq_true c3
   clear c3
   by_cases c4 : 0 ≤ x5_1
   rotate_left
   ·
    rw [if_neg c4] at H
    exact absurd H Z65
   rw [if_pos c4] at H
   have c4b0 := decide_eq_true c4
   clear c4
   obtain ⟨⟨t1, t2⟩, A50, H⟩ := Option.bind_eq_some_iff.mp H
   try dsimp only at H
   have A5 := am A50
   clear A50
   have H' := am H
   clear H
   have p5 : 0 ≤ (x5_1 : Int) := of_decide_eq_true Z5
   have q5 : (x5_1 : Int) < ((x0_1.length : Int) : Int) := of_decide_eq_true Z5
   have P5 := am p5
   have Q5 := am q5
   obtain ⟨go5, co5, eo5, gb5, gl5, cl5, HG5⟩ := Kd.S_form HO_0.out Z70
   subst eo5
   obtain ⟨oki, cs, hcl, hM, hcc, hfr, hoki, hH⟩ := Kd.S_elem HO_0.out z53 x5_1 p5 Z70
   obtain ⟨v5, rfl, hR⟩ := k53_openM hM
   obtain ⟨A6, c6, rfl⟩ := Kd.R_slice hR
   have hx5_0 : wr.cell? ⟨go5, x5_1.toNat * 2, none⟩ = some (.int .i64 (Fh.row x0_1 x5_1).f0) := hcc 0 _ rfl
   have hf5_0 : wr.frozen? ⟨go5, x5_1.toNat * 2, none⟩ = false := hfr 0
   have HRI := am (show Kd.R (Kd.int .i64) 3 wr w0.heap.size oki (.slice A6 (Fh.row x0_1 x5_1).f1.length c6) (Fh.row x0_1 x5_1).f1 from hR)
   have HHI := am (show Kd.H k53 53 wr w0.heap.size P0_ (.slice (some ⟨go5, 0, none⟩) x0_1.length co5) x0_1 x5_1 oki [.int .i64 (Fh.row x0_1 x5_1).f0, .slice A6 (Fh.row x0_1 x5_1).f1.length c6] from hH)
   have HOK := am hoki
   have HGO := am (show P0_ go5 from (Kd.S_R HO_0.out).1 go5 rfl)
   have GB5 := am gb5
   clear hR hH hoki hcc hfr gb5 gl5 HG5 cl5 hcl
   replace p5 := eq_true p5
   replace q5 := eq_true q5
   go_wp2_with (first | ((with_reducible refine gate_store (t := 3) (p := 16) rfl ?_); refine store_event (t := 3) (p := 16) (v := ?vo_w8) (w1 := (wr.setCell ⟨go5, x5_1.toNat * 2, none⟩ (.int .i64 x1_1))) ?hg ?ho ?hn ?hr ?_; (case ho => rfl); (case hg => rfl); (case hn => rfl); (case hr => exact Z88); intro w8 hw; have hst := Fh.stored (x := x1_1) HHI.out P5.out (by have := Q5.out; omega); rw [← hw] at hst; have n0_ := am (Kept.of_grown (S := (fun k_ => P0_ k_)) hst.2.1 HK.out (fun k_ e_ => .inl (by injection e_ with e_; rw [← e_]; exact HGO.out))); have n1_ := am (show Below w0.heap.size w0 w8 by rw [hw]; exact below_set HB.out GB5.out); have n2_ := am (show Kd.R (Kd.int .i64) 3 w8 w0.heap.size oki (.slice A6 (Fh.row x0_1 x5_1).f1.length c6) (Fh.row x0_1 x5_1).f1 by rw [hw]; exact Kd.R_far HRI.out (fun k_ h_ => (HOK.out k_ h_).2) _); have n3_ := am hst.1; have hx9_0 := hst.2.2; clear hst hw HRI HHI HO_0 HK HB hx5_0 hf5_0; have HK := n0_; have HB := n1_; have HRI := n2_; have HHI := n3_; clear n0_ n1_ n2_ n3_) | ((with_reducible refine gate_callee (f := 55) rfl ?_); refine gL 25 rfl Try.func55 #[.slice A6 (Fh.row x0_1 x5_1).f1.length c6, .int .i64 (wrap64 (x1_1 + 1))] ?_; (with_reducible refine (Fv.calls k1 (fun k_ => some k_ = (.slice A6 (Fh.row x0_1 x5_1).f1.length c6 : Value).ownBlock) (.slice A6 (Fh.row x0_1 x5_1).f1.length c6 : Value) (Fh.row x0_1 x5_1).f1 (wrap64 (x1_1 + 1)) t1 t2 w0 _ ?side1 ?side2 A5.out).mono ?_); (case side1 => exact HB.out); (case side2 => exact Kd.R_tight rfl HRI.out); rintro e w9 ⟨rfl, hy0, hb, hkp⟩; refine ⟨_, rfl, ?_⟩; have HO_0 := am (Kd.H_back (Kd.H_kept HHI.out hkp (fun k_ h1_ h2_ e_ => h2_ (HRI.out.1 k_ e_.symm))) (x' := (⟨x1_1, t2⟩ : S53)) (okp := oki) (k53_mkM _ _ _ (⟨x1_1, t2⟩ : S53) (Kd.R_reok rfl hy0 (fun k_ e_ => HRI.out.1 k_ e_))) (fun _ h_ => h_)); replace HK := am (HK.out.then_ hkp (fun k_ e_ => .inl (HOK.out k_ (HRI.out.1 k_ e_.symm)).1)); replace HB := am hb; clear HHI HRI HOK hkp hb hy0))
   go_roundg k1
   case measure => have := HK1.out; omega
   case rel => exact ⟨_, t1, (wrap64 (x5_1 + 1)), Z87, Z87, H', ⟨by have := HK1.out; omega⟩, ⟨Z79⟩, ⟨Z16⟩, ⟨uN HB⟩⟩


/-! ### Fy: function 10 -/
def Fy.f (k : Nat) (a0_0 : Int) (l0_1 : List (S53)) (l0_2 : List Bool) (a1 : Int) : Option (Int × List (S53) × List Bool) := (Fh.f k l0_1 a1).bind fun bt => ((Fu.f k l0_2 bt.1).bind fun bu => (some (bu.1, bt.2, bu.2)))
theorem Fy.mono : ∀ a0 a1 a2 a3 k, LeO (Fy.f k a0 a1 a2 a3) (Fy.f (k + 1) a0 a1 a2 a3) := by
 intro a0 a1 a2 a3 k
 unfold Fy.f
 refine LeO.bind (Fh.mono _ _ _) (fun _ => ?_)
 exact LeO.bind (Fu.mono _ _ _) (fun _ => LeO.refl _)
theorem Fy.calls (k : Nat) (a0_0 : Int) (P0_1_ : Nat → Prop) (u12_ : Value) (l0_1 : List (S53)) (P0_2_ : Nat → Prop) (u13_ : Value) (l0_2 : List Bool) (a1 : Int) (r1 : Int) (r2 : List (S53)) (r3 : List Bool) (w0 w : World) (hB : Below w0.heap.size w0 w) (ho0_1 : Kd.S k53 53 w w0.heap.size P0_1_ u12_ l0_1) (ho0_2 : Kd.R Kd.bool 4 w w0.heap.size P0_2_ u13_ l0_2) (h : Fy.f k a0_0 l0_1 l0_2 a1 = some (r1, r2, r3)) :
  Calls Try.prog 10 #[.agg #[.int .i64 a0_0, u12_, u13_], .int .i64 a1] w fun e w' => e = .returned (.int .i64 r1) ∧ Kd.S k53 53 w' w0.heap.size P0_1_ u12_ r2 ∧ Kd.R Kd.bool 4 w' w0.heap.size P0_2_ u13_ r3 ∧ Below w0.heap.size w0 w' ∧ Kept w w' (fun k_ => P0_1_ k_ ∨ P0_2_ k_) := by
 have hu := Try.underlying29
 have HO0_1 := am (Kd.S_mono (ok' := fun k_ => (P0_1_ k_ ∧ k_ < w.heap.size) ∧ some k_ ≠ (u13_ : Value).ownBlock) (Kd.S_bound (Kd.S_apart' ho0_1 (Kd.R_typed ho0_2) Z21)) (fun _ h_ => ⟨⟨h_.1.1, h_.2.2.1⟩, h_.1.2⟩))
 have HO0_2 := am ho0_2
 clear ho0_1 ho0_2
 have HK := am (Kept.refl w (fun k_ => P0_1_ k_ ∨ P0_2_ k_))
 have HB := am hB
 clear hB
 unfold Fy.f at h
 obtain ⟨⟨t1, t2⟩, A30, h⟩ := Option.bind_eq_some_iff.mp h
 obtain ⟨⟨t3, t4⟩, A40, h⟩ := Option.bind_eq_some_iff.mp h
 have A3 := am (show Fh.f k l0_1 a1 = some (t1, t2) from A30)
 have A4 := am (show Fu.f k l0_2 t1 = some (t3, t4) from A40)
 clear A30 A40
 simp only [Option.some.injEq, Prod.mk.injEq] at h
 obtain ⟨rfl, rfl, rfl⟩ := h
 obtain ⟨Ao5, co5, eo5⟩ := Kd.S_slice HO0_1.out
 subst eo5
 obtain ⟨Ao6, co6, eo6⟩ := Kd.R_slice HO0_2.out
 subst eo6
 go_enter Try.func10, Try.ntmps10
 go_wp2_with (first | ((with_reducible refine gate_dst (N := 2) rfl ?_); refine box_event ?hg (N := 2) ?hd (cs := #[.int .i64 a0_0, .slice Ao5 l0_1.length co5, .slice Ao6 l0_2.length co6]) (t := 29) ?hr ?_; (case hd => rfl); (case hg => rfl); (case hr => exact Z88); intro gb14 hg w7 hbox hb; replace HO0_1 := am (Kd.S_below (by (with_reducible repeat (first | apply Kd.S_alloc | apply Kd.S_drewN | apply Kd.S_drew)); exact HO0_1.out) hb); replace HO0_2 := rB HO0_2 hb; have BK14 := am (hbox); have GW14 := am ((by rw [hg]; exact (by first | exact HK.out.1 | exact (show Kept w _ (fun k_ => P0_1_ k_ ∨ P0_2_ k_) from Z16).1) : w.heap.size ≤ gb14)); replace HK := am (Kept.below (S := (fun k_ => P0_1_ k_ ∨ P0_2_ k_)) Z16 hb); have GE14 := am ((by rw [hg]; exact (below_size (uN HB)) : w0.heap.size ≤ gb14)); replace HB := am (below_step (uN HB) hb); clear hb hbox hg; obtain ⟨hcz8_0, hcz8_1, hcz8_2, hfz8_0, hfz8_1, hfz8_2⟩ := ce3 BK14) | ((with_reducible refine gate_callee (f := 31) rfl ?_); refine gL 8 rfl Try.func31 #[.slice Ao5 l0_1.length co5, .int .i64 a1] ?_; (with_reducible refine (Fh.calls k (fun k_ => (P0_1_ k_ ∧ k_ < w.heap.size) ∧ some k_ ≠ (.slice Ao6 l0_2.length co6 : Value).ownBlock) (.slice Ao5 l0_1.length co5) l0_1 a1 t1 t2 w0 _ ?side1 ?side2 A3.out).mono ?_); (case side1 => exact Z61); (case side2 => exact HO0_1.out); rintro e w9 ⟨rfl, hy0, hb, hkp⟩; refine ⟨_, rfl, ?_⟩; replace HO0_1 := am hy0; replace HO0_2 := am (Kd.R_mono (ok' := P0_2_) (Kd.R_kept (Kd.R_mono (Kd.R_tight rfl HO0_2.out) (fun k_ e_ => (⟨HO0_2.out.1 k_ e_.symm, e_⟩ : P0_2_ k_ ∧ some k_ = (.slice Ao6 l0_2.length co6 : Value).ownBlock))) hkp (fun k_ hk_ hs_ => hs_.2 hk_.2)) (fun k_ hk_ => hk_.1)); replace BK14 := am (blk_kept (uK BK14) hkp (fun hs_ => absurd hs_.1.2 (Nat.not_lt.2 GW14.out))); replace HK := am (Kept.then_ (S := (fun k_ => P0_1_ k_ ∨ P0_2_ k_)) Z56 hkp (fun k_ hs_ => .inl (.inl hs_.1.1))); replace HB := am (hb); (try clear hb); (try clear hkp); (try clear hy0); obtain ⟨hcz10_0, hcz10_1, hcz10_2, hfz10_0, hfz10_1, hfz10_2⟩ := ce3 BK14) | ((with_reducible refine gate_callee (f := 20) rfl ?_); refine gL 12 rfl Try.func20 #[.slice Ao6 l0_2.length co6, .int .i64 t1] ?_; (with_reducible refine (Fu.calls k (fun k_ => some k_ = (.slice Ao6 l0_2.length co6 : Value).ownBlock) (.slice Ao6 l0_2.length co6) l0_2 t1 t3 t4 w0 _ ?side1 ?side2 A4.out).mono ?_); (case side1 => exact Z61); (case side2 => exact Kd.R_tight rfl HO0_2.out); rintro e w11 ⟨rfl, hy0, hb, hkp⟩; refine ⟨_, rfl, ?_⟩; have n0_ := am (Kd.S_kept HO0_1.out hkp (fun k_ hk_ hs_ => hk_.2 hs_)); have n1_ := am (Kd.R_reok (ok := P0_2_) rfl hy0 (fun k_ e_ => HO0_2.out.1 k_ e_)); have n3_ := am (Kept.then_ (S := (fun k_ => P0_1_ k_ ∨ P0_2_ k_)) Z56 hkp (fun k_ hs_ => .inl (.inr (HO0_2.out.1 k_ hs_.symm)))); have n4_ := am (hb); clear HO0_1 HO0_2 BK14 HK HB; have HO0_1 := n0_; have HO0_2 := n1_; have HK := n3_; have HB := n4_; clear n0_ n1_ n3_ n4_; (try clear hb); (try clear hkp); (try clear hy0)))
 go_ret
 exact ⟨Z86, by (with_reducible repeat (first | apply Kd.S_alloc | apply Kd.S_drewN | apply Kd.S_drew)); exact Kd.S_mono HO0_1.out (fun _ hk => hk.1.1), by (with_reducible repeat (first | apply Kd.R_alloc | apply Kd.R_drewN | apply Kd.R_drew)); exact HO0_2.out, Z61, Z56⟩
theorem Fy.callsT (k : Nat) (a0_0 : Int) (P0_1_ : Nat → Prop) (u4_ : Value) (l0_1 : List (S53)) (P0_2_ : Nat → Prop) (u5_ : Value) (l0_2 : List Bool) (a1 : Int) (r1 : Int) (r2 : List (S53)) (r3 : List Bool) (w0 w : World) (hB : Below w0.heap.size w0 w) (ho0_1 : Kd.S k53 53 w w0.heap.size P0_1_ u4_ l0_1) (ho0_2 : Kd.R Kd.bool 4 w w0.heap.size P0_2_ u5_ l0_2) (h : Fy.f k a0_0 l0_1 l0_2 a1 = some (r1, r2, r3)) :
  Calls Try.prog 10 #[.agg #[.int .i64 a0_0, u4_, u5_], .int .i64 a1] w fun e w' => e = .returned (.int .i64 r1) ∧ Kd.S k53 53 w' w0.heap.size P0_1_ u4_ r2 ∧ Kd.R Kd.bool 4 w' w0.heap.size P0_2_ u5_ r3 ∧ Below w0.heap.size w0 w' ∧ Kept w w' (fun k_ => (P0_1_ k_ ∧ ∃ q, q ∈ 53 :: k53.E ∧ ∃ cells, w.heap[k_]? = some (.cells cells q (0, 0))) ∨ P0_2_ k_) :=
  (Fy.calls k a0_0 _ u4_ l0_1 P0_2_ u5_ l0_2 a1 r1 r2 r3 w0 w hB (Kd.S_bound ho0_1) ho0_2 h).mono (fun _ _ h_ => ⟨h_.1, Kd.S_mono h_.2.1 (fun _ h2 => h2.1), h_.2.2.1, h_.2.2.2.1, Kept.mono h_.2.2.2.2 (fun _ h2 => h2.imp (fun h3 => ⟨h3.1, h3.2.2.2⟩) id)⟩)


/-! ### Ft: function 56 -/
def Ft.l0 : Nat → List Int → Int → Int → Option (Int)
 | 0, _, _, _ => none
 | k + 1, x0, x1, x5 => if x5 < (x0.length : Int) then (if 0 ≤ x5 then (if (rd x0 x5) = x1 then (Ft.l0 k x0 (wrap64 (x1 + 1)) (wrap64 (x5 + 1))) else (some (-1))) else (none)) else (some x1)
def Ft.f (k : Nat) (l0 : List Int) (a1 : Int) : Option (Int) := Ft.l0 k l0 a1 0
theorem Ft.mono_l : ∀ k, (∀ y0 y1 y2, LeO (Ft.l0 k y0 y1 y2) (Ft.l0 (k + 1) y0 y1 y2))
 | 0 => fun _ _ _ r h => by simp [Ft.l0] at h | k + 1 => by
  have ih0 := Ft.mono_l k
  ·
   intro y0 y1 y2
   unfold Ft.l0
   exact Mo1
theorem Ft.mono : ∀ a0 a1 k, LeO (Ft.f k a0 a1) (Ft.f (k + 1) a0 a1) := by
 intro a0 a1 k
 have ih0 := Ft.mono_l k
 unfold Ft.f
 exact Mo1
theorem Ft.calls (k : Nat) (A0 : Option Addr) (c0 : Nat) (l0 : List Int) (a1 : Int) (r : Int) (w : World) (hr0 : Kd.C (Kd.int .i64) w A0 l0.length l0) (hc0 : l0.length ≤ c0) (h : Ft.f k l0 a1 = some r) :
  Calls Try.prog 56 #[.slice A0 l0.length c0, .int .i64 a1] w fun e w' => e = .returned (.int .i64 r) ∧ Drawn0 w w' := by
 have HR0 := am hr0
 have HC0 := am hc0
 clear hr0 hc0
 have H : (Ft.l0 k l0 a1 0) = some r := h
 clear h
 have H' := am H
 clear H
 go_enter Try.func56, Try.ntmps56
 go_wp2
 go_loopg [1, 5] k (fun kq v1 v5 w' => ∃ (x1_1 : Int) (x5_1 : Int), v1 = .int .i64 x1_1 ∧ v5 = .int .i64 x5_1 ∧ Aside0 (Ft.l0 kq l0 x1_1 x5_1 = some r) ∧ Aside0 (kq ≤ k) ∧ Drawn0 w w')
 case atStart => exact ⟨(a1), (0), Z87, Z87, H', ⟨Nat.le_refl _⟩, Z12⟩
 case round =>
  clear H'
  try clear p2
  obtain ⟨x1_1, x5_1, rfl, rfl, HA, HK1, ⟨m1, rfl⟩⟩ := hrel
  cases gk with
  | zero => exact absurd HA.out (by simp [Ft.l0])
  | succ k1 =>
   have H := HA.out
   clear HA
   simp only [Ft.l0] at H
   by_cases c3 : x5_1 < (l0.length : Int)
   rotate_left
   ·
    rw [if_neg c3] at H
    have c3b0 := decide_eq_false c3
    clear c3
    obtain rfl := Option.some.inj H
    go_wp2
    go_ret
    exact ⟨Z87, Z12⟩
   rw [if_pos c3] at H
   have c3b0 := decide_eq_true c3
   clear c3
   by_cases c4 : 0 ≤ x5_1
   rotate_left
   ·
    rw [if_neg c4] at H
    exact absurd H Z65
   rw [if_pos c4] at H
   have c4b0 := decide_eq_true c4
   clear c4
   by_cases c5 : (rd l0 x5_1) = x1_1
   rotate_left
   ·
    rw [if_neg c5] at H
    have c5b0 : ((rd l0 x5_1) == x1_1) = false := beq_eq_false_iff_ne.mpr c5
    have c5b1 : ((rd l0 x5_1) != x1_1) = true := bne_iff_ne.mpr c5
    obtain rfl := Option.some.inj H
    have p6 : 0 ≤ (x5_1 : Int) := of_decide_eq_true Z5
    have q6 : x5_1 < (l0.length : Int) := of_decide_eq_true Z5
    obtain ⟨ad6, e6, hx6_0⟩ := Kd.at_int HR0.out x5_1 p6 q6
    cases e6
    replace p6 := eq_true p6
    replace q6 := eq_true q6
    go_wp2
    go_ret
    exact ⟨Z87, Z12⟩
   rw [if_pos c5] at H
   have c5b0 : ((rd l0 x5_1) == x1_1) = true := beq_iff_eq.mpr c5
   have c5b1 : ((rd l0 x5_1) != x1_1) = false := bne_eq_false_iff_eq.mpr c5
   clear c5
   have H' := am H
   clear H
   have p6 : 0 ≤ (x5_1 : Int) := of_decide_eq_true Z5
   have q6 : x5_1 < (l0.length : Int) := of_decide_eq_true Z5
   obtain ⟨ad6, e6, hx6_0⟩ := Kd.at_int HR0.out x5_1 p6 q6
   cases e6
   replace p6 := eq_true p6
   replace q6 := eq_true q6
   go_wp2
   go_roundg k1
   case measure => have := HK1.out; omega
   case rel => exact ⟨(wrap64 (x1_1 + 1)), (wrap64 (x5_1 + 1)), Z87, Z87, H', ⟨by have := HK1.out; omega⟩, Z12⟩

/-! ### Fr: function 32 -/
def Fr.l0 : Nat → List (S53) → Int → Int → Option (Int)
 | 0, _, _, _ => none
 | k + 1, x0, x1, x5 => if x5 < (x0.length : Int) then (if 0 ≤ x5 then (if ((rd_T53 x0 x5).f0) = x1 then ((Ft.f k ((rd_T53 x0 x5).f1) (wrap64 (x1 + 1))).bind fun t2 => (if t2 < 0 then (some (-1)) else (Fr.l0 k x0 t2 (wrap64 (x5 + 1))))) else (some (-1))) else (none)) else (some x1)
def Fr.f (k : Nat) (l0 : List (S53)) (a1 : Int) : Option (Int) := Fr.l0 k l0 a1 0
theorem Fr.mono_l : ∀ k, (∀ y0 y1 y2, LeO (Fr.l0 k y0 y1 y2) (Fr.l0 (k + 1) y0 y1 y2))
 | 0 => fun _ _ _ r h => by simp [Fr.l0] at h | k + 1 => by
  have ih0 := Fr.mono_l k
  ·
   intro y0 y1 y2
   unfold Fr.l0
   exact Mo9
theorem Fr.mono : ∀ a0 a1 k, LeO (Fr.f k a0 a1) (Fr.f (k + 1) a0 a1) := by
 intro a0 a1 k
 have ih0 := Fr.mono_l k
 unfold Fr.f
 exact Mo9
theorem Fr.calls (k : Nat) (A0 : Option Addr) (c0 : Nat) (l0 : List (S53)) (a1 : Int) (r : Int) (w : World) (hr0 : Kd.C k53 w A0 l0.length l0) (hc0 : l0.length ≤ c0) (h : Fr.f k l0 a1 = some r) :
  Calls Try.prog 32 #[.slice A0 l0.length c0, .int .i64 a1] w fun e w' => e = .returned (.int .i64 r) ∧ Drawn0 w w' := by
 have HR0 := am hr0
 have HC0 := am hc0
 clear hr0 hc0
 have H : (Fr.l0 k l0 a1 0) = some r := h
 clear h
 have H' := am H
 clear H
 go_enter Try.func32, Try.ntmps32
 go_wp2
 go_loopg [1, 5] k (fun kq v1 v5 w' => ∃ (x1_1 : Int) (x5_1 : Int), v1 = .int .i64 x1_1 ∧ v5 = .int .i64 x5_1 ∧ Aside0 (Fr.l0 kq l0 x1_1 x5_1 = some r) ∧ Aside0 (kq ≤ k) ∧ Drawn0 w w')
 case atStart => exact ⟨(a1), (0), Z87, Z87, H', ⟨Nat.le_refl _⟩, Z12⟩
 case round =>
  clear H'
  try clear p2
  obtain ⟨x1_1, x5_1, rfl, rfl, HA, HK1, ⟨m1, rfl⟩⟩ := hrel
  cases gk with
  | zero => exact absurd HA.out (by simp [Fr.l0])
  | succ k1 =>
   have H := HA.out
   clear HA
   simp only [Fr.l0] at H
   by_cases c3 : x5_1 < (l0.length : Int)
   rotate_left
   ·
    rw [if_neg c3] at H
    have c3b0 := decide_eq_false c3
    clear c3
    obtain rfl := Option.some.inj H
    go_wp2
    go_ret
    exact ⟨Z87, Z12⟩
   rw [if_pos c3] at H
   have c3b0 := decide_eq_true c3
   clear c3
   by_cases c4 : 0 ≤ x5_1
   rotate_left
   ·
    rw [if_neg c4] at H
    exact absurd H Z65
   rw [if_pos c4] at H
   have c4b0 := decide_eq_true c4
   clear c4
   by_cases c5 : ((rd_T53 l0 x5_1).f0) = x1_1
   rotate_left
   ·
    rw [if_neg c5] at H
    have c5b0 : (((rd_T53 l0 x5_1).f0) == x1_1) = false := beq_eq_false_iff_ne.mpr c5
    have c5b1 : (((rd_T53 l0 x5_1).f0) != x1_1) = true := bne_iff_ne.mpr c5
    obtain rfl := Option.some.inj H
    have p9 : 0 ≤ (x5_1 : Int) := of_decide_eq_true Z5
    have q9 : x5_1 < (l0.length : Int) := of_decide_eq_true Z5
    obtain ⟨ad9, A9_1, c9_1, e9, hx9_0, hx9_1, hl263_1, hi9_1⟩ := at_T53 HR0.out x5_1 p9 q9
    cases e9
    have HR9_1 := am hi9_1
    have HC9_1 := am hl263_1
    clear hi9_1 hl263_1
    replace p9 := eq_true p9
    replace q9 := eq_true q9
    go_wp2
    go_ret
    exact ⟨Z87, Z12⟩
   rw [if_pos c5] at H
   have c5b0 : (((rd_T53 l0 x5_1).f0) == x1_1) = true := beq_iff_eq.mpr c5
   have c5b1 : (((rd_T53 l0 x5_1).f0) != x1_1) = false := bne_eq_false_iff_eq.mpr c5
   clear c5
   replace H := Option.bind_eq_some_iff.mp H
   obtain ⟨t8, A60, H⟩ := H
   try dsimp only at H
   have A6 := am A60
   clear A60
   by_cases c7 : t8 < 0
   ·
    rw [if_pos c7] at H
    have c7b0 := decide_eq_true c7
    clear c7
    obtain rfl := Option.some.inj H
    have p9 : 0 ≤ (x5_1 : Int) := of_decide_eq_true Z5
    have q9 : x5_1 < (l0.length : Int) := of_decide_eq_true Z5
    obtain ⟨ad9, A9_1, c9_1, e9, hx9_0, hx9_1, hl263_1, hi9_1⟩ := at_T53 HR0.out x5_1 p9 q9
    cases e9
    have HR9_1 := am hi9_1
    have HC9_1 := am hl263_1
    clear hi9_1 hl263_1
    replace p9 := eq_true p9
    replace q9 := eq_true q9
    have p10 : 0 ≤ (x5_1 : Int) := of_decide_eq_true Z5
    have q10 : x5_1 < (l0.length : Int) := of_decide_eq_true Z5
    obtain ⟨ad10, A10_1, c10_1, e10, hx10_0, hx10_1, hl264_1, hi10_1⟩ := at_T53 HR0.out x5_1 p10 q10
    obtain rfl : ad9 = ad10 := (by injection e10)
    have HR10_1 := am hi10_1
    have HC10_1 := am hl264_1
    clear hi10_1 hl264_1
    replace p10 := eq_true p10
    replace q10 := eq_true q10
    have ea_ := Option.some.inj (hx9_1.symm.trans hx10_1)
    injection ea_ with ea_ en_ ec_
    subst ea_
    subst ec_
    clear en_
    go_wp2_with (first | ((with_reducible refine gate_callee (f := 56) rfl ?_); refine gL 27 rfl Try.func56 #[.slice A9_1 ((rd_T53 l0 x5_1).f1).length c9_1, .int .i64 (wrap64 (x1_1 + 1))] ?_; (with_reducible refine (Ft.calls k1 _ _ ((rd_T53 l0 x5_1).f1) (wrap64 (x1_1 + 1)) t8 _ ?side1 ?side2 A6.out).mono ?_); (case side1 => exact Z77); (case side2 => exact HC10_1.out); rintro e w' ⟨rfl, ⟨nd, rfl⟩⟩; refine ⟨_, rfl, ?_⟩))
    go_ret
    exact ⟨Z87, Z12⟩
   rw [if_neg c7] at H
   have c7b0 := decide_eq_false c7
   clear c7
   have H' := am H
   clear H
   have p9 : 0 ≤ (x5_1 : Int) := of_decide_eq_true Z5
   have q9 : x5_1 < (l0.length : Int) := of_decide_eq_true Z5
   obtain ⟨ad9, A9_1, c9_1, e9, hx9_0, hx9_1, hl263_1, hi9_1⟩ := at_T53 HR0.out x5_1 p9 q9
   cases e9
   have HR9_1 := am hi9_1
   have HC9_1 := am hl263_1
   clear hi9_1 hl263_1
   replace p9 := eq_true p9
   replace q9 := eq_true q9
   have p10 : 0 ≤ (x5_1 : Int) := of_decide_eq_true Z5
   have q10 : x5_1 < (l0.length : Int) := of_decide_eq_true Z5
   obtain ⟨ad10, A10_1, c10_1, e10, hx10_0, hx10_1, hl264_1, hi10_1⟩ := at_T53 HR0.out x5_1 p10 q10
   obtain rfl : ad9 = ad10 := (by injection e10)
   have HR10_1 := am hi10_1
   have HC10_1 := am hl264_1
   clear hi10_1 hl264_1
   replace p10 := eq_true p10
   replace q10 := eq_true q10
   have ea_ := Option.some.inj (hx9_1.symm.trans hx10_1)
   injection ea_ with ea_ en_ ec_
   subst ea_
   subst ec_
   clear en_
   go_wp2_with (first | ((with_reducible refine gate_callee (f := 56) rfl ?_); refine gL 27 rfl Try.func56 #[.slice A9_1 ((rd_T53 l0 x5_1).f1).length c9_1, .int .i64 (wrap64 (x1_1 + 1))] ?_; (with_reducible refine (Ft.calls k1 _ _ ((rd_T53 l0 x5_1).f1) (wrap64 (x1_1 + 1)) t8 _ ?side1 ?side2 A6.out).mono ?_); (case side1 => exact Z77); (case side2 => exact HC10_1.out); rintro e w' ⟨rfl, ⟨nd, rfl⟩⟩; refine ⟨_, rfl, ?_⟩))
   go_roundg k1
   case measure => have := HK1.out; omega
   case rel => exact ⟨(t8), (wrap64 (x5_1 + 1)), Z87, Z87, H', ⟨by have := HK1.out; omega⟩, Z12⟩

/-! ### Fs: function 33 -/
def Fs.l0 : Nat → List Bool → Int → Int → Option (Int)
 | 0, _, _, _ => none
 | k + 1, x0, x1, x5 => if x5 < (x0.length : Int) then (if 0 ≤ x5 then (if ((rdOf false x0 x5) != ((Int.tmod x1 3) == 0)) = true then (some (-1)) else (Fs.l0 k x0 (wrap64 (x1 + 1)) (wrap64 (x5 + 1)))) else (none)) else (some x1)
def Fs.f (k : Nat) (l0 : List Bool) (a1 : Int) : Option (Int) := Fs.l0 k l0 a1 0
theorem Fs.mono_l : ∀ k, (∀ y0 y1 y2, LeO (Fs.l0 k y0 y1 y2) (Fs.l0 (k + 1) y0 y1 y2))
 | 0 => fun _ _ _ r h => by simp [Fs.l0] at h | k + 1 => by
  have ih0 := Fs.mono_l k
  ·
   intro y0 y1 y2
   unfold Fs.l0
   exact Mo1
theorem Fs.mono : ∀ a0 a1 k, LeO (Fs.f k a0 a1) (Fs.f (k + 1) a0 a1) := by
 intro a0 a1 k
 have ih0 := Fs.mono_l k
 unfold Fs.f
 exact Mo1
theorem Fs.calls (k : Nat) (A0 : Option Addr) (c0 : Nat) (l0 : List Bool) (a1 : Int) (r : Int) (w : World) (hr0 : Kd.C Kd.bool w A0 l0.length l0) (hc0 : l0.length ≤ c0) (h : Fs.f k l0 a1 = some r) :
  Calls Try.prog 33 #[.slice A0 l0.length c0, .int .i64 a1] w fun e w' => e = .returned (.int .i64 r) ∧ Drawn0 w w' := by
 have HR0 := am hr0
 have HC0 := am hc0
 clear hr0 hc0
 have H : (Fs.l0 k l0 a1 0) = some r := h
 clear h
 have H' := am H
 clear H
 go_enter Try.func33, Try.ntmps33
 go_wp2
 go_loopg [1, 5] k (fun kq v1 v5 w' => ∃ (x1_1 : Int) (x5_1 : Int), v1 = .int .i64 x1_1 ∧ v5 = .int .i64 x5_1 ∧ Aside0 (Fs.l0 kq l0 x1_1 x5_1 = some r) ∧ Aside0 (kq ≤ k) ∧ Drawn0 w w')
 case atStart => exact ⟨(a1), (0), Z87, Z87, H', ⟨Nat.le_refl _⟩, Z12⟩
 case round =>
  clear H'
  try clear p2
  obtain ⟨x1_1, x5_1, rfl, rfl, HA, HK1, ⟨m1, rfl⟩⟩ := hrel
  cases gk with
  | zero => exact absurd HA.out (by simp [Fs.l0])
  | succ k1 =>
   have H := HA.out
   clear HA
   simp only [Fs.l0] at H
   by_cases c3 : x5_1 < (l0.length : Int)
   rotate_left
   ·
    rw [if_neg c3] at H
    have c3b0 := decide_eq_false c3
    clear c3
    obtain rfl := Option.some.inj H
    go_wp2
    go_ret
    exact ⟨Z87, Z12⟩
   rw [if_pos c3] at H
   have c3b0 := decide_eq_true c3
   clear c3
   by_cases c4 : 0 ≤ x5_1
   rotate_left
   ·
    rw [if_neg c4] at H
    exact absurd H Z65
   rw [if_pos c4] at H
   have c4b0 := decide_eq_true c4
   clear c4
   by_cases c5 : ((rdOf false l0 x5_1) != ((Int.tmod x1_1 3) == 0)) = true
   ·
    rw [if_pos c5] at H
    have c5b0 : ((rdOf false l0 x5_1) != ((Int.tmod x1_1 3) == 0)) = true := c5
    (try (have c5b1 : decide ((rdOf false l0 x5_1) = ((Int.tmod x1_1 3) == 0)) = false := by simpa using c5))
    (try (have c5b2 : ((rdOf false l0 x5_1) == ((Int.tmod x1_1 3) == 0)) = false := by simpa using c5))
    (try (have c5b3 : ¬ ((rdOf false l0 x5_1) = ((Int.tmod x1_1 3) == 0)) := by simpa using c5))
    clear c5
    obtain rfl := Option.some.inj H
    have p6 : 0 ≤ (x5_1 : Int) := of_decide_eq_true Z5
    have q6 : x5_1 < (l0.length : Int) := of_decide_eq_true Z5
    obtain ⟨ad6, e6, hx6_0⟩ := Kd.at_bool HR0.out x5_1 p6 q6
    cases e6
    replace p6 := eq_true p6
    replace q6 := eq_true q6
    go_wp2
    go_ret
    exact ⟨Z87, Z12⟩
   rw [if_neg c5] at H
   have c5b0 : ((rdOf false l0 x5_1) != ((Int.tmod x1_1 3) == 0)) = false := by simpa using c5
   (try (have c5b1 : decide ((rdOf false l0 x5_1) = ((Int.tmod x1_1 3) == 0)) = true := by simpa using c5))
   (try (have c5b2 : ((rdOf false l0 x5_1) == ((Int.tmod x1_1 3) == 0)) = true := by simpa using c5))
   clear c5
   have H' := am H
   clear H
   have p6 : 0 ≤ (x5_1 : Int) := of_decide_eq_true Z5
   have q6 : x5_1 < (l0.length : Int) := of_decide_eq_true Z5
   obtain ⟨ad6, e6, hx6_0⟩ := Kd.at_bool HR0.out x5_1 p6 q6
   cases e6
   replace p6 := eq_true p6
   replace q6 := eq_true q6
   go_wp2
   go_roundg k1
   case measure => have := HK1.out; omega
   case rel => exact ⟨(wrap64 (x1_1 + 1)), (wrap64 (x5_1 + 1)), Z87, Z87, H', ⟨by have := HK1.out; omega⟩, Z12⟩

end Go.Proofs.Ytgbpbhplehmedaa.PFnExactJoinSystems
