-- made by wip/tools/myprint.py over the kit's print, for this claim
import Derived.Test.YtgbpbhplehmedaaPFnExactJoinSystemsx0
import Derived.Test.YtgbpbhplehmedaaPFnExactJoinSystemsx9
namespace Go.Proofs.Ytgbpbhplehmedaa.PFnExactJoinSystems
open Go.RowKit Go.Proofs.YtgbpbhplehmedaaW.PrintWords Go.Proofs.YtgbpbhplehmedaaW.PrintLast Go.Proofs.YtgbpbhplehmedaaW.PrintMore
open List (setIfInBounds_toArray set_cons_zero set_cons_succ)
attribute [local go_sem] max2_int min2_int max_two min_two max_three min_three max_four min_four   -- for this text's walks alone
set_option linter.unusedVariables false
set_option linter.unusedSimpArgs false

/-! ### FB: function 11 -/
def FB.f (k : Nat) (a0_0 : Int) (l0_1 : List (S53)) (l0_2 : List Bool) (a1 : Int) : Option (Int) := (Fr.f k l0_1 a1).bind fun t3 => (if t3 < 0 then (some (-1)) else ((Fs.f k l0_2 t3).bind fun t4 => (if t4 < 0 then (some (-1)) else (some t4))))
theorem FB.mono : ∀ a0 a1 a2 a3 k, LeO (FB.f k a0 a1 a2 a3) (FB.f (k + 1) a0 a1 a2 a3) := by
 intro a0 a1 a2 a3 k
 unfold FB.f
 repeat' first
   | with_reducible first | exact Fr.mono .. | exact Fs.mono .. | exact LeO.refl _ | exact LeO.none _ | refine LeO.ite ?_ ?_ | refine LeO.bind ?_ (fun _ => ?_)
   | exact Fr.mono .. | exact Fs.mono .. | exact LeO.none _ | refine LeO.ite ?_ ?_ | refine LeO.bind ?_ (fun _ => ?_)
set_option maxHeartbeats 8000000 in
set_option maxRecDepth 100000 in
theorem FB.calls (k : Nat) (a0_0 : Int) (A0_1 : Option Addr) (c0_1 : Nat) (l0_1 : List (S53)) (A0_2 : Option Addr) (c0_2 : Nat) (l0_2 : List Bool) (a1 : Int) (r : Int) (w : World) (hr0_1 : Kd.C k53 w A0_1 l0_1.length l0_1) (hc0_1 : l0_1.length ≤ c0_1) (hr0_2 : Kd.C Kd.bool w A0_2 l0_2.length l0_2) (hc0_2 : l0_2.length ≤ c0_2) (h : FB.f k a0_0 l0_1 l0_2 a1 = some r) :
  Calls Try.prog 11 #[.agg #[.int .i64 a0_0, .slice A0_1 l0_1.length c0_1, .slice A0_2 l0_2.length c0_2], .int .i64 a1] w fun e w' => e = .returned (.int .i64 r) ∧ Below w.heap.size w w' := by
 have hu29 := Try.underlying29
 have HR0_1 := am hr0_1
 have HC0_1 := am hc0_1
 clear hr0_1 hc0_1
 have HR0_2 := am hr0_2
 have HC0_2 := am hc0_2
 clear hr0_2 hc0_2
 have HB := am (Below.refl w.heap.size w)
 have H : ((Fr.f k l0_1 a1).bind fun t13 => (if t13 < 0 then (some (-1)) else ((Fs.f k l0_2 t13).bind fun t14 => (if t14 < 0 then (some (-1)) else (some t14))))) = some r := h
 clear h
 replace H := Option.bind_eq_some_iff.mp H
 obtain ⟨t13, A30, H⟩ := H
 try dsimp only at H
 have A3 := am A30
 clear A30
 by_cases c4 : t13 < 0
 ·
  rw [if_pos c4] at H
  have c4b0 := decide_eq_true c4
  clear c4
  obtain rfl := Option.some.inj H
  go_enter Try.func11, Try.ntmps11
  go_wp2_with (first | ((with_reducible refine gate_dst (N := 2) rfl ?_); refine box_event ?hg (N := 2) ?hd (cs := #[.int .i64 a0_0, .slice A0_1 l0_1.length c0_1, .slice A0_2 l0_2.length c0_2]) (t := 29) ?hr ?_; (case hd => rfl); (case hg => rfl); (case hr => exact Z88); intro gb15 hg w5 hbox hb; have BK15 := am (hbox); have GW15 := nG HB hg; have GE15 := nG HB hg; have GI15 := gI GE15; replace HB := am (below_step (uN HB) hb); clear hb hbox hg; obtain ⟨hcz6_0, hcz6_1, hcz6_2, hfz6_0, hfz6_1, hfz6_2⟩ := ce3 BK15) | ((with_reducible refine gate_callee (f := 32) rfl ?_); refine gL 8 rfl Try.func32 #[.slice A0_1 l0_1.length c0_1, .int .i64 a1] ?_; (with_reducible refine (Fr.calls k _ _ l0_1 a1 t13 _ ?side1 ?side2 A3.out).mono ?_); (case side1 => exact uC HR0_1 HB); (case side2 => exact HC0_1.out); rintro e w' ⟨rfl, ⟨nd, rfl⟩⟩; refine ⟨_, rfl, ?_⟩))
  go_ret
  exact ⟨Z86, Z14⟩
 rw [if_neg c4] at H
 have c4b0 := decide_eq_false c4
 clear c4
 replace H := Option.bind_eq_some_iff.mp H
 obtain ⟨t14, A70, H⟩ := H
 try dsimp only at H
 have A7 := am A70
 clear A70
 by_cases c8 : t14 < 0
 ·
  rw [if_pos c8] at H
  have c8b0 := decide_eq_true c8
  clear c8
  obtain rfl := Option.some.inj H
  go_enter Try.func11, Try.ntmps11
  go_wp2_with (first | ((with_reducible refine gate_dst (N := 2) rfl ?_); refine box_event ?hg (N := 2) ?hd (cs := #[.int .i64 a0_0, .slice A0_1 l0_1.length c0_1, .slice A0_2 l0_2.length c0_2]) (t := 29) ?hr ?_; (case hd => rfl); (case hg => rfl); (case hr => exact Z88); intro gb15 hg w9 hbox hb; have BK15 := am (hbox); have GW15 := nG HB hg; have GE15 := nG HB hg; have GI15 := gI GE15; replace HB := am (below_step (uN HB) hb); clear hb hbox hg; obtain ⟨hcz10_0, hcz10_1, hcz10_2, hfz10_0, hfz10_1, hfz10_2⟩ := ce3 BK15) | ((with_reducible refine gate_callee (f := 32) rfl ?_); refine gL 8 rfl Try.func32 #[.slice A0_1 l0_1.length c0_1, .int .i64 a1] ?_; (with_reducible refine (Fr.calls k _ _ l0_1 a1 t13 _ ?side1 ?side2 A3.out).mono ?_); (case side1 => exact uC HR0_1 HB); (case side2 => exact HC0_1.out); rintro e w' ⟨rfl, ⟨nd, rfl⟩⟩; refine ⟨_, rfl, ?_⟩) | ((with_reducible refine gate_callee (f := 33) rfl ?_); refine gL 14 rfl Try.func33 #[.slice A0_2 l0_2.length c0_2, .int .i64 t13] ?_; (with_reducible refine (Fs.calls k _ _ l0_2 t13 t14 _ ?side1 ?side2 A7.out).mono ?_); (case side1 => exact Z94); (case side2 => exact HC0_2.out); rintro e w' ⟨rfl, ⟨nd, rfl⟩⟩; refine ⟨_, rfl, ?_⟩))
  go_ret
  exact ⟨Z86, Z14⟩
 rw [if_neg c8] at H
 have c8b0 := decide_eq_false c8
 clear c8
 obtain rfl := Option.some.inj H
 go_enter Try.func11, Try.ntmps11
 go_wp2_with (first | ((with_reducible refine gate_dst (N := 2) rfl ?_); refine box_event ?hg (N := 2) ?hd (cs := #[.int .i64 a0_0, .slice A0_1 l0_1.length c0_1, .slice A0_2 l0_2.length c0_2]) (t := 29) ?hr ?_; (case hd => rfl); (case hg => rfl); (case hr => exact Z88); intro gb15 hg w11 hbox hb; have BK15 := am (hbox); have GW15 := nG HB hg; have GE15 := nG HB hg; have GI15 := gI GE15; replace HB := am (below_step (uN HB) hb); clear hb hbox hg; obtain ⟨hcz12_0, hcz12_1, hcz12_2, hfz12_0, hfz12_1, hfz12_2⟩ := ce3 BK15) | ((with_reducible refine gate_callee (f := 32) rfl ?_); refine gL 8 rfl Try.func32 #[.slice A0_1 l0_1.length c0_1, .int .i64 a1] ?_; (with_reducible refine (Fr.calls k _ _ l0_1 a1 t13 _ ?side1 ?side2 A3.out).mono ?_); (case side1 => exact uC HR0_1 HB); (case side2 => exact HC0_1.out); rintro e w' ⟨rfl, ⟨nd, rfl⟩⟩; refine ⟨_, rfl, ?_⟩) | ((with_reducible refine gate_callee (f := 33) rfl ?_); refine gL 14 rfl Try.func33 #[.slice A0_2 l0_2.length c0_2, .int .i64 t13] ?_; (with_reducible refine (Fs.calls k _ _ l0_2 t13 t14 _ ?side1 ?side2 A7.out).mono ?_); (case side1 => exact Z94); (case side2 => exact HC0_2.out); rintro e w' ⟨rfl, ⟨nd, rfl⟩⟩; refine ⟨_, rfl, ?_⟩))
 go_ret
 exact ⟨Z86, Z14⟩

end Go.Proofs.Ytgbpbhplehmedaa.PFnExactJoinSystems
