-- made by wip/tools/myprint.py over the kit's print, for this claim
import Derived.Test.YtllaofiopnhdgaaPFnSparsePartsx0
import Derived.Test.YtllaofiopnhdgaaPFnSparsePartsx1
import Derived.Test.YtllaofiopnhdgaaPFnSparsePartsx3
import Derived.Test.YtllaofiopnhdgaaPFnSparsePartsx5
namespace Go.Proofs.Ytllaofiopnhdgaa.PFnSparseParts
open Go.RowKit Go.Proofs.YtllaofiopnhdgaaW.PrintWords Go.Proofs.YtllaofiopnhdgaaW.PrintLast Go.Proofs.YtllaofiopnhdgaaW.PrintMore
open List (setIfInBounds_toArray set_cons_zero set_cons_succ)
attribute [local go_sem] max2_int min2_int max_two min_two max_three min_three max_four min_four   -- for this text's walks alone
set_option linter.unusedVariables false
set_option linter.unusedSimpArgs false

set_option maxHeartbeats 8000000
set_option maxRecDepth 100000
/-! ### FN: function 34 -/
def FN.f (k : Nat) (a0_0 : Int) (a0_1 : Int) (a0_2 : Int) (a0_3 : Int) (l0_4 : List Int) (a0_5 : Int) (l0_6 : List Int) (a1_0 : Int) (a1_1 : Int) (a1_2 : Int) (a1_3 : Int) (l1_4 : List Int) (a1_5 : Int) (l1_6 : List Int) : Option (List Int × List Int × Bool) := (Fa.f k a0_0 a0_1 a0_2 a0_3 l0_4 a0_5 l0_6).bind fun bt7 => ((Fa.f k a1_0 a1_1 a1_2 a1_3 l1_4 a1_5 l1_6).bind fun bt8 => (if bt7.2 = true then (some (bt7.1, bt8.1, bt8.2)) else (some (bt7.1, bt8.1, false))))
theorem FN.mono : ∀ a0 a1 a2 a3 a4 a5 a6 a7 a8 a9 a10 a11 a12 a13 k, LeO (FN.f k a0 a1 a2 a3 a4 a5 a6 a7 a8 a9 a10 a11 a12 a13) (FN.f (k + 1) a0 a1 a2 a3 a4 a5 a6 a7 a8 a9 a10 a11 a12 a13) := by
 intro a0 a1 a2 a3 a4 a5 a6 a7 a8 a9 a10 a11 a12 a13 k
 unfold FN.f
 exact Mo13
theorem FN.calls (k : Nat) (a0_0 : Int) (a0_1 : Int) (a0_2 : Int) (a0_3 : Int) (A0_4 : Option Addr) (c0_4 : Nat) (l0_4 : List Int) (a0_5 : Int) (A0_6 : Option Addr) (c0_6 : Nat) (l0_6 : List Int) (a1_0 : Int) (a1_1 : Int) (a1_2 : Int) (a1_3 : Int) (A1_4 : Option Addr) (c1_4 : Nat) (l1_4 : List Int) (a1_5 : Int) (A1_6 : Option Addr) (c1_6 : Nat) (l1_6 : List Int) (r1 : List Int) (r2 : List Int) (r3 : Bool) (w : World) (hr0_4 : Kd.C (Kd.int .i64) w A0_4 l0_4.length l0_4) (hc0_4 : l0_4.length ≤ c0_4) (hr0_6 : Kd.C (Kd.int .i64) w A0_6 l0_6.length l0_6) (hc0_6 : l0_6.length ≤ c0_6) (hr1_4 : Kd.C (Kd.int .i64) w A1_4 l1_4.length l1_4) (hc1_4 : l1_4.length ≤ c1_4) (hr1_6 : Kd.C (Kd.int .i64) w A1_6 l1_6.length l1_6) (hc1_6 : l1_6.length ≤ c1_6) (h : FN.f k a0_0 a0_1 a0_2 a0_3 l0_4 a0_5 l0_6 a1_0 a1_1 a1_2 a1_3 l1_4 a1_5 l1_6 = some (r1, r2, r3)) :
  Calls Try.prog 34 #[.agg #[.int .i64 a0_0, .int .i64 a0_1, .int .i64 a0_2, .int .i64 a0_3, .slice A0_4 l0_4.length c0_4, .int .i64 a0_5, .slice A0_6 l0_6.length c0_6], .agg #[.int .i64 a1_0, .int .i64 a1_1, .int .i64 a1_2, .int .i64 a1_3, .slice A1_4 l1_4.length c1_4, .int .i64 a1_5, .slice A1_6 l1_6.length c1_6]] w fun e w' => ∃ v0_ v1_ : Value, e = .returned (.tuple #[v0_, v1_, .bool r3]) ∧ Kd.R (Kd.int .i64) 3 w' w.heap.size (fun k_ => some k_ ≠ (v1_ : Value).ownBlock) v0_ r1 ∧ Kd.R (Kd.int .i64) 3 w' w.heap.size (fun k_ => some k_ ≠ (v0_ : Value).ownBlock) v1_ r2 ∧ Below w.heap.size w w' := by
 have hu28 := Try.underlying28
 have HR0_4 := am hr0_4
 have HC0_4 := am hc0_4
 clear hr0_4 hc0_4
 have HR0_6 := am hr0_6
 have HC0_6 := am hc0_6
 clear hr0_6 hc0_6
 have HR1_4 := am hr1_4
 have HC1_4 := am hc1_4
 clear hr1_4 hc1_4
 have HR1_6 := am hr1_6
 have HC1_6 := am hc1_6
 clear hr1_6 hc1_6
 have HB := am (Below.refl w.heap.size w)
 have H : ((Fa.f k a0_0 a0_1 a0_2 a0_3 l0_4 a0_5 l0_6).bind fun bt14 => ((Fa.f k a1_0 a1_1 a1_2 a1_3 l1_4 a1_5 l1_6).bind fun bt15 => (if bt14.2 = true then (some (bt14.1, bt15.1, bt15.2)) else (some (bt14.1, bt15.1, false))))) = some (r1, r2, r3) := h
 clear h
 replace H := Option.bind_eq_some_iff.mp H
 obtain ⟨⟨t14, t16⟩, A30, H⟩ := H
 try dsimp only at H
 have A3 := am A30
 clear A30
 replace H := Option.bind_eq_some_iff.mp H
 obtain ⟨⟨t15, t17⟩, A40, H⟩ := H
 try dsimp only at H
 have A4 := am A40
 clear A40
 by_cases c5 : t16 = true
 ·
  subst c5
  rw [if_pos rfl] at H
  simp only [Option.some.injEq, Prod.mk.injEq] at H
  obtain ⟨rfl, rfl, rfl⟩ := H
  go_enter Try.func34, Try.ntmps34
  go_wp2_with (first | ((with_reducible refine gate_dst (N := 2) rfl ?_); refine box_event ?hg (N := 2) ?hd (cs := #[.int .i64 a0_0, .int .i64 a0_1, .int .i64 a0_2, .int .i64 a0_3, .slice A0_4 l0_4.length c0_4, .int .i64 a0_5, .slice A0_6 l0_6.length c0_6]) (t := 28) ?hr ?_; (case hd => rfl); (case hg => rfl); (case hr => exact Z111); intro gb18 hg w6 hbox hb; have BK18 := am (hbox); have GW18 := nG HB hg; have GE18 := nG HB hg; have GI18 := gI GE18; replace HB := am (below_step (uN HB) hb); clear hb hbox hg) | ((with_reducible refine gate_dst (N := 3) rfl ?_); refine box_event ?hg (N := 3) ?hd (cs := #[.int .i64 a1_0, .int .i64 a1_1, .int .i64 a1_2, .int .i64 a1_3, .slice A1_4 l1_4.length c1_4, .int .i64 a1_5, .slice A1_6 l1_6.length c1_6]) (t := 28) ?hr ?_; (case hd => rfl); (case hg => rfl); (case hr => exact Z111); intro gb19 hg w7 hbox hb; have BK19 := am (hbox); have GW19 := am ((by rw [hg]; exact (below_size Z54) : w.heap.size ≤ gb19)); have GE19 := am ((by rw [hg]; exact (below_size Z54) : w.heap.size ≤ gb19)); replace HB := am (below_step Z54 hb); have NB18_19 := nL BK18 hg; have NB19_18 := nR BK18 hg; replace BK18 := kB BK18 hb; clear hb hbox hg) | ((with_reducible refine gate_callee (f := 22) rfl ?_); refine goesL_ (some 12) rfl rfl Try.func22 Z112 rfl #[.pointer (some ⟨gb18, 0, none⟩)] rfl Z140 ?_; (with_reducible refine (Fa.calls k gb18 a0_0 a0_1 a0_2 a0_3 A0_4 c0_4 l0_4 a0_5 A0_6 c0_6 l0_6 t14 true _ ?side1 ?side2 ?side3 ?side4 ?side5 A3.out).mono ?_); (case side1 => exact (uK BK18)); (case side2 => exact uC HR0_4 HB); (case side3 => exact HC0_4.out); (case side4 => exact uC HR0_6 HB); (case side5 => exact HC0_6.out); rintro e w8 ⟨v20, rfl, ho0, hb⟩; refine ⟨_, rfl, ?_⟩; have HO21 := am (Kd.R_lower ho0 (below_size Z32)); replace BK18 := kB BK18 hb; replace BK19 := kB BK19 hb; replace HB := am (below_step Z32 hb); (try clear hb); (try clear hb2); (try clear hk); (try clear hi); (try clear ho0)) | ((with_reducible refine gate_callee (f := 22) rfl ?_); refine goesL_ (some 16) rfl rfl Try.func22 Z112 rfl #[.pointer (some ⟨gb19, 0, none⟩)] rfl Z140 ?_; (with_reducible refine (Fa.calls k gb19 a1_0 a1_1 a1_2 a1_3 A1_4 c1_4 l1_4 a1_5 A1_6 c1_6 l1_6 t15 t17 _ ?side1 ?side2 ?side3 ?side4 ?side5 A4.out).mono ?_); (case side1 => exact (uK BK19)); (case side2 => exact uC HR1_4 HB); (case side3 => exact HC1_4.out); (case side4 => exact uC HR1_6 HB); (case side5 => exact HC1_6.out); rintro e w9 ⟨v23, rfl, ho0, hb⟩; refine ⟨_, rfl, ?_⟩; have HO24 := am (Kd.R_lower (Kd.R_new' ho0 (Kd.R_lt (uR HO21))) (below_size Z32)); replace HO21 := am (Kd.R_elder' (uR HO21) (Kd.R_base ho0) hb); replace BK18 := kB BK18 hb; replace BK19 := kB BK19 hb; replace HB := am (below_step Z32 hb); (try clear hb); (try clear hb2); (try clear hk); (try clear hi); (try clear ho0)))
  go_ret3
  exact ⟨_, _, Z109, Z89, Z88, Z32⟩
 replace c5 := Bool.eq_false_iff.mpr c5
 subst c5
 rw [if_neg (show ¬ (false = true) from Z16)] at H
 simp only [Option.some.injEq, Prod.mk.injEq] at H
 obtain ⟨rfl, rfl, rfl⟩ := H
 go_enter Try.func34, Try.ntmps34
 go_wp2_with (first | ((with_reducible refine gate_dst (N := 2) rfl ?_); refine box_event ?hg (N := 2) ?hd (cs := #[.int .i64 a0_0, .int .i64 a0_1, .int .i64 a0_2, .int .i64 a0_3, .slice A0_4 l0_4.length c0_4, .int .i64 a0_5, .slice A0_6 l0_6.length c0_6]) (t := 28) ?hr ?_; (case hd => rfl); (case hg => rfl); (case hr => exact Z111); intro gb18 hg w10 hbox hb; have BK18 := am (hbox); have GW18 := nG HB hg; have GE18 := nG HB hg; have GI18 := gI GE18; replace HB := am (below_step (uN HB) hb); clear hb hbox hg) | ((with_reducible refine gate_dst (N := 3) rfl ?_); refine box_event ?hg (N := 3) ?hd (cs := #[.int .i64 a1_0, .int .i64 a1_1, .int .i64 a1_2, .int .i64 a1_3, .slice A1_4 l1_4.length c1_4, .int .i64 a1_5, .slice A1_6 l1_6.length c1_6]) (t := 28) ?hr ?_; (case hd => rfl); (case hg => rfl); (case hr => exact Z111); intro gb19 hg w11 hbox hb; have BK19 := am (hbox); have GW19 := am ((by rw [hg]; exact (below_size Z54) : w.heap.size ≤ gb19)); have GE19 := am ((by rw [hg]; exact (below_size Z54) : w.heap.size ≤ gb19)); replace HB := am (below_step Z54 hb); have NB18_19 := nL BK18 hg; have NB19_18 := nR BK18 hg; replace BK18 := kB BK18 hb; clear hb hbox hg) | ((with_reducible refine gate_callee (f := 22) rfl ?_); refine goesL_ (some 12) rfl rfl Try.func22 Z112 rfl #[.pointer (some ⟨gb18, 0, none⟩)] rfl Z140 ?_; (with_reducible refine (Fa.calls k gb18 a0_0 a0_1 a0_2 a0_3 A0_4 c0_4 l0_4 a0_5 A0_6 c0_6 l0_6 t14 false _ ?side1 ?side2 ?side3 ?side4 ?side5 A3.out).mono ?_); (case side1 => exact (uK BK18)); (case side2 => exact uC HR0_4 HB); (case side3 => exact HC0_4.out); (case side4 => exact uC HR0_6 HB); (case side5 => exact HC0_6.out); rintro e w12 ⟨v20, rfl, ho0, hb⟩; refine ⟨_, rfl, ?_⟩; have HO21 := am (Kd.R_lower ho0 (below_size Z32)); replace BK18 := kB BK18 hb; replace BK19 := kB BK19 hb; replace HB := am (below_step Z32 hb); (try clear hb); (try clear hb2); (try clear hk); (try clear hi); (try clear ho0)) | ((with_reducible refine gate_callee (f := 22) rfl ?_); refine goesL_ (some 16) rfl rfl Try.func22 Z112 rfl #[.pointer (some ⟨gb19, 0, none⟩)] rfl Z140 ?_; (with_reducible refine (Fa.calls k gb19 a1_0 a1_1 a1_2 a1_3 A1_4 c1_4 l1_4 a1_5 A1_6 c1_6 l1_6 t15 t17 _ ?side1 ?side2 ?side3 ?side4 ?side5 A4.out).mono ?_); (case side1 => exact (uK BK19)); (case side2 => exact uC HR1_4 HB); (case side3 => exact HC1_4.out); (case side4 => exact uC HR1_6 HB); (case side5 => exact HC1_6.out); rintro e w13 ⟨v23, rfl, ho0, hb⟩; refine ⟨_, rfl, ?_⟩; have HO24 := am (Kd.R_lower (Kd.R_new' ho0 (Kd.R_lt (uR HO21))) (below_size Z32)); replace HO21 := am (Kd.R_elder' (uR HO21) (Kd.R_base ho0) hb); replace BK18 := kB BK18 hb; replace BK19 := kB BK19 hb; replace HB := am (below_step Z32 hb); (try clear hb); (try clear hb2); (try clear hk); (try clear hi); (try clear ho0)))
 go_ret3
 exact ⟨_, _, Z109, Z89, Z88, Z32⟩

/-! ### Fka: function 35 -/
theorem Fva.rFK {α : Type} {d : Kd α} {e e' base : Nat} {ok : Nat → Prop} {W : World} {v : Value} {xs : List α} (h : d.R e W base ok v xs) : Kd.FK (Kd.slice e' d) W ok xs [v] := by
  obtain ⟨A, c, rfl⟩ := Kd.R_slice h
  exact Kd.FK_slice_mk (Kd.R_reads' h).2.1 (Kd.R_F h)
def Fka.f (l0 : List (List Int)) : Option (List Int) := if l0.flatten.length < 1000000 ∧ l0.length < 1000000 then some l0.flatten else none
shelf_lay_g Lays8.n4 Nm8 4 at Try 68 as growLays_int
theorem FRa.calls (n : Nat) (hn : n < 1000000) (w0 w : World) (hB : Below w0.heap.size w0 w) : Calls Try.prog 68 #[.slice none 0 0, .int .i64 (n : Int)] w fun e w' => ∃ v0_ : Value, e = .returned v0_ ∧ Kd.R (Kd.int .i64) 3 w' w0.heap.size (fun _ => True) v0_ [] ∧ Below w0.heap.size w0 w' := by
  obtain ⟨i0, hi0, hz⟩ := Option.map_eq_some_iff.mp (show (Try.prog.info? 3).map (fun i => (i.zero, i.size, i.bytes)) = some (some (.int .i64 0), 1, 8) from Z112)
  exact Go.Proofs.Ytllaofiopnhdgaa.Grows.grow_none growLays_int (Kd.int .i64) i0 _ hi0 (by simpa using congrArg Prod.fst hz) (by have := congrArg (fun z => z.2.1) hz; exact this) (by have := congrArg (fun z => z.2.2) hz; simp at this; omega) rfl n Z70 w0 w hB
theorem Fka.calls (A0 : Option Addr) (c0 : Nat) (l0 : List (List Int)) (r : List Int) (w : World) (hr0 : Kd.C (Kd.slice 3 (Kd.int .i64)) w A0 l0.length l0) (hc0 : l0.length ≤ c0) (h : Fka.f l0 = some r) :
    Calls Try.prog 35 #[.slice A0 l0.length c0] w fun e w' => ∃ v0_ : Value, e = .returned (v0_) ∧ Kd.R (Kd.int .i64) 3 w' w.heap.size (fun _ => True) v0_ r ∧ Below w.heap.size w w' := by
  unfold Fka.f at h
  by_cases c : l0.flatten.length < 1000000 ∧ l0.length < 1000000
  case neg => rw [if_neg c] at h; cases h
  rw [if_pos c] at h
  have hN := c.2
  replace c := c.1
  obtain rfl := Option.some.inj h
  have HR0 := am hr0
  have HT := am c
  obtain ⟨tot, h0, hstep, hend, hle⟩ : ∃ tot : Nat → Nat, tot 0 = 0 ∧ (∀ n (h : n < l0.length), tot (n + 1) = tot n + l0[n].length) ∧ tot l0.length < 1000000 ∧ ∀ n, tot n ≤ tot l0.length :=
    ⟨fun n => (l0.take n).flatten.length, rfl, fun n h => Go.Proofs.Ytllaofiopnhdgaa.Grows.take_flat l0 n h, by show (l0.take l0.length).flatten.length < 1000000; rw [List.take_length]; exact c, fun n => by show (l0.take n).flatten.length ≤ (l0.take l0.length).flatten.length; rw [List.take_length]; exact Go.Proofs.Ytllaofiopnhdgaa.Grows.take_flat_le l0 n⟩
  have H0 := am h0
  have HS := am hstep
  have HE := am hend
  have HL := am hle
  clear h hr0 c hc0 h0 hstep hend hle
  have HB0 := am (Below.refl w.heap.size w)
  go_enter Try.func35, Try.ntmps35
  go_wp2
  go_loopw [3, 11] (fun sz i wr => ∃ n : Nat, Aside0 (n ≤ l0.length) ∧ sz = .int .i64 ((tot n : Nat) : Int) ∧ i = .int .i64 (n : Int) ∧ Aside0 (Below w.heap.size w wr)) (fun _ i _ => l0.length - (intOf i).toNat)
  case atStart => exact ⟨0, ⟨Nat.zero_le _⟩, by rw [H0.out]; rfl, rfl, HB0⟩
  case round =>
    obtain ⟨n, hn, rfl, rfl, hB⟩ := hrel
    by_cases c : n < l0.length
    · obtain ⟨ad, A', c', eA, hx, hl', hC⟩ := Go.Proofs.Ytllaofiopnhdgaa.Grows.at_rows HR0.out n c
      cases eA
      replace hx := (hB.out.cell (World.block_lt_of_cell? w _ hx)).trans hx
      clear hC hl'
      have e1 := HS.out n c
      have e2 := HL.out (n + 1)
      have e3 := HE.out
      have hs : wrap64 (((tot n : Nat) : Int) + ((l0[n].length : Nat) : Int)) = ((tot (n + 1) : Nat) : Int) := Go.Proofs.Ytllaofiopnhdgaa.Grows.add_w e1 Z70
      have c1 : decide (((tot (n + 1) : Nat) : Int) < 0) = false := decide_eq_false Z70
      have c2 := eq_true c
      clear e1 e2 e3
      generalize l0[n].length = q at *
      go_wp2
      go_roundw
      case rel => exact ⟨n + 1, ⟨c⟩, congrArg (Value.int .i64) hs, by go_num, hB⟩
      case measure => simp [intOf]; omega
    · obtain rfl : n = l0.length := by have := hn.out; omega
      have c3 := eq_false c
      clear c
      go_wp2_with (go_at_call 68; refine (FRa.calls (tot l0.length) HE.out w _ hB.out).mono ?_; rintro e w1 ⟨v, rfl, ho, hb⟩; have HO := am ho; have HB1 := am hb; clear ho hb)
      clear hB hn
      go_loopw [6, 27] (fun v i wr => ∃ n : Nat, Aside0 (n ≤ l0.length) ∧ i = .int .i64 (n : Int) ∧ Aside0 (Kd.R (Kd.int .i64) 3 wr w.heap.size (fun _ => True) v (l0.take n).flatten) ∧ Aside0 (Below w.heap.size w wr)) (fun _ i _ => l0.length - (intOf i).toNat)
      case atStart => exact ⟨0, ⟨Nat.zero_le _⟩, rfl, ⟨HO.out⟩, HB1⟩
      case round =>
        obtain ⟨n, hn, rfl, HV, HB2⟩ := hrel
        by_cases c : n < l0.length
        · obtain ⟨ad, A', c', eA, hx, hl', hC⟩ := Go.Proofs.Ytllaofiopnhdgaa.Grows.at_rows HR0.out n c
          cases eA
          replace hx := (HB2.out.cell (World.block_lt_of_cell? w _ hx)).trans hx
          have HC := am (Kd.C_below hC HB2.out)
          have HLen := am (Go.Proofs.Ytllaofiopnhdgaa.Grows.flat_fits l0 n c HT.out 8)
          have HF := am (Go.Proofs.Ytllaofiopnhdgaa.Grows.take_flat_eq l0 n c)
          have c2 := eq_true c
          clear hC hl'
          rename_i v
          generalize l0[n] = row at *
          generalize (l0.take n).flatten = xs at *
          go_wp2_with ((with_reducible refine gate_builtin (b := .append) (xs := #[.tmp 31, .tmp 32]) rfl ?_); at_builtin; refine Kd.R_append_rows (Kd.int .i64) (w0 := w) w.heap.size rfl (.tmp 31) (.tmp 32) 24 3 (.int .i64 0) 8 rfl Try.underlying24 info3 rfl Z16 Z70 _ xs row A' _ c' (fun _ => True) (fun _ => False) rfl rfl ?aO ?aR (fun _ _ h => h) (fun _ h => h.elim) ?aF ?aB ?aS ?aL ?_; (case aO => exact HV.out); (case aR => exact HC.out); (case aF => exact (fun _ _ => trivial)); (case aB => exact HB2.out); (case aS => exact HB2.out.size); (case aL => exact HLen.out); intro v1 w5 ho hb hg hat; have HV1 := am ho; have HB3 := am hb; clear ho hb hg hat)
          go_roundw
          case rel => exact ⟨n + 1, ⟨c⟩, by go_num, ⟨by rw [HF.out]; exact HV1.out⟩, HB3⟩
          case measure => simp [intOf]; omega
        · obtain rfl : n = l0.length := by have := hn.out; omega
          have c4 := eq_false c
          clear c
          go_wp2
          go_ret
          exact ⟨_, rfl, by have := HV.out; rw [List.take_length] at this; exact this, HB2.out⟩


/-! ### Fla: function 36 -/
shelf_lay Lays.n189 Nm 189 at Try as sortLaysI
def Fla.f (l0 : List Int) : Option (List Int) := if l0.length < 4611686018427387904 then some (l0.mergeSort fun x y => decide (x ≤ y)) else none
theorem Fla.calls (P0_ : Nat → Prop) (u2_ : Value) (l0 : List Int) (r1 : List Int) (w0 w : World) (hB : Below w0.heap.size w0 w) (ho0 : Kd.R (Kd.int .i64) 3 w w0.heap.size P0_ u2_ l0) (h : Fla.f l0 = some r1) :
    Calls Try.prog 36 #[u2_] w fun e w' => e = .returned (.tuple #[]) ∧ Kd.R (Kd.int .i64) 3 w' w0.heap.size (fun k_ => (P0_ k_ ∨ w.heap.size ≤ k_)) u2_ r1 ∧ Below w0.heap.size w0 w' ∧ Kept w w' (fun k_ => P0_ k_) := by
  unfold Fla.f at h
  by_cases c : l0.length < 4611686018427387904
  · rw [if_pos c] at h
    obtain rfl := Option.some.inj h
    exact Go.Proofs.Ytllaofiopnhdgaa.SortsI.sort_rowI sortLaysI 3 P0_ u2_ l0 w0 w hB ho0 c
  · rw [if_neg c] at h
    cases h


/-! ### FZ: function 16 -/
def FZ.f (k : Nat) (a0_0 : Int) (a0_1 : Int) (a0_2 : Int) (a0_3 : Int) (l0_4 : List Int) (a0_5 : Int) (l0_6 : List Int) (a1_0 : Int) (a1_1 : Int) (a1_2 : Int) (a1_3 : Int) (l1_4 : List Int) (a1_5 : Int) (l1_6 : List Int) : Option (Int × Int × Int × Int × List Int × Int × List Int × Bool) := (FN.f k a0_0 a0_1 a0_2 a0_3 l0_4 a0_5 l0_6 a1_0 a1_1 a1_2 a1_3 l1_4 a1_5 l1_6).bind fun bt7 => ((Fka.f (([bt7.1, bt7.2.1] : List (List Int)))).bind fun t8 => ((Fla.f t8).bind fun t9 => (if bt7.2.2 = true then (if (t8.length : Int) > 60 then (some (0, 0, 0, 0, ([] : List Int), 0, ([] : List Int), false)) else ((Fi.f k t9 (mx a0_1 a1_1)).bind fun bt10 => (some (bt10.1, bt10.2.1, bt10.2.2.1, bt10.2.2.2.1, bt10.2.2.2.2.1, bt10.2.2.2.2.2.1, bt10.2.2.2.2.2.2, true)))) else (some (0, 0, 0, 0, ([] : List Int), 0, ([] : List Int), false)))))
theorem FZ.mono : ∀ a0 a1 a2 a3 a4 a5 a6 a7 a8 a9 a10 a11 a12 a13 k, LeO (FZ.f k a0 a1 a2 a3 a4 a5 a6 a7 a8 a9 a10 a11 a12 a13) (FZ.f (k + 1) a0 a1 a2 a3 a4 a5 a6 a7 a8 a9 a10 a11 a12 a13) := by
 intro a0 a1 a2 a3 a4 a5 a6 a7 a8 a9 a10 a11 a12 a13 k
 unfold FZ.f
 repeat' first
   | with_reducible first | exact Fi.mono .. | exact FN.mono .. | exact LeO.refl _ | exact LeO.none _ | refine LeO.ite ?_ ?_ | refine LeO.bind ?_ (fun _ => ?_)
   | exact Fi.mono .. | exact FN.mono .. | exact LeO.none _ | refine LeO.ite ?_ ?_ | refine LeO.bind ?_ (fun _ => ?_)
theorem FZ.calls (k : Nat) (a0_0 : Int) (a0_1 : Int) (a0_2 : Int) (a0_3 : Int) (A0_4 : Option Addr) (c0_4 : Nat) (l0_4 : List Int) (a0_5 : Int) (A0_6 : Option Addr) (c0_6 : Nat) (l0_6 : List Int) (a1_0 : Int) (a1_1 : Int) (a1_2 : Int) (a1_3 : Int) (A1_4 : Option Addr) (c1_4 : Nat) (l1_4 : List Int) (a1_5 : Int) (A1_6 : Option Addr) (c1_6 : Nat) (l1_6 : List Int) (r1 : Int) (r2 : Int) (r3 : Int) (r4 : Int) (r5 : List Int) (r6 : Int) (r7 : List Int) (r8 : Bool) (w : World) (hr0_4 : Kd.C (Kd.int .i64) w A0_4 l0_4.length l0_4) (hc0_4 : l0_4.length ≤ c0_4) (hr0_6 : Kd.C (Kd.int .i64) w A0_6 l0_6.length l0_6) (hc0_6 : l0_6.length ≤ c0_6) (hr1_4 : Kd.C (Kd.int .i64) w A1_4 l1_4.length l1_4) (hc1_4 : l1_4.length ≤ c1_4) (hr1_6 : Kd.C (Kd.int .i64) w A1_6 l1_6.length l1_6) (hc1_6 : l1_6.length ≤ c1_6) (h : FZ.f k a0_0 a0_1 a0_2 a0_3 l0_4 a0_5 l0_6 a1_0 a1_1 a1_2 a1_3 l1_4 a1_5 l1_6 = some (r1, r2, r3, r4, r5, r6, r7, r8)) :
  Calls Try.prog 16 #[.agg #[.int .i64 a0_0, .int .i64 a0_1, .int .i64 a0_2, .int .i64 a0_3, .slice A0_4 l0_4.length c0_4, .int .i64 a0_5, .slice A0_6 l0_6.length c0_6], .agg #[.int .i64 a1_0, .int .i64 a1_1, .int .i64 a1_2, .int .i64 a1_3, .slice A1_4 l1_4.length c1_4, .int .i64 a1_5, .slice A1_6 l1_6.length c1_6]] w fun e w' => ∃ v4_ v6_ : Value, e = .returned (.tuple #[.agg #[.int .i64 r1, .int .i64 r2, .int .i64 r3, .int .i64 r4, v4_, .int .i64 r6, v6_], .bool r8]) ∧ Kd.R (Kd.int .i64) 3 w' w.heap.size (fun k_ => some k_ ≠ (v6_ : Value).ownBlock) v4_ r5 ∧ Kd.R (Kd.int .i64) 3 w' w.heap.size (fun k_ => some k_ ≠ (v4_ : Value).ownBlock) v6_ r7 ∧ Below w.heap.size w w' := by
 have hu28 := Try.underlying28
 have HR0_4 := am hr0_4
 have HC0_4 := am hc0_4
 clear hr0_4 hc0_4
 have HR0_6 := am hr0_6
 have HC0_6 := am hc0_6
 clear hr0_6 hc0_6
 have HR1_4 := am hr1_4
 have HC1_4 := am hc1_4
 clear hr1_4 hc1_4
 have HR1_6 := am hr1_6
 have HC1_6 := am hc1_6
 clear hr1_6 hc1_6
 have HB := am (Below.refl w.heap.size w)
 have H : ((FN.f k a0_0 a0_1 a0_2 a0_3 l0_4 a0_5 l0_6 a1_0 a1_1 a1_2 a1_3 l1_4 a1_5 l1_6).bind fun bt69 => ((Fka.f (([bt69.1, bt69.2.1] : List (List Int)))).bind fun t70 => ((Fla.f t70).bind fun t71 => (if bt69.2.2 = true then (if (t70.length : Int) > 60 then (some (0, 0, 0, 0, ([] : List Int), 0, ([] : List Int), false)) else ((Fi.f k t71 (mx a0_1 a1_1)).bind fun bt72 => (some (bt72.1, bt72.2.1, bt72.2.2.1, bt72.2.2.2.1, bt72.2.2.2.2.1, bt72.2.2.2.2.2.1, bt72.2.2.2.2.2.2, true)))) else (some (0, 0, 0, 0, ([] : List Int), 0, ([] : List Int), false)))))) = some (r1, r2, r3, r4, r5, r6, r7, r8) := h
 clear h
 replace H := Option.bind_eq_some_iff.mp H
 obtain ⟨⟨t69, t73, t74⟩, A30, H⟩ := H
 try dsimp only at H
 have A3 := am A30
 clear A30
 obtain ⟨y75, hy75⟩ : ∃ y_ : List (List Int), y_ = (([t69, t73] : List (List Int))) := ⟨_, rfl⟩
 replace H : ((Fka.f y75).bind fun t70 => ((Fla.f t70).bind fun t71 => (if t74 = true then (if (t70.length : Int) > 60 then (some (0, 0, 0, 0, ([] : List Int), 0, ([] : List Int), false)) else ((Fi.f k t71 (mx a0_1 a1_1)).bind fun bt72 => (some (bt72.1, bt72.2.1, bt72.2.2.1, bt72.2.2.2.1, bt72.2.2.2.2.1, bt72.2.2.2.2.2.1, bt72.2.2.2.2.2.2, true)))) else (some (0, 0, 0, 0, ([] : List Int), 0, ([] : List Int), false))))) = some (r1, r2, r3, r4, r5, r6, r7, r8) := by first | (rw [hy75]; with_reducible exact H) | (have H2_ := (Option.bind_some _ _).symm.trans H; rw [hy75]; with_reducible exact H2_) | (have H2_ := (Option.bind_some _ _).symm.trans H; with_reducible exact H2_) | with_reducible exact H | (rw [hy75]; exact H) | exact H
 have Ny75 := am hy75
 clear hy75
 replace H := Option.bind_eq_some_iff.mp H
 obtain ⟨t70, A40, H⟩ := H
 try dsimp only at H
 have A4 := am A40
 clear A40
 replace H := Option.bind_eq_some_iff.mp H
 obtain ⟨t71, A50, H⟩ := H
 try dsimp only at H
 have A5 := am A50
 clear A50
 by_cases c6 : t74 = true
 ·
  subst c6
  rw [if_pos rfl] at H
  by_cases c7 : (t70.length : Int) > 60
  ·
   rw [if_pos c7] at H
   have c7b0 := decide_eq_true c7
   have c7b1 : decide (60 < t70.length) = true := decide_eq_true Z70
   clear c7
   simp only [Option.some.injEq, Prod.mk.injEq] at H
   obtain ⟨rfl, rfl, rfl, rfl, rfl, rfl, rfl, rfl⟩ := H
   go_enter Try.func16, Try.ntmps16
   go_wp2_with (first | ((with_reducible refine gate_dst (N := 2) rfl ?_); (try (refine gate_guard Z63 ?_; dsimp only)); refine box_event ?hg (N := 2) ?hd (cs := #[.int .i64 a0_0, .int .i64 a0_1, .int .i64 a0_2, .int .i64 a0_3, .slice A0_4 l0_4.length c0_4, .int .i64 a0_5, .slice A0_6 l0_6.length c0_6]) (t := 28) ?hr ?_; (case hd => rfl); (case hg => rfl); (case hr => exact Z111); intro gb76 hg w8 hbox hb; have BK76 := am (hbox); have GW76 := nG HB hg; have GE76 := nG HB hg; have GI76 := gI GE76; replace HB := am (below_step (uN HB) hb); clear hb hbox hg) | ((with_reducible refine gate_dst (N := 3) rfl ?_); (try (refine gate_guard Z63 ?_; dsimp only)); refine box_event ?hg (N := 3) ?hd (cs := #[.int .i64 a1_0, .int .i64 a1_1, .int .i64 a1_2, .int .i64 a1_3, .slice A1_4 l1_4.length c1_4, .int .i64 a1_5, .slice A1_6 l1_6.length c1_6]) (t := 28) ?hr ?_; (case hd => rfl); (case hg => rfl); (case hr => exact Z111); intro gb77 hg w9 hbox hb; have BK77 := am (hbox); have GW77 := am ((by rw [hg]; exact (below_size Z40) : w.heap.size ≤ gb77)); have GE77 := am ((by rw [hg]; exact (below_size Z40) : w.heap.size ≤ gb77)); replace HB := am (below_step Z40 hb); have NB76_77 := nL BK76 hg; have NB77_76 := nR BK76 hg; replace BK76 := kB BK76 hb; clear hb hbox hg) | ((with_reducible refine gate_dst (N := 4) rfl ?_); (try (refine gate_guard Z63 ?_; dsimp only)); refine box_event ?hg (N := 4) ?hd (cs := #[.int .i64 0, .int .i64 0, .int .i64 0, .int .i64 0, .slice none 0 0, .int .i64 0, .slice none 0 0]) (t := 28) ?hr ?_; (case hd => rfl); (case hg => rfl); (case hr => exact Z111); intro gb78 hg w10 hbox hb; have BK78 := am (hbox); have GW78 := am ((by rw [hg]; exact (below_size Z34) : w.heap.size ≤ gb78)); have GE78 := am ((by rw [hg]; exact (below_size Z34) : w.heap.size ≤ gb78)); replace HB := am (below_step Z34 hb); have NB76_78 := nL BK76 hg; have NB78_76 := nR BK76 hg; replace BK76 := kB BK76 hb; have NB77_78 := nL BK77 hg; have NB78_77 := nR BK77 hg; replace BK77 := kB BK77 hb; clear hb hbox hg; have hnb11 := NB76_77.out; have hnc11 := NB77_76.out; have hnb12 := NB76_78.out; have hnc12 := NB78_76.out; obtain ⟨hcz13_0, hcz13_1, hcz13_2, hcz13_3, hcz13_4, hcz13_5, hcz13_6, hfz13_0, hfz13_1, hfz13_2, hfz13_3, hfz13_4, hfz13_5, hfz13_6⟩ := ce7 BK76; have hnb14 := NB77_78.out; have hnc14 := NB78_77.out; obtain ⟨hcz15_0, hcz15_1, hcz15_2, hcz15_3, hcz15_4, hcz15_5, hcz15_6, hfz15_0, hfz15_1, hfz15_2, hfz15_3, hfz15_4, hfz15_5, hfz15_6⟩ := ce7 BK77) | ((with_reducible refine gate_callee (f := 34) rfl ?_); refine goesL_ (some 13) rfl rfl Try.func34 Z112 rfl #[.agg #[.int .i64 a0_0, .int .i64 a0_1, .int .i64 a0_2, .int .i64 a0_3, .slice A0_4 l0_4.length c0_4, .int .i64 a0_5, .slice A0_6 l0_6.length c0_6], .agg #[.int .i64 a1_0, .int .i64 a1_1, .int .i64 a1_2, .int .i64 a1_3, .slice A1_4 l1_4.length c1_4, .int .i64 a1_5, .slice A1_6 l1_6.length c1_6]] rfl Z140 ?_; (with_reducible refine (FN.calls k a0_0 a0_1 a0_2 a0_3 _ _ l0_4 a0_5 _ _ l0_6 a1_0 a1_1 a1_2 a1_3 _ _ l1_4 a1_5 _ _ l1_6 t69 t73 true _ ?side1 ?side2 ?side3 ?side4 ?side5 ?side6 ?side7 ?side8 A3.out).mono ?_); (case side1 => exact uC HR0_4 HB); (case side2 => exact HC0_4.out); (case side3 => exact uC HR0_6 HB); (case side4 => exact HC0_6.out); (case side5 => exact uC HR1_4 HB); (case side6 => exact HC1_4.out); (case side7 => exact uC HR1_6 HB); (case side8 => exact HC1_6.out); rintro e w16 ⟨v79, v80, rfl, ho0, ho1, hb⟩; refine ⟨_, rfl, ?_⟩; have HO81 := am (Kd.R_lower ho0 (below_size Z9)); have HO82 := am (Kd.R_lower ho1 (below_size Z9)); replace BK76 := kB BK76 hb; replace BK77 := kB BK77 hb; replace BK78 := kB BK78 hb; replace HB := am (below_step Z9 hb); (try clear hb); (try clear hb2); (try clear hk); (try clear hi); (try clear ho0); (try clear ho1); obtain ⟨Ao17, co17, eo17⟩ := Kd.R_slice HO81.out; subst eo17; obtain ⟨Ao18, co18, eo18⟩ := Kd.R_slice HO82.out; subst eo18) | ((with_reducible refine gate_dst (N := 19) rfl ?_); (try (refine gate_guard Z63 ?_; dsimp only)); refine Kd.N_lit (Kd.slice 3 (Kd.int .i64)) _ 24 ?hg (N' := 19) ?hd (xs := ([t69, t73] : List (List Int))) (inner := [.slice Ao17 t69.length co17, .slice Ao18 t73.length co18]) (ok := (fun k_ => k_ ≠ gb76 ∧ k_ ≠ gb77 ∧ k_ ≠ gb78)) (okp := (fun k_ => k_ ≠ gb76 ∧ k_ ≠ gb77 ∧ k_ ≠ gb78)) ?hr ?hp (fun _ hk => hk) ((show ∀ k_, w16.heap.size ≤ k_ → (fun k_ => k_ ≠ gb76 ∧ k_ ≠ gb77 ∧ k_ ≠ gb78) k_ from fun k_ hk => ⟨Kd.freshB (g := gb76) (o := .cells #[.int .i64 a0_0, .int .i64 a0_1, .int .i64 a0_2, .int .i64 a0_3, .slice A0_4 l0_4.length c0_4, .int .i64 a0_5, .slice A0_6 l0_6.length c0_6] 28 (0, 0)) (uK BK76) k_ hk, Kd.freshB (g := gb77) (o := .cells #[.int .i64 a1_0, .int .i64 a1_1, .int .i64 a1_2, .int .i64 a1_3, .slice A1_4 l1_4.length c1_4, .int .i64 a1_5, .slice A1_6 l1_6.length c1_6] 28 (0, 0)) (uK BK77) k_ hk, Kd.freshB (g := gb78) (o := .cells #[.int .i64 0, .int .i64 0, .int .i64 0, .int .i64 0, .slice none 0 0, .int .i64 0, .slice none 0 0] 28 (0, 0)) (uK BK78) k_ hk⟩) _ (Nat.le_refl _)) (Below.refl _ _) (Nat.le_refl _) Z43 ?_; (case hd => rfl); (case hg => rfl); (case hr => exact Z111); (case hp => exact (Reps.one (show Kd.FK (Kd.slice 3 (Kd.int .i64)) _ _ t69 [.slice Ao17 t69.length co17] from (Fva.rFK (Kd.R_mono (ok' := (fun k_ => k_ ≠ gb76 ∧ k_ ≠ gb77 ∧ k_ ≠ gb78)) (Kd.R_types (Kd.R_types (Kd.R_types (HO81.out) BK76.out Z16) BK77.out Z16) BK78.out Z16) (fun k_ hk => ⟨hk.1.1.2, ⟨hk.1.2, hk.2⟩⟩)))) (Reps.one (show Kd.FK (Kd.slice 3 (Kd.int .i64)) _ _ t73 [.slice Ao18 t73.length co18] from (Fva.rFK (Kd.R_mono (ok' := (fun k_ => k_ ≠ gb76 ∧ k_ ≠ gb77 ∧ k_ ≠ gb78)) (Kd.R_types (Kd.R_types (Kd.R_types (HO82.out) BK76.out Z16) BK77.out Z16) BK78.out Z16) (fun k_ hk => ⟨hk.1.1.2, ⟨hk.1.2, hk.2⟩⟩)))) (Reps.none _ _)))); intro v83 w19 ho20 hb hg_ hnew_; clear hg_ hnew_; (first | rw [← Ny75.out] at ho20 | (simp only [Int.reduceToNat] at ho20; rw [← Ny75.out] at ho20)); have HO84 := am (Kd.N_lower ho20 (below_size Z9)); replace BK76 := kB BK76 hb; replace BK77 := kB BK77 hb; replace BK78 := kB BK78 hb; replace HB := am (below_step Z9 hb); clear HO81 HO82 hb ho20; obtain ⟨Ao21, co21, eo21⟩ := Kd.N_slice HO84.out; subst eo21) | ((with_reducible refine gate_callee (f := 35) rfl ?_); refine goesL_ (some 20) rfl rfl Try.func35 Z112 rfl #[.slice Ao21 y75.length co21] rfl Z140 ?_; (with_reducible refine (Fka.calls _ _ y75 t70 _ ?side1 ?side2 A4.out).mono ?_); (case side1 => exact Z72); (case side2 => exact (Kd.N_reads' HO84.out).2.1); rintro e w22 ⟨v85, rfl, ho0, hb⟩; refine ⟨_, rfl, ?_⟩; replace HO84 := am (Kd.N_elder' Z74 (Kd.R_base ho0) hb); have HO86 := am (Kd.R_lower ho0 (below_size Z9)); replace BK76 := kB BK76 hb; replace BK77 := kB BK77 hb; replace BK78 := kB BK78 hb; replace HB := am (below_step Z9 hb); (try clear hb); (try clear hb2); (try clear hk); (try clear hi); (try clear ho0); obtain ⟨Ao23, co23, eo23⟩ := Kd.R_slice HO86.out; subst eo23) | ((with_reducible refine gate_callee (f := 36) rfl ?_); refine goesL_ (some 22) rfl rfl Try.func36 Z112 rfl #[.slice Ao23 t70.length co23] rfl Z140 ?_; (with_reducible refine (Fla.calls (fun k_ => some k_ = (.slice Ao23 t70.length co23 : Value).ownBlock) (.slice Ao23 t70.length co23) t70 t71 w _ ?side1 ?side2 A5.out).mono ?_); (case side1 => exact Z9); (case side2 => exact Kd.R_tight rfl HO86.out); rintro e w24 ⟨rfl, hy0, hb, hkp⟩; refine ⟨_, rfl, ?_⟩; replace BK76 := am (blk_kept (uK BK76) hkp (fun hs_ => (fun e_ => (Kd.R_ne HO86.out BK76.out Z16) e_) hs_)); replace BK77 := am (blk_kept (uK BK77) hkp (fun hs_ => (fun e_ => (Kd.R_ne HO86.out BK77.out Z16) e_) hs_)); replace BK78 := am (blk_kept (uK BK78) hkp (fun hs_ => (fun e_ => (Kd.R_ne HO86.out BK78.out Z16) e_) hs_)); replace HO84 := am (Kd.N_mono (ok' := fun k_ => some k_ ≠ (.slice Ao23 t70.length co23 : Value).ownBlock ∧ k_ ≠ gb76 ∧ k_ ≠ gb77 ∧ k_ ≠ gb78) (Kd.N_keptB (HO84.out) hkp (fun k_ hk_ hs_ => (hk_.2) hs_)) (fun k_ hk_ => ⟨hk_.1.2, hk_.1.1.1, hk_.1.1.2.1, hk_.1.1.2.2⟩)); replace HO86 := am (Kd.R_reok rfl hy0 (fun k_ e_ => HO86.out.1 k_ e_)); replace HB := am (hb); (try clear hb); (try clear hkp); (try clear hy0); obtain ⟨hcz25_0, hcz25_1, hcz25_2, hcz25_3, hcz25_4, hcz25_5, hcz25_6, hfz25_0, hfz25_1, hfz25_2, hfz25_3, hfz25_4, hfz25_5, hfz25_6⟩ := ce7 BK78))
   refine bodyPost_ret (results_ct rfl _ _ gb78 28 #[.int .i64 0, .int .i64 0, .int .i64 0, .int .i64 0, .slice none 0 0, .int .i64 0, .slice none 0 0] (0, 0) _ rfl (pT (pp 6 (pp 5 (pp 4 (pp 3 (pp 2 (pp 1 (pp 0 (pb BK78))))))))) Try.underlying28 rfl Z112) rfl ?_
   exact ⟨_, _, Z109, Z23, Z23, Z9⟩
  rw [if_neg c7] at H
  have c7b0 := decide_eq_false c7
  have c7b1 : decide (60 < t70.length) = false := decide_eq_false Z70
  clear c7
  obtain ⟨ji26, hji26⟩ : ∃ j_ : Int, (mx a0_1 a1_1) = j_ := ⟨_, rfl⟩
  replace H : ((Fi.f k t71 (ji26)).bind fun bt72 => (some (bt72.1, bt72.2.1, bt72.2.2.1, bt72.2.2.2.1, bt72.2.2.2.2.1, bt72.2.2.2.2.2.1, bt72.2.2.2.2.2.2, true))) = some (r1, r2, r3, r4, r5, r6, r7, r8) := by first | (rw [hji26] at H; exact H) | (simp only [hji26] at H ⊢; exact H)
  (try rw [hji26] at A3)
  (try rw [hji26] at A4)
  (try rw [hji26] at A5)
  have hji26_ : (if a0_1 < a1_1 then a1_1 else a0_1) = ji26 := hji26
  replace H := Option.bind_eq_some_iff.mp H
  obtain ⟨⟨t72, t87, t88, t89, t90, t91, t92⟩, A93, H⟩ := H
  try dsimp only at H
  have A27 := am A93
  clear A93
  simp only [Option.some.injEq, Prod.mk.injEq] at H
  obtain ⟨rfl, rfl, rfl, rfl, rfl, rfl, rfl, rfl⟩ := H
  go_enter Try.func16, Try.ntmps16
  go_wp2_with (first | ((with_reducible refine gate_dst (N := 2) rfl ?_); (try (refine gate_guard Z63 ?_; dsimp only)); refine box_event ?hg (N := 2) ?hd (cs := #[.int .i64 a0_0, .int .i64 a0_1, .int .i64 a0_2, .int .i64 a0_3, .slice A0_4 l0_4.length c0_4, .int .i64 a0_5, .slice A0_6 l0_6.length c0_6]) (t := 28) ?hr ?_; (case hd => rfl); (case hg => rfl); (case hr => exact Z111); intro gb76 hg w28 hbox hb; have BK76 := am (hbox); have GW76 := nG HB hg; have GE76 := nG HB hg; have GI76 := gI GE76; replace HB := am (below_step (uN HB) hb); clear hb hbox hg) | ((with_reducible refine gate_dst (N := 3) rfl ?_); (try (refine gate_guard Z63 ?_; dsimp only)); refine box_event ?hg (N := 3) ?hd (cs := #[.int .i64 a1_0, .int .i64 a1_1, .int .i64 a1_2, .int .i64 a1_3, .slice A1_4 l1_4.length c1_4, .int .i64 a1_5, .slice A1_6 l1_6.length c1_6]) (t := 28) ?hr ?_; (case hd => rfl); (case hg => rfl); (case hr => exact Z111); intro gb77 hg w29 hbox hb; have BK77 := am (hbox); have GW77 := am ((by rw [hg]; exact (below_size Z40) : w.heap.size ≤ gb77)); have GE77 := am ((by rw [hg]; exact (below_size Z40) : w.heap.size ≤ gb77)); replace HB := am (below_step Z40 hb); have NB76_77 := nL BK76 hg; have NB77_76 := nR BK76 hg; replace BK76 := kB BK76 hb; clear hb hbox hg) | ((with_reducible refine gate_dst (N := 4) rfl ?_); (try (refine gate_guard Z63 ?_; dsimp only)); refine box_event ?hg (N := 4) ?hd (cs := #[.int .i64 0, .int .i64 0, .int .i64 0, .int .i64 0, .slice none 0 0, .int .i64 0, .slice none 0 0]) (t := 28) ?hr ?_; (case hd => rfl); (case hg => rfl); (case hr => exact Z111); intro gb78 hg w30 hbox hb; have BK78 := am (hbox); have GW78 := am ((by rw [hg]; exact (below_size Z34) : w.heap.size ≤ gb78)); have GE78 := am ((by rw [hg]; exact (below_size Z34) : w.heap.size ≤ gb78)); replace HB := am (below_step Z34 hb); have NB76_78 := nL BK76 hg; have NB78_76 := nR BK76 hg; replace BK76 := kB BK76 hb; have NB77_78 := nL BK77 hg; have NB78_77 := nR BK77 hg; replace BK77 := kB BK77 hb; clear hb hbox hg; have hnb31 := NB76_77.out; have hnc31 := NB77_76.out; have hnb32 := NB76_78.out; have hnc32 := NB78_76.out; obtain ⟨hcz33_0, hcz33_1, hcz33_2, hcz33_3, hcz33_4, hcz33_5, hcz33_6, hfz33_0, hfz33_1, hfz33_2, hfz33_3, hfz33_4, hfz33_5, hfz33_6⟩ := ce7 BK76; have hnb34 := NB77_78.out; have hnc34 := NB78_77.out; obtain ⟨hcz35_0, hcz35_1, hcz35_2, hcz35_3, hcz35_4, hcz35_5, hcz35_6, hfz35_0, hfz35_1, hfz35_2, hfz35_3, hfz35_4, hfz35_5, hfz35_6⟩ := ce7 BK77) | ((with_reducible refine gate_callee (f := 34) rfl ?_); refine goesL_ (some 13) rfl rfl Try.func34 Z112 rfl #[.agg #[.int .i64 a0_0, .int .i64 a0_1, .int .i64 a0_2, .int .i64 a0_3, .slice A0_4 l0_4.length c0_4, .int .i64 a0_5, .slice A0_6 l0_6.length c0_6], .agg #[.int .i64 a1_0, .int .i64 a1_1, .int .i64 a1_2, .int .i64 a1_3, .slice A1_4 l1_4.length c1_4, .int .i64 a1_5, .slice A1_6 l1_6.length c1_6]] rfl Z140 ?_; (with_reducible refine (FN.calls k a0_0 a0_1 a0_2 a0_3 _ _ l0_4 a0_5 _ _ l0_6 a1_0 a1_1 a1_2 a1_3 _ _ l1_4 a1_5 _ _ l1_6 t69 t73 true _ ?side1 ?side2 ?side3 ?side4 ?side5 ?side6 ?side7 ?side8 A3.out).mono ?_); (case side1 => exact uC HR0_4 HB); (case side2 => exact HC0_4.out); (case side3 => exact uC HR0_6 HB); (case side4 => exact HC0_6.out); (case side5 => exact uC HR1_4 HB); (case side6 => exact HC1_4.out); (case side7 => exact uC HR1_6 HB); (case side8 => exact HC1_6.out); rintro e w36 ⟨v79, v80, rfl, ho0, ho1, hb⟩; refine ⟨_, rfl, ?_⟩; have HO81 := am (Kd.R_lower ho0 (below_size Z9)); have HO82 := am (Kd.R_lower ho1 (below_size Z9)); replace BK76 := kB BK76 hb; replace BK77 := kB BK77 hb; replace BK78 := kB BK78 hb; replace HB := am (below_step Z9 hb); (try clear hb); (try clear hb2); (try clear hk); (try clear hi); (try clear ho0); (try clear ho1); obtain ⟨Ao37, co37, eo37⟩ := Kd.R_slice HO81.out; subst eo37; obtain ⟨Ao38, co38, eo38⟩ := Kd.R_slice HO82.out; subst eo38) | ((with_reducible refine gate_dst (N := 19) rfl ?_); (try (refine gate_guard Z63 ?_; dsimp only)); refine Kd.N_lit (Kd.slice 3 (Kd.int .i64)) _ 24 ?hg (N' := 19) ?hd (xs := ([t69, t73] : List (List Int))) (inner := [.slice Ao37 t69.length co37, .slice Ao38 t73.length co38]) (ok := (fun k_ => k_ ≠ gb76 ∧ k_ ≠ gb77 ∧ k_ ≠ gb78)) (okp := (fun k_ => k_ ≠ gb76 ∧ k_ ≠ gb77 ∧ k_ ≠ gb78)) ?hr ?hp (fun _ hk => hk) ((show ∀ k_, w36.heap.size ≤ k_ → (fun k_ => k_ ≠ gb76 ∧ k_ ≠ gb77 ∧ k_ ≠ gb78) k_ from fun k_ hk => ⟨Kd.freshB (g := gb76) (o := .cells #[.int .i64 a0_0, .int .i64 a0_1, .int .i64 a0_2, .int .i64 a0_3, .slice A0_4 l0_4.length c0_4, .int .i64 a0_5, .slice A0_6 l0_6.length c0_6] 28 (0, 0)) (uK BK76) k_ hk, Kd.freshB (g := gb77) (o := .cells #[.int .i64 a1_0, .int .i64 a1_1, .int .i64 a1_2, .int .i64 a1_3, .slice A1_4 l1_4.length c1_4, .int .i64 a1_5, .slice A1_6 l1_6.length c1_6] 28 (0, 0)) (uK BK77) k_ hk, Kd.freshB (g := gb78) (o := .cells #[.int .i64 0, .int .i64 0, .int .i64 0, .int .i64 0, .slice none 0 0, .int .i64 0, .slice none 0 0] 28 (0, 0)) (uK BK78) k_ hk⟩) _ (Nat.le_refl _)) (Below.refl _ _) (Nat.le_refl _) Z43 ?_; (case hd => rfl); (case hg => rfl); (case hr => exact Z111); (case hp => exact (Reps.one (show Kd.FK (Kd.slice 3 (Kd.int .i64)) _ _ t69 [.slice Ao37 t69.length co37] from (Fva.rFK (Kd.R_mono (ok' := (fun k_ => k_ ≠ gb76 ∧ k_ ≠ gb77 ∧ k_ ≠ gb78)) (Kd.R_types (Kd.R_types (Kd.R_types (HO81.out) BK76.out Z16) BK77.out Z16) BK78.out Z16) (fun k_ hk => ⟨hk.1.1.2, ⟨hk.1.2, hk.2⟩⟩)))) (Reps.one (show Kd.FK (Kd.slice 3 (Kd.int .i64)) _ _ t73 [.slice Ao38 t73.length co38] from (Fva.rFK (Kd.R_mono (ok' := (fun k_ => k_ ≠ gb76 ∧ k_ ≠ gb77 ∧ k_ ≠ gb78)) (Kd.R_types (Kd.R_types (Kd.R_types (HO82.out) BK76.out Z16) BK77.out Z16) BK78.out Z16) (fun k_ hk => ⟨hk.1.1.2, ⟨hk.1.2, hk.2⟩⟩)))) (Reps.none _ _)))); intro v83 w39 ho40 hb hg_ hnew_; clear hg_ hnew_; (first | rw [← Ny75.out] at ho40 | (simp only [Int.reduceToNat] at ho40; rw [← Ny75.out] at ho40)); have HO84 := am (Kd.N_lower ho40 (below_size Z9)); replace BK76 := kB BK76 hb; replace BK77 := kB BK77 hb; replace BK78 := kB BK78 hb; replace HB := am (below_step Z9 hb); clear HO81 HO82 hb ho40; obtain ⟨Ao41, co41, eo41⟩ := Kd.N_slice HO84.out; subst eo41) | ((with_reducible refine gate_callee (f := 35) rfl ?_); refine goesL_ (some 20) rfl rfl Try.func35 Z112 rfl #[.slice Ao41 y75.length co41] rfl Z140 ?_; (with_reducible refine (Fka.calls _ _ y75 t70 _ ?side1 ?side2 A4.out).mono ?_); (case side1 => exact Z72); (case side2 => exact (Kd.N_reads' HO84.out).2.1); rintro e w42 ⟨v85, rfl, ho0, hb⟩; refine ⟨_, rfl, ?_⟩; replace HO84 := am (Kd.N_elder' Z74 (Kd.R_base ho0) hb); have HO86 := am (Kd.R_lower ho0 (below_size Z9)); replace BK76 := kB BK76 hb; replace BK77 := kB BK77 hb; replace BK78 := kB BK78 hb; replace HB := am (below_step Z9 hb); (try clear hb); (try clear hb2); (try clear hk); (try clear hi); (try clear ho0); obtain ⟨Ao43, co43, eo43⟩ := Kd.R_slice HO86.out; subst eo43) | ((with_reducible refine gate_callee (f := 36) rfl ?_); refine goesL_ (some 22) rfl rfl Try.func36 Z112 rfl #[.slice Ao43 t70.length co43] rfl Z140 ?_; (with_reducible refine (Fla.calls (fun k_ => some k_ = (.slice Ao43 t70.length co43 : Value).ownBlock) (.slice Ao43 t70.length co43) t70 t71 w _ ?side1 ?side2 A5.out).mono ?_); (case side1 => exact Z9); (case side2 => exact Kd.R_tight rfl HO86.out); rintro e w44 ⟨rfl, hy0, hb, hkp⟩; refine ⟨_, rfl, ?_⟩; replace BK76 := am (blk_kept (uK BK76) hkp (fun hs_ => (fun e_ => (Kd.R_ne HO86.out BK76.out Z16) e_) hs_)); replace BK77 := am (blk_kept (uK BK77) hkp (fun hs_ => (fun e_ => (Kd.R_ne HO86.out BK77.out Z16) e_) hs_)); replace BK78 := am (blk_kept (uK BK78) hkp (fun hs_ => (fun e_ => (Kd.R_ne HO86.out BK78.out Z16) e_) hs_)); replace HO84 := am (Kd.N_mono (ok' := fun k_ => some k_ ≠ (.slice Ao43 t70.length co43 : Value).ownBlock ∧ k_ ≠ gb76 ∧ k_ ≠ gb77 ∧ k_ ≠ gb78) (Kd.N_keptB (HO84.out) hkp (fun k_ hk_ hs_ => (hk_.2) hs_)) (fun k_ hk_ => ⟨hk_.1.2, hk_.1.1.1, hk_.1.1.2.1, hk_.1.1.2.2⟩)); replace HO86 := am (Kd.R_reok rfl hy0 (fun k_ e_ => HO86.out.1 k_ e_)); replace HB := am (hb); (try clear hb); (try clear hkp); (try clear hy0); obtain ⟨hcz45_0, hcz45_1, hcz45_2, hcz45_3, hcz45_4, hcz45_5, hcz45_6, hfz45_0, hfz45_1, hfz45_2, hfz45_3, hfz45_4, hfz45_5, hfz45_6⟩ := ce7 BK76; obtain ⟨hcz46_0, hcz46_1, hcz46_2, hcz46_3, hcz46_4, hcz46_5, hcz46_6, hfz46_0, hfz46_1, hfz46_2, hfz46_3, hfz46_4, hfz46_5, hfz46_6⟩ := ce7 BK77) | ((with_reducible refine gate_callee (f := 28) rfl ?_); refine goesL_ (some 37) rfl rfl Try.func28 Z112 rfl #[.slice Ao43 t71.length co43, .int .i64 ji26] rfl (by (try simp only [List.map_toArray, List.map_cons, List.map_nil]); first | done | (rw [show t71.length = t70.length from (Kd.R_reads' HO86.out).1.symm] <;> rfl) | (simp only [hji26]; rfl) | rfl | (simp only [List.length_drop, List.length_take]; rfl)) ?_; (with_reducible refine (Fi.calls k _ _ t71 ji26 t72 t87 t88 t89 t90 t91 t92 _ ?side1 ?side2 A27.out).mono ?_); (case side1 => exact uD HO86); (case side2 => rw [show t71.length = t70.length from (Kd.R_reads' HO86.out).1.symm]; exact (Kd.R_reads' HO86.out).2.1); rintro e w47 ⟨v94, v95, rfl, ho0, ho1, hb⟩; refine ⟨_, rfl, ?_⟩; replace HO84 := am (Kd.N_mono (Kd.N_told (Kd.N_told (Kd.N_old Z74 hb) (Kd.R_base ho0)) (Kd.R_base ho1)) (fun _ h_ => h_.1)); have HO96 := am (Kd.R_lower (Kd.R_new' ho0 (Kd.R_lt (uR HO86))) (below_size Z9)); have HO97 := am (Kd.R_lower (Kd.R_new' ho1 (Kd.R_lt (uR HO86))) (below_size Z9)); replace HO86 := am (Kd.R_mono (Kd.R_told (Kd.R_told (Kd.R_old (uR HO86) hb) (Kd.R_base ho0)) (Kd.R_base ho1)) (fun _ h_ => h_.1)); replace BK76 := kB BK76 hb; replace BK77 := kB BK77 hb; replace BK78 := kB BK78 hb; replace HB := am (below_step Z9 hb); (try clear hb); (try clear hb2); (try clear hk); (try clear hi); (try clear ho0); (try clear ho1); obtain ⟨hcz48_0, hcz48_1, hcz48_2, hcz48_3, hcz48_4, hcz48_5, hcz48_6, hfz48_0, hfz48_1, hfz48_2, hfz48_3, hfz48_4, hfz48_5, hfz48_6⟩ := ce7 BK78; obtain ⟨Ao49, co49, eo49⟩ := Kd.R_slice HO96.out; subst eo49; obtain ⟨Ao50, co50, eo50⟩ := Kd.R_slice HO97.out; subst eo50))
  refine bodyPost_ret (results_ct rfl _ _ gb78 28 #[.int .i64 t72, .int .i64 t87, .int .i64 t88, .int .i64 t89, .slice Ao49 t90.length co49, .int .i64 t91, .slice Ao50 t92.length co50] (0, 0) _ rfl (pT (pp 6 (pp 5 (pp 4 (pp 3 (pp 2 (pp 1 (pp 0 (pb BK78))))))))) Try.underlying28 rfl Z112) rfl ?_
  exact ⟨_, _, by first | rfl | (simp [errW_none, errW_some] <;> rfl) | (simp only [← hji26]; first | rfl | (simp [errW_none, errW_some] <;> rfl)) | (simp [*, errW_none, errW_some] <;> rfl), by (with_reducible repeat (first | apply Kd.R_alloc | apply Kd.R_drewN | apply Kd.R_drew)); exact Kd.R_mono (fT HO96 BK78 Z16) (fun _ hk => hk.1.1), by (with_reducible repeat (first | apply Kd.R_alloc | apply Kd.R_drewN | apply Kd.R_drew)); exact Kd.R_mono (fT HO97 BK78 Z16) (fun _ hk => hk.1.1), Z9⟩
 replace c6 := Bool.eq_false_iff.mpr c6
 subst c6
 rw [if_neg (show ¬ (false = true) from Z16)] at H
 simp only [Option.some.injEq, Prod.mk.injEq] at H
 obtain ⟨rfl, rfl, rfl, rfl, rfl, rfl, rfl, rfl⟩ := H
 go_enter Try.func16, Try.ntmps16
 go_wp2_with (first | ((with_reducible refine gate_dst (N := 2) rfl ?_); (try (refine gate_guard Z63 ?_; dsimp only)); refine box_event ?hg (N := 2) ?hd (cs := #[.int .i64 a0_0, .int .i64 a0_1, .int .i64 a0_2, .int .i64 a0_3, .slice A0_4 l0_4.length c0_4, .int .i64 a0_5, .slice A0_6 l0_6.length c0_6]) (t := 28) ?hr ?_; (case hd => rfl); (case hg => rfl); (case hr => exact Z111); intro gb76 hg w51 hbox hb; have BK76 := am (hbox); have GW76 := nG HB hg; have GE76 := nG HB hg; have GI76 := gI GE76; replace HB := am (below_step (uN HB) hb); clear hb hbox hg) | ((with_reducible refine gate_dst (N := 3) rfl ?_); (try (refine gate_guard Z63 ?_; dsimp only)); refine box_event ?hg (N := 3) ?hd (cs := #[.int .i64 a1_0, .int .i64 a1_1, .int .i64 a1_2, .int .i64 a1_3, .slice A1_4 l1_4.length c1_4, .int .i64 a1_5, .slice A1_6 l1_6.length c1_6]) (t := 28) ?hr ?_; (case hd => rfl); (case hg => rfl); (case hr => exact Z111); intro gb77 hg w52 hbox hb; have BK77 := am (hbox); have GW77 := am ((by rw [hg]; exact (below_size Z40) : w.heap.size ≤ gb77)); have GE77 := am ((by rw [hg]; exact (below_size Z40) : w.heap.size ≤ gb77)); replace HB := am (below_step Z40 hb); have NB76_77 := nL BK76 hg; have NB77_76 := nR BK76 hg; replace BK76 := kB BK76 hb; clear hb hbox hg) | ((with_reducible refine gate_dst (N := 4) rfl ?_); (try (refine gate_guard Z63 ?_; dsimp only)); refine box_event ?hg (N := 4) ?hd (cs := #[.int .i64 0, .int .i64 0, .int .i64 0, .int .i64 0, .slice none 0 0, .int .i64 0, .slice none 0 0]) (t := 28) ?hr ?_; (case hd => rfl); (case hg => rfl); (case hr => exact Z111); intro gb78 hg w53 hbox hb; have BK78 := am (hbox); have GW78 := am ((by rw [hg]; exact (below_size Z34) : w.heap.size ≤ gb78)); have GE78 := am ((by rw [hg]; exact (below_size Z34) : w.heap.size ≤ gb78)); replace HB := am (below_step Z34 hb); have NB76_78 := nL BK76 hg; have NB78_76 := nR BK76 hg; replace BK76 := kB BK76 hb; have NB77_78 := nL BK77 hg; have NB78_77 := nR BK77 hg; replace BK77 := kB BK77 hb; clear hb hbox hg; have hnb54 := NB76_77.out; have hnc54 := NB77_76.out; have hnb55 := NB76_78.out; have hnc55 := NB78_76.out; obtain ⟨hcz56_0, hcz56_1, hcz56_2, hcz56_3, hcz56_4, hcz56_5, hcz56_6, hfz56_0, hfz56_1, hfz56_2, hfz56_3, hfz56_4, hfz56_5, hfz56_6⟩ := ce7 BK76; have hnb57 := NB77_78.out; have hnc57 := NB78_77.out; obtain ⟨hcz58_0, hcz58_1, hcz58_2, hcz58_3, hcz58_4, hcz58_5, hcz58_6, hfz58_0, hfz58_1, hfz58_2, hfz58_3, hfz58_4, hfz58_5, hfz58_6⟩ := ce7 BK77) | ((with_reducible refine gate_callee (f := 34) rfl ?_); refine goesL_ (some 13) rfl rfl Try.func34 Z112 rfl #[.agg #[.int .i64 a0_0, .int .i64 a0_1, .int .i64 a0_2, .int .i64 a0_3, .slice A0_4 l0_4.length c0_4, .int .i64 a0_5, .slice A0_6 l0_6.length c0_6], .agg #[.int .i64 a1_0, .int .i64 a1_1, .int .i64 a1_2, .int .i64 a1_3, .slice A1_4 l1_4.length c1_4, .int .i64 a1_5, .slice A1_6 l1_6.length c1_6]] rfl Z140 ?_; (with_reducible refine (FN.calls k a0_0 a0_1 a0_2 a0_3 _ _ l0_4 a0_5 _ _ l0_6 a1_0 a1_1 a1_2 a1_3 _ _ l1_4 a1_5 _ _ l1_6 t69 t73 false _ ?side1 ?side2 ?side3 ?side4 ?side5 ?side6 ?side7 ?side8 A3.out).mono ?_); (case side1 => exact uC HR0_4 HB); (case side2 => exact HC0_4.out); (case side3 => exact uC HR0_6 HB); (case side4 => exact HC0_6.out); (case side5 => exact uC HR1_4 HB); (case side6 => exact HC1_4.out); (case side7 => exact uC HR1_6 HB); (case side8 => exact HC1_6.out); rintro e w59 ⟨v79, v80, rfl, ho0, ho1, hb⟩; refine ⟨_, rfl, ?_⟩; have HO81 := am (Kd.R_lower ho0 (below_size Z9)); have HO82 := am (Kd.R_lower ho1 (below_size Z9)); replace BK76 := kB BK76 hb; replace BK77 := kB BK77 hb; replace BK78 := kB BK78 hb; replace HB := am (below_step Z9 hb); (try clear hb); (try clear hb2); (try clear hk); (try clear hi); (try clear ho0); (try clear ho1); obtain ⟨Ao60, co60, eo60⟩ := Kd.R_slice HO81.out; subst eo60; obtain ⟨Ao61, co61, eo61⟩ := Kd.R_slice HO82.out; subst eo61) | ((with_reducible refine gate_dst (N := 19) rfl ?_); (try (refine gate_guard Z63 ?_; dsimp only)); refine Kd.N_lit (Kd.slice 3 (Kd.int .i64)) _ 24 ?hg (N' := 19) ?hd (xs := ([t69, t73] : List (List Int))) (inner := [.slice Ao60 t69.length co60, .slice Ao61 t73.length co61]) (ok := (fun k_ => k_ ≠ gb76 ∧ k_ ≠ gb77 ∧ k_ ≠ gb78)) (okp := (fun k_ => k_ ≠ gb76 ∧ k_ ≠ gb77 ∧ k_ ≠ gb78)) ?hr ?hp (fun _ hk => hk) ((show ∀ k_, w59.heap.size ≤ k_ → (fun k_ => k_ ≠ gb76 ∧ k_ ≠ gb77 ∧ k_ ≠ gb78) k_ from fun k_ hk => ⟨Kd.freshB (g := gb76) (o := .cells #[.int .i64 a0_0, .int .i64 a0_1, .int .i64 a0_2, .int .i64 a0_3, .slice A0_4 l0_4.length c0_4, .int .i64 a0_5, .slice A0_6 l0_6.length c0_6] 28 (0, 0)) (uK BK76) k_ hk, Kd.freshB (g := gb77) (o := .cells #[.int .i64 a1_0, .int .i64 a1_1, .int .i64 a1_2, .int .i64 a1_3, .slice A1_4 l1_4.length c1_4, .int .i64 a1_5, .slice A1_6 l1_6.length c1_6] 28 (0, 0)) (uK BK77) k_ hk, Kd.freshB (g := gb78) (o := .cells #[.int .i64 0, .int .i64 0, .int .i64 0, .int .i64 0, .slice none 0 0, .int .i64 0, .slice none 0 0] 28 (0, 0)) (uK BK78) k_ hk⟩) _ (Nat.le_refl _)) (Below.refl _ _) (Nat.le_refl _) Z43 ?_; (case hd => rfl); (case hg => rfl); (case hr => exact Z111); (case hp => exact (Reps.one (show Kd.FK (Kd.slice 3 (Kd.int .i64)) _ _ t69 [.slice Ao60 t69.length co60] from (Fva.rFK (Kd.R_mono (ok' := (fun k_ => k_ ≠ gb76 ∧ k_ ≠ gb77 ∧ k_ ≠ gb78)) (Kd.R_types (Kd.R_types (Kd.R_types (HO81.out) BK76.out Z16) BK77.out Z16) BK78.out Z16) (fun k_ hk => ⟨hk.1.1.2, ⟨hk.1.2, hk.2⟩⟩)))) (Reps.one (show Kd.FK (Kd.slice 3 (Kd.int .i64)) _ _ t73 [.slice Ao61 t73.length co61] from (Fva.rFK (Kd.R_mono (ok' := (fun k_ => k_ ≠ gb76 ∧ k_ ≠ gb77 ∧ k_ ≠ gb78)) (Kd.R_types (Kd.R_types (Kd.R_types (HO82.out) BK76.out Z16) BK77.out Z16) BK78.out Z16) (fun k_ hk => ⟨hk.1.1.2, ⟨hk.1.2, hk.2⟩⟩)))) (Reps.none _ _)))); intro v83 w62 ho63 hb hg_ hnew_; clear hg_ hnew_; (first | rw [← Ny75.out] at ho63 | (simp only [Int.reduceToNat] at ho63; rw [← Ny75.out] at ho63)); have HO84 := am (Kd.N_lower ho63 (below_size Z9)); replace BK76 := kB BK76 hb; replace BK77 := kB BK77 hb; replace BK78 := kB BK78 hb; replace HB := am (below_step Z9 hb); clear HO81 HO82 hb ho63; obtain ⟨Ao64, co64, eo64⟩ := Kd.N_slice HO84.out; subst eo64) | ((with_reducible refine gate_callee (f := 35) rfl ?_); refine goesL_ (some 20) rfl rfl Try.func35 Z112 rfl #[.slice Ao64 y75.length co64] rfl Z140 ?_; (with_reducible refine (Fka.calls _ _ y75 t70 _ ?side1 ?side2 A4.out).mono ?_); (case side1 => exact Z72); (case side2 => exact (Kd.N_reads' HO84.out).2.1); rintro e w65 ⟨v85, rfl, ho0, hb⟩; refine ⟨_, rfl, ?_⟩; replace HO84 := am (Kd.N_elder' Z74 (Kd.R_base ho0) hb); have HO86 := am (Kd.R_lower ho0 (below_size Z9)); replace BK76 := kB BK76 hb; replace BK77 := kB BK77 hb; replace BK78 := kB BK78 hb; replace HB := am (below_step Z9 hb); (try clear hb); (try clear hb2); (try clear hk); (try clear hi); (try clear ho0); obtain ⟨Ao66, co66, eo66⟩ := Kd.R_slice HO86.out; subst eo66) | ((with_reducible refine gate_callee (f := 36) rfl ?_); refine goesL_ (some 22) rfl rfl Try.func36 Z112 rfl #[.slice Ao66 t70.length co66] rfl Z140 ?_; (with_reducible refine (Fla.calls (fun k_ => some k_ = (.slice Ao66 t70.length co66 : Value).ownBlock) (.slice Ao66 t70.length co66) t70 t71 w _ ?side1 ?side2 A5.out).mono ?_); (case side1 => exact Z9); (case side2 => exact Kd.R_tight rfl HO86.out); rintro e w67 ⟨rfl, hy0, hb, hkp⟩; refine ⟨_, rfl, ?_⟩; replace BK76 := am (blk_kept (uK BK76) hkp (fun hs_ => (fun e_ => (Kd.R_ne HO86.out BK76.out Z16) e_) hs_)); replace BK77 := am (blk_kept (uK BK77) hkp (fun hs_ => (fun e_ => (Kd.R_ne HO86.out BK77.out Z16) e_) hs_)); replace BK78 := am (blk_kept (uK BK78) hkp (fun hs_ => (fun e_ => (Kd.R_ne HO86.out BK78.out Z16) e_) hs_)); replace HO84 := am (Kd.N_mono (ok' := fun k_ => some k_ ≠ (.slice Ao66 t70.length co66 : Value).ownBlock ∧ k_ ≠ gb76 ∧ k_ ≠ gb77 ∧ k_ ≠ gb78) (Kd.N_keptB (HO84.out) hkp (fun k_ hk_ hs_ => (hk_.2) hs_)) (fun k_ hk_ => ⟨hk_.1.2, hk_.1.1.1, hk_.1.1.2.1, hk_.1.1.2.2⟩)); replace HO86 := am (Kd.R_reok rfl hy0 (fun k_ e_ => HO86.out.1 k_ e_)); replace HB := am (hb); (try clear hb); (try clear hkp); (try clear hy0); obtain ⟨hcz68_0, hcz68_1, hcz68_2, hcz68_3, hcz68_4, hcz68_5, hcz68_6, hfz68_0, hfz68_1, hfz68_2, hfz68_3, hfz68_4, hfz68_5, hfz68_6⟩ := ce7 BK78))
 refine bodyPost_ret (results_ct rfl _ _ gb78 28 #[.int .i64 0, .int .i64 0, .int .i64 0, .int .i64 0, .slice none 0 0, .int .i64 0, .slice none 0 0] (0, 0) _ rfl (pT (pp 6 (pp 5 (pp 4 (pp 3 (pp 2 (pp 1 (pp 0 (pb BK78))))))))) Try.underlying28 rfl Z112) rfl ?_
 exact ⟨_, _, Z109, Z23, Z23, Z9⟩

/-! ### Fpa: function 38 -/
def Fpa.f (l0 : List Int) : Option (List Int) := if l0.length < 17592186044416 then some l0 else none
theorem Fpa.calls (A0 : Option Addr) (c0 : Nat) (l0 : List Int) (r : List Int) (w : World) (hr0 : Kd.C (Kd.int .i64) w A0 l0.length l0) (hc0 : l0.length ≤ c0) (h : Fpa.f l0 = some r) :
    Calls Try.prog 38 #[.slice A0 l0.length c0] w fun e w' => ∃ v0_ : Value, e = .returned (v0_) ∧ Kd.R (Kd.int .i64) 3 w' w.heap.size (fun _ => True) v0_ r ∧ Below w.heap.size w w' := by
  have qT_ : ∀ (w : World) (a : Option Addr) (n c : Nat), (binOp .eql 24 (.slice a n c) (.slice none 0 0)).run Try.prog w = .ok (.bool a.isNone) w := fun w a n c => Go.Proofs.Ytllaofiopnhdgaa.Nils.slice_eql_nil w _ _ a n c Try.underlying24
  cases A0 with
  | none =>
    have hnil : l0 = [] := by
      rcases l0 with _ | ⟨x, xs⟩
      · rfl
      · obtain ⟨ad, e, _⟩ := Kd.at_int hr0 0 Z70 (by simp only [List.length_cons]; omega)
        cases e
    subst hnil
    have hr_ : r = [] := by
      unfold Fpa.f at h
      rw [if_pos Z16] at h
      exact (Option.some.inj h).symm
    subst hr_
    go_enter Try.func38, Try.ntmps38
    go_wp2
    go_ret
    exact ⟨_, rfl, Kd.R_nil _ _ _ _ _, by repeat (first | exact Below.refl _ _ | apply below_drew1 | apply pw_below_drewN)⟩
  | some a0_ =>
    have HR0 := am hr0
    have HC0 := am hc0
    clear hr0 hc0
    have HB := am (Below.refl w.heap.size w)
    have H : ((some (([] : List Int) : List Int)).bind fun y6 => (if y6.length + l0.length < 17592186044416 then (some (y6 ++ l0)) else (none))) = some r := by
      unfold Fpa.f at h
      simpa using h
    clear h
    obtain ⟨y6, hy6⟩ : ∃ y_ : List Int, y_ = (([] : List Int)) := ⟨_, rfl⟩
    replace H : (if y6.length + l0.length < 17592186044416 then (some (y6 ++ l0)) else (none)) = some r := by first | (rw [hy6]; with_reducible exact H) | (have H2_ := (Option.bind_some _ _).symm.trans H; rw [hy6]; with_reducible exact H2_) | (have H2_ := (Option.bind_some _ _).symm.trans H; with_reducible exact H2_) | with_reducible exact H | (rw [hy6]; exact H) | exact H
    have Ny6 := am hy6
    clear hy6
    by_cases c2 : y6.length + l0.length < 17592186044416
    · rw [if_pos c2] at H
      have LMc2 := am c2
      clear c2
      obtain ⟨y7, hy7⟩ : ∃ y_ : List Int, y_ = (y6 ++ l0) := ⟨_, rfl⟩
      replace H : (some y7) = some r := by first | (rw [hy7]; with_reducible exact H) | (have H2_ := (Option.bind_some _ _).symm.trans H; rw [hy7]; with_reducible exact H2_) | (have H2_ := (Option.bind_some _ _).symm.trans H; with_reducible exact H2_) | with_reducible exact H | (rw [hy7]; exact H) | exact H
      have Ny7 := am hy7
      clear hy7
      obtain rfl := Option.some.inj H
      go_enter Try.func38, Try.ntmps38
      go_wp2_with (first | ((with_reducible refine gate_dst (N := 5) rfl ?_); refine Kd.R_lit (Kd.int .i64) _ 3 ?hg (N := 5) ?hd (xs := ([] : List Int)) (inner := []) (ok := fun _ => True) (okp := fun _ => True) ?hr ?hp (fun _ hk => hk) trivial (Below.refl _ _) (Nat.le_refl _) Z43 ?_; (case hd => rfl); (case hg => rfl); (case hr => exact Z111); (case hp => exact (Reps.none _ _)); intro v8 w3 ho4 hb hg_ hnew_; clear hg_ hnew_; (first | rw [← Ny6.out] at ho4 | (simp only [Int.reduceToNat] at ho4; rw [← Ny6.out] at ho4)); have HO9 := am (Kd.R_lower ho4 (below_size Z65)); replace HB := am (below_step Z65 hb); clear hb ho4) | ((with_reducible refine gate_builtin (b := .append) (xs := #[.tmp 5, .tmp 6]) rfl ?_); at_builtin; refine Kd.R_append_rows (Kd.int .i64) (w0 := w) w.heap.size rfl (.tmp 5) (.tmp 6) 24 3 (.int .i64 0) 8 rfl Try.underlying24 info3 rfl Z16 Z70 v8 y6 l0 _ _ _ (fun _ => True) (fun _ => False) rfl rfl ?aO ?aR (fun _ _ h => h) (fun _ h => h.elim) ?aF ?aB ?aS ?aL ?_; (case aR => repeat (first | exact (Kd.C_below HR0.out HB.out) | (with_reducible refine Kd.C_alloc ?_ _) | (with_reducible refine Kd.C_drewN ?_ _) | (with_reducible refine Kd.C_drew ?_))); (case aB => exact Z65); (case aF => exact (fun _ _ => trivial)); (case aO => exact (by (with_reducible repeat (first | apply Kd.R_alloc | apply Kd.R_drewN | apply Kd.R_drew)); exact HO9.out)); (case aS => exact (below_size Z65)); (case aL => have := LMc2.out; omega); intro v10 w5 ho hb hg hat; rw [← Ny7.out] at ho; replace HB := am (hb); have HO11 := am (ho); clear HO9; clear ho hb hg hat))
      go_ret
      exact ⟨_, Z109, Z108, Z65⟩
    · rw [if_neg c2] at H
      exact absurd H Z43


/-! ### Fua: function 40 -/
shelf_lay Lays2.n20 Nm2 20 at Try as compactLaysI
def Fua.f (l0 : List Int) : Option (List Int) := if l0.length ≤ 9223372036854775807 then some (Lib.compact l0) else none
theorem Fua.calls (P0_ : Nat → Prop) (u2_ : Value) (l0 : List Int) (r1 : List Int) (w0 w : World) (hB : Below w0.heap.size w0 w) (ho0 : Kd.R (Kd.int .i64) 3 w w0.heap.size P0_ u2_ l0) (h : Fua.f l0 = some r1) :
    Calls Try.prog 40 #[u2_] w fun e w' => ∃ v0_ : Value, e = .returned (v0_) ∧ Kd.R (Kd.int .i64) 3 w' w0.heap.size (fun k_ => (P0_ k_ ∨ w.heap.size ≤ k_)) v0_ r1 ∧ Below w0.heap.size w0 w' ∧ Kept w w' (fun k_ => P0_ k_) := by
  unfold Fua.f at h
  by_cases c : l0.length ≤ 9223372036854775807
  · rw [if_pos c] at h
    obtain rfl := Option.some.inj h
    exact Go.Proofs.Ytllaofiopnhdgaa.SortsI.compact_rowI compactLaysI 3 P0_ u2_ l0 w0 w hB ho0 c
  · rw [if_neg c] at h
    cases h


/-! ### FR: function 37 -/
shelf_lay_g SlLaysH.n10 Slgf 10 at Try 37 as delFuncLaysI
def FR.f (l0 : List Int) (l1 : List Int) : Option (List Int) := if l0.length ≤ 1000000 ∧ l1.length ≤ 1000000 then some (l0.filter fun x => l1.any fun y => decide (y = x)) else none
theorem FR.idx (l : List Int) (x : Int) (hl : l.length ≤ 1000000) (d : Nat) : ∀ i : Nat, i + d = l.length → ∃ (k : Nat) (t : Int), Fw.l0 k l x (l.length : Int) (i : Int) = some t ∧ (decide (t ≥ 0) = (l.drop i).any fun y => decide (y = x)) := by
  induction d with
  | zero =>
    intro i hi
    have h1 : ¬ ((i : Int) < (l.length : Int)) := by omega
    refine ⟨1, -1, ?_, ?_⟩
    · simp only [Fw.l0, h1, ↓reduceIte]
    · rw [List.drop_of_length_le Z70]
      rfl
  | succ d ih =>
    intro i hi
    have hil : i < l.length := by omega
    have h1 : (i : Int) < (l.length : Int) := by omega
    have h2 : (0 : Int) ≤ (i : Int) := by omega
    have hw : wrap64 ((i : Int) + 1) = ((i + 1 : Nat) : Int) := by unfold wrap64; omega
    have hr : rd l (i : Int) = l[i] := by
      unfold rd
      rw [Int.toNat_natCast, List.getD_eq_getElem?_getD, List.getElem?_eq_getElem hil]
      rfl
    rw [List.drop_eq_getElem_cons hil, List.any_cons]
    by_cases c : x = l[i]
    · refine ⟨1, (i : Int), ?_, ?_⟩
      · simp only [Fw.l0, h1, h2, ↓reduceIte, hr, c]
      · rw [decide_eq_true c.symm, Bool.true_or]
        exact decide_eq_true Z70
    · obtain ⟨k, t, e, ht⟩ := ih (i + 1) Z70
      refine ⟨k + 1, t, ?_, ?_⟩
      · simp only [Fw.l0, h1, h2, ↓reduceIte, hr, c, hw]
        exact e
      · rw [show decide (l[i] = x) = false from decide_eq_false (fun q => c q.symm), Bool.false_or]
        exact ht
theorem FR.has (l : List Int) (x : Int) (hl : l.length ≤ 1000000) : ∃ k, FS.f k l x = some (l.any fun y => decide (y = x)) := by
  obtain ⟨k, t, e, ht⟩ := FR.idx l x hl l.length 0 Z70
  rw [List.drop_zero] at ht
  refine ⟨k, ?_⟩
  unfold FS.f Fw.f
  rw [show ((0 : Nat) : Int) = 0 from rfl] at e
  rw [e, ← ht]
  rfl
set_option maxHeartbeats 2000000 in
theorem FR.pred (g1 : Nat) (A1 : Option Addr) (c1 : Nat) (ys : List Int) (W : World) (x : Int) (hb : W.heap[g1]? = some (.cells #[.slice A1 ys.length c1] 24 (0, 0))) (hC : Kd.C (Kd.int .i64) W A1 ys.length ys) (hc1 : ys.length ≤ c1) (hlen : ys.length ≤ 1000000) :
    FnGives Try.prog 39 #[.pointer (some ⟨g1, 0, none⟩)] #[Value.int .i64 x] (.bool (!(ys.any fun y => decide (y = x)))) W := by
  obtain ⟨k, hk⟩ := FR.has ys x hlen
  have hcz : W.cell? ⟨g1, 0, none⟩ = some (.slice A1 ys.length c1) := (blk_cell hb 0).trans rfl
  have hc := FS.calls k A1 c1 ys x _ W hC hc1 hk
  have HC := am hc
  clear hc hb hC hc1 hlen hk
  generalize (ys.any fun y => decide (y = x)) = b at *
  show Calls Try.prog 39 #[.int .i64 x, .pointer (some ⟨g1, 0, none⟩)] W _
  go_enter Try.func39, Try.ntmps39
  go_wp2_with (go_at_call 27; refine HC.out.mono ?_; rintro e w' ⟨rfl, q, rfl⟩)
  go_ret
  exact ⟨rfl, _, rfl⟩
set_option maxHeartbeats 2000000 in
theorem FR.none_idx (fv : Value) (w : World) : Calls Try.prog 71 #[.slice none 0 0, fv] w fun e w' => e = .returned (.int .i64 (-1)) ∧ ∃ q, w' = w.drewN q := by
  go_enter Try.func71, Try.ntmps71
  go_wp2
  go_loopw [8] (fun i wr => i = .int .i64 0 ∧ wr = w) (fun i _ => 0)
  case atStart => exact ⟨rfl, rfl⟩
  case round =>
    obtain ⟨rfl, rfl⟩ := hrel
    go_wp2
    go_ret
    exact ⟨rfl, 0, rfl⟩
set_option maxHeartbeats 2000000 in
theorem FR.none_ (fv : Value) (w : World) : Calls Try.prog 37 #[.slice none 0 0, fv] w fun e w' => e = .returned (.slice none 0 0) ∧ ∃ q, w' = w.drewN q := by
  go_enter Try.func37, Try.ntmps37
  go_wp2_with (go_at_call 71; refine (FR.none_idx _ _).mono ?_; rintro e w' ⟨rfl, q, rfl⟩)
  go_ret
  exact ⟨rfl, _, rfl⟩
theorem FR.calls (P0_ : Nat → Prop) (u4_ : Value) (l0 : List Int) (g1_0 : Nat) (A1_0 : Option Addr) (c1_0 : Nat) (l1_0 : List Int) (r1 : List Int) (w0 w : World) (hB : Below w0.heap.size w0 w) (hb1_0 : w.heap[g1_0]? = some (.cells #[.slice A1_0 l1_0.length c1_0] 24 (0, 0))) (ho0 : Kd.R (Kd.int .i64) 3 w w0.heap.size P0_ u4_ l0) (hr1_0 : ∀ W', Kept w W' P0_ → Kd.C (Kd.int .i64) W' A1_0 l1_0.length l1_0) (hc1_0 : l1_0.length ≤ c1_0) (h : FR.f l0 l1_0 = some r1) :
    Calls Try.prog 37 #[u4_, .func (.func 39) #[] #[.pointer (some ⟨g1_0, 0, none⟩)]] w fun e w' => ∃ v0_ : Value, e = .returned (v0_) ∧ Kd.R (Kd.int .i64) 3 w' w0.heap.size (fun k_ => (P0_ k_ ∨ w.heap.size ≤ k_)) v0_ r1 ∧ Below w0.heap.size w0 w' ∧ Kept w w' (fun k_ => P0_ k_) := by
  unfold FR.f at h
  by_cases c : l0.length ≤ 1000000 ∧ l1_0.length ≤ 1000000
  · rw [if_pos c] at h
    obtain rfl := Option.some.inj h
    -- only the row's own block is written; the captured variable is of another type
    have ho := Kd.R_tight rfl ho0
    have hP := ho0.1
    refine ((Go.Proofs.Ytllaofiopnhdgaa.SortsI.deleteFunc_rowI delFuncLaysI Try.zeroValue3 39 #[.pointer (some ⟨g1_0, 0, none⟩)] (enters_of Try.func39 Z112 rfl) (fun x => !(l1_0.any fun y => decide (y = x))) 3 _ u4_ l0 w0 w hB ho
      (fun W x hk => FR.pred g1_0 A1_0 c1_0 l1_0 W x (blk_kept hb1_0 hk (Kd.R_ne ho0 hb1_0 Z16)) (hr1_0 W (hk.mono (fun k e => hP k e.symm))) hc1_0 c.2)
      (fun _ fv W => FR.none_ fv W) Z70).mono ?_)
    rintro e w' ⟨v, rfl, h1, h2, h3⟩
    refine ⟨v, rfl, ?_, h2, h3.mono (fun k e => hP k e.symm)⟩
    have e : (l0.filter fun x => !(!(l1_0.any fun y => decide (y = x)))) = l0.filter fun x => l1_0.any fun y => decide (y = x) := by simp
    rw [← e]
    exact Kd.R_mono h1 (fun k hk => hk.imp (fun e => hP k e.symm) id)
  · rw [if_neg c] at h
    cases h


/-! ### Fba: function 17 -/
def Fba.f (k : Nat) (a0_0 : Int) (a0_1 : Int) (a0_2 : Int) (a0_3 : Int) (l0_4 : List Int) (a0_5 : Int) (l0_6 : List Int) (a1_0 : Int) (a1_1 : Int) (a1_2 : Int) (a1_3 : Int) (l1_4 : List Int) (a1_5 : Int) (l1_6 : List Int) : Option (List Int × Bool) := (FN.f k a0_0 a0_1 a0_2 a0_3 l0_4 a0_5 l0_6 a1_0 a1_1 a1_2 a1_3 l1_4 a1_5 l1_6).bind fun bt7 => (if bt7.2.2 = true then ((Fpa.f bt7.1).bind fun t8 => ((FR.f t8 bt7.2.1).bind fun t9 => ((Fua.f t9).bind fun t10 => (some (t10, true))))) else (some (([] : List Int), false)))
theorem Fba.mono : ∀ a0 a1 a2 a3 a4 a5 a6 a7 a8 a9 a10 a11 a12 a13 k, LeO (Fba.f k a0 a1 a2 a3 a4 a5 a6 a7 a8 a9 a10 a11 a12 a13) (Fba.f (k + 1) a0 a1 a2 a3 a4 a5 a6 a7 a8 a9 a10 a11 a12 a13) := by
 intro a0 a1 a2 a3 a4 a5 a6 a7 a8 a9 a10 a11 a12 a13 k
 unfold Fba.f
 repeat' first
   | with_reducible first | exact FN.mono .. | exact LeO.refl _ | exact LeO.none _ | refine LeO.ite ?_ ?_ | refine LeO.bind ?_ (fun _ => ?_)
   | exact FN.mono .. | exact LeO.none _ | refine LeO.ite ?_ ?_ | refine LeO.bind ?_ (fun _ => ?_)
theorem Fba.calls (k : Nat) (a0_0 : Int) (a0_1 : Int) (a0_2 : Int) (a0_3 : Int) (A0_4 : Option Addr) (c0_4 : Nat) (l0_4 : List Int) (a0_5 : Int) (A0_6 : Option Addr) (c0_6 : Nat) (l0_6 : List Int) (a1_0 : Int) (a1_1 : Int) (a1_2 : Int) (a1_3 : Int) (A1_4 : Option Addr) (c1_4 : Nat) (l1_4 : List Int) (a1_5 : Int) (A1_6 : Option Addr) (c1_6 : Nat) (l1_6 : List Int) (r1 : List Int) (r2 : Bool) (w : World) (hr0_4 : Kd.C (Kd.int .i64) w A0_4 l0_4.length l0_4) (hc0_4 : l0_4.length ≤ c0_4) (hr0_6 : Kd.C (Kd.int .i64) w A0_6 l0_6.length l0_6) (hc0_6 : l0_6.length ≤ c0_6) (hr1_4 : Kd.C (Kd.int .i64) w A1_4 l1_4.length l1_4) (hc1_4 : l1_4.length ≤ c1_4) (hr1_6 : Kd.C (Kd.int .i64) w A1_6 l1_6.length l1_6) (hc1_6 : l1_6.length ≤ c1_6) (h : Fba.f k a0_0 a0_1 a0_2 a0_3 l0_4 a0_5 l0_6 a1_0 a1_1 a1_2 a1_3 l1_4 a1_5 l1_6 = some (r1, r2)) :
  Calls Try.prog 17 #[.agg #[.int .i64 a0_0, .int .i64 a0_1, .int .i64 a0_2, .int .i64 a0_3, .slice A0_4 l0_4.length c0_4, .int .i64 a0_5, .slice A0_6 l0_6.length c0_6], .agg #[.int .i64 a1_0, .int .i64 a1_1, .int .i64 a1_2, .int .i64 a1_3, .slice A1_4 l1_4.length c1_4, .int .i64 a1_5, .slice A1_6 l1_6.length c1_6]] w fun e w' => ∃ v0_ : Value, e = .returned (.tuple #[v0_, .bool r2]) ∧ Kd.R (Kd.int .i64) 3 w' w.heap.size (fun _ => True) v0_ r1 ∧ Below w.heap.size w w' := by
 have hu28 := Try.underlying28
 have hu24 := Try.underlying24
 have hmf : ∀ (fn : Fn) (first cap : Array Value) (w : World), (Instr.makeFunc fn first cap).run Try.prog w = .ok (.func fn first cap) w := fun _ _ _ _ => rfl
 have HR0_4 := am hr0_4
 have HC0_4 := am hc0_4
 clear hr0_4 hc0_4
 have HR0_6 := am hr0_6
 have HC0_6 := am hc0_6
 clear hr0_6 hc0_6
 have HR1_4 := am hr1_4
 have HC1_4 := am hc1_4
 clear hr1_4 hc1_4
 have HR1_6 := am hr1_6
 have HC1_6 := am hc1_6
 clear hr1_6 hc1_6
 have HB := am (Below.refl w.heap.size w)
 have H : ((FN.f k a0_0 a0_1 a0_2 a0_3 l0_4 a0_5 l0_6 a1_0 a1_1 a1_2 a1_3 l1_4 a1_5 l1_6).bind fun bt36 => (if bt36.2.2 = true then ((Fpa.f bt36.1).bind fun t39 => ((FR.f t39 bt36.2.1).bind fun t41 => ((Fua.f t41).bind fun t42 => (some (t42, true))))) else (some (([] : List Int), false)))) = some (r1, r2) := h
 clear h
 replace H := Option.bind_eq_some_iff.mp H
 obtain ⟨⟨t36, t43, t44⟩, A30, H⟩ := H
 try dsimp only at H
 have A3 := am A30
 clear A30
 by_cases c4 : t44 = true
 ·
  subst c4
  rw [if_pos rfl] at H
  replace H := Option.bind_eq_some_iff.mp H
  obtain ⟨t39, A50, H⟩ := H
  try dsimp only at H
  have A5 := am A50
  clear A50
  replace H := Option.bind_eq_some_iff.mp H
  obtain ⟨t41, A60, H⟩ := H
  try dsimp only at H
  have A6 := am A60
  clear A60
  replace H := Option.bind_eq_some_iff.mp H
  obtain ⟨t42, A70, H⟩ := H
  try dsimp only at H
  have A7 := am A70
  clear A70
  simp only [Option.some.injEq, Prod.mk.injEq] at H
  obtain ⟨rfl, rfl⟩ := H
  go_enter Try.func17, Try.ntmps17
  go_wp2_with (first | ((with_reducible refine gate_dst (N := 2) rfl ?_); refine box_event ?hg (N := 2) ?hd (cs := #[.int .i64 a0_0, .int .i64 a0_1, .int .i64 a0_2, .int .i64 a0_3, .slice A0_4 l0_4.length c0_4, .int .i64 a0_5, .slice A0_6 l0_6.length c0_6]) (t := 28) ?hr ?_; (case hd => rfl); (case hg => rfl); (case hr => exact Z111); intro gb45 hg w8 hbox hb; have BK45 := am (hbox); have GW45 := nG HB hg; have GE45 := nG HB hg; have GI45 := gI GE45; replace HB := am (below_step (uN HB) hb); clear hb hbox hg) | ((with_reducible refine gate_dst (N := 3) rfl ?_); refine box_event ?hg (N := 3) ?hd (cs := #[.int .i64 a1_0, .int .i64 a1_1, .int .i64 a1_2, .int .i64 a1_3, .slice A1_4 l1_4.length c1_4, .int .i64 a1_5, .slice A1_6 l1_6.length c1_6]) (t := 28) ?hr ?_; (case hd => rfl); (case hg => rfl); (case hr => exact Z111); intro gb46 hg w9 hbox hb; have BK46 := am (hbox); have GW46 := am ((by rw [hg]; exact (below_size Z41) : w.heap.size ≤ gb46)); have GE46 := am ((by rw [hg]; exact (below_size Z41) : w.heap.size ≤ gb46)); replace HB := am (below_step Z41 hb); have NB45_46 := nL BK45 hg; have NB46_45 := nR BK45 hg; replace BK45 := kB BK45 hb; clear hb hbox hg; have hnb10 := NB45_46.out; have hnc10 := NB46_45.out; obtain ⟨hcz11_0, hcz11_1, hcz11_2, hcz11_3, hcz11_4, hcz11_5, hcz11_6, hfz11_0, hfz11_1, hfz11_2, hfz11_3, hfz11_4, hfz11_5, hfz11_6⟩ := ce7 BK45; obtain ⟨hcz12_0, hcz12_1, hcz12_2, hcz12_3, hcz12_4, hcz12_5, hcz12_6, hfz12_0, hfz12_1, hfz12_2, hfz12_3, hfz12_4, hfz12_5, hfz12_6⟩ := ce7 BK46) | ((with_reducible refine gate_callee (f := 34) rfl ?_); refine goesL_ (some 13) rfl rfl Try.func34 Z112 rfl #[.agg #[.int .i64 a0_0, .int .i64 a0_1, .int .i64 a0_2, .int .i64 a0_3, .slice A0_4 l0_4.length c0_4, .int .i64 a0_5, .slice A0_6 l0_6.length c0_6], .agg #[.int .i64 a1_0, .int .i64 a1_1, .int .i64 a1_2, .int .i64 a1_3, .slice A1_4 l1_4.length c1_4, .int .i64 a1_5, .slice A1_6 l1_6.length c1_6]] rfl Z140 ?_; (with_reducible refine (FN.calls k a0_0 a0_1 a0_2 a0_3 _ _ l0_4 a0_5 _ _ l0_6 a1_0 a1_1 a1_2 a1_3 _ _ l1_4 a1_5 _ _ l1_6 t36 t43 true _ ?side1 ?side2 ?side3 ?side4 ?side5 ?side6 ?side7 ?side8 A3.out).mono ?_); (case side1 => exact uC HR0_4 HB); (case side2 => exact HC0_4.out); (case side3 => exact uC HR0_6 HB); (case side4 => exact HC0_6.out); (case side5 => exact uC HR1_4 HB); (case side6 => exact HC1_4.out); (case side7 => exact uC HR1_6 HB); (case side8 => exact HC1_6.out); rintro e w13 ⟨v47, v48, rfl, ho0, ho1, hb⟩; refine ⟨_, rfl, ?_⟩; have HO49 := am (Kd.R_lower ho0 (below_size Z18)); have HO51 := am (Kd.R_lower ho1 (below_size Z18)); replace BK45 := kB BK45 hb; replace BK46 := kB BK46 hb; replace HB := am (below_step Z18 hb); (try clear hb); (try clear hb2); (try clear hk); (try clear hi); (try clear ho0); (try clear ho1)) | ((with_reducible refine gate_dst (N := 7) rfl ?_); refine box_event ?hg (N := 7) ?hd (cs := #[.slice none 0 0]) (t := 24) ?hr ?_; (case hd => rfl); (case hg => rfl); (case hr => exact Z111); intro gb52 hg w14 hbox hb; replace HO49 := rB HO49 hb; replace HO51 := rB HO51 hb; have BK52 := am (hbox); have GW52 := am ((by rw [hg]; exact (below_size Z18) : w.heap.size ≤ gb52)); have GE52 := am ((by rw [hg]; exact (below_size Z18) : w.heap.size ≤ gb52)); replace HB := am (below_step Z18 hb); have NB45_52 := nL BK45 hg; have NB52_45 := nR BK45 hg; replace BK45 := kB BK45 hb; have NB46_52 := nL BK46 hg; have NB52_46 := nR BK46 hg; replace BK46 := kB BK46 hb; clear hb hbox hg; obtain ⟨Ao15, co15, eo15⟩ := Kd.R_slice HO51.out; subst eo15; have hnb16 := NB52_45.out; have hnc16 := NB45_52.out; have hnb17 := NB52_46.out; have hnc17 := NB46_52.out; obtain ⟨hcz18_0, hfz18_0⟩ := ce1 BK52; obtain ⟨Ao19, co19, eo19⟩ := Kd.R_slice HO49.out; subst eo19) | ((with_reducible refine gate_callee (f := 38) rfl ?_); refine goesL_ (some 20) rfl rfl Try.func38 Z112 rfl #[.slice Ao19 t36.length co19] rfl Z140 ?_; (with_reducible refine (Fpa.calls _ _ t36 t39 _ ?side1 ?side2 A5.out).mono ?_); (case side1 => refine (Kd.R_reads' (e := 3) (base := w.heap.size) (ok := fun k_ => some k_ ≠ (.slice Ao15 t43.length co15 : Value).ownBlock) (n := t36.length) (c := co19) ?_).2.2; exact (fS HO49 BK52 Z16)); (case side2 => exact (Kd.R_reads' HO49.out).2.1); rintro e w20 ⟨v53, rfl, ho0, hb⟩; refine ⟨_, rfl, ?_⟩; have HO54 := am (Kd.R_lower (Kd.R_new' (Kd.R_new' ho0 (Kd.R_lt (fS HO49 BK52 Z16))) (Kd.R_lt (fS HO51 BK52 Z16))) (below_size Z46)); replace HO49 := am (Kd.R_elder' (fS HO49 BK52 Z16) (Kd.R_base ho0) hb); replace HO51 := am (Kd.R_elder' (fS HO51 BK52 Z16) (Kd.R_base ho0) hb); replace BK45 := am (blk_below (g := gb45) (o := .cells #[.int .i64 a0_0, .int .i64 a0_1, .int .i64 a0_2, .int .i64 a0_3, .slice A0_4 l0_4.length c0_4, .int .i64 a0_5, .slice A0_6 l0_6.length c0_6] 28 (0, 0)) (pf NB45_52 (pb BK45)) hb); replace BK46 := am (blk_below (g := gb46) (o := .cells #[.int .i64 a1_0, .int .i64 a1_1, .int .i64 a1_2, .int .i64 a1_3, .slice A1_4 l1_4.length c1_4, .int .i64 a1_5, .slice A1_6 l1_6.length c1_6] 28 (0, 0)) (pf NB46_52 (pb BK46)) hb); replace BK52 := am (blk_below (g := gb52) (o := .cells #[.slice Ao15 t43.length co15] 24 (0, 0)) (pT (pp 0 (pb BK52))) hb); replace HB := am (below_step Z46 hb); (try clear hb); (try clear hb2); (try clear hk); (try clear hi); (try clear ho0); obtain ⟨Ao21, co21, eo21⟩ := Kd.R_slice HO54.out; subst eo21) | ((with_reducible refine gate_callee (f := 37) rfl ?_); refine goesL_ (some 22) rfl rfl Try.func37 Z112 rfl #[.slice Ao21 t39.length co21, .func (.func 39) #[] #[.pointer (some ⟨gb52, 0, none⟩)]] rfl Z140 ?_; (with_reducible refine (FR.calls (fun k_ => some k_ = (.slice Ao21 t39.length co21 : Value).ownBlock) (.slice Ao21 t39.length co21) t39 gb52 Ao15 co15 t43 t41 w _ ?side1 ?side2 ?side3 ?side4 ?side5 A6.out).mono ?_); (case side1 => exact Z46); (case side2 => exact (uK BK52)); (case side3 => exact Kd.R_tight rfl HO54.out); (case side4 => exact Kd.C_kept_own (HO51.out) (fun k_ hk_ hs_ => (hk_.2) hs_)); (case side5 => exact (Kd.R_reads' HO51.out).2.1); rintro e w22 ⟨v55, rfl, ho0, hb, hkp⟩; refine ⟨_, rfl, ?_⟩; replace BK45 := am (blk_kept (uK BK45) hkp (fun hs_ => (fun e_ => (Kd.R_ne HO54.out BK45.out Z16) e_) hs_)); replace BK46 := am (blk_kept (uK BK46) hkp (fun hs_ => (fun e_ => (Kd.R_ne HO54.out BK46.out Z16) e_) hs_)); replace BK52 := am (blk_kept (uK BK52) hkp (fun hs_ => (fun e_ => (Kd.R_ne HO54.out BK52.out Z16) e_) hs_)); have HO56 := am (Kd.R_mono (ok' := fun k_ => some k_ ≠ (.slice Ao19 t36.length co19 : Value).ownBlock ∧ some k_ ≠ (.slice Ao15 t43.length co15 : Value).ownBlock) ho0 (fun k_ hk_ => ⟨Or.elim hk_ (fun hs_ => fun e_ => (((HO49.out).1 k_ e_.symm).2) hs_) (fun hn_ => (Kd.fresh' (Kd.R_lt (uR HO49)) k_ hn_)), Or.elim hk_ (fun hs_ => fun e_ => (((HO51.out).1 k_ e_.symm).2) hs_) (fun hn_ => (Kd.fresh' (Kd.R_lt (uR HO51)) k_ hn_))⟩)); replace HO49 := am (Kd.R_mono (ok' := fun k_ => some k_ ≠ (.slice Ao15 t43.length co15 : Value).ownBlock ∧ some k_ ≠ (v55 : Value).ownBlock) (Kd.R_keptB (HO49.out) hkp (fun k_ hk_ hs_ => (hk_.2) hs_)) (fun k_ hk_ => ⟨hk_.1.1, fun e_ => Or.elim (ho0.1 k_ e_.symm) (fun hs_ => hk_.2.1 hs_) (fun hn_ => Nat.not_le.2 hk_.2.2 hn_)⟩)); replace HO51 := am (Kd.R_mono (ok' := fun k_ => some k_ ≠ (.slice Ao19 t36.length co19 : Value).ownBlock ∧ some k_ ≠ (v55 : Value).ownBlock) (Kd.R_keptB (HO51.out) hkp (fun k_ hk_ hs_ => (hk_.2) hs_)) (fun k_ hk_ => ⟨hk_.1.1, fun e_ => Or.elim (ho0.1 k_ e_.symm) (fun hs_ => hk_.2.1 hs_) (fun hn_ => Nat.not_le.2 hk_.2.2 hn_)⟩)); replace HB := am (hb); clear HO54; (try clear hb); (try clear hkp); (try clear ho0); obtain ⟨Ao23, co23, eo23⟩ := Kd.R_slice HO56.out; subst eo23) | ((with_reducible refine gate_callee (f := 40) rfl ?_); refine goesL_ (some 24) rfl rfl Try.func40 Z112 rfl #[.slice Ao23 t41.length co23] rfl Z140 ?_; (with_reducible refine (Fua.calls (fun k_ => some k_ = (.slice Ao23 t41.length co23 : Value).ownBlock) (.slice Ao23 t41.length co23) t41 t42 w _ ?side1 ?side2 A7.out).mono ?_); (case side1 => exact Z46); (case side2 => exact Kd.R_tight rfl HO56.out); rintro e w24 ⟨v57, rfl, ho0, hb, hkp⟩; refine ⟨_, rfl, ?_⟩; replace BK45 := am (blk_kept (uK BK45) hkp (fun hs_ => (fun e_ => (Kd.R_ne HO56.out BK45.out Z16) e_) hs_)); replace BK46 := am (blk_kept (uK BK46) hkp (fun hs_ => (fun e_ => (Kd.R_ne HO56.out BK46.out Z16) e_) hs_)); replace BK52 := am (blk_kept (uK BK52) hkp (fun hs_ => (fun e_ => (Kd.R_ne HO56.out BK52.out Z16) e_) hs_)); have HO58 := am (Kd.R_mono (ok' := fun k_ => some k_ ≠ (.slice Ao19 t36.length co19 : Value).ownBlock ∧ some k_ ≠ (.slice Ao15 t43.length co15 : Value).ownBlock) ho0 (fun k_ hk_ => ⟨Or.elim hk_ (fun hs_ => fun e_ => (((HO49.out).1 k_ e_.symm).2) hs_) (fun hn_ => (Kd.fresh' (Kd.R_lt (uR HO49)) k_ hn_)), Or.elim hk_ (fun hs_ => fun e_ => (((HO51.out).1 k_ e_.symm).2) hs_) (fun hn_ => (Kd.fresh' (Kd.R_lt (uR HO51)) k_ hn_))⟩)); replace HO49 := am (Kd.R_mono (ok' := fun k_ => some k_ ≠ (.slice Ao15 t43.length co15 : Value).ownBlock ∧ some k_ ≠ (v57 : Value).ownBlock) (Kd.R_keptB (HO49.out) hkp (fun k_ hk_ hs_ => (hk_.2) hs_)) (fun k_ hk_ => ⟨hk_.1.1, fun e_ => Or.elim (ho0.1 k_ e_.symm) (fun hs_ => hk_.2.1 hs_) (fun hn_ => Nat.not_le.2 hk_.2.2 hn_)⟩)); replace HO51 := am (Kd.R_mono (ok' := fun k_ => some k_ ≠ (.slice Ao19 t36.length co19 : Value).ownBlock ∧ some k_ ≠ (v57 : Value).ownBlock) (Kd.R_keptB (HO51.out) hkp (fun k_ hk_ hs_ => (hk_.2) hs_)) (fun k_ hk_ => ⟨hk_.1.1, fun e_ => Or.elim (ho0.1 k_ e_.symm) (fun hs_ => hk_.2.1 hs_) (fun hn_ => Nat.not_le.2 hk_.2.2 hn_)⟩)); replace HB := am (hb); clear HO56; (try clear hb); (try clear hkp); (try clear ho0)))
  go_ret2
  exact ⟨_, Z109, by (with_reducible repeat (first | apply Kd.R_alloc | apply Kd.R_drewN | apply Kd.R_drew)); exact Kd.R_mono HO58.out (fun _ hk => trivial), Z46⟩
 replace c4 := Bool.eq_false_iff.mpr c4
 subst c4
 rw [if_neg (show ¬ (false = true) from Z16)] at H
 simp only [Option.some.injEq, Prod.mk.injEq] at H
 obtain ⟨rfl, rfl⟩ := H
 go_enter Try.func17, Try.ntmps17
 go_wp2_with (first | ((with_reducible refine gate_dst (N := 2) rfl ?_); refine box_event ?hg (N := 2) ?hd (cs := #[.int .i64 a0_0, .int .i64 a0_1, .int .i64 a0_2, .int .i64 a0_3, .slice A0_4 l0_4.length c0_4, .int .i64 a0_5, .slice A0_6 l0_6.length c0_6]) (t := 28) ?hr ?_; (case hd => rfl); (case hg => rfl); (case hr => exact Z111); intro gb45 hg w25 hbox hb; have BK45 := am (hbox); have GW45 := nG HB hg; have GE45 := nG HB hg; have GI45 := gI GE45; replace HB := am (below_step (uN HB) hb); clear hb hbox hg) | ((with_reducible refine gate_dst (N := 3) rfl ?_); refine box_event ?hg (N := 3) ?hd (cs := #[.int .i64 a1_0, .int .i64 a1_1, .int .i64 a1_2, .int .i64 a1_3, .slice A1_4 l1_4.length c1_4, .int .i64 a1_5, .slice A1_6 l1_6.length c1_6]) (t := 28) ?hr ?_; (case hd => rfl); (case hg => rfl); (case hr => exact Z111); intro gb46 hg w26 hbox hb; have BK46 := am (hbox); have GW46 := am ((by rw [hg]; exact (below_size Z41) : w.heap.size ≤ gb46)); have GE46 := am ((by rw [hg]; exact (below_size Z41) : w.heap.size ≤ gb46)); replace HB := am (below_step Z41 hb); have NB45_46 := nL BK45 hg; have NB46_45 := nR BK45 hg; replace BK45 := kB BK45 hb; clear hb hbox hg; have hnb27 := NB45_46.out; have hnc27 := NB46_45.out; obtain ⟨hcz28_0, hcz28_1, hcz28_2, hcz28_3, hcz28_4, hcz28_5, hcz28_6, hfz28_0, hfz28_1, hfz28_2, hfz28_3, hfz28_4, hfz28_5, hfz28_6⟩ := ce7 BK45; obtain ⟨hcz29_0, hcz29_1, hcz29_2, hcz29_3, hcz29_4, hcz29_5, hcz29_6, hfz29_0, hfz29_1, hfz29_2, hfz29_3, hfz29_4, hfz29_5, hfz29_6⟩ := ce7 BK46) | ((with_reducible refine gate_callee (f := 34) rfl ?_); refine goesL_ (some 13) rfl rfl Try.func34 Z112 rfl #[.agg #[.int .i64 a0_0, .int .i64 a0_1, .int .i64 a0_2, .int .i64 a0_3, .slice A0_4 l0_4.length c0_4, .int .i64 a0_5, .slice A0_6 l0_6.length c0_6], .agg #[.int .i64 a1_0, .int .i64 a1_1, .int .i64 a1_2, .int .i64 a1_3, .slice A1_4 l1_4.length c1_4, .int .i64 a1_5, .slice A1_6 l1_6.length c1_6]] rfl Z140 ?_; (with_reducible refine (FN.calls k a0_0 a0_1 a0_2 a0_3 _ _ l0_4 a0_5 _ _ l0_6 a1_0 a1_1 a1_2 a1_3 _ _ l1_4 a1_5 _ _ l1_6 t36 t43 false _ ?side1 ?side2 ?side3 ?side4 ?side5 ?side6 ?side7 ?side8 A3.out).mono ?_); (case side1 => exact uC HR0_4 HB); (case side2 => exact HC0_4.out); (case side3 => exact uC HR0_6 HB); (case side4 => exact HC0_6.out); (case side5 => exact uC HR1_4 HB); (case side6 => exact HC1_4.out); (case side7 => exact uC HR1_6 HB); (case side8 => exact HC1_6.out); rintro e w30 ⟨v47, v48, rfl, ho0, ho1, hb⟩; refine ⟨_, rfl, ?_⟩; have HO49 := am (Kd.R_lower ho0 (below_size Z18)); have HO51 := am (Kd.R_lower ho1 (below_size Z18)); replace BK45 := kB BK45 hb; replace BK46 := kB BK46 hb; replace HB := am (below_step Z18 hb); (try clear hb); (try clear hb2); (try clear hk); (try clear hi); (try clear ho0); (try clear ho1)) | ((with_reducible refine gate_dst (N := 7) rfl ?_); refine box_event ?hg (N := 7) ?hd (cs := #[.slice none 0 0]) (t := 24) ?hr ?_; (case hd => rfl); (case hg => rfl); (case hr => exact Z111); intro gb52 hg w31 hbox hb; replace HO49 := rB HO49 hb; replace HO51 := rB HO51 hb; have BK52 := am (hbox); have GW52 := am ((by rw [hg]; exact (below_size Z18) : w.heap.size ≤ gb52)); have GE52 := am ((by rw [hg]; exact (below_size Z18) : w.heap.size ≤ gb52)); replace HB := am (below_step Z18 hb); have NB45_52 := nL BK45 hg; have NB52_45 := nR BK45 hg; replace BK45 := kB BK45 hb; have NB46_52 := nL BK46 hg; have NB52_46 := nR BK46 hg; replace BK46 := kB BK46 hb; clear hb hbox hg; obtain ⟨Ao32, co32, eo32⟩ := Kd.R_slice HO51.out; subst eo32; have hnb33 := NB52_45.out; have hnc33 := NB45_52.out; have hnb34 := NB52_46.out; have hnc34 := NB46_52.out; obtain ⟨hcz35_0, hfz35_0⟩ := ce1 BK52))
 go_ret2
 exact ⟨_, Z109, Z23, Z46⟩

/-! ### FM: function 18 -/
def FM.f (k : Nat) (a0_0 : Int) (a0_1 : Int) (a0_2 : Int) (a0_3 : Int) (l0_4 : List Int) (a0_5 : Int) (l0_6 : List Int) (a1 : Int) : Option (Int × Bool) := (Fa.f k a0_0 a0_1 a0_2 a0_3 l0_4 a0_5 l0_6).bind fun bt7 => (if bt7.2 = true then ((Fr.f a1 0 (wrap64 ((bt7.1.length : Int) - 1))).bind fun t8 => (if t8 = true then (if 0 ≤ a1 then (if a1 < (bt7.1.length : Int) then (some (rd bt7.1 a1, true)) else (none)) else (none)) else (some (0, false)))) else (some (0, false)))
theorem FM.mono : ∀ a0 a1 a2 a3 a4 a5 a6 a7 k, LeO (FM.f k a0 a1 a2 a3 a4 a5 a6 a7) (FM.f (k + 1) a0 a1 a2 a3 a4 a5 a6 a7) := by
 intro a0 a1 a2 a3 a4 a5 a6 a7 k
 unfold FM.f
 exact Mo13
theorem FM.calls (k : Nat) (a0_0 : Int) (a0_1 : Int) (a0_2 : Int) (a0_3 : Int) (A0_4 : Option Addr) (c0_4 : Nat) (l0_4 : List Int) (a0_5 : Int) (A0_6 : Option Addr) (c0_6 : Nat) (l0_6 : List Int) (a1 : Int) (r1 : Int) (r2 : Bool) (w : World) (hr0_4 : Kd.C (Kd.int .i64) w A0_4 l0_4.length l0_4) (hc0_4 : l0_4.length ≤ c0_4) (hr0_6 : Kd.C (Kd.int .i64) w A0_6 l0_6.length l0_6) (hc0_6 : l0_6.length ≤ c0_6) (h : FM.f k a0_0 a0_1 a0_2 a0_3 l0_4 a0_5 l0_6 a1 = some (r1, r2)) :
  Calls Try.prog 18 #[.agg #[.int .i64 a0_0, .int .i64 a0_1, .int .i64 a0_2, .int .i64 a0_3, .slice A0_4 l0_4.length c0_4, .int .i64 a0_5, .slice A0_6 l0_6.length c0_6], .int .i64 a1] w fun e w' => e = .returned (.tuple #[.int .i64 r1, .bool r2]) ∧ Below w.heap.size w w' := by
 have hu28 := Try.underlying28
 have HR0_4 := am hr0_4
 have HC0_4 := am hc0_4
 clear hr0_4 hc0_4
 have HR0_6 := am hr0_6
 have HC0_6 := am hc0_6
 clear hr0_6 hc0_6
 have HB := am (Below.refl w.heap.size w)
 have H : ((Fa.f k a0_0 a0_1 a0_2 a0_3 l0_4 a0_5 l0_6).bind fun bt17 => (if bt17.2 = true then ((Fr.f a1 0 (wrap64 ((bt17.1.length : Int) - 1))).bind fun t19 => (if t19 = true then (if 0 ≤ a1 then (if a1 < (bt17.1.length : Int) then (some (rd bt17.1 a1, true)) else (none)) else (none)) else (some (0, false)))) else (some (0, false)))) = some (r1, r2) := h
 clear h
 replace H := Option.bind_eq_some_iff.mp H
 obtain ⟨⟨t17, t20⟩, A30, H⟩ := H
 try dsimp only at H
 have A3 := am A30
 clear A30
 by_cases c4 : t20 = true
 rotate_left
 ·
  replace c4 := Bool.eq_false_iff.mpr c4
  subst c4
  rw [if_neg (show ¬ (false = true) from Z16)] at H
  simp only [Option.some.injEq, Prod.mk.injEq] at H
  obtain ⟨rfl, rfl⟩ := H
  go_enter Try.func18, Try.ntmps18
  go_wp2_with (first | ((with_reducible refine gate_dst (N := 2) rfl ?_); (try (refine gate_guard Z63 ?_; dsimp only)); refine box_event ?hg (N := 2) ?hd (cs := #[.int .i64 a0_0, .int .i64 a0_1, .int .i64 a0_2, .int .i64 a0_3, .slice A0_4 l0_4.length c0_4, .int .i64 a0_5, .slice A0_6 l0_6.length c0_6]) (t := 28) ?hr ?_; (case hd => rfl); (case hg => rfl); (case hr => exact Z111); intro gb21 hg w15 hbox hb; have BK21 := am (hbox); have GW21 := nG HB hg; have GE21 := nG HB hg; have GI21 := gI GE21; replace HB := am (below_step (uN HB) hb); clear hb hbox hg) | ((with_reducible refine gate_callee (f := 22) rfl ?_); refine goesL_ (some 9) rfl rfl Try.func22 Z112 rfl #[.pointer (some ⟨gb21, 0, none⟩)] rfl Z140 ?_; (with_reducible refine (Fa.calls k gb21 a0_0 a0_1 a0_2 a0_3 A0_4 c0_4 l0_4 a0_5 A0_6 c0_6 l0_6 t17 false _ ?side1 ?side2 ?side3 ?side4 ?side5 A3.out).mono ?_); (case side1 => exact (uK BK21)); (case side2 => exact uC HR0_4 HB); (case side3 => exact HC0_4.out); (case side4 => exact uC HR0_6 HB); (case side5 => exact HC0_6.out); rintro e w16 ⟨v23, rfl, ho0, hb⟩; refine ⟨_, rfl, ?_⟩; have HO24 := am (Kd.R_lower ho0 (below_size Z24)); replace BK21 := kB BK21 hb; replace HB := am (below_step Z24 hb); (try clear hb); (try clear hb2); (try clear hk); (try clear hi); (try clear ho0)))
  go_ret2
  exact ⟨Z109, Z24⟩
 subst c4
 rw [if_pos rfl] at H
 replace H := Option.bind_eq_some_iff.mp H
 obtain ⟨t19, A50, H⟩ := H
 try dsimp only at H
 have A5 := am A50
 clear A50
 by_cases c6 : t19 = true
 ·
  subst c6
  rw [if_pos rfl] at H
  by_cases c7 : 0 ≤ a1
  rotate_left
  ·
   rw [if_neg c7] at H
   exact absurd H Z43
  rw [if_pos c7] at H
  have c7b0 := decide_eq_true c7
  clear c7
  by_cases c8 : a1 < (t17.length : Int)
  rotate_left
  ·
   rw [if_neg c8] at H
   exact absurd H Z43
  rw [if_pos c8] at H
  have c8b0 := decide_eq_true c8
  clear c8
  simp only [Option.some.injEq, Prod.mk.injEq] at H
  obtain ⟨rfl, rfl⟩ := H
  go_enter Try.func18, Try.ntmps18
  go_wp2_with (first | ((with_reducible refine gate_dst (N := 2) rfl ?_); (try (refine gate_guard Z63 ?_; dsimp only)); refine box_event ?hg (N := 2) ?hd (cs := #[.int .i64 a0_0, .int .i64 a0_1, .int .i64 a0_2, .int .i64 a0_3, .slice A0_4 l0_4.length c0_4, .int .i64 a0_5, .slice A0_6 l0_6.length c0_6]) (t := 28) ?hr ?_; (case hd => rfl); (case hg => rfl); (case hr => exact Z111); intro gb21 hg w9 hbox hb; have BK21 := am (hbox); have GW21 := nG HB hg; have GE21 := nG HB hg; have GI21 := gI GE21; replace HB := am (below_step (uN HB) hb); clear hb hbox hg) | ((with_reducible refine gate_callee (f := 22) rfl ?_); refine goesL_ (some 9) rfl rfl Try.func22 Z112 rfl #[.pointer (some ⟨gb21, 0, none⟩)] rfl Z140 ?_; (with_reducible refine (Fa.calls k gb21 a0_0 a0_1 a0_2 a0_3 A0_4 c0_4 l0_4 a0_5 A0_6 c0_6 l0_6 t17 true _ ?side1 ?side2 ?side3 ?side4 ?side5 A3.out).mono ?_); (case side1 => exact (uK BK21)); (case side2 => exact uC HR0_4 HB); (case side3 => exact HC0_4.out); (case side4 => exact uC HR0_6 HB); (case side5 => exact HC0_6.out); rintro e w10 ⟨v23, rfl, ho0, hb⟩; refine ⟨_, rfl, ?_⟩; have HO24 := am (Kd.R_lower ho0 (below_size Z24)); replace BK21 := kB BK21 hb; replace HB := am (below_step Z24 hb); (try clear hb); (try clear hb2); (try clear hk); (try clear hi); (try clear ho0); obtain ⟨Ao11, co11, eo11⟩ := Kd.R_slice HO24.out; subst eo11) | (go_at_call 23; (with_reducible refine (Fr.calls a1 0 (wrap64 ((t17.length : Int) - 1)) true _ A5.out).mono ?_); rintro e w' ⟨rfl, ⟨nd, rfl⟩⟩; have p25 : 0 ≤ (a1 : Int) := of_decide_eq_true Z6; have q25 : a1 < (t17.length : Int) := of_decide_eq_true Z6; obtain ⟨ad25, e25, hx25_0⟩ := Kd.at_int (Kd.R_reads' HO24.out).2.2 a1 p25 q25; cases e25; replace p25 := eq_true p25; replace q25 := eq_true q25))
  go_ret2
  exact ⟨Z109, Z24⟩
 replace c6 := Bool.eq_false_iff.mpr c6
 subst c6
 rw [if_neg (show ¬ (false = true) from Z16)] at H
 simp only [Option.some.injEq, Prod.mk.injEq] at H
 obtain ⟨rfl, rfl⟩ := H
 go_enter Try.func18, Try.ntmps18
 go_wp2_with (first | ((with_reducible refine gate_dst (N := 2) rfl ?_); (try (refine gate_guard Z63 ?_; dsimp only)); refine box_event ?hg (N := 2) ?hd (cs := #[.int .i64 a0_0, .int .i64 a0_1, .int .i64 a0_2, .int .i64 a0_3, .slice A0_4 l0_4.length c0_4, .int .i64 a0_5, .slice A0_6 l0_6.length c0_6]) (t := 28) ?hr ?_; (case hd => rfl); (case hg => rfl); (case hr => exact Z111); intro gb21 hg w12 hbox hb; have BK21 := am (hbox); have GW21 := nG HB hg; have GE21 := nG HB hg; have GI21 := gI GE21; replace HB := am (below_step (uN HB) hb); clear hb hbox hg) | ((with_reducible refine gate_callee (f := 22) rfl ?_); refine goesL_ (some 9) rfl rfl Try.func22 Z112 rfl #[.pointer (some ⟨gb21, 0, none⟩)] rfl Z140 ?_; (with_reducible refine (Fa.calls k gb21 a0_0 a0_1 a0_2 a0_3 A0_4 c0_4 l0_4 a0_5 A0_6 c0_6 l0_6 t17 true _ ?side1 ?side2 ?side3 ?side4 ?side5 A3.out).mono ?_); (case side1 => exact (uK BK21)); (case side2 => exact uC HR0_4 HB); (case side3 => exact HC0_4.out); (case side4 => exact uC HR0_6 HB); (case side5 => exact HC0_6.out); rintro e w13 ⟨v23, rfl, ho0, hb⟩; refine ⟨_, rfl, ?_⟩; have HO24 := am (Kd.R_lower ho0 (below_size Z24)); replace BK21 := kB BK21 hb; replace HB := am (below_step Z24 hb); (try clear hb); (try clear hb2); (try clear hk); (try clear hi); (try clear ho0); obtain ⟨Ao14, co14, eo14⟩ := Kd.R_slice HO24.out; subst eo14) | (go_at_call 23; (with_reducible refine (Fr.calls a1 0 (wrap64 ((t17.length : Int) - 1)) false _ A5.out).mono ?_); rintro e w' ⟨rfl, ⟨nd, rfl⟩⟩))
 go_ret2
 exact ⟨Z109, Z24⟩

/-! ### FF: function 19 -/
def FF.l0 : Nat → Int → List Int → Int → Int → Option (Bool)
 | 0, _, _, _, _ => none
 | k + 1, x1, x7, x8, x9 => if x9 < x8 then (if 0 ≤ x9 then (if x9 < (x7.length : Int) then (if (rd x7 x9) = x1 then (some true) else (FF.l0 k x1 x7 x8 (wrap64 (x9 + 1)))) else (none)) else (none)) else (some false)
def FF.f (k : Nat) (l0 : List Int) (a1 : Int) : Option (Bool) := FF.l0 k a1 l0 (l0.length : Int) 0
theorem FF.mono_l : ∀ k, (∀ y0 y1 y2 y3, LeO (FF.l0 k y0 y1 y2 y3) (FF.l0 (k + 1) y0 y1 y2 y3))
 | 0 => fun _ _ _ _ r h => by simp [FF.l0] at h | k + 1 => by
  have ih0 := FF.mono_l k
  ·
   intro y0 y1 y2 y3
   unfold FF.l0
   exact Mo1
theorem FF.mono : ∀ a0 a1 k, LeO (FF.f k a0 a1) (FF.f (k + 1) a0 a1) := by
 intro a0 a1 k
 have ih0 := FF.mono_l k
 unfold FF.f
 exact Mo1
theorem FF.calls (k : Nat) (A0 : Option Addr) (c0 : Nat) (l0 : List Int) (a1 : Int) (r : Bool) (w : World) (hr0 : Kd.C (Kd.int .i64) w A0 l0.length l0) (hc0 : l0.length ≤ c0) (h : FF.f k l0 a1 = some r) :
  Calls Try.prog 19 #[.slice A0 l0.length c0, .int .i64 a1] w fun e w' => e = .returned (.bool r) ∧ Drawn0 w w' := by
 have HR0 := am hr0
 have HC0 := am hc0
 clear hr0 hc0
 have H : (FF.l0 k a1 l0 (l0.length : Int) 0) = some r := h
 clear h
 have H' := am H
 clear H
 go_enter Try.func19, Try.ntmps19
 go_wp2
 go_loopg [9] k (fun kq v9 w' => ∃ (x9_1 : Int), v9 = .int .i64 x9_1 ∧ Aside0 (FF.l0 kq a1 l0 (l0.length : Int) x9_1 = some r) ∧ Aside0 (kq ≤ k) ∧ Drawn0 w w')
 case atStart => exact ⟨(0), Z110, H', ⟨Nat.le_refl _⟩, Z22⟩
 case round =>
  clear H'
  try clear c1
  try clear p2
  obtain ⟨x9_1, rfl, HA, HK1, ⟨m1, rfl⟩⟩ := hrel
  cases gk with
  | zero => exact absurd HA.out (by simp [FF.l0])
  | succ k1 =>
   have H := HA.out
   clear HA
   simp only [FF.l0] at H
   by_cases c3 : x9_1 < (l0.length : Int)
   rotate_left
   ·
    rw [if_neg c3] at H
    have c3b0 := decide_eq_false c3
    clear c3
    obtain rfl := Option.some.inj H
    go_wp2
    go_ret
    exact ⟨Z110, Z22⟩
   rw [if_pos c3] at H
   have c3b0 := decide_eq_true c3
   clear c3
   by_cases c4 : 0 ≤ x9_1
   rotate_left
   ·
    rw [if_neg c4] at H
    exact absurd H Z43
   rw [if_pos c4] at H
   have c4b0 := decide_eq_true c4
   clear c4
   by_cases c5 : x9_1 < (l0.length : Int)
   rotate_left
   ·
    rw [if_neg c5] at H
    exact absurd H Z43
   rw [if_pos c5] at H
   have c5b0 := decide_eq_true c5
   clear c5
   by_cases c6 : (rd l0 x9_1) = a1
   ·
    rw [if_pos c6] at H
    have c6b0 : ((rd l0 x9_1) == a1) = true := beq_iff_eq.mpr c6
    have c6b1 : ((rd l0 x9_1) != a1) = false := bne_eq_false_iff_eq.mpr c6
    clear c6
    obtain rfl := Option.some.inj H
    have p7 : 0 ≤ (x9_1 : Int) := of_decide_eq_true Z6
    have q7 : x9_1 < (l0.length : Int) := of_decide_eq_true Z6
    obtain ⟨ad7, e7, hx7_0⟩ := Kd.at_int HR0.out x9_1 p7 q7
    cases e7
    replace p7 := eq_true p7
    replace q7 := eq_true q7
    go_wp2
    go_ret
    exact ⟨Z110, Z22⟩
   rw [if_neg c6] at H
   have c6b0 : ((rd l0 x9_1) == a1) = false := beq_eq_false_iff_ne.mpr c6
   have c6b1 : ((rd l0 x9_1) != a1) = true := bne_iff_ne.mpr c6
   have H' := am H
   clear H
   have p7 : 0 ≤ (x9_1 : Int) := of_decide_eq_true Z6
   have q7 : x9_1 < (l0.length : Int) := of_decide_eq_true Z6
   obtain ⟨ad7, e7, hx7_0⟩ := Kd.at_int HR0.out x9_1 p7 q7
   cases e7
   replace p7 := eq_true p7
   replace q7 := eq_true q7
   go_wp2
   go_roundg k1
   case measure => have := HK1.out; omega
   case rel => exact ⟨(wrap64 (x9_1 + 1)), Z110, H', ⟨by have := HK1.out; omega⟩, Z22⟩

end Go.Proofs.Ytllaofiopnhdgaa.PFnSparseParts
