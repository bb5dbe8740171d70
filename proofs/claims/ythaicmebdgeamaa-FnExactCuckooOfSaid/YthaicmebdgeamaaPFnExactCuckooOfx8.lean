-- made by wip/tools/myprint.py over the kit's print, for this claim
import Derived.Test.YthaicmebdgeamaaPFnExactCuckooOfx0
import Derived.Test.YthaicmebdgeamaaPFnExactCuckooOfx4
import Derived.Test.YthaicmebdgeamaaPFnExactCuckooOfx5
import Derived.Test.YthaicmebdgeamaaPFnExactCuckooOfx6
import Derived.Test.YthaicmebdgeamaaPFnExactCuckooOfx7
namespace Go.Proofs.Ythaicmebdgeamaa.PFnExactCuckooOf
open Go.RowKit Go.Proofs.YthaicmebdgeamaaW.PrintWords Go.Proofs.YthaicmebdgeamaaW.PrintLast Go.Proofs.YthaicmebdgeamaaW.PrintMore
attribute [local go_sem] max2_int min2_int max_two min_two max_three min_three max_four min_four   -- for this text's walks alone
set_option linter.unusedVariables false
set_option linter.unusedSimpArgs false

/-! ### impl_CuckooInsert: function 14 -/
def impl_Cuckoo_find_in26_0.f (k : Nat) (a0_0 : Int) (l0_1 : List ByteArray) (l0_2 : List ByteArray) (a1 : ByteArray) : Option (Int) := (slices_Index_string_string.f k l0_1 a1).bind fun t340 => (if t340 ≥ 0 then (some t340) else ((slices_Index_string_string.f k l0_2 a1).bind fun t341 => (if t341 ≥ 0 then (some (wrap64 ((l0_1.length : Int) + t341))) else (some (-1)))))
theorem impl_Cuckoo_find_in26_0.mono : ∀ a0 a1 a2 a3 k, LeO (impl_Cuckoo_find_in26_0.f k a0 a1 a2 a3) (impl_Cuckoo_find_in26_0.f (k + 1) a0 a1 a2 a3) := by
 intro a0 a1 a2 a3 k
 unfold impl_Cuckoo_find_in26_0.f
 repeat' first
   | (with_reducible exact slices_Index_string_string.mono _ _ _)
   | (with_reducible exact LeO.refl _)
   | (with_reducible exact LeO.none _)
   | (with_reducible refine LeO.ite ?_ ?_)
   | (with_reducible refine LeO.bind ?_ (fun _ => ?_))
   | exact slices_Index_string_string.mono _ _ _
   | exact LeO.none _
   | refine LeO.ite ?_ ?_
   | refine LeO.bind ?_ (fun _ => ?_)
set_option maxHeartbeats 8000000 in
set_option maxRecDepth 100000 in
theorem impl_Cuckoo_find_in26_0.calls (k : Nat) (g0_0 : Nat) (a0_0 : Int) (A0_1 : Option Addr) (c0_1 : Nat) (l0_1 : List ByteArray) (A0_2 : Option Addr) (c0_2 : Nat) (l0_2 : List ByteArray) (a1 : ByteArray) (r : Int) (w : World) (hb0_0 : w.heap[g0_0]? = some (.cells #[.int .i64 a0_0, .slice A0_1 l0_1.length c0_1, .slice A0_2 l0_2.length c0_2] 26 (0, 0))) (hr0_1 : Kd.C Kd.string w A0_1 l0_1.length l0_1) (hc0_1 : l0_1.length ≤ c0_1) (hr0_2 : Kd.C Kd.string w A0_2 l0_2.length l0_2) (hc0_2 : l0_2.length ≤ c0_2) (h : impl_Cuckoo_find_in26_0.f k a0_0 l0_1 l0_2 a1 = some r) :
  Calls Try.prog 37 #[.pointer (some ⟨g0_0, 0, none⟩), .string a1] w fun e w' => e = .returned (.int .i64 r) ∧ Below w.heap.size w w' := by
 have HR0_1 := Aside0.mk hr0_1
 have HC0_1 := Aside0.mk hc0_1
 clear hr0_1 hc0_1
 have HR0_2 := Aside0.mk hr0_2
 have HC0_2 := Aside0.mk hc0_2
 clear hr0_2 hc0_2
 have BK339 := Aside0.mk hb0_0
 clear hb0_0
 have HB := Aside0.mk (Below.refl w.heap.size w)
 have H : ((slices_Index_string_string.f k l0_1 a1).bind fun t340 => (if t340 ≥ 0 then (some t340) else ((slices_Index_string_string.f k l0_2 a1).bind fun t341 => (if t341 ≥ 0 then (some (wrap64 ((l0_1.length : Int) + t341))) else (some (-1)))))) = some r := h
 clear h
 replace H := Option.bind_eq_some_iff.mp H
 obtain ⟨t340, A30, H⟩ := H
 replace H : (if t340 ≥ 0 then (some t340) else ((slices_Index_string_string.f k l0_2 a1).bind fun t341 => (if t341 ≥ 0 then (some (wrap64 ((l0_1.length : Int) + t341))) else (some (-1))))) = some r := H
 have A3 := Aside0.mk A30
 clear A30
 by_cases c4 : t340 ≥ 0
 ·
  rw [if_pos c4] at H
  have c4b0 : decide (0 ≤ t340) = true := decide_eq_true c4
  clear c4
  obtain rfl := Option.some.inj H
  have hcz5_0 : w.cell? ⟨g0_0, 0, none⟩ = some (.int .i64 a0_0) := (blk_cell BK339.out 0).trans rfl
  have hcz5_1 : w.cell? ⟨g0_0, 1, none⟩ = some (.slice A0_1 l0_1.length c0_1) := (blk_cell BK339.out 1).trans rfl
  have hcz5_2 : w.cell? ⟨g0_0, 2, none⟩ = some (.slice A0_2 l0_2.length c0_2) := (blk_cell BK339.out 2).trans rfl
  have hfz5_0 := blk_frozen BK339.out 0
  have hfz5_1 := blk_frozen BK339.out 1
  have hfz5_2 := blk_frozen BK339.out 2
  go_enter Try.func37, Try.ntmps37
  go_wp2_with (first | ((with_reducible refine gate_callee (f := 58) rfl ?_); refine goesL_ (some 12) rfl rfl Try.func58 (by kernel_rfl) rfl #[.slice A0_1 l0_1.length c0_1, .string a1] rfl (by (try simp only [List.map_toArray, List.map_cons, List.map_nil]); first | done | rfl | (simp only [List.length_drop, List.length_take]; rfl)) ?_; (with_reducible refine (slices_Index_string_string.calls k _ _ l0_1 a1 t340 _ ?side1 ?side2 A3.out).mono ?_); (case side1 => repeat (first | exact HR0_1.out | (with_reducible refine Kd.C_alloc ?_ _) | (with_reducible refine Kd.C_drewN ?_ _) | (with_reducible refine Kd.C_drew ?_))); (case side2 => exact HC0_1.out); rintro e w' ⟨rfl, ⟨nd, rfl⟩⟩; refine ⟨_, rfl, ?_⟩))
  go_ret
  exact ⟨by first | rfl | (simp [errW_none, errW_some] <;> rfl) | (simp [*, errW_none, errW_some] <;> rfl), by repeat (first | (with_reducible first | exact HB.out | apply below_alloc | apply pw_below_drewN | apply below_drew1 | refine below_set ?_ GE339.out) | exact HB.out)⟩
 ·
  rw [if_neg c4] at H
  have c4b0 : decide (0 ≤ t340) = false := decide_eq_false c4
  clear c4
  replace H := Option.bind_eq_some_iff.mp H
  obtain ⟨t341, A60, H⟩ := H
  replace H : (if t341 ≥ 0 then (some (wrap64 ((l0_1.length : Int) + t341))) else (some (-1))) = some r := H
  have A6 := Aside0.mk A60
  clear A60
  by_cases c7 : t341 ≥ 0
  ·
   rw [if_pos c7] at H
   have c7b0 : decide (0 ≤ t341) = true := decide_eq_true c7
   clear c7
   obtain rfl := Option.some.inj H
   have hcz8_0 : w.cell? ⟨g0_0, 0, none⟩ = some (.int .i64 a0_0) := (blk_cell BK339.out 0).trans rfl
   have hcz8_1 : w.cell? ⟨g0_0, 1, none⟩ = some (.slice A0_1 l0_1.length c0_1) := (blk_cell BK339.out 1).trans rfl
   have hcz8_2 : w.cell? ⟨g0_0, 2, none⟩ = some (.slice A0_2 l0_2.length c0_2) := (blk_cell BK339.out 2).trans rfl
   have hfz8_0 := blk_frozen BK339.out 0
   have hfz8_1 := blk_frozen BK339.out 1
   have hfz8_2 := blk_frozen BK339.out 2
   go_enter Try.func37, Try.ntmps37
   go_wp2_with (first | ((with_reducible refine gate_callee (f := 58) rfl ?_); refine goesL_ (some 12) rfl rfl Try.func58 (by kernel_rfl) rfl #[.slice A0_1 l0_1.length c0_1, .string a1] rfl (by (try simp only [List.map_toArray, List.map_cons, List.map_nil]); first | done | rfl | (simp only [List.length_drop, List.length_take]; rfl)) ?_; (with_reducible refine (slices_Index_string_string.calls k _ _ l0_1 a1 t340 _ ?side1 ?side2 A3.out).mono ?_); (case side1 => repeat (first | exact HR0_1.out | (with_reducible refine Kd.C_alloc ?_ _) | (with_reducible refine Kd.C_drewN ?_ _) | (with_reducible refine Kd.C_drew ?_))); (case side2 => exact HC0_1.out); rintro e w' ⟨rfl, ⟨nd, rfl⟩⟩; refine ⟨_, rfl, ?_⟩) | ((with_reducible refine gate_callee (f := 58) rfl ?_); refine goesL_ (some 21) rfl rfl Try.func58 (by kernel_rfl) rfl #[.slice A0_2 l0_2.length c0_2, .string a1] rfl (by (try simp only [List.map_toArray, List.map_cons, List.map_nil]); first | done | rfl | (simp only [List.length_drop, List.length_take]; rfl)) ?_; (with_reducible refine (slices_Index_string_string.calls k _ _ l0_2 a1 t341 _ ?side1 ?side2 A6.out).mono ?_); (case side1 => repeat (first | exact HR0_2.out | (with_reducible refine Kd.C_alloc ?_ _) | (with_reducible refine Kd.C_drewN ?_ _) | (with_reducible refine Kd.C_drew ?_))); (case side2 => exact HC0_2.out); rintro e w' ⟨rfl, ⟨nd, rfl⟩⟩; refine ⟨_, rfl, ?_⟩))
   go_ret
   exact ⟨by first | rfl | (simp [errW_none, errW_some] <;> rfl) | (simp [*, errW_none, errW_some] <;> rfl), by repeat (first | (with_reducible first | exact HB.out | apply below_alloc | apply pw_below_drewN | apply below_drew1 | refine below_set ?_ GE339.out) | exact HB.out)⟩
  ·
   rw [if_neg c7] at H
   have c7b0 : decide (0 ≤ t341) = false := decide_eq_false c7
   clear c7
   obtain rfl := Option.some.inj H
   have hcz9_0 : w.cell? ⟨g0_0, 0, none⟩ = some (.int .i64 a0_0) := (blk_cell BK339.out 0).trans rfl
   have hcz9_1 : w.cell? ⟨g0_0, 1, none⟩ = some (.slice A0_1 l0_1.length c0_1) := (blk_cell BK339.out 1).trans rfl
   have hcz9_2 : w.cell? ⟨g0_0, 2, none⟩ = some (.slice A0_2 l0_2.length c0_2) := (blk_cell BK339.out 2).trans rfl
   have hfz9_0 := blk_frozen BK339.out 0
   have hfz9_1 := blk_frozen BK339.out 1
   have hfz9_2 := blk_frozen BK339.out 2
   go_enter Try.func37, Try.ntmps37
   go_wp2_with (first | ((with_reducible refine gate_callee (f := 58) rfl ?_); refine goesL_ (some 12) rfl rfl Try.func58 (by kernel_rfl) rfl #[.slice A0_1 l0_1.length c0_1, .string a1] rfl (by (try simp only [List.map_toArray, List.map_cons, List.map_nil]); first | done | rfl | (simp only [List.length_drop, List.length_take]; rfl)) ?_; (with_reducible refine (slices_Index_string_string.calls k _ _ l0_1 a1 t340 _ ?side1 ?side2 A3.out).mono ?_); (case side1 => repeat (first | exact HR0_1.out | (with_reducible refine Kd.C_alloc ?_ _) | (with_reducible refine Kd.C_drewN ?_ _) | (with_reducible refine Kd.C_drew ?_))); (case side2 => exact HC0_1.out); rintro e w' ⟨rfl, ⟨nd, rfl⟩⟩; refine ⟨_, rfl, ?_⟩) | ((with_reducible refine gate_callee (f := 58) rfl ?_); refine goesL_ (some 21) rfl rfl Try.func58 (by kernel_rfl) rfl #[.slice A0_2 l0_2.length c0_2, .string a1] rfl (by (try simp only [List.map_toArray, List.map_cons, List.map_nil]); first | done | rfl | (simp only [List.length_drop, List.length_take]; rfl)) ?_; (with_reducible refine (slices_Index_string_string.calls k _ _ l0_2 a1 t341 _ ?side1 ?side2 A6.out).mono ?_); (case side1 => repeat (first | exact HR0_2.out | (with_reducible refine Kd.C_alloc ?_ _) | (with_reducible refine Kd.C_drewN ?_ _) | (with_reducible refine Kd.C_drew ?_))); (case side2 => exact HC0_2.out); rintro e w' ⟨rfl, ⟨nd, rfl⟩⟩; refine ⟨_, rfl, ?_⟩))
   go_ret
   exact ⟨by first | rfl | (simp [errW_none, errW_some] <;> rfl) | (simp [*, errW_none, errW_some] <;> rfl), by repeat (first | (with_reducible first | exact HB.out | apply below_alloc | apply pw_below_drewN | apply below_drew1 | refine below_set ?_ GE339.out) | exact HB.out)⟩
shelf_lay Lays2.n22 Nm2 22 at Try as insertLays
theorem slices_Insert_one.calls (Pt : Nat → Prop) (tv : Value) (l : List ByteArray) (i : Nat) (x : ByteArray) (vb vc : Nat) (cv : Array Value) (w0 w : World) (hB : Below w0.heap.size w0 w) (ht : Kd.R Kd.string 9 w w0.heap.size Pt tv l) (hi : i ≤ l.length) (hl : l.length ≤ 1000) (hv : w.heap[vb]? = some (.cells cv 9 (0, 0))) (hv0 : cv[0]? = some (.string x)) (hvn : some vb ≠ tv.ownBlock) :
    Calls Try.prog 61 #[tv, .int .i64 (i : Int), .slice (some ⟨vb, 0, none⟩) 1 vc] w fun e w' => ∃ v0_ : Value, e = .returned v0_ ∧ Kd.R Kd.string 9 w' w0.heap.size (fun k_ => (Pt k_ ∨ w.heap.size ≤ k_)) v0_ (l.take i ++ x :: l.drop i) ∧ Below w0.heap.size w0 w' ∧ Kept w w' (fun k_ => Pt k_) :=
  Go.Proofs.Ythaicmebdgeamaa.Inserts.insert_row insertLays 9 rfl Pt tv l i x vb vc w0 w hB ht hi hl cv hv hv0 hvn
def impl_settle.f (k : Nat) (seed : Int) (slots : List ByteArray) (key : ByteArray) : Option (Bool × List ByteArray) := (impl_cellsOf.f k seed key (slots.length : Int)).bind fun ab => (if 0 ≤ ab.1 then (if ab.1 < (slots.length : Int) then (if (rdOf ByteArray.empty slots ab.1).toList = ([] : List UInt8) then (some (true, slots.set ab.1.toNat key)) else (if 0 ≤ ab.2 then (if ab.2 < (slots.length : Int) then (if (rdOf ByteArray.empty slots ab.2).toList = ([] : List UInt8) then (some (true, slots.set ab.2.toNat key)) else (some (false, slots))) else (none)) else (none))) else (none)) else (none))
theorem impl_settle.mono : ∀ a0 a1 a2 k, LeO (impl_settle.f k a0 a1 a2) (impl_settle.f (k + 1) a0 a1 a2) := by
 intro a0 a1 a2 k
 unfold impl_settle.f
 exact LeO.bind (impl_cellsOf.mono _ _ _ _) (fun _ => LeO.refl _)
theorem impl_settle.index0 (x y : Int) (W : World) : (Instr.index 66 (.agg #[.int .i64 x, .int .i64 y]) (.int .i64 0)).run Try.prog W = .ok (.int .i64 x) W := by
 have hu66 := Try.underlying66
 first | rfl | (simp [Instr.run, hu66]; done) | (go_simp; rfl) | (simp [run_underlying hu66]; rfl)
theorem impl_settle.index1 (x y : Int) (W : World) : (Instr.index 66 (.agg #[.int .i64 x, .int .i64 y]) (.int .i64 1)).run Try.prog W = .ok (.int .i64 y) W := by
 have hu66 := Try.underlying66
 first | rfl | (simp [Instr.run, hu66]; done) | (go_simp; rfl) | (simp [run_underlying hu66]; rfl)
def impl_settle.T1 : Bool × List (List Nat × List Nat) := (true, [([], []), ([0], [0]), ([1], [1]), ([2], [2]), ([], []), ([], []), ([5], [5]), ([6], [6]), ([7], [7]), ([8], [8]), ([3, 4, 9], [3, 4, 9]), ([10], [10]), ([11], [11]), ([11], [11]), ([12, 10, 0, 1, 2, 3, 4, 5, 6, 7, 8, 9, 10, 11, 12], [12]), ([13, 14, 0, 1, 2, 3, 4, 5, 6, 7, 8, 9, 10, 11, 12, 13, 14], [13])])
def impl_settle.B1 : List Nat := [0, 1, 3, 7, 0, 0, 32, 96, 224, 480, 1023, 2047, 4095, 4095, 8191, 32767]
theorem impl_settle.tab1 : rtab .any (opsOf Try.f27 1) = impl_settle.T1 := by kernel_rfl
theorem impl_settle.bits1 : waitsOk impl_settle.T1.2 impl_settle.B1 = true := by kernel_rfl
set_option maxHeartbeats 8000000 in
set_option maxRecDepth 100000 in
theorem impl_settle.calls (k : Nat) (g : Nat) (seed : Int) (P0_ : Nat → Prop) (sv tv : Value) (slots : List ByteArray) (key : ByteArray) (r : Bool) (r2 : List ByteArray) (w0 w : World) (hB : Below w0.heap.size w0 w) (hbk : w.heap[g]? = some (.cells #[.int .i64 seed, sv, tv] 26 (0, 0))) (ho : Kd.R Kd.string 9 w w0.heap.size P0_ sv slots) (h : impl_settle.f k seed slots key = some (r, r2)) :
  Calls Try.prog 27 #[.pointer (some ⟨g, 0, none⟩), .string key] w fun e w' => e = .returned (.bool r) ∧ Kd.R Kd.string 9 w' w0.heap.size P0_ sv r2 ∧ Below w0.heap.size w0 w' ∧ Kept w w' (fun k_ => some k_ = sv.ownBlock) := by
 have hu26 := Try.underlying26
 have hu66 := Try.underlying66
 have hix0 : ∀ (x y : Int) (W : World), (Instr.index 66 (.agg #[.int .i64 x, .int .i64 y]) (.int .i64 0)).run Try.prog W = .ok (.int .i64 x) W := impl_settle.index0
 have hix1 : ∀ (x y : Int) (W : World), (Instr.index 66 (.agg #[.int .i64 x, .int .i64 y]) (.int .i64 1)).run Try.prog W = .ok (.int .i64 y) W := impl_settle.index1
 have HO := Aside0.mk ho
 have BK := Aside0.mk hbk
 have HB := Aside0.mk hB
 clear ho hbk hB
 have HK := Aside0.mk (Kept.refl w (fun k_ => some k_ = sv.ownBlock))
 obtain ⟨As, cs, es⟩ := Kd.R_slice HO.out
 subst es
 unfold impl_settle.f at h
 obtain ⟨⟨ta, tb⟩, A20, H⟩ := Option.bind_eq_some_iff.mp h
 clear h
 have A2 := Aside0.mk A20
 clear A20
 have HQ := Aside0.mk (show (if 0 ≤ ta then (if ta < (slots.length : Int) then (if (rdOf ByteArray.empty slots ta).toList = ([] : List UInt8) then (some (true, slots.set ta.toNat key)) else (if 0 ≤ tb then (if tb < (slots.length : Int) then (if (rdOf ByteArray.empty slots tb).toList = ([] : List UInt8) then (some (true, slots.set tb.toNat key)) else (some (false, slots))) else (none)) else (none))) else (none)) else (none)) = some (r, r2) from H)
 clear H
 go_enter Try.func27, Try.ntmps27
 try go_wp2
 have n0_ := Aside0.mk (blk_drew BK.out)
 have n1_ := Aside0.mk (below_drew1 HB.out)
 have n2_ := Aside0.mk (Kd.R_drew HO.out)
 have n3_ := Aside0.mk (Kept.drew HK.out)
 clear BK HB HO HK
 have BK := n0_
 have HB := n1_
 have HO := n2_
 have HK := n3_
 clear n0_ n1_ n2_ n3_
 refine start_ (n := 16) (S := fun w' => w'.cell? ⟨g, 0, none⟩ = some (.int .i64 seed) ∧ w'.cell? ⟨g, 1, none⟩ = some (.slice As slots.length cs)) (ds := []) #[false, false, false, false, false, false, false, false, false, false, false, false, false, false, false, false] (by kernel_rfl) rfl rfl ⟨(blk_cell BK.out 0).trans rfl, (blk_cell BK.out 1).trans rfl⟩ (fun hHeld => ?_); refine with_tabW impl_settle.tab1 impl_settle.bits1 (fun HT_ HW_ => ?_)
 generalize w.drew = w5 at BK HB HO HK hHeld ⊢
 refine pure_ (i := 0) (N := (some 10)) (v := ?_) (a' := ?_) #[true, false, false, false, false, false, false, false, false, false, false, false, false, false, false, false] rfl rfl (any_of HT_.out (by kernel_rfl)) (fun _ _ _ h => h) (Or.inl ⟨by rfl, ?_⟩) ?_ ?_
 rotate_left
 · intro w'
   go_simp
   with_reducible rfl
 rotate_left
 · simp only [Act.put, List.setIfInBounds_toArray, List.set_cons_zero, List.set_cons_succ, i64_w, i32_w]
   rfl
 refine pure_ (i := 1) (N := (some 11)) (v := ?_) (a' := ?_) #[true, true, false, false, false, false, false, false, false, false, false, false, false, false, false, false] rfl rfl (any_of HT_.out (by kernel_rfl)) (fun _ _ _ h => h) (Or.inl ⟨by rfl, ?_⟩) ?_ ?_
 rotate_left
 · intro w'
   go_simp
   with_reducible rfl
 rotate_left
 · simp only [Act.put, List.setIfInBounds_toArray, List.set_cons_zero, List.set_cons_succ, i64_w, i32_w]
   rfl
 refine pure_ (i := 2) (N := (some 12)) (v := ?_) (a' := ?_) #[true, true, true, false, false, false, false, false, false, false, false, false, false, false, false, false] rfl rfl (any_of HT_.out (by kernel_rfl)) (fun _ _ _ h => h) (Or.inl ⟨by rfl, ?_⟩) ?_ ?_
 rotate_left
 · intro w'
   go_simp
   with_reducible rfl
 rotate_left
 · simp only [Act.put, List.setIfInBounds_toArray, List.set_cons_zero, List.set_cons_succ, i64_w, i32_w]
   rfl
 refine pure_ (i := 4) (N := (some 14)) (v := ?_) (a' := ?_) #[true, true, true, false, true, false, false, false, false, false, false, false, false, false, false, false] rfl rfl (any_of HT_.out (by kernel_rfl)) (fun _ _ _ h => h) (Or.inl ⟨by rfl, ?_⟩) ?_ ?_
 rotate_left
 · intro w'
   go_simp
   with_reducible rfl
 rotate_left
 · simp only [Act.put, List.setIfInBounds_toArray, List.set_cons_zero, List.set_cons_succ, i64_w, i32_w]
   rfl
 refine pure_ (i := 5) (N := (some 15)) (v := ?_) (a' := ?_) #[true, true, true, false, true, true, false, false, false, false, false, false, false, false, false, false] rfl rfl (any_of HT_.out (by kernel_rfl)) (fun _ _ _ h => h) (Or.inl ⟨by rfl, ?_⟩) ?_ ?_
 rotate_left
 · intro w'
   go_simp
   with_reducible rfl
 rotate_left
 · simp only [Act.put, List.setIfInBounds_toArray, List.set_cons_zero, List.set_cons_succ, i64_w, i32_w]
   rfl
 refine pure_ (i := 6) (N := (some 16)) (v := ?_) (a' := ?_) #[true, true, true, false, true, true, true, false, false, false, false, false, false, false, false, false] rfl rfl (any_of HT_.out (by kernel_rfl)) (fun _ _ _ h => h) (Or.inl ⟨by rfl, ?_⟩) ?_ ?_
 rotate_left
 · intro w'
   go_simp
   with_reducible rfl
 rotate_left
 · simp only [Act.put, List.setIfInBounds_toArray, List.set_cons_zero, List.set_cons_succ, i64_w, i32_w]
   rfl
 refine pure_ (i := 7) (N := (some 17)) (v := ?_) (a' := ?_) #[true, true, true, false, true, true, true, true, false, false, false, false, false, false, false, false] rfl rfl (any_of HT_.out (by kernel_rfl)) (fun _ _ _ h => h) (Or.inl ⟨by rfl, ?_⟩) ?_ ?_
 rotate_left
 · intro w'
   go_simp
   with_reducible rfl
 rotate_left
 · simp only [Act.put, List.setIfInBounds_toArray, List.set_cons_zero, List.set_cons_succ, i64_w, i32_w]
   rfl
 refine take_ (i := 3) (N := (some 13)) (v := ?_) (a' := ?_) #[true, true, true, true, true, true, true, true, false, false, false, false, false, false, false, false] rfl rfl (take_ofW HT_.out HW_.out (by kernel_rfl)) (fun _ _ _ h => h) (Or.inl ⟨by rfl, ?_⟩) hHeld ?_ ?_
 rotate_left
 · rintro w' ⟨s0, s1⟩
   go_simp
   with_reducible rfl
 rotate_left
 · simp only [Act.put, List.setIfInBounds_toArray, List.set_cons_zero, List.set_cons_succ, i64_w, i32_w]
   rfl
 refine take_ (i := 8) (N := (some 18)) (v := ?_) (a' := ?_) #[true, true, true, true, true, true, true, true, true, false, false, false, false, false, false, false] rfl rfl (take_ofW HT_.out HW_.out (by kernel_rfl)) (fun _ _ _ h => h) (Or.inl ⟨by rfl, ?_⟩) hHeld ?_ ?_
 rotate_left
 · rintro w' ⟨s0, s1⟩
   go_simp
   with_reducible rfl
 rotate_left
 · simp only [Act.put, List.setIfInBounds_toArray, List.set_cons_zero, List.set_cons_succ, i64_w, i32_w]
   rfl
 refine pure_ (i := 9) (N := (some 19)) (v := ?_) (a' := ?_) #[true, true, true, true, true, true, true, true, true, true, false, false, false, false, false, false] rfl rfl (any_of HT_.out (by kernel_rfl)) (fun _ _ _ h => h) (Or.inl ⟨by rfl, ?_⟩) ?_ ?_
 rotate_left
 · intro w'
   go_simp
   with_reducible rfl
 rotate_left
 · simp only [Act.put, List.setIfInBounds_toArray, List.set_cons_zero, List.set_cons_succ, i64_w, i32_w]
   rfl
 refine one_ (i := 10) (N := (some 20)) #[true, true, true, true, true, true, true, true, true, true, true, false, false, false, false, false] rfl rfl (one_of HT_.out (by kernel_rfl)) (by decide) (fun K hK => ?_)
 refine goes_ Try.func51 (by kernel_rfl) rfl #[.int .i64 seed, .string key, .int .i64 (slots.length : Int)] (by rfl) rfl rfl (by (try simp only [List.map_toArray, List.map_cons, List.map_nil]); first | done | rfl | (simp only [List.length_drop, List.length_take]; rfl)) ?_
 with_reducible refine (impl_cellsOf.calls k seed key (slots.length : Int) ta tb _ A2.out).mono ?_
 rintro e w' ⟨rfl, ⟨nd, rfl⟩⟩
 refine ⟨_, rfl, ?_⟩
 have n0_ := Aside0.mk (blk_drewN BK.out nd)
 have n1_ := Aside0.mk (pw_below_drewN HB.out nd)
 have n2_ := Aside0.mk (Kd.R_drewN HO.out nd)
 have n3_ := Aside0.mk (Kept.drewN HK.out nd)
 clear BK HB HO HK
 have BK := n0_
 have HB := n1_
 have HO := n2_
 have HK := n3_
 clear n0_ n1_ n2_ n3_
 refine hK.out _ _ ⟨(blk_cell BK.out 0).trans rfl, (blk_cell BK.out 1).trans rfl⟩ (fun hHeld => ?_)
 clear hK K
 generalize w5.drewN nd = w6 at BK HB HO HK hHeld ⊢
 refine norm_ (a' := ?_) ?_ ?_
 rotate_left
 · show Act.put _ (some 20) _ = _
   simp only [Act.put, List.setIfInBounds_toArray, List.set_cons_zero, List.set_cons_succ, i64_w, i32_w]
   rfl
 refine pure_ (i := 11) (N := (some 9)) (v := ?_) (a' := ?_) #[true, true, true, true, true, true, true, true, true, true, true, true, false, false, false, false] rfl rfl (any_of HT_.out (by kernel_rfl)) (fun _ _ _ h => h) (Or.inl ⟨by rfl, ?_⟩) ?_ ?_
 rotate_left
 · intro w'
   go_simp
   with_reducible rfl
 rotate_left
 · simp only [Act.put, List.setIfInBounds_toArray, List.set_cons_zero, List.set_cons_succ, i64_w, i32_w]
   rfl
 refine pure_ (i := 12) (N := (some 21)) (v := ?_) (a' := ?_) #[true, true, true, true, true, true, true, true, true, true, true, true, true, false, false, false] rfl rfl (any_of HT_.out (by kernel_rfl)) (fun _ _ _ h => h) (Or.inl ⟨by rfl, ?_⟩) ?_ ?_
 rotate_left
 · intro w'
   go_simp
   with_reducible rfl
 rotate_left
 · simp only [Act.put, List.setIfInBounds_toArray, List.set_cons_zero, List.set_cons_succ, i64_w, i32_w]
   rfl
 refine pure_ (i := 13) (N := (some 22)) (v := ?_) (a' := ?_) #[true, true, true, true, true, true, true, true, true, true, true, true, true, true, false, false] rfl rfl (any_of HT_.out (by kernel_rfl)) (fun _ _ _ h => h) (Or.inl ⟨by rfl, ?_⟩) ?_ ?_
 rotate_left
 · intro w'
   go_simp
   with_reducible rfl
 rotate_left
 · simp only [Act.put, List.setIfInBounds_toArray, List.set_cons_zero, List.set_cons_succ, i64_w, i32_w]
   rfl
 refine pure_ (i := 14) (N := (some 5)) (v := ?_) (a' := ?_) #[true, true, true, true, true, true, true, true, true, true, true, true, true, true, true, false] rfl rfl (any_of HT_.out (by kernel_rfl)) (fun _ _ _ h => h) (Or.inl ⟨by rfl, ?_⟩) ?_ ?_
 rotate_left
 · intro w'
   go_simp
   with_reducible rfl
 rotate_left
 · simp only [Act.put, List.setIfInBounds_toArray, List.set_cons_zero, List.set_cons_succ, i64_w, i32_w]
   rfl
 refine pure_ (i := 15) (N := (some 6)) (v := ?_) (a' := ?_) #[true, true, true, true, true, true, true, true, true, true, true, true, true, true, true, true] rfl rfl (any_of HT_.out (by kernel_rfl)) (fun _ _ _ h => h) (Or.inl ⟨by rfl, ?_⟩) ?_ ?_
 rotate_left
 · intro w'
   go_simp
   with_reducible rfl
 rotate_left
 · simp only [Act.put, List.setIfInBounds_toArray, List.set_cons_zero, List.set_cons_succ, i64_w, i32_w]
   rfl
 refine done_ (by kernel_rfl) ?_
 try go_wp2
 go_loopg [26] 2 (fun kq v26 w' => ∃ (i : Nat), v26 = .int .i64 (i : Int) ∧ Aside0 (i + kq = 2) ∧ Aside0 (i ≠ 0 → ¬ ((rdOf ByteArray.empty slots ta).toList = ([] : List UInt8))) ∧ Aside0 (i = 2 → ¬ ((rdOf ByteArray.empty slots tb).toList = ([] : List UInt8))) ∧ Aside0 (w'.heap[g]? = some (.cells #[.int .i64 seed, .slice As slots.length cs, tv] 26 (0, 0))) ∧ Aside0 (Kd.R Kd.string 9 w' w0.heap.size P0_ (.slice As slots.length cs) slots) ∧ Aside0 (Below w0.heap.size w0 w') ∧ Aside0 (Kept w w' (fun k_ => some k_ = (.slice As slots.length cs : Value).ownBlock)))
 case atStart => exact ⟨0, rfl, ⟨rfl⟩, ⟨fun h_ => absurd rfl h_⟩, ⟨fun h_ => by omega⟩, ⟨by refine uW ?_; exact BK.out⟩, ⟨by (with_reducible repeat (first | apply Kd.R_alloc | apply Kd.R_drewN | apply Kd.R_drew)); exact HO.out⟩, ⟨uB HB⟩, ⟨by repeat (first | (with_reducible first | exact HK.out | apply Kept.alloc | apply Kept.drewN | apply Kept.drew) | exact HK.out)⟩⟩
 case round =>
  clear BK HO HB HK
  obtain ⟨i, rfl, HI, HN, HM, BK, HO, HB, HK⟩ := hrel
  have hi_ := HI.out
  have H := HQ.out
  by_cases z0 : i = 0
  ·
   obtain rfl : i = 0 := z0
   by_cases c1 : 0 ≤ ta
   · rw [if_pos c1] at H
     by_cases c2 : ta < (slots.length : Int)
     · rw [if_pos c2] at H
       obtain ⟨go9, co9, eo9, gb9, gl9, cl9, HG9⟩ := Kd.R_form HO.out (by omega)
       cases eo9
       have GB9 := Aside0.mk gb9
       obtain ⟨hx9_0, hf9_0⟩ := Kd.R_celln (⟨#[]⟩ : ByteArray) HO.out (ta : Int) c1 c2
       have hcz_0 : wr.cell? ⟨g, 0, none⟩ = some (.int .i64 seed) := (blk_cell BK.out 0).trans rfl
       have hcz_1 : wr.cell? ⟨g, 1, none⟩ = some (.slice (some ⟨go9, 0, none⟩) slots.length cs) := (blk_cell BK.out 1).trans rfl
       have hfz_0 := blk_frozen BK.out 0
       have hfz_1 := blk_frozen BK.out 1
       have p9 : (0 ≤ (ta : Int)) = True := eq_true c1
       have q9 : (ta < (slots.length : Int)) = True := eq_true c2
       have pd9 : decide (0 ≤ (ta : Int)) = true := decide_eq_true c1
       have qd9 : decide (ta < (slots.length : Int)) = true := decide_eq_true c2
       by_cases e1 : (rdOf ByteArray.empty slots ta).toList = ([] : List UInt8)
       · rw [if_pos e1] at H
         have e1b0 : ((rdOf ByteArray.empty slots ta).toList == ([] : List UInt8)) = true := beq_iff_eq.mpr e1
         have e1b1 : ((rdOf ByteArray.empty slots ta).toList != ([] : List UInt8)) = false := bne_eq_false_iff_eq.mpr e1
         have e1b2 : (rdOf (⟨#[]⟩ : ByteArray) slots ta).toList.isEmpty = true := List.isEmpty_iff.2 e1
         simp only [Option.some.injEq, Prod.mk.injEq] at H
         obtain ⟨rfl, rfl⟩ := H
         have HP10 := Kd.R_putg HO.out (ta : Int) key
         clear c1 c2 e1
         go_wp2_with (first | ((with_reducible refine gate_store (t := 9) (p := 43) rfl ?_); refine store_event (t := 9) (p := 43) (v := ?vo_w11) (w1 := (wr.setCell ⟨go9, (ta : Int).toNat, none⟩ (.string key))) ?hg ?ho ?hn ?hr ?_; (case ho => rfl); (case hg => rfl); (case hn => rfl); (case hr => first | (go_simp; done) | (go_simp; rfl)); intro w11 hw; have hg : wr.grownBy w11 (some go9) := (by rw [hw]; exact HP10.2); have hp_ : Kd.R Kd.string 9 w11 w0.heap.size P0_ (.slice (some ⟨go9, 0, none⟩) slots.length cs) (slots.set (ta : Int).toNat key) := (by rw [hw]; exact HP10.1); clear HP10; have n0_ := Aside0.mk (hp_); have n1_ := Aside0.mk ((by rw [hw]; exact below_set (HB.out) GB9.out : Below w0.heap.size w0 w11)); have n2_ := Aside0.mk (Kept.of_grown hg HK.out (fun k_ e_ => .inl e_.symm)); clear HO HB HK; have HO := n0_; have HB := n1_; have HK := n2_; clear n0_ n1_ n2_; clear hg hw hp_))
         go_ret
         exact ⟨rfl, by (with_reducible repeat (first | apply Kd.R_alloc | apply Kd.R_drewN | apply Kd.R_drew)); exact HO.out, uB HB, by repeat (first | (with_reducible first | exact HK.out | apply Kept.alloc | apply Kept.drewN | apply Kept.drew) | exact HK.out)⟩
       · rw [if_neg e1] at H
         have E1 := Aside0.mk e1
         have e1b0 : ((rdOf ByteArray.empty slots ta).toList == ([] : List UInt8)) = false := beq_eq_false_iff_ne.mpr e1
         have e1b1 : ((rdOf ByteArray.empty slots ta).toList != ([] : List UInt8)) = true := bne_iff_ne.mpr e1
         have e1b2 : (rdOf (⟨#[]⟩ : ByteArray) slots ta).toList.isEmpty = false := by rw [Bool.eq_false_iff]; exact fun h_ => E1.out (List.isEmpty_iff.1 h_)
         clear c1 c2 e1 H
         go_wp2
         go_roundg 1
         case measure => omega
         case rel => exact ⟨1, (by first | rfl | (simp; done)), ⟨by omega⟩, ⟨fun _ => E1.out⟩, ⟨fun h_ => by omega⟩, BK, HO, HB, HK⟩
     · rw [if_neg c2] at H; cases H
   · rw [if_neg c1] at H; cases H
  · by_cases z1 : i = 1
    ·
     obtain rfl : i = 1 := z1
     by_cases c1 : 0 ≤ ta
     · rw [if_pos c1] at H
       by_cases c2 : ta < (slots.length : Int)
       · rw [if_pos c2, if_neg (HN.out (by omega))] at H
         by_cases d1 : 0 ≤ tb
         · rw [if_pos d1] at H
           by_cases d2 : tb < (slots.length : Int)
           · rw [if_pos d2] at H
             obtain ⟨go9, co9, eo9, gb9, gl9, cl9, HG9⟩ := Kd.R_form HO.out (by omega)
             cases eo9
             have GB9 := Aside0.mk gb9
             obtain ⟨hx9_0, hf9_0⟩ := Kd.R_celln (⟨#[]⟩ : ByteArray) HO.out (tb : Int) d1 d2
             have hcz_0 : wr.cell? ⟨g, 0, none⟩ = some (.int .i64 seed) := (blk_cell BK.out 0).trans rfl
             have hcz_1 : wr.cell? ⟨g, 1, none⟩ = some (.slice (some ⟨go9, 0, none⟩) slots.length cs) := (blk_cell BK.out 1).trans rfl
             have hfz_0 := blk_frozen BK.out 0
             have hfz_1 := blk_frozen BK.out 1
             have p9 : (0 ≤ (tb : Int)) = True := eq_true d1
             have q9 : (tb < (slots.length : Int)) = True := eq_true d2
             have pd9 : decide (0 ≤ (tb : Int)) = true := decide_eq_true d1
             have qd9 : decide (tb < (slots.length : Int)) = true := decide_eq_true d2
             by_cases e1 : (rdOf ByteArray.empty slots tb).toList = ([] : List UInt8)
             · rw [if_pos e1] at H
               have e1b0 : ((rdOf ByteArray.empty slots tb).toList == ([] : List UInt8)) = true := beq_iff_eq.mpr e1
               have e1b1 : ((rdOf ByteArray.empty slots tb).toList != ([] : List UInt8)) = false := bne_eq_false_iff_eq.mpr e1
               have e1b2 : (rdOf (⟨#[]⟩ : ByteArray) slots tb).toList.isEmpty = true := List.isEmpty_iff.2 e1
               simp only [Option.some.injEq, Prod.mk.injEq] at H
               obtain ⟨rfl, rfl⟩ := H
               have HP10 := Kd.R_putg HO.out (tb : Int) key
               clear c1 c2 d1 d2 e1
               go_wp2_with (first | ((with_reducible refine gate_store (t := 9) (p := 43) rfl ?_); refine store_event (t := 9) (p := 43) (v := ?vo_w11) (w1 := (wr.setCell ⟨go9, (tb : Int).toNat, none⟩ (.string key))) ?hg ?ho ?hn ?hr ?_; (case ho => rfl); (case hg => rfl); (case hn => rfl); (case hr => first | (go_simp; done) | (go_simp; rfl)); intro w11 hw; have hg : wr.grownBy w11 (some go9) := (by rw [hw]; exact HP10.2); have hp_ : Kd.R Kd.string 9 w11 w0.heap.size P0_ (.slice (some ⟨go9, 0, none⟩) slots.length cs) (slots.set (tb : Int).toNat key) := (by rw [hw]; exact HP10.1); clear HP10; have n0_ := Aside0.mk (hp_); have n1_ := Aside0.mk ((by rw [hw]; exact below_set (HB.out) GB9.out : Below w0.heap.size w0 w11)); have n2_ := Aside0.mk (Kept.of_grown hg HK.out (fun k_ e_ => .inl e_.symm)); clear HO HB HK; have HO := n0_; have HB := n1_; have HK := n2_; clear n0_ n1_ n2_; clear hg hw hp_))
               go_ret
               exact ⟨rfl, by (with_reducible repeat (first | apply Kd.R_alloc | apply Kd.R_drewN | apply Kd.R_drew)); exact HO.out, uB HB, by repeat (first | (with_reducible first | exact HK.out | apply Kept.alloc | apply Kept.drewN | apply Kept.drew) | exact HK.out)⟩
             · rw [if_neg e1] at H
               have E1 := Aside0.mk e1
               have e1b0 : ((rdOf ByteArray.empty slots tb).toList == ([] : List UInt8)) = false := beq_eq_false_iff_ne.mpr e1
               have e1b1 : ((rdOf ByteArray.empty slots tb).toList != ([] : List UInt8)) = true := bne_iff_ne.mpr e1
               have e1b2 : (rdOf (⟨#[]⟩ : ByteArray) slots tb).toList.isEmpty = false := by rw [Bool.eq_false_iff]; exact fun h_ => E1.out (List.isEmpty_iff.1 h_)
               clear c1 c2 d1 d2 e1 H
               go_wp2
               go_roundg 0
               case measure => omega
               case rel => exact ⟨2, (by first | rfl | (simp; done)), ⟨by omega⟩, ⟨fun _ => HN.out (by omega)⟩, ⟨fun _ => E1.out⟩, BK, HO, HB, HK⟩
           · rw [if_neg d2] at H; cases H
         · rw [if_neg d1] at H; cases H
       · rw [if_neg c2] at H; cases H
     · rw [if_neg c1] at H; cases H
    · obtain rfl : i = 2 := by omega
      by_cases c1 : 0 ≤ ta
      · rw [if_pos c1] at H
        by_cases c2 : ta < (slots.length : Int)
        · rw [if_pos c2, if_neg (HN.out (by omega))] at H
          by_cases d1 : 0 ≤ tb
          · rw [if_pos d1] at H
            by_cases d2 : tb < (slots.length : Int)
            · rw [if_pos d2, if_neg (HM.out rfl)] at H
              simp only [Option.some.injEq, Prod.mk.injEq] at H
              obtain ⟨rfl, rfl⟩ := H
              clear c1 c2 d1 d2
              go_wp2
              go_ret
              exact ⟨rfl, by (with_reducible repeat (first | apply Kd.R_alloc | apply Kd.R_drewN | apply Kd.R_drew)); exact HO.out, uB HB, by repeat (first | (with_reducible first | exact HK.out | apply Kept.alloc | apply Kept.drewN | apply Kept.drew) | exact HK.out)⟩
            · rw [if_neg d2] at H; cases H
          · rw [if_neg d1] at H; cases H
        · rw [if_neg c2] at H; cases H
      · rw [if_neg c1] at H; cases H
def impl_pushL (seed moves : Int) (stash : List ByteArray) : Nat → List ByteArray → ByteArray → Int → Int → Option (Int × Bool × List ByteArray × List ByteArray)
 | 0, _, _, _, _ => none
 | k + 1, slots, key, cell, thrown => if 0 ≤ cell then (if cell < (slots.length : Int) then (if (rdOf ByteArray.empty slots cell).toList = ([] : List UInt8) then (some (thrown, true, slots.set cell.toNat key, stash)) else (if thrown = moves then ((slices_BinarySearch_string_string.f k stash key).bind fun bt => (if 0 ≤ bt.1 ∧ bt.1 ≤ (stash.length : Int) ∧ stash.length ≤ 1000 then (some (thrown, decide ((stash.length : Int) + 1 ≤ 4), slots, stash.take bt.1.toNat ++ key :: stash.drop bt.1.toNat)) else (none))) else ((impl_cellsOf.f k seed (rdOf ByteArray.empty slots cell) (slots.length : Int)).bind fun ab => (impl_pushL seed moves stash k (slots.set cell.toNat key) (rdOf ByteArray.empty slots cell) (wrap64 ((wrap64 (ab.1 + ab.2)) - cell)) (wrap64 (thrown + 1)))))) else (none)) else (none)
theorem impl_pushL.mono (seed moves : Int) (stash : List ByteArray) : ∀ k a0 a1 a2 a3, LeO (impl_pushL seed moves stash k a0 a1 a2 a3) (impl_pushL seed moves stash (k + 1) a0 a1 a2 a3)
 | 0, _, _, _, _ => fun r h => by simp [impl_pushL] at h
 | k + 1, a0, a1, a2, a3 => by
  have ih := impl_pushL.mono seed moves stash k
  unfold impl_pushL
  repeat' first
   | (with_reducible exact ih _ _ _ _)
   | (with_reducible exact impl_cellsOf.mono _ _ _ _)
   | (with_reducible exact slices_BinarySearch_string_string.mono _ _ _)
   | (with_reducible exact LeO.refl _)
   | (with_reducible exact LeO.none _)
   | (with_reducible refine LeO.ite ?_ ?_)
   | (with_reducible refine LeO.bind ?_ (fun _ => ?_))
def impl_push.f (k : Nat) (seed : Int) (slots stash : List ByteArray) (key : ByteArray) (moves : Int) : Option (Int × Bool × List ByteArray × List ByteArray) := (impl_cellsOf.f k seed key (slots.length : Int)).bind fun ab => (impl_pushL seed moves stash k slots key ab.1 0)
theorem impl_push.mono : ∀ a0 a1 a2 a3 a4 k, LeO (impl_push.f k a0 a1 a2 a3 a4) (impl_push.f (k + 1) a0 a1 a2 a3 a4) := by
 intro a0 a1 a2 a3 a4 k
 unfold impl_push.f
 exact LeO.bind (impl_cellsOf.mono _ _ _ _) (fun _ => impl_pushL.mono _ _ _ _ _ _ _ _)
def impl_push.T1 : Bool × List (List Nat × List Nat) := (true, [([], []), ([0], [0]), ([1], [1]), ([2], [2]), ([], []), ([], []), ([5], [5]), ([6], [6]), ([7], [7]), ([8], [8]), ([3, 4, 9], [3, 4, 9]), ([10], [10]), ([11], [11]), ([11], [11]), ([12, 10, 0, 1, 2, 3, 4, 5, 6, 7, 8, 9, 10, 11, 12], [12]), ([13, 14, 0, 1, 2, 3, 4, 5, 6, 7, 8, 9, 10, 11, 12, 13, 14], [13])])
def impl_push.B1 : List Nat := [0, 1, 3, 7, 0, 0, 32, 96, 224, 480, 1023, 2047, 4095, 4095, 8191, 32767]
theorem impl_push.tab1 : rtab .any (opsOf Try.f39 1) = impl_push.T1 := by kernel_rfl
theorem impl_push.bits1 : waitsOk impl_push.T1.2 impl_push.B1 = true := by kernel_rfl
def impl_push.T10 : Bool × List (List Nat × List Nat) := (true, [([], []), ([], []), ([1], [1]), ([2], [2]), ([3], [3]), ([4], [4]), ([5], [5]), ([0, 0], [0]), ([6, 7, 0, 1, 2, 3, 4, 5, 6, 7], [6])])
def impl_push.B10 : List Nat := [0, 0, 2, 6, 14, 30, 62, 1, 255]
theorem impl_push.tab10 : rtab .any (opsOf Try.f39 10) = impl_push.T10 := by kernel_rfl
theorem impl_push.bits10 : waitsOk impl_push.T10.2 impl_push.B10 = true := by kernel_rfl
def impl_push.T11 : Bool × List (List Nat × List Nat) := (true, [([], []), ([0], [0]), ([1], [1]), ([2], [2]), ([], []), ([], []), ([5], [5]), ([6], [6]), ([7], [7]), ([], []), ([8, 9], [8, 9]), ([10], [10]), ([], []), ([11, 5, 6, 7, 8, 9, 10, 11, 12], [11, 12]), ([3, 4, 0, 1, 2, 3, 4, 5, 6, 7, 8, 9, 10, 11, 12, 13], [3, 4]), ([14, 12, 13, 0, 1, 2, 3, 4, 5, 6, 7, 8, 9, 10, 11, 12, 13], [12, 14])])
def impl_push.B11 : List Nat := [0, 1, 3, 7, 0, 0, 32, 96, 224, 0, 992, 2016, 0, 8160, 16383, 32767]
theorem impl_push.tab11 : rtab .any (opsOf Try.f39 11) = impl_push.T11 := by kernel_rfl
theorem impl_push.bits11 : waitsOk impl_push.T11.2 impl_push.B11 = true := by kernel_rfl
def impl_push.T12 : Bool × List (List Nat × List Nat) := (true, [([], []), ([0], [0]), ([1], [1]), ([2], [2]), ([], []), ([], []), ([5], [5]), ([6], [6]), ([7], [7]), ([8], [8]), ([3, 4, 9], [3, 4, 9]), ([10], [10]), ([11], [11]), ([11], [11]), ([12, 10, 0, 1, 2, 3, 4, 5, 6, 7, 8, 9, 10, 11, 12], [12]), ([13, 14, 0, 1, 2, 3, 4, 5, 6, 7, 8, 9, 10, 11, 12, 13, 14], [13])])
def impl_push.B12 : List Nat := [0, 1, 3, 7, 0, 0, 32, 96, 224, 480, 1023, 2047, 4095, 4095, 8191, 32767]
theorem impl_push.tab12 : rtab .any (opsOf Try.f39 12) = impl_push.T12 := by kernel_rfl
theorem impl_push.bits12 : waitsOk impl_push.T12.2 impl_push.B12 = true := by kernel_rfl
set_option maxHeartbeats 8000000 in
set_option maxRecDepth 100000 in
theorem impl_push.calls (k : Nat) (g : Nat) (seed moves : Int) (Ps Pt : Nat → Prop) (sv tv : Value) (slots stash : List ByteArray) (key : ByteArray) (r1 : Int) (r2 : Bool) (slotsE stashE : List ByteArray) (w0 w : World) (hB : Below w0.heap.size w0 w) (hge : w0.heap.size ≤ g) (hbk : w.heap[g]? = some (.cells #[.int .i64 seed, sv, tv] 26 (0, 0))) (ho : Kd.R Kd.string 9 w w0.heap.size Ps sv slots) (ht : Kd.R Kd.string 9 w w0.heap.size Pt tv stash) (hPs : ∀ k_, Ps k_ → some k_ ≠ tv.ownBlock) (hPt : ∀ k_, Pt k_ → some k_ ≠ sv.ownBlock) (h : impl_push.f k seed slots stash key moves = some (r1, r2, slotsE, stashE)) :
  Calls Try.prog 39 #[.pointer (some ⟨g, 0, none⟩), .string key, .int .i64 moves] w fun e w' => ∃ tv' : Value, e = .returned (.tuple #[.int .i64 r1, .bool r2]) ∧ w'.heap[g]? = some (.cells #[.int .i64 seed, sv, tv'] 26 (0, 0)) ∧ Kd.R Kd.string 9 w' w0.heap.size Ps sv slotsE ∧ Kd.R Kd.string 9 w' w0.heap.size (fun k_ => Pt k_ ∨ w.heap.size ≤ k_) tv' stashE ∧ Below w0.heap.size w0 w' ∧ Kept w w' (fun k_ => (some k_ = sv.ownBlock ∨ Pt k_) ∨ k_ = g) := by
 have hu26 := Try.underlying26
 have HO := Aside0.mk ho
 have HT := Aside0.mk ht
 have BK := Aside0.mk hbk
 have HB := Aside0.mk hB
 have HGE := Aside0.mk hge
 have HP := Aside0.mk hPt
 have HQ := Aside0.mk hPs
 clear ho ht hbk hB hge hPt hPs
 have HK := Aside0.mk (Kept.refl w (fun k_ => (some k_ = sv.ownBlock ∨ Pt k_) ∨ k_ = g))
 obtain ⟨As, cs, es⟩ := Kd.R_slice HO.out
 obtain ⟨ns, hns⟩ : ∃ n, n = slots.length := ⟨_, rfl⟩
 rw [← hns] at es
 subst es
 unfold impl_push.f at h
 obtain ⟨⟨ta, tb⟩, A20, H⟩ := Option.bind_eq_some_iff.mp h
 clear h
 have A2 := Aside0.mk (show impl_cellsOf.f k seed key (ns : Int) = some (ta, tb) by rw [hns]; exact A20)
 clear A20
 have HNS := Aside0.mk hns
 clear hns
 have HQ2 := Aside0.mk (show impl_pushL seed moves stash k slots key ta 0 = some (r1, r2, slotsE, stashE) from H)
 clear H
 go_enter Try.func39, Try.ntmps39
 try go_wp2
 have n0_ := Aside0.mk (blk_drew BK.out)
 have n1_ := Aside0.mk (below_drew1 HB.out)
 have n2_ := Aside0.mk (Kd.R_drew HO.out)
 have n3_ := Aside0.mk (Kept.drew HK.out)
 have n4_ := Aside0.mk (Kd.R_drew HT.out)
 clear BK HB HO HK HT
 have BK := n0_
 have HB := n1_
 have HO := n2_
 have HK := n3_
 have HT := n4_
 clear n0_ n1_ n2_ n3_ n4_
 refine start_ (n := 16) (S := fun w' => w'.cell? ⟨g, 0, none⟩ = some (.int .i64 seed) ∧ w'.cell? ⟨g, 1, none⟩ = some (.slice As ns cs)) (ds := []) #[false, false, false, false, false, false, false, false, false, false, false, false, false, false, false, false] (by kernel_rfl) rfl rfl ⟨(blk_cell BK.out 0).trans rfl, (blk_cell BK.out 1).trans rfl⟩ (fun hHeld => ?_); refine with_tabW impl_push.tab1 impl_push.bits1 (fun HT_ HW_ => ?_)
 generalize w.drew = w5 at BK HB HO HK HT hHeld ⊢
 refine pure_ (i := 0) (N := (some 16)) (v := ?_) (a' := ?_) #[true, false, false, false, false, false, false, false, false, false, false, false, false, false, false, false] rfl rfl (any_of HT_.out (by kernel_rfl)) (fun _ _ _ h => h) (Or.inl ⟨by rfl, ?_⟩) ?_ ?_
 rotate_left
 · intro w'
   go_simp
   with_reducible rfl
 rotate_left
 · simp only [Act.put, List.setIfInBounds_toArray, List.set_cons_zero, List.set_cons_succ, i64_w, i32_w]
   rfl
 refine pure_ (i := 1) (N := (some 17)) (v := ?_) (a' := ?_) #[true, true, false, false, false, false, false, false, false, false, false, false, false, false, false, false] rfl rfl (any_of HT_.out (by kernel_rfl)) (fun _ _ _ h => h) (Or.inl ⟨by rfl, ?_⟩) ?_ ?_
 rotate_left
 · intro w'
   go_simp
   with_reducible rfl
 rotate_left
 · simp only [Act.put, List.setIfInBounds_toArray, List.set_cons_zero, List.set_cons_succ, i64_w, i32_w]
   rfl
 refine pure_ (i := 2) (N := (some 18)) (v := ?_) (a' := ?_) #[true, true, true, false, false, false, false, false, false, false, false, false, false, false, false, false] rfl rfl (any_of HT_.out (by kernel_rfl)) (fun _ _ _ h => h) (Or.inl ⟨by rfl, ?_⟩) ?_ ?_
 rotate_left
 · intro w'
   go_simp
   with_reducible rfl
 rotate_left
 · simp only [Act.put, List.setIfInBounds_toArray, List.set_cons_zero, List.set_cons_succ, i64_w, i32_w]
   rfl
 refine pure_ (i := 4) (N := (some 20)) (v := ?_) (a' := ?_) #[true, true, true, false, true, false, false, false, false, false, false, false, false, false, false, false] rfl rfl (any_of HT_.out (by kernel_rfl)) (fun _ _ _ h => h) (Or.inl ⟨by rfl, ?_⟩) ?_ ?_
 rotate_left
 · intro w'
   go_simp
   with_reducible rfl
 rotate_left
 · simp only [Act.put, List.setIfInBounds_toArray, List.set_cons_zero, List.set_cons_succ, i64_w, i32_w]
   rfl
 refine pure_ (i := 5) (N := (some 21)) (v := ?_) (a' := ?_) #[true, true, true, false, true, true, false, false, false, false, false, false, false, false, false, false] rfl rfl (any_of HT_.out (by kernel_rfl)) (fun _ _ _ h => h) (Or.inl ⟨by rfl, ?_⟩) ?_ ?_
 rotate_left
 · intro w'
   go_simp
   with_reducible rfl
 rotate_left
 · simp only [Act.put, List.setIfInBounds_toArray, List.set_cons_zero, List.set_cons_succ, i64_w, i32_w]
   rfl
 refine pure_ (i := 6) (N := (some 22)) (v := ?_) (a' := ?_) #[true, true, true, false, true, true, true, false, false, false, false, false, false, false, false, false] rfl rfl (any_of HT_.out (by kernel_rfl)) (fun _ _ _ h => h) (Or.inl ⟨by rfl, ?_⟩) ?_ ?_
 rotate_left
 · intro w'
   go_simp
   with_reducible rfl
 rotate_left
 · simp only [Act.put, List.setIfInBounds_toArray, List.set_cons_zero, List.set_cons_succ, i64_w, i32_w]
   rfl
 refine pure_ (i := 7) (N := (some 23)) (v := ?_) (a' := ?_) #[true, true, true, false, true, true, true, true, false, false, false, false, false, false, false, false] rfl rfl (any_of HT_.out (by kernel_rfl)) (fun _ _ _ h => h) (Or.inl ⟨by rfl, ?_⟩) ?_ ?_
 rotate_left
 · intro w'
   go_simp
   with_reducible rfl
 rotate_left
 · simp only [Act.put, List.setIfInBounds_toArray, List.set_cons_zero, List.set_cons_succ, i64_w, i32_w]
   rfl
 refine take_ (i := 3) (N := (some 19)) (v := ?_) (a' := ?_) #[true, true, true, true, true, true, true, true, false, false, false, false, false, false, false, false] rfl rfl (take_ofW HT_.out HW_.out (by kernel_rfl)) (fun _ _ _ h => h) (Or.inl ⟨by rfl, ?_⟩) hHeld ?_ ?_
 rotate_left
 · rintro w' ⟨s0, s1⟩
   go_simp
   with_reducible rfl
 rotate_left
 · simp only [Act.put, List.setIfInBounds_toArray, List.set_cons_zero, List.set_cons_succ, i64_w, i32_w]
   rfl
 refine take_ (i := 8) (N := (some 24)) (v := ?_) (a' := ?_) #[true, true, true, true, true, true, true, true, true, false, false, false, false, false, false, false] rfl rfl (take_ofW HT_.out HW_.out (by kernel_rfl)) (fun _ _ _ h => h) (Or.inl ⟨by rfl, ?_⟩) hHeld ?_ ?_
 rotate_left
 · rintro w' ⟨s0, s1⟩
   go_simp
   with_reducible rfl
 rotate_left
 · simp only [Act.put, List.setIfInBounds_toArray, List.set_cons_zero, List.set_cons_succ, i64_w, i32_w]
   rfl
 refine pure_ (i := 9) (N := (some 25)) (v := ?_) (a' := ?_) #[true, true, true, true, true, true, true, true, true, true, false, false, false, false, false, false] rfl rfl (any_of HT_.out (by kernel_rfl)) (fun _ _ _ h => h) (Or.inl ⟨by rfl, ?_⟩) ?_ ?_
 rotate_left
 · intro w'
   go_simp
   with_reducible rfl
 rotate_left
 · simp only [Act.put, List.setIfInBounds_toArray, List.set_cons_zero, List.set_cons_succ, i64_w, i32_w]
   rfl
 refine one_ (i := 10) (N := (some 26)) #[true, true, true, true, true, true, true, true, true, true, true, false, false, false, false, false] rfl rfl (one_of HT_.out (by kernel_rfl)) (by decide) (fun K hK => ?_)
 refine goes_ Try.func51 (by kernel_rfl) rfl #[.int .i64 seed, .string key, .int .i64 (ns : Int)] (by rfl) rfl rfl (by (try simp only [List.map_toArray, List.map_cons, List.map_nil]); first | done | rfl | (simp only [List.length_drop, List.length_take]; rfl)) ?_
 with_reducible refine (impl_cellsOf.calls k seed key (ns : Int) ta tb _ A2.out).mono ?_
 rintro e w' ⟨rfl, ⟨nd, rfl⟩⟩
 refine ⟨_, rfl, ?_⟩
 have n0_ := Aside0.mk (blk_drewN BK.out nd)
 have n1_ := Aside0.mk (pw_below_drewN HB.out nd)
 have n2_ := Aside0.mk (Kd.R_drewN HO.out nd)
 have n3_ := Aside0.mk (Kept.drewN HK.out nd)
 have n4_ := Aside0.mk (Kd.R_drewN HT.out nd)
 clear BK HB HO HK HT
 have BK := n0_
 have HB := n1_
 have HO := n2_
 have HK := n3_
 have HT := n4_
 clear n0_ n1_ n2_ n3_ n4_
 refine hK.out _ _ ⟨(blk_cell BK.out 0).trans rfl, (blk_cell BK.out 1).trans rfl⟩ (fun hHeld => ?_)
 clear hK K
 generalize w5.drewN nd = w6 at BK HB HO HK HT hHeld ⊢
 refine norm_ (a' := ?_) ?_ ?_
 rotate_left
 · show Act.put _ (some 26) _ = _
   simp only [Act.put, List.setIfInBounds_toArray, List.set_cons_zero, List.set_cons_succ, i64_w, i32_w]
   rfl
 refine pure_ (i := 11) (N := (some 15)) (v := ?_) (a' := ?_) #[true, true, true, true, true, true, true, true, true, true, true, true, false, false, false, false] rfl rfl (any_of HT_.out (by kernel_rfl)) (fun _ _ _ h => h) (Or.inl ⟨by rfl, ?_⟩) ?_ ?_
 rotate_left
 · intro w'
   go_simp
   with_reducible rfl
 rotate_left
 · simp only [Act.put, List.setIfInBounds_toArray, List.set_cons_zero, List.set_cons_succ, i64_w, i32_w]
   rfl
 refine pure_ (i := 12) (N := (some 27)) (v := ?_) (a' := ?_) #[true, true, true, true, true, true, true, true, true, true, true, true, true, false, false, false] rfl rfl (any_of HT_.out (by kernel_rfl)) (fun _ _ _ h => h) (Or.inl ⟨by rfl, ?_⟩) ?_ ?_
 rotate_left
 · intro w'
   go_simp
   with_reducible rfl
 rotate_left
 · simp only [Act.put, List.setIfInBounds_toArray, List.set_cons_zero, List.set_cons_succ, i64_w, i32_w]
   rfl
 refine pure_ (i := 13) (N := (some 28)) (v := ?_) (a' := ?_) #[true, true, true, true, true, true, true, true, true, true, true, true, true, true, false, false] rfl rfl (any_of HT_.out (by kernel_rfl)) (fun _ _ _ h => h) (Or.inl ⟨by rfl, ?_⟩) ?_ ?_
 rotate_left
 · intro w'
   go_simp
   with_reducible rfl
 rotate_left
 · simp only [Act.put, List.setIfInBounds_toArray, List.set_cons_zero, List.set_cons_succ, i64_w, i32_w]
   rfl
 refine pure_ (i := 14) (N := (some 8)) (v := ?_) (a' := ?_) #[true, true, true, true, true, true, true, true, true, true, true, true, true, true, true, false] rfl rfl (any_of HT_.out (by kernel_rfl)) (fun _ _ _ h => h) (Or.inl ⟨by rfl, ?_⟩) ?_ ?_
 rotate_left
 · intro w'
   go_simp
   with_reducible rfl
 rotate_left
 · simp only [Act.put, List.setIfInBounds_toArray, List.set_cons_zero, List.set_cons_succ, i64_w, i32_w]
   rfl
 refine pure_ (i := 15) (N := (some 9)) (v := ?_) (a' := ?_) #[true, true, true, true, true, true, true, true, true, true, true, true, true, true, true, true] rfl rfl (any_of HT_.out (by kernel_rfl)) (fun _ _ _ h => h) (Or.inl ⟨by rfl, ?_⟩) ?_ ?_
 rotate_left
 · intro w'
   go_simp
   with_reducible rfl
 rotate_left
 · simp only [Act.put, List.setIfInBounds_toArray, List.set_cons_zero, List.set_cons_succ, i64_w, i32_w]
   rfl
 refine done_ (by kernel_rfl) ?_
 try go_wp2
 go_loopg [1, 8, 10] k (fun kq v1 v8 v10 w' => ∃ (key1 : ByteArray) (cell thr : Int) (slots1 : List ByteArray), v1 = .string key1 ∧ v8 = .int .i64 cell ∧ v10 = .int .i64 thr ∧ Aside0 (impl_pushL seed moves stash kq slots1 key1 cell thr = some (r1, r2, slotsE, stashE)) ∧ Aside0 (kq ≤ k) ∧ Aside0 (slots1.length = ns) ∧ Aside0 (w'.heap[g]? = some (.cells #[.int .i64 seed, .slice As ns cs, tv] 26 (0, 0))) ∧ Aside0 (Kd.R Kd.string 9 w' w0.heap.size Ps (.slice As ns cs) slots1) ∧ Aside0 (Kd.R Kd.string 9 w' w0.heap.size Pt tv stash) ∧ Aside0 (Below w0.heap.size w0 w') ∧ Aside0 (Kept w w' (fun k_ => (some k_ = (.slice As ns cs : Value).ownBlock ∨ Pt k_) ∨ k_ = g)))
 case atStart => exact ⟨key, ta, 0, slots, rfl, rfl, rfl, HQ2, ⟨Nat.le_refl _⟩, ⟨HNS.out.symm⟩, ⟨by refine uW ?_; exact BK.out⟩, ⟨by (with_reducible repeat (first | apply Kd.R_alloc | apply Kd.R_drewN | apply Kd.R_drew)); exact HO.out⟩, ⟨by (with_reducible repeat (first | apply Kd.R_alloc | apply Kd.R_drewN | apply Kd.R_drew)); exact HT.out⟩, ⟨uB HB⟩, ⟨by repeat (first | (with_reducible first | exact HK.out | apply Kept.alloc | apply Kept.drewN | apply Kept.drew) | exact HK.out)⟩⟩
 case round =>
  clear BK HO HB HK HT HQ2
  obtain ⟨key1, cell, thr, slots1, rfl, rfl, rfl, HA, HK1, HN, BK, HO, HT, HB, HK⟩ := hrel
  cases gk with
  | zero => exact absurd HA.out (by simp [impl_pushL])
  | succ k1 =>
   have H := HA.out
   clear HA
   simp only [impl_pushL] at H
   by_cases c1 : 0 ≤ cell
   · rw [if_pos c1] at H
     by_cases c2 : cell < (slots1.length : Int)
     · rw [if_pos c2] at H
       obtain ⟨go9, co9, eo9, gb9, gl9, cl9, HG9⟩ := Kd.R_form HO.out (by omega)
       have c2n : cell < (ns : Int) := by have := HN.out; omega
       injection eo9 with ea_ en_ ec_
       subst ea_
       have GB9 := Aside0.mk gb9
       clear ec_ en_ gb9 gl9 cl9 HG9
       obtain ⟨hx9_0, hf9_0⟩ := Kd.R_celln (⟨#[]⟩ : ByteArray) HO.out (cell : Int) c1 c2n
       have hcz_0 : wr.cell? ⟨g, 0, none⟩ = some (.int .i64 seed) := (blk_cell BK.out 0).trans rfl
       have hcz_1 : wr.cell? ⟨g, 1, none⟩ = some (.slice (some ⟨go9, 0, none⟩) ns cs) := (blk_cell BK.out 1).trans rfl
       have hcz_2 : wr.cell? ⟨g, 2, none⟩ = some tv := (blk_cell BK.out 2).trans rfl
       have hfz_0 := blk_frozen BK.out 0
       have hfz_1 := blk_frozen BK.out 1
       have hfz_2 := blk_frozen BK.out 2
       have p9 : (0 ≤ (cell : Int)) = True := eq_true c1
       have q9 : (cell < (ns : Int)) = True := eq_true c2n
       have pd9 : decide (0 ≤ (cell : Int)) = true := decide_eq_true c1
       have qd9 : decide (cell < (ns : Int)) = true := decide_eq_true c2n
       by_cases e1 : (rdOf ByteArray.empty slots1 cell).toList = ([] : List UInt8)
       · rw [if_pos e1] at H
         have e1b2 : (rdOf (⟨#[]⟩ : ByteArray) slots1 cell).toList.isEmpty = true := List.isEmpty_iff.2 e1
         simp only [Option.some.injEq, Prod.mk.injEq] at H
         obtain ⟨rfl, rfl, rfl, rfl⟩ := H
         have HP10 := Kd.R_putg HO.out (cell : Int) key1
         clear c1 c2 c2n e1
         go_wp2_with (first | ((with_reducible refine gate_store (t := 9) (p := 45) rfl ?_); refine store_event (t := 9) (p := 45) (v := ?vo_w11) (w1 := (wr.setCell ⟨go9, (cell : Int).toNat, none⟩ (.string key1))) ?hg ?ho ?hn ?hr ?_; (case ho => rfl); (case hg => rfl); (case hn => rfl); (case hr => first | (go_simp; done) | (go_simp; rfl)); intro w11 hw; have hg : wr.grownBy w11 (some go9) := (by rw [hw]; exact HP10.2); have hp_ : Kd.R Kd.string 9 w11 w0.heap.size Ps (.slice (some ⟨go9, 0, none⟩) ns cs) (slots1.set (cell : Int).toNat key1) := (by rw [hw]; exact HP10.1); clear HP10; have n0_ := Aside0.mk (hp_); have n1_ := Aside0.mk ((by rw [hw]; exact below_set (HB.out) GB9.out : Below w0.heap.size w0 w11)); have n2_ := Aside0.mk (Kept.of_grown hg HK.out (fun k_ e_ => .inl (.inl (.inl e_.symm)))); have n3_ := Aside0.mk (Kd.R_grown HT.out hg (fun k_ h1_ h2_ => HP.out k_ h1_ h2_)); have n4_ := Aside0.mk (blk_grown BK.out hg (Kd.R_ne HO.out BK.out (by decide))); clear HO HB HK HT BK; have HO := n0_; have HB := n1_; have HK := n2_; have HT := n3_; have BK := n4_; clear n0_ n1_ n2_ n3_ n4_; clear hg hw hp_))
         go_ret2
         exact ⟨tv, rfl, uK BK, by (with_reducible repeat (first | apply Kd.R_alloc | apply Kd.R_drewN | apply Kd.R_drew)); exact HO.out, Kd.R_mono (uR HT) (fun _ h_ => .inl h_), uB HB, by repeat (first | (with_reducible first | exact HK.out | apply Kept.alloc | apply Kept.drewN | apply Kept.drew) | exact HK.out)⟩
       · rw [if_neg e1] at H
         have E1 := Aside0.mk e1
         have e1b2 : (rdOf (⟨#[]⟩ : ByteArray) slots1 cell).toList.isEmpty = false := by rw [Bool.eq_false_iff]; exact fun h_ => E1.out (List.isEmpty_iff.1 h_)
         clear e1
         by_cases m1 : thr = moves
         · rw [if_pos m1] at H
           obtain ⟨⟨bi, bf⟩, A70, H1⟩ := Option.bind_eq_some_iff.mp H
           clear H
           by_cases m2 : 0 ≤ bi ∧ bi ≤ (stash.length : Int) ∧ stash.length ≤ 1000
           · replace H1 : (if 0 ≤ bi ∧ bi ≤ (stash.length : Int) ∧ stash.length ≤ 1000 then (some (thr, decide ((stash.length : Int) + 1 ≤ 4), slots1, stash.take bi.toNat ++ key1 :: stash.drop bi.toNat)) else (none)) = some (r1, r2, slotsE, stashE) := H1
             rw [if_pos m2] at H1
             simp only [Option.some.injEq, Prod.mk.injEq] at H1
             obtain ⟨rfl, rfl, rfl, rfl⟩ := H1
             obtain ⟨bn, rfl⟩ := Int.eq_ofNat_of_zero_le m2.1
             have A7 := Aside0.mk A70
             have M2 := Aside0.mk m2
             have hbn : bn ≤ stash.length := by omega
             have m1b : decide (thr = moves) = true := decide_eq_true m1
             have m1c : (thr == moves) = true := beq_iff_eq.mpr m1
             clear A70 m2 c1 c2 c2n
             obtain ⟨At, ct, et⟩ := Kd.R_slice HT.out
             subst et
             go_upto_region 10 with (first | ((with_reducible refine gate_callee (f := 60) rfl ?_); refine goesL_ (some 56) rfl rfl Try.func60 (by kernel_rfl) rfl #[.slice At stash.length ct, .string key1] rfl (by (try simp only [List.map_toArray, List.map_cons, List.map_nil]); first | done | rfl | (simp only [List.length_drop, List.length_take]; rfl)) ?_; (with_reducible refine (slices_BinarySearch_string_string.calls k1 _ _ stash key1 (bn : Int) bf _ ?side1 ?side2 A7.out).mono ?_); (case side1 => exact (Kd.R_reads' (uR HT)).2.2); (case side2 => exact (Kd.R_reads' HT.out).2.1); rintro e w' ⟨rfl, ⟨nd, rfl⟩⟩; refine ⟨_, rfl, ?_⟩) | (go_at_call 61; (with_reducible refine (slices_Insert_one.calls (fun k_ => some k_ = (.slice At stash.length ct : Value).ownBlock) (.slice At stash.length ct) stash bn key1 wr.heap.size 1 #[.string key1] w0 _ ?side1 ?side2 ?side3 ?side4 ?side5 ?side6 ?side7).mono ?_); (case side1 => exact uB HB); (case side2 => exact Kd.R_tight rfl (by (with_reducible repeat (first | apply Kd.R_alloc | apply Kd.R_drewN | apply Kd.R_drew)); exact HT.out)); (case side3 => exact hbn); (case side4 => exact M2.out.2.2); (case side5 => exact Go.Proofs.Ythaicmebdgeamaa.Inserts.new_blk _ _); (case side6 => rfl); (case side7 => exact (fun e_ => Nat.lt_irrefl _ (Kd.R_lt HT.out _ e_.symm))); rintro e w9 ⟨v9, rfl, ht1, hb, hkp⟩; obtain ⟨SE, hse0⟩ : ∃ s_ : List ByteArray, s_ = (stash.take bn ++ key1 :: stash.drop bn) := ⟨_, rfl⟩; rw [← hse0] at ht1; have HSE := Aside0.mk hse0; clear hse0; have n0_ := Aside0.mk (blk_kept (uK BK) hkp (fun h2_ => (Kd.R_ne HT.out BK.out (by decide)) h2_)); have n1_ := Aside0.mk hb; have n2_ := Aside0.mk (Kd.R_reok (ok := Ps) rfl (Kd.R_kept (Kd.R_tight rfl (by (with_reducible repeat (first | apply Kd.R_alloc | apply Kd.R_drewN | apply Kd.R_drew)); exact HO.out)) hkp (fun k_ e_ h2_ => HQ.out k_ (HO.out.1 k_ e_.symm) h2_)) (fun k_ e_ => HO.out.1 k_ e_)); have n3_ := Aside0.mk (Kept.then_ (S := (fun k_ => (some k_ = (.slice (some ⟨go9, 0, none⟩) ns cs : Value).ownBlock ∨ Pt k_) ∨ k_ = g)) (by repeat (first | (with_reducible first | exact HK.out | apply Kept.alloc | apply Kept.drewN | apply Kept.drew) | exact HK.out)) hkp (fun k_ h_ => .inl (.inl (.inr (HT.out.1 k_ h_.symm))))); have n4_ := Aside0.mk (Kd.R_mono (ok' := fun k_ => Pt k_ ∨ w.heap.size ≤ k_) ht1 (fun k_ h_ => h_.elim (fun e_ => .inl (HT.out.1 k_ e_.symm)) (fun h2_ => .inr (Nat.le_trans (show Kept w _ (fun k_ => (some k_ = (.slice (some ⟨go9, 0, none⟩) ns cs : Value).ownBlock ∨ Pt k_) ∨ k_ = g) from (by repeat (first | (with_reducible first | exact HK.out | apply Kept.alloc | apply Kept.drewN | apply Kept.drew) | exact HK.out))).1 h2_)))); clear BK HB HO HK HT; have BK := n0_; have HB := n1_; have HO := n2_; have HK := n3_; have HT := n4_; clear n0_ n1_ n2_ n3_ n4_; clear hb hkp ht1; obtain ⟨A9, c9, e9⟩ := Kd.R_slice HT.out; subst e9; have hcq9_1 : w9.cell? ⟨g, 1, none⟩ = some (.slice (some ⟨go9, 0, none⟩) ns cs) := (blk_cell BK.out 1).trans rfl; have hcq9_2 : w9.cell? ⟨g, 2, none⟩ = some (.slice At stash.length ct) := (blk_cell BK.out 2).trans rfl; have hfq9_2 := blk_frozen BK.out 2))
             have n0_ := Aside0.mk (blk_put (cs := #[.int .i64 seed, .slice (some ⟨go9, 0, none⟩) ns cs, .slice At stash.length ct]) BK.out 2 (.slice A9 SE.length c9 : Value) rfl)
             have n1_ := Aside0.mk (below_set (j := 2) (v := (.slice A9 SE.length c9 : Value)) HB.out HGE.out)
             have n2_ := Aside0.mk (Kd.R_mono (ok' := Ps) (Kd.R_far (p := ⟨g, 2, none⟩) (Kd.R_types HO.out BK.out (by decide)) (fun _ hk => hk.2) (.slice A9 SE.length c9 : Value)) (fun _ h_ => h_.1))
             have n3_ := Aside0.mk (Kept.setCell (p := ⟨g, 2, none⟩) HK.out (.inl (.inr rfl)) (.slice A9 SE.length c9 : Value))
             have n4_ := Aside0.mk (Kd.R_mono (ok' := fun k_ => Pt k_ ∨ w.heap.size ≤ k_) (Kd.R_far (p := ⟨g, 2, none⟩) (Kd.R_types HT.out BK.out (by decide)) (fun _ hk => hk.2) (.slice A9 SE.length c9 : Value)) (fun _ h_ => h_.1))
             clear BK HB HO HK HT
             have BK := n0_
             have HB := n1_
             have HO := n2_
             have HK := n3_
             have HT := n4_
             clear n0_ n1_ n2_ n3_ n4_
             generalize w9.setCell ⟨g, 2, none⟩ (.slice A9 SE.length c9 : Value) = w10 at BK HB HO HK HT ⊢
             have n0_ := Aside0.mk (blk_drew BK.out)
             have n1_ := Aside0.mk (below_drew1 HB.out)
             have n2_ := Aside0.mk (Kd.R_drew HO.out)
             have n3_ := Aside0.mk (Kept.drew HK.out)
             have n4_ := Aside0.mk (Kd.R_drew HT.out)
             clear BK HB HO HK HT
             have BK := n0_
             have HB := n1_
             have HO := n2_
             have HK := n3_
             have HT := n4_
             clear n0_ n1_ n2_ n3_ n4_
             refine start_ (n := 9) (S := fun w' => w'.cell? ⟨g, 2, none⟩ = some (.slice A9 SE.length c9 : Value)) (ds := []) #[false, false, false, false, false, false, false, false, false] (by kernel_rfl) rfl rfl ((blk_cell BK.out 2).trans rfl) (fun hHeld => ?_); refine with_tabW impl_push.tab10 impl_push.bits10 (fun HT_ HW_ => ?_)
             generalize w10.drew = w11 at BK HB HO HK HT hHeld ⊢
             refine pure_ (i := 0) (N := (some 70)) (v := ?_) (a' := ?_) #[true, false, false, false, false, false, false, false, false] rfl rfl (any_of HT_.out (by kernel_rfl)) (fun _ _ _ h => h) (Or.inl ⟨by rfl, ?_⟩) ?_ ?_
             rotate_left
             · intro w'
               go_simp
               with_reducible rfl
             rotate_left
             · simp only [Act.put, List.setIfInBounds_toArray, List.set_cons_zero, List.set_cons_succ, i64_w, i32_w]
               rfl
             refine pure_ (i := 1) (N := (some 71)) (v := ?_) (a' := ?_) #[true, true, false, false, false, false, false, false, false] rfl rfl (any_of HT_.out (by kernel_rfl)) (fun _ _ _ h => h) (Or.inl ⟨by rfl, ?_⟩) ?_ ?_
             rotate_left
             · intro w'
               go_simp
               with_reducible rfl
             rotate_left
             · simp only [Act.put, List.setIfInBounds_toArray, List.set_cons_zero, List.set_cons_succ, i64_w, i32_w]
               rfl
             refine pure_ (i := 2) (N := (some 72)) (v := ?_) (a' := ?_) #[true, true, true, false, false, false, false, false, false] rfl rfl (any_of HT_.out (by kernel_rfl)) (fun _ _ _ h => h) (Or.inl ⟨by rfl, ?_⟩) ?_ ?_
             rotate_left
             · intro w'
               go_simp
               with_reducible rfl
             rotate_left
             · simp only [Act.put, List.setIfInBounds_toArray, List.set_cons_zero, List.set_cons_succ, i64_w, i32_w]
               rfl
             refine pure_ (i := 3) (N := (some 73)) (v := ?_) (a' := ?_) #[true, true, true, true, false, false, false, false, false] rfl rfl (any_of HT_.out (by kernel_rfl)) (fun _ _ _ h => h) (Or.inl ⟨by rfl, ?_⟩) ?_ ?_
             rotate_left
             · intro w'
               go_simp
               with_reducible rfl
             rotate_left
             · simp only [Act.put, List.setIfInBounds_toArray, List.set_cons_zero, List.set_cons_succ, i64_w, i32_w]
               rfl
             refine take_ (i := 4) (N := (some 74)) (v := ?_) (a' := ?_) #[true, true, true, true, true, false, false, false, false] rfl rfl (take_ofW HT_.out HW_.out (by kernel_rfl)) (fun _ _ _ h => h) (Or.inl ⟨by rfl, ?_⟩) hHeld ?_ ?_
             rotate_left
             · rintro w' s0
               go_simp
               with_reducible rfl
             rotate_left
             · simp only [Act.put, List.setIfInBounds_toArray, List.set_cons_zero, List.set_cons_succ, i64_w, i32_w]
               rfl
             refine pure_ (i := 5) (N := (some 75)) (v := ?_) (a' := ?_) #[true, true, true, true, true, true, false, false, false] rfl rfl (any_of HT_.out (by kernel_rfl)) (fun _ _ _ h => h) (Or.inl ⟨by rfl, ?_⟩) ?_ ?_
             rotate_left
             · intro w'
               go_simp
               with_reducible rfl
             rotate_left
             · simp only [Act.put, List.setIfInBounds_toArray, List.set_cons_zero, List.set_cons_succ, i64_w, i32_w]
               rfl
             refine pure_ (i := 6) (N := (some 76)) (v := ?_) (a' := ?_) #[true, true, true, true, true, true, true, false, false] rfl rfl (any_of HT_.out (by kernel_rfl)) (fun _ _ _ h => h) (Or.inl ⟨by rfl, ?_⟩) ?_ ?_
             rotate_left
             · intro w'
               go_simp
               with_reducible rfl
             rotate_left
             · simp only [Act.put, List.setIfInBounds_toArray, List.set_cons_zero, List.set_cons_succ, i64_w, i32_w]
               rfl
             refine pure_ (i := 7) (N := (some 6)) (v := ?_) (a' := ?_) #[true, true, true, true, true, true, true, true, false] rfl rfl (any_of HT_.out (by kernel_rfl)) (fun _ _ _ h => h) (Or.inl ⟨by rfl, ?_⟩) ?_ ?_
             rotate_left
             · intro w'
               go_simp
               with_reducible rfl
             rotate_left
             · simp only [Act.put, List.setIfInBounds_toArray, List.set_cons_zero, List.set_cons_succ, i64_w, i32_w]
               rfl
             refine pure_ (i := 8) (N := (some 7)) (v := ?_) (a' := ?_) #[true, true, true, true, true, true, true, true, true] rfl rfl (any_of HT_.out (by kernel_rfl)) (fun _ _ _ h => h) (Or.inl ⟨by rfl, ?_⟩) ?_ ?_
             rotate_left
             · intro w'
               go_simp
               with_reducible rfl
             rotate_left
             · simp only [Act.put, List.setIfInBounds_toArray, List.set_cons_zero, List.set_cons_succ, i64_w, i32_w]
               rfl
             refine done_ (by kernel_rfl) ?_
             try go_wp2
             go_ret2
             have hln : ((SE.length : Nat) : Int) = (stash.length : Int) + 1 := by rw [HSE.out, Go.Proofs.Ythaicmebdgeamaa.Inserts.insert_length stash bn key1 hbn]; rfl
             exact ⟨(.slice A9 SE.length c9 : Value), by rw [m1, show ((stash.length : Int) + 1) = (SE.length : Int) from hln.symm]; rfl, uK BK, uR HO, (by simp only [Int.toNat_natCast]; rw [← HSE.out]; exact uR HT), uB HB, (by repeat (first | (with_reducible first | exact HK.out | apply Kept.alloc | apply Kept.drewN | apply Kept.drew) | exact HK.out))⟩
           · exfalso
             replace H1 : (if 0 ≤ bi ∧ bi ≤ (stash.length : Int) ∧ stash.length ≤ 1000 then (some (thr, decide ((stash.length : Int) + 1 ≤ 4), slots1, stash.take bi.toNat ++ key1 :: stash.drop bi.toNat)) else (none)) = some (r1, r2, slotsE, stashE) := H1
             rw [if_neg m2] at H1
             cases H1
         · rw [if_neg m1] at H
           obtain ⟨⟨ua, ub⟩, A70, H1⟩ := Option.bind_eq_some_iff.mp H
           clear H
           have A7 := Aside0.mk (show impl_cellsOf.f k1 seed (rdOf (⟨#[]⟩ : ByteArray) slots1 cell) (ns : Int) = some (ua, ub) by rw [← HN.out]; exact A70)
           clear A70
           have H' := Aside0.mk (show impl_pushL seed moves stash k1 (slots1.set cell.toNat key1) (rdOf (⟨#[]⟩ : ByteArray) slots1 cell) (wrap64 ((wrap64 (ua + ub)) - cell)) (wrap64 (thr + 1)) = some (r1, r2, slotsE, stashE) from H1)
           clear H1
           have m1b : decide (thr = moves) = false := decide_eq_false m1
           have m1c : (thr == moves) = false := beq_eq_false_iff_ne.mpr m1
           have C1 := Aside0.mk c1
           have C2 := Aside0.mk c2n
           clear c1 c2 c2n
           try go_wp2
           clear hx9_0 hf9_0 hcz_0 hcz_1 hcz_2 hfz_0 hfz_1 hfz_2
           have n0_ := Aside0.mk (blk_drew BK.out)
           have n1_ := Aside0.mk (below_drew1 HB.out)
           have n2_ := Aside0.mk (Kd.R_drew HO.out)
           have n3_ := Aside0.mk (Kept.drew HK.out)
           have n4_ := Aside0.mk (Kd.R_drew HT.out)
           clear BK HB HO HK HT
           have BK := n0_
           have HB := n1_
           have HO := n2_
           have HK := n3_
           have HT := n4_
           clear n0_ n1_ n2_ n3_ n4_
           refine start_ (n := 16) (S := fun w' => w'.cell? ⟨g, 1, none⟩ = some (.slice (some ⟨go9, 0, none⟩) ns cs) ∧ w'.cell? ⟨go9, cell.toNat, none⟩ = some (.string (rdOf (⟨#[]⟩ : ByteArray) slots1 cell))) (ds := [15]) #[false, false, false, false, false, false, false, false, false, false, false, false, false, false, false, false] (by kernel_rfl) rfl rfl ⟨(blk_cell BK.out 1).trans rfl, (Kd.R_celln (⟨#[]⟩ : ByteArray) HO.out cell C1.out C2.out).1⟩ (fun hHeld => ?_); refine with_tabW impl_push.tab11 impl_push.bits11 (fun HT_ HW_ => ?_)
           generalize wr.drew = w7 at BK HB HO HK HT hHeld ⊢
           refine pure_ (i := 0) (N := (some 77)) (v := ?_) (a' := ?_) #[true, false, false, false, false, false, false, false, false, false, false, false, false, false, false, false] rfl rfl (any_of HT_.out (by kernel_rfl)) (fun _ _ _ h => h) (Or.inl ⟨by rfl, ?_⟩) ?_ ?_
           rotate_left
           · intro w'
             go_simp
             with_reducible rfl
           rotate_left
           · simp only [Act.put, List.setIfInBounds_toArray, List.set_cons_zero, List.set_cons_succ, i64_w, i32_w]
             rfl
           refine pure_ (i := 1) (N := (some 78)) (v := ?_) (a' := ?_) #[true, true, false, false, false, false, false, false, false, false, false, false, false, false, false, false] rfl rfl (any_of HT_.out (by kernel_rfl)) (fun _ _ _ h => h) (Or.inl ⟨by rfl, ?_⟩) ?_ ?_
           rotate_left
           · intro w'
             go_simp
             with_reducible rfl
           rotate_left
           · simp only [Act.put, List.setIfInBounds_toArray, List.set_cons_zero, List.set_cons_succ, i64_w, i32_w]
             rfl
           refine pure_ (i := 2) (N := (some 79)) (v := ?_) (a' := ?_) #[true, true, true, false, false, false, false, false, false, false, false, false, false, false, false, false] rfl rfl (any_of HT_.out (by kernel_rfl)) (fun _ _ _ h => h) (Or.inl ⟨by rfl, ?_⟩) ?_ ?_
           rotate_left
           · intro w'
             go_simp
             with_reducible rfl
           rotate_left
           · simp only [Act.put, List.setIfInBounds_toArray, List.set_cons_zero, List.set_cons_succ, i64_w, i32_w]
             rfl
           refine pure_ (i := 4) (N := (some 81)) (v := ?_) (a' := ?_) #[true, true, true, false, true, false, false, false, false, false, false, false, false, false, false, false] rfl rfl (any_of HT_.out (by kernel_rfl)) (fun _ _ _ h => h) (Or.inl ⟨by rfl, ?_⟩) ?_ ?_
           rotate_left
           · intro w'
             go_simp
             with_reducible rfl
           rotate_left
           · simp only [Act.put, List.setIfInBounds_toArray, List.set_cons_zero, List.set_cons_succ, i64_w, i32_w]
             rfl
           refine pure_ (i := 5) (N := (some 82)) (v := ?_) (a' := ?_) #[true, true, true, false, true, true, false, false, false, false, false, false, false, false, false, false] rfl rfl (any_of HT_.out (by kernel_rfl)) (fun _ _ _ h => h) (Or.inl ⟨by rfl, ?_⟩) ?_ ?_
           rotate_left
           · intro w'
             go_simp
             with_reducible rfl
           rotate_left
           · simp only [Act.put, List.setIfInBounds_toArray, List.set_cons_zero, List.set_cons_succ, i64_w, i32_w]
             rfl
           refine pure_ (i := 6) (N := (some 83)) (v := ?_) (a' := ?_) #[true, true, true, false, true, true, true, false, false, false, false, false, false, false, false, false] rfl rfl (any_of HT_.out (by kernel_rfl)) (fun _ _ _ h => h) (Or.inl ⟨by rfl, ?_⟩) ?_ ?_
           rotate_left
           · intro w'
             go_simp
             with_reducible rfl
           rotate_left
           · simp only [Act.put, List.setIfInBounds_toArray, List.set_cons_zero, List.set_cons_succ, i64_w, i32_w]
             rfl
           refine pure_ (i := 7) (N := (some 84)) (v := ?_) (a' := ?_) #[true, true, true, false, true, true, true, true, false, false, false, false, false, false, false, false] rfl rfl (any_of HT_.out (by kernel_rfl)) (fun _ _ _ h => h) (Or.inl ⟨by rfl, ?_⟩) ?_ ?_
           rotate_left
           · intro w'
             go_simp
             with_reducible rfl
           rotate_left
           · simp only [Act.put, List.setIfInBounds_toArray, List.set_cons_zero, List.set_cons_succ, i64_w, i32_w]
             rfl
           refine pure_ (i := 9) (N := (some 86)) (v := ?_) (a' := ?_) #[true, true, true, false, true, true, true, true, false, true, false, false, false, false, false, false] rfl rfl (any_of HT_.out (by kernel_rfl)) (fun _ _ _ h => h) (Or.inl ⟨by rfl, ?_⟩) ?_ ?_
           rotate_left
           · intro w'
             go_simp
             with_reducible rfl
           rotate_left
           · simp only [Act.put, List.setIfInBounds_toArray, List.set_cons_zero, List.set_cons_succ, i64_w, i32_w]
             rfl
           refine pure_ (i := 12) (N := (some 89)) (v := ?_) (a' := ?_) #[true, true, true, false, true, true, true, true, false, true, false, false, true, false, false, false] rfl rfl (any_of HT_.out (by kernel_rfl)) (fun _ _ _ h => h) (Or.inl ⟨by rfl, ?_⟩) ?_ ?_
           rotate_left
           · intro w'
             go_simp
             with_reducible rfl
           rotate_left
           · simp only [Act.put, List.setIfInBounds_toArray, List.set_cons_zero, List.set_cons_succ, i64_w, i32_w]
             rfl
           refine take_ (i := 3) (N := (some 80)) (v := ?_) (a' := ?_) #[true, true, true, true, true, true, true, true, false, true, false, false, true, false, false, false] rfl rfl (take_ofW HT_.out HW_.out (by kernel_rfl)) (fun _ _ _ h => h) (Or.inl ⟨by rfl, ?_⟩) hHeld ?_ ?_
           rotate_left
           · rintro w' ⟨s0, s1⟩
             go_simp
             with_reducible rfl
           rotate_left
           · simp only [Act.put, List.setIfInBounds_toArray, List.set_cons_zero, List.set_cons_succ, i64_w, i32_w]
             rfl
           refine take_ (i := 8) (N := (some 85)) (v := ?_) (a' := ?_) #[true, true, true, true, true, true, true, true, true, true, false, false, true, false, false, false] rfl rfl (take_ofW HT_.out HW_.out (by kernel_rfl)) (fun _ _ _ h => h) (Or.inl ⟨by rfl, ?_⟩) hHeld ?_ ?_
           rotate_left
           · rintro w' ⟨s0, s1⟩
             go_simp
             with_reducible rfl
           rotate_left
           · simp only [Act.put, List.setIfInBounds_toArray, List.set_cons_zero, List.set_cons_succ, i64_w, i32_w]
             rfl
           refine pure_ (i := 10) (N := (some 87)) (v := ?_) (a' := ?_) #[true, true, true, true, true, true, true, true, true, true, true, false, true, false, false, false] rfl rfl (any_of HT_.out (by kernel_rfl)) (fun _ _ _ h => h) (Or.inl ⟨by rfl, ?_⟩) ?_ ?_
           rotate_left
           · intro w'
             go_simp
             with_reducible rfl
           rotate_left
           · simp only [Act.put, List.setIfInBounds_toArray, List.set_cons_zero, List.set_cons_succ, i64_w, i32_w]
             rfl
           refine take_ (i := 11) (N := (some 88)) (v := ?_) (a' := ?_) #[true, true, true, true, true, true, true, true, true, true, true, true, true, false, false, false] rfl rfl (take_ofW HT_.out HW_.out (by kernel_rfl)) (fun _ _ _ h => h) (Or.inl ⟨by rfl, ?_⟩) hHeld ?_ ?_
           rotate_left
           · rintro w' ⟨s0, s1⟩
             go_simp
             with_reducible rfl
           rotate_left
           · simp only [Act.put, List.setIfInBounds_toArray, List.set_cons_zero, List.set_cons_succ, i64_w, i32_w]
             rfl
           refine pure_ (i := 13) (N := (some 1)) (v := ?_) (a' := ?_) #[true, true, true, true, true, true, true, true, true, true, true, true, true, true, false, false] rfl rfl (any_of HT_.out (by kernel_rfl)) (fun _ _ _ h => h) (Or.inl ⟨by rfl, ?_⟩) ?_ ?_
           rotate_left
           · intro w'
             go_simp
             with_reducible rfl
           rotate_left
           · simp only [Act.put, List.setIfInBounds_toArray, List.set_cons_zero, List.set_cons_succ, i64_w, i32_w]
             rfl
           refine pure_ (i := 14) (N := (some 90)) (v := ?_) (a' := ?_) #[true, true, true, true, true, true, true, true, true, true, true, true, true, true, true, false] rfl rfl (any_of HT_.out (by kernel_rfl)) (fun _ _ _ h => h) (Or.inl ⟨by rfl, ?_⟩) ?_ ?_
           rotate_left
           · intro w'
             go_simp
             with_reducible rfl
           rotate_left
           · simp only [Act.put, List.setIfInBounds_toArray, List.set_cons_zero, List.set_cons_succ, i64_w, i32_w]
             rfl
           obtain ⟨hx7, hf7⟩ := Kd.R_celln (⟨#[]⟩ : ByteArray) HO.out cell C1.out C2.out
           refine last_ (i := 15) (N := none) #[true, true, true, true, true, true, true, true, true, true, true, true, true, true, true, true] rfl rfl (one_of HT_.out (by kernel_rfl)) (by decide) (fun K hK => ?_)
           refine skip_ (w1 := ?_) (by rfl) rfl ?_ ?_
           rotate_left
           · go_simp
             rfl
           refine hK.out _ _ ?_
           clear hK K hx7 hf7 hHeld
           refine done_ (done_of HT_.out (by kernel_rfl)) ?_
           try go_wp2
           obtain ⟨hp1, hg⟩ := Kd.R_putg HO.out (cell : Int) key1
           have n0_ := Aside0.mk hp1
           have n1_ := Aside0.mk (below_set (j := cell.toNat) (v := .string key1) HB.out GB9.out)
           have n2_ := Aside0.mk (Kept.of_grown hg HK.out (fun k_ e_ => .inl (.inl (.inl e_.symm))))
           have n3_ := Aside0.mk (Kd.R_grown HT.out hg (fun k_ h1_ h2_ => HP.out k_ h1_ h2_))
           have n4_ := Aside0.mk (blk_grown BK.out hg (Kd.R_ne HO.out BK.out (by decide)))
           clear HO HB HK HT BK hp1 hg
           have HO := n0_
           have HB := n1_
           have HK := n2_
           have HT := n3_
           have BK := n4_
           clear n0_ n1_ n2_ n3_ n4_
           generalize w7.setCell ⟨go9, cell.toNat, none⟩ (.string key1) = w8 at HO HB HK HT BK ⊢
           have n0_ := Aside0.mk (blk_drew BK.out)
           have n1_ := Aside0.mk (below_drew1 HB.out)
           have n2_ := Aside0.mk (Kd.R_drew HO.out)
           have n3_ := Aside0.mk (Kept.drew HK.out)
           have n4_ := Aside0.mk (Kd.R_drew HT.out)
           clear BK HB HO HK HT
           have BK := n0_
           have HB := n1_
           have HO := n2_
           have HK := n3_
           have HT := n4_
           clear n0_ n1_ n2_ n3_ n4_
           refine start_ (n := 16) (S := fun w' => w'.cell? ⟨g, 0, none⟩ = some (.int .i64 seed) ∧ w'.cell? ⟨g, 1, none⟩ = some (.slice (some ⟨go9, 0, none⟩) ns cs)) (ds := []) #[false, false, false, false, false, false, false, false, false, false, false, false, false, false, false, false] (by kernel_rfl) rfl rfl ⟨(blk_cell BK.out 0).trans rfl, (blk_cell BK.out 1).trans rfl⟩ (fun hHeld => ?_); refine with_tabW impl_push.tab12 impl_push.bits12 (fun HT_ HW_ => ?_)
           generalize w8.drew = w9 at BK HB HO HK HT hHeld ⊢
           refine pure_ (i := 0) (N := (some 92)) (v := ?_) (a' := ?_) #[true, false, false, false, false, false, false, false, false, false, false, false, false, false, false, false] rfl rfl (any_of HT_.out (by kernel_rfl)) (fun _ _ _ h => h) (Or.inl ⟨by rfl, ?_⟩) ?_ ?_
           rotate_left
           · intro w'
             go_simp
             with_reducible rfl
           rotate_left
           · simp only [Act.put, List.setIfInBounds_toArray, List.set_cons_zero, List.set_cons_succ, i64_w, i32_w]
             rfl
           refine pure_ (i := 1) (N := (some 93)) (v := ?_) (a' := ?_) #[true, true, false, false, false, false, false, false, false, false, false, false, false, false, false, false] rfl rfl (any_of HT_.out (by kernel_rfl)) (fun _ _ _ h => h) (Or.inl ⟨by rfl, ?_⟩) ?_ ?_
           rotate_left
           · intro w'
             go_simp
             with_reducible rfl
           rotate_left
           · simp only [Act.put, List.setIfInBounds_toArray, List.set_cons_zero, List.set_cons_succ, i64_w, i32_w]
             rfl
           refine pure_ (i := 2) (N := (some 94)) (v := ?_) (a' := ?_) #[true, true, true, false, false, false, false, false, false, false, false, false, false, false, false, false] rfl rfl (any_of HT_.out (by kernel_rfl)) (fun _ _ _ h => h) (Or.inl ⟨by rfl, ?_⟩) ?_ ?_
           rotate_left
           · intro w'
             go_simp
             with_reducible rfl
           rotate_left
           · simp only [Act.put, List.setIfInBounds_toArray, List.set_cons_zero, List.set_cons_succ, i64_w, i32_w]
             rfl
           refine pure_ (i := 4) (N := (some 96)) (v := ?_) (a' := ?_) #[true, true, true, false, true, false, false, false, false, false, false, false, false, false, false, false] rfl rfl (any_of HT_.out (by kernel_rfl)) (fun _ _ _ h => h) (Or.inl ⟨by rfl, ?_⟩) ?_ ?_
           rotate_left
           · intro w'
             go_simp
             with_reducible rfl
           rotate_left
           · simp only [Act.put, List.setIfInBounds_toArray, List.set_cons_zero, List.set_cons_succ, i64_w, i32_w]
             rfl
           refine pure_ (i := 5) (N := (some 97)) (v := ?_) (a' := ?_) #[true, true, true, false, true, true, false, false, false, false, false, false, false, false, false, false] rfl rfl (any_of HT_.out (by kernel_rfl)) (fun _ _ _ h => h) (Or.inl ⟨by rfl, ?_⟩) ?_ ?_
           rotate_left
           · intro w'
             go_simp
             with_reducible rfl
           rotate_left
           · simp only [Act.put, List.setIfInBounds_toArray, List.set_cons_zero, List.set_cons_succ, i64_w, i32_w]
             rfl
           refine pure_ (i := 6) (N := (some 98)) (v := ?_) (a' := ?_) #[true, true, true, false, true, true, true, false, false, false, false, false, false, false, false, false] rfl rfl (any_of HT_.out (by kernel_rfl)) (fun _ _ _ h => h) (Or.inl ⟨by rfl, ?_⟩) ?_ ?_
           rotate_left
           · intro w'
             go_simp
             with_reducible rfl
           rotate_left
           · simp only [Act.put, List.setIfInBounds_toArray, List.set_cons_zero, List.set_cons_succ, i64_w, i32_w]
             rfl
           refine pure_ (i := 7) (N := (some 99)) (v := ?_) (a' := ?_) #[true, true, true, false, true, true, true, true, false, false, false, false, false, false, false, false] rfl rfl (any_of HT_.out (by kernel_rfl)) (fun _ _ _ h => h) (Or.inl ⟨by rfl, ?_⟩) ?_ ?_
           rotate_left
           · intro w'
             go_simp
             with_reducible rfl
           rotate_left
           · simp only [Act.put, List.setIfInBounds_toArray, List.set_cons_zero, List.set_cons_succ, i64_w, i32_w]
             rfl
           refine take_ (i := 3) (N := (some 95)) (v := ?_) (a' := ?_) #[true, true, true, true, true, true, true, true, false, false, false, false, false, false, false, false] rfl rfl (take_ofW HT_.out HW_.out (by kernel_rfl)) (fun _ _ _ h => h) (Or.inl ⟨by rfl, ?_⟩) hHeld ?_ ?_
           rotate_left
           · rintro w' ⟨s0, s1⟩
             go_simp
             with_reducible rfl
           rotate_left
           · simp only [Act.put, List.setIfInBounds_toArray, List.set_cons_zero, List.set_cons_succ, i64_w, i32_w]
             rfl
           refine take_ (i := 8) (N := (some 100)) (v := ?_) (a' := ?_) #[true, true, true, true, true, true, true, true, true, false, false, false, false, false, false, false] rfl rfl (take_ofW HT_.out HW_.out (by kernel_rfl)) (fun _ _ _ h => h) (Or.inl ⟨by rfl, ?_⟩) hHeld ?_ ?_
           rotate_left
           · rintro w' ⟨s0, s1⟩
             go_simp
             with_reducible rfl
           rotate_left
           · simp only [Act.put, List.setIfInBounds_toArray, List.set_cons_zero, List.set_cons_succ, i64_w, i32_w]
             rfl
           refine pure_ (i := 9) (N := (some 101)) (v := ?_) (a' := ?_) #[true, true, true, true, true, true, true, true, true, true, false, false, false, false, false, false] rfl rfl (any_of HT_.out (by kernel_rfl)) (fun _ _ _ h => h) (Or.inl ⟨by rfl, ?_⟩) ?_ ?_
           rotate_left
           · intro w'
             go_simp
             with_reducible rfl
           rotate_left
           · simp only [Act.put, List.setIfInBounds_toArray, List.set_cons_zero, List.set_cons_succ, i64_w, i32_w]
             rfl
           refine one_ (i := 10) (N := (some 102)) #[true, true, true, true, true, true, true, true, true, true, true, false, false, false, false, false] rfl rfl (one_of HT_.out (by kernel_rfl)) (by decide) (fun K hK => ?_)
           refine goes_ Try.func51 (by kernel_rfl) rfl #[.int .i64 seed, .string (rdOf (⟨#[]⟩ : ByteArray) slots1 cell), .int .i64 (ns : Int)] (by rfl) rfl rfl (by (try simp only [List.map_toArray, List.map_cons, List.map_nil]); first | done | rfl | (simp only [List.length_drop, List.length_take]; rfl)) ?_
           with_reducible refine (impl_cellsOf.calls k1 seed (rdOf (⟨#[]⟩ : ByteArray) slots1 cell) (ns : Int) ua ub _ A7.out).mono ?_
           rintro e w' ⟨rfl, ⟨nd, rfl⟩⟩
           refine ⟨_, rfl, ?_⟩
           have n0_ := Aside0.mk (blk_drewN BK.out nd)
           have n1_ := Aside0.mk (pw_below_drewN HB.out nd)
           have n2_ := Aside0.mk (Kd.R_drewN HO.out nd)
           have n3_ := Aside0.mk (Kept.drewN HK.out nd)
           have n4_ := Aside0.mk (Kd.R_drewN HT.out nd)
           clear BK HB HO HK HT
           have BK := n0_
           have HB := n1_
           have HO := n2_
           have HK := n3_
           have HT := n4_
           clear n0_ n1_ n2_ n3_ n4_
           refine hK.out _ _ ⟨(blk_cell BK.out 0).trans rfl, (blk_cell BK.out 1).trans rfl⟩ (fun hHeld => ?_)
           clear hK K
           generalize w9.drewN nd = w10 at BK HB HO HK HT hHeld ⊢
           refine norm_ (a' := ?_) ?_ ?_
           rotate_left
           · show Act.put _ (some 102) _ = _
             simp only [Act.put, List.setIfInBounds_toArray, List.set_cons_zero, List.set_cons_succ, i64_w, i32_w]
             rfl
           refine pure_ (i := 11) (N := (some 91)) (v := ?_) (a' := ?_) #[true, true, true, true, true, true, true, true, true, true, true, true, false, false, false, false] rfl rfl (any_of HT_.out (by kernel_rfl)) (fun _ _ _ h => h) (Or.inl ⟨by rfl, ?_⟩) ?_ ?_
           rotate_left
           · intro w'
             go_simp
             with_reducible rfl
           rotate_left
           · simp only [Act.put, List.setIfInBounds_toArray, List.set_cons_zero, List.set_cons_succ, i64_w, i32_w]
             rfl
           refine pure_ (i := 12) (N := (some 103)) (v := ?_) (a' := ?_) #[true, true, true, true, true, true, true, true, true, true, true, true, true, false, false, false] rfl rfl (any_of HT_.out (by kernel_rfl)) (fun _ _ _ h => h) (Or.inl ⟨by rfl, ?_⟩) ?_ ?_
           rotate_left
           · intro w'
             go_simp
             with_reducible rfl
           rotate_left
           · simp only [Act.put, List.setIfInBounds_toArray, List.set_cons_zero, List.set_cons_succ, i64_w, i32_w]
             rfl
           refine pure_ (i := 13) (N := (some 104)) (v := ?_) (a' := ?_) #[true, true, true, true, true, true, true, true, true, true, true, true, true, true, false, false] rfl rfl (any_of HT_.out (by kernel_rfl)) (fun _ _ _ h => h) (Or.inl ⟨by rfl, ?_⟩) ?_ ?_
           rotate_left
           · intro w'
             go_simp
             with_reducible rfl
           rotate_left
           · simp only [Act.put, List.setIfInBounds_toArray, List.set_cons_zero, List.set_cons_succ, i64_w, i32_w]
             rfl
           refine pure_ (i := 14) (N := (some 13)) (v := ?_) (a' := ?_) #[true, true, true, true, true, true, true, true, true, true, true, true, true, true, true, false] rfl rfl (any_of HT_.out (by kernel_rfl)) (fun _ _ _ h => h) (Or.inl ⟨by rfl, ?_⟩) ?_ ?_
           rotate_left
           · intro w'
             go_simp
             with_reducible rfl
           rotate_left
           · simp only [Act.put, List.setIfInBounds_toArray, List.set_cons_zero, List.set_cons_succ, i64_w, i32_w]
             rfl
           refine pure_ (i := 15) (N := (some 14)) (v := ?_) (a' := ?_) #[true, true, true, true, true, true, true, true, true, true, true, true, true, true, true, true] rfl rfl (any_of HT_.out (by kernel_rfl)) (fun _ _ _ h => h) (Or.inl ⟨by rfl, ?_⟩) ?_ ?_
           rotate_left
           · intro w'
             go_simp
             with_reducible rfl
           rotate_left
           · simp only [Act.put, List.setIfInBounds_toArray, List.set_cons_zero, List.set_cons_succ, i64_w, i32_w]
             rfl
           refine done_ (by kernel_rfl) ?_
           try go_wp2
           go_roundg k1
           case measure => have := HK1.out; omega
           case rel => exact ⟨(rdOf (⟨#[]⟩ : ByteArray) slots1 cell), _, _, slots1.set cell.toNat key1, rfl, rfl, rfl, H', ⟨by have := HK1.out; omega⟩, ⟨by rw [List.length_set]; exact HN.out⟩, ⟨uK BK⟩, ⟨uR HO⟩, ⟨uR HT⟩, ⟨uB HB⟩, ⟨by repeat (first | (with_reducible first | exact HK.out | apply Kept.alloc | apply Kept.drewN | apply Kept.drew) | exact HK.out)⟩⟩
     · rw [if_neg c2] at H
       cases H
   · rw [if_neg c1] at H
     cases H
def impl_CuckooInsert.j0 : Nat → ByteArray → Int → Bool → Int → List ByteArray → List ByteArray → Option (Int × List ByteArray × List ByteArray × Int × Bool)
 | 0, _, _, _, _, _, _ => none
 | k + 1, x1, x2, x34, x343000, x343001, x343002 => if x34 = true then (some (0, ([] : List ByteArray), ([] : List ByteArray), 0, false)) else ((impl_cloneCuckoo.f x343000 x343001 x343002).bind fun bt351 => ((impl_settle.f k bt351.1 bt351.2.1 x1).bind fun bt359 => (if bt359.1 = true then (some (bt351.1, bt359.2, bt351.2.2, 0, true)) else ((impl_push.f k bt351.1 bt359.2 bt351.2.2 x1 x2).bind fun bt360 => (if bt360.2.1 = true then (some (bt351.1, bt360.2.2.1, bt360.2.2.2, bt360.1, true)) else (some (0, ([] : List ByteArray), ([] : List ByteArray), 0, false)))))))
def impl_CuckooInsert.f (k : Nat) (a0_0 : Int) (l0_1 : List ByteArray) (l0_2 : List ByteArray) (a1 : ByteArray) (a2 : Int) : Option (Int × List ByteArray × List ByteArray × Int × Bool) := (impl_IsCuckoo.f k a0_0 l0_1 l0_2).bind fun t344 => (if t344 = true then ((impl_IsKey.f k a1).bind fun t345 => (if t345 = true then ((impl_in.f a2 0 40).bind fun t346 => (if t346 = true then ((impl_Cuckoo_find_in26_0.f k a0_0 l0_1 l0_2 a1).bind fun t347 => (if t347 ≥ 0 then (impl_CuckooInsert.j0 k a1 a2 true a0_0 l0_1 l0_2) else ((impl_Cuckoo_all_in26_0.f a0_0 l0_1 l0_2).bind fun t348 => (impl_CuckooInsert.j0 k a1 a2 ((t348.length : Int) == 40) a0_0 l0_1 l0_2)))) else (impl_CuckooInsert.j0 k a1 a2 true a0_0 l0_1 l0_2))) else (impl_CuckooInsert.j0 k a1 a2 true a0_0 l0_1 l0_2))) else (impl_CuckooInsert.j0 k a1 a2 true a0_0 l0_1 l0_2))
theorem impl_CuckooInsert.mono_l : ∀ k, (∀ y0 y1 y2 y3 y4 y5, LeO (impl_CuckooInsert.j0 k y0 y1 y2 y3 y4 y5) (impl_CuckooInsert.j0 (k + 1) y0 y1 y2 y3 y4 y5))
 | 0 => fun _ _ _ _ _ _ r h => by simp [impl_CuckooInsert.j0] at h
 | k + 1 => by
  have ih0 := impl_CuckooInsert.mono_l k
  ·
   intro y0 y1 y2 y3 y4 y5
   unfold impl_CuckooInsert.j0
   repeat' first
   | (with_reducible exact ih0 _ _ _ _ _ _)
   | (with_reducible exact impl_Cuckoo_find_in26_0.mono _ _ _ _ _)
   | (with_reducible exact impl_IsCuckoo.mono _ _ _ _)
   | (with_reducible exact impl_IsKey.mono _ _)
   | (with_reducible exact impl_push.mono _ _ _ _ _ _)
   | (with_reducible exact impl_settle.mono _ _ _ _)
   | (with_reducible exact LeO.refl _)
   | (with_reducible exact LeO.none _)
   | (with_reducible refine LeO.ite ?_ ?_)
   | (with_reducible refine LeO.bind ?_ (fun _ => ?_))
   | exact ih0 _ _ _ _ _ _
   | exact impl_Cuckoo_find_in26_0.mono _ _ _ _ _
   | exact impl_IsCuckoo.mono _ _ _ _
   | exact impl_IsKey.mono _ _
   | exact impl_push.mono _ _ _ _ _ _
   | exact impl_settle.mono _ _ _ _
   | exact LeO.none _
   | refine LeO.ite ?_ ?_
   | refine LeO.bind ?_ (fun _ => ?_)
theorem impl_CuckooInsert.mono : ∀ a0 a1 a2 a3 a4 k, LeO (impl_CuckooInsert.f k a0 a1 a2 a3 a4) (impl_CuckooInsert.f (k + 1) a0 a1 a2 a3 a4) := by
 intro a0 a1 a2 a3 a4 k
 have ih0 := impl_CuckooInsert.mono_l k
 unfold impl_CuckooInsert.f
 repeat' first
   | (with_reducible exact ih0 _ _ _ _ _ _)
   | (with_reducible exact impl_Cuckoo_find_in26_0.mono _ _ _ _ _)
   | (with_reducible exact impl_IsCuckoo.mono _ _ _ _)
   | (with_reducible exact impl_IsKey.mono _ _)
   | (with_reducible exact impl_push.mono _ _ _ _ _ _)
   | (with_reducible exact impl_settle.mono _ _ _ _)
   | (with_reducible exact LeO.refl _)
   | (with_reducible exact LeO.none _)
   | (with_reducible refine LeO.ite ?_ ?_)
   | (with_reducible refine LeO.bind ?_ (fun _ => ?_))
   | exact ih0 _ _ _ _ _ _
   | exact impl_Cuckoo_find_in26_0.mono _ _ _ _ _
   | exact impl_IsCuckoo.mono _ _ _ _
   | exact impl_IsKey.mono _ _
   | exact impl_push.mono _ _ _ _ _ _
   | exact impl_settle.mono _ _ _ _
   | exact LeO.none _
   | refine LeO.ite ?_ ?_
   | refine LeO.bind ?_ (fun _ => ?_)
set_option maxHeartbeats 8000000 in
set_option maxRecDepth 100000 in
theorem impl_CuckooInsert.calls (k : Nat) (a0_0 : Int) (A0_1 : Option Addr) (c0_1 : Nat) (l0_1 : List ByteArray) (A0_2 : Option Addr) (c0_2 : Nat) (l0_2 : List ByteArray) (a1 : ByteArray) (a2 : Int) (r1 : Int) (r2 : List ByteArray) (r3 : List ByteArray) (r4 : Int) (r5 : Bool) (w : World) (hr0_1 : Kd.C Kd.string w A0_1 l0_1.length l0_1) (hc0_1 : l0_1.length ≤ c0_1) (hr0_2 : Kd.C Kd.string w A0_2 l0_2.length l0_2) (hc0_2 : l0_2.length ≤ c0_2) (h : impl_CuckooInsert.f k a0_0 l0_1 l0_2 a1 a2 = some (r1, r2, r3, r4, r5)) :
  Calls Try.prog 14 #[.agg #[.int .i64 a0_0, .slice A0_1 l0_1.length c0_1, .slice A0_2 l0_2.length c0_2], .string a1, .int .i64 a2] w fun e w' => ∃ v1_ v2_ : Value, e = .returned (.tuple #[.agg #[.int .i64 r1, v1_, v2_], .int .i64 r4, .bool r5]) ∧ Kd.R Kd.string 9 w' w.heap.size (fun k_ => some k_ ≠ (v2_ : Value).ownBlock) v1_ r2 ∧ Kd.R Kd.string 9 w' w.heap.size (fun k_ => some k_ ≠ (v1_ : Value).ownBlock) v2_ r3 ∧ Below w.heap.size w w' := by
 have hu26 := Try.underlying26
 have HR0_1 := Aside0.mk hr0_1
 have HC0_1 := Aside0.mk hc0_1
 clear hr0_1 hc0_1
 have HR0_2 := Aside0.mk hr0_2
 have HC0_2 := Aside0.mk hc0_2
 clear hr0_2 hc0_2
 have HB := Aside0.mk (Below.refl w.heap.size w)
 have H : ((impl_IsCuckoo.f k a0_0 l0_1 l0_2).bind fun t344 => (if t344 = true then ((impl_IsKey.f k a1).bind fun t345 => (if t345 = true then ((impl_in.f a2 0 40).bind fun t346 => (if t346 = true then ((impl_Cuckoo_find_in26_0.f k a0_0 l0_1 l0_2 a1).bind fun t347 => (if t347 ≥ 0 then (impl_CuckooInsert.j0 k a1 a2 true a0_0 l0_1 l0_2) else ((impl_Cuckoo_all_in26_0.f a0_0 l0_1 l0_2).bind fun t348 => (impl_CuckooInsert.j0 k a1 a2 ((t348.length : Int) == 40) a0_0 l0_1 l0_2)))) else (impl_CuckooInsert.j0 k a1 a2 true a0_0 l0_1 l0_2))) else (impl_CuckooInsert.j0 k a1 a2 true a0_0 l0_1 l0_2))) else (impl_CuckooInsert.j0 k a1 a2 true a0_0 l0_1 l0_2))) = some (r1, r2, r3, r4, r5) := h
 clear h
 have HC4 := Aside0.mk H
 clear H
 go_enter Try.func14, Try.ntmps14
 go_upto_region 1 with (first | ((with_reducible refine gate_dst (N := 3) rfl ?_); (try (refine gate_guard (by rfl) ?_; dsimp only)); refine box_event ?hg (N := 3) ?hd (cs := #[.int .i64 a0_0, .slice A0_1 l0_1.length c0_1, .slice A0_2 l0_2.length c0_2]) (t := 26) ?hr ?_; (case hd => rfl); (case hg => rfl); (case hr => first | (go_simp; done) | (go_simp; rfl)); intro gb342 hg w5 hbox hb; have n0_ := Aside0.mk (below_step (uB HB) hb); have n1_ := Aside0.mk (hbox); have n2_ := Aside0.mk ((by rw [hg]; exact (below_size (uB HB)) : w.heap.size ≤ gb342)); have n3_ := Aside0.mk ((by rw [hg]; exact (below_size (uB HB)) : w.heap.size ≤ gb342)); clear HB; have HB := n0_; have BK342 := n1_; have GW342 := n2_; have GE342 := n3_; clear n0_ n1_ n2_ n3_; clear hb hbox hg) | ((with_reducible refine gate_dst (N := 6) rfl ?_); (try (refine gate_guard (by rfl) ?_; dsimp only)); refine box_event ?hg (N := 6) ?hd (cs := #[.int .i64 0, .slice none 0 0, .slice none 0 0]) (t := 26) ?hr ?_; (case hd => rfl); (case hg => rfl); (case hr => first | (go_simp; done) | (go_simp; rfl)); intro gb343 hg w6 hbox hb; have n0_ := Aside0.mk (blk_below (g := gb342) (o := .cells #[.int .i64 a0_0, .slice A0_1 l0_1.length c0_1, .slice A0_2 l0_2.length c0_2] 26 (0, 0)) (uK BK342) hb); have n1_ := Aside0.mk (below_step (by repeat (first | (with_reducible first | exact HB.out | apply below_alloc | apply pw_below_drewN | apply below_drew1 | refine below_set ?_ GE342.out) | exact HB.out)) hb); have n2_ := Aside0.mk (hbox); have n3_ := Aside0.mk ((by rw [hg]; exact (below_size (by repeat (first | (with_reducible first | exact HB.out | apply below_alloc | apply pw_below_drewN | apply below_drew1 | refine below_set ?_ GE342.out) | exact HB.out))) : w.heap.size ≤ gb343)); have n4_ := Aside0.mk ((by rw [hg]; exact (below_size (by repeat (first | (with_reducible first | exact HB.out | apply below_alloc | apply pw_below_drewN | apply below_drew1 | refine below_set ?_ GE342.out) | exact HB.out))) : w.heap.size ≤ gb343)); have n5_ := Aside0.mk ((by rw [hg]; exact Nat.ne_of_lt (blk_lt (g := gb342) (o := .cells #[.int .i64 a0_0, .slice A0_1 l0_1.length c0_1, .slice A0_2 l0_2.length c0_2] 26 (0, 0)) (uK BK342)) : gb342 ≠ gb343)); have n6_ := Aside0.mk ((by rw [hg]; exact Nat.ne_of_gt (blk_lt (g := gb342) (o := .cells #[.int .i64 a0_0, .slice A0_1 l0_1.length c0_1, .slice A0_2 l0_2.length c0_2] 26 (0, 0)) (uK BK342)) : gb343 ≠ gb342)); clear BK342 HB; have BK342 := n0_; have HB := n1_; have BK343 := n2_; have GW343 := n3_; have GE343 := n4_; have NB342_343 := n5_; have NB343_342 := n6_; clear n0_ n1_ n2_ n3_ n4_ n5_ n6_; clear hb hbox hg))
 (try simp only [Act.put, List.setIfInBounds_toArray, List.set_cons_zero, List.set_cons_succ])
 go_cut [34] (fun v34 wc => ∃ (kq : Nat) (x34_3 : Bool), v34 = .bool x34_3 ∧ Aside0 (impl_CuckooInsert.j0 kq a1 a2 x34_3 a0_0 l0_1 l0_2 = some (r1, r2, r3, r4, r5)) ∧ Aside0 (kq ≤ k) ∧ Aside0 (wc.heap[gb342]? = some (.cells #[.int .i64 a0_0, (.slice A0_1 l0_1.length c0_1), (.slice A0_2 l0_2.length c0_2)] 26 (0, 0))) ∧ Aside0 (wc.heap[gb343]? = some (.cells #[.int .i64 0, (.slice none 0 0), (.slice none 0 0)] 26 (0, 0))) ∧ Aside0 (Below w.heap.size w wc))
 case first =>
  have H := HC4.out
  clear HC4
  replace H := Option.bind_eq_some_iff.mp H
  obtain ⟨t344, A70, H⟩ := H
  replace H : (if t344 = true then ((impl_IsKey.f k a1).bind fun t345 => (if t345 = true then ((impl_in.f a2 0 40).bind fun t346 => (if t346 = true then ((impl_Cuckoo_find_in26_0.f k a0_0 l0_1 l0_2 a1).bind fun t347 => (if t347 ≥ 0 then (impl_CuckooInsert.j0 k a1 a2 true a0_0 l0_1 l0_2) else ((impl_Cuckoo_all_in26_0.f a0_0 l0_1 l0_2).bind fun t348 => (impl_CuckooInsert.j0 k a1 a2 ((t348.length : Int) == 40) a0_0 l0_1 l0_2)))) else (impl_CuckooInsert.j0 k a1 a2 true a0_0 l0_1 l0_2))) else (impl_CuckooInsert.j0 k a1 a2 true a0_0 l0_1 l0_2))) else (impl_CuckooInsert.j0 k a1 a2 true a0_0 l0_1 l0_2)) = some (r1, r2, r3, r4, r5) := H
  have A7 := Aside0.mk A70
  clear A70
  by_cases c8 : t344 = true
  ·
   subst c8
   have H1 : ((impl_IsKey.f k a1).bind fun t345 => (if t345 = true then ((impl_in.f a2 0 40).bind fun t346 => (if t346 = true then ((impl_Cuckoo_find_in26_0.f k a0_0 l0_1 l0_2 a1).bind fun t347 => (if t347 ≥ 0 then (impl_CuckooInsert.j0 k a1 a2 true a0_0 l0_1 l0_2) else ((impl_Cuckoo_all_in26_0.f a0_0 l0_1 l0_2).bind fun t348 => (impl_CuckooInsert.j0 k a1 a2 ((t348.length : Int) == 40) a0_0 l0_1 l0_2)))) else (impl_CuckooInsert.j0 k a1 a2 true a0_0 l0_1 l0_2))) else (impl_CuckooInsert.j0 k a1 a2 true a0_0 l0_1 l0_2))) = some (r1, r2, r3, r4, r5) := by rw [if_pos rfl] at H; exact H
   clear H
   have H := H1
   clear H1
   replace H := Option.bind_eq_some_iff.mp H
   obtain ⟨t345, A90, H⟩ := H
   replace H : (if t345 = true then ((impl_in.f a2 0 40).bind fun t346 => (if t346 = true then ((impl_Cuckoo_find_in26_0.f k a0_0 l0_1 l0_2 a1).bind fun t347 => (if t347 ≥ 0 then (impl_CuckooInsert.j0 k a1 a2 true a0_0 l0_1 l0_2) else ((impl_Cuckoo_all_in26_0.f a0_0 l0_1 l0_2).bind fun t348 => (impl_CuckooInsert.j0 k a1 a2 ((t348.length : Int) == 40) a0_0 l0_1 l0_2)))) else (impl_CuckooInsert.j0 k a1 a2 true a0_0 l0_1 l0_2))) else (impl_CuckooInsert.j0 k a1 a2 true a0_0 l0_1 l0_2)) = some (r1, r2, r3, r4, r5) := H
   have A9 := Aside0.mk A90
   clear A90
   by_cases c10 : t345 = true
   ·
    subst c10
    have H1 : ((impl_in.f a2 0 40).bind fun t346 => (if t346 = true then ((impl_Cuckoo_find_in26_0.f k a0_0 l0_1 l0_2 a1).bind fun t347 => (if t347 ≥ 0 then (impl_CuckooInsert.j0 k a1 a2 true a0_0 l0_1 l0_2) else ((impl_Cuckoo_all_in26_0.f a0_0 l0_1 l0_2).bind fun t348 => (impl_CuckooInsert.j0 k a1 a2 ((t348.length : Int) == 40) a0_0 l0_1 l0_2)))) else (impl_CuckooInsert.j0 k a1 a2 true a0_0 l0_1 l0_2))) = some (r1, r2, r3, r4, r5) := by rw [if_pos rfl] at H; exact H
    clear H
    have H := H1
    clear H1
    replace H := Option.bind_eq_some_iff.mp H
    obtain ⟨t346, A110, H⟩ := H
    replace H : (if t346 = true then ((impl_Cuckoo_find_in26_0.f k a0_0 l0_1 l0_2 a1).bind fun t347 => (if t347 ≥ 0 then (impl_CuckooInsert.j0 k a1 a2 true a0_0 l0_1 l0_2) else ((impl_Cuckoo_all_in26_0.f a0_0 l0_1 l0_2).bind fun t348 => (impl_CuckooInsert.j0 k a1 a2 ((t348.length : Int) == 40) a0_0 l0_1 l0_2)))) else (impl_CuckooInsert.j0 k a1 a2 true a0_0 l0_1 l0_2)) = some (r1, r2, r3, r4, r5) := H
    have A11 := Aside0.mk A110
    clear A110
    by_cases c12 : t346 = true
    ·
     subst c12
     have H1 : ((impl_Cuckoo_find_in26_0.f k a0_0 l0_1 l0_2 a1).bind fun t347 => (if t347 ≥ 0 then (impl_CuckooInsert.j0 k a1 a2 true a0_0 l0_1 l0_2) else ((impl_Cuckoo_all_in26_0.f a0_0 l0_1 l0_2).bind fun t348 => (impl_CuckooInsert.j0 k a1 a2 ((t348.length : Int) == 40) a0_0 l0_1 l0_2)))) = some (r1, r2, r3, r4, r5) := by rw [if_pos rfl] at H; exact H
     clear H
     have H := H1
     clear H1
     replace H := Option.bind_eq_some_iff.mp H
     obtain ⟨t347, A130, H⟩ := H
     replace H : (if t347 ≥ 0 then (impl_CuckooInsert.j0 k a1 a2 true a0_0 l0_1 l0_2) else ((impl_Cuckoo_all_in26_0.f a0_0 l0_1 l0_2).bind fun t348 => (impl_CuckooInsert.j0 k a1 a2 ((t348.length : Int) == 40) a0_0 l0_1 l0_2))) = some (r1, r2, r3, r4, r5) := H
     have A13 := Aside0.mk A130
     clear A130
     by_cases c14 : t347 ≥ 0
     ·
      rw [if_pos c14] at H
      have c14b0 : decide (0 ≤ t347) = true := decide_eq_true c14
      clear c14
      (first | rw [c14b0] | (simp only [i64_w, i32_w]; rw [c14b0]) | skip)
      have H' := Aside0.mk H
      clear H
      have hnb15 := NB342_343.out
      have hnc15 := NB343_342.out
      have hcz16_0 : w6.cell? ⟨gb342, 0, none⟩ = some (.int .i64 a0_0) := (blk_cell BK342.out 0).trans rfl
      have hcz16_1 : w6.cell? ⟨gb342, 1, none⟩ = some (.slice A0_1 l0_1.length c0_1) := (blk_cell BK342.out 1).trans rfl
      have hcz16_2 : w6.cell? ⟨gb342, 2, none⟩ = some (.slice A0_2 l0_2.length c0_2) := (blk_cell BK342.out 2).trans rfl
      have hfz16_0 := blk_frozen BK342.out 0
      have hfz16_1 := blk_frozen BK342.out 1
      have hfz16_2 := blk_frozen BK342.out 2
      go_wp2_with (first | ((with_reducible refine gate_callee (f := 24) rfl ?_); refine goesL_ (some 13) rfl rfl Try.func24 (by kernel_rfl) rfl #[.agg #[.int .i64 a0_0, .slice A0_1 l0_1.length c0_1, .slice A0_2 l0_2.length c0_2]] rfl (by (try simp only [List.map_toArray, List.map_cons, List.map_nil]); first | done | rfl | (simp only [List.length_drop, List.length_take]; rfl)) ?_; (with_reducible refine (impl_IsCuckoo.calls k a0_0 _ _ l0_1 _ _ l0_2 true _ ?side1 ?side2 ?side3 ?side4 A7.out).mono ?_); (case side1 => exact uC HR0_1 HB); (case side2 => exact HC0_1.out); (case side3 => exact uC HR0_2 HB); (case side4 => exact HC0_2.out); rintro e w17 ⟨rfl, hb⟩; refine ⟨_, rfl, ?_⟩; have n0_ := Aside0.mk (blk_below (g := gb342) (o := .cells #[.int .i64 a0_0, .slice A0_1 l0_1.length c0_1, .slice A0_2 l0_2.length c0_2] 26 (0, 0)) (uK BK342) hb); have n1_ := Aside0.mk (blk_below (g := gb343) (o := .cells #[.int .i64 0, .slice none 0 0, .slice none 0 0] 26 (0, 0)) (uK BK343) hb); have n2_ := Aside0.mk (below_step (by repeat (first | (with_reducible first | exact HB.out | apply below_alloc | apply pw_below_drewN | apply below_drew1 | refine below_set ?_ GE342.out | refine below_set ?_ GE343.out) | exact HB.out)) hb); clear BK342 BK343 HB; have BK342 := n0_; have BK343 := n1_; have HB := n2_; clear n0_ n1_ n2_; (try clear hb); (try clear hb2); (try clear hk); (try clear hi)) | (go_at_call 35; (with_reducible refine (impl_IsKey.calls k a1 true _ A9.out).mono ?_); rintro e w' ⟨rfl, ⟨nd, rfl⟩⟩) | (go_at_call 36; (with_reducible refine (impl_in.calls a2 0 40 true _ A11.out).mono ?_); rintro e w' ⟨rfl, ⟨nd, rfl⟩⟩) | (go_at_call 37; (with_reducible refine (impl_Cuckoo_find_in26_0.calls k gb342 a0_0 A0_1 c0_1 l0_1 A0_2 c0_2 l0_2 a1 t347 _ ?side1 ?side2 ?side3 ?side4 ?side5 A13.out).mono ?_); (case side1 => exact (uK BK342)); (case side2 => repeat (first | exact (Kd.C_below HR0_1.out (by repeat (first | (with_reducible first | exact HB.out | apply below_alloc | apply pw_below_drewN | apply below_drew1 | refine below_set ?_ GE342.out | refine below_set ?_ GE343.out) | exact HB.out))) | (with_reducible refine Kd.C_alloc ?_ _) | (with_reducible refine Kd.C_drewN ?_ _) | (with_reducible refine Kd.C_drew ?_))); (case side3 => exact HC0_1.out); (case side4 => repeat (first | exact (Kd.C_below HR0_2.out (by repeat (first | (with_reducible first | exact HB.out | apply below_alloc | apply pw_below_drewN | apply below_drew1 | refine below_set ?_ GE342.out | refine below_set ?_ GE343.out) | exact HB.out))) | (with_reducible refine Kd.C_alloc ?_ _) | (with_reducible refine Kd.C_drewN ?_ _) | (with_reducible refine Kd.C_drew ?_))); (case side5 => exact HC0_2.out); rintro e w18 ⟨rfl, hb⟩; have n0_ := Aside0.mk (blk_below (g := gb342) (o := .cells #[.int .i64 a0_0, .slice A0_1 l0_1.length c0_1, .slice A0_2 l0_2.length c0_2] 26 (0, 0)) (uK BK342) hb); have n1_ := Aside0.mk (blk_below (g := gb343) (o := .cells #[.int .i64 0, .slice none 0 0, .slice none 0 0] 26 (0, 0)) (uK BK343) hb); have n2_ := Aside0.mk (below_step (by repeat (first | (with_reducible first | exact HB.out | apply below_alloc | apply pw_below_drewN | apply below_drew1 | refine below_set ?_ GE342.out | refine below_set ?_ GE343.out) | exact HB.out)) hb); clear BK342 BK343 HB; have BK342 := n0_; have BK343 := n1_; have HB := n2_; clear n0_ n1_ n2_; (try clear hb); (try clear hb2); (try clear hk); (try clear hi)))
      go_meet
      case rel => exact ⟨_, (true), (by first | rfl | (simp; done) | (simp [*]; done)), H', ⟨by first | omega | exact Nat.le_refl _⟩, ⟨by refine uW ?_; exact BK342.out⟩, ⟨by refine uW ?_; exact BK343.out⟩, ⟨by repeat (first | (with_reducible first | exact HB.out | apply below_alloc | apply pw_below_drewN | apply below_drew1 | refine below_set ?_ GE342.out | refine below_set ?_ GE343.out) | exact HB.out)⟩⟩
     ·
      rw [if_neg c14] at H
      have c14b0 : decide (0 ≤ t347) = false := decide_eq_false c14
      clear c14
      (first | rw [c14b0] | (simp only [i64_w, i32_w]; rw [c14b0]) | skip)
      replace H := Option.bind_eq_some_iff.mp H
      obtain ⟨t348, A190, H⟩ := H
      replace H : (impl_CuckooInsert.j0 k a1 a2 ((t348.length : Int) == 40) a0_0 l0_1 l0_2) = some (r1, r2, r3, r4, r5) := H
      have A19 := Aside0.mk A190
      clear A190
      have H' := Aside0.mk H
      clear H
      have hnb20 := NB342_343.out
      have hnc20 := NB343_342.out
      have hcz21_0 : w6.cell? ⟨gb342, 0, none⟩ = some (.int .i64 a0_0) := (blk_cell BK342.out 0).trans rfl
      have hcz21_1 : w6.cell? ⟨gb342, 1, none⟩ = some (.slice A0_1 l0_1.length c0_1) := (blk_cell BK342.out 1).trans rfl
      have hcz21_2 : w6.cell? ⟨gb342, 2, none⟩ = some (.slice A0_2 l0_2.length c0_2) := (blk_cell BK342.out 2).trans rfl
      have hfz21_0 := blk_frozen BK342.out 0
      have hfz21_1 := blk_frozen BK342.out 1
      have hfz21_2 := blk_frozen BK342.out 2
      go_wp2_with (first | ((with_reducible refine gate_callee (f := 24) rfl ?_); refine goesL_ (some 13) rfl rfl Try.func24 (by kernel_rfl) rfl #[.agg #[.int .i64 a0_0, .slice A0_1 l0_1.length c0_1, .slice A0_2 l0_2.length c0_2]] rfl (by (try simp only [List.map_toArray, List.map_cons, List.map_nil]); first | done | rfl | (simp only [List.length_drop, List.length_take]; rfl)) ?_; (with_reducible refine (impl_IsCuckoo.calls k a0_0 _ _ l0_1 _ _ l0_2 true _ ?side1 ?side2 ?side3 ?side4 A7.out).mono ?_); (case side1 => exact uC HR0_1 HB); (case side2 => exact HC0_1.out); (case side3 => exact uC HR0_2 HB); (case side4 => exact HC0_2.out); rintro e w22 ⟨rfl, hb⟩; refine ⟨_, rfl, ?_⟩; have n0_ := Aside0.mk (blk_below (g := gb342) (o := .cells #[.int .i64 a0_0, .slice A0_1 l0_1.length c0_1, .slice A0_2 l0_2.length c0_2] 26 (0, 0)) (uK BK342) hb); have n1_ := Aside0.mk (blk_below (g := gb343) (o := .cells #[.int .i64 0, .slice none 0 0, .slice none 0 0] 26 (0, 0)) (uK BK343) hb); have n2_ := Aside0.mk (below_step (by repeat (first | (with_reducible first | exact HB.out | apply below_alloc | apply pw_below_drewN | apply below_drew1 | refine below_set ?_ GE342.out | refine below_set ?_ GE343.out) | exact HB.out)) hb); clear BK342 BK343 HB; have BK342 := n0_; have BK343 := n1_; have HB := n2_; clear n0_ n1_ n2_; (try clear hb); (try clear hb2); (try clear hk); (try clear hi)) | (go_at_call 35; (with_reducible refine (impl_IsKey.calls k a1 true _ A9.out).mono ?_); rintro e w' ⟨rfl, ⟨nd, rfl⟩⟩) | (go_at_call 36; (with_reducible refine (impl_in.calls a2 0 40 true _ A11.out).mono ?_); rintro e w' ⟨rfl, ⟨nd, rfl⟩⟩) | (go_at_call 37; (with_reducible refine (impl_Cuckoo_find_in26_0.calls k gb342 a0_0 A0_1 c0_1 l0_1 A0_2 c0_2 l0_2 a1 t347 _ ?side1 ?side2 ?side3 ?side4 ?side5 A13.out).mono ?_); (case side1 => exact (uK BK342)); (case side2 => repeat (first | exact (Kd.C_below HR0_1.out (by repeat (first | (with_reducible first | exact HB.out | apply below_alloc | apply pw_below_drewN | apply below_drew1 | refine below_set ?_ GE342.out | refine below_set ?_ GE343.out) | exact HB.out))) | (with_reducible refine Kd.C_alloc ?_ _) | (with_reducible refine Kd.C_drewN ?_ _) | (with_reducible refine Kd.C_drew ?_))); (case side3 => exact HC0_1.out); (case side4 => repeat (first | exact (Kd.C_below HR0_2.out (by repeat (first | (with_reducible first | exact HB.out | apply below_alloc | apply pw_below_drewN | apply below_drew1 | refine below_set ?_ GE342.out | refine below_set ?_ GE343.out) | exact HB.out))) | (with_reducible refine Kd.C_alloc ?_ _) | (with_reducible refine Kd.C_drewN ?_ _) | (with_reducible refine Kd.C_drew ?_))); (case side5 => exact HC0_2.out); rintro e w23 ⟨rfl, hb⟩; have n0_ := Aside0.mk (blk_below (g := gb342) (o := .cells #[.int .i64 a0_0, .slice A0_1 l0_1.length c0_1, .slice A0_2 l0_2.length c0_2] 26 (0, 0)) (uK BK342) hb); have n1_ := Aside0.mk (blk_below (g := gb343) (o := .cells #[.int .i64 0, .slice none 0 0, .slice none 0 0] 26 (0, 0)) (uK BK343) hb); have n2_ := Aside0.mk (below_step (by repeat (first | (with_reducible first | exact HB.out | apply below_alloc | apply pw_below_drewN | apply below_drew1 | refine below_set ?_ GE342.out | refine below_set ?_ GE343.out) | exact HB.out)) hb); clear BK342 BK343 HB; have BK342 := n0_; have BK343 := n1_; have HB := n2_; clear n0_ n1_ n2_; (try clear hb); (try clear hb2); (try clear hk); (try clear hi)) | (go_at_call 38; (with_reducible refine (impl_Cuckoo_all_in26_0.calls gb342 a0_0 A0_1 c0_1 l0_1 A0_2 c0_2 l0_2 t348 _ ?side1 ?side2 ?side3 ?side4 ?side5 A19.out).mono ?_); (case side1 => exact (uK BK342)); (case side2 => exact uC HR0_1 HB); (case side3 => exact HC0_1.out); (case side4 => exact uC HR0_2 HB); (case side5 => exact HC0_2.out); rintro e w24 ⟨v349, rfl, ho0, hb⟩; have n0_ := Aside0.mk (Kd.R_lower ho0 (below_size (by repeat (first | (with_reducible first | exact HB.out | apply below_alloc | apply pw_below_drewN | apply below_drew1 | refine below_set ?_ GE342.out | refine below_set ?_ GE343.out) | exact HB.out)))); have n1_ := Aside0.mk (blk_below (g := gb342) (o := .cells #[.int .i64 a0_0, .slice A0_1 l0_1.length c0_1, .slice A0_2 l0_2.length c0_2] 26 (0, 0)) (uK BK342) hb); have n2_ := Aside0.mk (blk_below (g := gb343) (o := .cells #[.int .i64 0, .slice none 0 0, .slice none 0 0] 26 (0, 0)) (uK BK343) hb); have n3_ := Aside0.mk (below_step (by repeat (first | (with_reducible first | exact HB.out | apply below_alloc | apply pw_below_drewN | apply below_drew1 | refine below_set ?_ GE342.out | refine below_set ?_ GE343.out) | exact HB.out)) hb); clear BK342 BK343 HB; have HO350 := n0_; have BK342 := n1_; have BK343 := n2_; have HB := n3_; clear n0_ n1_ n2_ n3_; (try clear hb); (try clear hb2); (try clear hk); (try clear hi); (try clear ho0); obtain ⟨Ao25, co25, eo25⟩ := Kd.R_slice HO350.out; subst eo25))
      go_meet
      case rel => exact ⟨_, (((t348.length : Int) == 40)), (by first | rfl | (simp; done) | (simp [*]; done)), H', ⟨by first | omega | exact Nat.le_refl _⟩, ⟨by refine uW ?_; exact BK342.out⟩, ⟨by refine uW ?_; exact BK343.out⟩, ⟨by repeat (first | (with_reducible first | exact HB.out | apply below_alloc | apply pw_below_drewN | apply below_drew1 | refine below_set ?_ GE342.out | refine below_set ?_ GE343.out) | exact HB.out)⟩⟩
    ·
     replace c12 := Bool.eq_false_iff.mpr c12
     subst c12
     have H1 : (impl_CuckooInsert.j0 k a1 a2 true a0_0 l0_1 l0_2) = some (r1, r2, r3, r4, r5) := by rw [if_neg (show ¬ (false = true) by decide)] at H; exact H
     clear H
     have H := H1
     clear H1
     have H' := Aside0.mk H
     clear H
     have hnb26 := NB342_343.out
     have hnc26 := NB343_342.out
     have hcz27_0 : w6.cell? ⟨gb342, 0, none⟩ = some (.int .i64 a0_0) := (blk_cell BK342.out 0).trans rfl
     have hcz27_1 : w6.cell? ⟨gb342, 1, none⟩ = some (.slice A0_1 l0_1.length c0_1) := (blk_cell BK342.out 1).trans rfl
     have hcz27_2 : w6.cell? ⟨gb342, 2, none⟩ = some (.slice A0_2 l0_2.length c0_2) := (blk_cell BK342.out 2).trans rfl
     have hfz27_0 := blk_frozen BK342.out 0
     have hfz27_1 := blk_frozen BK342.out 1
     have hfz27_2 := blk_frozen BK342.out 2
     go_wp2_with (first | ((with_reducible refine gate_callee (f := 24) rfl ?_); refine goesL_ (some 13) rfl rfl Try.func24 (by kernel_rfl) rfl #[.agg #[.int .i64 a0_0, .slice A0_1 l0_1.length c0_1, .slice A0_2 l0_2.length c0_2]] rfl (by (try simp only [List.map_toArray, List.map_cons, List.map_nil]); first | done | rfl | (simp only [List.length_drop, List.length_take]; rfl)) ?_; (with_reducible refine (impl_IsCuckoo.calls k a0_0 _ _ l0_1 _ _ l0_2 true _ ?side1 ?side2 ?side3 ?side4 A7.out).mono ?_); (case side1 => exact uC HR0_1 HB); (case side2 => exact HC0_1.out); (case side3 => exact uC HR0_2 HB); (case side4 => exact HC0_2.out); rintro e w28 ⟨rfl, hb⟩; refine ⟨_, rfl, ?_⟩; have n0_ := Aside0.mk (blk_below (g := gb342) (o := .cells #[.int .i64 a0_0, .slice A0_1 l0_1.length c0_1, .slice A0_2 l0_2.length c0_2] 26 (0, 0)) (uK BK342) hb); have n1_ := Aside0.mk (blk_below (g := gb343) (o := .cells #[.int .i64 0, .slice none 0 0, .slice none 0 0] 26 (0, 0)) (uK BK343) hb); have n2_ := Aside0.mk (below_step (by repeat (first | (with_reducible first | exact HB.out | apply below_alloc | apply pw_below_drewN | apply below_drew1 | refine below_set ?_ GE342.out | refine below_set ?_ GE343.out) | exact HB.out)) hb); clear BK342 BK343 HB; have BK342 := n0_; have BK343 := n1_; have HB := n2_; clear n0_ n1_ n2_; (try clear hb); (try clear hb2); (try clear hk); (try clear hi)) | (go_at_call 35; (with_reducible refine (impl_IsKey.calls k a1 true _ A9.out).mono ?_); rintro e w' ⟨rfl, ⟨nd, rfl⟩⟩) | (go_at_call 36; (with_reducible refine (impl_in.calls a2 0 40 false _ A11.out).mono ?_); rintro e w' ⟨rfl, ⟨nd, rfl⟩⟩))
     go_meet
     case rel => exact ⟨_, (true), (by first | rfl | (simp; done) | (simp [*]; done)), H', ⟨by first | omega | exact Nat.le_refl _⟩, ⟨by refine uW ?_; exact BK342.out⟩, ⟨by refine uW ?_; exact BK343.out⟩, ⟨by repeat (first | (with_reducible first | exact HB.out | apply below_alloc | apply pw_below_drewN | apply below_drew1 | refine below_set ?_ GE342.out | refine below_set ?_ GE343.out) | exact HB.out)⟩⟩
   ·
    replace c10 := Bool.eq_false_iff.mpr c10
    subst c10
    have H1 : (impl_CuckooInsert.j0 k a1 a2 true a0_0 l0_1 l0_2) = some (r1, r2, r3, r4, r5) := by rw [if_neg (show ¬ (false = true) by decide)] at H; exact H
    clear H
    have H := H1
    clear H1
    have H' := Aside0.mk H
    clear H
    have hnb29 := NB342_343.out
    have hnc29 := NB343_342.out
    have hcz30_0 : w6.cell? ⟨gb342, 0, none⟩ = some (.int .i64 a0_0) := (blk_cell BK342.out 0).trans rfl
    have hcz30_1 : w6.cell? ⟨gb342, 1, none⟩ = some (.slice A0_1 l0_1.length c0_1) := (blk_cell BK342.out 1).trans rfl
    have hcz30_2 : w6.cell? ⟨gb342, 2, none⟩ = some (.slice A0_2 l0_2.length c0_2) := (blk_cell BK342.out 2).trans rfl
    have hfz30_0 := blk_frozen BK342.out 0
    have hfz30_1 := blk_frozen BK342.out 1
    have hfz30_2 := blk_frozen BK342.out 2
    go_wp2_with (first | ((with_reducible refine gate_callee (f := 24) rfl ?_); refine goesL_ (some 13) rfl rfl Try.func24 (by kernel_rfl) rfl #[.agg #[.int .i64 a0_0, .slice A0_1 l0_1.length c0_1, .slice A0_2 l0_2.length c0_2]] rfl (by (try simp only [List.map_toArray, List.map_cons, List.map_nil]); first | done | rfl | (simp only [List.length_drop, List.length_take]; rfl)) ?_; (with_reducible refine (impl_IsCuckoo.calls k a0_0 _ _ l0_1 _ _ l0_2 true _ ?side1 ?side2 ?side3 ?side4 A7.out).mono ?_); (case side1 => exact uC HR0_1 HB); (case side2 => exact HC0_1.out); (case side3 => exact uC HR0_2 HB); (case side4 => exact HC0_2.out); rintro e w31 ⟨rfl, hb⟩; refine ⟨_, rfl, ?_⟩; have n0_ := Aside0.mk (blk_below (g := gb342) (o := .cells #[.int .i64 a0_0, .slice A0_1 l0_1.length c0_1, .slice A0_2 l0_2.length c0_2] 26 (0, 0)) (uK BK342) hb); have n1_ := Aside0.mk (blk_below (g := gb343) (o := .cells #[.int .i64 0, .slice none 0 0, .slice none 0 0] 26 (0, 0)) (uK BK343) hb); have n2_ := Aside0.mk (below_step (by repeat (first | (with_reducible first | exact HB.out | apply below_alloc | apply pw_below_drewN | apply below_drew1 | refine below_set ?_ GE342.out | refine below_set ?_ GE343.out) | exact HB.out)) hb); clear BK342 BK343 HB; have BK342 := n0_; have BK343 := n1_; have HB := n2_; clear n0_ n1_ n2_; (try clear hb); (try clear hb2); (try clear hk); (try clear hi)) | (go_at_call 35; (with_reducible refine (impl_IsKey.calls k a1 false _ A9.out).mono ?_); rintro e w' ⟨rfl, ⟨nd, rfl⟩⟩))
    go_meet
    case rel => exact ⟨_, (true), (by first | rfl | (simp; done) | (simp [*]; done)), H', ⟨by first | omega | exact Nat.le_refl _⟩, ⟨by refine uW ?_; exact BK342.out⟩, ⟨by refine uW ?_; exact BK343.out⟩, ⟨by repeat (first | (with_reducible first | exact HB.out | apply below_alloc | apply pw_below_drewN | apply below_drew1 | refine below_set ?_ GE342.out | refine below_set ?_ GE343.out) | exact HB.out)⟩⟩
  ·
   replace c8 := Bool.eq_false_iff.mpr c8
   subst c8
   have H1 : (impl_CuckooInsert.j0 k a1 a2 true a0_0 l0_1 l0_2) = some (r1, r2, r3, r4, r5) := by rw [if_neg (show ¬ (false = true) by decide)] at H; exact H
   clear H
   have H := H1
   clear H1
   have H' := Aside0.mk H
   clear H
   have hnb32 := NB342_343.out
   have hnc32 := NB343_342.out
   have hcz33_0 : w6.cell? ⟨gb342, 0, none⟩ = some (.int .i64 a0_0) := (blk_cell BK342.out 0).trans rfl
   have hcz33_1 : w6.cell? ⟨gb342, 1, none⟩ = some (.slice A0_1 l0_1.length c0_1) := (blk_cell BK342.out 1).trans rfl
   have hcz33_2 : w6.cell? ⟨gb342, 2, none⟩ = some (.slice A0_2 l0_2.length c0_2) := (blk_cell BK342.out 2).trans rfl
   have hfz33_0 := blk_frozen BK342.out 0
   have hfz33_1 := blk_frozen BK342.out 1
   have hfz33_2 := blk_frozen BK342.out 2
   go_wp2_with (first | ((with_reducible refine gate_callee (f := 24) rfl ?_); refine goesL_ (some 13) rfl rfl Try.func24 (by kernel_rfl) rfl #[.agg #[.int .i64 a0_0, .slice A0_1 l0_1.length c0_1, .slice A0_2 l0_2.length c0_2]] rfl (by (try simp only [List.map_toArray, List.map_cons, List.map_nil]); first | done | rfl | (simp only [List.length_drop, List.length_take]; rfl)) ?_; (with_reducible refine (impl_IsCuckoo.calls k a0_0 _ _ l0_1 _ _ l0_2 false _ ?side1 ?side2 ?side3 ?side4 A7.out).mono ?_); (case side1 => exact uC HR0_1 HB); (case side2 => exact HC0_1.out); (case side3 => exact uC HR0_2 HB); (case side4 => exact HC0_2.out); rintro e w34 ⟨rfl, hb⟩; refine ⟨_, rfl, ?_⟩; have n0_ := Aside0.mk (blk_below (g := gb342) (o := .cells #[.int .i64 a0_0, .slice A0_1 l0_1.length c0_1, .slice A0_2 l0_2.length c0_2] 26 (0, 0)) (uK BK342) hb); have n1_ := Aside0.mk (blk_below (g := gb343) (o := .cells #[.int .i64 0, .slice none 0 0, .slice none 0 0] 26 (0, 0)) (uK BK343) hb); have n2_ := Aside0.mk (below_step (by repeat (first | (with_reducible first | exact HB.out | apply below_alloc | apply pw_below_drewN | apply below_drew1 | refine below_set ?_ GE342.out | refine below_set ?_ GE343.out) | exact HB.out)) hb); clear BK342 BK343 HB; have BK342 := n0_; have BK343 := n1_; have HB := n2_; clear n0_ n1_ n2_; (try clear hb); (try clear hb2); (try clear hk); (try clear hi)))
   go_meet
   case rel => exact ⟨_, (true), (by first | rfl | (simp; done) | (simp [*]; done)), H', ⟨by first | omega | exact Nat.le_refl _⟩, ⟨by refine uW ?_; exact BK342.out⟩, ⟨by refine uW ?_; exact BK343.out⟩, ⟨by repeat (first | (with_reducible first | exact HB.out | apply below_alloc | apply pw_below_drewN | apply below_drew1 | refine below_set ?_ GE342.out | refine below_set ?_ GE343.out) | exact HB.out)⟩⟩
 case rest =>
  clear HC4
  try clear c1
  try clear c2
  try clear p2
  try clear c3
  try clear c8
  try clear c10
  try clear c12
  try clear c14
  try clear c14b0
  try clear c15
  try clear c20
  try clear c24
  try clear c26
  try clear c29
  try clear c32
  try clear hcz16_0
  try clear hcz16_1
  try clear hcz16_2
  try clear hcz21_0
  try clear hcz21_1
  try clear hcz21_2
  try clear hcz27_0
  try clear hcz27_1
  try clear hcz27_2
  try clear hcz30_0
  try clear hcz30_1
  try clear hcz30_2
  try clear hcz33_0
  try clear hcz33_1
  try clear hcz33_2
  try clear hfz16_0
  try clear hfz16_1
  try clear hfz16_2
  try clear hfz21_0
  try clear hfz21_1
  try clear hfz21_2
  try clear hfz27_0
  try clear hfz27_1
  try clear hfz27_2
  try clear hfz30_0
  try clear hfz30_1
  try clear hfz30_2
  try clear hfz33_0
  try clear hfz33_1
  try clear hfz33_2
  obtain ⟨kq, x34_3, rfl, HA, HJ3, BK342, BK343, HB⟩ := hcut
  cases kq with
  | zero => exact absurd HA.out (by simp [impl_CuckooInsert.j0])
  | succ kj3 =>
   have H := HA.out
   clear HA
   simp only [impl_CuckooInsert.j0] at H
   by_cases c35 : x34_3 = true
   ·
    subst c35
    have H1 : (some (0, ([] : List ByteArray), ([] : List ByteArray), 0, false)) = some (r1, r2, r3, r4, r5) := by rw [if_pos rfl] at H; exact H
    clear H
    have H := H1
    clear H1
    simp only [Option.some.injEq, Prod.mk.injEq] at H
    obtain ⟨rfl, rfl, rfl, rfl, rfl⟩ := H
    have hnb36 := NB343_342.out
    have hnc36 := NB342_343.out
    have hcz37_0 : wc.cell? ⟨gb343, 0, none⟩ = some (.int .i64 0) := (blk_cell BK343.out 0).trans rfl
    have hcz37_1 : wc.cell? ⟨gb343, 1, none⟩ = some (.slice none 0 0) := (blk_cell BK343.out 1).trans rfl
    have hcz37_2 : wc.cell? ⟨gb343, 2, none⟩ = some (.slice none 0 0) := (blk_cell BK343.out 2).trans rfl
    have hfz37_0 := blk_frozen BK343.out 0
    have hfz37_1 := blk_frozen BK343.out 1
    have hfz37_2 := blk_frozen BK343.out 2
    go_wp2
    refine bodyPost_ret (results_ctt rfl _ _ gb343 26 #[.int .i64 0, .slice none 0 0, .slice none 0 0] (0, 0) _ rfl (by refine uW ?_; refine blk_put (cs := #[.int .i64 0, .slice none 0 0, .slice none 0 0]) ?_ 2 _ rfl; refine uW ?_; refine blk_put (cs := #[.int .i64 0, .slice none 0 0, .slice none 0 0]) ?_ 1 _ rfl; refine uW ?_; refine blk_put (cs := #[.int .i64 0, .slice none 0 0, .slice none 0 0]) ?_ 0 _ rfl; refine uW ?_; exact BK343.out) Try.underlying26 rfl (by kernel_rfl)) rfl ?_
    exact ⟨_, _, by first | rfl | (simp [errW_none, errW_some] <;> rfl) | (simp [*, errW_none, errW_some] <;> rfl), by first | exact Kd.R_nil _ _ _ _ _ | exact Kd.N_nil _ _ _ _ _ | exact Kd.V_nil _ _ _ _ _ | exact Kd.Q_nil _ _ _ _ _ | exact Kd.S_nil _ _ _ _ _, by first | exact Kd.R_nil _ _ _ _ _ | exact Kd.N_nil _ _ _ _ _ | exact Kd.V_nil _ _ _ _ _ | exact Kd.Q_nil _ _ _ _ _ | exact Kd.S_nil _ _ _ _ _, by repeat (first | (with_reducible first | exact HB.out | apply below_alloc | apply pw_below_drewN | apply below_drew1 | refine below_set ?_ GE342.out | refine below_set ?_ GE343.out) | exact HB.out)⟩
   ·
    replace c35 := Bool.eq_false_iff.mpr c35
    subst c35
    have H1 : ((impl_cloneCuckoo.f a0_0 l0_1 l0_2).bind fun bt351 => ((impl_settle.f kj3 bt351.1 bt351.2.1 a1).bind fun bt359 => (if bt359.1 = true then (some (bt351.1, bt359.2, bt351.2.2, 0, true)) else ((impl_push.f kj3 bt351.1 bt359.2 bt351.2.2 a1 a2).bind fun bt360 => (if bt360.2.1 = true then (some (bt351.1, bt360.2.2.1, bt360.2.2.2, bt360.1, true)) else (some (0, ([] : List ByteArray), ([] : List ByteArray), 0, false))))))) = some (r1, r2, r3, r4, r5) := by rw [if_neg (show ¬ (false = true) by decide)] at H; exact H
    clear H
    have H := H1
    clear H1
    replace H := Option.bind_eq_some_iff.mp H
    obtain ⟨⟨t351, t352, t355⟩, A380, H⟩ := H
    replace H : ((impl_settle.f kj3 t351 t352 a1).bind fun bt359 => (if bt359.1 = true then (some (t351, bt359.2, t355, 0, true)) else ((impl_push.f kj3 t351 bt359.2 t355 a1 a2).bind fun bt360 => (if bt360.2.1 = true then (some (t351, bt360.2.2.1, bt360.2.2.2, bt360.1, true)) else (some (0, ([] : List ByteArray), ([] : List ByteArray), 0, false)))))) = some (r1, r2, r3, r4, r5) := H
    have A38 := Aside0.mk A380
    clear A380
    replace H := Option.bind_eq_some_iff.mp H
    obtain ⟨⟨t359, t900⟩, A390, H⟩ := H
    replace H : (if t359 = true then (some (t351, t900, t355, 0, true)) else ((impl_push.f kj3 t351 t900 t355 a1 a2).bind fun bt360 => (if bt360.2.1 = true then (some (t351, bt360.2.2.1, bt360.2.2.2, bt360.1, true)) else (some (0, ([] : List ByteArray), ([] : List ByteArray), 0, false))))) = some (r1, r2, r3, r4, r5) := H
    have A39 := Aside0.mk A390
    clear A390
    by_cases c40 : t359 = true
    ·
     subst c40
     have H1 : (some (t351, t900, t355, 0, true)) = some (r1, r2, r3, r4, r5) := by rw [if_pos rfl] at H; exact H
     clear H
     have H := H1
     clear H1
     simp only [Option.some.injEq, Prod.mk.injEq] at H
     obtain ⟨rfl, rfl, rfl, rfl, rfl⟩ := H
     have hnb41 := NB342_343.out
     have hnc41 := NB343_342.out
     have hcz42_0 : wc.cell? ⟨gb342, 0, none⟩ = some (.int .i64 a0_0) := (blk_cell BK342.out 0).trans rfl
     have hcz42_1 : wc.cell? ⟨gb342, 1, none⟩ = some (.slice A0_1 l0_1.length c0_1) := (blk_cell BK342.out 1).trans rfl
     have hcz42_2 : wc.cell? ⟨gb342, 2, none⟩ = some (.slice A0_2 l0_2.length c0_2) := (blk_cell BK342.out 2).trans rfl
     have hfz42_0 := blk_frozen BK342.out 0
     have hfz42_1 := blk_frozen BK342.out 1
     have hfz42_2 := blk_frozen BK342.out 2
     go_wp2_with (first | ((with_reducible refine gate_callee (f := 25) rfl ?_); refine goesL_ (some 37) rfl rfl Try.func25 (by kernel_rfl) rfl #[.agg #[.int .i64 a0_0, .slice A0_1 l0_1.length c0_1, .slice A0_2 l0_2.length c0_2]] rfl (by (try simp only [List.map_toArray, List.map_cons, List.map_nil]); first | done | rfl | (simp only [List.length_drop, List.length_take]; rfl)) ?_; (with_reducible refine (impl_cloneCuckoo.calls a0_0 _ _ l0_1 _ _ l0_2 t351 t352 t355 _ ?side1 ?side2 ?side3 ?side4 A38.out).mono ?_); (case side1 => exact uC HR0_1 HB); (case side2 => exact HC0_1.out); (case side3 => exact uC HR0_2 HB); (case side4 => exact HC0_2.out); rintro e w43 ⟨v353, v356, rfl, ho0, ho1, hb⟩; refine ⟨_, rfl, ?_⟩; have n0_ := Aside0.mk (Kd.R_lower ho0 (below_size (by repeat (first | (with_reducible first | exact HB.out | apply below_alloc | apply pw_below_drewN | apply below_drew1 | refine below_set ?_ GE342.out | refine below_set ?_ GE343.out) | exact HB.out)))); have n1_ := Aside0.mk (Kd.R_lower ho1 (below_size (by repeat (first | (with_reducible first | exact HB.out | apply below_alloc | apply pw_below_drewN | apply below_drew1 | refine below_set ?_ GE342.out | refine below_set ?_ GE343.out) | exact HB.out)))); have n2_ := Aside0.mk (blk_below (g := gb342) (o := .cells #[.int .i64 a0_0, .slice A0_1 l0_1.length c0_1, .slice A0_2 l0_2.length c0_2] 26 (0, 0)) (uK BK342) hb); have n3_ := Aside0.mk (blk_below (g := gb343) (o := .cells #[.int .i64 0, .slice none 0 0, .slice none 0 0] 26 (0, 0)) (uK BK343) hb); have n4_ := Aside0.mk (below_step (by repeat (first | (with_reducible first | exact HB.out | apply below_alloc | apply pw_below_drewN | apply below_drew1 | refine below_set ?_ GE342.out | refine below_set ?_ GE343.out) | exact HB.out)) hb); clear BK342 BK343 HB; have HO354 := n0_; have HO357 := n1_; have BK342 := n2_; have BK343 := n3_; have HB := n4_; clear n0_ n1_ n2_ n3_ n4_; (try clear hb); (try clear hb2); (try clear hk); (try clear hi); (try clear ho0); (try clear ho1)) | ((with_reducible refine gate_dst (N := 9) rfl ?_); (try (refine gate_guard (by rfl) ?_; dsimp only)); refine box_event ?hg (N := 9) ?hd (cs := #[.int .i64 0, .slice none 0 0, .slice none 0 0]) (t := 26) ?hr ?_; (case hd => rfl); (case hg => rfl); (case hr => first | (go_simp; done) | (go_simp; rfl)); intro gb358 hg w44 hbox hb; have n0_ := Aside0.mk (Kd.R_below (uR HO354) hb); have n1_ := Aside0.mk (Kd.R_below (uR HO357) hb); have n2_ := Aside0.mk (blk_below (g := gb342) (o := .cells #[.int .i64 a0_0, .slice A0_1 l0_1.length c0_1, .slice A0_2 l0_2.length c0_2] 26 (0, 0)) (uK BK342) hb); have n3_ := Aside0.mk (blk_below (g := gb343) (o := .cells #[.int .i64 0, .slice none 0 0, .slice none 0 0] 26 (0, 0)) (uK BK343) hb); have n4_ := Aside0.mk (below_step (by repeat (first | (with_reducible first | exact HB.out | apply below_alloc | apply pw_below_drewN | apply below_drew1 | refine below_set ?_ GE342.out | refine below_set ?_ GE343.out) | exact HB.out)) hb); have n5_ := Aside0.mk (hbox); have n6_ := Aside0.mk ((by rw [hg]; exact (below_size (by repeat (first | (with_reducible first | exact HB.out | apply below_alloc | apply pw_below_drewN | apply below_drew1 | refine below_set ?_ GE342.out | refine below_set ?_ GE343.out) | exact HB.out))) : w.heap.size ≤ gb358)); have n7_ := Aside0.mk ((by rw [hg]; exact (below_size (by repeat (first | (with_reducible first | exact HB.out | apply below_alloc | apply pw_below_drewN | apply below_drew1 | refine below_set ?_ GE342.out | refine below_set ?_ GE343.out) | exact HB.out))) : w.heap.size ≤ gb358)); have n8_ := Aside0.mk ((by rw [hg]; exact Nat.ne_of_lt (blk_lt (g := gb342) (o := .cells #[.int .i64 a0_0, .slice A0_1 l0_1.length c0_1, .slice A0_2 l0_2.length c0_2] 26 (0, 0)) (uK BK342)) : gb342 ≠ gb358)); have n9_ := Aside0.mk ((by rw [hg]; exact Nat.ne_of_gt (blk_lt (g := gb342) (o := .cells #[.int .i64 a0_0, .slice A0_1 l0_1.length c0_1, .slice A0_2 l0_2.length c0_2] 26 (0, 0)) (uK BK342)) : gb358 ≠ gb342)); have n10_ := Aside0.mk ((by rw [hg]; exact Nat.ne_of_lt (blk_lt (g := gb343) (o := .cells #[.int .i64 0, .slice none 0 0, .slice none 0 0] 26 (0, 0)) (uK BK343)) : gb343 ≠ gb358)); have n11_ := Aside0.mk ((by rw [hg]; exact Nat.ne_of_gt (blk_lt (g := gb343) (o := .cells #[.int .i64 0, .slice none 0 0, .slice none 0 0] 26 (0, 0)) (uK BK343)) : gb358 ≠ gb343)); clear HO354 HO357 BK342 BK343 HB; have HO354 := n0_; have HO357 := n1_; have BK342 := n2_; have BK343 := n3_; have HB := n4_; have BK358 := n5_; have GW358 := n6_; have GE358 := n7_; have NB342_358 := n8_; have NB358_342 := n9_; have NB343_358 := n10_; have NB358_343 := n11_; clear n0_ n1_ n2_ n3_ n4_ n5_ n6_ n7_ n8_ n9_ n10_ n11_ hb hbox hg; have hnb45 := NB358_342.out; have hnc45 := NB342_358.out; have hnb46 := NB358_343.out; have hnc46 := NB343_358.out; have hcz47_0 : w44.cell? ⟨gb358, 0, none⟩ = some (.int .i64 0) := (blk_cell BK358.out 0).trans rfl; have hcz47_1 : w44.cell? ⟨gb358, 1, none⟩ = some (.slice none 0 0) := (blk_cell BK358.out 1).trans rfl; have hcz47_2 : w44.cell? ⟨gb358, 2, none⟩ = some (.slice none 0 0) := (blk_cell BK358.out 2).trans rfl; have hfz47_0 := blk_frozen BK358.out 0; have hfz47_1 := blk_frozen BK358.out 1; have hfz47_2 := blk_frozen BK358.out 2; obtain ⟨Ao48, co48, eo48⟩ := Kd.R_slice HO354.out; subst eo48; obtain ⟨Ao49, co49, eo49⟩ := Kd.R_slice HO357.out; subst eo49) | (go_at_call 27; (with_reducible refine (impl_settle.calls kj3 gb358 t351 (fun k_ => some k_ ≠ (.slice Ao49 t355.length co49 : Value).ownBlock) (.slice Ao48 t352.length co48 : Value) (.slice Ao49 t355.length co49 : Value) t352 a1 true t900 w _ ?side1 ?side2 ?side3 A39.out).mono ?_); (case side1 => exact (by repeat (first | (with_reducible first | exact HB.out | apply below_alloc | apply pw_below_drewN | apply below_drew1 | refine below_set ?_ GE342.out | refine below_set ?_ GE343.out | refine below_set ?_ GE358.out) | exact HB.out))); (case side2 => exact (by refine uW ?_; refine blk_put (cs := #[.int .i64 t351, .slice Ao48 t352.length co48, .slice none 0 0]) ?_ 2 _ rfl; refine uW ?_; refine blk_put (cs := #[.int .i64 t351, .slice none 0 0, .slice none 0 0]) ?_ 1 _ rfl; refine uW ?_; refine blk_put (cs := #[.int .i64 0, .slice none 0 0, .slice none 0 0]) ?_ 0 _ rfl; refine uW ?_; exact BK358.out)); (case side3 => exact (by (with_reducible repeat (first | apply Kd.R_alloc | apply Kd.R_drewN | apply Kd.R_drew)); exact (Kd.R_mono (Kd.R_far (p := ⟨gb358, 2, none⟩) (Kd.R_far (p := ⟨gb358, 1, none⟩) (Kd.R_far (p := ⟨gb358, 0, none⟩) (Kd.R_types HO354.out BK358.out (by decide)) (fun _ hk => hk.2) (.int .i64 t351)) (fun _ hk => hk.2) (.slice Ao48 t352.length co48)) (fun _ hk => hk.2) (.slice Ao49 t355.length co49)) (fun _ h_ => h_.1)))); rintro e w50 ⟨rfl, ho0, hb, hkp⟩; have n0_ := Aside0.mk ho0; have n1_ := Aside0.mk (Kd.R_kept (ok := fun k_ => some k_ ≠ (.slice Ao48 t352.length co48 : Value).ownBlock) (by (with_reducible repeat (first | apply Kd.R_alloc | apply Kd.R_drewN | apply Kd.R_drew)); exact (Kd.R_mono (Kd.R_far (p := ⟨gb358, 2, none⟩) (Kd.R_far (p := ⟨gb358, 1, none⟩) (Kd.R_far (p := ⟨gb358, 0, none⟩) (Kd.R_types HO357.out BK358.out (by decide)) (fun _ hk => hk.2) (.int .i64 t351)) (fun _ hk => hk.2) (.slice Ao48 t352.length co48)) (fun _ hk => hk.2) (.slice Ao49 t355.length co49)) (fun _ h_ => h_.1))) hkp (fun k_ h_ e_ => h_ e_)); have n2_ := Aside0.mk (blk_kept (g := gb342) (o := .cells #[.int .i64 a0_0, .slice A0_1 l0_1.length c0_1, .slice A0_2 l0_2.length c0_2] 26 (0, 0))  (by refine uW ?_; refine blk_far ?_ NB342_358.out _; refine uW ?_; refine blk_far ?_ NB342_358.out _; refine uW ?_; refine blk_far ?_ NB342_358.out _; refine uW ?_; exact BK342.out) hkp (fun e_ => (Kd.R_ne HO354.out BK342.out (by decide)) e_)); have n3_ := Aside0.mk (blk_kept (g := gb343) (o := .cells #[.int .i64 0, .slice none 0 0, .slice none 0 0] 26 (0, 0))  (by refine uW ?_; refine blk_far ?_ NB343_358.out _; refine uW ?_; refine blk_far ?_ NB343_358.out _; refine uW ?_; refine blk_far ?_ NB343_358.out _; refine uW ?_; exact BK343.out) hkp (fun e_ => (Kd.R_ne HO354.out BK343.out (by decide)) e_)); have n4_ := Aside0.mk (blk_kept (g := gb358) (o := .cells #[.int .i64 t351, .slice Ao48 t352.length co48, .slice Ao49 t355.length co49] 26 (0, 0))  (by refine uW ?_; refine blk_put (cs := #[.int .i64 t351, .slice Ao48 t352.length co48, .slice none 0 0]) ?_ 2 _ rfl; refine uW ?_; refine blk_put (cs := #[.int .i64 t351, .slice none 0 0, .slice none 0 0]) ?_ 1 _ rfl; refine uW ?_; refine blk_put (cs := #[.int .i64 0, .slice none 0 0, .slice none 0 0]) ?_ 0 _ rfl; refine uW ?_; exact BK358.out) hkp (fun e_ => (Kd.R_ne HO354.out BK358.out (by decide)) e_)); have n5_ := Aside0.mk hb; clear HO354 HO357 BK342 BK343 BK358 HB; have HO354 := n0_; have HO357 := n1_; have BK342 := n2_; have BK343 := n3_; have BK358 := n4_; have HB := n5_; clear n0_ n1_ n2_ n3_ n4_ n5_; (try clear hb); (try clear ho0); (try clear hkp); have hcz51_0 : w50.cell? ⟨gb358, 0, none⟩ = some (.int .i64 t351) := (blk_cell BK358.out 0).trans rfl; have hcz51_1 : w50.cell? ⟨gb358, 1, none⟩ = some (.slice Ao48 t352.length co48) := (blk_cell BK358.out 1).trans rfl; have hcz51_2 : w50.cell? ⟨gb358, 2, none⟩ = some (.slice Ao49 t355.length co49) := (blk_cell BK358.out 2).trans rfl; have hfz51_0 := blk_frozen BK358.out 0; have hfz51_1 := blk_frozen BK358.out 1; have hfz51_2 := blk_frozen BK358.out 2; have hcz52_0 : w50.cell? ⟨gb343, 0, none⟩ = some (.int .i64 0) := (blk_cell BK343.out 0).trans rfl; have hcz52_1 : w50.cell? ⟨gb343, 1, none⟩ = some (.slice none 0 0) := (blk_cell BK343.out 1).trans rfl; have hcz52_2 : w50.cell? ⟨gb343, 2, none⟩ = some (.slice none 0 0) := (blk_cell BK343.out 2).trans rfl; have hfz52_0 := blk_frozen BK343.out 0; have hfz52_1 := blk_frozen BK343.out 1; have hfz52_2 := blk_frozen BK343.out 2))
     refine bodyPost_ret (results_ctt rfl _ _ gb343 26 #[.int .i64 t351, .slice Ao48 t352.length co48, .slice Ao49 t355.length co49] (0, 0) _ rfl (by refine uW ?_; refine blk_put (cs := #[.int .i64 t351, .slice Ao48 t352.length co48, .slice none 0 0]) ?_ 2 _ rfl; refine uW ?_; refine blk_put (cs := #[.int .i64 t351, .slice none 0 0, .slice none 0 0]) ?_ 1 _ rfl; refine uW ?_; refine blk_put (cs := #[.int .i64 0, .slice none 0 0, .slice none 0 0]) ?_ 0 _ rfl; refine uW ?_; exact BK343.out) Try.underlying26 rfl (by kernel_rfl)) rfl ?_
     exact ⟨_, _, by first | rfl | (simp [errW_none, errW_some] <;> rfl) | (simp [*, errW_none, errW_some] <;> rfl), by (with_reducible repeat (first | apply Kd.R_alloc | apply Kd.R_drewN | apply Kd.R_drew)); exact Kd.R_mono (Kd.R_far (p := ⟨gb343, 2, none⟩) (Kd.R_far (p := ⟨gb343, 1, none⟩) (Kd.R_far (p := ⟨gb343, 0, none⟩) (Kd.R_types HO354.out BK343.out (by decide)) (fun _ hk => hk.2) (.int .i64 t351)) (fun _ hk => hk.2) (.slice Ao48 t352.length co48)) (fun _ hk => hk.2) (.slice Ao49 t355.length co49)) (fun _ hk => hk.1), by (with_reducible repeat (first | apply Kd.R_alloc | apply Kd.R_drewN | apply Kd.R_drew)); exact Kd.R_mono (Kd.R_far (p := ⟨gb343, 2, none⟩) (Kd.R_far (p := ⟨gb343, 1, none⟩) (Kd.R_far (p := ⟨gb343, 0, none⟩) (Kd.R_types HO357.out BK343.out (by decide)) (fun _ hk => hk.2) (.int .i64 t351)) (fun _ hk => hk.2) (.slice Ao48 t352.length co48)) (fun _ hk => hk.2) (.slice Ao49 t355.length co49)) (fun _ hk => hk.1), by repeat (first | (with_reducible first | exact HB.out | apply below_alloc | apply pw_below_drewN | apply below_drew1 | refine below_set ?_ GE342.out | refine below_set ?_ GE343.out | refine below_set ?_ GE358.out) | exact HB.out)⟩
    ·
     replace c40 := Bool.eq_false_iff.mpr c40
     subst c40
     have H1 : ((impl_push.f kj3 t351 t900 t355 a1 a2).bind fun bt360 => (if bt360.2.1 = true then (some (t351, bt360.2.2.1, bt360.2.2.2, bt360.1, true)) else (some (0, ([] : List ByteArray), ([] : List ByteArray), 0, false)))) = some (r1, r2, r3, r4, r5) := by rw [if_neg (show ¬ (false = true) by decide)] at H; exact H
     clear H
     have H := H1
     clear H1
     replace H := Option.bind_eq_some_iff.mp H
     obtain ⟨⟨t360, t361, t901, t902⟩, A530, H⟩ := H
     replace H : (if t361 = true then (some (t351, t901, t902, t360, true)) else (some (0, ([] : List ByteArray), ([] : List ByteArray), 0, false))) = some (r1, r2, r3, r4, r5) := H
     have A53 := Aside0.mk A530
     clear A530
     by_cases c54 : t361 = true
     ·
      subst c54
      have H1 : (some (t351, t901, t902, t360, true)) = some (r1, r2, r3, r4, r5) := by rw [if_pos rfl] at H; exact H
      clear H
      have H := H1
      clear H1
      simp only [Option.some.injEq, Prod.mk.injEq] at H
      obtain ⟨rfl, rfl, rfl, rfl, rfl⟩ := H
      have hnb55 := NB342_343.out
      have hnc55 := NB343_342.out
      have hcz56_0 : wc.cell? ⟨gb342, 0, none⟩ = some (.int .i64 a0_0) := (blk_cell BK342.out 0).trans rfl
      have hcz56_1 : wc.cell? ⟨gb342, 1, none⟩ = some (.slice A0_1 l0_1.length c0_1) := (blk_cell BK342.out 1).trans rfl
      have hcz56_2 : wc.cell? ⟨gb342, 2, none⟩ = some (.slice A0_2 l0_2.length c0_2) := (blk_cell BK342.out 2).trans rfl
      have hfz56_0 := blk_frozen BK342.out 0
      have hfz56_1 := blk_frozen BK342.out 1
      have hfz56_2 := blk_frozen BK342.out 2
      go_wp2_with (first | ((with_reducible refine gate_callee (f := 25) rfl ?_); refine goesL_ (some 37) rfl rfl Try.func25 (by kernel_rfl) rfl #[.agg #[.int .i64 a0_0, .slice A0_1 l0_1.length c0_1, .slice A0_2 l0_2.length c0_2]] rfl (by (try simp only [List.map_toArray, List.map_cons, List.map_nil]); first | done | rfl | (simp only [List.length_drop, List.length_take]; rfl)) ?_; (with_reducible refine (impl_cloneCuckoo.calls a0_0 _ _ l0_1 _ _ l0_2 t351 t352 t355 _ ?side1 ?side2 ?side3 ?side4 A38.out).mono ?_); (case side1 => exact uC HR0_1 HB); (case side2 => exact HC0_1.out); (case side3 => exact uC HR0_2 HB); (case side4 => exact HC0_2.out); rintro e w57 ⟨v353, v356, rfl, ho0, ho1, hb⟩; refine ⟨_, rfl, ?_⟩; have n0_ := Aside0.mk (Kd.R_lower ho0 (below_size (by repeat (first | (with_reducible first | exact HB.out | apply below_alloc | apply pw_below_drewN | apply below_drew1 | refine below_set ?_ GE342.out | refine below_set ?_ GE343.out) | exact HB.out)))); have n1_ := Aside0.mk (Kd.R_lower ho1 (below_size (by repeat (first | (with_reducible first | exact HB.out | apply below_alloc | apply pw_below_drewN | apply below_drew1 | refine below_set ?_ GE342.out | refine below_set ?_ GE343.out) | exact HB.out)))); have n2_ := Aside0.mk (blk_below (g := gb342) (o := .cells #[.int .i64 a0_0, .slice A0_1 l0_1.length c0_1, .slice A0_2 l0_2.length c0_2] 26 (0, 0)) (uK BK342) hb); have n3_ := Aside0.mk (blk_below (g := gb343) (o := .cells #[.int .i64 0, .slice none 0 0, .slice none 0 0] 26 (0, 0)) (uK BK343) hb); have n4_ := Aside0.mk (below_step (by repeat (first | (with_reducible first | exact HB.out | apply below_alloc | apply pw_below_drewN | apply below_drew1 | refine below_set ?_ GE342.out | refine below_set ?_ GE343.out) | exact HB.out)) hb); clear BK342 BK343 HB; have HO354 := n0_; have HO357 := n1_; have BK342 := n2_; have BK343 := n3_; have HB := n4_; clear n0_ n1_ n2_ n3_ n4_; (try clear hb); (try clear hb2); (try clear hk); (try clear hi); (try clear ho0); (try clear ho1)) | ((with_reducible refine gate_dst (N := 9) rfl ?_); (try (refine gate_guard (by rfl) ?_; dsimp only)); refine box_event ?hg (N := 9) ?hd (cs := #[.int .i64 0, .slice none 0 0, .slice none 0 0]) (t := 26) ?hr ?_; (case hd => rfl); (case hg => rfl); (case hr => first | (go_simp; done) | (go_simp; rfl)); intro gb358 hg w58 hbox hb; have n0_ := Aside0.mk (Kd.R_below (uR HO354) hb); have n1_ := Aside0.mk (Kd.R_below (uR HO357) hb); have n2_ := Aside0.mk (blk_below (g := gb342) (o := .cells #[.int .i64 a0_0, .slice A0_1 l0_1.length c0_1, .slice A0_2 l0_2.length c0_2] 26 (0, 0)) (uK BK342) hb); have n3_ := Aside0.mk (blk_below (g := gb343) (o := .cells #[.int .i64 0, .slice none 0 0, .slice none 0 0] 26 (0, 0)) (uK BK343) hb); have n4_ := Aside0.mk (below_step (by repeat (first | (with_reducible first | exact HB.out | apply below_alloc | apply pw_below_drewN | apply below_drew1 | refine below_set ?_ GE342.out | refine below_set ?_ GE343.out) | exact HB.out)) hb); have n5_ := Aside0.mk (hbox); have n6_ := Aside0.mk ((by rw [hg]; exact (below_size (by repeat (first | (with_reducible first | exact HB.out | apply below_alloc | apply pw_below_drewN | apply below_drew1 | refine below_set ?_ GE342.out | refine below_set ?_ GE343.out) | exact HB.out))) : w.heap.size ≤ gb358)); have n7_ := Aside0.mk ((by rw [hg]; exact (below_size (by repeat (first | (with_reducible first | exact HB.out | apply below_alloc | apply pw_below_drewN | apply below_drew1 | refine below_set ?_ GE342.out | refine below_set ?_ GE343.out) | exact HB.out))) : w.heap.size ≤ gb358)); have n8_ := Aside0.mk ((by rw [hg]; exact Nat.ne_of_lt (blk_lt (g := gb342) (o := .cells #[.int .i64 a0_0, .slice A0_1 l0_1.length c0_1, .slice A0_2 l0_2.length c0_2] 26 (0, 0)) (uK BK342)) : gb342 ≠ gb358)); have n9_ := Aside0.mk ((by rw [hg]; exact Nat.ne_of_gt (blk_lt (g := gb342) (o := .cells #[.int .i64 a0_0, .slice A0_1 l0_1.length c0_1, .slice A0_2 l0_2.length c0_2] 26 (0, 0)) (uK BK342)) : gb358 ≠ gb342)); have n10_ := Aside0.mk ((by rw [hg]; exact Nat.ne_of_lt (blk_lt (g := gb343) (o := .cells #[.int .i64 0, .slice none 0 0, .slice none 0 0] 26 (0, 0)) (uK BK343)) : gb343 ≠ gb358)); have n11_ := Aside0.mk ((by rw [hg]; exact Nat.ne_of_gt (blk_lt (g := gb343) (o := .cells #[.int .i64 0, .slice none 0 0, .slice none 0 0] 26 (0, 0)) (uK BK343)) : gb358 ≠ gb343)); clear HO354 HO357 BK342 BK343 HB; have HO354 := n0_; have HO357 := n1_; have BK342 := n2_; have BK343 := n3_; have HB := n4_; have BK358 := n5_; have GW358 := n6_; have GE358 := n7_; have NB342_358 := n8_; have NB358_342 := n9_; have NB343_358 := n10_; have NB358_343 := n11_; clear n0_ n1_ n2_ n3_ n4_ n5_ n6_ n7_ n8_ n9_ n10_ n11_ hb hbox hg; have hnb59 := NB358_342.out; have hnc59 := NB342_358.out; have hnb60 := NB358_343.out; have hnc60 := NB343_358.out; have hcz61_0 : w58.cell? ⟨gb358, 0, none⟩ = some (.int .i64 0) := (blk_cell BK358.out 0).trans rfl; have hcz61_1 : w58.cell? ⟨gb358, 1, none⟩ = some (.slice none 0 0) := (blk_cell BK358.out 1).trans rfl; have hcz61_2 : w58.cell? ⟨gb358, 2, none⟩ = some (.slice none 0 0) := (blk_cell BK358.out 2).trans rfl; have hfz61_0 := blk_frozen BK358.out 0; have hfz61_1 := blk_frozen BK358.out 1; have hfz61_2 := blk_frozen BK358.out 2; obtain ⟨Ao62, co62, eo62⟩ := Kd.R_slice HO354.out; subst eo62; obtain ⟨Ao63, co63, eo63⟩ := Kd.R_slice HO357.out; subst eo63) | (go_at_call 27; (with_reducible refine (impl_settle.calls kj3 gb358 t351 (fun k_ => some k_ ≠ (.slice Ao63 t355.length co63 : Value).ownBlock) (.slice Ao62 t352.length co62 : Value) (.slice Ao63 t355.length co63 : Value) t352 a1 false t900 w _ ?side1 ?side2 ?side3 A39.out).mono ?_); (case side1 => exact (by repeat (first | (with_reducible first | exact HB.out | apply below_alloc | apply pw_below_drewN | apply below_drew1 | refine below_set ?_ GE342.out | refine below_set ?_ GE343.out | refine below_set ?_ GE358.out) | exact HB.out))); (case side2 => exact (by refine uW ?_; refine blk_put (cs := #[.int .i64 t351, .slice Ao62 t352.length co62, .slice none 0 0]) ?_ 2 _ rfl; refine uW ?_; refine blk_put (cs := #[.int .i64 t351, .slice none 0 0, .slice none 0 0]) ?_ 1 _ rfl; refine uW ?_; refine blk_put (cs := #[.int .i64 0, .slice none 0 0, .slice none 0 0]) ?_ 0 _ rfl; refine uW ?_; exact BK358.out)); (case side3 => exact (by (with_reducible repeat (first | apply Kd.R_alloc | apply Kd.R_drewN | apply Kd.R_drew)); exact (Kd.R_mono (Kd.R_far (p := ⟨gb358, 2, none⟩) (Kd.R_far (p := ⟨gb358, 1, none⟩) (Kd.R_far (p := ⟨gb358, 0, none⟩) (Kd.R_types HO354.out BK358.out (by decide)) (fun _ hk => hk.2) (.int .i64 t351)) (fun _ hk => hk.2) (.slice Ao62 t352.length co62)) (fun _ hk => hk.2) (.slice Ao63 t355.length co63)) (fun _ h_ => h_.1)))); rintro e w64 ⟨rfl, ho0, hb, hkp⟩; have n0_ := Aside0.mk ho0; have n1_ := Aside0.mk (Kd.R_kept (ok := fun k_ => some k_ ≠ (.slice Ao62 t352.length co62 : Value).ownBlock) (by (with_reducible repeat (first | apply Kd.R_alloc | apply Kd.R_drewN | apply Kd.R_drew)); exact (Kd.R_mono (Kd.R_far (p := ⟨gb358, 2, none⟩) (Kd.R_far (p := ⟨gb358, 1, none⟩) (Kd.R_far (p := ⟨gb358, 0, none⟩) (Kd.R_types HO357.out BK358.out (by decide)) (fun _ hk => hk.2) (.int .i64 t351)) (fun _ hk => hk.2) (.slice Ao62 t352.length co62)) (fun _ hk => hk.2) (.slice Ao63 t355.length co63)) (fun _ h_ => h_.1))) hkp (fun k_ h_ e_ => h_ e_)); have n2_ := Aside0.mk (blk_kept (g := gb342) (o := .cells #[.int .i64 a0_0, .slice A0_1 l0_1.length c0_1, .slice A0_2 l0_2.length c0_2] 26 (0, 0))  (by refine uW ?_; refine blk_far ?_ NB342_358.out _; refine uW ?_; refine blk_far ?_ NB342_358.out _; refine uW ?_; refine blk_far ?_ NB342_358.out _; refine uW ?_; exact BK342.out) hkp (fun e_ => (Kd.R_ne HO354.out BK342.out (by decide)) e_)); have n3_ := Aside0.mk (blk_kept (g := gb343) (o := .cells #[.int .i64 0, .slice none 0 0, .slice none 0 0] 26 (0, 0))  (by refine uW ?_; refine blk_far ?_ NB343_358.out _; refine uW ?_; refine blk_far ?_ NB343_358.out _; refine uW ?_; refine blk_far ?_ NB343_358.out _; refine uW ?_; exact BK343.out) hkp (fun e_ => (Kd.R_ne HO354.out BK343.out (by decide)) e_)); have n4_ := Aside0.mk (blk_kept (g := gb358) (o := .cells #[.int .i64 t351, .slice Ao62 t352.length co62, .slice Ao63 t355.length co63] 26 (0, 0))  (by refine uW ?_; refine blk_put (cs := #[.int .i64 t351, .slice Ao62 t352.length co62, .slice none 0 0]) ?_ 2 _ rfl; refine uW ?_; refine blk_put (cs := #[.int .i64 t351, .slice none 0 0, .slice none 0 0]) ?_ 1 _ rfl; refine uW ?_; refine blk_put (cs := #[.int .i64 0, .slice none 0 0, .slice none 0 0]) ?_ 0 _ rfl; refine uW ?_; exact BK358.out) hkp (fun e_ => (Kd.R_ne HO354.out BK358.out (by decide)) e_)); have n5_ := Aside0.mk hb; clear HO354 HO357 BK342 BK343 BK358 HB; have HO354 := n0_; have HO357 := n1_; have BK342 := n2_; have BK343 := n3_; have BK358 := n4_; have HB := n5_; clear n0_ n1_ n2_ n3_ n4_ n5_; (try clear hb); (try clear ho0); (try clear hkp)) | (go_at_call 39; (with_reducible refine (impl_push.calls kj3 gb358 t351 a2 (fun k_ => some k_ = (.slice Ao62 t352.length co62 : Value).ownBlock) (fun k_ => some k_ = (.slice Ao63 t355.length co63 : Value).ownBlock) (.slice Ao62 t352.length co62 : Value) (.slice Ao63 t355.length co63 : Value) t900 t355 a1 t360 true t901 t902 w _ ?side1 ?side2 ?side3 ?side4 ?side5 ?side6 ?side7 A53.out).mono ?_); (case side1 => exact (by repeat (first | (with_reducible first | exact HB.out | apply below_alloc | apply pw_below_drewN | apply below_drew1 | refine below_set ?_ GE342.out | refine below_set ?_ GE343.out | refine below_set ?_ GE358.out) | exact HB.out))); (case side2 => exact GE358.out); (case side3 => exact (uK BK358)); (case side4 => exact Kd.R_tight rfl (uR HO354)); (case side5 => exact Kd.R_tight rfl (uR HO357)); (case side6 => exact (fun k_ e_ => HO354.out.1 k_ e_.symm)); (case side7 => exact (fun k_ e_ => HO357.out.1 k_ e_.symm)); rintro e w65 ⟨v900, rfl, hbk1, ho0, ho1, hb, hkp⟩; have n0_ := Aside0.mk (Kd.R_mono (ok' := fun k_ => some k_ ≠ (v900 : Value).ownBlock) ho0 (fun k_ hk_ e_ => Or.elim (ho1.1 k_ e_.symm) (fun h_ => HO354.out.1 k_ hk_.symm h_) (fun h_ => absurd h_ (Nat.not_le.2 ((Kd.R_bound (uR HO354)).1 k_ hk_.symm).2.2.1)))); have n1_ := Aside0.mk (Kd.R_mono (ok' := fun k_ => some k_ ≠ (.slice Ao62 t352.length co62 : Value).ownBlock) ho1 (fun k_ hk_ e_ => Or.elim hk_ (fun h_ => HO357.out.1 k_ h_.symm e_) (fun h_ => absurd h_ (Nat.not_le.2 ((Kd.R_bound (uR HO354)).1 k_ e_.symm).2.2.1)))); have n2_ := Aside0.mk (blk_kept (uK BK342) hkp (fun hs_ => Or.elim hs_ (fun h_ => Or.elim h_ (fun e_ => (Kd.R_ne HO354.out BK342.out (by decide)) e_) (fun e_ => (Kd.R_ne HO357.out BK342.out (by decide)) e_)) (fun e_ => NB342_358.out e_))); have n3_ := Aside0.mk (blk_kept (uK BK343) hkp (fun hs_ => Or.elim hs_ (fun h_ => Or.elim h_ (fun e_ => (Kd.R_ne HO354.out BK343.out (by decide)) e_) (fun e_ => (Kd.R_ne HO357.out BK343.out (by decide)) e_)) (fun e_ => NB343_358.out e_))); have n4_ := Aside0.mk hbk1; have n5_ := Aside0.mk hb; clear HO354 HO357 BK342 BK343 BK358 HB; have HO354 := n0_; have HO357 := n1_; have BK342 := n2_; have BK343 := n3_; have BK358 := n4_; have HB := n5_; clear n0_ n1_ n2_ n3_ n4_ n5_; (try clear hb); (try clear ho0); (try clear ho1); (try clear hbk1); (try clear hkp); obtain ⟨Ao900, co900, eo900⟩ := Kd.R_slice HO357.out; subst eo900; have hcz66_0 : w65.cell? ⟨gb358, 0, none⟩ = some (.int .i64 t351) := (blk_cell BK358.out 0).trans rfl; have hcz66_1 : w65.cell? ⟨gb358, 1, none⟩ = some (.slice Ao62 t352.length co62) := (blk_cell BK358.out 1).trans rfl; have hcz66_2 : w65.cell? ⟨gb358, 2, none⟩ = some (.slice Ao900 t902.length co900) := (blk_cell BK358.out 2).trans rfl; have hfz66_0 := blk_frozen BK358.out 0; have hfz66_1 := blk_frozen BK358.out 1; have hfz66_2 := blk_frozen BK358.out 2; have hcz67_0 : w65.cell? ⟨gb343, 0, none⟩ = some (.int .i64 0) := (blk_cell BK343.out 0).trans rfl; have hcz67_1 : w65.cell? ⟨gb343, 1, none⟩ = some (.slice none 0 0) := (blk_cell BK343.out 1).trans rfl; have hcz67_2 : w65.cell? ⟨gb343, 2, none⟩ = some (.slice none 0 0) := (blk_cell BK343.out 2).trans rfl; have hfz67_0 := blk_frozen BK343.out 0; have hfz67_1 := blk_frozen BK343.out 1; have hfz67_2 := blk_frozen BK343.out 2))
      refine bodyPost_ret (results_ctt rfl _ _ gb343 26 #[.int .i64 t351, .slice Ao62 t352.length co62, .slice Ao900 t902.length co900] (0, 0) _ rfl (by refine uW ?_; refine blk_put (cs := #[.int .i64 t351, .slice Ao62 t352.length co62, .slice none 0 0]) ?_ 2 _ rfl; refine uW ?_; refine blk_put (cs := #[.int .i64 t351, .slice none 0 0, .slice none 0 0]) ?_ 1 _ rfl; refine uW ?_; refine blk_put (cs := #[.int .i64 0, .slice none 0 0, .slice none 0 0]) ?_ 0 _ rfl; refine uW ?_; exact BK343.out) Try.underlying26 rfl (by kernel_rfl)) rfl ?_
      exact ⟨_, _, by first | rfl | (simp [errW_none, errW_some] <;> rfl) | (simp [*, errW_none, errW_some] <;> rfl), by (with_reducible repeat (first | apply Kd.R_alloc | apply Kd.R_drewN | apply Kd.R_drew)); exact Kd.R_mono (Kd.R_far (p := ⟨gb343, 2, none⟩) (Kd.R_far (p := ⟨gb343, 1, none⟩) (Kd.R_far (p := ⟨gb343, 0, none⟩) (Kd.R_types HO354.out BK343.out (by decide)) (fun _ hk => hk.2) (.int .i64 t351)) (fun _ hk => hk.2) (.slice Ao62 t352.length co62)) (fun _ hk => hk.2) (.slice Ao900 t902.length co900)) (fun _ hk => hk.1), by (with_reducible repeat (first | apply Kd.R_alloc | apply Kd.R_drewN | apply Kd.R_drew)); exact Kd.R_mono (Kd.R_far (p := ⟨gb343, 2, none⟩) (Kd.R_far (p := ⟨gb343, 1, none⟩) (Kd.R_far (p := ⟨gb343, 0, none⟩) (Kd.R_types HO357.out BK343.out (by decide)) (fun _ hk => hk.2) (.int .i64 t351)) (fun _ hk => hk.2) (.slice Ao62 t352.length co62)) (fun _ hk => hk.2) (.slice Ao900 t902.length co900)) (fun _ hk => hk.1), by repeat (first | (with_reducible first | exact HB.out | apply below_alloc | apply pw_below_drewN | apply below_drew1 | refine below_set ?_ GE342.out | refine below_set ?_ GE343.out | refine below_set ?_ GE358.out) | exact HB.out)⟩
     ·
      replace c54 := Bool.eq_false_iff.mpr c54
      subst c54
      have H1 : (some (0, ([] : List ByteArray), ([] : List ByteArray), 0, false)) = some (r1, r2, r3, r4, r5) := by rw [if_neg (show ¬ (false = true) by decide)] at H; exact H
      clear H
      have H := H1
      clear H1
      simp only [Option.some.injEq, Prod.mk.injEq] at H
      obtain ⟨rfl, rfl, rfl, rfl, rfl⟩ := H
      have hnb68 := NB342_343.out
      have hnc68 := NB343_342.out
      have hcz69_0 : wc.cell? ⟨gb342, 0, none⟩ = some (.int .i64 a0_0) := (blk_cell BK342.out 0).trans rfl
      have hcz69_1 : wc.cell? ⟨gb342, 1, none⟩ = some (.slice A0_1 l0_1.length c0_1) := (blk_cell BK342.out 1).trans rfl
      have hcz69_2 : wc.cell? ⟨gb342, 2, none⟩ = some (.slice A0_2 l0_2.length c0_2) := (blk_cell BK342.out 2).trans rfl
      have hfz69_0 := blk_frozen BK342.out 0
      have hfz69_1 := blk_frozen BK342.out 1
      have hfz69_2 := blk_frozen BK342.out 2
      go_wp2_with (first | ((with_reducible refine gate_callee (f := 25) rfl ?_); refine goesL_ (some 37) rfl rfl Try.func25 (by kernel_rfl) rfl #[.agg #[.int .i64 a0_0, .slice A0_1 l0_1.length c0_1, .slice A0_2 l0_2.length c0_2]] rfl (by (try simp only [List.map_toArray, List.map_cons, List.map_nil]); first | done | rfl | (simp only [List.length_drop, List.length_take]; rfl)) ?_; (with_reducible refine (impl_cloneCuckoo.calls a0_0 _ _ l0_1 _ _ l0_2 t351 t352 t355 _ ?side1 ?side2 ?side3 ?side4 A38.out).mono ?_); (case side1 => exact uC HR0_1 HB); (case side2 => exact HC0_1.out); (case side3 => exact uC HR0_2 HB); (case side4 => exact HC0_2.out); rintro e w70 ⟨v353, v356, rfl, ho0, ho1, hb⟩; refine ⟨_, rfl, ?_⟩; have n0_ := Aside0.mk (Kd.R_lower ho0 (below_size (by repeat (first | (with_reducible first | exact HB.out | apply below_alloc | apply pw_below_drewN | apply below_drew1 | refine below_set ?_ GE342.out | refine below_set ?_ GE343.out) | exact HB.out)))); have n1_ := Aside0.mk (Kd.R_lower ho1 (below_size (by repeat (first | (with_reducible first | exact HB.out | apply below_alloc | apply pw_below_drewN | apply below_drew1 | refine below_set ?_ GE342.out | refine below_set ?_ GE343.out) | exact HB.out)))); have n2_ := Aside0.mk (blk_below (g := gb342) (o := .cells #[.int .i64 a0_0, .slice A0_1 l0_1.length c0_1, .slice A0_2 l0_2.length c0_2] 26 (0, 0)) (uK BK342) hb); have n3_ := Aside0.mk (blk_below (g := gb343) (o := .cells #[.int .i64 0, .slice none 0 0, .slice none 0 0] 26 (0, 0)) (uK BK343) hb); have n4_ := Aside0.mk (below_step (by repeat (first | (with_reducible first | exact HB.out | apply below_alloc | apply pw_below_drewN | apply below_drew1 | refine below_set ?_ GE342.out | refine below_set ?_ GE343.out) | exact HB.out)) hb); clear BK342 BK343 HB; have HO354 := n0_; have HO357 := n1_; have BK342 := n2_; have BK343 := n3_; have HB := n4_; clear n0_ n1_ n2_ n3_ n4_; (try clear hb); (try clear hb2); (try clear hk); (try clear hi); (try clear ho0); (try clear ho1)) | ((with_reducible refine gate_dst (N := 9) rfl ?_); (try (refine gate_guard (by rfl) ?_; dsimp only)); refine box_event ?hg (N := 9) ?hd (cs := #[.int .i64 0, .slice none 0 0, .slice none 0 0]) (t := 26) ?hr ?_; (case hd => rfl); (case hg => rfl); (case hr => first | (go_simp; done) | (go_simp; rfl)); intro gb358 hg w71 hbox hb; have n0_ := Aside0.mk (Kd.R_below (uR HO354) hb); have n1_ := Aside0.mk (Kd.R_below (uR HO357) hb); have n2_ := Aside0.mk (blk_below (g := gb342) (o := .cells #[.int .i64 a0_0, .slice A0_1 l0_1.length c0_1, .slice A0_2 l0_2.length c0_2] 26 (0, 0)) (uK BK342) hb); have n3_ := Aside0.mk (blk_below (g := gb343) (o := .cells #[.int .i64 0, .slice none 0 0, .slice none 0 0] 26 (0, 0)) (uK BK343) hb); have n4_ := Aside0.mk (below_step (by repeat (first | (with_reducible first | exact HB.out | apply below_alloc | apply pw_below_drewN | apply below_drew1 | refine below_set ?_ GE342.out | refine below_set ?_ GE343.out) | exact HB.out)) hb); have n5_ := Aside0.mk (hbox); have n6_ := Aside0.mk ((by rw [hg]; exact (below_size (by repeat (first | (with_reducible first | exact HB.out | apply below_alloc | apply pw_below_drewN | apply below_drew1 | refine below_set ?_ GE342.out | refine below_set ?_ GE343.out) | exact HB.out))) : w.heap.size ≤ gb358)); have n7_ := Aside0.mk ((by rw [hg]; exact (below_size (by repeat (first | (with_reducible first | exact HB.out | apply below_alloc | apply pw_below_drewN | apply below_drew1 | refine below_set ?_ GE342.out | refine below_set ?_ GE343.out) | exact HB.out))) : w.heap.size ≤ gb358)); have n8_ := Aside0.mk ((by rw [hg]; exact Nat.ne_of_lt (blk_lt (g := gb342) (o := .cells #[.int .i64 a0_0, .slice A0_1 l0_1.length c0_1, .slice A0_2 l0_2.length c0_2] 26 (0, 0)) (uK BK342)) : gb342 ≠ gb358)); have n9_ := Aside0.mk ((by rw [hg]; exact Nat.ne_of_gt (blk_lt (g := gb342) (o := .cells #[.int .i64 a0_0, .slice A0_1 l0_1.length c0_1, .slice A0_2 l0_2.length c0_2] 26 (0, 0)) (uK BK342)) : gb358 ≠ gb342)); have n10_ := Aside0.mk ((by rw [hg]; exact Nat.ne_of_lt (blk_lt (g := gb343) (o := .cells #[.int .i64 0, .slice none 0 0, .slice none 0 0] 26 (0, 0)) (uK BK343)) : gb343 ≠ gb358)); have n11_ := Aside0.mk ((by rw [hg]; exact Nat.ne_of_gt (blk_lt (g := gb343) (o := .cells #[.int .i64 0, .slice none 0 0, .slice none 0 0] 26 (0, 0)) (uK BK343)) : gb358 ≠ gb343)); clear HO354 HO357 BK342 BK343 HB; have HO354 := n0_; have HO357 := n1_; have BK342 := n2_; have BK343 := n3_; have HB := n4_; have BK358 := n5_; have GW358 := n6_; have GE358 := n7_; have NB342_358 := n8_; have NB358_342 := n9_; have NB343_358 := n10_; have NB358_343 := n11_; clear n0_ n1_ n2_ n3_ n4_ n5_ n6_ n7_ n8_ n9_ n10_ n11_ hb hbox hg; have hnb72 := NB358_342.out; have hnc72 := NB342_358.out; have hnb73 := NB358_343.out; have hnc73 := NB343_358.out; have hcz74_0 : w71.cell? ⟨gb358, 0, none⟩ = some (.int .i64 0) := (blk_cell BK358.out 0).trans rfl; have hcz74_1 : w71.cell? ⟨gb358, 1, none⟩ = some (.slice none 0 0) := (blk_cell BK358.out 1).trans rfl; have hcz74_2 : w71.cell? ⟨gb358, 2, none⟩ = some (.slice none 0 0) := (blk_cell BK358.out 2).trans rfl; have hfz74_0 := blk_frozen BK358.out 0; have hfz74_1 := blk_frozen BK358.out 1; have hfz74_2 := blk_frozen BK358.out 2; obtain ⟨Ao75, co75, eo75⟩ := Kd.R_slice HO354.out; subst eo75; obtain ⟨Ao76, co76, eo76⟩ := Kd.R_slice HO357.out; subst eo76) | (go_at_call 27; (with_reducible refine (impl_settle.calls kj3 gb358 t351 (fun k_ => some k_ ≠ (.slice Ao76 t355.length co76 : Value).ownBlock) (.slice Ao75 t352.length co75 : Value) (.slice Ao76 t355.length co76 : Value) t352 a1 false t900 w _ ?side1 ?side2 ?side3 A39.out).mono ?_); (case side1 => exact (by repeat (first | (with_reducible first | exact HB.out | apply below_alloc | apply pw_below_drewN | apply below_drew1 | refine below_set ?_ GE342.out | refine below_set ?_ GE343.out | refine below_set ?_ GE358.out) | exact HB.out))); (case side2 => exact (by refine uW ?_; refine blk_put (cs := #[.int .i64 t351, .slice Ao75 t352.length co75, .slice none 0 0]) ?_ 2 _ rfl; refine uW ?_; refine blk_put (cs := #[.int .i64 t351, .slice none 0 0, .slice none 0 0]) ?_ 1 _ rfl; refine uW ?_; refine blk_put (cs := #[.int .i64 0, .slice none 0 0, .slice none 0 0]) ?_ 0 _ rfl; refine uW ?_; exact BK358.out)); (case side3 => exact (by (with_reducible repeat (first | apply Kd.R_alloc | apply Kd.R_drewN | apply Kd.R_drew)); exact (Kd.R_mono (Kd.R_far (p := ⟨gb358, 2, none⟩) (Kd.R_far (p := ⟨gb358, 1, none⟩) (Kd.R_far (p := ⟨gb358, 0, none⟩) (Kd.R_types HO354.out BK358.out (by decide)) (fun _ hk => hk.2) (.int .i64 t351)) (fun _ hk => hk.2) (.slice Ao75 t352.length co75)) (fun _ hk => hk.2) (.slice Ao76 t355.length co76)) (fun _ h_ => h_.1)))); rintro e w77 ⟨rfl, ho0, hb, hkp⟩; have n0_ := Aside0.mk ho0; have n1_ := Aside0.mk (Kd.R_kept (ok := fun k_ => some k_ ≠ (.slice Ao75 t352.length co75 : Value).ownBlock) (by (with_reducible repeat (first | apply Kd.R_alloc | apply Kd.R_drewN | apply Kd.R_drew)); exact (Kd.R_mono (Kd.R_far (p := ⟨gb358, 2, none⟩) (Kd.R_far (p := ⟨gb358, 1, none⟩) (Kd.R_far (p := ⟨gb358, 0, none⟩) (Kd.R_types HO357.out BK358.out (by decide)) (fun _ hk => hk.2) (.int .i64 t351)) (fun _ hk => hk.2) (.slice Ao75 t352.length co75)) (fun _ hk => hk.2) (.slice Ao76 t355.length co76)) (fun _ h_ => h_.1))) hkp (fun k_ h_ e_ => h_ e_)); have n2_ := Aside0.mk (blk_kept (g := gb342) (o := .cells #[.int .i64 a0_0, .slice A0_1 l0_1.length c0_1, .slice A0_2 l0_2.length c0_2] 26 (0, 0))  (by refine uW ?_; refine blk_far ?_ NB342_358.out _; refine uW ?_; refine blk_far ?_ NB342_358.out _; refine uW ?_; refine blk_far ?_ NB342_358.out _; refine uW ?_; exact BK342.out) hkp (fun e_ => (Kd.R_ne HO354.out BK342.out (by decide)) e_)); have n3_ := Aside0.mk (blk_kept (g := gb343) (o := .cells #[.int .i64 0, .slice none 0 0, .slice none 0 0] 26 (0, 0))  (by refine uW ?_; refine blk_far ?_ NB343_358.out _; refine uW ?_; refine blk_far ?_ NB343_358.out _; refine uW ?_; refine blk_far ?_ NB343_358.out _; refine uW ?_; exact BK343.out) hkp (fun e_ => (Kd.R_ne HO354.out BK343.out (by decide)) e_)); have n4_ := Aside0.mk (blk_kept (g := gb358) (o := .cells #[.int .i64 t351, .slice Ao75 t352.length co75, .slice Ao76 t355.length co76] 26 (0, 0))  (by refine uW ?_; refine blk_put (cs := #[.int .i64 t351, .slice Ao75 t352.length co75, .slice none 0 0]) ?_ 2 _ rfl; refine uW ?_; refine blk_put (cs := #[.int .i64 t351, .slice none 0 0, .slice none 0 0]) ?_ 1 _ rfl; refine uW ?_; refine blk_put (cs := #[.int .i64 0, .slice none 0 0, .slice none 0 0]) ?_ 0 _ rfl; refine uW ?_; exact BK358.out) hkp (fun e_ => (Kd.R_ne HO354.out BK358.out (by decide)) e_)); have n5_ := Aside0.mk hb; clear HO354 HO357 BK342 BK343 BK358 HB; have HO354 := n0_; have HO357 := n1_; have BK342 := n2_; have BK343 := n3_; have BK358 := n4_; have HB := n5_; clear n0_ n1_ n2_ n3_ n4_ n5_; (try clear hb); (try clear ho0); (try clear hkp)) | (go_at_call 39; (with_reducible refine (impl_push.calls kj3 gb358 t351 a2 (fun k_ => some k_ = (.slice Ao75 t352.length co75 : Value).ownBlock) (fun k_ => some k_ = (.slice Ao76 t355.length co76 : Value).ownBlock) (.slice Ao75 t352.length co75 : Value) (.slice Ao76 t355.length co76 : Value) t900 t355 a1 t360 false t901 t902 w _ ?side1 ?side2 ?side3 ?side4 ?side5 ?side6 ?side7 A53.out).mono ?_); (case side1 => exact (by repeat (first | (with_reducible first | exact HB.out | apply below_alloc | apply pw_below_drewN | apply below_drew1 | refine below_set ?_ GE342.out | refine below_set ?_ GE343.out | refine below_set ?_ GE358.out) | exact HB.out))); (case side2 => exact GE358.out); (case side3 => exact (uK BK358)); (case side4 => exact Kd.R_tight rfl (uR HO354)); (case side5 => exact Kd.R_tight rfl (uR HO357)); (case side6 => exact (fun k_ e_ => HO354.out.1 k_ e_.symm)); (case side7 => exact (fun k_ e_ => HO357.out.1 k_ e_.symm)); rintro e w78 ⟨v900, rfl, hbk1, ho0, ho1, hb, hkp⟩; have n0_ := Aside0.mk (Kd.R_mono (ok' := fun k_ => some k_ ≠ (v900 : Value).ownBlock) ho0 (fun k_ hk_ e_ => Or.elim (ho1.1 k_ e_.symm) (fun h_ => HO354.out.1 k_ hk_.symm h_) (fun h_ => absurd h_ (Nat.not_le.2 ((Kd.R_bound (uR HO354)).1 k_ hk_.symm).2.2.1)))); have n1_ := Aside0.mk (Kd.R_mono (ok' := fun k_ => some k_ ≠ (.slice Ao75 t352.length co75 : Value).ownBlock) ho1 (fun k_ hk_ e_ => Or.elim hk_ (fun h_ => HO357.out.1 k_ h_.symm e_) (fun h_ => absurd h_ (Nat.not_le.2 ((Kd.R_bound (uR HO354)).1 k_ e_.symm).2.2.1)))); have n2_ := Aside0.mk (blk_kept (uK BK342) hkp (fun hs_ => Or.elim hs_ (fun h_ => Or.elim h_ (fun e_ => (Kd.R_ne HO354.out BK342.out (by decide)) e_) (fun e_ => (Kd.R_ne HO357.out BK342.out (by decide)) e_)) (fun e_ => NB342_358.out e_))); have n3_ := Aside0.mk (blk_kept (uK BK343) hkp (fun hs_ => Or.elim hs_ (fun h_ => Or.elim h_ (fun e_ => (Kd.R_ne HO354.out BK343.out (by decide)) e_) (fun e_ => (Kd.R_ne HO357.out BK343.out (by decide)) e_)) (fun e_ => NB343_358.out e_))); have n4_ := Aside0.mk hbk1; have n5_ := Aside0.mk hb; clear HO354 HO357 BK342 BK343 BK358 HB; have HO354 := n0_; have HO357 := n1_; have BK342 := n2_; have BK343 := n3_; have BK358 := n4_; have HB := n5_; clear n0_ n1_ n2_ n3_ n4_ n5_; (try clear hb); (try clear ho0); (try clear ho1); (try clear hbk1); (try clear hkp); obtain ⟨Ao900, co900, eo900⟩ := Kd.R_slice HO357.out; subst eo900; have hcz79_0 : w78.cell? ⟨gb343, 0, none⟩ = some (.int .i64 0) := (blk_cell BK343.out 0).trans rfl; have hcz79_1 : w78.cell? ⟨gb343, 1, none⟩ = some (.slice none 0 0) := (blk_cell BK343.out 1).trans rfl; have hcz79_2 : w78.cell? ⟨gb343, 2, none⟩ = some (.slice none 0 0) := (blk_cell BK343.out 2).trans rfl; have hfz79_0 := blk_frozen BK343.out 0; have hfz79_1 := blk_frozen BK343.out 1; have hfz79_2 := blk_frozen BK343.out 2))
      refine bodyPost_ret (results_ctt rfl _ _ gb343 26 #[.int .i64 0, .slice none 0 0, .slice none 0 0] (0, 0) _ rfl (by refine uW ?_; refine blk_put (cs := #[.int .i64 0, .slice none 0 0, .slice none 0 0]) ?_ 2 _ rfl; refine uW ?_; refine blk_put (cs := #[.int .i64 0, .slice none 0 0, .slice none 0 0]) ?_ 1 _ rfl; refine uW ?_; refine blk_put (cs := #[.int .i64 0, .slice none 0 0, .slice none 0 0]) ?_ 0 _ rfl; refine uW ?_; exact BK343.out) Try.underlying26 rfl (by kernel_rfl)) rfl ?_
      exact ⟨_, _, by first | rfl | (simp [errW_none, errW_some] <;> rfl) | (simp [*, errW_none, errW_some] <;> rfl), by first | exact Kd.R_nil _ _ _ _ _ | exact Kd.N_nil _ _ _ _ _ | exact Kd.V_nil _ _ _ _ _ | exact Kd.Q_nil _ _ _ _ _ | exact Kd.S_nil _ _ _ _ _, by first | exact Kd.R_nil _ _ _ _ _ | exact Kd.N_nil _ _ _ _ _ | exact Kd.V_nil _ _ _ _ _ | exact Kd.Q_nil _ _ _ _ _ | exact Kd.S_nil _ _ _ _ _, by repeat (first | (with_reducible first | exact HB.out | apply below_alloc | apply pw_below_drewN | apply below_drew1 | refine below_set ?_ GE342.out | refine below_set ?_ GE343.out | refine below_set ?_ GE358.out) | exact HB.out)⟩


end Go.Proofs.Ythaicmebdgeamaa.PFnExactCuckooOf
