-- made by wip/tools/myprint.py over the kit's print, for this claim
import Derived.Test.YtlkbffkafpaooaaPFnExactKeyGroupsx0
import Derived.Test.YtlkbffkafpaooaaPFnExactKeyGroupsx6
namespace Go.Proofs.Ytlkbffkafpaooaa.PFnExactKeyGroups
open Go.RowKit Go.Proofs.YtlkbffkafpaooaaW.PrintWords Go.Proofs.YtlkbffkafpaooaaW.PrintLast Go.Proofs.YtlkbffkafpaooaaW.PrintMore
attribute [local go_sem] max2_int min2_int max_two min_two max_three min_three max_four min_four   -- for this text's walks alone
set_option linter.unusedVariables false
set_option linter.unusedSimpArgs false

/-! ### impl_groups: function 43 -/
def impl_groups.row (xs : List (List Int)) (i : Int) : List Int := xs.getD i.toNat ([] : List Int)
theorem impl_groups.at_ {w : World} {A : Option Addr} {n : Nat} {xs : List (List Int)} (h : Kd.C (Kd.slice 3 (Kd.int .i64)) w A n xs) (i : Int) (h0 : 0 ≤ i) (h1 : i < n) : ∃ ad A0 c0, A = some ad ∧ w.cell? (ad.add i.toNat) = some (.slice A0 (impl_groups.row xs i).length c0) ∧ (impl_groups.row xs i).length ≤ c0 ∧ (Kd.int .i64).C w A0 (impl_groups.row xs i).length (impl_groups.row xs i) := by
  obtain ⟨ad, c, e, _, hK, hc0⟩ := Kd.C_get h ([] : List Int) i h0 h1
  have hc : ∀ j u, c[j]? = some u → w.cell? (ad.add (i.toNat * 1 + j)) = some u := hc0
  obtain ⟨A0, c0, rfl, l0, g0⟩ := hK
  exact ⟨ad, A0, c0, e, by have hq := hc 0 _ rfl; rwa [Nat.mul_one, Nat.add_zero] at hq, l0, g0⟩
def impl_groupsc1.f (k : Nat) (a0 : Int) (l1_0 : List (List Int)) (l1_1 : List Int) : Option (Bool) := if 0 < (l1_1.length : Int) then (if 0 ≤ (rd l1_1 0) then (if (rd l1_1 0) < (l1_0.length : Int) then ((slices_Contains_int_int.f k (impl_groups.row l1_0 (rd l1_1 0)) a0).bind fun t254 => (some t254)) else (none)) else (none)) else (none)
theorem impl_groupsc1.mono : ∀ a0 a1 a2 k, LeO (impl_groupsc1.f k a0 a1 a2) (impl_groupsc1.f (k + 1) a0 a1 a2) := by
 intro a0 a1 a2 k
 unfold impl_groupsc1.f
 repeat' first
   | (with_reducible exact slices_Contains_int_int.mono _ _ _)
   | (with_reducible exact LeO.refl _)
   | (with_reducible exact LeO.none _)
   | (with_reducible refine LeO.ite ?_ ?_)
   | (with_reducible refine LeO.bind ?_ (fun _ => ?_))
   | exact slices_Contains_int_int.mono _ _ _
   | exact LeO.none _
   | refine LeO.ite ?_ ?_
   | refine LeO.bind ?_ (fun _ => ?_)
set_option maxHeartbeats 8000000 in
set_option maxRecDepth 100000 in
theorem impl_groupsc1.calls (k : Nat) (a0 : Int) (g1_0 : Nat) (g1_1 : Nat) (A1_0 : Option Addr) (c1_0 : Nat) (l1_0 : List (List Int)) (A1_1 : Option Addr) (c1_1 : Nat) (l1_1 : List Int) (r : Bool) (w : World) (hb1_0 : w.heap[g1_0]? = some (.cells #[.slice A1_0 l1_0.length c1_0] 40 (0, 0))) (hb1_1 : w.heap[g1_1]? = some (.cells #[.slice A1_1 l1_1.length c1_1] 23 (0, 0))) (hr1_0 : Kd.C (Kd.slice 3 (Kd.int .i64)) w A1_0 l1_0.length l1_0) (hc1_0 : l1_0.length ≤ c1_0) (hr1_1 : Kd.C (Kd.int .i64) w A1_1 l1_1.length l1_1) (hc1_1 : l1_1.length ≤ c1_1) (h : impl_groupsc1.f k a0 l1_0 l1_1 = some r) :
  Calls Try.prog 63 #[.int .i64 a0, .pointer (some ⟨g1_0, 0, none⟩), .pointer (some ⟨g1_1, 0, none⟩)] w fun e w' => e = .returned (.bool r) ∧ Below w.heap.size w w' := by
 have HR1_0 := Aside0.mk hr1_0
 have HC1_0 := Aside0.mk hc1_0
 clear hr1_0 hc1_0
 have HR1_1 := Aside0.mk hr1_1
 have HC1_1 := Aside0.mk hc1_1
 clear hr1_1 hc1_1
 have BK250 := Aside0.mk hb1_0
 clear hb1_0
 have BK251 := Aside0.mk hb1_1
 clear hb1_1
 have HB := Aside0.mk (Below.refl w.heap.size w)
 have H : (if 0 < (l1_1.length : Int) then (if 0 ≤ (rd l1_1 0) then (if (rd l1_1 0) < (l1_0.length : Int) then ((slices_Contains_int_int.f k (impl_groups.row l1_0 (rd l1_1 0)) a0).bind fun t254 => (some t254)) else (none)) else (none)) else (none)) = some r := h
 clear h
 by_cases c3 : 0 < (l1_1.length : Int)
 ·
  rw [if_pos c3] at H
  have c3b0 : decide (0 < (l1_1.length : Int)) = true := decide_eq_true c3
  have c3b1 : decide (0 < l1_1.length) = true := decide_eq_true (by omega)
  clear c3
  by_cases c4 : 0 ≤ (rd l1_1 0)
  ·
   rw [if_pos c4] at H
   have c4b0 : decide (0 ≤ (rd l1_1 0)) = true := decide_eq_true c4
   clear c4
   by_cases c5 : (rd l1_1 0) < (l1_0.length : Int)
   ·
    rw [if_pos c5] at H
    have c5b0 : decide ((rd l1_1 0) < (l1_0.length : Int)) = true := decide_eq_true c5
    clear c5
    replace H := Option.bind_eq_some_iff.mp H
    obtain ⟨t254, A60, H⟩ := H
    replace H : (some t254) = some r := H
    have A6 := Aside0.mk A60
    clear A60
    obtain rfl := Option.some.inj H
    have hcz7_0 : w.cell? ⟨g1_0, 0, none⟩ = some (.slice A1_0 l1_0.length c1_0) := (blk_cell BK250.out 0).trans rfl
    have hfz7_0 := blk_frozen BK250.out 0
    have hcz8_0 : w.cell? ⟨g1_1, 0, none⟩ = some (.slice A1_1 l1_1.length c1_1) := (blk_cell BK251.out 0).trans rfl
    have hfz8_0 := blk_frozen BK251.out 0
    have p252 : 0 ≤ (0 : Int) := (by omega)
    have q252 : 0 < (l1_1.length : Int) := of_decide_eq_true (by first | (with_reducible assumption) | assumption)
    obtain ⟨ad252, e252, hx252_0⟩ := Kd.at_int HR1_1.out 0 p252 q252
    cases e252
    have qi252 : (0 < l1_1.length) = True := eq_true (by omega)
    (try rw [show ((0 : Int)).toNat = 0 from rfl] at hx252_0)
    (try rw [Addr.add_zero'] at hx252_0)
    replace p252 := eq_true p252
    replace q252 := eq_true q252
    have p253 : 0 ≤ ((rd l1_1 0) : Int) := of_decide_eq_true (by first | (with_reducible assumption) | assumption)
    have q253 : (rd l1_1 0) < (l1_0.length : Int) := of_decide_eq_true (by first | (with_reducible assumption) | assumption)
    obtain ⟨ad253, A253_0, c253_0, e253, hx253_0, hl253_0, hi253_0⟩ := impl_groups.at_ HR1_0.out (rd l1_1 0) p253 q253
    cases e253
    have HR253_0 := Aside0.mk hi253_0
    have HC253_0 := Aside0.mk hl253_0
    clear hi253_0 hl253_0
    replace p253 := eq_true p253
    replace q253 := eq_true q253
    go_enter Try.func63, Try.ntmps63
    go_wp2_with (first | (go_at_call 64; (with_reducible refine (slices_Contains_int_int.calls k _ _ (impl_groups.row l1_0 (rd l1_1 0)) a0 t254 _ ?side1 ?side2 A6.out).mono ?_); (case side1 => repeat (first | exact HR253_0.out | (with_reducible refine Kd.C_alloc ?_ _) | (with_reducible refine Kd.C_drewN ?_ _) | (with_reducible refine Kd.C_drew ?_))); (case side2 => exact HC253_0.out); rintro e w' ⟨rfl, ⟨nd, rfl⟩⟩; (try first | exact ⟨rfl, _, World.drewN_drewN _ _ _⟩ | exact ⟨rfl, _, Eq.trans (World.drewN_drewN _ _ _) (congrArg (World.drewN _) (Nat.add_assoc _ _ _))⟩)))
    repeat (go_quiet (first | (go_at_call 64; (with_reducible refine (slices_Contains_int_int.calls k _ _ (impl_groups.row l1_0 (rd l1_1 0)) a0 t254 _ ?side1 ?side2 A6.out).mono ?_); (case side1 => repeat (first | exact HR253_0.out | (with_reducible refine Kd.C_alloc ?_ _) | (with_reducible refine Kd.C_drewN ?_ _) | (with_reducible refine Kd.C_drew ?_))); (case side2 => exact HC253_0.out); rintro e w' ⟨rfl, ⟨nd, rfl⟩⟩; (try first | exact ⟨rfl, _, World.drewN_drewN _ _ _⟩ | exact ⟨rfl, _, Eq.trans (World.drewN_drewN _ _ _) (congrArg (World.drewN _) (Nat.add_assoc _ _ _))⟩))); try go_wp2_with (first | (go_at_call 64; (with_reducible refine (slices_Contains_int_int.calls k _ _ (impl_groups.row l1_0 (rd l1_1 0)) a0 t254 _ ?side1 ?side2 A6.out).mono ?_); (case side1 => repeat (first | exact HR253_0.out | (with_reducible refine Kd.C_alloc ?_ _) | (with_reducible refine Kd.C_drewN ?_ _) | (with_reducible refine Kd.C_drew ?_))); (case side2 => exact HC253_0.out); rintro e w' ⟨rfl, ⟨nd, rfl⟩⟩; (try first | exact ⟨rfl, _, World.drewN_drewN _ _ _⟩ | exact ⟨rfl, _, Eq.trans (World.drewN_drewN _ _ _) (congrArg (World.drewN _) (Nat.add_assoc _ _ _))⟩))))
    go_ret
    exact ⟨by first | rfl | (simp [errW_none, errW_some] <;> rfl) | (simp [*, errW_none, errW_some] <;> rfl), by repeat (first | (with_reducible first | exact HB.out | apply below_alloc | apply pw_below_drewN | apply below_drew1 | refine below_set ?_ GE250.out | refine below_set ?_ GE251.out) | exact HB.out)⟩
   ·
    rw [if_neg c5] at H
    exact absurd H (by simp)
  ·
   rw [if_neg c4] at H
   exact absurd H (by simp)
 ·
  rw [if_neg c3] at H
  exact absurd H (by simp)

def slices_IndexFunc_int_int_impl_groupsc1.l0 : Nat → List Int → Int → Int → List (List Int) → List Int → Option (Int)
 | 0, _, _, _, _, _ => none
 | k + 1, x0, x7, x8, x256000, x257000 => if x8 < x7 then (if 0 ≤ x8 then (if x8 < (x0.length : Int) then ((impl_groupsc1.f k (rd x0 x8) x256000 x257000).bind fun t258 => (if t258 = true then (some x8) else (slices_IndexFunc_int_int_impl_groupsc1.l0 k x0 x7 (wrap64 (x8 + 1)) x256000 x257000))) else (none)) else (none)) else (some (-1))
def slices_IndexFunc_int_int_impl_groupsc1.f (k : Nat) (l0 : List Int) (l1_0 : List (List Int)) (l1_1 : List Int) : Option (Int) := slices_IndexFunc_int_int_impl_groupsc1.l0 k l0 (l0.length : Int) 0 l1_0 l1_1
theorem slices_IndexFunc_int_int_impl_groupsc1.mono_l : ∀ k, (∀ y0 y1 y2 y3 y4, LeO (slices_IndexFunc_int_int_impl_groupsc1.l0 k y0 y1 y2 y3 y4) (slices_IndexFunc_int_int_impl_groupsc1.l0 (k + 1) y0 y1 y2 y3 y4))
 | 0 => fun _ _ _ _ _ r h => by simp [slices_IndexFunc_int_int_impl_groupsc1.l0] at h
 | k + 1 => by
  have ih0 := slices_IndexFunc_int_int_impl_groupsc1.mono_l k
  ·
   intro y0 y1 y2 y3 y4
   unfold slices_IndexFunc_int_int_impl_groupsc1.l0
   repeat' first
   | (with_reducible exact ih0 _ _ _ _ _)
   | (with_reducible exact impl_groupsc1.mono _ _ _ _)
   | (with_reducible exact LeO.refl _)
   | (with_reducible exact LeO.none _)
   | (with_reducible refine LeO.ite ?_ ?_)
   | (with_reducible refine LeO.bind ?_ (fun _ => ?_))
   | exact ih0 _ _ _ _ _
   | exact impl_groupsc1.mono _ _ _ _
   | exact LeO.none _
   | refine LeO.ite ?_ ?_
   | refine LeO.bind ?_ (fun _ => ?_)
theorem slices_IndexFunc_int_int_impl_groupsc1.mono : ∀ a0 a1 a2 k, LeO (slices_IndexFunc_int_int_impl_groupsc1.f k a0 a1 a2) (slices_IndexFunc_int_int_impl_groupsc1.f (k + 1) a0 a1 a2) := by
 intro a0 a1 a2 k
 have ih0 := slices_IndexFunc_int_int_impl_groupsc1.mono_l k
 unfold slices_IndexFunc_int_int_impl_groupsc1.f
 repeat' first
   | (with_reducible exact ih0 _ _ _ _ _)
   | (with_reducible exact impl_groupsc1.mono _ _ _ _)
   | (with_reducible exact LeO.refl _)
   | (with_reducible exact LeO.none _)
   | (with_reducible refine LeO.ite ?_ ?_)
   | (with_reducible refine LeO.bind ?_ (fun _ => ?_))
   | exact ih0 _ _ _ _ _
   | exact impl_groupsc1.mono _ _ _ _
   | exact LeO.none _
   | refine LeO.ite ?_ ?_
   | refine LeO.bind ?_ (fun _ => ?_)
set_option maxHeartbeats 8000000 in
set_option maxRecDepth 100000 in
theorem slices_IndexFunc_int_int_impl_groupsc1.calls (k : Nat) (A0 : Option Addr) (c0 : Nat) (l0 : List Int) (g1_0 : Nat) (g1_1 : Nat) (A1_0 : Option Addr) (c1_0 : Nat) (l1_0 : List (List Int)) (A1_1 : Option Addr) (c1_1 : Nat) (l1_1 : List Int) (r : Int) (w : World) (hb1_0 : w.heap[g1_0]? = some (.cells #[.slice A1_0 l1_0.length c1_0] 40 (0, 0))) (hb1_1 : w.heap[g1_1]? = some (.cells #[.slice A1_1 l1_1.length c1_1] 23 (0, 0))) (hr0 : Kd.C (Kd.int .i64) w A0 l0.length l0) (hc0 : l0.length ≤ c0) (hr1_0 : Kd.C (Kd.slice 3 (Kd.int .i64)) w A1_0 l1_0.length l1_0) (hc1_0 : l1_0.length ≤ c1_0) (hr1_1 : Kd.C (Kd.int .i64) w A1_1 l1_1.length l1_1) (hc1_1 : l1_1.length ≤ c1_1) (h : slices_IndexFunc_int_int_impl_groupsc1.f k l0 l1_0 l1_1 = some r) :
  Calls Try.prog 73 #[.slice A0 l0.length c0, .func (.func 63) #[] #[.pointer (some ⟨g1_0, 0, none⟩), .pointer (some ⟨g1_1, 0, none⟩)]] w fun e w' => e = .returned (.int .i64 r) ∧ Below w.heap.size w w' := by
 have HR0 := Aside0.mk hr0
 have HC0 := Aside0.mk hc0
 clear hr0 hc0
 have HR1_0 := Aside0.mk hr1_0
 have HC1_0 := Aside0.mk hc1_0
 clear hr1_0 hc1_0
 have HR1_1 := Aside0.mk hr1_1
 have HC1_1 := Aside0.mk hc1_1
 clear hr1_1 hc1_1
 have BK255 := Aside0.mk hb1_0
 clear hb1_0
 have BK256 := Aside0.mk hb1_1
 clear hb1_1
 have HB := Aside0.mk (Below.refl w.heap.size w)
 have H : (slices_IndexFunc_int_int_impl_groupsc1.l0 k l0 (l0.length : Int) 0 l1_0 l1_1) = some r := h
 clear h
 have H' := Aside0.mk H
 clear H
 go_enter Try.func73, Try.ntmps73
 go_wp2
 go_loopg [8] k (fun kq v8 w' => ∃ (x8_1 : Int), v8 = .int .i64 x8_1 ∧ Aside0 (slices_IndexFunc_int_int_impl_groupsc1.l0 kq l0 (l0.length : Int) x8_1 l1_0 l1_1 = some r) ∧ Aside0 (kq ≤ k) ∧ Aside0 (w'.heap[g1_0]? = some (.cells #[(.slice A1_0 l1_0.length c1_0)] 40 (0, 0))) ∧ Aside0 (w'.heap[g1_1]? = some (.cells #[(.slice A1_1 l1_1.length c1_1)] 23 (0, 0))) ∧ Aside0 (Below w.heap.size w w'))
 case atStart => exact ⟨(0), (by first | rfl | (simp; done) | (simp [*]; done)), H', ⟨Nat.le_refl _⟩, ⟨by refine uW ?_; exact BK255.out⟩, ⟨by refine uW ?_; exact BK256.out⟩, ⟨by repeat (first | (with_reducible first | exact HB.out | apply below_alloc | apply pw_below_drewN | apply below_drew1 | refine below_set ?_ GE255.out | refine below_set ?_ GE256.out) | exact HB.out)⟩⟩
 case round =>
  clear H'
  try clear c1
  try clear p2
  obtain ⟨x8_1, rfl, HA, HK1, BK255, BK256, HB⟩ := hrel
  cases gk with
  | zero => exact absurd HA.out (by simp [slices_IndexFunc_int_int_impl_groupsc1.l0])
  | succ k1 =>
   have H := HA.out
   clear HA
   simp only [slices_IndexFunc_int_int_impl_groupsc1.l0] at H
   by_cases c3 : x8_1 < (l0.length : Int)
   ·
    rw [if_pos c3] at H
    have c3b0 : decide (x8_1 < (l0.length : Int)) = true := decide_eq_true c3
    clear c3
    by_cases c4 : 0 ≤ x8_1
    ·
     rw [if_pos c4] at H
     have c4b0 : decide (0 ≤ x8_1) = true := decide_eq_true c4
     clear c4
     by_cases c5 : x8_1 < (l0.length : Int)
     ·
      rw [if_pos c5] at H
      have c5b0 : decide (x8_1 < (l0.length : Int)) = true := decide_eq_true c5
      clear c5
      replace H := Option.bind_eq_some_iff.mp H
      obtain ⟨t258, A60, H⟩ := H
      replace H : (if t258 = true then (some x8_1) else (slices_IndexFunc_int_int_impl_groupsc1.l0 k1 l0 (l0.length : Int) (wrap64 (x8_1 + 1)) l1_0 l1_1)) = some r := H
      have A6 := Aside0.mk A60
      clear A60
      by_cases c7 : t258 = true
      ·
       subst c7
       have H1 : (some x8_1) = some r := by rw [if_pos rfl] at H; exact H
       clear H
       have H := H1
       clear H1
       obtain rfl := Option.some.inj H
       have p257 : 0 ≤ (x8_1 : Int) := of_decide_eq_true (by first | (with_reducible assumption) | assumption)
       have q257 : x8_1 < (l0.length : Int) := of_decide_eq_true (by first | (with_reducible assumption) | assumption)
       obtain ⟨ad257, e257, hx257_0⟩ := Kd.at_int HR0.out x8_1 p257 q257
       cases e257
       replace hx257_0 := (HB.out.cell (World.block_lt_of_cell? w _ hx257_0)).trans hx257_0
       replace p257 := eq_true p257
       replace q257 := eq_true q257
       go_wp2_with (first | ((with_reducible refine gate_via (t := 11) rfl ?_); refine goesC_ (some 16) rfl rfl (t := 11) Try.func63 (by kernel_rfl) rfl #[.int .i64 (rd l0 x8_1), .pointer (some ⟨g1_0, 0, none⟩), .pointer (some ⟨g1_1, 0, none⟩)] rfl rfl (by (try simp only [List.map_toArray, List.map_cons, List.map_nil]); first | done | rfl) ?_; (with_reducible refine (impl_groupsc1.calls k1 (rd l0 x8_1) g1_0 g1_1 A1_0 c1_0 l1_0 A1_1 c1_1 l1_1 true _ ?side1 ?side2 ?side3 ?side4 ?side5 ?side6 A6.out).mono ?_); (case side1 => exact (uK BK255)); (case side2 => exact (uK BK256)); (case side3 => exact uC HR1_0 HB); (case side4 => exact HC1_0.out); (case side5 => exact uC HR1_1 HB); (case side6 => exact HC1_1.out); rintro e w8 ⟨rfl, hb⟩; refine ⟨_, rfl, ?_⟩; have n0_ := Aside0.mk (blk_below (g := g1_0) (o := .cells #[.slice A1_0 l1_0.length c1_0] 40 (0, 0)) (uK BK255) hb); have n1_ := Aside0.mk (blk_below (g := g1_1) (o := .cells #[.slice A1_1 l1_1.length c1_1] 23 (0, 0)) (uK BK256) hb); have n2_ := Aside0.mk (below_step (by repeat (first | (with_reducible first | exact HB.out | apply below_alloc | apply pw_below_drewN | apply below_drew1 | refine below_set ?_ GE255.out | refine below_set ?_ GE256.out) | exact HB.out)) hb); clear BK255 BK256 HB; have BK255 := n0_; have BK256 := n1_; have HB := n2_; clear n0_ n1_ n2_; (try clear hb); (try clear hb2); (try clear hk); (try clear hi)))
       go_ret
       exact ⟨by first | rfl | (simp [errW_none, errW_some] <;> rfl) | (simp [*, errW_none, errW_some] <;> rfl), by repeat (first | (with_reducible first | exact HB.out | apply below_alloc | apply pw_below_drewN | apply below_drew1 | refine below_set ?_ GE255.out | refine below_set ?_ GE256.out) | exact HB.out)⟩
      ·
       replace c7 := Bool.eq_false_iff.mpr c7
       subst c7
       have H1 : (slices_IndexFunc_int_int_impl_groupsc1.l0 k1 l0 (l0.length : Int) (wrap64 (x8_1 + 1)) l1_0 l1_1) = some r := by rw [if_neg (show ¬ (false = true) by decide)] at H; exact H
       clear H
       have H := H1
       clear H1
       have H' := Aside0.mk H
       clear H
       have p257 : 0 ≤ (x8_1 : Int) := of_decide_eq_true (by first | (with_reducible assumption) | assumption)
       have q257 : x8_1 < (l0.length : Int) := of_decide_eq_true (by first | (with_reducible assumption) | assumption)
       obtain ⟨ad257, e257, hx257_0⟩ := Kd.at_int HR0.out x8_1 p257 q257
       cases e257
       replace hx257_0 := (HB.out.cell (World.block_lt_of_cell? w _ hx257_0)).trans hx257_0
       replace p257 := eq_true p257
       replace q257 := eq_true q257
       go_wp2_with (first | ((with_reducible refine gate_via (t := 11) rfl ?_); refine goesC_ (some 16) rfl rfl (t := 11) Try.func63 (by kernel_rfl) rfl #[.int .i64 (rd l0 x8_1), .pointer (some ⟨g1_0, 0, none⟩), .pointer (some ⟨g1_1, 0, none⟩)] rfl rfl (by (try simp only [List.map_toArray, List.map_cons, List.map_nil]); first | done | rfl) ?_; (with_reducible refine (impl_groupsc1.calls k1 (rd l0 x8_1) g1_0 g1_1 A1_0 c1_0 l1_0 A1_1 c1_1 l1_1 false _ ?side1 ?side2 ?side3 ?side4 ?side5 ?side6 A6.out).mono ?_); (case side1 => exact (uK BK255)); (case side2 => exact (uK BK256)); (case side3 => exact uC HR1_0 HB); (case side4 => exact HC1_0.out); (case side5 => exact uC HR1_1 HB); (case side6 => exact HC1_1.out); rintro e w9 ⟨rfl, hb⟩; refine ⟨_, rfl, ?_⟩; have n0_ := Aside0.mk (blk_below (g := g1_0) (o := .cells #[.slice A1_0 l1_0.length c1_0] 40 (0, 0)) (uK BK255) hb); have n1_ := Aside0.mk (blk_below (g := g1_1) (o := .cells #[.slice A1_1 l1_1.length c1_1] 23 (0, 0)) (uK BK256) hb); have n2_ := Aside0.mk (below_step (by repeat (first | (with_reducible first | exact HB.out | apply below_alloc | apply pw_below_drewN | apply below_drew1 | refine below_set ?_ GE255.out | refine below_set ?_ GE256.out) | exact HB.out)) hb); clear BK255 BK256 HB; have BK255 := n0_; have BK256 := n1_; have HB := n2_; clear n0_ n1_ n2_; (try clear hb); (try clear hb2); (try clear hk); (try clear hi)))
       go_roundg k1
       case measure => have := HK1.out; omega
       case rel => exact ⟨(wrap64 (x8_1 + 1)), (by first | rfl | (simp; done) | (simp [*]; done)), H', ⟨by have := HK1.out; omega⟩, ⟨by refine uW ?_; exact BK255.out⟩, ⟨by refine uW ?_; exact BK256.out⟩, ⟨by repeat (first | (with_reducible first | exact HB.out | apply below_alloc | apply pw_below_drewN | apply below_drew1 | refine below_set ?_ GE255.out | refine below_set ?_ GE256.out) | exact HB.out)⟩⟩
     ·
      rw [if_neg c5] at H
      exact absurd H (by simp)
    ·
     rw [if_neg c4] at H
     exact absurd H (by simp)
   ·
    rw [if_neg c3] at H
    have c3b0 : decide (x8_1 < (l0.length : Int)) = false := decide_eq_false c3
    clear c3
    obtain rfl := Option.some.inj H
    go_wp2
    go_ret
    exact ⟨by first | rfl | (simp [errW_none, errW_some] <;> rfl) | (simp [*, errW_none, errW_some] <;> rfl), by repeat (first | (with_reducible first | exact HB.out | apply below_alloc | apply pw_below_drewN | apply below_drew1 | refine below_set ?_ GE255.out | refine below_set ?_ GE256.out) | exact HB.out)⟩

def slices_ContainsFunc_int_int_impl_groupsc1.f (k : Nat) (l0 : List Int) (l1_0 : List (List Int)) (l1_1 : List Int) : Option (Bool) := (slices_IndexFunc_int_int_impl_groupsc1.f k l0 l1_0 l1_1).bind fun t261 => (some (decide (t261 ≥ 0)))
theorem slices_ContainsFunc_int_int_impl_groupsc1.mono : ∀ a0 a1 a2 k, LeO (slices_ContainsFunc_int_int_impl_groupsc1.f k a0 a1 a2) (slices_ContainsFunc_int_int_impl_groupsc1.f (k + 1) a0 a1 a2) := by
 intro a0 a1 a2 k
 unfold slices_ContainsFunc_int_int_impl_groupsc1.f
 repeat' first
   | (with_reducible exact slices_IndexFunc_int_int_impl_groupsc1.mono _ _ _ _)
   | (with_reducible exact LeO.refl _)
   | (with_reducible exact LeO.none _)
   | (with_reducible refine LeO.ite ?_ ?_)
   | (with_reducible refine LeO.bind ?_ (fun _ => ?_))
   | exact slices_IndexFunc_int_int_impl_groupsc1.mono _ _ _ _
   | exact LeO.none _
   | refine LeO.ite ?_ ?_
   | refine LeO.bind ?_ (fun _ => ?_)
set_option maxHeartbeats 8000000 in
set_option maxRecDepth 100000 in
theorem slices_ContainsFunc_int_int_impl_groupsc1.calls (k : Nat) (A0 : Option Addr) (c0 : Nat) (l0 : List Int) (g1_0 : Nat) (g1_1 : Nat) (A1_0 : Option Addr) (c1_0 : Nat) (l1_0 : List (List Int)) (A1_1 : Option Addr) (c1_1 : Nat) (l1_1 : List Int) (r : Bool) (w : World) (hb1_0 : w.heap[g1_0]? = some (.cells #[.slice A1_0 l1_0.length c1_0] 40 (0, 0))) (hb1_1 : w.heap[g1_1]? = some (.cells #[.slice A1_1 l1_1.length c1_1] 23 (0, 0))) (hr0 : Kd.C (Kd.int .i64) w A0 l0.length l0) (hc0 : l0.length ≤ c0) (hr1_0 : Kd.C (Kd.slice 3 (Kd.int .i64)) w A1_0 l1_0.length l1_0) (hc1_0 : l1_0.length ≤ c1_0) (hr1_1 : Kd.C (Kd.int .i64) w A1_1 l1_1.length l1_1) (hc1_1 : l1_1.length ≤ c1_1) (h : slices_ContainsFunc_int_int_impl_groupsc1.f k l0 l1_0 l1_1 = some r) :
  Calls Try.prog 62 #[.slice A0 l0.length c0, .func (.func 63) #[] #[.pointer (some ⟨g1_0, 0, none⟩), .pointer (some ⟨g1_1, 0, none⟩)]] w fun e w' => e = .returned (.bool r) ∧ Below w.heap.size w w' := by
 have HR0 := Aside0.mk hr0
 have HC0 := Aside0.mk hc0
 clear hr0 hc0
 have HR1_0 := Aside0.mk hr1_0
 have HC1_0 := Aside0.mk hc1_0
 clear hr1_0 hc1_0
 have HR1_1 := Aside0.mk hr1_1
 have HC1_1 := Aside0.mk hc1_1
 clear hr1_1 hc1_1
 have BK259 := Aside0.mk hb1_0
 clear hb1_0
 have BK260 := Aside0.mk hb1_1
 clear hb1_1
 have HB := Aside0.mk (Below.refl w.heap.size w)
 have H : ((slices_IndexFunc_int_int_impl_groupsc1.f k l0 l1_0 l1_1).bind fun t261 => (some (decide (t261 ≥ 0)))) = some r := h
 clear h
 replace H := Option.bind_eq_some_iff.mp H
 obtain ⟨t261, A30, H⟩ := H
 replace H : (some (decide (t261 ≥ 0))) = some r := H
 have A3 := Aside0.mk A30
 clear A30
 obtain rfl := Option.some.inj H
 go_enter Try.func62, Try.ntmps62
 go_wp2_with (first | ((with_reducible refine gate_callee (f := 73) rfl ?_); refine goesL_ (some 7) rfl rfl Try.func73 (by kernel_rfl) rfl #[.slice A0 l0.length c0, .func (.func 63) #[] #[.pointer (some ⟨g1_0, 0, none⟩), .pointer (some ⟨g1_1, 0, none⟩)]] rfl (by (try simp only [List.map_toArray, List.map_cons, List.map_nil]); first | done | rfl | (simp only [List.length_drop, List.length_take]; rfl)) ?_; (with_reducible refine (slices_IndexFunc_int_int_impl_groupsc1.calls k _ _ l0 g1_0 g1_1 A1_0 c1_0 l1_0 A1_1 c1_1 l1_1 t261 _ ?side1 ?side2 ?side3 ?side4 ?side5 ?side6 ?side7 ?side8 A3.out).mono ?_); (case side1 => exact (uK BK259)); (case side2 => exact (uK BK260)); (case side3 => repeat (first | exact HR0.out | (with_reducible refine Kd.C_alloc ?_ _) | (with_reducible refine Kd.C_drewN ?_ _) | (with_reducible refine Kd.C_drew ?_))); (case side4 => exact HC0.out); (case side5 => repeat (first | exact HR1_0.out | (with_reducible refine Kd.C_alloc ?_ _) | (with_reducible refine Kd.C_drewN ?_ _) | (with_reducible refine Kd.C_drew ?_))); (case side6 => exact HC1_0.out); (case side7 => repeat (first | exact HR1_1.out | (with_reducible refine Kd.C_alloc ?_ _) | (with_reducible refine Kd.C_drewN ?_ _) | (with_reducible refine Kd.C_drew ?_))); (case side8 => exact HC1_1.out); rintro e w4 ⟨rfl, hb⟩; refine ⟨_, rfl, ?_⟩; have n0_ := Aside0.mk (blk_below (g := g1_0) (o := .cells #[.slice A1_0 l1_0.length c1_0] 40 (0, 0)) (uK BK259) hb); have n1_ := Aside0.mk (blk_below (g := g1_1) (o := .cells #[.slice A1_1 l1_1.length c1_1] 23 (0, 0)) (uK BK260) hb); have n2_ := Aside0.mk (below_step (by repeat (first | (with_reducible first | exact HB.out | apply below_alloc | apply pw_below_drewN | apply below_drew1 | refine below_set ?_ GE259.out | refine below_set ?_ GE260.out) | exact HB.out)) hb); clear BK259 BK260 HB; have BK259 := n0_; have BK260 := n1_; have HB := n2_; clear n0_ n1_ n2_; (try clear hb); (try clear hb2); (try clear hk); (try clear hi)))
 go_ret
 exact ⟨by first | rfl | (simp [errW_none, errW_some] <;> rfl) | (simp [*, errW_none, errW_some] <;> rfl), by repeat (first | (with_reducible first | exact HB.out | apply below_alloc | apply pw_below_drewN | apply below_drew1 | refine below_set ?_ GE259.out | refine below_set ?_ GE260.out) | exact HB.out)⟩

mutual
def impl_groups.l0 : Nat → List (List Int) → List Int → Int → Int → List (List Int) → Option ((List (List Int)))
 | 0, _, _, _, _, _ => none
 | k + 1, x3, x4, x17, x18, x263000 => if x18 < x17 then (if 0 ≤ x18 then (if x18 < (x4.length : Int) then (impl_groups.l0 k x3 (x4.set (x18 : Int).toNat (-1)) x17 (wrap64 (x18 + 1)) x263000) else (none)) else (none)) else (impl_groups.l1 k x3 x4 (x263000.length : Int) 0 x263000)
def impl_groups.l1 : Nat → List (List Int) → List Int → Int → Int → List (List Int) → Option ((List (List Int)))
 | 0, _, _, _, _, _ => none
 | k + 1, x3, x4, x26, x27, x263000 => if x27 < x26 then (if 0 ≤ x27 then (if x27 < (x4.length : Int) then (if (rd x4 x27) ≥ 0 then (impl_groups.l1 k x3 x4 x26 (wrap64 (x27 + 1)) x263000) else (impl_groups.l2 k x3 (x4.set (x27 : Int).toNat (x3.length : Int)) (x3.length : Int) x26 x27 x263000 (([x27] : List Int)))) else (none)) else (none)) else (impl_groups.l4 k x3 x4 (x4.length : Int) 0)
def impl_groups.l2 : Nat → List (List Int) → List Int → Int → Int → Int → List (List Int) → List Int → Option ((List (List Int)))
 | 0, _, _, _, _, _, _, _ => none
 | k + 1, x3, x4, x7, x26, x27, x263000, x276000 => if (x276000.length : Int) > 0 then (impl_groups.l3 k x3 x4 x7 x26 x27 (x263000.length : Int) 0 x263000 x276000) else (if x3.length < 5864062014805 then (impl_groups.l1 k (x3 ++ [[]]) x4 x26 (wrap64 (x27 + 1)) x263000) else (none))
def impl_groups.l3 : Nat → List (List Int) → List Int → Int → Int → Int → Int → Int → List (List Int) → List Int → Option ((List (List Int)))
 | 0, _, _, _, _, _, _, _, _, _ => none
 | k + 1, x3, x4, x7, x26, x27, x49, x50, x263000, x276000 => if x50 < x49 then (if 0 ≤ x50 then (if x50 < (x4.length : Int) then (if (rd x4 x50) < 0 then (if x50 < (x263000.length : Int) then ((slices_ContainsFunc_int_int_impl_groupsc1.f k (impl_groups.row x263000 x50) x263000 x276000).bind fun t281 => (if t281 = true then (if x276000.length < 17592186044416 then (impl_groups.l3 k x3 (x4.set (x50 : Int).toNat x7) x7 x26 x27 x49 (wrap64 (x50 + 1)) x263000 (x276000 ++ [x50])) else (none)) else (impl_groups.l3 k x3 x4 x7 x26 x27 x49 (wrap64 (x50 + 1)) x263000 x276000))) else (none)) else (impl_groups.l3 k x3 x4 x7 x26 x27 x49 (wrap64 (x50 + 1)) x263000 x276000)) else (none)) else (none)) else (if 1 ≤ (x276000.length : Int) then (impl_groups.l2 k x3 x4 x7 x26 x27 x263000 (x276000.drop 1)) else (none))
def impl_groups.l4 : Nat → List (List Int) → List Int → Int → Int → Option ((List (List Int)))
 | 0, _, _, _, _ => none
 | k + 1, x3, x80, x81, x82 => if x82 < x81 then (if 0 ≤ x82 then (if x82 < (x80.length : Int) then (if 0 ≤ (rd x80 x82) then (if (rd x80 x82) < (x3.length : Int) then (if (impl_groups.row x3 (rd x80 x82)).length < 17592186044416 then (impl_groups.l4 k (x3.set ((rd x80 x82) : Int).toNat ((impl_groups.row x3 (rd x80 x82)) ++ [x82])) x80 x81 (wrap64 (x82 + 1))) else (none)) else (none)) else (none)) else (none)) else (none)) else (some x3)
end
def impl_groups.f (k : Nat) (l0 : List (List Int)) : Option ((List (List Int))) := if 0 ≤ (l0.length : Int) then (if ((l0.length : Int) : Int).toNat ≤ 35184372088832 then ((some (List.replicate ((l0.length : Int) : Int).toNat 0 : List Int)).bind fun y266 => (impl_groups.l0 k (([] : List (List Int))) y266 (y266.length : Int) 0 l0)) else (none)) else (none)
theorem impl_groups.mono_l : ∀ k, (∀ y0 y1 y2 y3 y4, LeO (impl_groups.l0 k y0 y1 y2 y3 y4) (impl_groups.l0 (k + 1) y0 y1 y2 y3 y4)) ∧ (∀ y0 y1 y2 y3 y4, LeO (impl_groups.l1 k y0 y1 y2 y3 y4) (impl_groups.l1 (k + 1) y0 y1 y2 y3 y4)) ∧ (∀ y0 y1 y2 y3 y4 y5 y6, LeO (impl_groups.l2 k y0 y1 y2 y3 y4 y5 y6) (impl_groups.l2 (k + 1) y0 y1 y2 y3 y4 y5 y6)) ∧ (∀ y0 y1 y2 y3 y4 y5 y6 y7 y8, LeO (impl_groups.l3 k y0 y1 y2 y3 y4 y5 y6 y7 y8) (impl_groups.l3 (k + 1) y0 y1 y2 y3 y4 y5 y6 y7 y8)) ∧ (∀ y0 y1 y2 y3, LeO (impl_groups.l4 k y0 y1 y2 y3) (impl_groups.l4 (k + 1) y0 y1 y2 y3))
 | 0 => ⟨fun _ _ _ _ _ r h => by simp [impl_groups.l0] at h, fun _ _ _ _ _ r h => by simp [impl_groups.l1] at h, fun _ _ _ _ _ _ _ r h => by simp [impl_groups.l2] at h, fun _ _ _ _ _ _ _ _ _ r h => by simp [impl_groups.l3] at h, fun _ _ _ _ r h => by simp [impl_groups.l4] at h⟩
 | k + 1 => by
  obtain ⟨ih0, ih1, ih2, ih3, ih4⟩ := impl_groups.mono_l k
  refine ⟨?_, ?_, ?_, ?_, ?_⟩
  ·
   intro y0 y1 y2 y3 y4
   unfold impl_groups.l0
   repeat' first
   | (with_reducible exact ih0 _ _ _ _ _)
   | (with_reducible exact ih1 _ _ _ _ _)
   | (with_reducible exact ih2 _ _ _ _ _ _ _)
   | (with_reducible exact ih3 _ _ _ _ _ _ _ _ _)
   | (with_reducible exact ih4 _ _ _ _)
   | (with_reducible exact slices_ContainsFunc_int_int_impl_groupsc1.mono _ _ _ _)
   | (with_reducible exact LeO.refl _)
   | (with_reducible exact LeO.none _)
   | (with_reducible refine LeO.ite ?_ ?_)
   | (with_reducible refine LeO.bind ?_ (fun _ => ?_))
   | exact ih0 _ _ _ _ _
   | exact ih1 _ _ _ _ _
   | exact ih2 _ _ _ _ _ _ _
   | exact ih3 _ _ _ _ _ _ _ _ _
   | exact ih4 _ _ _ _
   | exact slices_ContainsFunc_int_int_impl_groupsc1.mono _ _ _ _
   | exact LeO.none _
   | refine LeO.ite ?_ ?_
   | refine LeO.bind ?_ (fun _ => ?_)
  ·
   intro y0 y1 y2 y3 y4
   unfold impl_groups.l1
   repeat' first
   | (with_reducible exact ih0 _ _ _ _ _)
   | (with_reducible exact ih1 _ _ _ _ _)
   | (with_reducible exact ih2 _ _ _ _ _ _ _)
   | (with_reducible exact ih3 _ _ _ _ _ _ _ _ _)
   | (with_reducible exact ih4 _ _ _ _)
   | (with_reducible exact slices_ContainsFunc_int_int_impl_groupsc1.mono _ _ _ _)
   | (with_reducible exact LeO.refl _)
   | (with_reducible exact LeO.none _)
   | (with_reducible refine LeO.ite ?_ ?_)
   | (with_reducible refine LeO.bind ?_ (fun _ => ?_))
   | exact ih0 _ _ _ _ _
   | exact ih1 _ _ _ _ _
   | exact ih2 _ _ _ _ _ _ _
   | exact ih3 _ _ _ _ _ _ _ _ _
   | exact ih4 _ _ _ _
   | exact slices_ContainsFunc_int_int_impl_groupsc1.mono _ _ _ _
   | exact LeO.none _
   | refine LeO.ite ?_ ?_
   | refine LeO.bind ?_ (fun _ => ?_)
  ·
   intro y0 y1 y2 y3 y4 y5 y6
   unfold impl_groups.l2
   repeat' first
   | (with_reducible exact ih0 _ _ _ _ _)
   | (with_reducible exact ih1 _ _ _ _ _)
   | (with_reducible exact ih2 _ _ _ _ _ _ _)
   | (with_reducible exact ih3 _ _ _ _ _ _ _ _ _)
   | (with_reducible exact ih4 _ _ _ _)
   | (with_reducible exact slices_ContainsFunc_int_int_impl_groupsc1.mono _ _ _ _)
   | (with_reducible exact LeO.refl _)
   | (with_reducible exact LeO.none _)
   | (with_reducible refine LeO.ite ?_ ?_)
   | (with_reducible refine LeO.bind ?_ (fun _ => ?_))
   | exact ih0 _ _ _ _ _
   | exact ih1 _ _ _ _ _
   | exact ih2 _ _ _ _ _ _ _
   | exact ih3 _ _ _ _ _ _ _ _ _
   | exact ih4 _ _ _ _
   | exact slices_ContainsFunc_int_int_impl_groupsc1.mono _ _ _ _
   | exact LeO.none _
   | refine LeO.ite ?_ ?_
   | refine LeO.bind ?_ (fun _ => ?_)
  ·
   intro y0 y1 y2 y3 y4 y5 y6 y7 y8
   unfold impl_groups.l3
   repeat' first
   | (with_reducible exact ih0 _ _ _ _ _)
   | (with_reducible exact ih1 _ _ _ _ _)
   | (with_reducible exact ih2 _ _ _ _ _ _ _)
   | (with_reducible exact ih3 _ _ _ _ _ _ _ _ _)
   | (with_reducible exact ih4 _ _ _ _)
   | (with_reducible exact slices_ContainsFunc_int_int_impl_groupsc1.mono _ _ _ _)
   | (with_reducible exact LeO.refl _)
   | (with_reducible exact LeO.none _)
   | (with_reducible refine LeO.ite ?_ ?_)
   | (with_reducible refine LeO.bind ?_ (fun _ => ?_))
   | exact ih0 _ _ _ _ _
   | exact ih1 _ _ _ _ _
   | exact ih2 _ _ _ _ _ _ _
   | exact ih3 _ _ _ _ _ _ _ _ _
   | exact ih4 _ _ _ _
   | exact slices_ContainsFunc_int_int_impl_groupsc1.mono _ _ _ _
   | exact LeO.none _
   | refine LeO.ite ?_ ?_
   | refine LeO.bind ?_ (fun _ => ?_)
  ·
   intro y0 y1 y2 y3
   unfold impl_groups.l4
   repeat' first
   | (with_reducible exact ih0 _ _ _ _ _)
   | (with_reducible exact ih1 _ _ _ _ _)
   | (with_reducible exact ih2 _ _ _ _ _ _ _)
   | (with_reducible exact ih3 _ _ _ _ _ _ _ _ _)
   | (with_reducible exact ih4 _ _ _ _)
   | (with_reducible exact slices_ContainsFunc_int_int_impl_groupsc1.mono _ _ _ _)
   | (with_reducible exact LeO.refl _)
   | (with_reducible exact LeO.none _)
   | (with_reducible refine LeO.ite ?_ ?_)
   | (with_reducible refine LeO.bind ?_ (fun _ => ?_))
   | exact ih0 _ _ _ _ _
   | exact ih1 _ _ _ _ _
   | exact ih2 _ _ _ _ _ _ _
   | exact ih3 _ _ _ _ _ _ _ _ _
   | exact ih4 _ _ _ _
   | exact slices_ContainsFunc_int_int_impl_groupsc1.mono _ _ _ _
   | exact LeO.none _
   | refine LeO.ite ?_ ?_
   | refine LeO.bind ?_ (fun _ => ?_)
theorem impl_groups.mono : ∀ a0 k, LeO (impl_groups.f k a0) (impl_groups.f (k + 1) a0) := by
 intro a0 k
 obtain ⟨ih0, ih1, ih2, ih3, ih4⟩ := impl_groups.mono_l k
 unfold impl_groups.f
 repeat' first
   | (with_reducible exact ih0 _ _ _ _ _)
   | (with_reducible exact ih1 _ _ _ _ _)
   | (with_reducible exact ih2 _ _ _ _ _ _ _)
   | (with_reducible exact ih3 _ _ _ _ _ _ _ _ _)
   | (with_reducible exact ih4 _ _ _ _)
   | (with_reducible exact slices_ContainsFunc_int_int_impl_groupsc1.mono _ _ _ _)
   | (with_reducible exact LeO.refl _)
   | (with_reducible exact LeO.none _)
   | (with_reducible refine LeO.ite ?_ ?_)
   | (with_reducible refine LeO.bind ?_ (fun _ => ?_))
   | exact ih0 _ _ _ _ _
   | exact ih1 _ _ _ _ _
   | exact ih2 _ _ _ _ _ _ _
   | exact ih3 _ _ _ _ _ _ _ _ _
   | exact ih4 _ _ _ _
   | exact slices_ContainsFunc_int_int_impl_groupsc1.mono _ _ _ _
   | exact LeO.none _
   | refine LeO.ite ?_ ?_
   | refine LeO.bind ?_ (fun _ => ?_)
set_option maxHeartbeats 8000000 in
set_option maxRecDepth 100000 in
theorem impl_groups.calls (k : Nat) (A0 : Option Addr) (c0 : Nat) (l0 : List (List Int)) (r : List (List Int)) (w : World) (hr0 : Kd.C (Kd.slice 3 (Kd.int .i64)) w A0 l0.length l0) (hc0 : l0.length ≤ c0) (h : impl_groups.f k l0 = some r) :
  Calls Try.prog 43 #[.slice A0 l0.length c0] w fun e w' => ∃ v0_ : Value, e = .returned (v0_) ∧ Kd.S (Kd.slice 3 (Kd.int .i64)) 23 w' w.heap.size (fun _ => True) v0_ r ∧ Below w.heap.size w w' := by
 have hu40 := Try.underlying40
 have hu23 := Try.underlying23
 have hmf : ∀ (fn : Fn) (first cap : Array Value) (w : World), (Instr.makeFunc fn first cap).run Try.prog w = .ok (.func fn first cap) w := fun _ _ _ _ => rfl
 have HR0 := Aside0.mk hr0
 have HC0 := Aside0.mk hc0
 clear hr0 hc0
 have HB := Aside0.mk (Below.refl w.heap.size w)
 have H : (if 0 ≤ (l0.length : Int) then (if ((l0.length : Int) : Int).toNat ≤ 35184372088832 then ((some (List.replicate ((l0.length : Int) : Int).toNat 0 : List Int)).bind fun y266 => (impl_groups.l0 k (([] : List (List Int))) y266 (y266.length : Int) 0 l0)) else (none)) else (none)) = some r := h
 clear h
 obtain ⟨y263, hy263⟩ : ∃ y_ : List (List Int), y_ = (([] : List (List Int))) := ⟨_, rfl⟩
 replace H : (if 0 ≤ (l0.length : Int) then (if ((l0.length : Int) : Int).toNat ≤ 35184372088832 then ((some (List.replicate ((l0.length : Int) : Int).toNat 0 : List Int)).bind fun y266 => (impl_groups.l0 k y263 y266 (y266.length : Int) 0 l0)) else (none)) else (none)) = some r := by first | (rw [hy263]; with_reducible exact H) | (have H2_ := (Option.bind_some _ _).symm.trans H; rw [hy263]; with_reducible exact H2_) | (have H2_ := (Option.bind_some _ _).symm.trans H; with_reducible exact H2_) | with_reducible exact H | (rw [hy263]; exact H) | exact H
 have Ny263 := Aside0.mk hy263
 clear hy263
 by_cases c2 : 0 ≤ (l0.length : Int)
 ·
  rw [if_pos c2] at H
  have c2b0 := eq_true c2
  have c2b1 : decide (0 ≤ (l0.length : Int)) = true := decide_eq_true c2
  have CK2b1_ : Aside0 (0 ≤ (l0.length : Int)) := Aside0.mk (of_decide_eq_true c2b1)
  have CK2b1_ : Aside0 (0 ≤ (l0.length : Int)) := Aside0.mk (of_decide_eq_true c2b1)
  clear c2
  by_cases c3 : ((l0.length : Int) : Int).toNat ≤ 35184372088832
  ·
   rw [if_pos c3] at H
   have c3b0 := eq_true c3
   have c3b1 : decide (((l0.length : Int) : Int).toNat ≤ 35184372088832) = true := decide_eq_true c3
   clear c3
   obtain ⟨y266, hy266⟩ : ∃ y_ : List Int, y_ = (List.replicate ((l0.length : Int) : Int).toNat 0) := ⟨_, rfl⟩
   replace H : (impl_groups.l0 k y263 y266 (y266.length : Int) 0 l0) = some r := by first | (rw [hy266]; with_reducible exact H) | (have H2_ := (Option.bind_some _ _).symm.trans H; rw [hy266]; with_reducible exact H2_) | (have H2_ := (Option.bind_some _ _).symm.trans H; with_reducible exact H2_) | with_reducible exact H | (rw [hy266]; exact H) | exact H
   have Ny266 := Aside0.mk hy266
   clear hy266
   have H' := Aside0.mk H
   clear H
   go_enter Try.func43, Try.ntmps43
   try go_wp2_with (first | ((with_reducible refine gate_dst (N := 1) rfl ?_); refine box_event ?hg (N := 1) ?hd (cs := #[.slice A0 l0.length c0]) (t := 40) ?hr ?_; (case hd => rfl); (case hg => rfl); (case hr => first | (go_simp; done) | (go_simp; rfl)); intro gb262 hg w4 hbox hb; have n0_ := Aside0.mk (below_step (uB HB) hb); have n1_ := Aside0.mk (hbox); have n2_ := Aside0.mk ((by rw [hg]; exact (below_size (uB HB)) : w.heap.size ≤ gb262)); have n3_ := Aside0.mk ((by rw [hg]; exact (below_size (uB HB)) : w.heap.size ≤ gb262)); clear HB; have HB := n0_; have BK262 := n1_; have GW262 := n2_; have GE262 := n3_; clear n0_ n1_ n2_ n3_; clear hb hbox hg))
   have n0_ := Aside0.mk (blk_drew BK262.out)
   have n1_ := Aside0.mk (below_drew1 HB.out)
   clear BK262
   clear HB
   have BK262 := n0_
   have HB := n1_
   clear n0_ n1_
   refine start_ (n := 6) (S := fun w' => w'.cell? ⟨gb262, 0, none⟩ = some (.slice A0 l0.length c0)) (ds := []) #[false, false, false, false, false, false] (by kernel_rfl) rfl rfl ((blk_cell BK262.out 0).trans rfl) (fun hHeld => ?_)
   generalize w4.drew = w5 at BK262 HB hHeld ⊢
   refine take_ (i := 1) (N := some 13) (v := ?_) (a' := ?_) #[false, true, false, false, false, false] rfl rfl (by kernel_rfl) (fun _ _ _ h => h) (Or.inl ⟨by rfl, ?_⟩) hHeld ?_ ?_
   rotate_left
   ·
    intro w' s0
    go_simp
    with_reducible rfl
   rotate_left
   ·
    simp only [Act.put, List.setIfInBounds_toArray, List.set_cons_zero, List.set_cons_succ, i64_w, i32_w]
    rfl
   refine pure_ (i := 2) (N := some 14) (v := ?_) (a' := ?_) #[false, true, true, false, false, false] rfl rfl (by kernel_rfl) (fun _ _ _ h => h) (Or.inl ⟨by rfl, ?_⟩) ?_ ?_
   rotate_left
   ·
    intro w'
    go_simp
    with_reducible rfl
   rotate_left
   ·
    simp only [Act.put, List.setIfInBounds_toArray, List.set_cons_zero, List.set_cons_succ, i64_w, i32_w]
    rfl
   refine join_ (σ := Value × Value) 1 #[true, true, true, true, true, false] (fun s_ => [(12, s_.1), (15, s_.2), (3, s_.1)]) (fun s_ w' => (w'.cell? ⟨gb262, 0, none⟩ = some (.slice A0 l0.length c0)) ∧ (Kd.S (Kd.slice 3 (Kd.int .i64)) 23 w' w.heap.size (fun k_ => some k_ ≠ (s_.2 : Value).ownBlock) s_.1 y263) ∧ (Kd.R (Kd.int .i64) 3 w' w.heap.size (fun _ => True) s_.2 y266) ∧ (w'.heap[gb262]? = some (.cells #[.slice A0 l0.length c0] 40 (0, 0))) ∧ (Below w.heap.size w w')) ?_ ?_
   rotate_left
   ·
    intro hCont
    refine two_ (i := 0) (j := 3) (Ni := some 12) (Nj := some 15) #[true, true, true, false, false, false] #[false, true, true, true, false, false] rfl rfl rfl rfl (by kernel_rfl) (by decide) (by decide) (fun K hK => ?_) (fun K hK => ?_)
    ·
     skip
     refine Kd.S_lit_step (Kd.slice 3 (Kd.int .i64)) _ 23 ?hg (N := 12) ?hd (xs := ([] : List (List Int))) (inner := []) (ok := fun _ => True) (okp := fun _ => True) ?hr ?hp (fun _ hk => hk) trivial (Below.refl _ _) (Nat.le_refl _) (by simp) ?_; (case hd => rfl); (case hg => rfl); (case hr => first | (go_simp; done) | (go_simp; rfl)); (case hp => exact (Reps.none _ _))
     intro v264 w6 ho7 hb hg_ hnew_
     clear hg_ hnew_
     (first | rw [← Ny263.out] at ho7 | (simp only [Int.reduceToNat] at ho7; rw [← Ny263.out] at ho7))
     have n0_ := Aside0.mk (Kd.S_lower ho7 (below_size (by repeat (first | (with_reducible first | exact HB.out | apply below_alloc | apply pw_below_drewN | apply below_drew1 | refine below_set ?_ GE262.out) | exact HB.out))))
     have n1_ := Aside0.mk (blk_below (g := gb262) (o := .cells #[.slice A0 l0.length c0] 40 (0, 0)) (uK BK262) hb)
     have n2_ := Aside0.mk (below_step (by repeat (first | (with_reducible first | exact HB.out | apply below_alloc | apply pw_below_drewN | apply below_drew1 | refine below_set ?_ GE262.out) | exact HB.out)) hb)
     clear BK262
     clear HB
     have HO265 := n0_
     have BK262 := n1_
     have HB := n2_
     clear n0_ n1_ n2_
     clear hb ho7
     refine hK.out _ _ ((blk_cell BK262.out 0).trans rfl) (fun hHeld => ?_)
     clear hK K
     refine norm_ (a' := ?_) ?_ ?_
     rotate_left
     ·
      show Act.put _ (some 12) _ = _
      simp only [Act.put, List.setIfInBounds_toArray, List.set_cons_zero, List.set_cons_succ, i64_w, i32_w]
      rfl
     refine pure_ (i := 4) (N := some 3) (v := ?_) (a' := ?_) #[true, true, true, false, true, false] rfl rfl (by kernel_rfl) (fun _ _ _ h => h) (Or.inl ⟨by rfl, ?_⟩) ?_ ?_
     rotate_left
     ·
      intro w'
      go_simp
      with_reducible rfl
     rotate_left
     ·
      simp only [Act.put, List.setIfInBounds_toArray, List.set_cons_zero, List.set_cons_succ, i64_w, i32_w]
      rfl
     refine one_ (i := 3) (N := some 15) #[true, true, true, true, true, false] rfl rfl (by kernel_rfl) (by decide) (fun K hK => ?_)
     refine Kd.R_make_step (Kd.int .i64) _ 3 (by rfl) (N := 15) rfl 23 _ _ rfl (l0.length : Int) rfl rfl Try.underlying23 (.int .i64 0) 8 info3 rfl (by decide) (by omega) 0 (ok := fun _ => True) (okp := fun _ => True) rfl (fun _ hk => hk) trivial (of_decide_eq_true (by first | (with_reducible assumption) | assumption)) (Nat.le_trans (Nat.mul_le_mul_right _ (of_decide_eq_true (by first | (with_reducible assumption) | assumption) : (l0.length : Int).toNat ≤ 35184372088832)) (by omega)) (Below.refl _ _) (Nat.le_refl _) ?_
     intro v267 w8 ho9 hb hg_ hnew_
     clear hg_ hnew_
     (first | rw [← Ny266.out] at ho9 | (simp only [Int.reduceToNat] at ho9; rw [← Ny266.out] at ho9))
     have n0_ := Aside0.mk (Kd.S_elder' (by (with_reducible repeat (first | apply Kd.S_alloc | apply Kd.S_drewN | apply Kd.S_drew)); exact HO265.out) (Kd.R_base ho9) hb)
     have n1_ := Aside0.mk (Kd.R_lower ho9 (below_size (by repeat (first | (with_reducible first | exact HB.out | apply below_alloc | apply pw_below_drewN | apply below_drew1 | refine below_set ?_ GE262.out) | exact HB.out))))
     have n2_ := Aside0.mk (blk_below (g := gb262) (o := .cells #[.slice A0 l0.length c0] 40 (0, 0)) (uK BK262) hb)
     have n3_ := Aside0.mk (below_step (by repeat (first | (with_reducible first | exact HB.out | apply below_alloc | apply pw_below_drewN | apply below_drew1 | refine below_set ?_ GE262.out) | exact HB.out)) hb)
     clear HO265
     clear BK262
     clear HB
     have HO265 := n0_
     have HO268 := n1_
     have BK262 := n2_
     have HB := n3_
     clear n0_ n1_ n2_ n3_
     clear hb ho9
     refine hK.out _ _ ((blk_cell BK262.out 0).trans rfl) (fun hHeld => ?_)
     clear hK K
     refine norm_ (a' := ?_) ?_ ?_
     rotate_left
     ·
      show Act.put _ (some 15) _ = _
      simp only [Act.put, List.setIfInBounds_toArray, List.set_cons_zero, List.set_cons_succ, i64_w, i32_w]
      rfl
     exact norm_ (by simp only [putAll, Act.put, List.setIfInBounds_toArray, List.set_cons_zero, List.set_cons_succ]) (hCont (v264, v267) _ ⟨hHeld, (by (with_reducible repeat (first | apply Kd.S_alloc | apply Kd.S_drewN | apply Kd.S_drew)); exact Kd.S_mono HO265.out (fun _ hk => hk.2)), (uR HO268), (uK BK262), (by repeat (first | (with_reducible first | exact HB.out | apply below_alloc | apply pw_below_drewN | apply below_drew1 | refine below_set ?_ GE262.out) | exact HB.out))⟩)
    ·
     skip
     refine Kd.R_make_step (Kd.int .i64) _ 3 (by rfl) (N := 15) rfl 23 _ _ rfl (l0.length : Int) rfl rfl Try.underlying23 (.int .i64 0) 8 info3 rfl (by decide) (by omega) 0 (ok := fun _ => True) (okp := fun _ => True) rfl (fun _ hk => hk) trivial (of_decide_eq_true (by first | (with_reducible assumption) | assumption)) (Nat.le_trans (Nat.mul_le_mul_right _ (of_decide_eq_true (by first | (with_reducible assumption) | assumption) : (l0.length : Int).toNat ≤ 35184372088832)) (by omega)) (Below.refl _ _) (Nat.le_refl _) ?_
     intro v267 w6 ho7 hb hg_ hnew_
     clear hg_ hnew_
     (first | rw [← Ny266.out] at ho7 | (simp only [Int.reduceToNat] at ho7; rw [← Ny266.out] at ho7))
     have n0_ := Aside0.mk (Kd.R_lower ho7 (below_size (by repeat (first | (with_reducible first | exact HB.out | apply below_alloc | apply pw_below_drewN | apply below_drew1 | refine below_set ?_ GE262.out) | exact HB.out))))
     have n1_ := Aside0.mk (blk_below (g := gb262) (o := .cells #[.slice A0 l0.length c0] 40 (0, 0)) (uK BK262) hb)
     have n2_ := Aside0.mk (below_step (by repeat (first | (with_reducible first | exact HB.out | apply below_alloc | apply pw_below_drewN | apply below_drew1 | refine below_set ?_ GE262.out) | exact HB.out)) hb)
     clear BK262
     clear HB
     have HO268 := n0_
     have BK262 := n1_
     have HB := n2_
     clear n0_ n1_ n2_
     clear hb ho7
     refine hK.out _ _ ((blk_cell BK262.out 0).trans rfl) (fun hHeld => ?_)
     clear hK K
     refine norm_ (a' := ?_) ?_ ?_
     rotate_left
     ·
      show Act.put _ (some 15) _ = _
      simp only [Act.put, List.setIfInBounds_toArray, List.set_cons_zero, List.set_cons_succ, i64_w, i32_w]
      rfl
     refine one_ (i := 0) (N := some 12) #[true, true, true, true, false, false] rfl rfl (by kernel_rfl) (by decide) (fun K hK => ?_)
     refine Kd.S_lit_step (Kd.slice 3 (Kd.int .i64)) _ 23 ?hg (N := 12) ?hd (xs := ([] : List (List Int))) (inner := []) (ok := fun _ => True) (okp := fun _ => True) ?hr ?hp (fun _ hk => hk) trivial (Below.refl _ _) (Nat.le_refl _) (by simp) ?_; (case hd => rfl); (case hg => rfl); (case hr => first | (go_simp; done) | (go_simp; rfl)); (case hp => exact (Reps.none _ _))
     intro v264 w8 ho9 hb hg_ hnew_
     clear hg_ hnew_
     (first | rw [← Ny263.out] at ho9 | (simp only [Int.reduceToNat] at ho9; rw [← Ny263.out] at ho9))
     have n0_ := Aside0.mk (Kd.R_below (uR HO268) hb)
     have n1_ := Aside0.mk (Kd.S_lower (Kd.S_new' ho9 (Kd.R_lt (uR HO268))) (below_size (by repeat (first | (with_reducible first | exact HB.out | apply below_alloc | apply pw_below_drewN | apply below_drew1 | refine below_set ?_ GE262.out) | exact HB.out))))
     have n2_ := Aside0.mk (blk_below (g := gb262) (o := .cells #[.slice A0 l0.length c0] 40 (0, 0)) (uK BK262) hb)
     have n3_ := Aside0.mk (below_step (by repeat (first | (with_reducible first | exact HB.out | apply below_alloc | apply pw_below_drewN | apply below_drew1 | refine below_set ?_ GE262.out) | exact HB.out)) hb)
     clear HO268
     clear BK262
     clear HB
     have HO268 := n0_
     have HO265 := n1_
     have BK262 := n2_
     have HB := n3_
     clear n0_ n1_ n2_ n3_
     clear hb ho9
     refine hK.out _ _ ((blk_cell BK262.out 0).trans rfl) (fun hHeld => ?_)
     clear hK K
     refine norm_ (a' := ?_) ?_ ?_
     rotate_left
     ·
      show Act.put _ (some 12) _ = _
      simp only [Act.put, List.setIfInBounds_toArray, List.set_cons_zero, List.set_cons_succ, i64_w, i32_w]
      rfl
     refine pure_ (i := 4) (N := some 3) (v := ?_) (a' := ?_) #[true, true, true, true, true, false] rfl rfl (by kernel_rfl) (fun _ _ _ h => h) (Or.inl ⟨by rfl, ?_⟩) ?_ ?_
     rotate_left
     ·
      intro w'
      go_simp
      with_reducible rfl
     rotate_left
     ·
      simp only [Act.put, List.setIfInBounds_toArray, List.set_cons_zero, List.set_cons_succ, i64_w, i32_w]
      rfl
     exact norm_ (by simp only [putAll, Act.put, List.setIfInBounds_toArray, List.set_cons_zero, List.set_cons_succ]) (hCont (v264, v267) _ ⟨hHeld, (by (with_reducible repeat (first | apply Kd.S_alloc | apply Kd.S_drewN | apply Kd.S_drew)); exact Kd.S_mono HO265.out (fun _ hk => hk.2)), (uR HO268), (uK BK262), (by repeat (first | (with_reducible first | exact HB.out | apply below_alloc | apply pw_below_drewN | apply below_drew1 | refine below_set ?_ GE262.out) | exact HB.out))⟩)
   rintro ⟨v264, v267⟩ w10 ⟨hS_, h0_, h1_, h2_, h3_⟩
   have n0_ : Aside0 (Kd.S (Kd.slice 3 (Kd.int .i64)) 23 w10 w.heap.size (fun k_ => some k_ ≠ (v267 : Value).ownBlock) v264 y263) := ⟨h0_⟩
   have n1_ : Aside0 (Kd.R (Kd.int .i64) 3 w10 w.heap.size (fun _ => True) v267 y266) := ⟨h1_⟩
   have n2_ : Aside0 (w10.heap[gb262]? = some (.cells #[.slice A0 l0.length c0] 40 (0, 0))) := ⟨h2_⟩
   have n3_ : Aside0 (Below w.heap.size w w10) := ⟨h3_⟩
   clear BK262
   clear HB
   clear h0_ h1_ h2_ h3_
   have HO265 := n0_
   have HO268 := n1_
   have BK262 := n2_
   have HB := n3_
   clear n0_ n1_ n2_ n3_
   have hHeld : w10.cell? ⟨gb262, 0, none⟩ = some (.slice A0 l0.length c0) := hS_
   refine norm_ (a' := ?_) ?_ ?_
   rotate_left
   ·
    simp only [putAll, Act.put, List.setIfInBounds_toArray, List.set_cons_zero, List.set_cons_succ]
    rfl
   refine pure_ (i := 5) (N := some 4) (v := ?_) (a' := ?_) #[true, true, true, true, true, true] rfl rfl (by kernel_rfl) (fun _ _ _ h => h) (Or.inl ⟨by rfl, ?_⟩) ?_ ?_
   rotate_left
   ·
    intro w'
    go_simp
    with_reducible rfl
   rotate_left
   ·
    simp only [Act.put, List.setIfInBounds_toArray, List.set_cons_zero, List.set_cons_succ, i64_w, i32_w]
    rfl
   refine done_ (by kernel_rfl) ?_
   obtain ⟨Ao11, co11, eo11⟩ := Kd.R_slice HO268.out
   subst eo11
   try go_wp2
   go_loopg [18] k (fun kq v18 w' => ∃ (x4_1 : List Int) (x18_1 : Int), v18 = .int .i64 x18_1 ∧ Aside0 (impl_groups.l0 kq y263 x4_1 (y266.length : Int) x18_1 l0 = some r) ∧ Aside0 (kq ≤ k) ∧ Aside0 (Kd.S (Kd.slice 3 (Kd.int .i64)) 23 w' w.heap.size (fun k_ => some k_ ≠ ((.slice Ao11 y266.length co11) : Value).ownBlock) v264 y263) ∧ Aside0 (Kd.R (Kd.int .i64) 3 w' w.heap.size (fun _ => True) (.slice Ao11 y266.length co11) x4_1) ∧ Aside0 (w'.heap[gb262]? = some (.cells #[(.slice A0 l0.length c0)] 40 (0, 0))) ∧ Aside0 (Below w.heap.size w w'))
   case atStart => exact ⟨(y266), (0), (by first | rfl | (simp; done) | (simp [*]; done)), H', ⟨Nat.le_refl _⟩, ⟨by (with_reducible repeat (first | apply Kd.S_alloc | apply Kd.S_drewN | apply Kd.S_drew)); exact HO265.out⟩, ⟨by (with_reducible repeat (first | apply Kd.R_alloc | apply Kd.R_drewN | apply Kd.R_drew)); exact HO268.out⟩, ⟨by refine uW ?_; exact BK262.out⟩, ⟨by repeat (first | (with_reducible first | exact HB.out | apply below_alloc | apply pw_below_drewN | apply below_drew1 | refine below_set ?_ GE262.out) | exact HB.out)⟩⟩
   case round =>
    clear H'
    try clear c2
    try clear c2b0
    try clear c2b1
    try clear p2
    try clear c3
    try clear c3b0
    try clear c3b1
    try clear c4
    try clear HO_3
    try clear HO_4
    try clear HO_3
    try clear HO_4
    obtain ⟨x4_1, x18_1, rfl, HA, HK1, HO_3, HO_4, BK262, HB⟩ := hrel
    have hl4_1 := (Kd.R_reads' HO_4.out).1
    rw [hl4_1] at HO_4
    (try simp only [hl4_1])
    (try simp only [hl4_1] at BK262)
    (try simp only [hl4_1] at HO_3)
    cases gk with
    | zero => exact absurd HA.out (by simp [impl_groups.l0])
    | succ k1 =>
     have H := HA.out
     clear HA
     simp only [impl_groups.l0] at H
     by_cases c12 : x18_1 < (y266.length : Int)
     ·
      rw [if_pos c12] at H
      have c12b0 : decide (x18_1 < (y266.length : Int)) = true := decide_eq_true c12
      try (have c12b0_ := c12b0; simp only [hl4_1] at c12b0_)
      try (have c12b0_ := c12b0; simp only [hl4_1] at c12b0_)
      clear c12
      by_cases c13 : 0 ≤ x18_1
      ·
       rw [if_pos c13] at H
       have c13b0 : decide (0 ≤ x18_1) = true := decide_eq_true c13
       clear c13
       by_cases c14 : x18_1 < (x4_1.length : Int)
       ·
        rw [if_pos c14] at H
        have c14b0 : decide (x18_1 < (x4_1.length : Int)) = true := decide_eq_true c14
        try (have c14b0_ := c14b0; simp only [hl4_1] at c14b0_)
        try (have c14b0_ := c14b0; simp only [hl4_1] at c14b0_)
        clear c14
        obtain ⟨y269, hy269⟩ : ∃ y_ : List Int, y_ = (x4_1.set (x18_1 : Int).toNat (-1)) := ⟨_, rfl⟩
        replace H : (impl_groups.l0 k1 y263 y269 (y266.length : Int) (wrap64 (x18_1 + 1)) l0) = some r := by first | (rw [hy269]; with_reducible exact H) | (have H2_ := (Option.bind_some _ _).symm.trans H; rw [hy269]; with_reducible exact H2_) | (have H2_ := (Option.bind_some _ _).symm.trans H; with_reducible exact H2_) | with_reducible exact H | (rw [hy269]; exact H) | exact H
        have Ny269 := Aside0.mk hy269
        clear hy269
        have H' := Aside0.mk H
        clear H
        have p15 : 0 ≤ (x18_1 : Int) := of_decide_eq_true (by first | (with_reducible assumption) | assumption)
        have q15 : (x18_1 : Int) < ((x4_1.length : Int) : Int) := of_decide_eq_true (by first | (with_reducible assumption) | assumption)
        obtain ⟨go15, co15, eo15, gb15, gl15, cl15, HG15⟩ := Kd.R_form HO_4.out (by omega)
        (first | cases eo15 | (injection eo15 with ea_ en_ ec_; (first | subst ea_ | (injection ea_ with ea_; subst ea_)); subst ec_; clear en_))
        have GB15 := Aside0.mk gb15
        have GG15 := Aside0.mk HG15
        clear gb15 gl15 HG15
        obtain ⟨hx15_0, hf15_0⟩ := Kd.R_celln 0 HO_4.out (x18_1 : Int) p15 q15
        replace p15 := eq_true p15
        replace q15 := eq_true q15
        have HP16 := Kd.R_putg HO_4.out (x18_1 : Int) (-1)
        go_wp2_with (first | ((with_reducible refine gate_store (t := 3) (p := 23) rfl ?_); refine store_event (t := 3) (p := 23) (v := ?vo_w17) (w1 := (wr.setCell ⟨go15, (x18_1 : Int).toNat, none⟩ (.int .i64 (-1)))) ?hg ?ho ?hn ?hr ?_; (case ho => rfl); (case hg => rfl); (case hn => rfl); (case hr => first | (go_simp; done) | (go_simp; rfl)); intro w17 hw; have hg : wr.grownBy w17 (some go15) := (by rw [hw]; exact HP16.2); have hp_ : Kd.R (Kd.int .i64) 3 w17 w.heap.size (fun _ => True) (.slice (some ⟨go15, 0, none⟩) x4_1.length co11) y269 := (by rw [hw, Ny269.out]; exact HP16.1); clear HP16; have n0_ := Aside0.mk (Kd.S_after (v := (.slice (some ⟨go15, 0, none⟩) x4_1.length co11)) (v1 := (.slice (some ⟨go15, 0, none⟩) x4_1.length co11)) (ok := (fun _ => True)) (by (with_reducible repeat (first | apply Kd.S_alloc | apply Kd.S_drewN | apply Kd.S_drew)); exact Kd.S_mono HO_3.out (fun _ hk => ⟨trivial, hk⟩)) hg (.inl rfl)); have n1_ := Aside0.mk (hp_); have n2_ := Aside0.mk (blk_grown (g := gb262) (o := .cells #[.slice A0 l0.length c0] 40 (0, 0)) (uK BK262) hg (Kd.R_ne HO_4.out BK262.out (by decide))); have n3_ := Aside0.mk ((by rw [hw]; exact below_set (HB.out) GB15.out : Below w.heap.size w w17)); clear HO_3 HO_4 BK262 HB; have HO_3 := n0_; have HO_4 := n1_; have BK262 := n2_; have HB := n3_; clear n0_ n1_ n2_ n3_; clear hg hw hp_))
        (try simp only [← hl4_1])
        go_roundg k1
        case measure => have := HK1.out; omega
        case rel => exact ⟨(y269), (wrap64 (x18_1 + 1)), (by first | rfl | (simp; done) | (simp [*]; done)), H', ⟨by have := HK1.out; omega⟩, ⟨by (try simp only [hl4_1]); (with_reducible repeat (first | apply Kd.S_alloc | apply Kd.S_drewN | apply Kd.S_drew)); exact Kd.S_mono HO_3.out (fun _ hk => hk.2)⟩, ⟨by (try simp only [hl4_1]); (with_reducible repeat (first | apply Kd.R_alloc | apply Kd.R_drewN | apply Kd.R_drew)); exact HO_4.out⟩, ⟨by (try simp only [hl4_1]); refine uW ?_; exact BK262.out⟩, ⟨by repeat (first | (with_reducible first | exact HB.out | apply below_alloc | apply pw_below_drewN | apply below_drew1 | refine below_set ?_ GE262.out) | exact HB.out)⟩⟩
       ·
        rw [if_neg c14] at H
        exact absurd H (by simp)
      ·
       rw [if_neg c13] at H
       exact absurd H (by simp)
     ·
      rw [if_neg c12] at H
      have c12b0 : decide (x18_1 < (y266.length : Int)) = false := decide_eq_false c12
      try (have c12b0_ := c12b0; simp only [hl4_1] at c12b0_)
      try (have c12b0_ := c12b0; simp only [hl4_1] at c12b0_)
      clear c12
      have H' := Aside0.mk H
      clear H
      have hcz18_0 : wr.cell? ⟨gb262, 0, none⟩ = some (.slice A0 l0.length c0) := (blk_cell BK262.out 0).trans rfl
      have hfz18_0 := blk_frozen BK262.out 0
      go_wp2
      go_loopg [3, 27] k1 (fun kq v3 v27 w' => ∃ (x3_2 : List (List Int)) (x4_2 : List Int) (x27_2 : Int), v27 = .int .i64 x27_2 ∧ Aside0 (impl_groups.l1 kq x3_2 x4_2 (l0.length : Int) x27_2 l0 = some r) ∧ Aside0 (kq ≤ k1) ∧ Aside0 (Kd.S (Kd.slice 3 (Kd.int .i64)) 23 w' w.heap.size (fun k_ => some k_ ≠ ((.slice Ao11 x4_1.length co11) : Value).ownBlock) v3 x3_2) ∧ Aside0 (Kd.R (Kd.int .i64) 3 w' w.heap.size (fun _ => True) (.slice Ao11 x4_1.length co11) x4_2) ∧ Aside0 (w'.heap[gb262]? = some (.cells #[(.slice A0 l0.length c0)] 40 (0, 0))) ∧ Aside0 (Below w.heap.size w w'))
      case atStart => exact ⟨(y263), (x4_1), (0), (by first | rfl | (simp; done) | (simp [*]; done)), H', ⟨Nat.le_refl _⟩, ⟨by (try simp only [hl4_1]); (with_reducible repeat (first | apply Kd.S_alloc | apply Kd.S_drewN | apply Kd.S_drew)); exact HO_3.out⟩, ⟨by (try simp only [hl4_1]); (with_reducible repeat (first | apply Kd.R_alloc | apply Kd.R_drewN | apply Kd.R_drew)); exact HO_4.out⟩, ⟨by (try simp only [hl4_1]); refine uW ?_; exact BK262.out⟩, ⟨by repeat (first | (with_reducible first | exact HB.out | apply below_alloc | apply pw_below_drewN | apply below_drew1 | refine below_set ?_ GE262.out) | exact HB.out)⟩⟩
      case round =>
       clear H'
       try clear c1
       try clear p1
       try clear q1
       try clear hx1
       try clear hf1
       try clear c2
       try clear c2b0
       try clear c2b1
       try clear p2
       try clear c3
       try clear c3b0
       try clear c3b1
       try clear c4
       try clear p6
       try clear c12
       try clear c12b0
       try clear c13
       try clear c13b0
       try clear c14
       try clear c14b0
       try clear p15
       try clear q15
       try clear hx15
       try clear hf15
       try clear hcz18_0
       try clear hfz18_0
       try clear hx15_0
       try clear p15
       try clear p2
       try clear q15
       try clear HO_3
       try clear HO_4
       try clear HO_3
       try clear HO_4
       obtain ⟨x3_2, x4_2, x27_2, rfl, HA, HK2, HO_3, HO_4, BK262, HB⟩ := hrel
       have hl4_2 := (Kd.R_reads' HO_4.out).1
       rw [hl4_2] at HO_4
       (try simp only [hl4_2])
       (try simp only [hl4_2] at BK262)
       (try simp only [hl4_2] at HO_3)
       cases gk with
       | zero => exact absurd HA.out (by simp [impl_groups.l1])
       | succ k2 =>
        have H := HA.out
        clear HA
        simp only [impl_groups.l1] at H
        by_cases c19 : x27_2 < (l0.length : Int)
        ·
         rw [if_pos c19] at H
         have c19b0 : decide (x27_2 < (l0.length : Int)) = true := decide_eq_true c19
         try (have c19b0_ := c19b0; simp only [hl4_1, hl4_2] at c19b0_)
         try (have c19b0_ := c19b0; simp only [hl4_1, hl4_2] at c19b0_)
         clear c19
         by_cases c20 : 0 ≤ x27_2
         ·
          rw [if_pos c20] at H
          have c20b0 : decide (0 ≤ x27_2) = true := decide_eq_true c20
          clear c20
          by_cases c21 : x27_2 < (x4_2.length : Int)
          ·
           rw [if_pos c21] at H
           have c21b0 : decide (x27_2 < (x4_2.length : Int)) = true := decide_eq_true c21
           try (have c21b0_ := c21b0; simp only [hl4_1, hl4_2] at c21b0_)
           try (have c21b0_ := c21b0; simp only [hl4_1, hl4_2] at c21b0_)
           clear c21
           by_cases c22 : (rd x4_2 x27_2) ≥ 0
           ·
            rw [if_pos c22] at H
            have c22b0 : decide (0 ≤ (rd x4_2 x27_2)) = true := decide_eq_true c22
            clear c22
            have H' := Aside0.mk H
            clear H
            have p270 : 0 ≤ (x27_2 : Int) := of_decide_eq_true (by first | (with_reducible assumption) | assumption)
            have q270 : x27_2 < (x4_2.length : Int) := of_decide_eq_true (by first | (with_reducible assumption) | assumption)
            obtain ⟨ad270, e270, hx270_0⟩ := Kd.at_int (Kd.R_reads' HO_4.out).2.2 x27_2 p270 q270
            cases e270
            replace p270 := eq_true p270
            replace q270 := eq_true q270
            go_wp2
            (try simp only [← hl4_2])
            go_roundg k2
            case measure => have := HK1.out; have := HK2.out; omega
            case rel => exact ⟨(x3_2), (x4_2), (wrap64 (x27_2 + 1)), (by first | rfl | (simp; done) | (simp [*]; done)), H', ⟨by have := HK1.out; have := HK2.out; omega⟩, ⟨by (try simp only [hl4_1]); (try simp only [hl4_2]); (with_reducible repeat (first | apply Kd.S_alloc | apply Kd.S_drewN | apply Kd.S_drew)); exact HO_3.out⟩, ⟨by (try simp only [hl4_1]); (try simp only [hl4_2]); (with_reducible repeat (first | apply Kd.R_alloc | apply Kd.R_drewN | apply Kd.R_drew)); exact HO_4.out⟩, ⟨by (try simp only [hl4_1]); (try simp only [hl4_2]); refine uW ?_; exact BK262.out⟩, ⟨by repeat (first | (with_reducible first | exact HB.out | apply below_alloc | apply pw_below_drewN | apply below_drew1 | refine below_set ?_ GE262.out) | exact HB.out)⟩⟩
           ·
            rw [if_neg c22] at H
            have c22b0 : decide (0 ≤ (rd x4_2 x27_2)) = false := decide_eq_false c22
            clear c22
            obtain ⟨y271, hy271⟩ : ∃ y_ : List Int, y_ = (x4_2.set (x27_2 : Int).toNat (x3_2.length : Int)) := ⟨_, rfl⟩
            replace H : (impl_groups.l2 k2 x3_2 y271 (x3_2.length : Int) (l0.length : Int) x27_2 l0 (([x27_2] : List Int))) = some r := by first | (rw [hy271]; with_reducible exact H) | (have H2_ := (Option.bind_some _ _).symm.trans H; rw [hy271]; with_reducible exact H2_) | (have H2_ := (Option.bind_some _ _).symm.trans H; with_reducible exact H2_) | with_reducible exact H | (rw [hy271]; exact H) | exact H
            have Ny271 := Aside0.mk hy271
            clear hy271
            obtain ⟨y272, hy272⟩ : ∃ y_ : List Int, y_ = (([x27_2] : List Int)) := ⟨_, rfl⟩
            replace H : (impl_groups.l2 k2 x3_2 y271 (x3_2.length : Int) (l0.length : Int) x27_2 l0 y272) = some r := by first | (rw [hy272]; with_reducible exact H) | (have H2_ := (Option.bind_some _ _).symm.trans H; rw [hy272]; with_reducible exact H2_) | (have H2_ := (Option.bind_some _ _).symm.trans H; with_reducible exact H2_) | with_reducible exact H | (rw [hy272]; exact H) | exact H
            have Ny272 := Aside0.mk hy272
            clear hy272
            have H' := Aside0.mk H
            clear H
            have p270 : 0 ≤ (x27_2 : Int) := of_decide_eq_true (by first | (with_reducible assumption) | assumption)
            have q270 : x27_2 < (x4_2.length : Int) := of_decide_eq_true (by first | (with_reducible assumption) | assumption)
            obtain ⟨ad270, e270, hx270_0⟩ := Kd.at_int (Kd.R_reads' HO_4.out).2.2 x27_2 p270 q270
            cases e270
            replace p270 := eq_true p270
            replace q270 := eq_true q270
            obtain ⟨Ao24, co24, eo24⟩ := Kd.S_slice HO_3.out
            subst eo24
            have p23 : 0 ≤ (x27_2 : Int) := of_decide_eq_true (by first | (with_reducible assumption) | assumption)
            have q23 : (x27_2 : Int) < ((x4_2.length : Int) : Int) := of_decide_eq_true (by first | (with_reducible assumption) | assumption)
            obtain ⟨go23, co23, eo23, gb23, gl23, cl23, HG23⟩ := Kd.R_form HO_4.out (by omega)
            (first | cases eo23 | (injection eo23 with ea_ en_ ec_; (first | subst ea_ | (injection ea_ with ea_; subst ea_)); subst ec_; clear en_))
            have GB23 := Aside0.mk gb23
            have GG23 := Aside0.mk HG23
            clear gb23 gl23 HG23
            (first | simp only [add_plain] at hx270_0 | skip)
            obtain ⟨hx23_0, hf23_0⟩ := Kd.R_celln 0 HO_4.out (x27_2 : Int) p23 q23
            replace p23 := eq_true p23
            replace q23 := eq_true q23
            have HP25 := Kd.R_putg HO_4.out (x27_2 : Int) (x3_2.length : Int)
            go_wp2_with (first | ((with_reducible refine gate_store (t := 3) (p := 40) rfl ?_); refine store_event (t := 3) (p := 40) (v := ?vo_w26) (w1 := (wr.setCell ⟨go23, (x27_2 : Int).toNat, none⟩ (.int .i64 (x3_2.length : Int)))) ?hg ?ho ?hn ?hr ?_; (case ho => rfl); (case hg => rfl); (case hn => rfl); (case hr => first | (go_simp; done) | (go_simp; rfl)); intro w26 hw; have hg : wr.grownBy w26 (some go23) := (by rw [hw]; exact HP25.2); have hp_ : Kd.R (Kd.int .i64) 3 w26 w.heap.size (fun _ => True) (.slice (some ⟨go23, 0, none⟩) x4_2.length co11) y271 := (by rw [hw, Ny271.out]; exact HP25.1); clear HP25; have n0_ := Aside0.mk (Kd.S_after (v := (.slice (some ⟨go23, 0, none⟩) x4_2.length co11)) (v1 := (.slice (some ⟨go23, 0, none⟩) x4_2.length co11)) (ok := (fun _ => True)) (by (with_reducible repeat (first | apply Kd.S_alloc | apply Kd.S_drewN | apply Kd.S_drew)); exact Kd.S_mono HO_3.out (fun _ hk => ⟨trivial, hk⟩)) hg (.inl rfl)); have n1_ := Aside0.mk (hp_); have n2_ := Aside0.mk (blk_grown (g := gb262) (o := .cells #[.slice A0 l0.length c0] 40 (0, 0)) (uK BK262) hg (Kd.R_ne HO_4.out BK262.out (by decide))); have n3_ := Aside0.mk ((by rw [hw]; exact below_set (HB.out) GB23.out : Below w.heap.size w w26)); clear HO_3 HO_4 BK262 HB; have HO_3 := n0_; have HO_4 := n1_; have BK262 := n2_; have HB := n3_; clear n0_ n1_ n2_ n3_; clear hg hw hp_) | ((with_reducible refine gate_dst (N := 42) rfl ?_); refine Kd.R_lit (Kd.int .i64) _ 3 ?hg (N := 42) ?hd (xs := ([x27_2] : List Int)) (inner := [.int .i64 x27_2]) (ok := fun _ => True) (okp := fun _ => True) ?hr ?hp (fun _ hk => hk) trivial (Below.refl _ _) (Nat.le_refl _) (by simp) ?_; (case hd => rfl); (case hg => rfl); (case hr => first | (go_simp; done) | (go_simp; rfl)); (case hp => exact (Reps.one (show Kd.M (Kd.int .i64) _ _ _ x27_2 [.int .i64 x27_2] from rfl) (Reps.none _ _))); intro v273 w27 ho28 hb hg_ hnew_; clear hg_ hnew_; (first | rw [← Ny272.out] at ho28 | (simp only [Int.reduceToNat] at ho28; rw [← Ny272.out] at ho28)); have n0_ := Aside0.mk (Kd.S_elder' (by (with_reducible repeat (first | apply Kd.S_alloc | apply Kd.S_drewN | apply Kd.S_drew)); exact HO_3.out) (Kd.R_base ho28) hb); have n1_ := Aside0.mk (Kd.R_elder' (uR HO_4) (Kd.R_base ho28) hb); have n2_ := Aside0.mk (Kd.R_lower (Kd.R_new' ho28 (Kd.R_lt (uR HO_4))) (below_size (by repeat (first | (with_reducible first | exact HB.out | apply below_alloc | apply pw_below_drewN | apply below_drew1 | refine below_set ?_ GE262.out) | exact HB.out)))); have n3_ := Aside0.mk (blk_below (g := gb262) (o := .cells #[.slice A0 l0.length c0] 40 (0, 0)) (uK BK262) hb); have n4_ := Aside0.mk (below_step (by repeat (first | (with_reducible first | exact HB.out | apply below_alloc | apply pw_below_drewN | apply below_drew1 | refine below_set ?_ GE262.out) | exact HB.out)) hb); clear HO_3 HO_4 BK262 HB; have HO_3 := n0_; have HO_4 := n1_; have HO274 := n2_; have BK262 := n3_; have HB := n4_; clear n0_ n1_ n2_ n3_ n4_; clear hb ho28) | ((with_reducible refine gate_dst (N := 8) rfl ?_); refine box_event ?hg (N := 8) ?hd (cs := #[.slice none 0 0]) (t := 23) ?hr ?_; (case hd => rfl); (case hg => rfl); (case hr => first | (go_simp; done) | (go_simp; rfl)); intro gb275 hg w29 hbox hb; have n0_ := Aside0.mk (Kd.S_below (Kd.S_elderB (by (with_reducible repeat (first | apply Kd.S_alloc | apply Kd.S_drewN | apply Kd.S_drew)); exact HO_3.out) gb275 (Nat.le_of_eq hg.symm)) hb); have n1_ := Aside0.mk (Kd.R_below (uR HO_4) hb); have n2_ := Aside0.mk (Kd.R_below (uR HO274) hb); have n3_ := Aside0.mk (blk_below (g := gb262) (o := .cells #[.slice A0 l0.length c0] 40 (0, 0)) (uK BK262) hb); have n4_ := Aside0.mk (below_step (by repeat (first | (with_reducible first | exact HB.out | apply below_alloc | apply pw_below_drewN | apply below_drew1 | refine below_set ?_ GE262.out) | exact HB.out)) hb); have n5_ := Aside0.mk (hbox); have n6_ := Aside0.mk ((by rw [hg]; exact (below_size (by repeat (first | (with_reducible first | exact HB.out | apply below_alloc | apply pw_below_drewN | apply below_drew1 | refine below_set ?_ GE262.out) | exact HB.out))) : w.heap.size ≤ gb275)); have n7_ := Aside0.mk ((by rw [hg]; exact (below_size (by repeat (first | (with_reducible first | exact HB.out | apply below_alloc | apply pw_below_drewN | apply below_drew1 | refine below_set ?_ GE262.out) | exact HB.out))) : w.heap.size ≤ gb275)); have n8_ := Aside0.mk ((by rw [hg]; exact Nat.ne_of_lt (blk_lt (g := gb262) (o := .cells #[.slice A0 l0.length c0] 40 (0, 0)) (uK BK262)) : gb262 ≠ gb275)); have n9_ := Aside0.mk ((by rw [hg]; exact Nat.ne_of_gt (blk_lt (g := gb262) (o := .cells #[.slice A0 l0.length c0] 40 (0, 0)) (uK BK262)) : gb275 ≠ gb262)); clear HO_3 HO_4 HO274 BK262 HB; have HO_3 := n0_; have HO_4 := n1_; have HO274 := n2_; have BK262 := n3_; have HB := n4_; have BK275 := n5_; have GW275 := n6_; have GE275 := n7_; have NB262_275 := n8_; have NB275_262 := n9_; clear n0_ n1_ n2_ n3_ n4_ n5_ n6_ n7_ n8_ n9_ hb hbox hg; obtain ⟨Ao30, co30, eo30⟩ := Kd.R_slice HO274.out; subst eo30; have hnb31 := NB275_262.out; have hnc31 := NB262_275.out; have hcz32_0 : w29.cell? ⟨gb275, 0, none⟩ = some (.slice none 0 0) := (blk_cell BK275.out 0).trans rfl; have hfz32_0 := blk_frozen BK275.out 0))
            go_loopg [8] k2 (fun kq v8 w' => ∃ (x4_3 : List Int) (td : List Int) (gT : Nat) (vT : Value), v8 = .pointer (some ⟨gT, 0, none⟩) ∧ Aside0 (impl_groups.l2 kq x3_2 x4_3 (x3_2.length : Int) (l0.length : Int) x27_2 l0 td = some r) ∧ Aside0 (kq ≤ k2) ∧ Aside0 (Kd.S (Kd.slice 3 (Kd.int .i64)) 23 w' w.heap.size (fun k_ => (some k_ ≠ ((.slice (some ⟨go23, 0, none⟩) x4_2.length co11) : Value).ownBlock ∧ k_ ≠ gT) ∧ some k_ ≠ (vT : Value).ownBlock) (.slice Ao24 x3_2.length co24) x3_2) ∧ Aside0 (Kd.R (Kd.int .i64) 3 w' w.heap.size (fun _ => True) (.slice (some ⟨go23, 0, none⟩) x4_2.length co11) x4_3) ∧ Aside0 (Kd.Q (Kd.int .i64) 3 w' w.heap.size (fun k_ => some k_ ≠ ((.slice (some ⟨go23, 0, none⟩) x4_2.length co11) : Value).ownBlock) vT td) ∧ Aside0 (w'.heap[gb262]? = some (.cells #[(.slice A0 l0.length c0)] 40 (0, 0))) ∧ Aside0 (w'.heap[gT]? = some (.cells #[vT] 23 (0, 0))) ∧ Aside0 (w.heap.size ≤ gT) ∧ Aside0 (gb262 ≠ gT) ∧ Aside0 (Below w.heap.size w w'))
            case atStart => exact ⟨(y271), (y272), gb275, (.slice Ao30 y272.length co30), rfl, H', ⟨Nat.le_refl _⟩, ⟨by (try simp only [hl4_1]); (try simp only [hl4_2]); (with_reducible repeat (first | apply Kd.S_alloc | apply Kd.S_drewN | apply Kd.S_drew)); exact Kd.S_mono (Kd.S_far (p := ⟨gb275, 0, none⟩) (Kd.S_mono HO_3.out (fun k_ hk => (⟨hk, hk.2⟩ : _ ∧ k_ ≠ gb275))) (fun _ hk => hk.2) (.slice Ao30 y272.length co30)) (fun _ hk => ⟨⟨hk.1.1.1.2, hk.1.2⟩, hk.1.1.2⟩)⟩, ⟨by (try simp only [hl4_1]); (try simp only [hl4_2]); (with_reducible repeat (first | apply Kd.R_alloc | apply Kd.R_drewN | apply Kd.R_drew)); exact Kd.R_mono (Kd.R_far (p := ⟨gb275, 0, none⟩) (Kd.R_types HO_4.out BK275.out (by decide)) (fun _ hk => hk.2) (.slice Ao30 y272.length co30)) (fun _ hk => trivial)⟩, ⟨by (try simp only [hl4_1]); (try simp only [hl4_2]); (with_reducible repeat (first | apply Kd.R_alloc | apply Kd.R_drewN | apply Kd.R_drew)); exact Kd.Q_of_R (Kd.R_mono (Kd.R_far (p := ⟨gb275, 0, none⟩) (Kd.R_types HO274.out BK275.out (by decide)) (fun _ hk => hk.2) (.slice Ao30 y272.length co30)) (fun _ hk => hk.1.2))⟩, ⟨by (try simp only [hl4_1]); (try simp only [hl4_2]); refine uW ?_; refine blk_far ?_ NB262_275.out _; refine uW ?_; exact BK262.out⟩, ⟨by (try simp only [hl4_1]); (try simp only [hl4_2]); refine uW ?_; refine blk_put (cs := #[.slice none 0 0]) ?_ 0 _ rfl; refine uW ?_; exact BK275.out⟩, GE275, NB262_275, ⟨(by repeat (first | (with_reducible first | exact HB.out | apply below_alloc | apply pw_below_drewN | apply below_drew1 | refine below_set ?_ GE262.out | refine below_set ?_ GE275.out) | exact HB.out))⟩⟩
            case round =>
             clear H'
             try clear c1
             try clear p1
             try clear q1
             try clear hx1
             try clear hf1
             try clear c2
             try clear c2b0
             try clear c2b1
             try clear p2
             try clear q2
             try clear c3
             try clear c3b0
             try clear c3b1
             try clear c12
             try clear c12b0
             try clear c13
             try clear c13b0
             try clear c14
             try clear c14b0
             try clear p15
             try clear q15
             try clear c19
             try clear c19b0
             try clear c20
             try clear c20b0
             try clear c21
             try clear c21b0
             try clear c22
             try clear c22b0
             try clear p23
             try clear q23
             try clear hcz18_0
             try clear hcz32_0
             try clear hfz18_0
             try clear hfz32_0
             try clear hx15_0
             try clear hx23_0
             try clear hx270_0
             try clear p270
             try clear q270
             try clear HO_3
             try clear HO_4
             try clear HO274
             try clear BK262
             try clear BK275
             try clear HB
             try clear GW275
             try clear GE275
             try clear NB262_275
             try clear NB275_262
             try clear HO_3
             try clear HO_4
             obtain ⟨x4_3, td, gT, vT, rfl, HA, HK3, HO_3, HO_4, HOT, BK262, BKT, GET, NBT, HB⟩ := hrel
             have hl4_3 := (Kd.R_reads' HO_4.out).1
             rw [hl4_3] at HO_4
             (try simp only [hl4_3])
             (try simp only [hl4_3] at BK262)
             (try simp only [hl4_3] at BKT)
             (try simp only [hl4_3] at HO_3)
             (try simp only [hl4_3] at HOT)
             cases gk with
             | zero => exact absurd HA.out (by simp [impl_groups.l2])
             | succ k3 =>
              have H := HA.out
              clear HA
              simp only [impl_groups.l2] at H
              obtain ⟨At, ct, et, hct⟩ := Kd.Q_slice HOT.out
              subst et
              have HCT := Aside0.mk hct
              clear hct
              by_cases c33 : (td.length : Int) > 0
              ·
               rw [if_pos c33] at H
               have c33b0 : decide (0 < (td.length : Int)) = true := decide_eq_true c33
               try (have c33b0_ := c33b0; simp only [hl4_1, hl4_2, hl4_3] at c33b0_)
               have c33b1 : decide (0 < td.length) = true := decide_eq_true (by omega)
               try (have c33b1_ := c33b1; simp only [hl4_1, hl4_2, hl4_3] at c33b1_)
               clear c33
               have H' := Aside0.mk H
               clear H
               have hnb34 := NBT.out
               have hcz35_0 : wr.cell? ⟨gT, 0, none⟩ = some (.slice At td.length ct) := (blk_cell BKT.out 0).trans rfl
               have hfz35_0 := blk_frozen BKT.out 0
               have hcz36_0 : wr.cell? ⟨gb262, 0, none⟩ = some (.slice A0 l0.length c0) := (blk_cell BK262.out 0).trans rfl
               have hfz36_0 := blk_frozen BK262.out 0
               go_wp2
               go_loopg [50] k3 (fun kq v50 w' => ∃ (x4_4 : List Int) (x50_4 : Int) (td4 : List Int) (vT4 : Value), v50 = .int .i64 x50_4 ∧ Aside0 (impl_groups.l3 kq x3_2 x4_4 (x3_2.length : Int) (l0.length : Int) x27_2 (l0.length : Int) x50_4 l0 td4 = some r) ∧ Aside0 (kq ≤ k3) ∧ Aside0 (Kd.S (Kd.slice 3 (Kd.int .i64)) 23 w' w.heap.size (fun k_ => (some k_ ≠ ((.slice (some ⟨go23, 0, none⟩) x4_3.length co11) : Value).ownBlock ∧ k_ ≠ gT) ∧ some k_ ≠ (vT4 : Value).ownBlock) (.slice Ao24 x3_2.length co24) x3_2) ∧ Aside0 (Kd.R (Kd.int .i64) 3 w' w.heap.size (fun _ => True) (.slice (some ⟨go23, 0, none⟩) x4_3.length co11) x4_4) ∧ Aside0 (Kd.Q (Kd.int .i64) 3 w' w.heap.size (fun k_ => some k_ ≠ ((.slice (some ⟨go23, 0, none⟩) x4_3.length co11) : Value).ownBlock) vT4 td4) ∧ Aside0 (w'.heap[gb262]? = some (.cells #[(.slice A0 l0.length c0)] 40 (0, 0))) ∧ Aside0 (w'.heap[gT]? = some (.cells #[vT4] 23 (0, 0))) ∧ Aside0 (Below w.heap.size w w'))
               case atStart => exact ⟨(x4_3), (0), td, (.slice At td.length ct), (by first | rfl | (simp; done) | (simp [*]; done)), H', ⟨Nat.le_refl _⟩, ⟨by (try simp only [hl4_1]); (try simp only [hl4_2]); (try simp only [hl4_3]); (with_reducible repeat (first | apply Kd.S_alloc | apply Kd.S_drewN | apply Kd.S_drew)); exact HO_3.out⟩, ⟨by (try simp only [hl4_1]); (try simp only [hl4_2]); (try simp only [hl4_3]); (with_reducible repeat (first | apply Kd.R_alloc | apply Kd.R_drewN | apply Kd.R_drew)); exact HO_4.out⟩, ⟨by (try simp only [hl4_1]); (try simp only [hl4_2]); (try simp only [hl4_3]); (with_reducible repeat (first | apply Kd.Q_alloc | apply Kd.Q_drewN | apply Kd.Q_drew)); exact HOT.out⟩, ⟨by (try simp only [hl4_1]); (try simp only [hl4_2]); (try simp only [hl4_3]); refine uW ?_; exact BK262.out⟩, ⟨by (try simp only [hl4_1]); (try simp only [hl4_2]); (try simp only [hl4_3]); refine uW ?_; exact BKT.out⟩, ⟨(by repeat (first | (with_reducible first | exact HB.out | apply below_alloc | apply pw_below_drewN | apply below_drew1 | refine below_set ?_ GE262.out | refine below_set ?_ GET.out) | exact HB.out))⟩⟩
               case round =>
                clear H'
                try clear c33b0
                try clear c33b1
                try clear hnb34
                try clear hcz35_0
                try clear hfz35_0
                try clear hcz36_0
                try clear hfz36_0
                try clear HO_3
                try clear HO_4
                try clear HOT
                try clear HCT
                try clear BK262
                try clear BKT
                try clear HB
                try clear HO_3
                try clear HO_4
                obtain ⟨x4_4, x50_4, td4, vT4, rfl, HA, HK4, HO_3, HO_4, HOT, BK262, BKT, HB⟩ := hrel
                have hl4_4 := (Kd.R_reads' HO_4.out).1
                rw [hl4_4] at HO_4
                (try simp only [hl4_4])
                (try simp only [hl4_4] at BK262)
                (try simp only [hl4_4] at BKT)
                (try simp only [hl4_4] at HO_3)
                (try simp only [hl4_4] at HOT)
                cases gk with
                | zero => exact absurd HA.out (by simp [impl_groups.l3])
                | succ k4 =>
                 have H := HA.out
                 clear HA
                 simp only [impl_groups.l3] at H
                 obtain ⟨Au, cu, eu, hcu⟩ := Kd.Q_slice HOT.out
                 subst eu
                 have HCU := Aside0.mk hcu
                 clear hcu
                 by_cases c37 : x50_4 < (l0.length : Int)
                 ·
                  rw [if_pos c37] at H
                  have c37b0 : decide (x50_4 < (l0.length : Int)) = true := decide_eq_true c37
                  try (have c37b0_ := c37b0; simp only [hl4_1, hl4_2, hl4_3, hl4_4] at c37b0_)
                  by_cases c38 : 0 ≤ x50_4
                  ·
                   rw [if_pos c38] at H
                   have c38b0 : decide (0 ≤ x50_4) = true := decide_eq_true c38
                   by_cases c39 : x50_4 < (x4_4.length : Int)
                   ·
                    rw [if_pos c39] at H
                    have c39b0 : decide (x50_4 < (x4_4.length : Int)) = true := decide_eq_true c39
                    try (have c39b0_ := c39b0; simp only [hl4_1, hl4_2, hl4_3, hl4_4] at c39b0_)
                    have p279 := c38
                    have q279 := c39
                    obtain ⟨ad279, e279, hx279_0⟩ := Kd.at_int (Kd.R_reads' HO_4.out).2.2 x50_4 p279 q279
                    obtain rfl : (⟨go23, 0, none⟩ : Addr) = ad279 := (by injection e279)
                    (first | simp only [add_plain] at hx279_0 | simp only [add_at] at hx279_0 | simp only [Addr.add, Nat.zero_add] at hx279_0 | skip)
                    replace p279 := eq_true p279
                    replace q279 := eq_true q279
                    by_cases c40 : (rd x4_4 x50_4) < 0
                    ·
                     rw [if_pos c40] at H
                     have c40b0 : decide ((rd x4_4 x50_4) < 0) = true := decide_eq_true c40
                     rw [if_pos c37] at H
                     replace H := Option.bind_eq_some_iff.mp H
                     obtain ⟨t281, A420, H⟩ := H
                     have A42 := Aside0.mk A420
                     clear A420
                     obtain ⟨ad280, A280_0, c280_0, e280, hx280_0, hl280_0, hi280_0⟩ := impl_groups.at_ HR0.out x50_4 c38 c37
                     cases e280
                     replace hx280_0 := (HB.out.cell (World.block_lt_of_cell? w _ hx280_0)).trans hx280_0
                     have HR280_0 := Aside0.mk hi280_0
                     have HC280_0 := Aside0.mk hl280_0
                     clear hi280_0 hl280_0
                     have p280 := eq_true c38
                     have q280 := eq_true c37
                     clear c37 c38 c39 c40
                     have hnb46 := NBT.out
                     have hcz47_0 : wr.cell? ⟨gb262, 0, none⟩ = some (.slice (some ad280) l0.length c0) := (blk_cell BK262.out 0).trans rfl
                     have hfz47_0 := blk_frozen BK262.out 0
                     by_cases c43 : t281 = true
                     ·
                      subst c43
                      rw [if_pos rfl] at H
                      obtain ⟨y282, hy282⟩ : ∃ y_ : List Int, y_ = (x4_4.set (x50_4 : Int).toNat (x3_2.length : Int)) := ⟨_, rfl⟩
                      have Ny282 := Aside0.mk hy282
                      by_cases c45 : td4.length < 17592186044416
                      ·
                       rw [if_pos c45] at H
                       have LMc45 := Aside0.mk c45
                       clear c45
                       obtain ⟨y283, hy283⟩ : ∃ y_ : List Int, y_ = (td4 ++ [x50_4]) := ⟨_, rfl⟩
                       rw [← hy282, ← hy283] at H
                       have Ny283 := Aside0.mk hy283
                       clear hy282 hy283
                       have H' := Aside0.mk H
                       clear H
                       go_wp2_with (first | (go_at_call 62; (with_reducible refine (slices_ContainsFunc_int_int_impl_groupsc1.calls k4 _ _ (impl_groups.row l0 x50_4) gb262 gT (some ad280) c0 l0 Au cu td4 true _ ?side1 ?side2 ?side3 ?side4 ?side5 ?side6 ?side7 ?side8 A42.out).mono ?_); (case side1 => exact (uK BK262)); (case side2 => exact (uK BKT)); (case side3 => exact uC HR280_0 HB); (case side4 => exact HC280_0.out); (case side5 => exact uC HR0 HB); (case side6 => exact HC0.out); (case side7 => exact Kd.C_below (Kd.Q_reads' HOT.out).2.2 (Below.refl _ _)); (case side8 => exact (Kd.Q_reads' HOT.out).2.1); rintro e w48 ⟨rfl, hb⟩; have n0_ := Aside0.mk (Kd.S_below HO_3.out hb); have n1_ := Aside0.mk (Kd.R_below (uR HO_4) hb); have n2_ := Aside0.mk (Kd.Q_below HOT.out hb); have n3_ := Aside0.mk (blk_below (g := gb262) (o := .cells #[.slice (some ad280) l0.length c0] 40 (0, 0)) (uK BK262) hb); have n4_ := Aside0.mk (blk_below (g := gT) (o := .cells #[.slice Au td4.length cu] 23 (0, 0)) (uK BKT) hb); have n5_ := Aside0.mk (below_step (by repeat (first | (with_reducible first | exact HB.out | apply below_alloc | apply pw_below_drewN | apply below_drew1 | refine below_set ?_ GE262.out | refine below_set ?_ GET.out) | exact HB.out)) hb); clear HO_3 HO_4 HOT BK262 BKT HB; have HO_3 := n0_; have HO_4 := n1_; have HOT := n2_; have BK262 := n3_; have BKT := n4_; have HB := n5_; clear n0_ n1_ n2_ n3_ n4_ n5_; (try clear hb); have p44 : 0 ≤ (x50_4 : Int) := of_decide_eq_true (by first | (with_reducible assumption) | assumption); have q44 : (x50_4 : Int) < ((x4_4.length : Int) : Int) := of_decide_eq_true (by first | (with_reducible assumption) | assumption); obtain ⟨hx44_0, hf44_0⟩ := Kd.R_celln 0 HO_4.out (x50_4 : Int) p44 q44; replace p44 := eq_true p44; replace q44 := eq_true q44; have HP49 := Kd.R_putg HO_4.out (x50_4 : Int) (x3_2.length : Int)) | ((with_reducible refine gate_store (t := 3) (p := 69) rfl ?_); refine store_event (t := 3) (p := 69) (v := ?vo_w50) (w1 := (w48.setCell ⟨go23, (x50_4 : Int).toNat, none⟩ (.int .i64 (x3_2.length : Int)))) ?hg ?ho ?hn ?hr ?_; (case ho => rfl); (case hg => rfl); (case hn => rfl); (case hr => first | (go_simp; done) | (go_simp; rfl)); intro w50 hw; have hg : w48.grownBy w50 (some go23) := (by rw [hw]; exact HP49.2); have hp_ : Kd.R (Kd.int .i64) 3 w50 w.heap.size (fun _ => True) (.slice (some ⟨go23, 0, none⟩) x4_4.length co11) y282 := (by rw [hw, Ny282.out]; exact HP49.1); clear HP49; have n0_ := Aside0.mk (Kd.S_mono (Kd.S_after (v := (.slice (some ⟨go23, 0, none⟩) x4_4.length co11)) (v1 := (.slice (some ⟨go23, 0, none⟩) x4_4.length co11)) (ok := (fun k_ => k_ ≠ gT ∧ some k_ ≠ (.slice Au td4.length cu : Value).ownBlock)) (Kd.S_mono HO_3.out (fun _ hk => ⟨⟨hk.1.2, hk.2⟩, hk.1.1⟩)) hg (.inl rfl)) (ok' := (fun k_ => (some k_ ≠ ((.slice (some ⟨go23, 0, none⟩) x4_4.length co11) : Value).ownBlock ∧ k_ ≠ gT) ∧ some k_ ≠ (.slice Au td4.length cu : Value).ownBlock)) (fun _ hk => ⟨⟨hk.2, hk.1.1⟩, hk.1.2⟩)); have n1_ := Aside0.mk (hp_); have n2_ := Aside0.mk (Kd.Q_grown HOT.out hg (fun _ hk => hk)); have n3_ := Aside0.mk (blk_grown (g := gb262) (o := .cells #[.slice (some ad280) l0.length c0] 40 (0, 0)) (uK BK262) hg (Kd.R_ne HO_4.out BK262.out (by decide))); have n4_ := Aside0.mk (blk_grown (g := gT) (o := .cells #[.slice Au td4.length cu] 23 (0, 0)) (uK BKT) hg (Kd.R_ne HO_4.out BKT.out (by decide))); have n5_ := Aside0.mk ((by rw [hw]; exact below_set (HB.out) GB23.out : Below w.heap.size w w50)); clear HO_3 HO_4 HOT BK262 BKT HB; have HO_3 := n0_; have HO_4 := n1_; have HOT := n2_; have BK262 := n3_; have BKT := n4_; have HB := n5_; clear n0_ n1_ n2_ n3_ n4_ n5_ hg hw hp_; have hcz51_0 : w50.cell? ⟨gT, 0, none⟩ = some (.slice Au td4.length cu) := (blk_cell BKT.out 0).trans rfl; have hfz51_0 := blk_frozen BKT.out 0) | ((with_reducible refine gate_builtin (b := .append) (xs := #[.tmp 70, .tmp 72]) rfl ?_); at_builtin; refine Kd.Q_append (Kd.int .i64) (w0 := w) w.heap.size rfl (.tmp 70) (.tmp 72) 23 3 (.int .i64 0) 8 rfl Try.underlying23 info3 rfl (by decide) (by omega) (.slice Au td4.length cu) td4 x50_4 [.int .i64 x50_4] (fun k_ => some k_ ≠ ((.slice (some ⟨go23, 0, none⟩) x4_4.length co11) : Value).ownBlock) (fun _ => False) rfl rfl ?aP (fun _ hk => hk.elim) ?aF ?aO ?aB ?aS ?aL ?_; (case aP => exact rfl); (case aB => exact (by repeat (first | (with_reducible first | exact HB.out | apply below_alloc | apply pw_below_drewN | apply below_drew1 | refine below_set ?_ GE262.out | refine below_set ?_ GET.out) | exact HB.out))); (case aF => exact (fun k_ hk => Kd.fresh' (Kd.R_lt (uR HO_4)) k_ hk)); (case aO => exact HOT.out); (case aS => exact (below_size (by repeat (first | (with_reducible first | exact HB.out | apply below_alloc | apply pw_below_drewN | apply below_drew1 | refine below_set ?_ GE262.out | refine below_set ?_ GET.out) | exact HB.out)))); (case aL => have := LMc45.out; omega); intro v284 w52 ho hb hg hat; rw [← Ny283.out] at ho; have hne_ : (.slice Au td4.length cu : Value).ownBlock ≠ ((.slice (some ⟨go23, 0, none⟩) x4_4.length co11) : Value).ownBlock := (fun e_ => Kd.Q_ok HOT.out go23 (e_.trans rfl) rfl); have n0_ := Aside0.mk (Kd.S_after (v := (.slice Au td4.length cu)) (v1 := v284) (ok := (fun k_ => some k_ ≠ ((.slice (some ⟨go23, 0, none⟩) x4_4.length co11) : Value).ownBlock ∧ k_ ≠ gT)) HO_3.out hg hat); have n1_ := Aside0.mk (Kd.R_grown1 (uR HO_4) rfl hg hne_); have n2_ := Aside0.mk (blk_grown (g := gb262) (o := .cells #[.slice (some ad280) l0.length c0] 40 (0, 0)) (uK BK262) hg (Kd.Q_ne HOT.out BK262.out (by decide))); have n3_ := Aside0.mk (blk_grown (g := gT) (o := .cells #[.slice Au td4.length cu] 23 (0, 0)) (uK BKT) hg (Kd.Q_ne HOT.out BKT.out (by decide))); have n4_ := Aside0.mk (hb); have n5_ := Aside0.mk (ho); clear HO_3 HO_4 BK262 BKT HB HOT hne_; have HO_3 := n0_; have HO_4 := n1_; have BK262 := n2_; have BKT := n3_; have HB := n4_; have HOT := n5_; clear n0_ n1_ n2_ n3_ n4_ n5_ ho hb hg hat; obtain ⟨Av, cv, ev, hcv⟩ := Kd.Q_slice HOT.out; subst ev; have hcz54_0 : w52.cell? ⟨gT, 0, none⟩ = some (.slice Au td4.length cu) := (blk_cell BKT.out 0).trans rfl; have hfz54_0 := blk_frozen BKT.out 0))
                       (try simp only [← hl4_4])
                       go_roundg k4
                       case measure => have := HK1.out; have := HK2.out; have := HK3.out; have := HK4.out; omega
                       case rel => exact ⟨(y282), (wrap64 (x50_4 + 1)), y283, (.slice Av y283.length cv), (by first | rfl | (simp; done) | (simp [*]; done)), H', ⟨by have := HK1.out; have := HK2.out; have := HK3.out; have := HK4.out; omega⟩, ⟨by (try simp only [hl4_1]); (try simp only [hl4_2]); (try simp only [hl4_3]); (try simp only [hl4_4]); (with_reducible repeat (first | apply Kd.S_alloc | apply Kd.S_drewN | apply Kd.S_drew)); exact Kd.S_mono (Kd.S_far (p := ⟨gT, 0, none⟩) HO_3.out (fun _ hk => hk.1.2) (.slice Av y283.length cv)) (fun _ hk => hk)⟩, ⟨by (try simp only [hl4_1]); (try simp only [hl4_2]); (try simp only [hl4_3]); (try simp only [hl4_4]); (with_reducible repeat (first | apply Kd.R_alloc | apply Kd.R_drewN | apply Kd.R_drew)); exact Kd.R_mono (Kd.R_far (p := ⟨gT, 0, none⟩) (Kd.R_types HO_4.out BKT.out (by decide)) (fun _ hk => hk.2) (.slice Av y283.length cv)) (fun _ hk => trivial)⟩, ⟨by (try simp only [hl4_1]); (try simp only [hl4_2]); (try simp only [hl4_3]); (try simp only [hl4_4]); (with_reducible repeat (first | apply Kd.Q_alloc | apply Kd.Q_drewN | apply Kd.Q_drew)); exact Kd.Q_mono (Kd.Q_far (p := ⟨gT, 0, none⟩) (Kd.Q_types HOT.out BKT.out (by decide)) (fun _ hk => hk.2) (.slice Av y283.length cv)) (fun _ hk => hk.1)⟩, ⟨by (try simp only [hl4_1]); (try simp only [hl4_2]); (try simp only [hl4_3]); (try simp only [hl4_4]); refine uW ?_; refine blk_far ?_ NBT.out _; refine uW ?_; exact BK262.out⟩, ⟨by (try simp only [hl4_1]); (try simp only [hl4_2]); (try simp only [hl4_3]); (try simp only [hl4_4]); refine uW ?_; refine blk_put (cs := #[.slice Au td4.length cu]) ?_ 0 _ rfl; refine uW ?_; exact BKT.out⟩, ⟨(by repeat (first | (with_reducible first | exact HB.out | apply below_alloc | apply pw_below_drewN | apply below_drew1 | refine below_set ?_ GE262.out | refine below_set ?_ GET.out) | exact HB.out))⟩⟩
                      ·
                       rw [if_neg c45] at H
                       exact absurd H (by simp)
                     ·
                      replace c43 := Bool.eq_false_iff.mpr c43
                      subst c43
                      rw [if_neg (show ¬ (false = true) by decide)] at H
                      have H' := Aside0.mk H
                      clear H
                      go_wp2_with (first | (go_at_call 62; (with_reducible refine (slices_ContainsFunc_int_int_impl_groupsc1.calls k4 _ _ (impl_groups.row l0 x50_4) gb262 gT (some ad280) c0 l0 Au cu td4 false _ ?side1 ?side2 ?side3 ?side4 ?side5 ?side6 ?side7 ?side8 A42.out).mono ?_); (case side1 => exact (uK BK262)); (case side2 => exact (uK BKT)); (case side3 => exact uC HR280_0 HB); (case side4 => exact HC280_0.out); (case side5 => exact uC HR0 HB); (case side6 => exact HC0.out); (case side7 => exact Kd.C_below (Kd.Q_reads' HOT.out).2.2 (Below.refl _ _)); (case side8 => exact (Kd.Q_reads' HOT.out).2.1); rintro e w57 ⟨rfl, hb⟩; have n0_ := Aside0.mk (Kd.S_below HO_3.out hb); have n1_ := Aside0.mk (Kd.R_below (uR HO_4) hb); have n2_ := Aside0.mk (Kd.Q_below HOT.out hb); have n3_ := Aside0.mk (blk_below (g := gb262) (o := .cells #[.slice (some ad280) l0.length c0] 40 (0, 0)) (uK BK262) hb); have n4_ := Aside0.mk (blk_below (g := gT) (o := .cells #[.slice Au td4.length cu] 23 (0, 0)) (uK BKT) hb); have n5_ := Aside0.mk (below_step (by repeat (first | (with_reducible first | exact HB.out | apply below_alloc | apply pw_below_drewN | apply below_drew1 | refine below_set ?_ GE262.out | refine below_set ?_ GET.out) | exact HB.out)) hb); clear HO_3 HO_4 HOT BK262 BKT HB; have HO_3 := n0_; have HO_4 := n1_; have HOT := n2_; have BK262 := n3_; have BKT := n4_; have HB := n5_; clear n0_ n1_ n2_ n3_ n4_ n5_; (try clear hb)))
                      (try simp only [← hl4_4])
                      go_roundg k4
                      case measure => have := HK1.out; have := HK2.out; have := HK3.out; have := HK4.out; omega
                      case rel => exact ⟨(x4_4), (wrap64 (x50_4 + 1)), td4, (.slice Au td4.length cu), (by first | rfl | (simp; done) | (simp [*]; done)), H', ⟨by have := HK1.out; have := HK2.out; have := HK3.out; have := HK4.out; omega⟩, ⟨by (try simp only [hl4_1]); (try simp only [hl4_2]); (try simp only [hl4_3]); (try simp only [hl4_4]); (with_reducible repeat (first | apply Kd.S_alloc | apply Kd.S_drewN | apply Kd.S_drew)); exact HO_3.out⟩, ⟨by (try simp only [hl4_1]); (try simp only [hl4_2]); (try simp only [hl4_3]); (try simp only [hl4_4]); (with_reducible repeat (first | apply Kd.R_alloc | apply Kd.R_drewN | apply Kd.R_drew)); exact HO_4.out⟩, ⟨by (try simp only [hl4_1]); (try simp only [hl4_2]); (try simp only [hl4_3]); (try simp only [hl4_4]); (with_reducible repeat (first | apply Kd.Q_alloc | apply Kd.Q_drewN | apply Kd.Q_drew)); exact HOT.out⟩, ⟨by (try simp only [hl4_1]); (try simp only [hl4_2]); (try simp only [hl4_3]); (try simp only [hl4_4]); refine uW ?_; exact BK262.out⟩, ⟨by (try simp only [hl4_1]); (try simp only [hl4_2]); (try simp only [hl4_3]); (try simp only [hl4_4]); refine uW ?_; exact BKT.out⟩, ⟨(by repeat (first | (with_reducible first | exact HB.out | apply below_alloc | apply pw_below_drewN | apply below_drew1 | refine below_set ?_ GE262.out | refine below_set ?_ GET.out) | exact HB.out))⟩⟩
                    ·
                     rw [if_neg c40] at H
                     have c40b0 : decide ((rd x4_4 x50_4) < 0) = false := decide_eq_false c40
                     clear c37 c38 c39 c40
                     have H' := Aside0.mk H
                     clear H
                     go_wp2
                     (try simp only [← hl4_4])
                     go_roundg k4
                     case measure => have := HK1.out; have := HK2.out; have := HK3.out; have := HK4.out; omega
                     case rel => exact ⟨(x4_4), (wrap64 (x50_4 + 1)), td4, (.slice Au td4.length cu), (by first | rfl | (simp; done) | (simp [*]; done)), H', ⟨by have := HK1.out; have := HK2.out; have := HK3.out; have := HK4.out; omega⟩, ⟨by (try simp only [hl4_1]); (try simp only [hl4_2]); (try simp only [hl4_3]); (try simp only [hl4_4]); (with_reducible repeat (first | apply Kd.S_alloc | apply Kd.S_drewN | apply Kd.S_drew)); exact HO_3.out⟩, ⟨by (try simp only [hl4_1]); (try simp only [hl4_2]); (try simp only [hl4_3]); (try simp only [hl4_4]); (with_reducible repeat (first | apply Kd.R_alloc | apply Kd.R_drewN | apply Kd.R_drew)); exact HO_4.out⟩, ⟨by (try simp only [hl4_1]); (try simp only [hl4_2]); (try simp only [hl4_3]); (try simp only [hl4_4]); (with_reducible repeat (first | apply Kd.Q_alloc | apply Kd.Q_drewN | apply Kd.Q_drew)); exact HOT.out⟩, ⟨by (try simp only [hl4_1]); (try simp only [hl4_2]); (try simp only [hl4_3]); (try simp only [hl4_4]); refine uW ?_; exact BK262.out⟩, ⟨by (try simp only [hl4_1]); (try simp only [hl4_2]); (try simp only [hl4_3]); (try simp only [hl4_4]); refine uW ?_; exact BKT.out⟩, ⟨(by repeat (first | (with_reducible first | exact HB.out | apply below_alloc | apply pw_below_drewN | apply below_drew1 | refine below_set ?_ GE262.out | refine below_set ?_ GET.out) | exact HB.out))⟩⟩
                   ·
                    rw [if_neg c39] at H
                    exact absurd H (by simp)
                  ·
                   rw [if_neg c38] at H
                   exact absurd H (by simp)
                 ·
                  rw [if_neg c37] at H
                  have c37b0 : decide (x50_4 < (l0.length : Int)) = false := decide_eq_false c37
                  try (have c37b0_ := c37b0; simp only [hl4_1, hl4_2, hl4_3, hl4_4] at c37b0_)
                  clear c37
                  by_cases c58 : 1 ≤ (td4.length : Int)
                  ·
                   rw [if_pos c58] at H
                   have c58b0 := eq_true c58
                   have c58b1 : decide (1 ≤ (td4.length : Int)) = true := decide_eq_true c58
                   have CK58b1_ : Aside0 (1 ≤ (td4.length : Int)) := Aside0.mk (of_decide_eq_true c58b1)
                   try (have c58b1_ := c58b1; simp only [hl4_1, hl4_2, hl4_3, hl4_4] at c58b1_)
                   have CK58b1_ : Aside0 (1 ≤ (td4.length : Int)) := Aside0.mk (of_decide_eq_true c58b1)
                   clear c58
                   obtain ⟨y287, hy287⟩ : ∃ y_ : List Int, y_ = (td4.drop 1) := ⟨_, rfl⟩
                   rw [← hy287] at H
                   have Ny287 := Aside0.mk hy287
                   clear hy287
                   have H' := Aside0.mk H
                   clear H
                   have hcz60_0 : wr.cell? ⟨gT, 0, none⟩ = some (.slice Au td4.length cu) := (blk_cell BKT.out 0).trans rfl
                   have hfz60_0 := blk_frozen BKT.out 0
                   go_wp2_with (first | ((with_reducible refine gate_dst (N := 8) rfl ?_); refine box_event ?hg (N := 8) ?hd (cs := #[.slice none 0 0]) (t := 23) ?hr ?_; (case hd => rfl); (case hg => rfl); (case hr => first | (go_simp; done) | (go_simp; rfl)); intro gU hg w61 hbox hb; have n0_ := Aside0.mk (Kd.S_below (Kd.S_elderB HO_3.out gU (Nat.le_of_eq hg.symm)) hb); have n1_ := Aside0.mk (Kd.R_below (uR HO_4) hb); have n2_ := Aside0.mk (Kd.Q_below HOT.out hb); have n3_ := Aside0.mk (blk_below (g := gb262) (o := .cells #[.slice A0 l0.length c0] 40 (0, 0)) (uK BK262) hb); have n4_ := Aside0.mk (blk_below (g := gT) (o := .cells #[.slice Au td4.length cu] 23 (0, 0)) (uK BKT) hb); have n5_ := Aside0.mk (below_step (by repeat (first | (with_reducible first | exact HB.out | apply below_alloc | apply pw_below_drewN | apply below_drew1 | refine below_set ?_ GE262.out | refine below_set ?_ GET.out) | exact HB.out)) hb); have GEU := Aside0.mk ((by rw [hg]; exact (below_size (by repeat (first | (with_reducible first | exact HB.out | apply below_alloc | apply pw_below_drewN | apply below_drew1 | refine below_set ?_ GE262.out | refine below_set ?_ GET.out) | exact HB.out))) : w.heap.size ≤ gU)); have NBU := Aside0.mk ((by rw [hg]; exact Nat.ne_of_lt (blk_lt (g := gb262) (o := .cells #[.slice A0 l0.length c0] 40 (0, 0)) (uK BK262)) : gb262 ≠ gU)); have NTU := Aside0.mk ((by rw [hg]; exact Nat.ne_of_lt (blk_lt (g := gT) (o := .cells #[.slice Au td4.length cu] 23 (0, 0)) (uK BKT)) : gT ≠ gU)); have n6_ := Aside0.mk hbox; clear HO_3 HO_4 HOT BK262 BKT HB; have HO_3 := n0_; have HO_4 := n1_; have HOT := n2_; have BK262 := n3_; have BKT := n4_; have HB := n5_; have BKU := n6_; clear n0_ n1_ n2_ n3_ n4_ n5_ n6_ hb hbox hg; have hnb62 := NBU.out; have hnb63 := NTU.out; have hcz64_0 : w61.cell? ⟨gU, 0, none⟩ = some (.slice none 0 0) := (blk_cell BKU.out 0).trans rfl; have hfz64_0 := blk_frozen BKU.out 0) | ((with_reducible refine gate_store (t := 23) (p := 8) rfl ?_); refine store_event (t := 23) (p := 8) (v := ?vo_w65) (w1 := (w61.setCell ⟨gU, 0, none⟩ (.slice Au td4.length cu))) ?hg ?ho ?hn ?hr ?_; (case ho => rfl); (case hg => rfl); (case hn => rfl); (case hr => first | (go_simp; done) | (go_simp; rfl)); intro w65 hw; have n0_ := Aside0.mk (show Kd.S (Kd.slice 3 (Kd.int .i64)) 23 w65 w.heap.size (fun k_ => ((some k_ ≠ ((.slice (some ⟨go23, 0, none⟩) x4_4.length co11) : Value).ownBlock ∧ k_ ≠ gU) ∧ some k_ ≠ (.slice Au td4.length cu : Value).ownBlock)) (.slice Ao24 x3_2.length co24) x3_2 from (by rw [hw]; exact Kd.S_mono (Kd.S_far (p := ⟨gU, 0, none⟩) HO_3.out (fun _ hk => hk.2) (.slice Au td4.length cu)) (fun _ hk => ⟨⟨hk.1.1.1, hk.2⟩, hk.1.2⟩))); have n1_ := Aside0.mk (show Kd.R (Kd.int .i64) 3 w65 w.heap.size (fun _ => True) (.slice (some ⟨go23, 0, none⟩) x4_4.length co11) x4_4 from (by rw [hw]; exact Kd.R_mono (Kd.R_far (p := ⟨gU, 0, none⟩) (Kd.R_types HO_4.out BKU.out (by decide)) (fun _ hk => hk.2) (.slice Au td4.length cu)) (fun _ hk => trivial))); have n2_ := Aside0.mk (show Kd.Q (Kd.int .i64) 3 w65 w.heap.size (fun k_ => some k_ ≠ ((.slice (some ⟨go23, 0, none⟩) x4_4.length co11) : Value).ownBlock) (.slice Au td4.length cu) td4 from (by rw [hw]; exact Kd.Q_mono (Kd.Q_far (p := ⟨gU, 0, none⟩) (Kd.Q_types HOT.out BKU.out (by decide)) (fun _ hk => hk.2) (.slice Au td4.length cu)) (fun _ hk => hk.1))); have n3_ := Aside0.mk (show w65.heap[gb262]? = some (.cells #[.slice A0 l0.length c0] 40 (0, 0)) from (by rw [hw]; exact blk_far BK262.out NBU.out _)); have n5_ := Aside0.mk (show w65.heap[gU]? = some (.cells #[.slice Au td4.length cu] 23 (0, 0)) from (by rw [hw]; refine blk_put (cs := #[.slice none 0 0]) ?_ 0 _ rfl; exact BKU.out)); have n6_ := Aside0.mk (show Below w.heap.size w w65 from (by rw [hw]; exact below_set HB.out GEU.out)); clear hw HO_3 HO_4 HOT BK262 BKT BKU HB; have HO_3 := n0_; have HO_4 := n1_; have HOT := n2_; have BK262 := n3_; have BKU := n5_; have HB := n6_; clear n0_ n1_ n2_ n3_ n5_ n6_; have hcz66_0 : w65.cell? ⟨gU, 0, none⟩ = some (.slice Au td4.length cu) := (blk_cell BKU.out 0).trans rfl; have hfz66_0 := blk_frozen BKU.out 0; have q67 : (1 : Int) ≤ ((td4.length : Int) : Int) := of_decide_eq_true (by first | (with_reducible assumption) | assumption); obtain ⟨i067, hi067, _, hsz67, _⟩ := info_parts info3; have hcut67 := cut_from (P := Try.prog) 23 3 .i64 Try.underlying23 hi067 1 hsz67 Au td4.length cu 1 (by omega) q67; have hr67 := Kd.Q_drop (k := (1 : Int).toNat) HOT.out (by omega); obtain ⟨A67, hA67⟩ : ∃ A1, A1 = (if cu = (1 : Int).toNat then Au else (Au : Option Addr).map (·.add ((1 : Int).toNat * 1))) := ⟨_, rfl⟩; obtain ⟨c67, hc67⟩ : ∃ c1, c1 = cu - (1 : Int).toNat := ⟨_, rfl⟩; have hy67 : y287.length = td4.length - (1 : Int).toNat := (by rw [Ny287.out, List.length_drop]; rfl); rw [show td4.drop (1 : Int).toNat = y287 from Ny287.out.symm] at hr67; rw [← hy67, ← hA67, ← hc67] at hcut67; replace hr67 : Kd.Q (Kd.int .i64) 3 w65 w.heap.size (fun k_ => some k_ ≠ ((.slice (some ⟨go23, 0, none⟩) x4_4.length co11) : Value).ownBlock) (.slice A67 y287.length c67) y287 := (by rw [hA67, hc67, hy67]; exact hr67); have HE67 : Aside0 ((Value.slice A67 y287.length c67).ownBlock = (.slice Au td4.length cu : Value).ownBlock) := ⟨by rw [hA67]; split <;> (cases (Au : Option Addr) <;> rfl)⟩; clear hy67 hi067 hsz67 HOT hA67 hc67; have HOT := Aside0.mk hr67; clear hr67; replace q67 := eq_true q67))
                   (try simp only [← hl4_3, ← hl4_4])
                   go_roundg k4
                   case measure => have := HK1.out; have := HK2.out; have := HK3.out; have := HK4.out; omega
                   case rel => exact ⟨(x4_4), y287, gU, (.slice A67 y287.length c67), rfl, H', ⟨by have := HK1.out; have := HK2.out; have := HK3.out; have := HK4.out; omega⟩, ⟨by (try simp only [hl4_1]); (try simp only [hl4_2]); (try simp only [hl4_3]); (try simp only [hl4_4]); (with_reducible repeat (first | apply Kd.S_alloc | apply Kd.S_drewN | apply Kd.S_drew)); exact Kd.S_mono (Kd.S_far (p := ⟨gU, 0, none⟩) HO_3.out (fun _ hk => hk.1.2) (.slice A67 y287.length c67)) (fun _ hk => ⟨hk.1, by rw [HE67.out]; exact hk.2⟩)⟩, ⟨by (try simp only [hl4_1]); (try simp only [hl4_2]); (try simp only [hl4_3]); (try simp only [hl4_4]); (with_reducible repeat (first | apply Kd.R_alloc | apply Kd.R_drewN | apply Kd.R_drew)); exact Kd.R_mono (Kd.R_far (p := ⟨gU, 0, none⟩) (Kd.R_types HO_4.out BKU.out (by decide)) (fun _ hk => hk.2) (.slice A67 y287.length c67)) (fun _ hk => trivial)⟩, ⟨by (try simp only [hl4_1]); (try simp only [hl4_2]); (try simp only [hl4_3]); (try simp only [hl4_4]); (with_reducible repeat (first | apply Kd.Q_alloc | apply Kd.Q_drewN | apply Kd.Q_drew)); exact Kd.Q_mono (Kd.Q_far (p := ⟨gU, 0, none⟩) (Kd.Q_types HOT.out BKU.out (by decide)) (fun _ hk => hk.2) (.slice A67 y287.length c67)) (fun _ hk => hk.1)⟩, ⟨by (try simp only [hl4_1]); (try simp only [hl4_2]); (try simp only [hl4_3]); (try simp only [hl4_4]); refine uW ?_; refine blk_far ?_ NBU.out _; refine uW ?_; exact BK262.out⟩, ⟨by (try simp only [hl4_1]); (try simp only [hl4_2]); (try simp only [hl4_3]); (try simp only [hl4_4]); refine uW ?_; refine blk_put (cs := #[.slice Au td4.length cu]) ?_ 0 _ rfl; refine uW ?_; exact BKU.out⟩, GEU, NBU, ⟨(by repeat (first | (with_reducible first | exact HB.out | apply below_alloc | apply pw_below_drewN | apply below_drew1 | refine below_set ?_ GE262.out | refine below_set ?_ GEU.out) | exact HB.out))⟩⟩
                  ·
                   rw [if_neg c58] at H
                   exact absurd H (by simp)
              ·
               rw [if_neg c33] at H
               have c33b0 : decide (0 < (td.length : Int)) = false := decide_eq_false c33
               try (have c33b0_ := c33b0; simp only [hl4_1, hl4_2, hl4_3, hl4_4] at c33b0_)
               have c33b1 : decide (0 < td.length) = false := decide_eq_false (by omega)
               try (have c33b1_ := c33b1; simp only [hl4_1, hl4_2, hl4_3, hl4_4] at c33b1_)
               clear c33
               by_cases c68 : x3_2.length < 5864062014805
               ·
                rw [if_pos c68] at H
                have LMc68 := Aside0.mk c68
                clear c68
                obtain ⟨y276, hy276⟩ : ∃ y_ : List (List Int), y_ = (x3_2 ++ [[]]) := ⟨_, rfl⟩
                rw [← hy276] at H
                have Ny276 := Aside0.mk hy276
                clear hy276
                have H' := Aside0.mk H
                clear H
                have hcz70_0 : wr.cell? ⟨gT, 0, none⟩ = some (.slice At td.length ct) := (blk_cell BKT.out 0).trans rfl
                have hfz70_0 := blk_frozen BKT.out 0
                go_wp2_with (first | ((with_reducible refine gate_builtin (b := .append) (xs := #[.tmp 76, .tmp 77]) rfl ?_); at_builtin; refine Kd.S_append (Kd.slice 3 (Kd.int .i64)) (w0 := w) w.heap.size rfl (.tmp 76) (.tmp 77) 40 23 (.slice none 0 0) 24 rfl Try.underlying40 info23 rfl (by decide) (by omega) (.slice Ao24 x3_2.length co24) x3_2 [] [.slice none 0 0] (fun k_ => some k_ ≠ ((.slice (some ⟨go23, 0, none⟩) x4_3.length co11) : Value).ownBlock) (fun _ => False) rfl rfl ?aP (fun _ hk => hk.elim) ?aF ?aO ?aB ?aS ?aL ?_; (case aP => first | exact rfl | exact ⟨_, rfl, Kd.R_nil _ _ _ _ _⟩); (case aB => exact (by repeat (first | (with_reducible first | exact HB.out | apply below_alloc | apply pw_below_drewN | apply below_drew1 | refine below_set ?_ GE262.out | refine below_set ?_ GET.out) | exact HB.out))); (case aF => exact (fun k_ hk => Kd.fresh' (Kd.R_lt (uR HO_4)) k_ hk)); (case aO => exact Kd.S_mono HO_3.out (fun k_ hk => ⟨hk.1.1, fun e_ => e_⟩)); (case aS => exact (below_size (by repeat (first | (with_reducible first | exact HB.out | apply below_alloc | apply pw_below_drewN | apply below_drew1 | refine below_set ?_ GE262.out | refine below_set ?_ GET.out) | exact HB.out)))); (case aL => have := LMc68.out; omega); intro v277 w71 ho hb hg hat; rw [← Ny276.out] at ho; have n0_ := Aside0.mk (Kd.R_over' (uR HO_4) (Kd.S_typed HO_3.out) (by decide) hg); have n2_ := Aside0.mk (blk_grown (g := gb262) (o := .cells #[.slice A0 l0.length c0] 40 (0, 0)) (uK BK262) hg (Kd.S_ne HO_3.out BK262.out (by decide))); have n4_ := Aside0.mk (hb); have n5_ := Aside0.mk (ho); clear HO_4 HOT BK262 BKT HB HO_3; have HO_4 := n0_; have BK262 := n2_; have HB := n4_; have HO278 := n5_; clear n0_ n2_ n4_ n5_; clear ho hb hg hat))
                (try simp only [← hl4_2, ← hl4_3])
                go_roundg k3
                case measure => have := HK1.out; have := HK2.out; have := HK3.out; omega
                case rel => exact ⟨(y276), (x4_3), (wrap64 (x27_2 + 1)), (by first | rfl | (simp; done) | (simp [*]; done)), H', ⟨by have := HK1.out; have := HK2.out; have := HK3.out; omega⟩, ⟨by (try simp only [hl4_1]); (try simp only [hl4_2]); (try simp only [hl4_3]); (with_reducible repeat (first | apply Kd.S_alloc | apply Kd.S_drewN | apply Kd.S_drew)); exact Kd.S_mono HO278.out (fun _ hk => hk)⟩, ⟨by (try simp only [hl4_1]); (try simp only [hl4_2]); (try simp only [hl4_3]); (with_reducible repeat (first | apply Kd.R_alloc | apply Kd.R_drewN | apply Kd.R_drew)); exact HO_4.out⟩, ⟨by (try simp only [hl4_1]); (try simp only [hl4_2]); (try simp only [hl4_3]); refine uW ?_; exact BK262.out⟩, ⟨(by repeat (first | (with_reducible first | exact HB.out | apply below_alloc | apply pw_below_drewN | apply below_drew1 | refine below_set ?_ GE262.out | refine below_set ?_ GET.out) | exact HB.out))⟩⟩
               ·
                rw [if_neg c68] at H
                exact absurd H (by simp)
          ·
           rw [if_neg c21] at H
           exact absurd H (by simp)
         ·
          rw [if_neg c20] at H
          exact absurd H (by simp)
        ·
         rw [if_neg c19] at H
         have c19b0 : decide (x27_2 < (l0.length : Int)) = false := decide_eq_false c19
         try (have c19b0_ := c19b0; simp only [hl4_1, hl4_2, hl4_3, hl4_4] at c19b0_)
         try (have c19b0_ := c19b0; simp only [hl4_1, hl4_2, hl4_3, hl4_4] at c19b0_)
         clear c19
         have H' := Aside0.mk H
         clear H
         go_wp2
         go_loopg [82] k2 (fun kq v82 w' => ∃ (x3_3 : List (List Int)) (x82_3 : Int), v82 = .int .i64 x82_3 ∧ Aside0 (impl_groups.l4 kq x3_3 x4_2 (x4_2.length : Int) x82_3 = some r) ∧ Aside0 (kq ≤ k2) ∧ Aside0 (Kd.S (Kd.slice 3 (Kd.int .i64)) 23 w' w.heap.size (fun k_ => some k_ ≠ ((.slice Ao11 x4_2.length co11) : Value).ownBlock) u3 x3_3) ∧ Aside0 (Kd.R (Kd.int .i64) 3 w' w.heap.size (fun _ => True) (.slice Ao11 x4_2.length co11) x4_2) ∧ Aside0 (w'.heap[gb262]? = some (.cells #[(.slice A0 l0.length c0)] 40 (0, 0))) ∧ Aside0 (Below w.heap.size w w'))
         case atStart => exact ⟨(x3_2), (0), (by first | rfl | (simp; done) | (simp [*]; done)), H', ⟨Nat.le_refl _⟩, ⟨by (try simp only [hl4_1]); (try simp only [hl4_2]); (with_reducible repeat (first | apply Kd.S_alloc | apply Kd.S_drewN | apply Kd.S_drew)); exact HO_3.out⟩, ⟨by (try simp only [hl4_1]); (try simp only [hl4_2]); (with_reducible repeat (first | apply Kd.R_alloc | apply Kd.R_drewN | apply Kd.R_drew)); exact HO_4.out⟩, ⟨by (try simp only [hl4_1]); (try simp only [hl4_2]); refine uW ?_; exact BK262.out⟩, ⟨by repeat (first | (with_reducible first | exact HB.out | apply below_alloc | apply pw_below_drewN | apply below_drew1 | refine below_set ?_ GE262.out) | exact HB.out)⟩⟩
         case round =>
          clear H'
          try clear c1
          try clear p1
          try clear q1
          try clear hx1
          try clear hf1
          try clear c2
          try clear c2b0
          try clear c2b1
          try clear p2
          try clear q2
          try clear hx2
          try clear hf2
          try clear c3
          try clear c3b0
          try clear c3b1
          try clear c4
          try clear p4
          try clear q4
          try clear hx4
          try clear hf4
          try clear c5
          try clear c6
          try clear p6
          try clear q6
          try clear c12
          try clear c12b0
          try clear c13
          try clear c13b0
          try clear c14
          try clear c14b0
          try clear p15
          try clear q15
          try clear hx15
          try clear hf15
          try clear c19
          try clear c19b0
          try clear c20
          try clear c20b0
          try clear c21
          try clear c21b0
          try clear c22
          try clear c22b0
          try clear p23
          try clear q23
          try clear hx23
          try clear hf23
          try clear p27
          try clear q27
          try clear hx27
          try clear c28
          try clear p28
          try clear q28
          try clear hx28
          try clear c31
          try clear c33
          try clear c33b0
          try clear c33b1
          try clear c34
          try clear c37
          try clear c37b0
          try clear c38
          try clear c38b0
          try clear c39
          try clear c39b0
          try clear c40
          try clear c40b0
          try clear c41
          try clear c41b0
          try clear c43
          try clear p44
          try clear q44
          try clear hx44
          try clear hf44
          try clear c45
          try clear c46
          try clear c55
          try clear c58
          try clear c58b0
          try clear c58b1
          try clear c59
          try clear c62
          try clear c63
          try clear p64
          try clear c67
          try clear q67
          try clear c68
          try clear c69
          try clear hcz18_0
          try clear hcz32_0
          try clear hcz35_0
          try clear hcz36_0
          try clear hcz47_0
          try clear hcz51_0
          try clear hcz54_0
          try clear hcz56_0
          try clear hcz60_0
          try clear hcz64_0
          try clear hcz66_0
          try clear hcz70_0
          try clear hfz18_0
          try clear hfz32_0
          try clear hfz35_0
          try clear hfz36_0
          try clear hfz47_0
          try clear hfz51_0
          try clear hfz54_0
          try clear hfz56_0
          try clear hfz60_0
          try clear hfz64_0
          try clear hfz66_0
          try clear hfz70_0
          try clear hx15_0
          try clear hx23_0
          try clear hx270_0
          try clear hx279_0
          try clear hx280_0
          try clear hx44_0
          try clear p1
          try clear p15
          try clear p2
          try clear p23
          try clear p27
          try clear p270
          try clear p279
          try clear p280
          try clear p44
          try clear p6
          try clear q1
          try clear q15
          try clear q2
          try clear q23
          try clear q27
          try clear q270
          try clear q279
          try clear q280
          try clear q44
          try clear q67
          try clear HO_3
          try clear HO_80
          try clear HO_3
          try clear HO_80
          obtain ⟨x3_3, x82_3, rfl, HA, HK3, HO_3, HO_80, BK262, HB⟩ := hrel
          cases gk with
          | zero => exact absurd HA.out (by simp [impl_groups.l4])
          | succ k3 =>
           have H := HA.out
           clear HA
           simp only [impl_groups.l4] at H
           by_cases c72 : x82_3 < (x4_2.length : Int)
           ·
            rw [if_pos c72] at H
            have c72b0 : decide (x82_3 < (x4_2.length : Int)) = true := decide_eq_true c72
            try (have c72b0_ := c72b0; simp only [hl4_1, hl4_2, hl4_3, hl4_4] at c72b0_)
            try (have c72b0_ := c72b0; simp only [hl4_1, hl4_2, hl4_3, hl4_4] at c72b0_)
            clear c72
            by_cases c73 : 0 ≤ x82_3
            ·
             rw [if_pos c73] at H
             have c73b0 : decide (0 ≤ x82_3) = true := decide_eq_true c73
             clear c73
             by_cases c74 : x82_3 < (x4_2.length : Int)
             ·
              rw [if_pos c74] at H
              have c74b0 : decide (x82_3 < (x4_2.length : Int)) = true := decide_eq_true c74
              try (have c74b0_ := c74b0; simp only [hl4_1, hl4_2, hl4_3, hl4_4] at c74b0_)
              try (have c74b0_ := c74b0; simp only [hl4_1, hl4_2, hl4_3, hl4_4] at c74b0_)
              clear c74
              by_cases c75 : 0 ≤ (rd x4_2 x82_3)
              ·
               rw [if_pos c75] at H
               have c75b0 : decide (0 ≤ (rd x4_2 x82_3)) = true := decide_eq_true c75
               clear c75
               by_cases c76 : (rd x4_2 x82_3) < (x3_3.length : Int)
               ·
                rw [if_pos c76] at H
                have c76b0 : decide ((rd x4_2 x82_3) < (x3_3.length : Int)) = true := decide_eq_true c76
                try (have c76b0_ := c76b0; simp only [hl4_1, hl4_2, hl4_3, hl4_4] at c76b0_)
                try (have c76b0_ := c76b0; simp only [hl4_1, hl4_2, hl4_3, hl4_4] at c76b0_)
                clear c76
                by_cases c77 : (impl_groups.row x3_3 (rd x4_2 x82_3)).length < 17592186044416
                ·
                 rw [if_pos c77] at H
                 have LMc77 := Aside0.mk c77
                 clear c77
                 obtain ⟨y292, hy292⟩ : ∃ y_ : List Int, y_ = ((impl_groups.row x3_3 (rd x4_2 x82_3)) ++ [x82_3]) := ⟨_, rfl⟩
                 replace H : (impl_groups.l4 k3 (x3_3.set ((rd x4_2 x82_3) : Int).toNat y292) x4_2 (x4_2.length : Int) (wrap64 (x82_3 + 1))) = some r := by first | (rw [hy292]; with_reducible exact H) | (have H2_ := (Option.bind_some _ _).symm.trans H; rw [hy292]; with_reducible exact H2_) | (have H2_ := (Option.bind_some _ _).symm.trans H; with_reducible exact H2_) | with_reducible exact H | (rw [hy292]; exact H) | exact H
                 have Ny292 := Aside0.mk hy292
                 clear hy292
                 obtain ⟨y295, hy295⟩ : ∃ y_ : List (List Int), y_ = (x3_3.set ((rd x4_2 x82_3) : Int).toNat y292) := ⟨_, rfl⟩
                 replace H : (impl_groups.l4 k3 y295 x4_2 (x4_2.length : Int) (wrap64 (x82_3 + 1))) = some r := by first | (rw [hy295]; with_reducible exact H) | (have H2_ := (Option.bind_some _ _).symm.trans H; rw [hy295]; with_reducible exact H2_) | (have H2_ := (Option.bind_some _ _).symm.trans H; with_reducible exact H2_) | with_reducible exact H | (rw [hy295]; exact H) | exact H
                 have Ny295 := Aside0.mk hy295
                 clear hy295
                 have H' := Aside0.mk H
                 clear H
                 have p290 : 0 ≤ (x82_3 : Int) := of_decide_eq_true (by first | (with_reducible assumption) | assumption)
                 have q290 : x82_3 < (x4_2.length : Int) := of_decide_eq_true (by first | (with_reducible assumption) | assumption)
                 obtain ⟨ad290, e290, hx290_0⟩ := Kd.at_int (Kd.R_reads' HO_80.out).2.2 x82_3 p290 q290
                 cases e290
                 replace p290 := eq_true p290
                 replace q290 := eq_true q290
                 obtain ⟨Ao79, co79, eo79⟩ := Kd.S_slice HO_3.out
                 subst eo79
                 have p291 : 0 ≤ ((rd x4_2 x82_3) : Int) := of_decide_eq_true (by first | (with_reducible assumption) | assumption)
                 have q291 : (rd x4_2 x82_3) < (x3_3.length : Int) := of_decide_eq_true (by first | (with_reducible assumption) | assumption)
                 obtain ⟨ad291, A291_0, c291_0, e291, hx291_0, hl291_0, hi291_0⟩ := impl_groups.at_ (Kd.S_reads' HO_3.out).2.2 (rd x4_2 x82_3) p291 q291
                 cases e291
                 obtain ⟨ce291, hce291, hMe291, hcc291⟩ := Kd.S_get HO_3.out [] (rd x4_2 x82_3) p291 (by first | exact q291 | exact of_decide_eq_true (by first | (with_reducible assumption) | assumption) | (have e_ := (Kd.S_reads' HO_3.out).1; omega))
                 obtain ⟨ve291_0, rfl, ge291_0⟩ := hMe291
                 have hv291_0 := hcc291 0 _ rfl
                 rw [Nat.add_zero, show ((Kd.slice 3 (Kd.int .i64))).sz = 1 from rfl, Nat.mul_one] at hv291_0
                 replace hv291_0 := Option.some.inj (hv291_0.symm.trans hx291_0)
                 rw [hv291_0] at ge291_0
                 have HL291_0 := Aside0.mk (show Kd.R (Kd.int .i64) 3 _ _ _ _ (impl_groups.row x3_3 (rd x4_2 x82_3)) from ge291_0)
                 clear hv291_0 ge291_0
                 have HX291_0 := Aside0.mk hx291_0
                 clear hcc291 hce291
                 have HR291_0 := Aside0.mk hi291_0
                 have HC291_0 := Aside0.mk hl291_0
                 clear hi291_0 hl291_0
                 replace p291 := eq_true p291
                 replace q291 := eq_true q291
                 obtain ⟨go80, co80, eo80, gb80, gl80, cl80, HG80⟩ := Kd.S_form HO_3.out (by have h_ : ((rd x4_2 x82_3) : Int) < ((x3_3.length : Int) : Int) := of_decide_eq_true (by first | (with_reducible assumption) | assumption); have h2_ : 0 ≤ ((rd x4_2 x82_3) : Int) := (of_decide_eq_true (by first | (with_reducible assumption) | assumption)); omega)
                 (first | cases eo80 | (injection eo80 with ea_ en_ ec_; (first | subst ea_ | (injection ea_ with ea_; subst ea_)); subst ec_; clear en_))
                 have GB80 := Aside0.mk gb80
                 have GG80 := Aside0.mk HG80
                 clear gb80 gl80 HG80
                 (first | simp only [add_plain] at hx291_0 | skip)
                 obtain ⟨oki80, ce80, hcl80, hM80, hcc80, _, _, hH80⟩ := Kd.S_elem HO_3.out [] ((rd x4_2 x82_3) : Int) (of_decide_eq_true (by first | (with_reducible assumption) | assumption)) (by have h_ : ((rd x4_2 x82_3) : Int) < ((x3_3.length : Int) : Int) := of_decide_eq_true (by first | (with_reducible assumption) | assumption); first | exact h_ | (have e_ := (Kd.S_reads' HO_3.out).1; omega) | simpa using h_)
                 obtain ⟨ve80_0, rfl, ge80_0⟩ := hM80
                 have hv80 := hcc80 0 _ rfl
                 have hX80 := HX291_0.out
                 (try simp only [add_plain] at hX80)
                 (try simp only [Nat.add_zero] at hv80)
                 (try rw [show ((Kd.slice 3 (Kd.int .i64))).sz = 1 from rfl, Nat.mul_one] at hv80)
                 replace hv80 := Option.some.inj (hv80.symm.trans hX80)
                 subst hv80
                 clear hX80 hcc80 hcl80
                 have UU80 := Aside0.mk (show Kd.R (Kd.int .i64) 3 _ w.heap.size oki80 (.slice A291_0 (impl_groups.row x3_3 (rd x4_2 x82_3)).length c291_0) (impl_groups.row x3_3 (rd x4_2 x82_3)) from ge80_0)
                 have HH80 := Aside0.mk hH80
                 have HN80 := Aside0.mk (Kd.S_reads' HO_3.out).1
                 clear hH80 ge80_0
                 go_wp2_with (first | ((with_reducible refine gate_builtin (b := .append) (xs := #[.tmp 92, .tmp 94]) rfl ?_); at_builtin; refine Kd.R_append (Kd.int .i64) (w0 := w) w.heap.size rfl (.tmp 92) (.tmp 94) 23 3 (.int .i64 0) 8 rfl Try.underlying23 info3 rfl (by decide) (by omega) (.slice A291_0 (impl_groups.row x3_3 (rd x4_2 x82_3)).length c291_0) (impl_groups.row x3_3 (rd x4_2 x82_3)) x82_3 [.int .i64 x82_3] (fun k_ => oki80 k_ ∨ ((fun k_ => some k_ ≠ (.slice (some ad290) x4_2.length co11 : Value).ownBlock)) k_ ∧ wr.heap.size ≤ k_) (fun _ => False) rfl rfl ?aP (fun _ hk => hk.elim) ?aF ?aO ?aB ?aS ?aL ?_; (case aP => exact rfl); (case aB => exact (by repeat (first | (with_reducible first | exact HB.out | apply below_alloc | apply pw_below_drewN | apply below_drew1 | refine below_set ?_ GE262.out) | exact HB.out))); (case aF => exact (fun k_ hk => .inr ⟨Kd.fresh' (Kd.R_lt (uR HO_80)) k_ hk, hk⟩)); (case aO => exact (by (with_reducible repeat (first | apply Kd.R_alloc | apply Kd.R_drewN | apply Kd.R_drew)); exact Kd.R_mono UU80.out (fun _ hk => .inl hk))); (case aS => exact (below_size (by repeat (first | (with_reducible first | exact HB.out | apply below_alloc | apply pw_below_drewN | apply below_drew1 | refine below_set ?_ GE262.out) | exact HB.out)))); (case aL => have := LMc77.out; omega); intro v293 w81 ho hb hg hat; rw [← Ny292.out] at ho; have n0_ := Aside0.mk (Kd.R_grown2 (uR HO_80) rfl hg (fun k_ e_ => (HL291_0.out.1 k_ e_).1)); have n1_ := Aside0.mk (blk_grown (g := gb262) (o := .cells #[.slice A0 l0.length c0] 40 (0, 0)) (uK BK262) hg (Kd.R_ne HL291_0.out BK262.out (by decide))); have n2_ := Aside0.mk (hb); have n3_ := Aside0.mk (Kd.H_grown (Kd.H_widen (by repeat (first | exact HH80.out | refine Kd.H_alloc ?_ _ | refine Kd.H_drewN ?_ _ | refine Kd.H_drew ?_))) hg (fun k_ e_ => .inl (UU80.out.1 k_ e_))); have n4_ := Aside0.mk (ho); clear HO_80 BK262 HB HH80 HO_3 UU80 HL291_0; have HO_80 := n0_; have BK262 := n1_; have HB := n2_; have HH80 := n3_; have HO294 := n4_; clear n0_ n1_ n2_ n3_ n4_ ho hb hg hat; have p78 : 0 ≤ ((rd x4_2 x82_3) : Int) := of_decide_eq_true (by first | (with_reducible assumption) | assumption); have q78 : ((rd x4_2 x82_3) : Int) < ((x3_3.length : Int) : Int) := of_decide_eq_true (by first | (with_reducible assumption) | assumption); replace p78 := eq_true p78; replace q78 := eq_true q78; obtain ⟨Ao84, co84, eo84⟩ := Kd.R_slice HO294.out; subst eo84; obtain ⟨_, _, hraw82, _, _, hcc82, _⟩ := Kd.H_raw HH80.out (of_decide_eq_true (by first | (with_reducible assumption) | assumption)) (by have h_ : ((rd x4_2 x82_3) : Int) < ((x3_3.length : Int) : Int) := of_decide_eq_true (by first | (with_reducible assumption) | assumption); first | exact h_ | (have e_ := (HN80.out); omega) | simpa using h_); obtain ⟨_, hfr82⟩ := Kd.H_at HH80.out (of_decide_eq_true (by first | (with_reducible assumption) | assumption)) (by have h_ : ((rd x4_2 x82_3) : Int) < ((x3_3.length : Int) : Int) := of_decide_eq_true (by first | (with_reducible assumption) | assumption); first | exact h_ | (have e_ := (HN80.out); omega) | simpa using h_); have hx82_0 := hcc82 0 _ rfl; have hf82_0 := hfr82 0; (try simp only [Nat.add_zero] at hx82_0 hf82_0); (try rw [show ((Kd.slice 3 (Kd.int .i64))).sz = 1 from rfl, Nat.mul_one] at hx82_0); (try rw [show ((Kd.slice 3 (Kd.int .i64))).sz = 1 from rfl, Nat.mul_one] at hf82_0); have HP82 := Kd.S_seg0 HH80.out (of_decide_eq_true (by first | (with_reducible assumption) | assumption)) (by have h_ : ((rd x4_2 x82_3) : Int) < ((x3_3.length : Int) : Int) := of_decide_eq_true (by first | (with_reducible assumption) | assumption); first | exact h_ | (have e_ := (HN80.out); omega) | simpa using h_) (seg := [.slice Ao84 y292.length co84]) (j := 0) (show 1 ≤ 1 from by decide) (x' := y292) (Kd.M_row HO294.out) (fun _ hk => hk); (try simp only [show ((Kd.slice 3 (Kd.int .i64))).sz = 1 from rfl, Nat.mul_one, Nat.add_zero] at HP82); clear hcc82 hfr82) | ((with_reducible refine gate_store (t := 23) (p := 96) rfl ?_); refine store_event (t := 23) (p := 96) (v := ?vo_w83) (w1 := (w81.setCell ⟨go80, ((rd x4_2 x82_3) : Int).toNat, none⟩ (.slice Ao84 y292.length co84))) ?hg ?ho ?hn ?hr ?_; (case ho => rfl); (case hg => rfl); (case hn => rfl); (case hr => first | (go_simp; done) | (go_simp; rfl)); intro w83 hw; have hg : w81.grownBy w83 (some go80) := (by rw [hw]; exact HP82.2); have hp_ : Kd.S (Kd.slice 3 (Kd.int .i64)) 23 w83 w.heap.size (fun k_ => some k_ ≠ (.slice (some ad290) x4_2.length co11 : Value).ownBlock) (.slice (some ⟨go80, 0, none⟩) x3_3.length co79) y295 := (by rw [hw, Ny295.out]; exact HP82.1); clear HP82; have n0_ := Aside0.mk (Kd.R_over' (v := (.slice (some ⟨go80, 0, none⟩) x3_3.length co79)) (uR HO_80) (Kd.R_typed hraw82) (by decide) hg); have n1_ := Aside0.mk (blk_grown (g := gb262) (o := .cells #[.slice A0 l0.length c0] 40 (0, 0)) (uK BK262) hg (Kd.R_ne hraw82 BK262.out (by decide))); have n2_ := Aside0.mk ((by rw [hw]; exact below_set HB.out GB80.out : Below w.heap.size w w83)); have n3_ := Aside0.mk (hp_); clear HO_80 BK262 HB HO294 HH80; have HO_80 := n0_; have BK262 := n1_; have HB := n2_; have HO_3 := n3_; clear n0_ n1_ n2_ n3_; clear hg hw hp_ hraw82))
                 go_roundg k3
                 case measure => have := HK1.out; have := HK2.out; have := HK3.out; omega
                 case rel => exact ⟨(y295), (wrap64 (x82_3 + 1)), (by first | rfl | (simp; done) | (simp [*]; done)), H', ⟨by have := HK1.out; have := HK2.out; have := HK3.out; omega⟩, ⟨by (try simp only [hl4_1]); (try simp only [hl4_2]); (with_reducible repeat (first | apply Kd.S_alloc | apply Kd.S_drewN | apply Kd.S_drew)); exact HO_3.out⟩, ⟨by (try simp only [hl4_1]); (try simp only [hl4_2]); (with_reducible repeat (first | apply Kd.R_alloc | apply Kd.R_drewN | apply Kd.R_drew)); exact HO_80.out⟩, ⟨by (try simp only [hl4_1]); (try simp only [hl4_2]); refine uW ?_; exact BK262.out⟩, ⟨by repeat (first | (with_reducible first | exact HB.out | apply below_alloc | apply pw_below_drewN | apply below_drew1 | refine below_set ?_ GE262.out) | exact HB.out)⟩⟩
                ·
                 rw [if_neg c77] at H
                 exact absurd H (by simp)
               ·
                rw [if_neg c76] at H
                exact absurd H (by simp)
              ·
               rw [if_neg c75] at H
               exact absurd H (by simp)
             ·
              rw [if_neg c74] at H
              exact absurd H (by simp)
            ·
             rw [if_neg c73] at H
             exact absurd H (by simp)
           ·
            rw [if_neg c72] at H
            have c72b0 : decide (x82_3 < (x4_2.length : Int)) = false := decide_eq_false c72
            try (have c72b0_ := c72b0; simp only [hl4_1, hl4_2, hl4_3, hl4_4] at c72b0_)
            try (have c72b0_ := c72b0; simp only [hl4_1, hl4_2, hl4_3, hl4_4] at c72b0_)
            clear c72
            obtain rfl := Option.some.inj H
            go_wp2
            go_ret
            exact ⟨_, by first | rfl | (simp [errW_none, errW_some] <;> rfl) | (simp [*, errW_none, errW_some] <;> rfl), by (with_reducible repeat (first | apply Kd.S_alloc | apply Kd.S_drewN | apply Kd.S_drew)); exact Kd.S_mono HO_3.out (fun _ hk => trivial), by repeat (first | (with_reducible first | exact HB.out | apply below_alloc | apply pw_below_drewN | apply below_drew1 | refine below_set ?_ GE262.out) | exact HB.out)⟩
  ·
   rw [if_neg c3] at H
   exact absurd H (by simp)
 ·
  rw [if_neg c2] at H
  exact absurd H (by simp)


end Go.Proofs.Ytlkbffkafpaooaa.PFnExactKeyGroups
