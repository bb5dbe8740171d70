-- made by wip/tools/myprint.py over the kit's print, for this claim
import Derived.Test.YtohfcpekgdbobaaTMapR
import Derived.Test.YtohfcpekgdbobaaPFnExactBuildDisplacedx0
import Derived.Test.YtohfcpekgdbobaaPFnExactBuildDisplacedx3
import Derived.Test.YtohfcpekgdbobaaPFnExactBuildDisplacedx4
import Derived.Test.YtohfcpekgdbobaaPFnExactBuildDisplacedx5
import Derived.Test.YtohfcpekgdbobaaPFnExactBuildDisplacedx9
namespace Go.Proofs.Ytohfcpekgdbobaa.PFnExactBuildDisplaced
open Go.RowKit Go.Proofs.YtohfcpekgdbobaaW.PrintWords Go.Proofs.YtohfcpekgdbobaaW.PrintLast Go.Proofs.YtohfcpekgdbobaaW.PrintMore Go.Proofs.Ytohfcpekgdbobaa.MapR
attribute [local go_sem] max2_int min2_int max_two min_two max_three min_three max_four min_four   -- for this text's walks alone
set_option linter.unusedVariables false
set_option linter.unusedSimpArgs false

/-! ### impl_BuildDisplaced: function 7 -/
mutual
def impl_BuildDisplaced.j0 : Nat → Int → List ByteArray → Int → Int → Bool → Option (Int × Int × Int × List Int × Bool)
 | 0, _, _, _, _, _ => none
 | k + 1, x0, x1, x2, x3, x38 => if x38 = true then (some (0, 0, 0, ([] : List Int), false)) else ((impl_buckets.f k x0 x1 x2).bind fun t262 => (impl_BuildDisplaced.l0 k x0 x1 x2 x3 (([] : List Int)) (([] : List Int)) (t262.length : Int) 0 t262))
def impl_BuildDisplaced.l0 : Nat → Int → List ByteArray → Int → Int → List Int → List Int → Int → Int → List (List Int) → Option (Int × Int × Int × List Int × Bool)
 | 0, _, _, _, _, _, _, _, _, _ => none
 | k + 1, x0, x1, x2, x3, x11, x12, x47, x48, x272000 => if x48 < x47 then (if x11.length < 17592186044416 then (impl_BuildDisplaced.l0 k x0 x1 x2 x3 (x11 ++ [x48]) x12 x47 (wrap64 (x48 + 1)) x272000) else (none)) else ((slices_SortStableFunc_int_int_impl_BuildDisplacedc1.f k x11 x272000).bind fun t275 => (if 0 ≤ x2 then (if (x2 : Int).toNat ≤ 35184372088832 then (impl_BuildDisplaced.l1 k x0 x1 x3 x12 t275 (x11.length : Int) 0 x272000 x0 x2 x3 (List.replicate (x2 : Int).toNat 0)) else (none)) else (none)))
def impl_BuildDisplaced.l1 : Nat → Int → List ByteArray → Int → List Int → List Int → Int → Int → List (List Int) → Int → Int → Int → List Int → Option (Int × Int × Int × List Int × Bool)
 | 0, _, _, _, _, _, _, _, _, _, _, _, _ => none
 | k + 1, x0, x1, x3, x12, x65, x66, x67, x272000, x280000, x280001, x280002, x280003 => if x67 < x66 then (if 0 ≤ x67 then (if x67 < (x65.length : Int) then (if 0 ≤ (rd x65 x67) then (if (rd x65 x67) < (x272000.length : Int) then ((impl_fits.f k x0 x1 (rd_L2 x272000 (rd x65 x67)) 0 x3 x12).bind fun bt282 => (impl_BuildDisplaced.l2 k x0 x1 x3 x12 (rd x65 x67) bt282.1 bt282.2 x65 x66 x67 x272000 x280000 x280001 x280002 x280003)) else (none)) else (none)) else (none)) else (none)) else (some (x280000, x280001, x280002, x280003, true))
def impl_BuildDisplaced.l2 : Nat → Int → List ByteArray → Int → List Int → Int → List Int → Bool → List Int → Int → Int → List (List Int) → Int → Int → Int → List Int → Option (Int × Int × Int × List Int × Bool)
 | 0, _, _, _, _, _, _, _, _, _, _, _, _, _, _, _ => none
 | k + 1, x0, x1, x3, x12, x16, x17, x18, x65, x66, x67, x272000, x280000, x280001, x280002, x280003 => if x18 = true then (impl_BuildDisplaced.l3 k x0 x1 x3 x12 x65 x66 x67 x17 (x17.length : Int) 0 x272000 x280000 x280001 x280002 x280003) else (if 0 ≤ x16 then (if x16 < (x280003.length : Int) then ((some (x280003.set (x16 : Int).toNat (wrap64 ((rd x280003 x16) + 1)) : List Int)).bind fun y287 => (if (rd y287 x16) > 999 then (some (0, 0, 0, ([] : List Int), false)) else (if x16 < (x272000.length : Int) then ((impl_fits.f k x0 x1 (rd_L2 x272000 x16) (rd y287 x16) x3 x12).bind fun bt291 => (impl_BuildDisplaced.l2 k x0 x1 x3 x12 x16 bt291.1 bt291.2 x65 x66 x67 x272000 x280000 x280001 x280002 y287)) else (none)))) else (none)) else (none))
def impl_BuildDisplaced.l3 : Nat → Int → List ByteArray → Int → List Int → List Int → Int → Int → List Int → Int → Int → List (List Int) → Int → Int → Int → List Int → Option (Int × Int × Int × List Int × Bool)
 | 0, _, _, _, _, _, _, _, _, _, _, _, _, _, _, _ => none
 | k + 1, x0, x1, x3, x12, x65, x66, x67, x116, x117, x118, x272000, x280000, x280001, x280002, x280003 => if x118 < x117 then (if 0 ≤ x118 then (if x118 < (x116.length : Int) then (if x12.length < 17592186044416 ∧ inW (rd x116 x118) then (impl_BuildDisplaced.l3 k x0 x1 x3 (x12 ++ [rd x116 x118]) x65 x66 x67 x116 x117 (wrap64 (x118 + 1)) x272000 x280000 x280001 x280002 x280003) else (none)) else (none)) else (none)) else (impl_BuildDisplaced.l1 k x0 x1 x3 x12 x65 x66 (wrap64 (x67 + 1)) x272000 x280000 x280001 x280002 x280003)
end
def impl_BuildDisplaced.f (k : Nat) (a0 : Int) (l1 : List ByteArray) (a2 : Int) (a3 : Int) : Option (Int × Int × Int × List Int × Bool) := (impl_isSeed.f a0).bind fun t258 => (if t258 = true then ((impl_AreKeys.f k l1).bind fun t259 => (if t259 = true then ((impl_in.f a2 1 24).bind fun t260 => (if t260 = true then ((impl_in.f a3 1 64).bind fun t261 => (impl_BuildDisplaced.j0 k a0 l1 a2 a3 (!t261))) else (impl_BuildDisplaced.j0 k a0 l1 a2 a3 true))) else (impl_BuildDisplaced.j0 k a0 l1 a2 a3 true))) else (impl_BuildDisplaced.j0 k a0 l1 a2 a3 true))
theorem impl_BuildDisplaced.mono_l : ∀ k, (∀ y0 y1 y2 y3 y4, LeO (impl_BuildDisplaced.j0 k y0 y1 y2 y3 y4) (impl_BuildDisplaced.j0 (k + 1) y0 y1 y2 y3 y4)) ∧ (∀ y0 y1 y2 y3 y4 y5 y6 y7 y8, LeO (impl_BuildDisplaced.l0 k y0 y1 y2 y3 y4 y5 y6 y7 y8) (impl_BuildDisplaced.l0 (k + 1) y0 y1 y2 y3 y4 y5 y6 y7 y8)) ∧ (∀ y0 y1 y2 y3 y4 y5 y6 y7 y8 y9 y10 y11, LeO (impl_BuildDisplaced.l1 k y0 y1 y2 y3 y4 y5 y6 y7 y8 y9 y10 y11) (impl_BuildDisplaced.l1 (k + 1) y0 y1 y2 y3 y4 y5 y6 y7 y8 y9 y10 y11)) ∧ (∀ y0 y1 y2 y3 y4 y5 y6 y7 y8 y9 y10 y11 y12 y13 y14, LeO (impl_BuildDisplaced.l2 k y0 y1 y2 y3 y4 y5 y6 y7 y8 y9 y10 y11 y12 y13 y14) (impl_BuildDisplaced.l2 (k + 1) y0 y1 y2 y3 y4 y5 y6 y7 y8 y9 y10 y11 y12 y13 y14)) ∧ (∀ y0 y1 y2 y3 y4 y5 y6 y7 y8 y9 y10 y11 y12 y13 y14, LeO (impl_BuildDisplaced.l3 k y0 y1 y2 y3 y4 y5 y6 y7 y8 y9 y10 y11 y12 y13 y14) (impl_BuildDisplaced.l3 (k + 1) y0 y1 y2 y3 y4 y5 y6 y7 y8 y9 y10 y11 y12 y13 y14))
 | 0 => ⟨fun _ _ _ _ _ r h => by simp [impl_BuildDisplaced.j0] at h, fun _ _ _ _ _ _ _ _ _ r h => by simp [impl_BuildDisplaced.l0] at h, fun _ _ _ _ _ _ _ _ _ _ _ _ r h => by simp [impl_BuildDisplaced.l1] at h, fun _ _ _ _ _ _ _ _ _ _ _ _ _ _ _ r h => by simp [impl_BuildDisplaced.l2] at h, fun _ _ _ _ _ _ _ _ _ _ _ _ _ _ _ r h => by simp [impl_BuildDisplaced.l3] at h⟩
 | k + 1 => by
  obtain ⟨ih0, ih1, ih2, ih3, ih4⟩ := impl_BuildDisplaced.mono_l k
  refine ⟨?_, ?_, ?_, ?_, ?_⟩
  ·
   intro y0 y1 y2 y3 y4
   unfold impl_BuildDisplaced.j0
   repeat' first
   | (with_reducible exact ih0 _ _ _ _ _)
   | (with_reducible exact ih1 _ _ _ _ _ _ _ _ _)
   | (with_reducible exact ih2 _ _ _ _ _ _ _ _ _ _ _ _)
   | (with_reducible exact ih3 _ _ _ _ _ _ _ _ _ _ _ _ _ _ _)
   | (with_reducible exact ih4 _ _ _ _ _ _ _ _ _ _ _ _ _ _ _)
   | (with_reducible exact impl_AreKeys.mono _ _)
   | (with_reducible exact impl_buckets.mono _ _ _ _)
   | (with_reducible exact impl_fits.mono _ _ _ _ _ _ _)
   | (with_reducible exact slices_SortStableFunc_int_int_impl_BuildDisplacedc1.mono _ _ _)
   | (with_reducible exact LeO.refl _)
   | (with_reducible exact LeO.none _)
   | (with_reducible refine LeO.ite ?_ ?_)
   | (with_reducible refine LeO.bind ?_ (fun _ => ?_))
   | exact ih0 _ _ _ _ _
   | exact ih1 _ _ _ _ _ _ _ _ _
   | exact ih2 _ _ _ _ _ _ _ _ _ _ _ _
   | exact ih3 _ _ _ _ _ _ _ _ _ _ _ _ _ _ _
   | exact ih4 _ _ _ _ _ _ _ _ _ _ _ _ _ _ _
   | exact impl_AreKeys.mono _ _
   | exact impl_buckets.mono _ _ _ _
   | exact impl_fits.mono _ _ _ _ _ _ _
   | exact slices_SortStableFunc_int_int_impl_BuildDisplacedc1.mono _ _ _
   | exact LeO.none _
   | refine LeO.ite ?_ ?_
   | refine LeO.bind ?_ (fun _ => ?_)
  ·
   intro y0 y1 y2 y3 y4 y5 y6 y7 y8
   unfold impl_BuildDisplaced.l0
   repeat' first
   | (with_reducible exact ih0 _ _ _ _ _)
   | (with_reducible exact ih1 _ _ _ _ _ _ _ _ _)
   | (with_reducible exact ih2 _ _ _ _ _ _ _ _ _ _ _ _)
   | (with_reducible exact ih3 _ _ _ _ _ _ _ _ _ _ _ _ _ _ _)
   | (with_reducible exact ih4 _ _ _ _ _ _ _ _ _ _ _ _ _ _ _)
   | (with_reducible exact impl_AreKeys.mono _ _)
   | (with_reducible exact impl_buckets.mono _ _ _ _)
   | (with_reducible exact impl_fits.mono _ _ _ _ _ _ _)
   | (with_reducible exact slices_SortStableFunc_int_int_impl_BuildDisplacedc1.mono _ _ _)
   | (with_reducible exact LeO.refl _)
   | (with_reducible exact LeO.none _)
   | (with_reducible refine LeO.ite ?_ ?_)
   | (with_reducible refine LeO.bind ?_ (fun _ => ?_))
   | exact ih0 _ _ _ _ _
   | exact ih1 _ _ _ _ _ _ _ _ _
   | exact ih2 _ _ _ _ _ _ _ _ _ _ _ _
   | exact ih3 _ _ _ _ _ _ _ _ _ _ _ _ _ _ _
   | exact ih4 _ _ _ _ _ _ _ _ _ _ _ _ _ _ _
   | exact impl_AreKeys.mono _ _
   | exact impl_buckets.mono _ _ _ _
   | exact impl_fits.mono _ _ _ _ _ _ _
   | exact slices_SortStableFunc_int_int_impl_BuildDisplacedc1.mono _ _ _
   | exact LeO.none _
   | refine LeO.ite ?_ ?_
   | refine LeO.bind ?_ (fun _ => ?_)
  ·
   intro y0 y1 y2 y3 y4 y5 y6 y7 y8 y9 y10 y11
   unfold impl_BuildDisplaced.l1
   repeat' first
   | (with_reducible exact ih0 _ _ _ _ _)
   | (with_reducible exact ih1 _ _ _ _ _ _ _ _ _)
   | (with_reducible exact ih2 _ _ _ _ _ _ _ _ _ _ _ _)
   | (with_reducible exact ih3 _ _ _ _ _ _ _ _ _ _ _ _ _ _ _)
   | (with_reducible exact ih4 _ _ _ _ _ _ _ _ _ _ _ _ _ _ _)
   | (with_reducible exact impl_AreKeys.mono _ _)
   | (with_reducible exact impl_buckets.mono _ _ _ _)
   | (with_reducible exact impl_fits.mono _ _ _ _ _ _ _)
   | (with_reducible exact slices_SortStableFunc_int_int_impl_BuildDisplacedc1.mono _ _ _)
   | (with_reducible exact LeO.refl _)
   | (with_reducible exact LeO.none _)
   | (with_reducible refine LeO.ite ?_ ?_)
   | (with_reducible refine LeO.bind ?_ (fun _ => ?_))
   | exact ih0 _ _ _ _ _
   | exact ih1 _ _ _ _ _ _ _ _ _
   | exact ih2 _ _ _ _ _ _ _ _ _ _ _ _
   | exact ih3 _ _ _ _ _ _ _ _ _ _ _ _ _ _ _
   | exact ih4 _ _ _ _ _ _ _ _ _ _ _ _ _ _ _
   | exact impl_AreKeys.mono _ _
   | exact impl_buckets.mono _ _ _ _
   | exact impl_fits.mono _ _ _ _ _ _ _
   | exact slices_SortStableFunc_int_int_impl_BuildDisplacedc1.mono _ _ _
   | exact LeO.none _
   | refine LeO.ite ?_ ?_
   | refine LeO.bind ?_ (fun _ => ?_)
  ·
   intro y0 y1 y2 y3 y4 y5 y6 y7 y8 y9 y10 y11 y12 y13 y14
   unfold impl_BuildDisplaced.l2
   repeat' first
   | (with_reducible exact ih0 _ _ _ _ _)
   | (with_reducible exact ih1 _ _ _ _ _ _ _ _ _)
   | (with_reducible exact ih2 _ _ _ _ _ _ _ _ _ _ _ _)
   | (with_reducible exact ih3 _ _ _ _ _ _ _ _ _ _ _ _ _ _ _)
   | (with_reducible exact ih4 _ _ _ _ _ _ _ _ _ _ _ _ _ _ _)
   | (with_reducible exact impl_AreKeys.mono _ _)
   | (with_reducible exact impl_buckets.mono _ _ _ _)
   | (with_reducible exact impl_fits.mono _ _ _ _ _ _ _)
   | (with_reducible exact slices_SortStableFunc_int_int_impl_BuildDisplacedc1.mono _ _ _)
   | (with_reducible exact LeO.refl _)
   | (with_reducible exact LeO.none _)
   | (with_reducible refine LeO.ite ?_ ?_)
   | (with_reducible refine LeO.bind ?_ (fun _ => ?_))
   | exact ih0 _ _ _ _ _
   | exact ih1 _ _ _ _ _ _ _ _ _
   | exact ih2 _ _ _ _ _ _ _ _ _ _ _ _
   | exact ih3 _ _ _ _ _ _ _ _ _ _ _ _ _ _ _
   | exact ih4 _ _ _ _ _ _ _ _ _ _ _ _ _ _ _
   | exact impl_AreKeys.mono _ _
   | exact impl_buckets.mono _ _ _ _
   | exact impl_fits.mono _ _ _ _ _ _ _
   | exact slices_SortStableFunc_int_int_impl_BuildDisplacedc1.mono _ _ _
   | exact LeO.none _
   | refine LeO.ite ?_ ?_
   | refine LeO.bind ?_ (fun _ => ?_)
  ·
   intro y0 y1 y2 y3 y4 y5 y6 y7 y8 y9 y10 y11 y12 y13 y14
   unfold impl_BuildDisplaced.l3
   repeat' first
   | (with_reducible exact ih0 _ _ _ _ _)
   | (with_reducible exact ih1 _ _ _ _ _ _ _ _ _)
   | (with_reducible exact ih2 _ _ _ _ _ _ _ _ _ _ _ _)
   | (with_reducible exact ih3 _ _ _ _ _ _ _ _ _ _ _ _ _ _ _)
   | (with_reducible exact ih4 _ _ _ _ _ _ _ _ _ _ _ _ _ _ _)
   | (with_reducible exact impl_AreKeys.mono _ _)
   | (with_reducible exact impl_buckets.mono _ _ _ _)
   | (with_reducible exact impl_fits.mono _ _ _ _ _ _ _)
   | (with_reducible exact slices_SortStableFunc_int_int_impl_BuildDisplacedc1.mono _ _ _)
   | (with_reducible exact LeO.refl _)
   | (with_reducible exact LeO.none _)
   | (with_reducible refine LeO.ite ?_ ?_)
   | (with_reducible refine LeO.bind ?_ (fun _ => ?_))
   | exact ih0 _ _ _ _ _
   | exact ih1 _ _ _ _ _ _ _ _ _
   | exact ih2 _ _ _ _ _ _ _ _ _ _ _ _
   | exact ih3 _ _ _ _ _ _ _ _ _ _ _ _ _ _ _
   | exact ih4 _ _ _ _ _ _ _ _ _ _ _ _ _ _ _
   | exact impl_AreKeys.mono _ _
   | exact impl_buckets.mono _ _ _ _
   | exact impl_fits.mono _ _ _ _ _ _ _
   | exact slices_SortStableFunc_int_int_impl_BuildDisplacedc1.mono _ _ _
   | exact LeO.none _
   | refine LeO.ite ?_ ?_
   | refine LeO.bind ?_ (fun _ => ?_)
theorem impl_BuildDisplaced.mono : ∀ a0 a1 a2 a3 k, LeO (impl_BuildDisplaced.f k a0 a1 a2 a3) (impl_BuildDisplaced.f (k + 1) a0 a1 a2 a3) := by
 intro a0 a1 a2 a3 k
 obtain ⟨ih0, ih1, ih2, ih3, ih4⟩ := impl_BuildDisplaced.mono_l k
 unfold impl_BuildDisplaced.f
 repeat' first
   | (with_reducible exact ih0 _ _ _ _ _)
   | (with_reducible exact ih1 _ _ _ _ _ _ _ _ _)
   | (with_reducible exact ih2 _ _ _ _ _ _ _ _ _ _ _ _)
   | (with_reducible exact ih3 _ _ _ _ _ _ _ _ _ _ _ _ _ _ _)
   | (with_reducible exact ih4 _ _ _ _ _ _ _ _ _ _ _ _ _ _ _)
   | (with_reducible exact impl_AreKeys.mono _ _)
   | (with_reducible exact impl_buckets.mono _ _ _ _)
   | (with_reducible exact impl_fits.mono _ _ _ _ _ _ _)
   | (with_reducible exact slices_SortStableFunc_int_int_impl_BuildDisplacedc1.mono _ _ _)
   | (with_reducible exact LeO.refl _)
   | (with_reducible exact LeO.none _)
   | (with_reducible refine LeO.ite ?_ ?_)
   | (with_reducible refine LeO.bind ?_ (fun _ => ?_))
   | exact ih0 _ _ _ _ _
   | exact ih1 _ _ _ _ _ _ _ _ _
   | exact ih2 _ _ _ _ _ _ _ _ _ _ _ _
   | exact ih3 _ _ _ _ _ _ _ _ _ _ _ _ _ _ _
   | exact ih4 _ _ _ _ _ _ _ _ _ _ _ _ _ _ _
   | exact impl_AreKeys.mono _ _
   | exact impl_buckets.mono _ _ _ _
   | exact impl_fits.mono _ _ _ _ _ _ _
   | exact slices_SortStableFunc_int_int_impl_BuildDisplacedc1.mono _ _ _
   | exact LeO.none _
   | refine LeO.ite ?_ ?_
   | refine LeO.bind ?_ (fun _ => ?_)
def impl_BuildDisplaced.T16 : Bool × List (List Nat × List Nat) := (true, [([], []), ([], []), ([], []), ([], []), ([2, 3], [2, 3]), ([4], [4]), ([], []), ([6], [6]), ([], []), ([7, 8], [7, 8]), ([9], [9]), ([], []), ([], []), ([0, 1, 5, 10, 11, 12], [0, 1, 5, 10, 11, 12]), ([13], [13]), ([14], [14]), ([14], [14]), ([15, 13, 0, 1, 2, 3, 4, 5, 6, 7, 8, 9, 10, 11, 12, 13, 14, 15], [15]), ([16, 17, 0, 1, 2, 3, 4, 5, 6, 7, 8, 9, 10, 11, 12, 13, 14, 15, 16, 17], [16])])
def impl_BuildDisplaced.B16 : List Nat := [0, 0, 0, 0, 12, 28, 0, 64, 0, 448, 960, 0, 0, 8191, 16383, 32767, 32767, 65535, 262143]
theorem impl_BuildDisplaced.tab16 : rtab .any (opsOf Try.f7 16) = impl_BuildDisplaced.T16 := by kernel_rfl
theorem impl_BuildDisplaced.bits16 : waitsOk impl_BuildDisplaced.T16.2 impl_BuildDisplaced.B16 = true := by kernel_rfl
set_option maxHeartbeats 8000000 in
set_option maxRecDepth 100000 in
theorem impl_BuildDisplaced.calls (k : Nat) (a0 : Int) (A1 : Option Addr) (c1 : Nat) (l1 : List ByteArray) (a2 : Int) (a3 : Int) (r1 : Int) (r2 : Int) (r3 : Int) (r4 : List Int) (r5 : Bool) (w : World) (hr1 : Kd.C Kd.string w A1 l1.length l1) (hc1 : l1.length ≤ c1) (h : impl_BuildDisplaced.f k a0 l1 a2 a3 = some (r1, r2, r3, r4, r5)) :
  Calls Try.prog 7 #[.int .i64 a0, .slice A1 l1.length c1, .int .i64 a2, .int .i64 a3] w fun e w' => ∃ v3_ : Value, e = .returned (.tuple #[.agg #[.int .i64 r1, .int .i64 r2, .int .i64 r3, v3_], .bool r5]) ∧ Kd.R (Kd.int .i64) 3 w' w.heap.size (fun _ => True) v3_ r4 ∧ Below w.heap.size w w' := by
 have hu26 := Try.underlying26
 have hu36 := Try.underlying36
 have hmf : ∀ (fn : Fn) (first cap : Array Value) (w : World), (Instr.makeFunc fn first cap).run Try.prog w = .ok (.func fn first cap) w := fun _ _ _ _ => rfl
 have HR1 := Aside0.mk hr1
 have HC1 := Aside0.mk hc1
 clear hr1 hc1
 have HB := Aside0.mk (Below.refl w.heap.size w)
 have H : ((impl_isSeed.f a0).bind fun t258 => (if t258 = true then ((impl_AreKeys.f k l1).bind fun t259 => (if t259 = true then ((impl_in.f a2 1 24).bind fun t260 => (if t260 = true then ((impl_in.f a3 1 64).bind fun t261 => (impl_BuildDisplaced.j0 k a0 l1 a2 a3 (!t261))) else (impl_BuildDisplaced.j0 k a0 l1 a2 a3 true))) else (impl_BuildDisplaced.j0 k a0 l1 a2 a3 true))) else (impl_BuildDisplaced.j0 k a0 l1 a2 a3 true))) = some (r1, r2, r3, r4, r5) := h
 clear h
 have HC5 := Aside0.mk H
 clear H
 go_enter Try.func7, Try.ntmps7
 go_upto_region 1 with (first | ((with_reducible refine gate_dst (N := 8) rfl ?_); refine box_event ?hg (N := 8) ?hd (cs := #[.int .i64 0, .int .i64 0, .int .i64 0, .slice none 0 0]) (t := 26) ?hr ?_; (case hd => rfl); (case hg => rfl); (case hr => first | (go_simp; done) | (go_simp; rfl)); intro gb257 hg w6 hbox hb; have n0_ := Aside0.mk (below_step (uB HB) hb); have n1_ := Aside0.mk (hbox); have n2_ := Aside0.mk ((by rw [hg]; exact (below_size (uB HB)) : w.heap.size ≤ gb257)); have n3_ := Aside0.mk ((by rw [hg]; exact (below_size (uB HB)) : w.heap.size ≤ gb257)); clear HB; have HB := n0_; have BK257 := n1_; have GW257 := n2_; have GE257 := n3_; clear n0_ n1_ n2_ n3_; clear hb hbox hg))
 (try simp only [Act.put, List.setIfInBounds_toArray, List.set_cons_zero, List.set_cons_succ])
 go_cut [38] (fun v38 wc => ∃ (kq : Nat) (x38_4 : Bool), v38 = .bool x38_4 ∧ Aside0 (impl_BuildDisplaced.j0 kq a0 l1 a2 a3 x38_4 = some (r1, r2, r3, r4, r5)) ∧ Aside0 (kq ≤ k) ∧ Aside0 (wc.heap[gb257]? = some (.cells #[.int .i64 0, .int .i64 0, .int .i64 0, (.slice none 0 0)] 26 (0, 0))) ∧ Aside0 (Below w.heap.size w wc))
 case first =>
  have H := HC5.out
  clear HC5
  replace H := Option.bind_eq_some_iff.mp H
  obtain ⟨t258, A70, H⟩ := H
  replace H : (if t258 = true then ((impl_AreKeys.f k l1).bind fun t259 => (if t259 = true then ((impl_in.f a2 1 24).bind fun t260 => (if t260 = true then ((impl_in.f a3 1 64).bind fun t261 => (impl_BuildDisplaced.j0 k a0 l1 a2 a3 (!t261))) else (impl_BuildDisplaced.j0 k a0 l1 a2 a3 true))) else (impl_BuildDisplaced.j0 k a0 l1 a2 a3 true))) else (impl_BuildDisplaced.j0 k a0 l1 a2 a3 true)) = some (r1, r2, r3, r4, r5) := H
  have A7 := Aside0.mk A70
  clear A70
  by_cases c8 : t258 = true
  ·
   subst c8
   have H1 : ((impl_AreKeys.f k l1).bind fun t259 => (if t259 = true then ((impl_in.f a2 1 24).bind fun t260 => (if t260 = true then ((impl_in.f a3 1 64).bind fun t261 => (impl_BuildDisplaced.j0 k a0 l1 a2 a3 (!t261))) else (impl_BuildDisplaced.j0 k a0 l1 a2 a3 true))) else (impl_BuildDisplaced.j0 k a0 l1 a2 a3 true))) = some (r1, r2, r3, r4, r5) := by rw [if_pos rfl] at H; exact H
   clear H
   have H := H1
   clear H1
   replace H := Option.bind_eq_some_iff.mp H
   obtain ⟨t259, A90, H⟩ := H
   replace H : (if t259 = true then ((impl_in.f a2 1 24).bind fun t260 => (if t260 = true then ((impl_in.f a3 1 64).bind fun t261 => (impl_BuildDisplaced.j0 k a0 l1 a2 a3 (!t261))) else (impl_BuildDisplaced.j0 k a0 l1 a2 a3 true))) else (impl_BuildDisplaced.j0 k a0 l1 a2 a3 true)) = some (r1, r2, r3, r4, r5) := H
   have A9 := Aside0.mk A90
   clear A90
   by_cases c10 : t259 = true
   ·
    subst c10
    have H1 : ((impl_in.f a2 1 24).bind fun t260 => (if t260 = true then ((impl_in.f a3 1 64).bind fun t261 => (impl_BuildDisplaced.j0 k a0 l1 a2 a3 (!t261))) else (impl_BuildDisplaced.j0 k a0 l1 a2 a3 true))) = some (r1, r2, r3, r4, r5) := by rw [if_pos rfl] at H; exact H
    clear H
    have H := H1
    clear H1
    replace H := Option.bind_eq_some_iff.mp H
    obtain ⟨t260, A110, H⟩ := H
    replace H : (if t260 = true then ((impl_in.f a3 1 64).bind fun t261 => (impl_BuildDisplaced.j0 k a0 l1 a2 a3 (!t261))) else (impl_BuildDisplaced.j0 k a0 l1 a2 a3 true)) = some (r1, r2, r3, r4, r5) := H
    have A11 := Aside0.mk A110
    clear A110
    by_cases c12 : t260 = true
    ·
     subst c12
     have H1 : ((impl_in.f a3 1 64).bind fun t261 => (impl_BuildDisplaced.j0 k a0 l1 a2 a3 (!t261))) = some (r1, r2, r3, r4, r5) := by rw [if_pos rfl] at H; exact H
     clear H
     have H := H1
     clear H1
     replace H := Option.bind_eq_some_iff.mp H
     obtain ⟨t261, A130, H⟩ := H
     replace H : (impl_BuildDisplaced.j0 k a0 l1 a2 a3 (!t261)) = some (r1, r2, r3, r4, r5) := H
     have A13 := Aside0.mk A130
     clear A130
     have H' := Aside0.mk H
     clear H
     go_wp2_with (first | ((with_reducible refine gate_callee (f := 18) rfl ?_); refine goesL_ (some 22) rfl rfl Try.func18 (by kernel_rfl) rfl #[.int .i64 a0] rfl (by (try simp only [List.map_toArray, List.map_cons, List.map_nil]); first | done | rfl | (simp only [List.length_drop, List.length_take]; rfl)) ?_; (with_reducible refine (impl_isSeed.calls a0 true _ A7.out).mono ?_); rintro e w' ⟨rfl, ⟨nd, rfl⟩⟩; refine ⟨_, rfl, ?_⟩) | (go_at_call 19; (with_reducible refine (impl_AreKeys.calls k _ _ l1 true _ ?side1 ?side2 A9.out).mono ?_); (case side1 => repeat (first | exact (Kd.C_below HR1.out (by repeat (first | (with_reducible first | exact HB.out | apply below_alloc | apply pw_below_drewN | apply below_drew1 | refine below_set ?_ GE257.out) | exact HB.out))) | (with_reducible refine Kd.C_alloc ?_ _) | (with_reducible refine Kd.C_drewN ?_ _) | (with_reducible refine Kd.C_drew ?_))); (case side2 => exact HC1.out); rintro e w' ⟨rfl, ⟨nd, rfl⟩⟩) | (go_at_call 20; (with_reducible refine (impl_in.calls a2 1 24 true _ A11.out).mono ?_); rintro e w' ⟨rfl, ⟨nd, rfl⟩⟩) | (go_at_call 20; (with_reducible refine (impl_in.calls a3 1 64 t261 _ A13.out).mono ?_); rintro e w' ⟨rfl, ⟨nd, rfl⟩⟩))
     go_meet
     case rel => exact ⟨_, (!t261), (by first | rfl | (simp; done) | (simp [*]; done)), H', ⟨by first | omega | exact Nat.le_refl _⟩, ⟨by refine uW ?_; exact BK257.out⟩, ⟨by repeat (first | (with_reducible first | exact HB.out | apply below_alloc | apply pw_below_drewN | apply below_drew1 | refine below_set ?_ GE257.out) | exact HB.out)⟩⟩
    ·
     replace c12 := Bool.eq_false_iff.mpr c12
     subst c12
     have H1 : (impl_BuildDisplaced.j0 k a0 l1 a2 a3 true) = some (r1, r2, r3, r4, r5) := by rw [if_neg (show ¬ (false = true) by decide)] at H; exact H
     clear H
     have H := H1
     clear H1
     have H' := Aside0.mk H
     clear H
     go_wp2_with (first | ((with_reducible refine gate_callee (f := 18) rfl ?_); refine goesL_ (some 22) rfl rfl Try.func18 (by kernel_rfl) rfl #[.int .i64 a0] rfl (by (try simp only [List.map_toArray, List.map_cons, List.map_nil]); first | done | rfl | (simp only [List.length_drop, List.length_take]; rfl)) ?_; (with_reducible refine (impl_isSeed.calls a0 true _ A7.out).mono ?_); rintro e w' ⟨rfl, ⟨nd, rfl⟩⟩; refine ⟨_, rfl, ?_⟩) | (go_at_call 19; (with_reducible refine (impl_AreKeys.calls k _ _ l1 true _ ?side1 ?side2 A9.out).mono ?_); (case side1 => repeat (first | exact (Kd.C_below HR1.out (by repeat (first | (with_reducible first | exact HB.out | apply below_alloc | apply pw_below_drewN | apply below_drew1 | refine below_set ?_ GE257.out) | exact HB.out))) | (with_reducible refine Kd.C_alloc ?_ _) | (with_reducible refine Kd.C_drewN ?_ _) | (with_reducible refine Kd.C_drew ?_))); (case side2 => exact HC1.out); rintro e w' ⟨rfl, ⟨nd, rfl⟩⟩) | (go_at_call 20; (with_reducible refine (impl_in.calls a2 1 24 false _ A11.out).mono ?_); rintro e w' ⟨rfl, ⟨nd, rfl⟩⟩))
     go_meet
     case rel => exact ⟨_, (true), (by first | rfl | (simp; done) | (simp [*]; done)), H', ⟨by first | omega | exact Nat.le_refl _⟩, ⟨by refine uW ?_; exact BK257.out⟩, ⟨by repeat (first | (with_reducible first | exact HB.out | apply below_alloc | apply pw_below_drewN | apply below_drew1 | refine below_set ?_ GE257.out) | exact HB.out)⟩⟩
   ·
    replace c10 := Bool.eq_false_iff.mpr c10
    subst c10
    have H1 : (impl_BuildDisplaced.j0 k a0 l1 a2 a3 true) = some (r1, r2, r3, r4, r5) := by rw [if_neg (show ¬ (false = true) by decide)] at H; exact H
    clear H
    have H := H1
    clear H1
    have H' := Aside0.mk H
    clear H
    go_wp2_with (first | ((with_reducible refine gate_callee (f := 18) rfl ?_); refine goesL_ (some 22) rfl rfl Try.func18 (by kernel_rfl) rfl #[.int .i64 a0] rfl (by (try simp only [List.map_toArray, List.map_cons, List.map_nil]); first | done | rfl | (simp only [List.length_drop, List.length_take]; rfl)) ?_; (with_reducible refine (impl_isSeed.calls a0 true _ A7.out).mono ?_); rintro e w' ⟨rfl, ⟨nd, rfl⟩⟩; refine ⟨_, rfl, ?_⟩) | (go_at_call 19; (with_reducible refine (impl_AreKeys.calls k _ _ l1 false _ ?side1 ?side2 A9.out).mono ?_); (case side1 => repeat (first | exact (Kd.C_below HR1.out (by repeat (first | (with_reducible first | exact HB.out | apply below_alloc | apply pw_below_drewN | apply below_drew1 | refine below_set ?_ GE257.out) | exact HB.out))) | (with_reducible refine Kd.C_alloc ?_ _) | (with_reducible refine Kd.C_drewN ?_ _) | (with_reducible refine Kd.C_drew ?_))); (case side2 => exact HC1.out); rintro e w' ⟨rfl, ⟨nd, rfl⟩⟩))
    go_meet
    case rel => exact ⟨_, (true), (by first | rfl | (simp; done) | (simp [*]; done)), H', ⟨by first | omega | exact Nat.le_refl _⟩, ⟨by refine uW ?_; exact BK257.out⟩, ⟨by repeat (first | (with_reducible first | exact HB.out | apply below_alloc | apply pw_below_drewN | apply below_drew1 | refine below_set ?_ GE257.out) | exact HB.out)⟩⟩
  ·
   replace c8 := Bool.eq_false_iff.mpr c8
   subst c8
   have H1 : (impl_BuildDisplaced.j0 k a0 l1 a2 a3 true) = some (r1, r2, r3, r4, r5) := by rw [if_neg (show ¬ (false = true) by decide)] at H; exact H
   clear H
   have H := H1
   clear H1
   have H' := Aside0.mk H
   clear H
   go_wp2_with (first | ((with_reducible refine gate_callee (f := 18) rfl ?_); refine goesL_ (some 22) rfl rfl Try.func18 (by kernel_rfl) rfl #[.int .i64 a0] rfl (by (try simp only [List.map_toArray, List.map_cons, List.map_nil]); first | done | rfl | (simp only [List.length_drop, List.length_take]; rfl)) ?_; (with_reducible refine (impl_isSeed.calls a0 false _ A7.out).mono ?_); rintro e w' ⟨rfl, ⟨nd, rfl⟩⟩; refine ⟨_, rfl, ?_⟩))
   go_meet
   case rel => exact ⟨_, (true), (by first | rfl | (simp; done) | (simp [*]; done)), H', ⟨by first | omega | exact Nat.le_refl _⟩, ⟨by refine uW ?_; exact BK257.out⟩, ⟨by repeat (first | (with_reducible first | exact HB.out | apply below_alloc | apply pw_below_drewN | apply below_drew1 | refine below_set ?_ GE257.out) | exact HB.out)⟩⟩
 case rest =>
  clear HC5
  try clear c1
  try clear p2
  try clear c7
  try clear c8
  try clear c10
  try clear c12
  obtain ⟨kq, x38_4, rfl, HA, HJ4, BK257, HB⟩ := hcut
  cases kq with
  | zero => exact absurd HA.out (by simp [impl_BuildDisplaced.j0])
  | succ kj4 =>
   have H := HA.out
   clear HA
   simp only [impl_BuildDisplaced.j0] at H
   by_cases c14 : x38_4 = true
   ·
    subst c14
    have H1 : (some (0, 0, 0, ([] : List Int), false)) = some (r1, r2, r3, r4, r5) := by rw [if_pos rfl] at H; exact H
    clear H
    have H := H1
    clear H1
    simp only [Option.some.injEq, Prod.mk.injEq] at H
    obtain ⟨rfl, rfl, rfl, rfl, rfl⟩ := H
    have hcz15_0 : wc.cell? ⟨gb257, 0, none⟩ = some (.int .i64 0) := (blk_cell BK257.out 0).trans rfl
    have hcz15_1 : wc.cell? ⟨gb257, 1, none⟩ = some (.int .i64 0) := (blk_cell BK257.out 1).trans rfl
    have hcz15_2 : wc.cell? ⟨gb257, 2, none⟩ = some (.int .i64 0) := (blk_cell BK257.out 2).trans rfl
    have hcz15_3 : wc.cell? ⟨gb257, 3, none⟩ = some (.slice none 0 0) := (blk_cell BK257.out 3).trans rfl
    have hfz15_0 := blk_frozen BK257.out 0
    have hfz15_1 := blk_frozen BK257.out 1
    have hfz15_2 := blk_frozen BK257.out 2
    have hfz15_3 := blk_frozen BK257.out 3
    go_wp2
    refine bodyPost_ret (results_ct rfl _ _ gb257 26 #[.int .i64 0, .int .i64 0, .int .i64 0, .slice none 0 0] (0, 0) _ rfl (by refine uW ?_; refine blk_put (cs := #[.int .i64 0, .int .i64 0, .int .i64 0, .slice none 0 0]) ?_ 3 _ rfl; refine uW ?_; refine blk_put (cs := #[.int .i64 0, .int .i64 0, .int .i64 0, .slice none 0 0]) ?_ 2 _ rfl; refine uW ?_; refine blk_put (cs := #[.int .i64 0, .int .i64 0, .int .i64 0, .slice none 0 0]) ?_ 1 _ rfl; refine uW ?_; refine blk_put (cs := #[.int .i64 0, .int .i64 0, .int .i64 0, .slice none 0 0]) ?_ 0 _ rfl; refine uW ?_; exact BK257.out) Try.underlying26 rfl (by kernel_rfl)) rfl ?_
    exact ⟨_, by first | rfl | (simp [errW_none, errW_some] <;> rfl) | (simp [*, errW_none, errW_some] <;> rfl), by first | exact Kd.R_nil _ _ _ _ _ | exact Kd.N_nil _ _ _ _ _ | exact Kd.V_nil _ _ _ _ _ | exact Kd.Q_nil _ _ _ _ _ | exact Kd.S_nil _ _ _ _ _, by repeat (first | (with_reducible first | exact HB.out | apply below_alloc | apply pw_below_drewN | apply below_drew1 | refine below_set ?_ GE257.out) | exact HB.out)⟩
   ·
    replace c14 := Bool.eq_false_iff.mpr c14
    subst c14
    have H1 : ((impl_buckets.f kj4 a0 l1 a2).bind fun t262 => (impl_BuildDisplaced.l0 kj4 a0 l1 a2 a3 (([] : List Int)) (([] : List Int)) (t262.length : Int) 0 t262)) = some (r1, r2, r3, r4, r5) := by rw [if_neg (show ¬ (false = true) by decide)] at H; exact H
    clear H
    have H := H1
    clear H1
    replace H := Option.bind_eq_some_iff.mp H
    obtain ⟨t262, A160, H⟩ := H
    replace H : (impl_BuildDisplaced.l0 kj4 a0 l1 a2 a3 (([] : List Int)) (([] : List Int)) (t262.length : Int) 0 t262) = some (r1, r2, r3, r4, r5) := H
    have A16 := Aside0.mk A160
    clear A160
    obtain ⟨y265, hy265⟩ : ∃ y_ : List Int, y_ = (([] : List Int)) := ⟨_, rfl⟩
    replace H : (impl_BuildDisplaced.l0 kj4 a0 l1 a2 a3 y265 (([] : List Int)) (t262.length : Int) 0 t262) = some (r1, r2, r3, r4, r5) := by first | (rw [hy265]; with_reducible exact H) | (have H2_ := (Option.bind_some _ _).symm.trans H; rw [hy265]; with_reducible exact H2_) | (have H2_ := (Option.bind_some _ _).symm.trans H; with_reducible exact H2_) | with_reducible exact H | (rw [hy265]; exact H) | exact H
    have Ny265 := Aside0.mk hy265
    clear hy265
    obtain ⟨y268, hy268⟩ : ∃ y_ : List Int, y_ = (([] : List Int)) := ⟨_, rfl⟩
    replace H : (impl_BuildDisplaced.l0 kj4 a0 l1 a2 a3 y265 y268 (t262.length : Int) 0 t262) = some (r1, r2, r3, r4, r5) := by first | (rw [hy268]; with_reducible exact H) | (have H2_ := (Option.bind_some _ _).symm.trans H; rw [hy268]; with_reducible exact H2_) | (have H2_ := (Option.bind_some _ _).symm.trans H; with_reducible exact H2_) | with_reducible exact H | (rw [hy268]; exact H) | exact H
    have Ny268 := Aside0.mk hy268
    clear hy268
    have H' := Aside0.mk H
    clear H
    go_wp2_with (first | ((with_reducible refine gate_callee (f := 21) rfl ?_); refine goesL_ (some 43) rfl rfl Try.func21 (by kernel_rfl) rfl #[.int .i64 a0, .slice A1 l1.length c1, .int .i64 a2] rfl (by (try simp only [List.map_toArray, List.map_cons, List.map_nil]); first | done | rfl | (simp only [List.length_drop, List.length_take]; rfl)) ?_; (with_reducible refine (impl_buckets.calls kj4 a0 _ _ l1 a2 t262 _ ?side1 ?side2 A16.out).mono ?_); (case side1 => exact uC HR1 HB); (case side2 => exact HC1.out); rintro e w17 ⟨v263, rfl, ho0, hb⟩; refine ⟨_, rfl, ?_⟩; have n0_ := Aside0.mk (Kd.S_lower ho0 (below_size (by repeat (first | (with_reducible first | exact HB.out | apply below_alloc | apply pw_below_drewN | apply below_drew1 | refine below_set ?_ GE257.out) | exact HB.out)))); have n1_ := Aside0.mk (blk_below (g := gb257) (o := .cells #[.int .i64 0, .int .i64 0, .int .i64 0, .slice none 0 0] 26 (0, 0)) (uK BK257) hb); have n2_ := Aside0.mk (below_step (by repeat (first | (with_reducible first | exact HB.out | apply below_alloc | apply pw_below_drewN | apply below_drew1 | refine below_set ?_ GE257.out) | exact HB.out)) hb); clear BK257 HB; have HO264 := n0_; have BK257 := n1_; have HB := n2_; clear n0_ n1_ n2_; (try clear hb); (try clear hb2); (try clear hk); (try clear hi); (try clear ho0)) | ((with_reducible refine gate_dst (N := 44) rfl ?_); refine Kd.R_lit (Kd.int .i64) _ 3 ?hg (N := 44) ?hd (xs := ([] : List Int)) (inner := []) (ok := fun _ => True) (okp := fun _ => True) ?hr ?hp (fun _ hk => hk) trivial (Below.refl _ _) (Nat.le_refl _) (by simp) ?_; (case hd => rfl); (case hg => rfl); (case hr => first | (go_simp; done) | (go_simp; rfl)); (case hp => exact (Reps.none _ _)); intro v266 w18 ho19 hb hg_ hnew_; clear hg_ hnew_; (first | rw [← Ny265.out] at ho19 | (simp only [Int.reduceToNat] at ho19; rw [← Ny265.out] at ho19)); have n0_ := Aside0.mk (Kd.S_elder' (by (with_reducible repeat (first | apply Kd.S_alloc | apply Kd.S_drewN | apply Kd.S_drew)); exact HO264.out) (Kd.R_base ho19) hb); have n1_ := Aside0.mk (Kd.R_lower ho19 (below_size (by repeat (first | (with_reducible first | exact HB.out | apply below_alloc | apply pw_below_drewN | apply below_drew1 | refine below_set ?_ GE257.out) | exact HB.out)))); have n2_ := Aside0.mk (blk_below (g := gb257) (o := .cells #[.int .i64 0, .int .i64 0, .int .i64 0, .slice none 0 0] 26 (0, 0)) (uK BK257) hb); have n3_ := Aside0.mk (below_step (by repeat (first | (with_reducible first | exact HB.out | apply below_alloc | apply pw_below_drewN | apply below_drew1 | refine below_set ?_ GE257.out) | exact HB.out)) hb); clear HO264 BK257 HB; have HO264 := n0_; have HO267 := n1_; have BK257 := n2_; have HB := n3_; clear n0_ n1_ n2_ n3_; clear hb ho19) | ((with_reducible refine gate_dst (N := 45) rfl ?_); refine make_step rfl rfl ?_; intro b269 w20 ho21 hb; rw [← Ny268.out] at ho21; have n0_ := Aside0.mk (Kd.S_elder' (by (with_reducible repeat (first | apply Kd.S_alloc | apply Kd.S_drewN | apply Kd.S_drew)); exact HO264.out) (MR_base ho21) hb); have n1_ := Aside0.mk (Kd.R_elder' (uR HO267) (MR_base ho21) hb); have n2_ := Aside0.mk (MR_lower (MR_new' ho21 (Kd.R_lt (uR HO267))) (below_size (by repeat (first | (with_reducible first | exact HB.out | apply below_alloc | apply pw_below_drewN | apply below_drew1 | refine below_set ?_ GE257.out) | exact HB.out)))); have n3_ := Aside0.mk (blk_below (g := gb257) (o := .cells #[.int .i64 0, .int .i64 0, .int .i64 0, .slice none 0 0] 26 (0, 0)) (uK BK257) hb); have n4_ := Aside0.mk (below_step (by repeat (first | (with_reducible first | exact HB.out | apply below_alloc | apply pw_below_drewN | apply below_drew1 | refine below_set ?_ GE257.out) | exact HB.out)) hb); clear HO264 HO267 BK257 HB; have HO264 := n0_; have HO267 := n1_; have HO270 := n2_; have BK257 := n3_; have HB := n4_; clear n0_ n1_ n2_ n3_ n4_; clear hb ho21) | ((with_reducible refine gate_dst (N := 10) rfl ?_); refine box_event ?hg (N := 10) ?hd (cs := #[.slice none 0 0]) (t := 36) ?hr ?_; (case hd => rfl); (case hg => rfl); (case hr => first | (go_simp; done) | (go_simp; rfl)); intro gb271 hg w22 hbox hb; have n0_ := Aside0.mk (Kd.S_below (by (with_reducible repeat (first | apply Kd.S_alloc | apply Kd.S_drewN | apply Kd.S_drew)); exact HO264.out) hb); have n1_ := Aside0.mk (Kd.R_below (uR HO267) hb); have n2_ := Aside0.mk (MR_below (uM HO270) hb); have n3_ := Aside0.mk (blk_below (g := gb257) (o := .cells #[.int .i64 0, .int .i64 0, .int .i64 0, .slice none 0 0] 26 (0, 0)) (uK BK257) hb); have n4_ := Aside0.mk (below_step (by repeat (first | (with_reducible first | exact HB.out | apply below_alloc | apply pw_below_drewN | apply below_drew1 | refine below_set ?_ GE257.out) | exact HB.out)) hb); have n5_ := Aside0.mk (hbox); have n6_ := Aside0.mk ((by rw [hg]; exact (below_size (by repeat (first | (with_reducible first | exact HB.out | apply below_alloc | apply pw_below_drewN | apply below_drew1 | refine below_set ?_ GE257.out) | exact HB.out))) : w.heap.size ≤ gb271)); have n7_ := Aside0.mk ((by rw [hg]; exact (below_size (by repeat (first | (with_reducible first | exact HB.out | apply below_alloc | apply pw_below_drewN | apply below_drew1 | refine below_set ?_ GE257.out) | exact HB.out))) : w.heap.size ≤ gb271)); have n8_ := Aside0.mk ((by rw [hg]; exact Nat.ne_of_lt (blk_lt (g := gb257) (o := .cells #[.int .i64 0, .int .i64 0, .int .i64 0, .slice none 0 0] 26 (0, 0)) (uK BK257)) : gb257 ≠ gb271)); have n9_ := Aside0.mk ((by rw [hg]; exact Nat.ne_of_gt (blk_lt (g := gb257) (o := .cells #[.int .i64 0, .int .i64 0, .int .i64 0, .slice none 0 0] 26 (0, 0)) (uK BK257)) : gb271 ≠ gb257)); clear HO264 HO267 HO270 BK257 HB; have HO264 := n0_; have HO267 := n1_; have HO270 := n2_; have BK257 := n3_; have HB := n4_; have BK271 := n5_; have GW271 := n6_; have GE271 := n7_; have NB257_271 := n8_; have NB271_257 := n9_; clear n0_ n1_ n2_ n3_ n4_ n5_ n6_ n7_ n8_ n9_ hb hbox hg; obtain ⟨Ao23, co23, eo23⟩ := Kd.S_slice HO264.out; subst eo23; have hnb24 := NB271_257.out; have hnc24 := NB257_271.out; have hcz25_0 : w22.cell? ⟨gb271, 0, none⟩ = some (.slice none 0 0) := (blk_cell BK271.out 0).trans rfl; have hfz25_0 := blk_frozen BK271.out 0))
    go_loopg [11, 48] kj4 (fun kq v11 v48 w' => ∃ (x11_2 : List Int) (x48_2 : Int), v48 = .int .i64 x48_2 ∧ Aside0 (impl_BuildDisplaced.l0 kq a0 l1 a2 a3 x11_2 y268 (t262.length : Int) x48_2 t262 = some (r1, r2, r3, r4, r5)) ∧ Aside0 (kq ≤ kj4) ∧ Aside0 (Kd.R (Kd.int .i64) 3 w' w.heap.size (fun k_ => some k_ ≠ ((.map (some b269)) : Value).ownBlock) v11 x11_2) ∧ Aside0 (MapR w' w.heap.size (fun k_ => some k_ ≠ (v11 : Value).ownBlock) (.map (some b269)) y268) ∧ Aside0 (Kd.S (Kd.slice 3 (Kd.int .i64)) 24 w' w.heap.size (fun k_ => some k_ ≠ (v11 : Value).ownBlock ∧ some k_ ≠ ((.map (some b269)) : Value).ownBlock) (.slice Ao23 t262.length co23) t262) ∧ Aside0 (w'.heap[gb257]? = some (.cells #[.int .i64 0, .int .i64 0, .int .i64 0, (.slice none 0 0)] 26 (0, 0))) ∧ Aside0 (w'.heap[gb271]? = some (.cells #[(.slice Ao23 t262.length co23)] 36 (0, 0))) ∧ Aside0 (Below w.heap.size w w'))
    case atStart => exact ⟨(y265), (0), (by first | rfl | (simp; done) | (simp [*]; done)), H', ⟨Nat.le_refl _⟩, ⟨by (with_reducible repeat (first | apply Kd.R_alloc | apply Kd.R_drewN | apply Kd.R_drew)); exact Kd.R_mono (Kd.R_far (p := ⟨gb271, 0, none⟩) (Kd.R_types HO267.out BK271.out (by decide)) (fun _ hk => hk.2) (.slice Ao23 t262.length co23)) (fun _ hk => hk.1.2)⟩, ⟨by (with_reducible repeat (first | apply MR_alloc | apply MR_drewN | apply MR_drew)); exact MR_mono (MR_far (p := ⟨gb271, 0, none⟩) (MR_types HO270.out BK271.out trivial) (fun _ hk => hk.2) (.slice Ao23 t262.length co23)) (fun _ hk => hk.1.2)⟩, ⟨by (with_reducible repeat (first | apply Kd.S_alloc | apply Kd.S_drewN | apply Kd.S_drew)); exact Kd.S_mono (Kd.S_far (p := ⟨gb271, 0, none⟩) (Kd.S_types HO264.out BK271.out (by decide)) (fun _ hk => hk.2) (.slice Ao23 t262.length co23)) (fun _ hk => ⟨hk.1.1.2, hk.1.2⟩)⟩, ⟨by refine uW ?_; refine blk_far ?_ NB257_271.out _; refine uW ?_; exact BK257.out⟩, ⟨by refine uW ?_; refine blk_put (cs := #[.slice none 0 0]) ?_ 0 _ rfl; refine uW ?_; exact BK271.out⟩, ⟨by repeat (first | (with_reducible first | exact HB.out | apply below_alloc | apply pw_below_drewN | apply below_drew1 | refine below_set ?_ GE257.out | refine below_set ?_ GE271.out) | exact HB.out)⟩⟩
    case round =>
     clear H'
     try clear c1
     try clear c2
     try clear p2
     try clear c7
     try clear c8
     try clear c10
     try clear c12
     try clear c14
     try clear c18
     try clear c21
     try clear c24
     try clear hcz15_0
     try clear hcz15_1
     try clear hcz15_2
     try clear hcz15_3
     try clear hcz25_0
     try clear hfz15_0
     try clear hfz15_1
     try clear hfz15_2
     try clear hfz15_3
     try clear hfz25_0
     try clear p2
     try clear HO_11
     try clear HO_12
     try clear HO_272000
     obtain ⟨x11_2, x48_2, rfl, HA, HK2, HO_11, HO_12, HO_272000, BK257, BK271, HB⟩ := hrel
     cases gk with
     | zero => exact absurd HA.out (by simp [impl_BuildDisplaced.l0])
     | succ k2 =>
      have H := HA.out
      clear HA
      simp only [impl_BuildDisplaced.l0] at H
      by_cases c26 : x48_2 < (t262.length : Int)
      ·
       rw [if_pos c26] at H
       have c26b0 : decide (x48_2 < (t262.length : Int)) = true := decide_eq_true c26
       clear c26
       by_cases c27 : x11_2.length < 17592186044416
       ·
        rw [if_pos c27] at H
        have LMc27 := Aside0.mk c27
        clear c27
        obtain ⟨y272, hy272⟩ : ∃ y_ : List Int, y_ = (x11_2 ++ [x48_2]) := ⟨_, rfl⟩
        replace H : (impl_BuildDisplaced.l0 k2 a0 l1 a2 a3 y272 y268 (t262.length : Int) (wrap64 (x48_2 + 1)) t262) = some (r1, r2, r3, r4, r5) := by first | (rw [hy272]; with_reducible exact H) | (have H2_ := (Option.bind_some _ _).symm.trans H; rw [hy272]; with_reducible exact H2_) | (have H2_ := (Option.bind_some _ _).symm.trans H; with_reducible exact H2_) | with_reducible exact H | (rw [hy272]; exact H) | exact H
        have Ny272 := Aside0.mk hy272
        clear hy272
        have H' := Aside0.mk H
        clear H
        go_wp2_with (first | ((with_reducible refine gate_builtin (b := .append) (xs := #[.tmp 51, .tmp 53]) rfl ?_); at_builtin; refine Kd.R_append (Kd.int .i64) (w0 := w) w.heap.size rfl (.tmp 51) (.tmp 53) 24 3 (.int .i64 0) 8 rfl Try.underlying24 info3 rfl (by decide) (by omega) u11 x11_2 x48_2 [.int .i64 x48_2] (fun k_ => some k_ ≠ ((.map (some b269)) : Value).ownBlock) (fun _ => False) rfl rfl ?aP (fun _ hk => hk.elim) ?aF ?aO ?aB ?aS ?aL ?_; (case aP => exact rfl); (case aB => exact (by repeat (first | (with_reducible first | exact HB.out | apply below_alloc | apply pw_below_drewN | apply below_drew1 | refine below_set ?_ GE257.out | refine below_set ?_ GE271.out) | exact HB.out))); (case aF => exact (fun k_ hk => Kd.fresh' (MR_lt (uM HO_12)) k_ hk)); (case aO => exact (uR HO_11)); (case aS => exact (below_size (by repeat (first | (with_reducible first | exact HB.out | apply below_alloc | apply pw_below_drewN | apply below_drew1 | refine below_set ?_ GE257.out | refine below_set ?_ GE271.out) | exact HB.out)))); (case aL => have := LMc27.out; omega); intro v273 w28 ho hb hg hat; rw [← Ny272.out] at ho; have n0_ := Aside0.mk (MR_after (ok := (fun _ => True)) (uM HO_12) (uR HO_11) hg hat); have n1_ := Aside0.mk (Kd.S_after (ok := (fun k_ => some k_ ≠ ((.map (some b269)) : Value).ownBlock)) (by (with_reducible repeat (first | apply Kd.S_alloc | apply Kd.S_drewN | apply Kd.S_drew)); exact Kd.S_mono HO_272000.out (fun _ hk => ⟨hk.2, hk.1⟩)) hg hat); have n2_ := Aside0.mk (blk_grown (g := gb257) (o := .cells #[.int .i64 0, .int .i64 0, .int .i64 0, .slice none 0 0] 26 (0, 0)) (uK BK257) hg (Kd.R_ne HO_11.out BK257.out (by decide))); have n3_ := Aside0.mk (blk_grown (g := gb271) (o := .cells #[.slice Ao23 t262.length co23] 36 (0, 0)) (uK BK271) hg (Kd.R_ne HO_11.out BK271.out (by decide))); have n4_ := Aside0.mk (hb); have n5_ := Aside0.mk (ho); clear HO_12 HO_272000 BK257 BK271 HB HO_11; have HO_12 := n0_; have HO_272000 := n1_; have BK257 := n2_; have BK271 := n3_; have HB := n4_; have HO274 := n5_; clear n0_ n1_ n2_ n3_ n4_ n5_; clear ho hb hg hat))
        go_roundg k2
        case measure => have := HJ4.out; have := HK2.out; omega
        case rel => exact ⟨(y272), (wrap64 (x48_2 + 1)), (by first | rfl | (simp; done) | (simp [*]; done)), H', ⟨by have := HJ4.out; have := HK2.out; omega⟩, ⟨by (with_reducible repeat (first | apply Kd.R_alloc | apply Kd.R_drewN | apply Kd.R_drew)); exact HO274.out⟩, ⟨by (with_reducible repeat (first | apply MR_alloc | apply MR_drewN | apply MR_drew)); exact MR_mono HO_12.out (fun _ hk => hk.2)⟩, ⟨by (with_reducible repeat (first | apply Kd.S_alloc | apply Kd.S_drewN | apply Kd.S_drew)); exact Kd.S_mono HO_272000.out (fun _ hk => ⟨hk.2, hk.1⟩)⟩, ⟨by refine uW ?_; exact BK257.out⟩, ⟨by refine uW ?_; exact BK271.out⟩, ⟨by repeat (first | (with_reducible first | exact HB.out | apply below_alloc | apply pw_below_drewN | apply below_drew1 | refine below_set ?_ GE257.out | refine below_set ?_ GE271.out) | exact HB.out)⟩⟩
       ·
        rw [if_neg c27] at H
        exact absurd H (by simp)
      ·
       rw [if_neg c26] at H
       have c26b0 : decide (x48_2 < (t262.length : Int)) = false := decide_eq_false c26
       clear c26
       replace H := Option.bind_eq_some_iff.mp H
       obtain ⟨t275, A290, H⟩ := H
       replace H : (if 0 ≤ a2 then (if (a2 : Int).toNat ≤ 35184372088832 then (impl_BuildDisplaced.l1 k2 a0 l1 a3 y268 t275 (x11_2.length : Int) 0 t262 a0 a2 a3 (List.replicate (a2 : Int).toNat 0)) else (none)) else (none)) = some (r1, r2, r3, r4, r5) := H
       have A29 := Aside0.mk A290
       clear A290
       by_cases c30 : 0 ≤ a2
       ·
        rw [if_pos c30] at H
        have c30b0 := eq_true c30
        have c30b1 : decide (0 ≤ a2) = true := decide_eq_true c30
        clear c30
        by_cases c31 : (a2 : Int).toNat ≤ 35184372088832
        ·
         rw [if_pos c31] at H
         have c31b0 := eq_true c31
         have c31b1 : decide ((a2 : Int).toNat ≤ 35184372088832) = true := decide_eq_true c31
         clear c31
         obtain ⟨y276, hy276⟩ : ∃ y_ : List Int, y_ = (List.replicate (a2 : Int).toNat 0) := ⟨_, rfl⟩
         replace H : (impl_BuildDisplaced.l1 k2 a0 l1 a3 y268 t275 (x11_2.length : Int) 0 t262 a0 a2 a3 y276) = some (r1, r2, r3, r4, r5) := by first | (rw [hy276]; with_reducible exact H) | (have H2_ := (Option.bind_some _ _).symm.trans H; rw [hy276]; with_reducible exact H2_) | (have H2_ := (Option.bind_some _ _).symm.trans H; with_reducible exact H2_) | with_reducible exact H | (rw [hy276]; exact H) | exact H
         have Ny276 := Aside0.mk hy276
         clear hy276
         have H' := Aside0.mk H
         clear H
         obtain ⟨Ao32, co32, eo32⟩ := Kd.R_slice HO_11.out
         subst eo32
         go_wp2_with (first | ((with_reducible refine gate_callee (f := 22) rfl ?_); refine goesL_ (some 58) rfl rfl Try.func22 (by kernel_rfl) rfl #[.slice Ao32 x11_2.length co32, .func (.func 23) #[] #[.pointer (some ⟨gb271, 0, none⟩)]] rfl (by (try simp only [List.map_toArray, List.map_cons, List.map_nil]); first | done | rfl | (simp only [List.length_drop, List.length_take]; rfl)) ?_; (with_reducible refine (slices_SortStableFunc_int_int_impl_BuildDisplacedc1.calls k2 (fun k_ => some k_ = (.slice Ao32 x11_2.length co32 : Value).ownBlock) (.slice Ao32 x11_2.length co32) x11_2 gb271 Ao23 co23 t262 t275 w _ ?side1 ?side2 ?side3 ?side4 ?side5 A29.out).mono ?_); (case side1 => repeat (first | (with_reducible first | exact HB.out | apply below_alloc | apply pw_below_drewN | apply below_drew1 | refine below_set ?_ GE257.out | refine below_set ?_ GE271.out) | exact HB.out)); (case side2 => exact (uK BK271)); (case side3 => exact Kd.R_tight rfl HO_11.out); (case side4 => exact Kd.C_kept_own ((Kd.S_R HO_272000.out)) (fun k_ hk_ hs_ => (hk_.1) hs_)); (case side5 => exact (Kd.S_reads' HO_272000.out).2.1); rintro e w33 ⟨rfl, hy0, hb, hkp⟩; refine ⟨_, rfl, ?_⟩; have n0_ := Aside0.mk (Kd.R_reok rfl hy0 (fun k_ e_ => HO_11.out.1 k_ e_)); have n1_ := Aside0.mk (MR_keptB (ok' := fun k_ => some k_ ≠ (.slice Ao32 x11_2.length co32 : Value).ownBlock) HO_12.out HO_11.out hkp (fun k_ hs_ => hs_)); have n2_ := Aside0.mk (Kd.S_mono (ok' := fun k_ => some k_ ≠ (.slice Ao32 x11_2.length co32 : Value).ownBlock ∧ some k_ ≠ ((.map (some b269)) : Value).ownBlock) (Kd.S_keptB (HO_272000.out) hkp (fun k_ hk_ hs_ => (hk_.1) hs_)) (fun k_ hk_ => ⟨hk_.1.1, hk_.1.2⟩)); have n3_ := Aside0.mk (blk_kept (uK BK257) hkp (fun hs_ => (fun e_ => (Kd.R_ne HO_11.out BK257.out (by decide)) e_) hs_)); have n4_ := Aside0.mk (blk_kept (uK BK271) hkp (fun hs_ => (fun e_ => (Kd.R_ne HO_11.out BK271.out (by decide)) e_) hs_)); have n5_ := Aside0.mk (hb); clear HO_11 HO_12 HO_272000 BK257 BK271 HB; have HO_11 := n0_; have HO_12 := n1_; have HO_272000 := n2_; have BK257 := n3_; have BK271 := n4_; have HB := n5_; clear n0_ n1_ n2_ n3_ n4_ n5_; (try clear hb); (try clear hkp); (try clear hy0)) | ((with_reducible refine gate_dst (N := 63) rfl ?_); refine Kd.R_make (Kd.int .i64) _ 3 rfl (N := 63) rfl 24 _ _ rfl a2 rfl rfl Try.underlying24 (.int .i64 0) 8 info3 rfl (by decide) (by omega) 0 (ok := fun _ => True) (okp := fun _ => True) rfl (fun _ hk => hk) trivial (of_decide_eq_true (by first | (with_reducible assumption) | assumption)) (Nat.le_trans (Nat.mul_le_mul_right _ (of_decide_eq_true (by first | (with_reducible assumption) | assumption) : a2.toNat ≤ 35184372088832)) (by omega)) (Below.refl _ _) (Nat.le_refl _) ?_; intro v277 w34 ho35 hb hg_ hnew_; clear hg_ hnew_; (first | rw [← Ny276.out] at ho35 | (simp only [Int.reduceToNat] at ho35; rw [← Ny276.out] at ho35)); have n0_ := Aside0.mk (Kd.R_elder' (uR HO_11) (Kd.R_base ho35) hb); have n1_ := Aside0.mk (MR_elder' (uM HO_12) (Kd.R_base ho35) hb); have n2_ := Aside0.mk (Kd.S_elder' (by (with_reducible repeat (first | apply Kd.S_alloc | apply Kd.S_drewN | apply Kd.S_drew)); exact HO_272000.out) (Kd.R_base ho35) hb); have n3_ := Aside0.mk (Kd.R_lower (Kd.R_new' (Kd.R_new' ho35 (Kd.R_lt (uR HO_11))) (MR_lt (uM HO_12))) (below_size (by repeat (first | (with_reducible first | exact HB.out | apply below_alloc | apply pw_below_drewN | apply below_drew1 | refine below_set ?_ GE257.out | refine below_set ?_ GE271.out) | exact HB.out)))); have n4_ := Aside0.mk (blk_below (g := gb257) (o := .cells #[.int .i64 0, .int .i64 0, .int .i64 0, .slice none 0 0] 26 (0, 0)) (uK BK257) hb); have n5_ := Aside0.mk (blk_below (g := gb271) (o := .cells #[.slice Ao23 t262.length co23] 36 (0, 0)) (uK BK271) hb); have n6_ := Aside0.mk (below_step (by repeat (first | (with_reducible first | exact HB.out | apply below_alloc | apply pw_below_drewN | apply below_drew1 | refine below_set ?_ GE257.out | refine below_set ?_ GE271.out) | exact HB.out)) hb); clear HO_11 HO_12 HO_272000 BK257 BK271 HB; have HO_11 := n0_; have HO_12 := n1_; have HO_272000 := n2_; have HO278 := n3_; have BK257 := n4_; have BK271 := n5_; have HB := n6_; clear n0_ n1_ n2_ n3_ n4_ n5_ n6_ hb ho35; obtain ⟨Ao36, co36, eo36⟩ := Kd.R_slice HO278.out; subst eo36) | ((with_reducible refine gate_dst (N := 14) rfl ?_); refine box_event ?hg (N := 14) ?hd (cs := #[.int .i64 0, .int .i64 0, .int .i64 0, .slice none 0 0]) (t := 26) ?hr ?_; (case hd => rfl); (case hg => rfl); (case hr => first | (go_simp; done) | (go_simp; rfl)); intro gb279 hg w37 hbox hb; have n0_ := Aside0.mk (Kd.R_below (uR HO_11) hb); have n1_ := Aside0.mk (MR_below (uM HO_12) hb); have n2_ := Aside0.mk (Kd.S_below (by (with_reducible repeat (first | apply Kd.S_alloc | apply Kd.S_drewN | apply Kd.S_drew)); exact HO_272000.out) hb); have n3_ := Aside0.mk (Kd.R_below (uR HO278) hb); have n4_ := Aside0.mk (blk_below (g := gb257) (o := .cells #[.int .i64 0, .int .i64 0, .int .i64 0, .slice none 0 0] 26 (0, 0)) (uK BK257) hb); have n5_ := Aside0.mk (blk_below (g := gb271) (o := .cells #[.slice Ao23 t262.length co23] 36 (0, 0)) (uK BK271) hb); have n6_ := Aside0.mk (below_step (by repeat (first | (with_reducible first | exact HB.out | apply below_alloc | apply pw_below_drewN | apply below_drew1 | refine below_set ?_ GE257.out | refine below_set ?_ GE271.out) | exact HB.out)) hb); have n7_ := Aside0.mk (hbox); have n8_ := Aside0.mk ((by rw [hg]; exact (below_size (by repeat (first | (with_reducible first | exact HB.out | apply below_alloc | apply pw_below_drewN | apply below_drew1 | refine below_set ?_ GE257.out | refine below_set ?_ GE271.out) | exact HB.out))) : w.heap.size ≤ gb279)); have n9_ := Aside0.mk ((by rw [hg]; exact (below_size (by repeat (first | (with_reducible first | exact HB.out | apply below_alloc | apply pw_below_drewN | apply below_drew1 | refine below_set ?_ GE257.out | refine below_set ?_ GE271.out) | exact HB.out))) : w.heap.size ≤ gb279)); have n10_ := Aside0.mk ((by rw [hg]; exact Nat.ne_of_lt (blk_lt (g := gb257) (o := .cells #[.int .i64 0, .int .i64 0, .int .i64 0, .slice none 0 0] 26 (0, 0)) (uK BK257)) : gb257 ≠ gb279)); have n11_ := Aside0.mk ((by rw [hg]; exact Nat.ne_of_gt (blk_lt (g := gb257) (o := .cells #[.int .i64 0, .int .i64 0, .int .i64 0, .slice none 0 0] 26 (0, 0)) (uK BK257)) : gb279 ≠ gb257)); have n12_ := Aside0.mk ((by rw [hg]; exact Nat.ne_of_lt (blk_lt (g := gb271) (o := .cells #[.slice Ao23 t262.length co23] 36 (0, 0)) (uK BK271)) : gb271 ≠ gb279)); have n13_ := Aside0.mk ((by rw [hg]; exact Nat.ne_of_gt (blk_lt (g := gb271) (o := .cells #[.slice Ao23 t262.length co23] 36 (0, 0)) (uK BK271)) : gb279 ≠ gb271)); clear HO_11 HO_12 HO_272000 HO278 BK257 BK271 HB; have HO_11 := n0_; have HO_12 := n1_; have HO_272000 := n2_; have HO278 := n3_; have BK257 := n4_; have BK271 := n5_; have HB := n6_; have BK279 := n7_; have GW279 := n8_; have GE279 := n9_; have NB257_279 := n10_; have NB279_257 := n11_; have NB271_279 := n12_; have NB279_271 := n13_; clear n0_ n1_ n2_ n3_ n4_ n5_ n6_ n7_ n8_ n9_ n10_ n11_ n12_ n13_ hb hbox hg; have hnb38 := NB279_257.out; have hnc38 := NB257_279.out; have hnb39 := NB279_271.out; have hnc39 := NB271_279.out; have hcz40_0 : w37.cell? ⟨gb279, 0, none⟩ = some (.int .i64 0) := (blk_cell BK279.out 0).trans rfl; have hcz40_1 : w37.cell? ⟨gb279, 1, none⟩ = some (.int .i64 0) := (blk_cell BK279.out 1).trans rfl; have hcz40_2 : w37.cell? ⟨gb279, 2, none⟩ = some (.int .i64 0) := (blk_cell BK279.out 2).trans rfl; have hcz40_3 : w37.cell? ⟨gb279, 3, none⟩ = some (.slice none 0 0) := (blk_cell BK279.out 3).trans rfl; have hfz40_0 := blk_frozen BK279.out 0; have hfz40_1 := blk_frozen BK279.out 1; have hfz40_2 := blk_frozen BK279.out 2; have hfz40_3 := blk_frozen BK279.out 3))
         go_loopg [67] k2 (fun kq v67 w' => ∃ (x12_3 : List Int) (x65_3 : List Int) (x67_3 : Int) (x258000_3 : Int) (x258001_3 : Int) (x258002_3 : Int) (x280003_3 : List Int) (u280003 : Value), v67 = .int .i64 x67_3 ∧ Aside0 (impl_BuildDisplaced.l1 kq a0 l1 a3 x12_3 x65_3 (x11_2.length : Int) x67_3 t262 a0 a2 a3 x280003_3 = some (r1, r2, r3, r4, r5)) ∧ Aside0 (kq ≤ k2) ∧ Aside0 (MapR w' w.heap.size (fun k_ => some k_ ≠ ((.slice Ao32 x11_2.length co32) : Value).ownBlock ∧ some k_ ≠ (u280003 : Value).ownBlock) (.map (some b269)) x12_3) ∧ Aside0 (Kd.R (Kd.int .i64) 3 w' w.heap.size (fun k_ => some k_ ≠ ((.map (some b269)) : Value).ownBlock ∧ some k_ ≠ (u280003 : Value).ownBlock) (.slice Ao32 x11_2.length co32) x65_3) ∧ Aside0 (Kd.S (Kd.slice 3 (Kd.int .i64)) 24 w' w.heap.size (fun k_ => some k_ ≠ ((.map (some b269)) : Value).ownBlock ∧ some k_ ≠ ((.slice Ao32 x11_2.length co32) : Value).ownBlock ∧ some k_ ≠ (u280003 : Value).ownBlock) (.slice Ao23 t262.length co23) t262) ∧ Aside0 (Kd.R (Kd.int .i64) 3 w' w.heap.size (fun k_ => some k_ ≠ ((.map (some b269)) : Value).ownBlock ∧ some k_ ≠ ((.slice Ao32 x11_2.length co32) : Value).ownBlock) u280003 x280003_3) ∧ Aside0 (w'.heap[gb257]? = some (.cells #[.int .i64 x258000_3, .int .i64 x258001_3, .int .i64 x258002_3, (.slice none 0 0)] 26 (0, 0))) ∧ Aside0 (w'.heap[gb271]? = some (.cells #[(.slice Ao23 t262.length co23)] 36 (0, 0))) ∧ Aside0 (w'.heap[gb279]? = some (.cells #[.int .i64 a0, .int .i64 a2, .int .i64 a3, u280003] 26 (0, 0))) ∧ Aside0 (Below w.heap.size w w'))
         case atStart => exact ⟨(y268), (t275), (0), (0), (0), (0), (y276), (.slice Ao36 y276.length co36), (by first | rfl | (simp; done) | (simp [*]; done)), H', ⟨Nat.le_refl _⟩, ⟨by (with_reducible repeat (first | apply MR_alloc | apply MR_drewN | apply MR_drew)); exact MR_mono (MR_far (p := ⟨gb279, 3, none⟩) (MR_far (p := ⟨gb279, 2, none⟩) (MR_far (p := ⟨gb279, 1, none⟩) (MR_far (p := ⟨gb279, 0, none⟩) (MR_types HO_12.out BK279.out trivial) (fun _ hk => hk.2) (.int .i64 a0)) (fun _ hk => hk.2) (.int .i64 a2)) (fun _ hk => hk.2) (.int .i64 a3)) (fun _ hk => hk.2) (.slice Ao36 y276.length co36)) (fun _ hk => ⟨hk.1.1, hk.1.2⟩)⟩, ⟨by (with_reducible repeat (first | apply Kd.R_alloc | apply Kd.R_drewN | apply Kd.R_drew)); exact Kd.R_mono (Kd.R_far (p := ⟨gb279, 3, none⟩) (Kd.R_far (p := ⟨gb279, 2, none⟩) (Kd.R_far (p := ⟨gb279, 1, none⟩) (Kd.R_far (p := ⟨gb279, 0, none⟩) (Kd.R_types HO_11.out BK279.out (by decide)) (fun _ hk => hk.2) (.int .i64 a0)) (fun _ hk => hk.2) (.int .i64 a2)) (fun _ hk => hk.2) (.int .i64 a3)) (fun _ hk => hk.2) (.slice Ao36 y276.length co36)) (fun _ hk => ⟨hk.1.1, hk.1.2⟩)⟩, ⟨by (with_reducible repeat (first | apply Kd.S_alloc | apply Kd.S_drewN | apply Kd.S_drew)); exact Kd.S_mono (Kd.S_far (p := ⟨gb279, 3, none⟩) (Kd.S_far (p := ⟨gb279, 2, none⟩) (Kd.S_far (p := ⟨gb279, 1, none⟩) (Kd.S_far (p := ⟨gb279, 0, none⟩) (Kd.S_types HO_272000.out BK279.out (by decide)) (fun _ hk => hk.2) (.int .i64 a0)) (fun _ hk => hk.2) (.int .i64 a2)) (fun _ hk => hk.2) (.int .i64 a3)) (fun _ hk => hk.2) (.slice Ao36 y276.length co36)) (fun _ hk => ⟨hk.1.1.2, ⟨hk.1.1.1, hk.1.2⟩⟩)⟩, ⟨by (with_reducible repeat (first | apply Kd.R_alloc | apply Kd.R_drewN | apply Kd.R_drew)); exact Kd.R_mono (Kd.R_far (p := ⟨gb279, 3, none⟩) (Kd.R_far (p := ⟨gb279, 2, none⟩) (Kd.R_far (p := ⟨gb279, 1, none⟩) (Kd.R_far (p := ⟨gb279, 0, none⟩) (Kd.R_types HO278.out BK279.out (by decide)) (fun _ hk => hk.2) (.int .i64 a0)) (fun _ hk => hk.2) (.int .i64 a2)) (fun _ hk => hk.2) (.int .i64 a3)) (fun _ hk => hk.2) (.slice Ao36 y276.length co36)) (fun _ hk => ⟨hk.1.2, hk.1.1.2⟩)⟩, ⟨by refine uW ?_; refine blk_far ?_ NB257_279.out _; refine uW ?_; refine blk_far ?_ NB257_279.out _; refine uW ?_; refine blk_far ?_ NB257_279.out _; refine uW ?_; refine blk_far ?_ NB257_279.out _; refine uW ?_; exact BK257.out⟩, ⟨by refine uW ?_; refine blk_far ?_ NB271_279.out _; refine uW ?_; refine blk_far ?_ NB271_279.out _; refine uW ?_; refine blk_far ?_ NB271_279.out _; refine uW ?_; refine blk_far ?_ NB271_279.out _; refine uW ?_; exact BK271.out⟩, ⟨by refine uW ?_; refine blk_put (cs := #[.int .i64 a0, .int .i64 a2, .int .i64 a3, .slice none 0 0]) ?_ 3 _ rfl; refine uW ?_; refine blk_put (cs := #[.int .i64 a0, .int .i64 a2, .int .i64 0, .slice none 0 0]) ?_ 2 _ rfl; refine uW ?_; refine blk_put (cs := #[.int .i64 a0, .int .i64 0, .int .i64 0, .slice none 0 0]) ?_ 1 _ rfl; refine uW ?_; refine blk_put (cs := #[.int .i64 0, .int .i64 0, .int .i64 0, .slice none 0 0]) ?_ 0 _ rfl; refine uW ?_; exact BK279.out⟩, ⟨by repeat (first | (with_reducible first | exact HB.out | apply below_alloc | apply pw_below_drewN | apply below_drew1 | refine below_set ?_ GE257.out | refine below_set ?_ GE271.out | refine below_set ?_ GE279.out) | exact HB.out)⟩⟩
         case round =>
          clear H'
          try clear c1
          try clear c2
          try clear p2
          try clear c3
          try clear p6
          try clear c7
          try clear c8
          try clear c10
          try clear c12
          try clear c14
          try clear c18
          try clear c21
          try clear c24
          try clear c26
          try clear c26b0
          try clear c27
          try clear c30
          try clear c30b0
          try clear c30b1
          try clear c31
          try clear c31b0
          try clear c31b1
          try clear c38
          try clear c39
          try clear hcz15_0
          try clear hcz15_1
          try clear hcz15_2
          try clear hcz15_3
          try clear hcz25_0
          try clear hcz40_0
          try clear hcz40_1
          try clear hcz40_2
          try clear hcz40_3
          try clear hfz15_0
          try clear hfz15_1
          try clear hfz15_2
          try clear hfz15_3
          try clear hfz25_0
          try clear hfz40_0
          try clear hfz40_1
          try clear hfz40_2
          try clear hfz40_3
          try clear p2
          try clear HO_12
          try clear HO_65
          try clear HO_272000
          try clear HO_280003
          obtain ⟨x12_3, x65_3, x67_3, x258000_3, x258001_3, x258002_3, x280003_3, u280003, rfl, HA, HK3, HO_12, HO_65, HO_272000, HO_280003, BK257, BK271, BK279, HB⟩ := hrel
          have hl65_3 := (Kd.R_reads' HO_65.out).1
          rw [hl65_3] at HO_65
          (try simp only [hl65_3])
          (try simp only [hl65_3] at BK257)
          (try simp only [hl65_3] at BK271)
          (try simp only [hl65_3] at BK279)
          (try simp only [hl65_3] at HO_12)
          (try simp only [hl65_3] at HO_272000)
          (try simp only [hl65_3] at HO_280003)
          cases gk with
          | zero => exact absurd HA.out (by simp [impl_BuildDisplaced.l1])
          | succ k3 =>
           have H := HA.out
           clear HA
           simp only [impl_BuildDisplaced.l1] at H
           by_cases c41 : x67_3 < (x11_2.length : Int)
           ·
            rw [if_pos c41] at H
            have c41b0 : decide (x67_3 < (x11_2.length : Int)) = true := decide_eq_true c41
            try (have c41b0_ := c41b0; simp only [hl65_3] at c41b0_)
            clear c41
            by_cases c42 : 0 ≤ x67_3
            ·
             rw [if_pos c42] at H
             have c42b0 : decide (0 ≤ x67_3) = true := decide_eq_true c42
             clear c42
             by_cases c43 : x67_3 < (x65_3.length : Int)
             ·
              rw [if_pos c43] at H
              have c43b0 : decide (x67_3 < (x65_3.length : Int)) = true := decide_eq_true c43
              try (have c43b0_ := c43b0; simp only [hl65_3] at c43b0_)
              clear c43
              by_cases c44 : 0 ≤ (rd x65_3 x67_3)
              ·
               rw [if_pos c44] at H
               have c44b0 : decide (0 ≤ (rd x65_3 x67_3)) = true := decide_eq_true c44
               clear c44
               by_cases c45 : (rd x65_3 x67_3) < (t262.length : Int)
               ·
                rw [if_pos c45] at H
                have c45b0 : decide ((rd x65_3 x67_3) < (t262.length : Int)) = true := decide_eq_true c45
                try (have c45b0_ := c45b0; simp only [hl65_3] at c45b0_)
                clear c45
                replace H := Option.bind_eq_some_iff.mp H
                obtain ⟨⟨t282, t283⟩, A460, H⟩ := H
                replace H : (impl_BuildDisplaced.l2 k3 a0 l1 a3 x12_3 (rd x65_3 x67_3) t282 t283 x65_3 (x11_2.length : Int) x67_3 t262 a0 a2 a3 x280003_3) = some (r1, r2, r3, r4, r5) := H
                have A46 := Aside0.mk A460
                clear A460
                have H' := Aside0.mk H
                clear H
                have p280 : 0 ≤ (x67_3 : Int) := of_decide_eq_true (by first | (with_reducible assumption) | assumption)
                have q280 : x67_3 < (x65_3.length : Int) := of_decide_eq_true (by first | (with_reducible assumption) | assumption)
                obtain ⟨ad280, e280, hx280_0⟩ := Kd.at_int (Kd.R_reads' HO_65.out).2.2 x67_3 p280 q280
                cases e280
                replace p280 := eq_true p280
                replace q280 := eq_true q280
                have hnb47 := NB271_257.out
                have hnc47 := NB257_271.out
                have hnb48 := NB271_279.out
                have hnc48 := NB279_271.out
                have hcz49_0 : wr.cell? ⟨gb271, 0, none⟩ = some (.slice Ao23 t262.length co23) := (blk_cell BK271.out 0).trans rfl
                have hfz49_0 := blk_frozen BK271.out 0
                have p281 : 0 ≤ ((rd x65_3 x67_3) : Int) := of_decide_eq_true (by first | (with_reducible assumption) | assumption)
                have q281 : (rd x65_3 x67_3) < (t262.length : Int) := of_decide_eq_true (by first | (with_reducible assumption) | assumption)
                obtain ⟨ad281, A281_0, c281_0, e281, hx281_0, hl281_0, hi281_0⟩ := at_L2 (Kd.S_reads' HO_272000.out).2.2 (rd x65_3 x67_3) p281 q281
                cases e281
                obtain ⟨ce281, hce281, hMe281, hcc281⟩ := Kd.S_get HO_272000.out [] (rd x65_3 x67_3) p281 (by first | exact q281 | exact of_decide_eq_true (by first | (with_reducible assumption) | assumption) | (have e_ := (Kd.S_reads' HO_272000.out).1; omega))
                obtain ⟨ve281_0, rfl, ge281_0⟩ := hMe281
                have hv281_0 := hcc281 0 _ rfl
                rw [Nat.add_zero, show ((Kd.slice 3 (Kd.int .i64))).sz = 1 from rfl, Nat.mul_one] at hv281_0
                replace hv281_0 := Option.some.inj (hv281_0.symm.trans hx281_0)
                rw [hv281_0] at ge281_0
                have HL281_0 := Aside0.mk (show Kd.R (Kd.int .i64) 3 _ _ _ _ (rd_L2 t262 (rd x65_3 x67_3)) from ge281_0)
                clear hv281_0 ge281_0
                clear hcc281 hce281
                have HR281_0 := Aside0.mk hi281_0
                have HC281_0 := Aside0.mk hl281_0
                clear hi281_0 hl281_0
                replace p281 := eq_true p281
                replace q281 := eq_true q281
                go_wp2_with (first | ((with_reducible refine gate_callee (f := 25) rfl ?_); refine goesL_ (some 80) rfl rfl Try.func25 (by kernel_rfl) rfl #[.int .i64 a0, .slice A1 l1.length c1, .slice A281_0 (rd_L2 t262 (rd x65_3 x67_3)).length c281_0, .int .i64 0, .int .i64 a3, .map (some b269)] rfl (by (try simp only [List.map_toArray, List.map_cons, List.map_nil]); first | done | rfl | (simp only [List.length_drop, List.length_take]; rfl)) ?_; (with_reducible refine (impl_fits.calls k3 a0 _ _ l1 _ _ (rd_L2 t262 (rd x65_3 x67_3)) 0 a3 _ x12_3 t282 t283 _ ?side1 ?side2 ?side3 ?side4 ?side5 A46.out).mono ?_); (case side1 => exact uC HR1 HB); (case side2 => exact HC1.out); (case side3 => repeat (first | exact (by repeat (first | (with_reducible exact HR281_0.out) | (with_reducible refine Kd.C_alloc ?_ _) | (with_reducible refine Kd.C_drewN ?_ _) | (with_reducible refine Kd.C_drew ?_) | exact HR281_0.out)) | (with_reducible refine Kd.C_alloc ?_ _) | (with_reducible refine Kd.C_drewN ?_ _) | (with_reducible refine Kd.C_drew ?_))); (case side4 => exact HC281_0.out); (case side5 => exact uMC HO_12); rintro e w51 ⟨v284, rfl, ho0, hb⟩; refine ⟨_, rfl, ?_⟩; have n0_ := Aside0.mk (MR_elder' (uM HO_12) (Kd.R_base ho0) hb); have n1_ := Aside0.mk (Kd.R_elder' (uR HO_65) (Kd.R_base ho0) hb); have n2_ := Aside0.mk (Kd.S_elder' (by (with_reducible repeat (first | apply Kd.S_alloc | apply Kd.S_drewN | apply Kd.S_drew)); exact HO_272000.out) (Kd.R_base ho0) hb); have n3_ := Aside0.mk (Kd.R_elder' (uR HO_280003) (Kd.R_base ho0) hb); have n4_ := Aside0.mk (Kd.R_elder' (uR HL281_0) (Kd.R_base ho0) hb); have n5_ := Aside0.mk (Kd.R_lower (Kd.R_new' (Kd.R_new' (Kd.R_new' (Kd.R_new' ho0 (MR_lt (uM HO_12))) (Kd.R_lt (uR HO_65))) (Kd.R_lt (uR HO_280003))) (Kd.R_lt (uR HL281_0))) (below_size (by repeat (first | (with_reducible first | exact HB.out | apply below_alloc | apply pw_below_drewN | apply below_drew1 | refine below_set ?_ GE257.out | refine below_set ?_ GE271.out | refine below_set ?_ GE279.out) | exact HB.out)))); have n6_ := Aside0.mk (blk_below (g := gb257) (o := .cells #[.int .i64 x258000_3, .int .i64 x258001_3, .int .i64 x258002_3, .slice none 0 0] 26 (0, 0)) (uK BK257) hb); have n7_ := Aside0.mk (blk_below (g := gb271) (o := .cells #[.slice (some ad281) t262.length co23] 36 (0, 0)) (uK BK271) hb); have n8_ := Aside0.mk (blk_below (g := gb279) (o := .cells #[.int .i64 a0, .int .i64 a2, .int .i64 a3, u280003] 26 (0, 0)) (uK BK279) hb); have n9_ := Aside0.mk (Kd.C_below (by repeat (first | (with_reducible exact HR281_0.out) | (with_reducible refine Kd.C_alloc ?_ _) | (with_reducible refine Kd.C_drewN ?_ _) | (with_reducible refine Kd.C_drew ?_) | exact HR281_0.out)) hb); have n10_ := Aside0.mk (below_step (by repeat (first | (with_reducible first | exact HB.out | apply below_alloc | apply pw_below_drewN | apply below_drew1 | refine below_set ?_ GE257.out | refine below_set ?_ GE271.out | refine below_set ?_ GE279.out) | exact HB.out)) hb); clear HO_12 HO_65 HO_272000 HO_280003 HL281_0 BK257 BK271 BK279 HR281_0 HB; have HO_12 := n0_; have HO_65 := n1_; have HO_272000 := n2_; have HO_280003 := n3_; have HL281_0 := n4_; have HO285 := n5_; have BK257 := n6_; have BK271 := n7_; have BK279 := n8_; have HR281_0 := n9_; have HB := n10_; clear n0_ n1_ n2_ n3_ n4_ n5_ n6_ n7_ n8_ n9_ n10_; (try clear hb); (try clear hb2); (try clear hk); (try clear hi); (try clear ho0)))
                go_loopg [17, 18] k3 (fun kq v17 v18 w' => ∃ (x12_4 : List Int) (x17_4 : List Int) (x18_4 : Bool) (x65_4 : List Int) (x258000_4 : Int) (x258001_4 : Int) (x258002_4 : Int) (x280003_4 : List Int) (u280003 : Value), v18 = .bool x18_4 ∧ Aside0 (impl_BuildDisplaced.l2 kq a0 l1 a3 x12_4 (rd x65_3 x67_3) x17_4 x18_4 x65_4 (x11_2.length : Int) x67_3 t262 a0 a2 a3 x280003_4 = some (r1, r2, r3, r4, r5)) ∧ Aside0 (kq ≤ k3) ∧ Aside0 (MapR w' w.heap.size (fun k_ => some k_ ≠ (v17 : Value).ownBlock ∧ some k_ ≠ ((.slice (some ad280) x65_3.length co32) : Value).ownBlock ∧ some k_ ≠ (u280003 : Value).ownBlock) (.map (some b269)) x12_4) ∧ Aside0 (Kd.R (Kd.int .i64) 3 w' w.heap.size (fun k_ => some k_ ≠ ((.map (some b269)) : Value).ownBlock ∧ some k_ ≠ ((.slice (some ad280) x65_3.length co32) : Value).ownBlock ∧ some k_ ≠ (u280003 : Value).ownBlock) v17 x17_4) ∧ Aside0 (Kd.R (Kd.int .i64) 3 w' w.heap.size (fun k_ => some k_ ≠ ((.map (some b269)) : Value).ownBlock ∧ some k_ ≠ (v17 : Value).ownBlock ∧ some k_ ≠ (u280003 : Value).ownBlock) (.slice (some ad280) x65_3.length co32) x65_4) ∧ Aside0 (Kd.S (Kd.slice 3 (Kd.int .i64)) 24 w' w.heap.size (fun k_ => some k_ ≠ ((.map (some b269)) : Value).ownBlock ∧ some k_ ≠ (v17 : Value).ownBlock ∧ some k_ ≠ ((.slice (some ad280) x65_3.length co32) : Value).ownBlock ∧ some k_ ≠ (u280003 : Value).ownBlock) (.slice (some ad281) t262.length co23) t262) ∧ Aside0 (Kd.R (Kd.int .i64) 3 w' w.heap.size (fun k_ => some k_ ≠ ((.map (some b269)) : Value).ownBlock ∧ some k_ ≠ (v17 : Value).ownBlock ∧ some k_ ≠ ((.slice (some ad280) x65_3.length co32) : Value).ownBlock) u280003 x280003_4) ∧ Aside0 (w'.heap[gb257]? = some (.cells #[.int .i64 x258000_4, .int .i64 x258001_4, .int .i64 x258002_4, (.slice none 0 0)] 26 (0, 0))) ∧ Aside0 (w'.heap[gb271]? = some (.cells #[(.slice (some ad281) t262.length co23)] 36 (0, 0))) ∧ Aside0 (w'.heap[gb279]? = some (.cells #[.int .i64 a0, .int .i64 a2, .int .i64 a3, u280003] 26 (0, 0))) ∧ Aside0 (Below w.heap.size w w'))
                case atStart => exact ⟨(x12_3), (t282), (t283), (x65_3), (x258000_3), (x258001_3), (x258002_3), (x280003_3), (u280003), (by first | rfl | (simp; done) | (simp [*]; done)), H', ⟨Nat.le_refl _⟩, ⟨by (try simp only [hl65_3]); (with_reducible repeat (first | apply MR_alloc | apply MR_drewN | apply MR_drew)); exact MR_mono HO_12.out (fun _ hk => ⟨hk.2, ⟨hk.1.1, hk.1.2⟩⟩)⟩, ⟨by (try simp only [hl65_3]); (with_reducible repeat (first | apply Kd.R_alloc | apply Kd.R_drewN | apply Kd.R_drew)); exact Kd.R_mono HO285.out (fun _ hk => ⟨hk.1.1.1.2, ⟨hk.1.1.2, hk.1.2⟩⟩)⟩, ⟨by (try simp only [hl65_3]); (with_reducible repeat (first | apply Kd.R_alloc | apply Kd.R_drewN | apply Kd.R_drew)); exact Kd.R_mono HO_65.out (fun _ hk => ⟨hk.1.1, ⟨hk.2, hk.1.2⟩⟩)⟩, ⟨by (try simp only [hl65_3]); (with_reducible repeat (first | apply Kd.S_alloc | apply Kd.S_drewN | apply Kd.S_drew)); exact Kd.S_mono HO_272000.out (fun _ hk => ⟨hk.1.1, ⟨hk.2, ⟨hk.1.2.1, hk.1.2.2⟩⟩⟩)⟩, ⟨by (try simp only [hl65_3]); (with_reducible repeat (first | apply Kd.R_alloc | apply Kd.R_drewN | apply Kd.R_drew)); exact Kd.R_mono HO_280003.out (fun _ hk => ⟨hk.1.1, ⟨hk.2, hk.1.2⟩⟩)⟩, ⟨by (try simp only [hl65_3]); refine uW ?_; exact BK257.out⟩, ⟨by (try simp only [hl65_3]); refine uW ?_; exact BK271.out⟩, ⟨by (try simp only [hl65_3]); refine uW ?_; exact BK279.out⟩, ⟨by repeat (first | (with_reducible first | exact HB.out | apply below_alloc | apply pw_below_drewN | apply below_drew1 | refine below_set ?_ GE257.out | refine below_set ?_ GE271.out | refine below_set ?_ GE279.out) | exact HB.out)⟩⟩
                case round =>
                 clear H'
                 try clear c1
                 try clear c2
                 try clear p2
                 try clear q2
                 try clear hx2
                 try clear c3
                 try clear c4
                 try clear p6
                 try clear c7
                 try clear c8
                 try clear c10
                 try clear c12
                 try clear c14
                 try clear c18
                 try clear c21
                 try clear c24
                 try clear c25
                 try clear c26
                 try clear c26b0
                 try clear c27
                 try clear c28
                 try clear p28
                 try clear q28
                 try clear hx28
                 try clear c30
                 try clear c30b0
                 try clear c30b1
                 try clear c31
                 try clear c31b0
                 try clear c31b1
                 try clear c38
                 try clear c39
                 try clear c41
                 try clear c41b0
                 try clear c42
                 try clear c42b0
                 try clear c43
                 try clear c43b0
                 try clear c44
                 try clear c44b0
                 try clear c45
                 try clear c45b0
                 try clear c47
                 try clear c48
                 try clear hcz15_0
                 try clear hcz15_1
                 try clear hcz15_2
                 try clear hcz15_3
                 try clear hcz25_0
                 try clear hcz40_0
                 try clear hcz40_1
                 try clear hcz40_2
                 try clear hcz40_3
                 try clear hcz49_0
                 try clear hfz15_0
                 try clear hfz15_1
                 try clear hfz15_2
                 try clear hfz15_3
                 try clear hfz25_0
                 try clear hfz40_0
                 try clear hfz40_1
                 try clear hfz40_2
                 try clear hfz40_3
                 try clear hfz49_0
                 try clear hx280_0
                 try clear hx281_0
                 try clear p2
                 try clear p280
                 try clear p281
                 try clear p6
                 try clear q280
                 try clear q281
                 try clear HO_12
                 try clear HO_17
                 try clear HO_65
                 try clear HO_272000
                 try clear HO_280003
                 obtain ⟨x12_4, x17_4, x18_4, x65_4, x258000_4, x258001_4, x258002_4, x280003_4, u280003, rfl, HA, HK4, HO_12, HO_17, HO_65, HO_272000, HO_280003, BK257, BK271, BK279, HB⟩ := hrel
                 have hl65_4 := (Kd.R_reads' HO_65.out).1
                 rw [hl65_4] at HO_65
                 (try simp only [hl65_4])
                 (try simp only [hl65_4] at BK257)
                 (try simp only [hl65_4] at BK271)
                 (try simp only [hl65_4] at BK279)
                 (try simp only [hl65_4] at HO_12)
                 (try simp only [hl65_4] at HO_17)
                 (try simp only [hl65_4] at HO_272000)
                 (try simp only [hl65_4] at HO_280003)
                 cases gk with
                 | zero => exact absurd HA.out (by simp [impl_BuildDisplaced.l2])
                 | succ k4 =>
                  have H := HA.out
                  clear HA
                  simp only [impl_BuildDisplaced.l2] at H
                  by_cases c52 : x18_4 = true
                  ·
                   subst c52
                   have H1 : (impl_BuildDisplaced.l3 k4 a0 l1 a3 x12_4 x65_4 (x11_2.length : Int) x67_3 x17_4 (x17_4.length : Int) 0 t262 a0 a2 a3 x280003_4) = some (r1, r2, r3, r4, r5) := by rw [if_pos rfl] at H; exact H
                   clear H
                   have H := H1
                   clear H1
                   have H' := Aside0.mk H
                   clear H
                   obtain ⟨Ao53, co53, eo53⟩ := Kd.R_slice HO_17.out
                   subst eo53
                   go_wp2
                   go_loopg [118] k4 (fun kq v118 w' => ∃ (x12_5 : List Int) (x118_5 : Int), v118 = .int .i64 x118_5 ∧ Aside0 (impl_BuildDisplaced.l3 kq a0 l1 a3 x12_5 x65_4 (x11_2.length : Int) x67_3 x17_4 (x17_4.length : Int) x118_5 t262 a0 a2 a3 x280003_4 = some (r1, r2, r3, r4, r5)) ∧ Aside0 (kq ≤ k4) ∧ Aside0 (MapR w' w.heap.size (fun k_ => some k_ ≠ ((.slice (some ad280) x65_4.length co32) : Value).ownBlock ∧ some k_ ≠ ((.slice Ao53 x17_4.length co53) : Value).ownBlock ∧ some k_ ≠ (u280003 : Value).ownBlock) (.map (some b269)) x12_5) ∧ Aside0 (Kd.R (Kd.int .i64) 3 w' w.heap.size (fun k_ => some k_ ≠ ((.map (some b269)) : Value).ownBlock ∧ some k_ ≠ ((.slice Ao53 x17_4.length co53) : Value).ownBlock ∧ some k_ ≠ (u280003 : Value).ownBlock) (.slice (some ad280) x65_4.length co32) x65_4) ∧ Aside0 (Kd.R (Kd.int .i64) 3 w' w.heap.size (fun k_ => some k_ ≠ ((.map (some b269)) : Value).ownBlock ∧ some k_ ≠ ((.slice (some ad280) x65_4.length co32) : Value).ownBlock ∧ some k_ ≠ (u280003 : Value).ownBlock) (.slice Ao53 x17_4.length co53) x17_4) ∧ Aside0 (Kd.S (Kd.slice 3 (Kd.int .i64)) 24 w' w.heap.size (fun k_ => some k_ ≠ ((.map (some b269)) : Value).ownBlock ∧ some k_ ≠ ((.slice (some ad280) x65_4.length co32) : Value).ownBlock ∧ some k_ ≠ ((.slice Ao53 x17_4.length co53) : Value).ownBlock ∧ some k_ ≠ (u280003 : Value).ownBlock) (.slice (some ad281) t262.length co23) t262) ∧ Aside0 (Kd.R (Kd.int .i64) 3 w' w.heap.size (fun k_ => some k_ ≠ ((.map (some b269)) : Value).ownBlock ∧ some k_ ≠ ((.slice (some ad280) x65_4.length co32) : Value).ownBlock ∧ some k_ ≠ ((.slice Ao53 x17_4.length co53) : Value).ownBlock) u280003 x280003_4) ∧ Aside0 (w'.heap[gb257]? = some (.cells #[.int .i64 x258000_4, .int .i64 x258001_4, .int .i64 x258002_4, (.slice none 0 0)] 26 (0, 0))) ∧ Aside0 (w'.heap[gb271]? = some (.cells #[(.slice (some ad281) t262.length co23)] 36 (0, 0))) ∧ Aside0 (w'.heap[gb279]? = some (.cells #[.int .i64 a0, .int .i64 a2, .int .i64 a3, u280003] 26 (0, 0))) ∧ Aside0 (Below w.heap.size w w'))
                   case atStart => exact ⟨(x12_4), (0), (by first | rfl | (simp; done) | (simp [*]; done)), H', ⟨Nat.le_refl _⟩, ⟨by (try simp only [hl65_3]); (try simp only [hl65_4]); (with_reducible repeat (first | apply MR_alloc | apply MR_drewN | apply MR_drew)); exact MR_mono HO_12.out (fun _ hk => ⟨hk.2.1, ⟨hk.1, hk.2.2⟩⟩)⟩, ⟨by (try simp only [hl65_3]); (try simp only [hl65_4]); (with_reducible repeat (first | apply Kd.R_alloc | apply Kd.R_drewN | apply Kd.R_drew)); exact HO_65.out⟩, ⟨by (try simp only [hl65_3]); (try simp only [hl65_4]); (with_reducible repeat (first | apply Kd.R_alloc | apply Kd.R_drewN | apply Kd.R_drew)); exact HO_17.out⟩, ⟨by (try simp only [hl65_3]); (try simp only [hl65_4]); (with_reducible repeat (first | apply Kd.S_alloc | apply Kd.S_drewN | apply Kd.S_drew)); exact Kd.S_mono HO_272000.out (fun _ hk => ⟨hk.1, ⟨hk.2.2.1, ⟨hk.2.1, hk.2.2.2⟩⟩⟩)⟩, ⟨by (try simp only [hl65_3]); (try simp only [hl65_4]); (with_reducible repeat (first | apply Kd.R_alloc | apply Kd.R_drewN | apply Kd.R_drew)); exact Kd.R_mono HO_280003.out (fun _ hk => ⟨hk.1, ⟨hk.2.2, hk.2.1⟩⟩)⟩, ⟨by (try simp only [hl65_3]); (try simp only [hl65_4]); refine uW ?_; exact BK257.out⟩, ⟨by (try simp only [hl65_3]); (try simp only [hl65_4]); refine uW ?_; exact BK271.out⟩, ⟨by (try simp only [hl65_3]); (try simp only [hl65_4]); refine uW ?_; exact BK279.out⟩, ⟨by repeat (first | (with_reducible first | exact HB.out | apply below_alloc | apply pw_below_drewN | apply below_drew1 | refine below_set ?_ GE257.out | refine below_set ?_ GE271.out | refine below_set ?_ GE279.out) | exact HB.out)⟩⟩
                   case round =>
                    clear H'
                    try clear c1
                    try clear c2
                    try clear p2
                    try clear q2
                    try clear hx2
                    try clear c3
                    try clear c4
                    try clear c5
                    try clear p6
                    try clear c7
                    try clear c8
                    try clear c10
                    try clear c12
                    try clear c14
                    try clear c18
                    try clear c21
                    try clear c24
                    try clear c25
                    try clear c26
                    try clear c26b0
                    try clear c27
                    try clear c28
                    try clear p28
                    try clear q28
                    try clear hx28
                    try clear c30
                    try clear c30b0
                    try clear c30b1
                    try clear c31
                    try clear c31b0
                    try clear c31b1
                    try clear c38
                    try clear c39
                    try clear c41
                    try clear c41b0
                    try clear c42
                    try clear c42b0
                    try clear c43
                    try clear c43b0
                    try clear c44
                    try clear c44b0
                    try clear c45
                    try clear c45b0
                    try clear c47
                    try clear c48
                    try clear c52
                    try clear hcz15_0
                    try clear hcz15_1
                    try clear hcz15_2
                    try clear hcz15_3
                    try clear hcz25_0
                    try clear hcz40_0
                    try clear hcz40_1
                    try clear hcz40_2
                    try clear hcz40_3
                    try clear hcz49_0
                    try clear hfz15_0
                    try clear hfz15_1
                    try clear hfz15_2
                    try clear hfz15_3
                    try clear hfz25_0
                    try clear hfz40_0
                    try clear hfz40_1
                    try clear hfz40_2
                    try clear hfz40_3
                    try clear hfz49_0
                    try clear hx280_0
                    try clear hx281_0
                    try clear p2
                    try clear p28
                    try clear p280
                    try clear p281
                    try clear p6
                    try clear q2
                    try clear q28
                    try clear q280
                    try clear q281
                    try clear HO_12
                    try clear HO_65
                    try clear HO_116
                    try clear HO_272000
                    try clear HO_280003
                    obtain ⟨x12_5, x118_5, rfl, HA, HK5, HO_12, HO_65, HO_116, HO_272000, HO_280003, BK257, BK271, BK279, HB⟩ := hrel
                    cases gk with
                    | zero => exact absurd HA.out (by simp [impl_BuildDisplaced.l3])
                    | succ k5 =>
                     have H := HA.out
                     clear HA
                     simp only [impl_BuildDisplaced.l3] at H
                     by_cases c54 : x118_5 < (x17_4.length : Int)
                     ·
                      rw [if_pos c54] at H
                      have c54b0 : decide (x118_5 < (x17_4.length : Int)) = true := decide_eq_true c54
                      try (have c54b0_ := c54b0; (try simp only [hl65_3] at c54b0_); (try simp only [hl65_4] at c54b0_))
                      clear c54
                      by_cases c55 : 0 ≤ x118_5
                      ·
                       rw [if_pos c55] at H
                       have c55b0 : decide (0 ≤ x118_5) = true := decide_eq_true c55
                       clear c55
                       by_cases c56 : x118_5 < (x17_4.length : Int)
                       ·
                        rw [if_pos c56] at H
                        have c56b0 : decide (x118_5 < (x17_4.length : Int)) = true := decide_eq_true c56
                        try (have c56b0_ := c56b0; (try simp only [hl65_3] at c56b0_); (try simp only [hl65_4] at c56b0_))
                        clear c56
                        by_cases c57 : x12_5.length < 17592186044416 ∧ inW (rd x17_4 x118_5)
                        ·
                         rw [if_pos c57] at H
                         have LMc57 := Aside0.mk c57.1
                         have LIc57 := Aside0.mk c57.2
                         clear c57
                         obtain ⟨y296, hy296⟩ : ∃ y_ : List Int, y_ = (x12_5 ++ [rd x17_4 x118_5]) := ⟨_, rfl⟩
                         replace H : (impl_BuildDisplaced.l3 k5 a0 l1 a3 y296 x65_4 (x11_2.length : Int) x67_3 x17_4 (x17_4.length : Int) (wrap64 (x118_5 + 1)) t262 a0 a2 a3 x280003_4) = some (r1, r2, r3, r4, r5) := by first | (rw [hy296]; with_reducible exact H) | (have H2_ := (Option.bind_some _ _).symm.trans H; rw [hy296]; with_reducible exact H2_) | (have H2_ := (Option.bind_some _ _).symm.trans H; with_reducible exact H2_) | with_reducible exact H | (rw [hy296]; exact H) | exact H
                         have Ny296 := Aside0.mk hy296
                         clear hy296
                         have H' := Aside0.mk H
                         clear H
                         have p295 : 0 ≤ (x118_5 : Int) := of_decide_eq_true (by first | (with_reducible assumption) | assumption)
                         have q295 : x118_5 < (x17_4.length : Int) := of_decide_eq_true (by first | (with_reducible assumption) | assumption)
                         obtain ⟨ad295, e295, hx295_0⟩ := Kd.at_int (Kd.R_reads' HO_116.out).2.2 x118_5 p295 q295
                         cases e295
                         replace p295 := eq_true p295
                         replace q295 := eq_true q295
                         go_wp2_with (first | (at_mapUpdate; refine mark_step (w0 := w) (ok := fun _ => True) (v := .map (some b269)) (S := x12_5) rfl (.tmp 122) (.tmp 123) rfl rfl (rd x17_4 x118_5) rfl ?aB ?aO ?aI ?aL ?_; (case aB => exact (by repeat (first | (with_reducible first | exact HB.out | apply below_alloc | apply pw_below_drewN | apply below_drew1 | refine below_set ?_ GE257.out | refine below_set ?_ GE271.out | refine below_set ?_ GE279.out) | exact HB.out))); (case aO => exact MR_any (uM HO_12)); (case aI => exact LIc57.out); (case aL => exact LMc57.out); intro bm_ w58 hc ho hb hg; rw [← Ny296.out] at ho; have n0_ := Aside0.mk (R_mappedA (v := (.map (some b269))) (ok := (fun k_ => some k_ ≠ (.slice (some ad295) x17_4.length co53 : Value).ownBlock ∧ some k_ ≠ (u280003 : Value).ownBlock)) (by (with_reducible repeat (first | apply Kd.R_alloc | apply Kd.R_drewN | apply Kd.R_drew)); exact Kd.R_mono HO_65.out (fun _ hk => ⟨⟨hk.2.1, hk.2.2⟩, hk.1⟩)) hc hg); have n1_ := Aside0.mk (R_mappedA (v := (.map (some b269))) (ok := (fun k_ => some k_ ≠ (.slice (some ad280) x65_4.length co32 : Value).ownBlock ∧ some k_ ≠ (u280003 : Value).ownBlock)) (by (with_reducible repeat (first | apply Kd.R_alloc | apply Kd.R_drewN | apply Kd.R_drew)); exact Kd.R_mono HO_116.out (fun _ hk => ⟨⟨hk.2.1, hk.2.2⟩, hk.1⟩)) hc hg); have n2_ := Aside0.mk (S_mappedA (v := (.map (some b269))) (ok := (fun k_ => some k_ ≠ (.slice (some ad280) x65_4.length co32 : Value).ownBlock ∧ some k_ ≠ (.slice (some ad295) x17_4.length co53 : Value).ownBlock ∧ some k_ ≠ (u280003 : Value).ownBlock)) (by (with_reducible repeat (first | apply Kd.S_alloc | apply Kd.S_drewN | apply Kd.S_drew)); exact Kd.S_mono HO_272000.out (fun _ hk => ⟨⟨hk.2.1, ⟨hk.2.2.1, hk.2.2.2⟩⟩, hk.1⟩)) hc hg); have n3_ := Aside0.mk (R_mappedA (v := (.map (some b269))) (ok := (fun k_ => some k_ ≠ (.slice (some ad280) x65_4.length co32 : Value).ownBlock ∧ some k_ ≠ (.slice (some ad295) x17_4.length co53 : Value).ownBlock)) (by (with_reducible repeat (first | apply Kd.R_alloc | apply Kd.R_drewN | apply Kd.R_drew)); exact Kd.R_mono HO_280003.out (fun _ hk => ⟨⟨hk.2.1, hk.2.2⟩, hk.1⟩)) hc hg); have n4_ := Aside0.mk (blk_mapped (uK BK257) hc hg); have n5_ := Aside0.mk (blk_mapped (uK BK271) hc hg); have n6_ := Aside0.mk (blk_mapped (uK BK279) hc hg); have n7_ := Aside0.mk (hb); have n8_ := Aside0.mk (ho); clear HO_65 HO_116 HO_272000 HO_280003 BK257 BK271 BK279 HB HO_12; have HO_65 := n0_; have HO_116 := n1_; have HO_272000 := n2_; have HO_280003 := n3_; have BK257 := n4_; have BK271 := n5_; have BK279 := n6_; have HB := n7_; have HO298 := n8_; clear n0_ n1_ n2_ n3_ n4_ n5_ n6_ n7_ n8_; clear ho hb hg hc))
                         go_roundg k5
                         case measure => have := HJ4.out; have := HK2.out; have := HK3.out; have := HK4.out; have := HK5.out; omega
                         case rel => exact ⟨(y296), (wrap64 (x118_5 + 1)), (by first | rfl | (simp; done) | (simp [*]; done)), H', ⟨by have := HJ4.out; have := HK2.out; have := HK3.out; have := HK4.out; have := HK5.out; omega⟩, ⟨by (try simp only [hl65_3]); (try simp only [hl65_4]); (with_reducible repeat (first | apply MR_alloc | apply MR_drewN | apply MR_drew)); exact HO298.out⟩, ⟨by (try simp only [hl65_3]); (try simp only [hl65_4]); (with_reducible repeat (first | apply Kd.R_alloc | apply Kd.R_drewN | apply Kd.R_drew)); exact Kd.R_mono HO_65.out (fun _ hk => ⟨hk.2, ⟨hk.1.1, hk.1.2⟩⟩)⟩, ⟨by (try simp only [hl65_3]); (try simp only [hl65_4]); (with_reducible repeat (first | apply Kd.R_alloc | apply Kd.R_drewN | apply Kd.R_drew)); exact Kd.R_mono HO_116.out (fun _ hk => ⟨hk.2, ⟨hk.1.1, hk.1.2⟩⟩)⟩, ⟨by (try simp only [hl65_3]); (try simp only [hl65_4]); (with_reducible repeat (first | apply Kd.S_alloc | apply Kd.S_drewN | apply Kd.S_drew)); exact Kd.S_mono HO_272000.out (fun _ hk => ⟨hk.2, ⟨hk.1.1, ⟨hk.1.2.1, hk.1.2.2⟩⟩⟩)⟩, ⟨by (try simp only [hl65_3]); (try simp only [hl65_4]); (with_reducible repeat (first | apply Kd.R_alloc | apply Kd.R_drewN | apply Kd.R_drew)); exact Kd.R_mono HO_280003.out (fun _ hk => ⟨hk.2, ⟨hk.1.1, hk.1.2⟩⟩)⟩, ⟨by (try simp only [hl65_3]); (try simp only [hl65_4]); refine uW ?_; exact BK257.out⟩, ⟨by (try simp only [hl65_3]); (try simp only [hl65_4]); refine uW ?_; exact BK271.out⟩, ⟨by (try simp only [hl65_3]); (try simp only [hl65_4]); refine uW ?_; exact BK279.out⟩, ⟨by repeat (first | (with_reducible first | exact HB.out | apply below_alloc | apply pw_below_drewN | apply below_drew1 | refine below_set ?_ GE257.out | refine below_set ?_ GE271.out | refine below_set ?_ GE279.out) | exact HB.out)⟩⟩
                        ·
                         rw [if_neg c57] at H
                         exact absurd H (by simp)
                       ·
                        rw [if_neg c56] at H
                        exact absurd H (by simp)
                      ·
                       rw [if_neg c55] at H
                       exact absurd H (by simp)
                     ·
                      rw [if_neg c54] at H
                      have c54b0 : decide (x118_5 < (x17_4.length : Int)) = false := decide_eq_false c54
                      try (have c54b0_ := c54b0; (try simp only [hl65_3] at c54b0_); (try simp only [hl65_4] at c54b0_))
                      clear c54
                      have H' := Aside0.mk H
                      clear H
                      go_wp2
                      (try simp only [← hl65_4]); (try simp only [← hl65_3])
                      go_roundg k5
                      case measure => have := HJ4.out; have := HK2.out; have := HK3.out; have := HK4.out; have := HK5.out; omega
                      case rel => exact ⟨(x12_5), (x65_4), (wrap64 (x67_3 + 1)), (x258000_4), (x258001_4), (x258002_4), (x280003_4), (u280003), (by first | rfl | (simp; done) | (simp [*]; done)), H', ⟨by have := HJ4.out; have := HK2.out; have := HK3.out; have := HK4.out; have := HK5.out; omega⟩, ⟨by (try simp only [hl65_3]); (try simp only [hl65_4]); (with_reducible repeat (first | apply MR_alloc | apply MR_drewN | apply MR_drew)); exact MR_mono HO_12.out (fun _ hk => ⟨hk.1, hk.2.2⟩)⟩, ⟨by (try simp only [hl65_3]); (try simp only [hl65_4]); (with_reducible repeat (first | apply Kd.R_alloc | apply Kd.R_drewN | apply Kd.R_drew)); exact Kd.R_mono HO_65.out (fun _ hk => ⟨hk.1, hk.2.2⟩)⟩, ⟨by (try simp only [hl65_3]); (try simp only [hl65_4]); (with_reducible repeat (first | apply Kd.S_alloc | apply Kd.S_drewN | apply Kd.S_drew)); exact Kd.S_mono HO_272000.out (fun _ hk => ⟨hk.1, ⟨hk.2.1, hk.2.2.2⟩⟩)⟩, ⟨by (try simp only [hl65_3]); (try simp only [hl65_4]); (with_reducible repeat (first | apply Kd.R_alloc | apply Kd.R_drewN | apply Kd.R_drew)); exact Kd.R_mono HO_280003.out (fun _ hk => ⟨hk.1, hk.2.1⟩)⟩, ⟨by (try simp only [hl65_3]); (try simp only [hl65_4]); refine uW ?_; exact BK257.out⟩, ⟨by (try simp only [hl65_3]); (try simp only [hl65_4]); refine uW ?_; exact BK271.out⟩, ⟨by (try simp only [hl65_3]); (try simp only [hl65_4]); refine uW ?_; exact BK279.out⟩, ⟨by repeat (first | (with_reducible first | exact HB.out | apply below_alloc | apply pw_below_drewN | apply below_drew1 | refine below_set ?_ GE257.out | refine below_set ?_ GE271.out | refine below_set ?_ GE279.out) | exact HB.out)⟩⟩
                  ·
                   replace c52 := Bool.eq_false_iff.mpr c52
                   subst c52
                   have H1 : (if 0 ≤ (rd x65_3 x67_3) then (if (rd x65_3 x67_3) < (x280003_4.length : Int) then ((some (x280003_4.set ((rd x65_3 x67_3) : Int).toNat (wrap64 ((rd x280003_4 (rd x65_3 x67_3)) + 1)) : List Int)).bind fun y287 => (if (rd y287 (rd x65_3 x67_3)) > 999 then (some (0, 0, 0, ([] : List Int), false)) else (if (rd x65_3 x67_3) < (t262.length : Int) then ((impl_fits.f k4 a0 l1 (rd_L2 t262 (rd x65_3 x67_3)) (rd y287 (rd x65_3 x67_3)) a3 x12_4).bind fun bt291 => (impl_BuildDisplaced.l2 k4 a0 l1 a3 x12_4 (rd x65_3 x67_3) bt291.1 bt291.2 x65_4 (x11_2.length : Int) x67_3 t262 a0 a2 a3 y287)) else (none)))) else (none)) else (none)) = some (r1, r2, r3, r4, r5) := by rw [if_neg (show ¬ (false = true) by decide)] at H; exact H
                   clear H
                   have H := H1
                   clear H1
                   by_cases c59 : 0 ≤ (rd x65_3 x67_3)
                   ·
                    rw [if_pos c59] at H
                    have c59b0 : decide (0 ≤ (rd x65_3 x67_3)) = true := decide_eq_true c59
                    clear c59
                    by_cases c60 : (rd x65_3 x67_3) < (x280003_4.length : Int)
                    ·
                     rw [if_pos c60] at H
                     have c60b0 : decide ((rd x65_3 x67_3) < (x280003_4.length : Int)) = true := decide_eq_true c60
                     try (have c60b0_ := c60b0; (try simp only [hl65_3] at c60b0_); (try simp only [hl65_4] at c60b0_))
                     clear c60
                     obtain ⟨y287, hy287⟩ : ∃ y_ : List Int, y_ = (x280003_4.set ((rd x65_3 x67_3) : Int).toNat (wrap64 ((rd x280003_4 (rd x65_3 x67_3)) + 1))) := ⟨_, rfl⟩
                     replace H : (if (rd y287 (rd x65_3 x67_3)) > 999 then (some (0, 0, 0, ([] : List Int), false)) else (if (rd x65_3 x67_3) < (t262.length : Int) then ((impl_fits.f k4 a0 l1 (rd_L2 t262 (rd x65_3 x67_3)) (rd y287 (rd x65_3 x67_3)) a3 x12_4).bind fun bt291 => (impl_BuildDisplaced.l2 k4 a0 l1 a3 x12_4 (rd x65_3 x67_3) bt291.1 bt291.2 x65_4 (x11_2.length : Int) x67_3 t262 a0 a2 a3 y287)) else (none))) = some (r1, r2, r3, r4, r5) := by first | (rw [hy287]; with_reducible exact H) | (have H2_ := (Option.bind_some _ _).symm.trans H; rw [hy287]; with_reducible exact H2_) | (have H2_ := (Option.bind_some _ _).symm.trans H; with_reducible exact H2_) | with_reducible exact H | (rw [hy287]; exact H) | exact H
                     have Ny287 := Aside0.mk hy287
                     clear hy287
                     by_cases c62 : (rd y287 (rd x65_3 x67_3)) > 999
                     ·
                      rw [if_pos c62] at H
                      have c62b0 : decide (999 < (rd y287 (rd x65_3 x67_3))) = true := decide_eq_true c62
                      clear c62
                      simp only [Option.some.injEq, Prod.mk.injEq] at H
                      obtain ⟨rfl, rfl, rfl, rfl, rfl⟩ := H
                      have hnb63 := NB279_257.out
                      have hnc63 := NB257_279.out
                      have hnb64 := NB279_271.out
                      have hnc64 := NB271_279.out
                      have hcz65_0 : wr.cell? ⟨gb279, 0, none⟩ = some (.int .i64 a0) := (blk_cell BK279.out 0).trans rfl
                      have hcz65_1 : wr.cell? ⟨gb279, 1, none⟩ = some (.int .i64 a2) := (blk_cell BK279.out 1).trans rfl
                      have hcz65_2 : wr.cell? ⟨gb279, 2, none⟩ = some (.int .i64 a3) := (blk_cell BK279.out 2).trans rfl
                      have hcz65_3 : wr.cell? ⟨gb279, 3, none⟩ = some (u280003) := (blk_cell BK279.out 3).trans rfl
                      have hfz65_0 := blk_frozen BK279.out 0
                      have hfz65_1 := blk_frozen BK279.out 1
                      have hfz65_2 := blk_frozen BK279.out 2
                      have hfz65_3 := blk_frozen BK279.out 3
                      obtain ⟨Ao66, co66, eo66⟩ := Kd.R_slice HO_280003.out
                      subst eo66
                      have p286 : 0 ≤ ((rd x65_3 x67_3) : Int) := of_decide_eq_true (by first | (with_reducible assumption) | assumption)
                      have q286 : (rd x65_3 x67_3) < (x280003_4.length : Int) := of_decide_eq_true (by first | (with_reducible assumption) | assumption)
                      obtain ⟨ad286, e286, hx286_0⟩ := Kd.at_int (Kd.R_reads' HO_280003.out).2.2 (rd x65_3 x67_3) p286 q286
                      cases e286
                      replace p286 := eq_true p286
                      replace q286 := eq_true q286
                      have p61 : 0 ≤ ((rd x65_3 x67_3) : Int) := of_decide_eq_true (by first | (with_reducible assumption) | assumption)
                      have q61 : ((rd x65_3 x67_3) : Int) < ((x280003_4.length : Int) : Int) := of_decide_eq_true (by first | (with_reducible assumption) | assumption)
                      obtain ⟨go61, co61, eo61, gb61, gl61, cl61, HG61⟩ := Kd.R_form HO_280003.out (by omega)
                      (first | cases eo61 | (injection eo61 with ea_ en_ ec_; (first | subst ea_ | (injection ea_ with ea_; subst ea_)); subst ec_; clear en_))
                      have GB61 := Aside0.mk gb61
                      have GG61 := Aside0.mk HG61
                      clear gb61 gl61 HG61
                      (first | simp only [add_plain] at hx286_0 | skip)
                      obtain ⟨hx61_0, hf61_0⟩ := Kd.R_celln 0 HO_280003.out ((rd x65_3 x67_3) : Int) p61 q61
                      replace p61 := eq_true p61
                      replace q61 := eq_true q61
                      have HP67 := Kd.R_putg HO_280003.out ((rd x65_3 x67_3) : Int) (wrap64 ((rd x280003_4 (rd x65_3 x67_3)) + 1))
                      go_wp2_with (first | ((with_reducible refine gate_store (t := 3) (p := 108) rfl ?_); refine store_event (t := 3) (p := 108) (v := ?vo_w68) (w1 := (wr.setCell ⟨go61, ((rd x65_3 x67_3) : Int).toNat, none⟩ (.int .i64 (wrap64 ((rd x280003_4 (rd x65_3 x67_3)) + 1))))) ?hg ?ho ?hn ?hr ?_; (case ho => rfl); (case hg => rfl); (case hn => rfl); (case hr => first | (go_simp; done) | (go_simp; rfl)); intro w68 hw; have hg : wr.grownBy w68 (some go61) := (by rw [hw]; exact HP67.2); have hp_ : Kd.R (Kd.int .i64) 3 w68 w.heap.size (fun k_ => some k_ ≠ (.map (some b269) : Value).ownBlock ∧ some k_ ≠ (u17 : Value).ownBlock ∧ some k_ ≠ (.slice (some ad280) x65_4.length co32 : Value).ownBlock) (.slice (some ⟨go61, 0, none⟩) x280003_4.length co66) y287 := (by rw [hw, Ny287.out]; exact HP67.1); clear HP67; have n0_ := Aside0.mk (MR_after (v := (.slice (some ⟨go61, 0, none⟩) x280003_4.length co66)) (v1 := (.slice (some ⟨go61, 0, none⟩) x280003_4.length co66)) (ok := (fun k_ => some k_ ≠ (u17 : Value).ownBlock ∧ some k_ ≠ (.slice (some ad280) x65_4.length co32 : Value).ownBlock)) (uM HO_12) (uR HO_280003) hg (.inl rfl)); have n1_ := Aside0.mk (Kd.R_after (v := (.slice (some ⟨go61, 0, none⟩) x280003_4.length co66)) (v1 := (.slice (some ⟨go61, 0, none⟩) x280003_4.length co66)) (ok := (fun k_ => some k_ ≠ (.map (some b269) : Value).ownBlock ∧ some k_ ≠ (.slice (some ad280) x65_4.length co32 : Value).ownBlock)) (by (with_reducible repeat (first | apply Kd.R_alloc | apply Kd.R_drewN | apply Kd.R_drew)); exact Kd.R_mono HO_17.out (fun _ hk => ⟨⟨hk.1, hk.2.1⟩, hk.2.2⟩)) hg (.inl rfl)); have n2_ := Aside0.mk (Kd.R_after (v := (.slice (some ⟨go61, 0, none⟩) x280003_4.length co66)) (v1 := (.slice (some ⟨go61, 0, none⟩) x280003_4.length co66)) (ok := (fun k_ => some k_ ≠ (.map (some b269) : Value).ownBlock ∧ some k_ ≠ (u17 : Value).ownBlock)) (by (with_reducible repeat (first | apply Kd.R_alloc | apply Kd.R_drewN | apply Kd.R_drew)); exact Kd.R_mono HO_65.out (fun _ hk => ⟨⟨hk.1, hk.2.1⟩, hk.2.2⟩)) hg (.inl rfl)); have n3_ := Aside0.mk (Kd.S_after (v := (.slice (some ⟨go61, 0, none⟩) x280003_4.length co66)) (v1 := (.slice (some ⟨go61, 0, none⟩) x280003_4.length co66)) (ok := (fun k_ => some k_ ≠ (.map (some b269) : Value).ownBlock ∧ some k_ ≠ (u17 : Value).ownBlock ∧ some k_ ≠ (.slice (some ad280) x65_4.length co32 : Value).ownBlock)) (by (with_reducible repeat (first | apply Kd.S_alloc | apply Kd.S_drewN | apply Kd.S_drew)); exact Kd.S_mono HO_272000.out (fun _ hk => ⟨⟨hk.1, ⟨hk.2.1, hk.2.2.1⟩⟩, hk.2.2.2⟩)) hg (.inl rfl)); have n4_ := Aside0.mk (hp_); have n5_ := Aside0.mk (blk_grown (g := gb257) (o := .cells #[.int .i64 x258000_4, .int .i64 x258001_4, .int .i64 x258002_4, .slice none 0 0] 26 (0, 0)) (uK BK257) hg (Kd.R_ne HO_280003.out BK257.out (by decide))); have n6_ := Aside0.mk (blk_grown (g := gb271) (o := .cells #[.slice (some ad281) t262.length co23] 36 (0, 0)) (uK BK271) hg (Kd.R_ne HO_280003.out BK271.out (by decide))); have n7_ := Aside0.mk (blk_grown (g := gb279) (o := .cells #[.int .i64 a0, .int .i64 a2, .int .i64 a3, .slice (some ⟨go61, 0, none⟩) x280003_4.length co66] 26 (0, 0)) (uK BK279) hg (Kd.R_ne HO_280003.out BK279.out (by decide))); have n8_ := Aside0.mk ((by rw [hw]; exact below_set (HB.out) GB61.out : Below w.heap.size w w68)); clear HO_12 HO_17 HO_65 HO_272000 HO_280003 BK257 BK271 BK279 HB; have HO_12 := n0_; have HO_17 := n1_; have HO_65 := n2_; have HO_272000 := n3_; have HO_280003 := n4_; have BK257 := n5_; have BK271 := n6_; have BK279 := n7_; have HB := n8_; clear n0_ n1_ n2_ n3_ n4_ n5_ n6_ n7_ n8_ hg hw hp_; have hcz69_0 : w68.cell? ⟨gb279, 0, none⟩ = some (.int .i64 a0) := (blk_cell BK279.out 0).trans rfl; have hcz69_1 : w68.cell? ⟨gb279, 1, none⟩ = some (.int .i64 a2) := (blk_cell BK279.out 1).trans rfl; have hcz69_2 : w68.cell? ⟨gb279, 2, none⟩ = some (.int .i64 a3) := (blk_cell BK279.out 2).trans rfl; have hcz69_3 : w68.cell? ⟨gb279, 3, none⟩ = some (.slice (some ⟨go61, 0, none⟩) x280003_4.length co66) := (blk_cell BK279.out 3).trans rfl; have hfz69_0 := blk_frozen BK279.out 0; have hfz69_1 := blk_frozen BK279.out 1; have hfz69_2 := blk_frozen BK279.out 2; have hfz69_3 := blk_frozen BK279.out 3; have p288 : 0 ≤ ((rd x65_3 x67_3) : Int) := of_decide_eq_true (by first | (with_reducible assumption) | assumption); have q288 : (rd x65_3 x67_3) < (y287.length : Int) := (by have h_ : ((rd x65_3 x67_3) : Int) < ((x280003_4.length : Int) : Int) := of_decide_eq_true (by first | (with_reducible assumption) | assumption); first | (have e_ := (Kd.R_reads' HO_280003.out).1; omega) | simpa only [Ny287.out, List.length_set] using h_); have ql288 : (((rd x65_3 x67_3) : Int) < ((x280003_4.length : Int) : Int)) = True := eq_true (of_decide_eq_true (by first | (with_reducible assumption) | assumption)); obtain ⟨ad288, e288, hx288_0⟩ := Kd.at_int (Kd.R_reads' HO_280003.out).2.2 (rd x65_3 x67_3) p288 q288; obtain rfl : (⟨go61, 0, none⟩ : Addr) = ad288 := (by injection e288); (first | simp only [add_plain] at hx288_0 | simp only [add_at] at hx288_0 | simp only [Addr.add, Nat.zero_add] at hx288_0 | skip); replace p288 := eq_true p288; replace q288 := eq_true q288; have hnb70 := NB257_271.out; have hnc70 := NB271_257.out; have hcz71_0 : w68.cell? ⟨gb257, 0, none⟩ = some (.int .i64 x258000_4) := (blk_cell BK257.out 0).trans rfl; have hcz71_1 : w68.cell? ⟨gb257, 1, none⟩ = some (.int .i64 x258001_4) := (blk_cell BK257.out 1).trans rfl; have hcz71_2 : w68.cell? ⟨gb257, 2, none⟩ = some (.int .i64 x258002_4) := (blk_cell BK257.out 2).trans rfl; have hcz71_3 : w68.cell? ⟨gb257, 3, none⟩ = some (.slice none 0 0) := (blk_cell BK257.out 3).trans rfl; have hfz71_0 := blk_frozen BK257.out 0; have hfz71_1 := blk_frozen BK257.out 1; have hfz71_2 := blk_frozen BK257.out 2; have hfz71_3 := blk_frozen BK257.out 3))
                      refine bodyPost_ret (results_ct rfl _ _ gb257 26 #[.int .i64 0, .int .i64 0, .int .i64 0, .slice none 0 0] (0, 0) _ rfl (by refine uW ?_; refine blk_put (cs := #[.int .i64 0, .int .i64 0, .int .i64 0, .slice none 0 0]) ?_ 3 _ rfl; refine uW ?_; refine blk_put (cs := #[.int .i64 0, .int .i64 0, .int .i64 x258002_4, .slice none 0 0]) ?_ 2 _ rfl; refine uW ?_; refine blk_put (cs := #[.int .i64 0, .int .i64 x258001_4, .int .i64 x258002_4, .slice none 0 0]) ?_ 1 _ rfl; refine uW ?_; refine blk_put (cs := #[.int .i64 x258000_4, .int .i64 x258001_4, .int .i64 x258002_4, .slice none 0 0]) ?_ 0 _ rfl; refine uW ?_; exact BK257.out) Try.underlying26 rfl (by kernel_rfl)) rfl ?_
                      exact ⟨_, by first | rfl | (simp [errW_none, errW_some] <;> rfl) | (simp [*, errW_none, errW_some] <;> rfl), by first | exact Kd.R_nil _ _ _ _ _ | exact Kd.N_nil _ _ _ _ _ | exact Kd.V_nil _ _ _ _ _ | exact Kd.Q_nil _ _ _ _ _ | exact Kd.S_nil _ _ _ _ _, by repeat (first | (with_reducible first | exact HB.out | apply below_alloc | apply pw_below_drewN | apply below_drew1 | refine below_set ?_ GE257.out | refine below_set ?_ GE271.out | refine below_set ?_ GE279.out) | exact HB.out)⟩
                     ·
                      rw [if_neg c62] at H
                      have c62b0 : decide (999 < (rd y287 (rd x65_3 x67_3))) = false := decide_eq_false c62
                      clear c62
                      by_cases c72 : (rd x65_3 x67_3) < (t262.length : Int)
                      ·
                       rw [if_pos c72] at H
                       have c72b0 : decide ((rd x65_3 x67_3) < (t262.length : Int)) = true := decide_eq_true c72
                       try (have c72b0_ := c72b0; (try simp only [hl65_3] at c72b0_); (try simp only [hl65_4] at c72b0_))
                       clear c72
                       replace H := Option.bind_eq_some_iff.mp H
                       obtain ⟨⟨t291, t292⟩, A730, H⟩ := H
                       replace H : (impl_BuildDisplaced.l2 k4 a0 l1 a3 x12_4 (rd x65_3 x67_3) t291 t292 x65_4 (x11_2.length : Int) x67_3 t262 a0 a2 a3 y287) = some (r1, r2, r3, r4, r5) := H
                       have A73 := Aside0.mk A730
                       clear A730
                       have H' := Aside0.mk H
                       clear H
                       have hnb74 := NB279_257.out
                       have hnc74 := NB257_279.out
                       have hnb75 := NB279_271.out
                       have hnc75 := NB271_279.out
                       have hcz76_0 : wr.cell? ⟨gb279, 0, none⟩ = some (.int .i64 a0) := (blk_cell BK279.out 0).trans rfl
                       have hcz76_1 : wr.cell? ⟨gb279, 1, none⟩ = some (.int .i64 a2) := (blk_cell BK279.out 1).trans rfl
                       have hcz76_2 : wr.cell? ⟨gb279, 2, none⟩ = some (.int .i64 a3) := (blk_cell BK279.out 2).trans rfl
                       have hcz76_3 : wr.cell? ⟨gb279, 3, none⟩ = some (u280003) := (blk_cell BK279.out 3).trans rfl
                       have hfz76_0 := blk_frozen BK279.out 0
                       have hfz76_1 := blk_frozen BK279.out 1
                       have hfz76_2 := blk_frozen BK279.out 2
                       have hfz76_3 := blk_frozen BK279.out 3
                       obtain ⟨Ao77, co77, eo77⟩ := Kd.R_slice HO_280003.out
                       subst eo77
                       have p286 : 0 ≤ ((rd x65_3 x67_3) : Int) := of_decide_eq_true (by first | (with_reducible assumption) | assumption)
                       have q286 : (rd x65_3 x67_3) < (x280003_4.length : Int) := of_decide_eq_true (by first | (with_reducible assumption) | assumption)
                       obtain ⟨ad286, e286, hx286_0⟩ := Kd.at_int (Kd.R_reads' HO_280003.out).2.2 (rd x65_3 x67_3) p286 q286
                       cases e286
                       replace p286 := eq_true p286
                       replace q286 := eq_true q286
                       have p61 : 0 ≤ ((rd x65_3 x67_3) : Int) := of_decide_eq_true (by first | (with_reducible assumption) | assumption)
                       have q61 : ((rd x65_3 x67_3) : Int) < ((x280003_4.length : Int) : Int) := of_decide_eq_true (by first | (with_reducible assumption) | assumption)
                       obtain ⟨go61, co61, eo61, gb61, gl61, cl61, HG61⟩ := Kd.R_form HO_280003.out (by omega)
                       (first | cases eo61 | (injection eo61 with ea_ en_ ec_; (first | subst ea_ | (injection ea_ with ea_; subst ea_)); subst ec_; clear en_))
                       have GB61 := Aside0.mk gb61
                       have GG61 := Aside0.mk HG61
                       clear gb61 gl61 HG61
                       (first | simp only [add_plain] at hx286_0 | skip)
                       obtain ⟨hx61_0, hf61_0⟩ := Kd.R_celln 0 HO_280003.out ((rd x65_3 x67_3) : Int) p61 q61
                       replace p61 := eq_true p61
                       replace q61 := eq_true q61
                       have HP78 := Kd.R_putg HO_280003.out ((rd x65_3 x67_3) : Int) (wrap64 ((rd x280003_4 (rd x65_3 x67_3)) + 1))
                       try go_wp2_with (first | ((with_reducible refine gate_store (t := 3) (p := 108) rfl ?_); refine store_event (t := 3) (p := 108) (v := ?vo_w79) (w1 := (wr.setCell ⟨go61, ((rd x65_3 x67_3) : Int).toNat, none⟩ (.int .i64 (wrap64 ((rd x280003_4 (rd x65_3 x67_3)) + 1))))) ?hg ?ho ?hn ?hr ?_; (case ho => rfl); (case hg => rfl); (case hn => rfl); (case hr => first | (go_simp; done) | (go_simp; rfl)); intro w79 hw; have hg : wr.grownBy w79 (some go61) := (by rw [hw]; exact HP78.2); have hp_ : Kd.R (Kd.int .i64) 3 w79 w.heap.size (fun k_ => some k_ ≠ (.map (some b269) : Value).ownBlock ∧ some k_ ≠ (u17 : Value).ownBlock ∧ some k_ ≠ (.slice (some ad280) x65_4.length co32 : Value).ownBlock) (.slice (some ⟨go61, 0, none⟩) x280003_4.length co77) y287 := (by rw [hw, Ny287.out]; exact HP78.1); clear HP78; have n0_ := Aside0.mk (MR_after (v := (.slice (some ⟨go61, 0, none⟩) x280003_4.length co77)) (v1 := (.slice (some ⟨go61, 0, none⟩) x280003_4.length co77)) (ok := (fun k_ => some k_ ≠ (u17 : Value).ownBlock ∧ some k_ ≠ (.slice (some ad280) x65_4.length co32 : Value).ownBlock)) (uM HO_12) (uR HO_280003) hg (.inl rfl)); have n1_ := Aside0.mk (Kd.R_after (v := (.slice (some ⟨go61, 0, none⟩) x280003_4.length co77)) (v1 := (.slice (some ⟨go61, 0, none⟩) x280003_4.length co77)) (ok := (fun k_ => some k_ ≠ (.map (some b269) : Value).ownBlock ∧ some k_ ≠ (.slice (some ad280) x65_4.length co32 : Value).ownBlock)) (by (with_reducible repeat (first | apply Kd.R_alloc | apply Kd.R_drewN | apply Kd.R_drew)); exact Kd.R_mono HO_17.out (fun _ hk => ⟨⟨hk.1, hk.2.1⟩, hk.2.2⟩)) hg (.inl rfl)); have n2_ := Aside0.mk (Kd.R_after (v := (.slice (some ⟨go61, 0, none⟩) x280003_4.length co77)) (v1 := (.slice (some ⟨go61, 0, none⟩) x280003_4.length co77)) (ok := (fun k_ => some k_ ≠ (.map (some b269) : Value).ownBlock ∧ some k_ ≠ (u17 : Value).ownBlock)) (by (with_reducible repeat (first | apply Kd.R_alloc | apply Kd.R_drewN | apply Kd.R_drew)); exact Kd.R_mono HO_65.out (fun _ hk => ⟨⟨hk.1, hk.2.1⟩, hk.2.2⟩)) hg (.inl rfl)); have n3_ := Aside0.mk (Kd.S_after (v := (.slice (some ⟨go61, 0, none⟩) x280003_4.length co77)) (v1 := (.slice (some ⟨go61, 0, none⟩) x280003_4.length co77)) (ok := (fun k_ => some k_ ≠ (.map (some b269) : Value).ownBlock ∧ some k_ ≠ (u17 : Value).ownBlock ∧ some k_ ≠ (.slice (some ad280) x65_4.length co32 : Value).ownBlock)) (by (with_reducible repeat (first | apply Kd.S_alloc | apply Kd.S_drewN | apply Kd.S_drew)); exact Kd.S_mono HO_272000.out (fun _ hk => ⟨⟨hk.1, ⟨hk.2.1, hk.2.2.1⟩⟩, hk.2.2.2⟩)) hg (.inl rfl)); have n4_ := Aside0.mk (hp_); have n5_ := Aside0.mk (blk_grown (g := gb257) (o := .cells #[.int .i64 x258000_4, .int .i64 x258001_4, .int .i64 x258002_4, .slice none 0 0] 26 (0, 0)) (uK BK257) hg (Kd.R_ne HO_280003.out BK257.out (by decide))); have n6_ := Aside0.mk (blk_grown (g := gb271) (o := .cells #[.slice (some ad281) t262.length co23] 36 (0, 0)) (uK BK271) hg (Kd.R_ne HO_280003.out BK271.out (by decide))); have n7_ := Aside0.mk (blk_grown (g := gb279) (o := .cells #[.int .i64 a0, .int .i64 a2, .int .i64 a3, .slice (some ⟨go61, 0, none⟩) x280003_4.length co77] 26 (0, 0)) (uK BK279) hg (Kd.R_ne HO_280003.out BK279.out (by decide))); have n8_ := Aside0.mk ((by rw [hw]; exact below_set (HB.out) GB61.out : Below w.heap.size w w79)); clear HO_12 HO_17 HO_65 HO_272000 HO_280003 BK257 BK271 BK279 HB; have HO_12 := n0_; have HO_17 := n1_; have HO_65 := n2_; have HO_272000 := n3_; have HO_280003 := n4_; have BK257 := n5_; have BK271 := n6_; have BK279 := n7_; have HB := n8_; clear n0_ n1_ n2_ n3_ n4_ n5_ n6_ n7_ n8_ hg hw hp_; have hcz80_0 : w79.cell? ⟨gb279, 0, none⟩ = some (.int .i64 a0) := (blk_cell BK279.out 0).trans rfl; have hcz80_1 : w79.cell? ⟨gb279, 1, none⟩ = some (.int .i64 a2) := (blk_cell BK279.out 1).trans rfl; have hcz80_2 : w79.cell? ⟨gb279, 2, none⟩ = some (.int .i64 a3) := (blk_cell BK279.out 2).trans rfl; have hcz80_3 : w79.cell? ⟨gb279, 3, none⟩ = some (.slice (some ⟨go61, 0, none⟩) x280003_4.length co77) := (blk_cell BK279.out 3).trans rfl; have hfz80_0 := blk_frozen BK279.out 0; have hfz80_1 := blk_frozen BK279.out 1; have hfz80_2 := blk_frozen BK279.out 2; have hfz80_3 := blk_frozen BK279.out 3; have p288 : 0 ≤ ((rd x65_3 x67_3) : Int) := of_decide_eq_true (by first | (with_reducible assumption) | assumption); have q288 : (rd x65_3 x67_3) < (y287.length : Int) := (by have h_ : ((rd x65_3 x67_3) : Int) < ((x280003_4.length : Int) : Int) := of_decide_eq_true (by first | (with_reducible assumption) | assumption); first | (have e_ := (Kd.R_reads' HO_280003.out).1; omega) | simpa only [Ny287.out, List.length_set] using h_); have ql288 : (((rd x65_3 x67_3) : Int) < ((x280003_4.length : Int) : Int)) = True := eq_true (of_decide_eq_true (by first | (with_reducible assumption) | assumption)); obtain ⟨ad288, e288, hx288_0⟩ := Kd.at_int (Kd.R_reads' HO_280003.out).2.2 (rd x65_3 x67_3) p288 q288; obtain rfl : (⟨go61, 0, none⟩ : Addr) = ad288 := (by injection e288); (first | simp only [add_plain] at hx288_0 | simp only [add_at] at hx288_0 | simp only [Addr.add, Nat.zero_add] at hx288_0 | skip); replace p288 := eq_true p288; replace q288 := eq_true q288))
                       have n0_ := Aside0.mk (MR_drew HO_12.out)
                       have n1_ := Aside0.mk (Kd.R_drew HO_17.out)
                       have n2_ := Aside0.mk (Kd.R_drew HO_65.out)
                       have n3_ := Aside0.mk (Kd.S_drew HO_272000.out)
                       have n4_ := Aside0.mk (Kd.R_drew HO_280003.out)
                       have n5_ := Aside0.mk (blk_drew BK257.out)
                       have n6_ := Aside0.mk (blk_drew BK271.out)
                       have n7_ := Aside0.mk (blk_drew BK279.out)
                       have n8_ := Aside0.mk (below_drew1 HB.out)
                       clear HO_12
                       clear HO_17
                       clear HO_65
                       clear HO_272000
                       clear HO_280003
                       clear BK257
                       clear BK271
                       clear BK279
                       clear HB
                       have HO_12 := n0_
                       have HO_17 := n1_
                       have HO_65 := n2_
                       have HO_272000 := n3_
                       have HO_280003 := n4_
                       have BK257 := n5_
                       have BK271 := n6_
                       have BK279 := n7_
                       have HB := n8_
                       clear n0_ n1_ n2_ n3_ n4_ n5_ n6_ n7_ n8_
                       have p289 : 0 ≤ ((rd x65_3 x67_3) : Int) := of_decide_eq_true (by first | (with_reducible assumption) | assumption)
                       have q289 : (rd x65_3 x67_3) < (t262.length : Int) := of_decide_eq_true (by first | (with_reducible assumption) | assumption)
                       obtain ⟨ad289, A289_0, c289_0, e289, hx289_0, hl289_0, hi289_0⟩ := at_L2 (Kd.S_reads' HO_272000.out).2.2 (rd x65_3 x67_3) p289 q289
                       obtain rfl : ad281 = ad289 := (by injection e289)
                       obtain ⟨ce289, hce289, hMe289, hcc289⟩ := Kd.S_get HO_272000.out [] (rd x65_3 x67_3) p289 (by first | exact q289 | exact of_decide_eq_true (by first | (with_reducible assumption) | assumption) | (have e_ := (Kd.S_reads' HO_272000.out).1; omega))
                       obtain ⟨ve289_0, rfl, ge289_0⟩ := hMe289
                       have hv289_0 := hcc289 0 _ rfl
                       rw [Nat.add_zero, show ((Kd.slice 3 (Kd.int .i64))).sz = 1 from rfl, Nat.mul_one] at hv289_0
                       replace hv289_0 := Option.some.inj (hv289_0.symm.trans hx289_0)
                       rw [hv289_0] at ge289_0
                       have HL289_0 := Aside0.mk (show Kd.R (Kd.int .i64) 3 _ _ _ _ (rd_L2 t262 (rd x65_3 x67_3)) from ge289_0)
                       clear hv289_0 ge289_0
                       clear hcc289 hce289
                       have HR289_0 := Aside0.mk hi289_0
                       have HC289_0 := Aside0.mk hl289_0
                       clear hi289_0 hl289_0
                       replace p289 := eq_true p289
                       replace q289 := eq_true q289
                       have p290 : 0 ≤ ((rd x65_3 x67_3) : Int) := of_decide_eq_true (by first | (with_reducible assumption) | assumption)
                       have q290 : (rd x65_3 x67_3) < (y287.length : Int) := (by have h_ : ((rd x65_3 x67_3) : Int) < ((x280003_4.length : Int) : Int) := of_decide_eq_true (by first | (with_reducible assumption) | assumption); first | (have e_ := (Kd.R_reads' HO_280003.out).1; omega) | simpa only [Ny287.out, List.length_set] using h_)
                       have ql290 : (((rd x65_3 x67_3) : Int) < ((x280003_4.length : Int) : Int)) = True := eq_true (of_decide_eq_true (by first | (with_reducible assumption) | assumption))
                       obtain ⟨ad290, e290, hx290_0⟩ := Kd.at_int (Kd.R_reads' HO_280003.out).2.2 (rd x65_3 x67_3) p290 q290
                       obtain rfl : (⟨go61, 0, none⟩ : Addr) = ad290 := (by injection e290)
                       (first | simp only [add_plain] at hx290_0 | simp only [add_at] at hx290_0 | simp only [Addr.add, Nat.zero_add] at hx290_0 | skip)
                       replace p290 := eq_true p290
                       replace q290 := eq_true q290
                       refine start_ (n := 19) (S := fun w' => w'.cell? ⟨gb271, 0, none⟩ = some (.slice (some ad281) t262.length co23) ∧ w'.cell? ⟨gb279, 0, none⟩ = some (.int .i64 a0) ∧ w'.cell? ⟨gb279, 1, none⟩ = some (.int .i64 a2) ∧ w'.cell? ⟨gb279, 2, none⟩ = some (.int .i64 a3) ∧ w'.cell? ⟨gb279, 3, none⟩ = some (.slice (some ⟨go61, 0, none⟩) x280003_4.length co77) ∧ w'.cell? (ad281.add ((rd x65_3 x67_3)).toNat) = some (.slice A289_0 (rd_L2 t262 (rd x65_3 x67_3)).length c289_0) ∧ w'.cell? ⟨go61, ((rd x65_3 x67_3)).toNat, none⟩ = some (.int .i64 (rd y287 (rd x65_3 x67_3)))) (ds := []) #[false, false, false, false, false, false, false, false, false, false, false, false, false, false, false, false, false, false, false] (by kernel_rfl) rfl rfl ⟨(blk_cell BK271.out 0).trans rfl, (blk_cell BK279.out 0).trans rfl, (blk_cell BK279.out 1).trans rfl, (blk_cell BK279.out 2).trans rfl, (blk_cell BK279.out 3).trans rfl, hx289_0, hx290_0⟩ (fun hHeld => ?_); refine with_tabW impl_BuildDisplaced.tab16 impl_BuildDisplaced.bits16 (fun HT_ HW_ => ?_)
                       generalize w79.drew = w81 at HO_12 HO_17 HO_65 HO_272000 HO_280003 BK257 BK271 BK279 HB HL289_0 HR289_0 hx289_0 hx290_0 hHeld ⊢
                       refine pure_ (i := 0) (N := some 86) (v := ?_) (a' := ?_) #[true, false, false, false, false, false, false, false, false, false, false, false, false, false, false, false, false, false, false] rfl rfl (any_of HT_.out (by kernel_rfl)) (fun _ _ _ h => h) (Or.inl ⟨by rfl, ?_⟩) ?_ ?_
                       rotate_left
                       ·
                        intro w'
                        go_simp
                        with_reducible rfl
                       rotate_left
                       ·
                        simp only [Act.put, List.setIfInBounds_toArray, List.set_cons_zero, List.set_cons_succ, i64_w, i32_w]
                        rfl
                       refine pure_ (i := 1) (N := some 87) (v := ?_) (a' := ?_) #[true, true, false, false, false, false, false, false, false, false, false, false, false, false, false, false, false, false, false] rfl rfl (any_of HT_.out (by kernel_rfl)) (fun _ _ _ h => h) (Or.inl ⟨by rfl, ?_⟩) ?_ ?_
                       rotate_left
                       ·
                        intro w'
                        go_simp
                        with_reducible rfl
                       rotate_left
                       ·
                        simp only [Act.put, List.setIfInBounds_toArray, List.set_cons_zero, List.set_cons_succ, i64_w, i32_w]
                        rfl
                       refine pure_ (i := 3) (N := some 89) (v := ?_) (a' := ?_) #[true, true, false, true, false, false, false, false, false, false, false, false, false, false, false, false, false, false, false] rfl rfl (any_of HT_.out (by kernel_rfl)) (fun _ _ _ h => h) (Or.inl ⟨by rfl, ?_⟩) ?_ ?_
                       rotate_left
                       ·
                        intro w'
                        go_simp
                        with_reducible rfl
                       rotate_left
                       ·
                        simp only [Act.put, List.setIfInBounds_toArray, List.set_cons_zero, List.set_cons_succ, i64_w, i32_w]
                        rfl
                       refine pure_ (i := 6) (N := some 92) (v := ?_) (a' := ?_) #[true, true, false, true, false, false, true, false, false, false, false, false, false, false, false, false, false, false, false] rfl rfl (any_of HT_.out (by kernel_rfl)) (fun _ _ _ h => h) (Or.inl ⟨by rfl, ?_⟩) ?_ ?_
                       rotate_left
                       ·
                        intro w'
                        go_simp
                        with_reducible rfl
                       rotate_left
                       ·
                        simp only [Act.put, List.setIfInBounds_toArray, List.set_cons_zero, List.set_cons_succ, i64_w, i32_w]
                        rfl
                       refine pure_ (i := 8) (N := some 94) (v := ?_) (a' := ?_) #[true, true, false, true, false, false, true, false, true, false, false, false, false, false, false, false, false, false, false] rfl rfl (any_of HT_.out (by kernel_rfl)) (fun _ _ _ h => h) (Or.inl ⟨by rfl, ?_⟩) ?_ ?_
                       rotate_left
                       ·
                        intro w'
                        go_simp
                        with_reducible rfl
                       rotate_left
                       ·
                        simp only [Act.put, List.setIfInBounds_toArray, List.set_cons_zero, List.set_cons_succ, i64_w, i32_w]
                        rfl
                       refine pure_ (i := 11) (N := some 97) (v := ?_) (a' := ?_) #[true, true, false, true, false, false, true, false, true, false, false, true, false, false, false, false, false, false, false] rfl rfl (any_of HT_.out (by kernel_rfl)) (fun _ _ _ h => h) (Or.inl ⟨by rfl, ?_⟩) ?_ ?_
                       rotate_left
                       ·
                        intro w'
                        go_simp
                        with_reducible rfl
                       rotate_left
                       ·
                        simp only [Act.put, List.setIfInBounds_toArray, List.set_cons_zero, List.set_cons_succ, i64_w, i32_w]
                        rfl
                       refine pure_ (i := 12) (N := some 98) (v := ?_) (a' := ?_) #[true, true, false, true, false, false, true, false, true, false, false, true, true, false, false, false, false, false, false] rfl rfl (any_of HT_.out (by kernel_rfl)) (fun _ _ _ h => h) (Or.inl ⟨by rfl, ?_⟩) ?_ ?_
                       rotate_left
                       ·
                        intro w'
                        go_simp
                        with_reducible rfl
                       rotate_left
                       ·
                        simp only [Act.put, List.setIfInBounds_toArray, List.set_cons_zero, List.set_cons_succ, i64_w, i32_w]
                        rfl
                       refine take_ (i := 2) (N := some 88) (v := ?_) (a' := ?_) #[true, true, true, true, false, false, true, false, true, false, false, true, true, false, false, false, false, false, false] rfl rfl (take_ofW HT_.out HW_.out (by kernel_rfl)) (fun _ _ _ h => h) (Or.inl ⟨by rfl, ?_⟩) hHeld ?_ ?_
                       rotate_left
                       ·
                        rintro w' ⟨s0, s1, s2, s3, s4, s5, s6⟩
                        go_simp
                        with_reducible rfl
                       rotate_left
                       ·
                        simp only [Act.put, List.setIfInBounds_toArray, List.set_cons_zero, List.set_cons_succ, i64_w, i32_w]
                        rfl
                       refine pure_ (i := 4) (N := some 90) (v := ?_) (a' := ?_) #[true, true, true, true, true, false, true, false, true, false, false, true, true, false, false, false, false, false, false] rfl rfl (any_of HT_.out (by kernel_rfl)) (fun _ _ _ h => h) (Or.inl ⟨by rfl, ?_⟩) ?_ ?_
                       rotate_left
                       ·
                        intro w'
                        go_simp
                        with_reducible rfl
                       rotate_left
                       ·
                        simp only [Act.put, List.setIfInBounds_toArray, List.set_cons_zero, List.set_cons_succ, i64_w, i32_w]
                        rfl
                       refine take_ (i := 5) (N := some 91) (v := ?_) (a' := ?_) #[true, true, true, true, true, true, true, false, true, false, false, true, true, false, false, false, false, false, false] rfl rfl (take_ofW HT_.out HW_.out (by kernel_rfl)) (fun _ _ _ h => h) (Or.inl ⟨by rfl, ?_⟩) hHeld ?_ ?_
                       rotate_left
                       ·
                        rintro w' ⟨s0, s1, s2, s3, s4, s5, s6⟩
                        go_simp
                        with_reducible rfl
                       rotate_left
                       ·
                        simp only [Act.put, List.setIfInBounds_toArray, List.set_cons_zero, List.set_cons_succ, i64_w, i32_w]
                        rfl
                       refine take_ (i := 7) (N := some 93) (v := ?_) (a' := ?_) #[true, true, true, true, true, true, true, true, true, false, false, true, true, false, false, false, false, false, false] rfl rfl (take_ofW HT_.out HW_.out (by kernel_rfl)) (fun _ _ _ h => h) (Or.inl ⟨by rfl, ?_⟩) hHeld ?_ ?_
                       rotate_left
                       ·
                        rintro w' ⟨s0, s1, s2, s3, s4, s5, s6⟩
                        go_simp
                        with_reducible rfl
                       rotate_left
                       ·
                        simp only [Act.put, List.setIfInBounds_toArray, List.set_cons_zero, List.set_cons_succ, i64_w, i32_w]
                        rfl
                       refine pure_ (i := 9) (N := some 95) (v := ?_) (a' := ?_) #[true, true, true, true, true, true, true, true, true, true, false, true, true, false, false, false, false, false, false] rfl rfl (any_of HT_.out (by kernel_rfl)) (fun _ _ _ h => h) (Or.inl ⟨by rfl, ?_⟩) ?_ ?_
                       rotate_left
                       ·
                        intro w'
                        go_simp
                        with_reducible rfl
                       rotate_left
                       ·
                        simp only [Act.put, List.setIfInBounds_toArray, List.set_cons_zero, List.set_cons_succ, i64_w, i32_w]
                        rfl
                       refine take_ (i := 10) (N := some 96) (v := ?_) (a' := ?_) #[true, true, true, true, true, true, true, true, true, true, true, true, true, false, false, false, false, false, false] rfl rfl (take_ofW HT_.out HW_.out (by kernel_rfl)) (fun _ _ _ h => h) (Or.inl ⟨by rfl, ?_⟩) hHeld ?_ ?_
                       rotate_left
                       ·
                        rintro w' ⟨s0, s1, s2, s3, s4, s5, s6⟩
                        go_simp
                        with_reducible rfl
                       rotate_left
                       ·
                        simp only [Act.put, List.setIfInBounds_toArray, List.set_cons_zero, List.set_cons_succ, i64_w, i32_w]
                        rfl
                       refine one_ (i := 13) (N := some 99) #[true, true, true, true, true, true, true, true, true, true, true, true, true, true, false, false, false, false, false] rfl rfl (one_of HT_.out (by kernel_rfl)) (by decide) (fun K hK => ?_)
                       refine goes_ Try.func25 (by kernel_rfl) rfl #[.int .i64 a0, .slice A1 l1.length c1, .slice A289_0 (rd_L2 t262 (rd x65_3 x67_3)).length c289_0, .int .i64 (rd y287 (rd x65_3 x67_3)), .int .i64 a3, .map (some b269)] (by rfl) rfl rfl (by (try simp only [List.map_toArray, List.map_cons, List.map_nil]); first | done | rfl | (simp only [List.length_drop, List.length_take]; rfl)) ?_
                       with_reducible refine (impl_fits.calls k4 a0 _ _ l1 _ _ (rd_L2 t262 (rd x65_3 x67_3)) (rd y287 (rd x65_3 x67_3)) a3 _ x12_4 t291 t292 _ ?side1 ?side2 ?side3 ?side4 ?side5 A73.out).mono ?_
                       (case side1 => exact uC HR1 HB)
                       (case side2 => exact HC1.out)
                       (case side3 => repeat (first | exact (by repeat (first | (with_reducible exact HR289_0.out) | (with_reducible refine Kd.C_alloc ?_ _) | (with_reducible refine Kd.C_drewN ?_ _) | (with_reducible refine Kd.C_drew ?_) | exact HR289_0.out)) | (with_reducible refine Kd.C_alloc ?_ _) | (with_reducible refine Kd.C_drewN ?_ _) | (with_reducible refine Kd.C_drew ?_)))
                       (case side4 => exact HC289_0.out)
                       (case side5 => exact uMC HO_12)
                       rintro e w82 ⟨v293, rfl, ho0, hb⟩
                       have HS5_ := (hb.cell (World.block_lt_of_cell? _ _ (hHeld.2.2.2.2.2.1))).trans (hHeld.2.2.2.2.2.1)
                       have HS6_ := (hb.cell (World.block_lt_of_cell? _ _ (hHeld.2.2.2.2.2.2))).trans (hHeld.2.2.2.2.2.2)
                       refine ⟨_, rfl, ?_⟩
                       have n0_ := Aside0.mk (MR_elder' (uM HO_12) (Kd.R_base ho0) hb)
                       have n1_ := Aside0.mk (Kd.R_elder' (uR HO_17) (Kd.R_base ho0) hb)
                       have n2_ := Aside0.mk (Kd.R_elder' (uR HO_65) (Kd.R_base ho0) hb)
                       have n3_ := Aside0.mk (Kd.S_elder' (by (with_reducible repeat (first | apply Kd.S_alloc | apply Kd.S_drewN | apply Kd.S_drew)); exact HO_272000.out) (Kd.R_base ho0) hb)
                       have n4_ := Aside0.mk (Kd.R_elder' (uR HO_280003) (Kd.R_base ho0) hb)
                       have n5_ := Aside0.mk (Kd.R_elder' (uR HL289_0) (Kd.R_base ho0) hb)
                       have n6_ := Aside0.mk (Kd.R_lower (Kd.R_new' (Kd.R_new' (Kd.R_new' (Kd.R_new' (Kd.R_new' ho0 (MR_lt (uM HO_12))) (Kd.R_lt (uR HO_17))) (Kd.R_lt (uR HO_65))) (Kd.R_lt (uR HO_280003))) (Kd.R_lt (uR HL289_0))) (below_size (by repeat (first | (with_reducible first | exact HB.out | apply below_alloc | apply pw_below_drewN | apply below_drew1 | refine below_set ?_ GE257.out | refine below_set ?_ GE271.out | refine below_set ?_ GE279.out) | exact HB.out))))
                       have n7_ := Aside0.mk (blk_below (g := gb257) (o := .cells #[.int .i64 x258000_4, .int .i64 x258001_4, .int .i64 x258002_4, .slice none 0 0] 26 (0, 0)) (uK BK257) hb)
                       have n8_ := Aside0.mk (blk_below (g := gb271) (o := .cells #[.slice (some ad281) t262.length co23] 36 (0, 0)) (uK BK271) hb)
                       have n9_ := Aside0.mk (blk_below (g := gb279) (o := .cells #[.int .i64 a0, .int .i64 a2, .int .i64 a3, .slice (some ⟨go61, 0, none⟩) x280003_4.length co77] 26 (0, 0)) (uK BK279) hb)
                       have n10_ := Aside0.mk (Kd.C_below (by repeat (first | (with_reducible exact HR289_0.out) | (with_reducible refine Kd.C_alloc ?_ _) | (with_reducible refine Kd.C_drewN ?_ _) | (with_reducible refine Kd.C_drew ?_) | exact HR289_0.out)) hb)
                       have n11_ := Aside0.mk (below_step (by repeat (first | (with_reducible first | exact HB.out | apply below_alloc | apply pw_below_drewN | apply below_drew1 | refine below_set ?_ GE257.out | refine below_set ?_ GE271.out | refine below_set ?_ GE279.out) | exact HB.out)) hb)
                       clear HO_12
                       clear HO_17
                       clear HO_65
                       clear HO_272000
                       clear HO_280003
                       clear HL289_0
                       clear BK257
                       clear BK271
                       clear BK279
                       clear HR289_0
                       clear HB
                       have HO_12 := n0_
                       have HO_17 := n1_
                       have HO_65 := n2_
                       have HO_272000 := n3_
                       have HO_280003 := n4_
                       have HL289_0 := n5_
                       have HO294 := n6_
                       have BK257 := n7_
                       have BK271 := n8_
                       have BK279 := n9_
                       have HR289_0 := n10_
                       have HB := n11_
                       clear n0_ n1_ n2_ n3_ n4_ n5_ n6_ n7_ n8_ n9_ n10_ n11_
                       (try clear hb)
                       (try clear hb2)
                       (try clear hk)
                       (try clear hi)
                       (try clear ho0)
                       refine hK.out _ _ ⟨(blk_cell BK271.out 0).trans rfl, (blk_cell BK279.out 0).trans rfl, (blk_cell BK279.out 1).trans rfl, (blk_cell BK279.out 2).trans rfl, (blk_cell BK279.out 3).trans rfl, HS5_, HS6_⟩ (fun hHeld => ?_)
                       clear hK K
                       refine norm_ (a' := ?_) ?_ ?_
                       rotate_left
                       ·
                        show Act.put _ (some 99) _ = _
                        simp only [Act.put, List.setIfInBounds_toArray, List.set_cons_zero, List.set_cons_succ, i64_w, i32_w]
                        rfl
                       refine pure_ (i := 14) (N := some 85) (v := ?_) (a' := ?_) #[true, true, true, true, true, true, true, true, true, true, true, true, true, true, true, false, false, false, false] rfl rfl (any_of HT_.out (by kernel_rfl)) (fun _ _ _ h => h) (Or.inl ⟨by rfl, ?_⟩) ?_ ?_
                       rotate_left
                       ·
                        intro w'
                        go_simp
                        with_reducible rfl
                       rotate_left
                       ·
                        simp only [Act.put, List.setIfInBounds_toArray, List.set_cons_zero, List.set_cons_succ, i64_w, i32_w]
                        rfl
                       refine pure_ (i := 15) (N := some 100) (v := ?_) (a' := ?_) #[true, true, true, true, true, true, true, true, true, true, true, true, true, true, true, true, false, false, false] rfl rfl (any_of HT_.out (by kernel_rfl)) (fun _ _ _ h => h) (Or.inl ⟨by rfl, ?_⟩) ?_ ?_
                       rotate_left
                       ·
                        intro w'
                        go_simp
                        with_reducible rfl
                       rotate_left
                       ·
                        simp only [Act.put, List.setIfInBounds_toArray, List.set_cons_zero, List.set_cons_succ, i64_w, i32_w]
                        rfl
                       refine pure_ (i := 16) (N := some 101) (v := ?_) (a' := ?_) #[true, true, true, true, true, true, true, true, true, true, true, true, true, true, true, true, true, false, false] rfl rfl (any_of HT_.out (by kernel_rfl)) (fun _ _ _ h => h) (Or.inl ⟨by rfl, ?_⟩) ?_ ?_
                       rotate_left
                       ·
                        intro w'
                        go_simp
                        with_reducible rfl
                       rotate_left
                       ·
                        simp only [Act.put, List.setIfInBounds_toArray, List.set_cons_zero, List.set_cons_succ, i64_w, i32_w]
                        rfl
                       refine pure_ (i := 17) (N := some 17) (v := ?_) (a' := ?_) #[true, true, true, true, true, true, true, true, true, true, true, true, true, true, true, true, true, true, false] rfl rfl (any_of HT_.out (by kernel_rfl)) (fun _ _ _ h => h) (Or.inl ⟨by rfl, ?_⟩) ?_ ?_
                       rotate_left
                       ·
                        intro w'
                        go_simp
                        with_reducible rfl
                       rotate_left
                       ·
                        simp only [Act.put, List.setIfInBounds_toArray, List.set_cons_zero, List.set_cons_succ, i64_w, i32_w]
                        rfl
                       refine pure_ (i := 18) (N := some 18) (v := ?_) (a' := ?_) #[true, true, true, true, true, true, true, true, true, true, true, true, true, true, true, true, true, true, true] rfl rfl (any_of HT_.out (by kernel_rfl)) (fun _ _ _ h => h) (Or.inl ⟨by rfl, ?_⟩) ?_ ?_
                       rotate_left
                       ·
                        intro w'
                        go_simp
                        with_reducible rfl
                       rotate_left
                       ·
                        simp only [Act.put, List.setIfInBounds_toArray, List.set_cons_zero, List.set_cons_succ, i64_w, i32_w]
                        rfl
                       refine done_ (done_of HT_.out (by kernel_rfl)) ?_
                       try go_wp2
                       (try simp only [← hl65_4])
                       go_roundg k4
                       case measure => have := HJ4.out; have := HK2.out; have := HK3.out; have := HK4.out; omega
                       case rel => exact ⟨(x12_4), (t291), (t292), (x65_4), (x258000_4), (x258001_4), (x258002_4), (y287), (.slice (some ⟨go61, 0, none⟩) x280003_4.length co77), (by first | rfl | (simp; done) | (simp [*]; done)), H', ⟨by have := HJ4.out; have := HK2.out; have := HK3.out; have := HK4.out; omega⟩, ⟨by (try simp only [hl65_3]); (try simp only [hl65_4]); (with_reducible repeat (first | apply MR_alloc | apply MR_drewN | apply MR_drew)); exact MR_mono HO_12.out (fun _ hk => ⟨hk.2, ⟨hk.1.1.2, hk.1.2⟩⟩)⟩, ⟨by (try simp only [hl65_3]); (try simp only [hl65_4]); (with_reducible repeat (first | apply Kd.R_alloc | apply Kd.R_drewN | apply Kd.R_drew)); exact Kd.R_mono HO294.out (fun _ hk => ⟨hk.1.1.1.1.2, ⟨hk.1.1.2, hk.1.2⟩⟩)⟩, ⟨by (try simp only [hl65_3]); (try simp only [hl65_4]); (with_reducible repeat (first | apply Kd.R_alloc | apply Kd.R_drewN | apply Kd.R_drew)); exact Kd.R_mono HO_65.out (fun _ hk => ⟨hk.1.1.1, ⟨hk.2, hk.1.2⟩⟩)⟩, ⟨by (try simp only [hl65_3]); (try simp only [hl65_4]); (with_reducible repeat (first | apply Kd.S_alloc | apply Kd.S_drewN | apply Kd.S_drew)); exact Kd.S_mono HO_272000.out (fun _ hk => ⟨hk.1.1.1, ⟨hk.2, ⟨hk.1.1.2.2, hk.1.2⟩⟩⟩)⟩, ⟨by (try simp only [hl65_3]); (try simp only [hl65_4]); (with_reducible repeat (first | apply Kd.R_alloc | apply Kd.R_drewN | apply Kd.R_drew)); exact Kd.R_mono HO_280003.out (fun _ hk => ⟨hk.1.1, ⟨hk.2, hk.1.2.2⟩⟩)⟩, ⟨by (try simp only [hl65_3]); (try simp only [hl65_4]); refine uW ?_; exact BK257.out⟩, ⟨by (try simp only [hl65_3]); (try simp only [hl65_4]); refine uW ?_; exact BK271.out⟩, ⟨by (try simp only [hl65_3]); (try simp only [hl65_4]); refine uW ?_; exact BK279.out⟩, ⟨by repeat (first | (with_reducible first | exact HB.out | apply below_alloc | apply pw_below_drewN | apply below_drew1 | refine below_set ?_ GE257.out | refine below_set ?_ GE271.out | refine below_set ?_ GE279.out) | exact HB.out)⟩⟩
                      ·
                       rw [if_neg c72] at H
                       exact absurd H (by simp)
                    ·
                     rw [if_neg c60] at H
                     exact absurd H (by simp)
                   ·
                    rw [if_neg c59] at H
                    exact absurd H (by simp)
               ·
                rw [if_neg c45] at H
                exact absurd H (by simp)
              ·
               rw [if_neg c44] at H
               exact absurd H (by simp)
             ·
              rw [if_neg c43] at H
              exact absurd H (by simp)
            ·
             rw [if_neg c42] at H
             exact absurd H (by simp)
           ·
            rw [if_neg c41] at H
            have c41b0 : decide (x67_3 < (x11_2.length : Int)) = false := decide_eq_false c41
            try (have c41b0_ := c41b0; (try simp only [hl65_3] at c41b0_); (try simp only [hl65_4] at c41b0_))
            clear c41
            simp only [Option.some.injEq, Prod.mk.injEq] at H
            obtain ⟨rfl, rfl, rfl, rfl, rfl⟩ := H
            have hnb83 := NB279_257.out
            have hnc83 := NB257_279.out
            have hnb84 := NB279_271.out
            have hnc84 := NB271_279.out
            have hcz85_0 : wr.cell? ⟨gb279, 0, none⟩ = some (.int .i64 a0) := (blk_cell BK279.out 0).trans rfl
            have hcz85_1 : wr.cell? ⟨gb279, 1, none⟩ = some (.int .i64 a2) := (blk_cell BK279.out 1).trans rfl
            have hcz85_2 : wr.cell? ⟨gb279, 2, none⟩ = some (.int .i64 a3) := (blk_cell BK279.out 2).trans rfl
            have hcz85_3 : wr.cell? ⟨gb279, 3, none⟩ = some (u280003) := (blk_cell BK279.out 3).trans rfl
            have hfz85_0 := blk_frozen BK279.out 0
            have hfz85_1 := blk_frozen BK279.out 1
            have hfz85_2 := blk_frozen BK279.out 2
            have hfz85_3 := blk_frozen BK279.out 3
            have hnb86 := NB257_271.out
            have hnc86 := NB271_257.out
            have hcz87_0 : wr.cell? ⟨gb257, 0, none⟩ = some (.int .i64 x258000_3) := (blk_cell BK257.out 0).trans rfl
            have hcz87_1 : wr.cell? ⟨gb257, 1, none⟩ = some (.int .i64 x258001_3) := (blk_cell BK257.out 1).trans rfl
            have hcz87_2 : wr.cell? ⟨gb257, 2, none⟩ = some (.int .i64 x258002_3) := (blk_cell BK257.out 2).trans rfl
            have hcz87_3 : wr.cell? ⟨gb257, 3, none⟩ = some (.slice none 0 0) := (blk_cell BK257.out 3).trans rfl
            have hfz87_0 := blk_frozen BK257.out 0
            have hfz87_1 := blk_frozen BK257.out 1
            have hfz87_2 := blk_frozen BK257.out 2
            have hfz87_3 := blk_frozen BK257.out 3
            obtain ⟨Ao88, co88, eo88⟩ := Kd.R_slice HO_280003.out
            subst eo88
            go_wp2
            refine bodyPost_ret (results_ct rfl _ _ gb257 26 #[.int .i64 a0, .int .i64 a2, .int .i64 a3, .slice Ao88 x280003_3.length co88] (0, 0) _ rfl (by refine uW ?_; refine blk_put (cs := #[.int .i64 a0, .int .i64 a2, .int .i64 a3, .slice none 0 0]) ?_ 3 _ rfl; refine uW ?_; refine blk_put (cs := #[.int .i64 a0, .int .i64 a2, .int .i64 x258002_3, .slice none 0 0]) ?_ 2 _ rfl; refine uW ?_; refine blk_put (cs := #[.int .i64 a0, .int .i64 x258001_3, .int .i64 x258002_3, .slice none 0 0]) ?_ 1 _ rfl; refine uW ?_; refine blk_put (cs := #[.int .i64 x258000_3, .int .i64 x258001_3, .int .i64 x258002_3, .slice none 0 0]) ?_ 0 _ rfl; refine uW ?_; exact BK257.out) Try.underlying26 rfl (by kernel_rfl)) rfl ?_
            exact ⟨_, by first | rfl | (simp [errW_none, errW_some] <;> rfl) | (simp [*, errW_none, errW_some] <;> rfl), by (with_reducible repeat (first | apply Kd.R_alloc | apply Kd.R_drewN | apply Kd.R_drew)); exact Kd.R_mono (Kd.R_far (p := ⟨gb257, 3, none⟩) (Kd.R_far (p := ⟨gb257, 2, none⟩) (Kd.R_far (p := ⟨gb257, 1, none⟩) (Kd.R_far (p := ⟨gb257, 0, none⟩) (Kd.R_types HO_280003.out BK257.out (by decide)) (fun _ hk => hk.2) (.int .i64 a0)) (fun _ hk => hk.2) (.int .i64 a2)) (fun _ hk => hk.2) (.int .i64 a3)) (fun _ hk => hk.2) (.slice Ao88 x280003_3.length co88)) (fun _ hk => trivial), by repeat (first | (with_reducible first | exact HB.out | apply below_alloc | apply pw_below_drewN | apply below_drew1 | refine below_set ?_ GE257.out | refine below_set ?_ GE271.out | refine below_set ?_ GE279.out) | exact HB.out)⟩
        ·
         rw [if_neg c31] at H
         exact absurd H (by simp)
       ·
        rw [if_neg c30] at H
        exact absurd H (by simp)

end Go.Proofs.Ytohfcpekgdbobaa.PFnExactBuildDisplaced
