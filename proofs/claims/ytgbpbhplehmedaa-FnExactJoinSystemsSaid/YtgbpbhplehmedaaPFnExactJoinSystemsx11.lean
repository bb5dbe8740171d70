-- made by wip/tools/myprint.py over the kit's print, for this claim
import Derived.Test.YtgbpbhplehmedaaPFnExactJoinSystemsx0
import Derived.Test.YtgbpbhplehmedaaPFnExactJoinSystemsx1
import Derived.Test.YtgbpbhplehmedaaPFnExactJoinSystemsx3
import Derived.Test.YtgbpbhplehmedaaPFnExactJoinSystemsx4
import Derived.Test.YtgbpbhplehmedaaPFnExactJoinSystemsx7
import Derived.Test.YtgbpbhplehmedaaPFnExactJoinSystemsx9
import Derived.Test.YtgbpbhplehmedaaPFnExactJoinSystemsx10
namespace Go.Proofs.Ytgbpbhplehmedaa.PFnExactJoinSystems
open Go.RowKit Go.Proofs.YtgbpbhplehmedaaW.PrintWords Go.Proofs.YtgbpbhplehmedaaW.PrintLast Go.Proofs.YtgbpbhplehmedaaW.PrintMore
attribute [local go_sem] max2_int min2_int max_two min_two max_three min_three max_four min_four   -- for this text's walks alone
set_option linter.unusedVariables false
set_option linter.unusedSimpArgs false

open List (setIfInBounds_toArray set_cons_zero set_cons_succ)
/-! ### Fc: function 3 -/
mutual
def Fc.j0 : Nat → Bool → Bool → Bool → Int → List (S66) → List Bool → Int → List (S66) → List Bool → Int → List (S53) → List Bool → Int → List (S53) → List Bool → Int → List (S53) → List Bool → Int → List (S53) → List Bool → Option (Bool)
 | 0, _, _, _, _, _, _, _, _, _, _, _, _, _, _, _, _, _, _, _, _, _ => none
 | k + 1, x7, x11, x53, x271000, x271001, x271002, x272000, x272001, x272002, x297000, x297001, x297002, x305000, x305001, x305002, x313000, x313001, x313002, x322000, x322001, x322002 => if x53 = true then (some false) else ((Ff.f k x271000 x271001 x271002).bind fun bt323 => ((Fj.f k x305000 x305001 x305002 bt323.1 bt323.2.1 bt323.2.2).bind fun t330 => (if t330 = true then ((Ff.f k x272000 x272001 x272002).bind fun bt331 => ((Fj.f k x313000 x313001 x313002 bt331.1 bt331.2.1 bt331.2.2).bind fun t338 => (if t338 = true then ((Fy.f k x305000 x305001 x305002 1).bind fun bt339 => ((Fy.f k x313000 x313001 x313002 bt339.1).bind fun bt342 => (if bt342.1 < 0 then (Fc.j1 k x7 true x271000 x271001 x271002 x272000 x272001 x272002 x297000 x297001 x297002 x322000 x322001 x322002) else ((Fj.f k x322000 x322001 x322002 x297000 x297001 x297002).bind fun t345 => (if t345 = true then (Fc.j1 k x7 (x11 != x7) x271000 x271001 x271002 x272000 x272001 x272002 x297000 x297001 x297002 x322000 x322001 x322002) else (Fc.j1 k x7 true x271000 x271001 x271002 x272000 x272001 x272002 x297000 x297001 x297002 x322000 x322001 x322002)))))) else (some false)))) else (some false))))
def Fc.j1 : Nat → Bool → Bool → Int → List (S66) → List Bool → Int → List (S66) → List Bool → Int → List (S53) → List Bool → Int → List (S53) → List Bool → Option (Bool)
 | 0, _, _, _, _, _, _, _, _, _, _, _, _, _, _ => none
 | k + 1, x7, x82, x271000, x271001, x271002, x272000, x272001, x272002, x297000, x297001, x297002, x322000, x322001, x322002 => if x82 = true then (some false) else ((Fy.f k x322000 x322001 x322002 1).bind fun bt346 => ((FB.f k x322000 bt346.2.1 bt346.2.2 1).bind fun t349 => (if t349 < 0 then (some false) else (if t349 = bt346.1 then ((Ff.f k x271000 x271001 x271002).bind fun bt350 => ((Ff.f k x272000 x272001 x272002).bind fun bt357 => ((Fb.f k bt350.1 bt350.2.1 bt350.2.2 bt357.1 bt357.2.1 bt357.2.2).bind fun bt364 => ((Fj.f k bt364.1 bt364.2.1 bt364.2.2.1 x297000 x297001 x297002).bind fun t373 => (if t373 = true then (Fc.j2 k bt346.1 (bt364.2.2.2 != x7) x322000 bt346.2.1 bt346.2.2) else (Fc.j2 k bt346.1 true x322000 bt346.2.1 bt346.2.2)))))) else (some false)))))
def Fc.j2 : Nat → Int → Bool → Int → List (S53) → List Bool → Option (Bool)
 | 0, _, _, _, _, _ => none
 | k + 1, x13, x110, x322000, x322001, x322002 => if x110 = true then (some false) else ((FB.f k x322000 x322001 x322002 1).bind fun t374 => (if t374 < 0 then (some false) else (if t374 = x13 then (some true) else (some false))))
end
def Fc.f (k : Nat) (a0_0 : Int) (l0_1 : List (S66)) (l0_2 : List Bool) (a1_0 : Int) (l1_1 : List (S66)) (l1_2 : List Bool) : Option (Bool) := (Fz.f k a0_0 l0_1 l0_2 1048576).bind fun t272 => (if t272 < 0 then (some true) else ((Fz.f k a1_0 l1_1 l1_2 t272).bind fun t273 => (if t273 < 0 then (some true) else ((Ff.f k a0_0 l0_1 l0_2).bind fun bt274 => ((Ff.f k a1_0 l1_1 l1_2).bind fun bt281 => ((Fa.f k bt274.1 bt274.2.1 bt274.2.2 bt281.1 bt281.2.1 bt281.2.2).bind fun bt288 => ((Ff.f k a0_0 l0_1 l0_2).bind fun bt297 => ((Ff.f k a1_0 l1_1 l1_2).bind fun bt305 => ((Fb.f k bt297.1 bt297.2.1 bt297.2.2 bt305.1 bt305.2.1 bt305.2.2).bind fun bt313 => ((Fj.f k bt313.1 bt313.2.1 bt313.2.2.1 bt288.1 bt288.2.1 bt288.2.2.1).bind fun t322 => (if t322 = true then (Fc.j0 k bt288.2.2.2 bt313.2.2.2 (bt313.2.2.2 != bt288.2.2.2) a0_0 l0_1 l0_2 a1_0 l1_1 l1_2 bt288.1 bt288.2.1 bt288.2.2.1 bt297.1 bt297.2.1 bt297.2.2 bt305.1 bt305.2.1 bt305.2.2 bt313.1 bt313.2.1 bt313.2.2.1) else (Fc.j0 k bt288.2.2.2 bt313.2.2.2 true a0_0 l0_1 l0_2 a1_0 l1_1 l1_2 bt288.1 bt288.2.1 bt288.2.2.1 bt297.1 bt297.2.1 bt297.2.2 bt305.1 bt305.2.1 bt305.2.2 bt313.1 bt313.2.1 bt313.2.2.1))))))))))))
theorem Fc.mono_l : ∀ k, (∀ y0 y1 y2 y3 y4 y5 y6 y7 y8 y9 y10 y11 y12 y13 y14 y15 y16 y17 y18 y19 y20, LeO (Fc.j0 k y0 y1 y2 y3 y4 y5 y6 y7 y8 y9 y10 y11 y12 y13 y14 y15 y16 y17 y18 y19 y20) (Fc.j0 (k + 1) y0 y1 y2 y3 y4 y5 y6 y7 y8 y9 y10 y11 y12 y13 y14 y15 y16 y17 y18 y19 y20)) ∧ (∀ y0 y1 y2 y3 y4 y5 y6 y7 y8 y9 y10 y11 y12 y13, LeO (Fc.j1 k y0 y1 y2 y3 y4 y5 y6 y7 y8 y9 y10 y11 y12 y13) (Fc.j1 (k + 1) y0 y1 y2 y3 y4 y5 y6 y7 y8 y9 y10 y11 y12 y13)) ∧ (∀ y0 y1 y2 y3 y4, LeO (Fc.j2 k y0 y1 y2 y3 y4) (Fc.j2 (k + 1) y0 y1 y2 y3 y4))
 | 0 => ⟨fun _ _ _ _ _ _ _ _ _ _ _ _ _ _ _ _ _ _ _ _ _ r h => by simp [Fc.j0] at h, fun _ _ _ _ _ _ _ _ _ _ _ _ _ _ r h => by simp [Fc.j1] at h, fun _ _ _ _ _ r h => by simp [Fc.j2] at h⟩
 | k + 1 => by
  obtain ⟨ih0, ih1, ih2⟩ := Fc.mono_l k
  refine ⟨?_, ?_, ?_⟩
  ·
   intro y0 y1 y2 y3 y4 y5 y6 y7 y8 y9 y10 y11 y12 y13 y14 y15 y16 y17 y18 y19 y20
   unfold Fc.j0
   repeat' first
   | (with_reducible exact ih0 _ _ _ _ _ _ _ _ _ _ _ _ _ _ _ _ _ _ _ _ _)
   | (with_reducible exact ih1 _ _ _ _ _ _ _ _ _ _ _ _ _ _)
   | (with_reducible exact ih2 _ _ _ _ _)
   | (with_reducible exact Fb.mono _ _ _ _ _ _ _)
   | (with_reducible exact Fj.mono _ _ _ _ _ _ _)
   | (with_reducible exact FB.mono _ _ _ _ _)
   | (with_reducible exact Fy.mono _ _ _ _ _)
   | (with_reducible exact Fz.mono _ _ _ _ _)
   | (with_reducible exact Ff.mono _ _ _ _)
   | (with_reducible exact Fa.mono _ _ _ _ _ _ _)
   | (with_reducible exact LeO.refl _)
   | (with_reducible exact LeO.none _)
   | (with_reducible refine LeO.ite ?_ ?_)
   | (with_reducible refine LeO.bind ?_ (fun _ => ?_))
   | exact ih0 _ _ _ _ _ _ _ _ _ _ _ _ _ _ _ _ _ _ _ _ _
   | exact ih1 _ _ _ _ _ _ _ _ _ _ _ _ _ _
   | exact ih2 _ _ _ _ _
   | exact Fb.mono _ _ _ _ _ _ _
   | exact Fj.mono _ _ _ _ _ _ _
   | exact FB.mono _ _ _ _ _
   | exact Fy.mono _ _ _ _ _
   | exact Fz.mono _ _ _ _ _
   | exact Ff.mono _ _ _ _
   | exact Fa.mono _ _ _ _ _ _ _
   | exact LeO.none _
   | refine LeO.ite ?_ ?_
   | refine LeO.bind ?_ (fun _ => ?_)
  ·
   intro y0 y1 y2 y3 y4 y5 y6 y7 y8 y9 y10 y11 y12 y13
   unfold Fc.j1
   repeat' first
   | (with_reducible exact ih0 _ _ _ _ _ _ _ _ _ _ _ _ _ _ _ _ _ _ _ _ _)
   | (with_reducible exact ih1 _ _ _ _ _ _ _ _ _ _ _ _ _ _)
   | (with_reducible exact ih2 _ _ _ _ _)
   | (with_reducible exact Fb.mono _ _ _ _ _ _ _)
   | (with_reducible exact Fj.mono _ _ _ _ _ _ _)
   | (with_reducible exact FB.mono _ _ _ _ _)
   | (with_reducible exact Fy.mono _ _ _ _ _)
   | (with_reducible exact Fz.mono _ _ _ _ _)
   | (with_reducible exact Ff.mono _ _ _ _)
   | (with_reducible exact Fa.mono _ _ _ _ _ _ _)
   | (with_reducible exact LeO.refl _)
   | (with_reducible exact LeO.none _)
   | (with_reducible refine LeO.ite ?_ ?_)
   | (with_reducible refine LeO.bind ?_ (fun _ => ?_))
   | exact ih0 _ _ _ _ _ _ _ _ _ _ _ _ _ _ _ _ _ _ _ _ _
   | exact ih1 _ _ _ _ _ _ _ _ _ _ _ _ _ _
   | exact ih2 _ _ _ _ _
   | exact Fb.mono _ _ _ _ _ _ _
   | exact Fj.mono _ _ _ _ _ _ _
   | exact FB.mono _ _ _ _ _
   | exact Fy.mono _ _ _ _ _
   | exact Fz.mono _ _ _ _ _
   | exact Ff.mono _ _ _ _
   | exact Fa.mono _ _ _ _ _ _ _
   | exact LeO.none _
   | refine LeO.ite ?_ ?_
   | refine LeO.bind ?_ (fun _ => ?_)
  intro y0 y1 y2 y3 y4
  unfold Fc.j2
  repeat' first
  | (with_reducible exact ih0 _ _ _ _ _ _ _ _ _ _ _ _ _ _ _ _ _ _ _ _ _)
  | (with_reducible exact ih1 _ _ _ _ _ _ _ _ _ _ _ _ _ _)
  | (with_reducible exact ih2 _ _ _ _ _)
  | (with_reducible exact Fb.mono _ _ _ _ _ _ _)
  | (with_reducible exact Fj.mono _ _ _ _ _ _ _)
  | (with_reducible exact FB.mono _ _ _ _ _)
  | (with_reducible exact Fy.mono _ _ _ _ _)
  | (with_reducible exact Fz.mono _ _ _ _ _)
  | (with_reducible exact Ff.mono _ _ _ _)
  | (with_reducible exact Fa.mono _ _ _ _ _ _ _)
  | (with_reducible exact LeO.refl _)
  | (with_reducible exact LeO.none _)
  | (with_reducible refine LeO.ite ?_ ?_)
  | (with_reducible refine LeO.bind ?_ (fun _ => ?_))
  | exact ih0 _ _ _ _ _ _ _ _ _ _ _ _ _ _ _ _ _ _ _ _ _
  | exact ih1 _ _ _ _ _ _ _ _ _ _ _ _ _ _
  | exact ih2 _ _ _ _ _
  | exact Fb.mono _ _ _ _ _ _ _
  | exact Fj.mono _ _ _ _ _ _ _
  | exact FB.mono _ _ _ _ _
  | exact Fy.mono _ _ _ _ _
  | exact Fz.mono _ _ _ _ _
  | exact Ff.mono _ _ _ _
  | exact Fa.mono _ _ _ _ _ _ _
  | exact LeO.none _
  | refine LeO.ite ?_ ?_
  | refine LeO.bind ?_ (fun _ => ?_)
theorem Fc.mono : ∀ a0 a1 a2 a3 a4 a5 k, LeO (Fc.f k a0 a1 a2 a3 a4 a5) (Fc.f (k + 1) a0 a1 a2 a3 a4 a5) := by
 intro a0 a1 a2 a3 a4 a5 k
 obtain ⟨ih0, ih1, ih2⟩ := Fc.mono_l k
 unfold Fc.f
 repeat' first
   | (with_reducible exact ih0 _ _ _ _ _ _ _ _ _ _ _ _ _ _ _ _ _ _ _ _ _)
   | (with_reducible exact ih1 _ _ _ _ _ _ _ _ _ _ _ _ _ _)
   | (with_reducible exact ih2 _ _ _ _ _)
   | (with_reducible exact Fb.mono _ _ _ _ _ _ _)
   | (with_reducible exact Fj.mono _ _ _ _ _ _ _)
   | (with_reducible exact FB.mono _ _ _ _ _)
   | (with_reducible exact Fy.mono _ _ _ _ _)
   | (with_reducible exact Fz.mono _ _ _ _ _)
   | (with_reducible exact Ff.mono _ _ _ _)
   | (with_reducible exact Fa.mono _ _ _ _ _ _ _)
   | (with_reducible exact LeO.refl _)
   | (with_reducible exact LeO.none _)
   | (with_reducible refine LeO.ite ?_ ?_)
   | (with_reducible refine LeO.bind ?_ (fun _ => ?_))
   | exact ih0 _ _ _ _ _ _ _ _ _ _ _ _ _ _ _ _ _ _ _ _ _
   | exact ih1 _ _ _ _ _ _ _ _ _ _ _ _ _ _
   | exact ih2 _ _ _ _ _
   | exact Fb.mono _ _ _ _ _ _ _
   | exact Fj.mono _ _ _ _ _ _ _
   | exact FB.mono _ _ _ _ _
   | exact Fy.mono _ _ _ _ _
   | exact Fz.mono _ _ _ _ _
   | exact Ff.mono _ _ _ _
   | exact Fa.mono _ _ _ _ _ _ _
   | exact LeO.none _
   | refine LeO.ite ?_ ?_
   | refine LeO.bind ?_ (fun _ => ?_)
def Fc.T8 : Bool × List (List Nat × List Nat) := (true, [([], []), ([0], [0]), ([], []), ([2, 1], [2]), ([1, 3, 3], [1, 3]), ([4], [4]), ([5], [5]), ([5], [5]), ([], []), ([8, 6, 4, 0, 1, 2, 3, 4, 5, 6, 8], [6, 8]), ([7, 9, 0, 1, 2, 3, 4, 5, 6, 7, 8, 9], [7])])
def Fc.B8 : List Nat := [0, 1, 0, 7, 15, 31, 63, 63, 0, 383, 1023]
theorem Fc.tab8 : rtab .any (opsOf Try.f3 8) = Fc.T8 := by kernel_rfl
theorem Fc.bits8 : waitsOk Fc.T8.2 Fc.B8 = true := by kernel_rfl
def Fc.T31 : Bool × List (List Nat × List Nat) := (true, [([], []), ([0], [0]), ([], []), ([2, 1], [2]), ([1, 3, 3], [1, 3]), ([4], [4]), ([5], [5]), ([5], [5]), ([], []), ([8, 6, 4, 0, 1, 2, 3, 4, 5, 6, 8], [6, 8]), ([7, 9, 0, 1, 2, 3, 4, 5, 6, 7, 8, 9], [7])])
def Fc.B31 : List Nat := [0, 1, 0, 7, 15, 31, 63, 63, 0, 383, 1023]
theorem Fc.tab31 : rtab .any (opsOf Try.f3 31) = Fc.T31 := by kernel_rfl
theorem Fc.bits31 : waitsOk Fc.T31.2 Fc.B31 = true := by kernel_rfl
theorem kg_size {w w1 : World} {n : Nat} (_ : Below n w w1) : ∃ q : Nat, q = n := ⟨_, rfl⟩
class FarS (g : Nat) (w W : World) : Prop where
  f : ∀ {α : Type} (d : Kd α) (e base : Nat) (ok : Nat → Prop) (v : Value) (xs : List α), Kd.S d e w base (fun k => ok k ∧ k ≠ g) v xs → Kd.S d e W base (fun k => ok k ∧ k ≠ g) v xs
instance FarS.refl (g : Nat) (w : World) : FarS g w w := ⟨fun _ _ _ _ _ _ h => h⟩
instance FarS.alloc (g : Nat) (w W : World) (o : Obj) [u : FarS g w W] : FarS g w (W.alloc o) := ⟨fun d e b ok v xs h => Kd.S_alloc (u.f d e b ok v xs h) o⟩
instance FarS.drewN (g : Nat) (w W : World) (n : Nat) [u : FarS g w W] : FarS g w (W.drewN n) := ⟨fun d e b ok v xs h => Kd.S_drewN (u.f d e b ok v xs h) n⟩
instance FarS.drew (g : Nat) (w W : World) [u : FarS g w W] : FarS g w W.drew := ⟨fun d e b ok v xs h => Kd.S_drew (u.f d e b ok v xs h)⟩
instance FarS.set (g : Nat) (w W : World) (j : Nat) (x : Value) [u : FarS g w W] : FarS g w (W.setCell ⟨g, j, none⟩ x) := ⟨fun d e b ok v xs h => Kd.S_far (p := ⟨g, j, none⟩) (u.f d e b ok v xs h) (fun _ hk => hk.2) x⟩
section
variable {α : Type} {d : Kd α} {e base n : Nat} {ok : Nat → Prop} {w W w1 : World} {v : Value} {xs : List α} {g t : Nat} {cs : Array Value}
theorem jqS (h : Aside0 (Kd.S d e w base ok v xs)) [u : Up w W] : Kd.S d e W base ok v xs := Kd.S_below h.out u.b
theorem jfSS (h : Aside0 (Kd.S d e w base ok v xs)) (hb : Aside0 (w.heap[g]? = some (.cells cs t (0, 0)))) (ht : ∀ q, q ∈ e :: d.E → q ≠ t := by decide) [u : FarS g w W] : Kd.S d e W base ok v xs := Kd.S_mono (u.f d e base ok v xs (Kd.S_types h.out hb.out ht)) (fun _ h_ => h_.1)
theorem jfRR (h : Aside0 (Kd.R d e w base ok v xs)) (hb : Aside0 (w.heap[g]? = some (.cells cs t (0, 0)))) (ht : ∀ q, q ∈ e :: d.E → q ≠ t := by decide) [u : Far g w W] : Kd.R d e W base ok v xs := fS h hb ht
theorem jkS (h : Aside0 (Kd.S d e w base ok v xs)) (hb : Below W.heap.size W w1) [u : Up w W] : Aside0 (Kd.S d e w1 base ok v xs) := ⟨Kd.S_below (jqS h) hb⟩
theorem jkR (h : Aside0 (Kd.R d e w base ok v xs)) (hb : Below W.heap.size W w1) [u : Up w W] : Aside0 (Kd.R d e w1 base ok v xs) := ⟨Kd.R_below (uR h) hb⟩
theorem jkFS (h : Aside0 (Kd.S d e w base ok v xs)) (hk : Aside0 (w.heap[g]? = some (.cells cs t (0, 0)))) (hb : Below W.heap.size W w1) (ht : ∀ q, q ∈ e :: d.E → q ≠ t := by decide) [u : FarS g w W] : Aside0 (Kd.S d e w1 base ok v xs) := ⟨Kd.S_below (jfSS h hk ht) hb⟩
theorem jkFR (h : Aside0 (Kd.R d e w base ok v xs)) (hk : Aside0 (w.heap[g]? = some (.cells cs t (0, 0)))) (hb : Below W.heap.size W w1) (ht : ∀ q, q ∈ e :: d.E → q ≠ t := by decide) [u : Far g w W] : Aside0 (Kd.R d e w1 base ok v xs) := ⟨Kd.R_below (fS h hk ht) hb⟩
theorem joS_ (h : Kd.S d e W base ok v xs) (hb : Below W.heap.size W w1) (hn : n = W.heap.size) : Aside0 (Kd.S d e w1 base (fun k => ok k ∧ k < n) v xs) := by subst hn; exact ⟨Kd.S_old h hb⟩
theorem joR_ {l : List Bool} (h : Kd.R Kd.bool 4 W base ok v l) (hb : Below W.heap.size W w1) (hn : n = W.heap.size) : Aside0 (Kd.R Kd.bool 4 w1 base (fun k => ok k ∧ k < n) v l) := by subst hn; exact ⟨Kd.R_reok rfl (Kd.R_below h hb) (fun k e_ => ⟨h.1 k e_, Kd.R_lt h k e_⟩)⟩
theorem joS (h : Aside0 (Kd.S d e w base ok v xs)) (hb : Below W.heap.size W w1) (hn : n = W.heap.size) [u : Up w W] : Aside0 (Kd.S d e w1 base (fun k => ok k ∧ k < n) v xs) := joS_ (jqS h) hb hn
theorem joFS (h : Aside0 (Kd.S d e w base ok v xs)) (hk : Aside0 (w.heap[g]? = some (.cells cs t (0, 0)))) (hb : Below W.heap.size W w1) (hn : n = W.heap.size) (ht : ∀ q, q ∈ e :: d.E → q ≠ t := by decide) [u : FarS g w W] : Aside0 (Kd.S d e w1 base (fun k => ok k ∧ k < n) v xs) := joS_ (jfSS h hk ht) hb hn
theorem joR {l : List Bool} (h : Aside0 (Kd.R Kd.bool 4 w base ok v l)) (hb : Below W.heap.size W w1) (hn : n = W.heap.size) [u : Up w W] : Aside0 (Kd.R Kd.bool 4 w1 base (fun k => ok k ∧ k < n) v l) := joR_ (uR h) hb hn
theorem joFR {l : List Bool} (h : Aside0 (Kd.R Kd.bool 4 w base ok v l)) (hk : Aside0 (w.heap[g]? = some (.cells cs t (0, 0)))) (hb : Below W.heap.size W w1) (hn : n = W.heap.size) (ht : ∀ q, q ∈ 4 :: Kd.bool.E → q ≠ t := by decide) [u : Far g w W] : Aside0 (Kd.R Kd.bool 4 w1 base (fun k => ok k ∧ k < n) v l) := joR_ (fS h hk ht) hb hn
theorem jsS (h : Aside0 (Kd.S d e w base ok v xs)) (hk : Aside0 (w.heap[g]? = some (.cells cs t (0, 0)))) (hw : w1 = W) (ht : ∀ q, q ∈ e :: d.E → q ≠ t := by decide) [u : FarS g w W] : Aside0 (Kd.S d e w1 base ok v xs) := by subst hw; exact ⟨jfSS h hk ht⟩
theorem jsR (h : Aside0 (Kd.R d e w base ok v xs)) (hk : Aside0 (w.heap[g]? = some (.cells cs t (0, 0)))) (hw : w1 = W) (ht : ∀ q, q ∈ e :: d.E → q ≠ t := by decide) [u : Far g w W] : Aside0 (Kd.R d e w1 base ok v xs) := by subst hw; exact ⟨fS h hk ht⟩
theorem jcS {b : Nat} (h : Kd.S d e w1 b ok v xs) (hn : n = b) (hl : base ≤ b) : Aside0 (Kd.S d e w1 base (fun k => n ≤ k) v xs) := by subst hn; exact ⟨Kd.S_lower (Kd.S_mono (Kd.S_bound h) (fun _ h_ => h_.2.1)) hl⟩
theorem jtS {b : Nat} (h : Kd.S d e w1 b ok v xs) (hl : base ≤ b) : Aside0 (Kd.S d e w1 base (fun _ => True) v xs) := ⟨Kd.S_lower (Kd.S_mono h (fun _ _ => trivial)) hl⟩
theorem jcR {b : Nat} {l : List Bool} (h : Kd.R Kd.bool 4 w1 b ok v l) (hn : n = b) (hl : base ≤ b) : Aside0 (Kd.R Kd.bool 4 w1 base (fun k => n ≤ k) v l) := by subst hn; exact ⟨Kd.R_lower (Kd.R_reok rfl h (fun k e_ => Kd.R_base h k e_)) hl⟩
theorem jtR {b : Nat} (h : Kd.R d e w1 b ok v xs) (hl : base ≤ b) : Aside0 (Kd.R d e w1 base (fun _ => True) v xs) := ⟨Kd.R_lower (Kd.R_mono h (fun _ _ => trivial)) hl⟩
theorem jdS {A : Option Addr} {c m : Nat} (h : Aside0 (Kd.S d e w base ok (.slice A m c) xs)) [u : Up w W] : d.C W A xs.length xs := (Kd.S_reads' (jqS h)).2.2
theorem jdfSS {A : Option Addr} {c m : Nat} (h : Aside0 (Kd.S d e w base ok (.slice A m c) xs)) (hk : Aside0 (w.heap[g]? = some (.cells cs t (0, 0)))) (ht : ∀ q, q ∈ e :: d.E → q ≠ t := by decide) [u : FarS g w W] : d.C W A xs.length xs := (Kd.S_reads' (jfSS h hk ht)).2.2
theorem jdfRR {A : Option Addr} {c m : Nat} (h : Aside0 (Kd.R d e w base ok (.slice A m c) xs)) (hk : Aside0 (w.heap[g]? = some (.cells cs t (0, 0)))) (ht : ∀ q, q ∈ e :: d.E → q ≠ t := by decide) [u : Far g w W] : d.C W A xs.length xs := (Kd.R_reads' (fS h hk ht)).2.2
theorem so_ne {W : World} {g t : Nat} {cs : Array Value} {L : List Nat} (h : ∃ q, q ∈ L ∧ ∃ cells, W.heap[g]? = some (.cells cells q (0, 0))) (hb : W.heap[g]? = some (.cells cs t (0, 0))) (hne : ∀ q, q ∈ L → q ≠ t) : False := by
  obtain ⟨q, hq, cells, hc⟩ := h
  rw [hb] at hc
  injection hc with hc
  injection hc with _ h2 _
  exact hne q hq h2.symm
variable {P okx : Nat → Prop} {L : List Nat} {u : Value} {l : List Bool} {base2 : Nat}
theorem jmS (h : Aside0 (Kd.S d e W base ok v xs)) (hk : Kept W w1 (fun k => (P k ∧ ∃ q, q ∈ L ∧ ∃ cells, W.heap[k]? = some (.cells cells q (0, 0))) ∨ some k = u.ownBlock)) (hx : Aside0 (Kd.R Kd.bool 4 W base2 okx u l)) (h1 : ∀ k, ok k → P k → False := by (intro k h1 h2; (try dsimp only at h1 h2); omega)) (h2 : ∀ k, ok k → okx k → False := by (intro k h1 h2; (try dsimp only at h1 h2); omega)) : Aside0 (Kd.S d e w1 base ok v xs) := ⟨Kd.S_kept h.out hk (fun k a b => b.elim (fun c => h1 k a c.1) (fun c => h2 k a (hx.out.1 k c.symm)))⟩
theorem jmR (h : Aside0 (Kd.R d e W base ok v xs)) (hk : Kept W w1 (fun k => (P k ∧ ∃ q, q ∈ L ∧ ∃ cells, W.heap[k]? = some (.cells cells q (0, 0))) ∨ some k = u.ownBlock)) (hx : Aside0 (Kd.R Kd.bool 4 W base2 okx u l)) (h1 : ∀ k, ok k → P k → False := by (intro k h1 h2; (try dsimp only at h1 h2); omega)) (h2 : ∀ k, ok k → okx k → False := by (intro k h1 h2; (try dsimp only at h1 h2); omega)) : Aside0 (Kd.R d e w1 base ok v xs) := ⟨Kd.R_kept h.out hk (fun k a b => b.elim (fun c => h1 k a c.1) (fun c => h2 k a (hx.out.1 k c.symm)))⟩
theorem jmB (h : Aside0 (W.heap[g]? = some (.cells cs t (0, 0)))) (hk : Kept W w1 (fun k => (P k ∧ ∃ q, q ∈ L ∧ ∃ cells, W.heap[k]? = some (.cells cells q (0, 0))) ∨ some k = u.ownBlock)) (hx : Aside0 (Kd.R Kd.bool 4 W base2 okx u l)) (h1 : ∀ q, q ∈ L → q ≠ t := by decide) (h2 : (4 : Nat) ≠ t := by decide) : Aside0 (w1.heap[g]? = some (.cells cs t (0, 0))) := ⟨blk_kept h.out hk (fun c => c.elim (fun c => so_ne c.2 h.out h1) (fun c => Kd.R_ne hx.out h.out h2 c))⟩
end
set_option maxHeartbeats 8000000 in
set_option maxRecDepth 100000 in
theorem Fc.calls (k : Nat) (a0_0 : Int) (A0_1 : Option Addr) (c0_1 : Nat) (l0_1 : List (S66)) (A0_2 : Option Addr) (c0_2 : Nat) (l0_2 : List Bool) (a1_0 : Int) (A1_1 : Option Addr) (c1_1 : Nat) (l1_1 : List (S66)) (A1_2 : Option Addr) (c1_2 : Nat) (l1_2 : List Bool) (r : Bool) (w : World) (hr0_1 : Kd.C k66 w A0_1 l0_1.length l0_1) (hc0_1 : l0_1.length ≤ c0_1) (hr0_2 : Kd.C Kd.bool w A0_2 l0_2.length l0_2) (hc0_2 : l0_2.length ≤ c0_2) (hr1_1 : Kd.C k66 w A1_1 l1_1.length l1_1) (hc1_1 : l1_1.length ≤ c1_1) (hr1_2 : Kd.C Kd.bool w A1_2 l1_2.length l1_2) (hc1_2 : l1_2.length ≤ c1_2) (h : Fc.f k a0_0 l0_1 l0_2 a1_0 l1_1 l1_2 = some r) :
  Calls Try.prog 3 #[.agg #[.int .i64 a0_0, .slice A0_1 l0_1.length c0_1, .slice A0_2 l0_2.length c0_2], .agg #[.int .i64 a1_0, .slice A1_1 l1_1.length c1_1, .slice A1_2 l1_2.length c1_2]] w fun e w' => e = .returned (.bool r) ∧ Below w.heap.size w w' := by
 have hu25 := Try.underlying25
 have hu29 := Try.underlying29
 have HR0_1 := Aside0.mk hr0_1
 have HC0_1 := Aside0.mk hc0_1
 clear hr0_1 hc0_1
 have HR0_2 := Aside0.mk hr0_2
 have HC0_2 := Aside0.mk hc0_2
 clear hr0_2 hc0_2
 have HR1_1 := Aside0.mk hr1_1
 have HC1_1 := Aside0.mk hc1_1
 clear hr1_1 hc1_1
 have HR1_2 := Aside0.mk hr1_2
 have HC1_2 := Aside0.mk hc1_2
 clear hr1_2 hc1_2
 have HB := Aside0.mk (Below.refl w.heap.size w)
 have H : ((Fz.f k a0_0 l0_1 l0_2 1048576).bind fun t272 => (if t272 < 0 then (some true) else ((Fz.f k a1_0 l1_1 l1_2 t272).bind fun t273 => (if t273 < 0 then (some true) else ((Ff.f k a0_0 l0_1 l0_2).bind fun bt274 => ((Ff.f k a1_0 l1_1 l1_2).bind fun bt281 => ((Fa.f k bt274.1 bt274.2.1 bt274.2.2 bt281.1 bt281.2.1 bt281.2.2).bind fun bt288 => ((Ff.f k a0_0 l0_1 l0_2).bind fun bt297 => ((Ff.f k a1_0 l1_1 l1_2).bind fun bt305 => ((Fb.f k bt297.1 bt297.2.1 bt297.2.2 bt305.1 bt305.2.1 bt305.2.2).bind fun bt313 => ((Fj.f k bt313.1 bt313.2.1 bt313.2.2.1 bt288.1 bt288.2.1 bt288.2.2.1).bind fun t322 => (if t322 = true then (Fc.j0 k bt288.2.2.2 bt313.2.2.2 (bt313.2.2.2 != bt288.2.2.2) a0_0 l0_1 l0_2 a1_0 l1_1 l1_2 bt288.1 bt288.2.1 bt288.2.2.1 bt297.1 bt297.2.1 bt297.2.2 bt305.1 bt305.2.1 bt305.2.2 bt313.1 bt313.2.1 bt313.2.2.1) else (Fc.j0 k bt288.2.2.2 bt313.2.2.2 true a0_0 l0_1 l0_2 a1_0 l1_1 l1_2 bt288.1 bt288.2.1 bt288.2.2.1 bt297.1 bt297.2.1 bt297.2.2 bt305.1 bt305.2.1 bt305.2.2 bt313.1 bt313.2.1 bt313.2.2.1))))))))))))) = some r := h
 clear h
 replace H := Option.bind_eq_some_iff.mp H
 obtain ⟨t272, A30, H⟩ := H
 try dsimp only at H
 have A3 := Aside0.mk A30
 clear A30
 by_cases c4 : t272 < 0
 ·
  rw [if_pos c4] at H
  have c4b0 : decide (t272 < 0) = true := decide_eq_true c4
  clear c4
  obtain rfl := Option.some.inj H
  go_enter Try.func3, Try.ntmps3
  go_wp2_with (first | ((with_reducible refine gate_dst (N := 2) rfl ?_); refine box_event ?hg (N := 2) ?hd (cs := #[.int .i64 a0_0, .slice A0_1 l0_1.length c0_1, .slice A0_2 l0_2.length c0_2]) (t := 25) ?hr ?_; (case hd => rfl); (case hg => rfl); (case hr => first | (go_simp; done) | (go_simp; rfl)); intro gb270 hg w5 hbox hb; have BK270 := Aside0.mk (hbox); have GW270 := nG HB hg; have GE270 := nG HB hg; have GI270 := gI GE270; replace HB := Aside0.mk (below_step (uN HB) hb); clear hb hbox hg) | ((with_reducible refine gate_dst (N := 3) rfl ?_); refine box_event ?hg (N := 3) ?hd (cs := #[.int .i64 a1_0, .slice A1_1 l1_1.length c1_1, .slice A1_2 l1_2.length c1_2]) (t := 25) ?hr ?_; (case hd => rfl); (case hg => rfl); (case hr => first | (go_simp; done) | (go_simp; rfl)); intro gb271 hg w6 hbox hb; have BK271 := Aside0.mk (hbox); have GW271 := nG HB hg; have GE271 := nG HB hg; have GI271 := gI GE271; replace HB := Aside0.mk (below_step (uN HB) hb); have NB270_271 := nL BK270 hg; have NB271_270 := nR BK270 hg; replace BK270 := kB BK270 hb; clear hb hbox hg; have hnb7 := NB270_271.out; have hnc7 := NB271_270.out; obtain ⟨hcz8_0, hcz8_1, hcz8_2, hfz8_0, hfz8_1, hfz8_2⟩ := ce3 BK270) | ((with_reducible refine gate_callee (f := 5) rfl ?_); refine goesL_ (some 19) rfl rfl Try.func5 (by kernel_rfl) rfl #[.agg #[.int .i64 a0_0, .slice A0_1 l0_1.length c0_1, .slice A0_2 l0_2.length c0_2], .int .i64 1048576] rfl (by (try simp only [List.map_toArray, List.map_cons, List.map_nil]); first | done | rfl) ?_; (with_reducible refine (Fz.calls k a0_0 _ _ l0_1 _ _ l0_2 1048576 t272 _ ?side1 ?side2 ?side3 ?side4 A3.out).mono ?_); (case side1 => exact uC HR0_1 HB); (case side2 => exact HC0_1.out); (case side3 => exact uC HR0_2 HB); (case side4 => exact HC0_2.out); rintro e w9 ⟨rfl, hb⟩; refine ⟨_, rfl, ?_⟩; replace BK270 := kB BK270 hb; replace BK271 := kB BK271 hb; replace HB := Aside0.mk (below_step (uN HB) hb); (try clear hb); (try clear hb2); (try clear hk); (try clear hi)))
  go_ret
  exact ⟨by first | rfl | (simp [errW_none, errW_some] <;> rfl) | (simp [*, errW_none, errW_some] <;> rfl), uN HB⟩
 rw [if_neg c4] at H
 have c4b0 : decide (t272 < 0) = false := decide_eq_false c4
 clear c4
 replace H := Option.bind_eq_some_iff.mp H
 obtain ⟨t273, A100, H⟩ := H
 try dsimp only at H
 have A10 := Aside0.mk A100
 clear A100
 by_cases c11 : t273 < 0
 ·
  rw [if_pos c11] at H
  have c11b0 : decide (t273 < 0) = true := decide_eq_true c11
  clear c11
  obtain rfl := Option.some.inj H
  go_enter Try.func3, Try.ntmps3
  go_wp2_with (first | ((with_reducible refine gate_dst (N := 2) rfl ?_); refine box_event ?hg (N := 2) ?hd (cs := #[.int .i64 a0_0, .slice A0_1 l0_1.length c0_1, .slice A0_2 l0_2.length c0_2]) (t := 25) ?hr ?_; (case hd => rfl); (case hg => rfl); (case hr => first | (go_simp; done) | (go_simp; rfl)); intro gb270 hg w12 hbox hb; have BK270 := Aside0.mk (hbox); have GW270 := nG HB hg; have GE270 := nG HB hg; have GI270 := gI GE270; replace HB := Aside0.mk (below_step (uN HB) hb); clear hb hbox hg) | ((with_reducible refine gate_dst (N := 3) rfl ?_); refine box_event ?hg (N := 3) ?hd (cs := #[.int .i64 a1_0, .slice A1_1 l1_1.length c1_1, .slice A1_2 l1_2.length c1_2]) (t := 25) ?hr ?_; (case hd => rfl); (case hg => rfl); (case hr => first | (go_simp; done) | (go_simp; rfl)); intro gb271 hg w13 hbox hb; have BK271 := Aside0.mk (hbox); have GW271 := nG HB hg; have GE271 := nG HB hg; have GI271 := gI GE271; replace HB := Aside0.mk (below_step (uN HB) hb); have NB270_271 := nL BK270 hg; have NB271_270 := nR BK270 hg; replace BK270 := kB BK270 hb; clear hb hbox hg; have hnb14 := NB270_271.out; have hnc14 := NB271_270.out; obtain ⟨hcz15_0, hcz15_1, hcz15_2, hfz15_0, hfz15_1, hfz15_2⟩ := ce3 BK270) | ((with_reducible refine gate_callee (f := 5) rfl ?_); refine goesL_ (some 19) rfl rfl Try.func5 (by kernel_rfl) rfl #[.agg #[.int .i64 a0_0, .slice A0_1 l0_1.length c0_1, .slice A0_2 l0_2.length c0_2], .int .i64 1048576] rfl (by (try simp only [List.map_toArray, List.map_cons, List.map_nil]); first | done | rfl) ?_; (with_reducible refine (Fz.calls k a0_0 _ _ l0_1 _ _ l0_2 1048576 t272 _ ?side1 ?side2 ?side3 ?side4 A3.out).mono ?_); (case side1 => exact uC HR0_1 HB); (case side2 => exact HC0_1.out); (case side3 => exact uC HR0_2 HB); (case side4 => exact HC0_2.out); rintro e w16 ⟨rfl, hb⟩; refine ⟨_, rfl, ?_⟩; replace BK270 := kB BK270 hb; replace BK271 := kB BK271 hb; replace HB := Aside0.mk (below_step (uN HB) hb); (try clear hb); (try clear hb2); (try clear hk); (try clear hi); obtain ⟨hcz17_0, hcz17_1, hcz17_2, hfz17_0, hfz17_1, hfz17_2⟩ := ce3 BK271) | ((with_reducible refine gate_callee (f := 5) rfl ?_); refine goesL_ (some 24) rfl rfl Try.func5 (by kernel_rfl) rfl #[.agg #[.int .i64 a1_0, .slice A1_1 l1_1.length c1_1, .slice A1_2 l1_2.length c1_2], .int .i64 t272] rfl (by (try simp only [List.map_toArray, List.map_cons, List.map_nil]); first | done | rfl) ?_; (with_reducible refine (Fz.calls k a1_0 _ _ l1_1 _ _ l1_2 t272 t273 _ ?side1 ?side2 ?side3 ?side4 A10.out).mono ?_); (case side1 => exact uC HR1_1 HB); (case side2 => exact HC1_1.out); (case side3 => exact uC HR1_2 HB); (case side4 => exact HC1_2.out); rintro e w18 ⟨rfl, hb⟩; refine ⟨_, rfl, ?_⟩; replace BK270 := kB BK270 hb; replace BK271 := kB BK271 hb; replace HB := Aside0.mk (below_step (uN HB) hb); (try clear hb); (try clear hb2); (try clear hk); (try clear hi)))
  go_ret
  exact ⟨by first | rfl | (simp [errW_none, errW_some] <;> rfl) | (simp [*, errW_none, errW_some] <;> rfl), uN HB⟩
 rw [if_neg c11] at H
 have c11b0 : decide (t273 < 0) = false := decide_eq_false c11
 clear c11
 replace H := Option.bind_eq_some_iff.mp H
 obtain ⟨⟨t274, t275, t278⟩, A190, H⟩ := H
 try dsimp only at H
 have A19 := Aside0.mk A190
 clear A190
 replace H := Option.bind_eq_some_iff.mp H
 obtain ⟨⟨t281, t282, t285⟩, A200, H⟩ := H
 try dsimp only at H
 have A20 := Aside0.mk A200
 clear A200
 replace H := Option.bind_eq_some_iff.mp H
 obtain ⟨⟨t288, t289, t292, t295⟩, A210, H⟩ := H
 try dsimp only at H
 have A21 := Aside0.mk A210
 clear A210
 replace H := Option.bind_eq_some_iff.mp H
 obtain ⟨⟨t297, t298, t301⟩, A220, H⟩ := H
 try dsimp only at H
 have A22 := Aside0.mk A220
 clear A220
 replace H := Option.bind_eq_some_iff.mp H
 obtain ⟨⟨t305, t306, t309⟩, A230, H⟩ := H
 try dsimp only at H
 have A23 := Aside0.mk A230
 clear A230
 replace H := Option.bind_eq_some_iff.mp H
 obtain ⟨⟨t313, t314, t317, t320⟩, A240, H⟩ := H
 try dsimp only at H
 have A24 := Aside0.mk A240
 clear A240
 have HC25 := Aside0.mk H
 clear H
 go_enter Try.func3, Try.ntmps3
 try go_wp2_with (first | ((with_reducible refine gate_dst (N := 2) rfl ?_); refine box_event ?hg (N := 2) ?hd (cs := #[.int .i64 a0_0, .slice A0_1 l0_1.length c0_1, .slice A0_2 l0_2.length c0_2]) (t := 25) ?hr ?_; (case hd => rfl); (case hg => rfl); (case hr => first | (go_simp; done) | (go_simp; rfl)); intro gb270 hg w26 hbox hb; have BK270 := Aside0.mk (hbox); have GW270 := nG HB hg; have GE270 := nG HB hg; have GI270 := gI GE270; replace HB := Aside0.mk (below_step (uN HB) hb); clear hb hbox hg) | ((with_reducible refine gate_dst (N := 3) rfl ?_); refine box_event ?hg (N := 3) ?hd (cs := #[.int .i64 a1_0, .slice A1_1 l1_1.length c1_1, .slice A1_2 l1_2.length c1_2]) (t := 25) ?hr ?_; (case hd => rfl); (case hg => rfl); (case hr => first | (go_simp; done) | (go_simp; rfl)); intro gb271 hg w27 hbox hb; have BK271 := Aside0.mk (hbox); have GW271 := nG HB hg; have GE271 := nG HB hg; have GI271 := gI GE271; replace HB := Aside0.mk (below_step (uN HB) hb); have NB270_271 := nL BK270 hg; have NB271_270 := nR BK270 hg; replace BK270 := kB BK270 hb; clear hb hbox hg; have hnb28 := NB270_271.out; have hnc28 := NB271_270.out; obtain ⟨hcz29_0, hcz29_1, hcz29_2, hfz29_0, hfz29_1, hfz29_2⟩ := ce3 BK270) | ((with_reducible refine gate_callee (f := 5) rfl ?_); refine goesL_ (some 19) rfl rfl Try.func5 (by kernel_rfl) rfl #[.agg #[.int .i64 a0_0, .slice A0_1 l0_1.length c0_1, .slice A0_2 l0_2.length c0_2], .int .i64 1048576] rfl (by (try simp only [List.map_toArray, List.map_cons, List.map_nil]); first | done | rfl) ?_; (with_reducible refine (Fz.calls k a0_0 _ _ l0_1 _ _ l0_2 1048576 t272 _ ?side1 ?side2 ?side3 ?side4 A3.out).mono ?_); (case side1 => exact uC HR0_1 HB); (case side2 => exact HC0_1.out); (case side3 => exact uC HR0_2 HB); (case side4 => exact HC0_2.out); rintro e w30 ⟨rfl, hb⟩; refine ⟨_, rfl, ?_⟩; replace BK270 := kB BK270 hb; replace BK271 := kB BK271 hb; replace HB := Aside0.mk (below_step (uN HB) hb); (try clear hb); (try clear hb2); (try clear hk); (try clear hi); obtain ⟨hcz31_0, hcz31_1, hcz31_2, hfz31_0, hfz31_1, hfz31_2⟩ := ce3 BK271) | ((with_reducible refine gate_callee (f := 5) rfl ?_); refine goesL_ (some 24) rfl rfl Try.func5 (by kernel_rfl) rfl #[.agg #[.int .i64 a1_0, .slice A1_1 l1_1.length c1_1, .slice A1_2 l1_2.length c1_2], .int .i64 t272] rfl (by (try simp only [List.map_toArray, List.map_cons, List.map_nil]); first | done | rfl) ?_; (with_reducible refine (Fz.calls k a1_0 _ _ l1_1 _ _ l1_2 t272 t273 _ ?side1 ?side2 ?side3 ?side4 A10.out).mono ?_); (case side1 => exact uC HR1_1 HB); (case side2 => exact HC1_1.out); (case side3 => exact uC HR1_2 HB); (case side4 => exact HC1_2.out); rintro e w32 ⟨rfl, hb⟩; refine ⟨_, rfl, ?_⟩; replace BK270 := kB BK270 hb; replace BK271 := kB BK271 hb; replace HB := Aside0.mk (below_step (uN HB) hb); (try clear hb); (try clear hb2); (try clear hk); (try clear hi)))
 replace BK270 := Aside0.mk (blk_drew BK270.out)
 replace BK271 := Aside0.mk (blk_drew BK271.out)
 replace HB := Aside0.mk (below_drew1 HB.out)
 refine start_ (n := 11) (S := fun w' => w'.cell? ⟨gb270, 0, none⟩ = some (.int .i64 a0_0) ∧ w'.cell? ⟨gb270, 1, none⟩ = some (.slice A0_1 l0_1.length c0_1) ∧ w'.cell? ⟨gb270, 2, none⟩ = some (.slice A0_2 l0_2.length c0_2) ∧ w'.cell? ⟨gb271, 0, none⟩ = some (.int .i64 a1_0) ∧ w'.cell? ⟨gb271, 1, none⟩ = some (.slice A1_1 l1_1.length c1_1) ∧ w'.cell? ⟨gb271, 2, none⟩ = some (.slice A1_2 l1_2.length c1_2)) (ds := []) #[false, false, false, false, false, false, false, false, false, false, false] (by kernel_rfl) rfl rfl ⟨bc BK270 0, bc BK270 1, bc BK270 2, bc BK271 0, bc BK271 1, bc BK271 2⟩ (fun hHeld => ?_); refine with_tabW Fc.tab8 Fc.bits8 (fun HT_ HW_ => ?_)
 generalize w32.drew = w33 at BK270 BK271 HB hHeld ⊢
 refine take_ (i := 0) (N := some 28) (v := ?_) (a' := ?_) #[true, false, false, false, false, false, false, false, false, false, false] rfl rfl (take_ofW HT_.out HW_.out (by kernel_rfl)) (fun _ _ _ h => h) (Or.inl ⟨by rfl, ?_⟩) hHeld ?_ ?_
 rotate_left
 ·
  rintro w' ⟨s0, s1, s2, s3, s4, s5⟩
  go_simp
  with_reducible rfl
 rotate_left
 ·
  simp only [Act.put, setIfInBounds_toArray, set_cons_zero, set_cons_succ, i64_w, i32_w]
  rfl
 refine take_ (i := 2) (N := some 30) (v := ?_) (a' := ?_) #[true, false, true, false, false, false, false, false, false, false, false] rfl rfl (take_ofW HT_.out HW_.out (by kernel_rfl)) (fun _ _ _ h => h) (Or.inl ⟨by rfl, ?_⟩) hHeld ?_ ?_
 rotate_left
 ·
  rintro w' ⟨s0, s1, s2, s3, s4, s5⟩
  go_simp
  with_reducible rfl
 rotate_left
 ·
  simp only [Act.put, setIfInBounds_toArray, set_cons_zero, set_cons_succ, i64_w, i32_w]
  rfl
 refine join_ (σ := Value × Value × Value × Value × Value × Value × Nat) 2 #[true, true, true, true, true, true, true, true, true, false, false] (fun s_ => [(29, .agg #[.int .i64 t274, s_.1, s_.2.1]), (31, .agg #[.int .i64 t281, s_.2.2.1, s_.2.2.2.1]), (32, .tuple #[.agg #[.int .i64 t288, s_.2.2.2.2.1, s_.2.2.2.2.2.1], .bool t295]), (6, .pointer (some ⟨s_.2.2.2.2.2.2, 0, none⟩)), (27, .tuple #[.agg #[.int .i64 t288, s_.2.2.2.2.1, s_.2.2.2.2.2.1], .bool t295]), (33, .agg #[.int .i64 t288, s_.2.2.2.2.1, s_.2.2.2.2.2.1]), (34, .bool t295)]) (fun s_ w' => (w'.cell? ⟨gb270, 0, none⟩ = some (.int .i64 a0_0) ∧ w'.cell? ⟨gb270, 1, none⟩ = some (.slice A0_1 l0_1.length c0_1) ∧ w'.cell? ⟨gb270, 2, none⟩ = some (.slice A0_2 l0_2.length c0_2) ∧ w'.cell? ⟨gb271, 0, none⟩ = some (.int .i64 a1_0) ∧ w'.cell? ⟨gb271, 1, none⟩ = some (.slice A1_1 l1_1.length c1_1) ∧ w'.cell? ⟨gb271, 2, none⟩ = some (.slice A1_2 l1_2.length c1_2)) ∧ (Kd.S k53 53 w' w.heap.size (fun _ => True) s_.1 t275) ∧ (Kd.R Kd.bool 4 w' w.heap.size (fun _ => True) s_.2.1 t278) ∧ (Kd.S k53 53 w' w.heap.size (fun _ => True) s_.2.2.1 t282) ∧ (Kd.R Kd.bool 4 w' w.heap.size (fun _ => True) s_.2.2.2.1 t285) ∧ (Kd.S k53 53 w' w.heap.size (fun _ => True) s_.2.2.2.2.1 t289) ∧ (Kd.R Kd.bool 4 w' w.heap.size (fun _ => True) s_.2.2.2.2.2.1 t292) ∧ (w'.heap[gb270]? = some (.cells #[.int .i64 a0_0, .slice A0_1 l0_1.length c0_1, .slice A0_2 l0_2.length c0_2] 25 (0, 0))) ∧ (w'.heap[gb271]? = some (.cells #[.int .i64 a1_0, .slice A1_1 l1_1.length c1_1, .slice A1_2 l1_2.length c1_2] 25 (0, 0))) ∧ (w'.heap[s_.2.2.2.2.2.2]? = some (.cells #[.int .i64 0, .slice none 0 0, .slice none 0 0] 29 (0, 0))) ∧ (w.heap.size ≤ s_.2.2.2.2.2.2) ∧ (w.heap.size ≤ s_.2.2.2.2.2.2) ∧ (gb270 ≠ s_.2.2.2.2.2.2) ∧ (s_.2.2.2.2.2.2 ≠ gb270) ∧ (gb271 ≠ s_.2.2.2.2.2.2) ∧ (s_.2.2.2.2.2.2 ≠ gb271) ∧ (Below w.heap.size w w')) ?_ ?_
 rotate_left
 ·
  intro hCont
  refine two_ (i := 1) (j := 8) (Ni := some 29) (Nj := some 6) #[true, true, true, false, false, false, false, false, false, false, false] #[true, false, true, false, false, false, false, false, true, false, false] rfl rfl rfl rfl (two_of HT_.out (by kernel_rfl)) (by decide) (by decide) (fun K hK => ?_) (fun K hK => ?_)
  ·
   skip
   refine goes_ Try.func7 (by kernel_rfl) rfl #[.agg #[.int .i64 a0_0, .slice A0_1 l0_1.length c0_1, .slice A0_2 l0_2.length c0_2]] (by rfl) rfl rfl (by (try simp only [List.map_toArray, List.map_cons, List.map_nil]); first | done | rfl) ?_
   with_reducible refine (Ff.calls k a0_0 _ _ l0_1 _ _ l0_2 t274 t275 t278 _ ?side1 ?side2 ?side3 ?side4 A19.out).mono ?_
   (case side1 => exact uC HR0_1 HB)
   (case side2 => exact HC0_1.out)
   (case side3 => exact uC HR0_2 HB)
   (case side4 => exact HC0_2.out)
   rintro e w34 ⟨v276, v279, rfl, ho0, ho1, hb⟩
   refine ⟨_, rfl, ?_⟩
   have HO277 := jtS ho0 (below_size (uN HB))
   have HO280 := jtR ho1 (below_size (uN HB))
   replace BK270 := kB BK270 hb
   replace BK271 := kB BK271 hb
   replace HB := Aside0.mk (below_step (uN HB) hb)
   (try clear hb)
   (try clear hb2)
   (try clear hk)
   (try clear hi)
   (try clear ho0)
   (try clear ho1)
   refine hK.out _ _ ⟨bc BK270 0, bc BK270 1, bc BK270 2, bc BK271 0, bc BK271 1, bc BK271 2⟩ (fun hHeld => ?_)
   clear hK K
   refine norm_ (a' := ?_) ?_ ?_
   rotate_left
   ·
    show Act.put _ (some 29) _ = _
    simp only [Act.put, setIfInBounds_toArray, set_cons_zero, set_cons_succ, i64_w, i32_w]
    rfl
   refine two_ (i := 3) (j := 8) (Ni := some 31) (Nj := some 6) #[true, true, true, true, false, false, false, false, false, false, false] #[true, true, true, false, false, false, false, false, true, false, false] rfl rfl rfl rfl (two_of HT_.out (by kernel_rfl)) (by decide) (by decide) (fun K hK => ?_) (fun K hK => ?_)
   ·
    skip
    refine goes_ Try.func7 (by kernel_rfl) rfl #[.agg #[.int .i64 a1_0, .slice A1_1 l1_1.length c1_1, .slice A1_2 l1_2.length c1_2]] (by rfl) rfl rfl (by (try simp only [List.map_toArray, List.map_cons, List.map_nil]); first | done | rfl) ?_
    with_reducible refine (Ff.calls k a1_0 _ _ l1_1 _ _ l1_2 t281 t282 t285 _ ?side1 ?side2 ?side3 ?side4 A20.out).mono ?_
    (case side1 => exact uC HR1_1 HB)
    (case side2 => exact HC1_1.out)
    (case side3 => exact uC HR1_2 HB)
    (case side4 => exact HC1_2.out)
    rintro e w35 ⟨v283, v286, rfl, ho0, ho1, hb⟩
    refine ⟨_, rfl, ?_⟩
    have HO284 := jtS ho0 (below_size (uN HB))
    replace HO277 := jkS HO277 hb
    have HO287 := jtR ho1 (below_size (uN HB))
    replace HO280 := jkR HO280 hb
    replace BK270 := kB BK270 hb
    replace BK271 := kB BK271 hb
    replace HB := Aside0.mk (below_step (uN HB) hb)
    (try clear hb)
    (try clear hb2)
    (try clear hk)
    (try clear hi)
    (try clear ho0)
    (try clear ho1)
    obtain ⟨Ao36, co36, eo36⟩ := Kd.S_slice HO277.out
    (first | subst eo36 | (injection eo36 with f1_ f2_ f3_; have f4_ := f1_.symm; have f5_ := f3_.symm; clear f1_ f2_ f3_; subst f4_; subst f5_))
    obtain ⟨Ao37, co37, eo37⟩ := Kd.R_slice HO280.out
    (first | subst eo37 | (injection eo37 with f1_ f2_ f3_; have f4_ := f1_.symm; have f5_ := f3_.symm; clear f1_ f2_ f3_; subst f4_; subst f5_))
    obtain ⟨Ao38, co38, eo38⟩ := Kd.S_slice HO284.out
    (first | subst eo38 | (injection eo38 with f1_ f2_ f3_; have f4_ := f1_.symm; have f5_ := f3_.symm; clear f1_ f2_ f3_; subst f4_; subst f5_))
    obtain ⟨Ao39, co39, eo39⟩ := Kd.R_slice HO287.out
    (first | subst eo39 | (injection eo39 with f1_ f2_ f3_; have f4_ := f1_.symm; have f5_ := f3_.symm; clear f1_ f2_ f3_; subst f4_; subst f5_))
    refine hK.out _ _ ⟨bc BK270 0, bc BK270 1, bc BK270 2, bc BK271 0, bc BK271 1, bc BK271 2⟩ (fun hHeld => ?_)
    clear hK K
    refine norm_ (a' := ?_) ?_ ?_
    rotate_left
    ·
     show Act.put _ (some 31) _ = _
     simp only [Act.put, setIfInBounds_toArray, set_cons_zero, set_cons_succ, i64_w, i32_w]
     rfl
    refine two_ (i := 4) (j := 8) (Ni := some 32) (Nj := some 6) #[true, true, true, true, true, false, false, false, false, false, false] #[true, true, true, true, false, false, false, false, true, false, false] rfl rfl rfl rfl (two_of HT_.out (by kernel_rfl)) (by decide) (by decide) (fun K hK => ?_) (fun K hK => ?_)
    ·
     skip
     refine goes_ Try.func6 (by kernel_rfl) rfl #[.agg #[.int .i64 t274, .slice Ao36 t275.length co36, .slice Ao37 t278.length co37], .agg #[.int .i64 t281, .slice Ao38 t282.length co38, .slice Ao39 t285.length co39]] (by rfl) rfl rfl (by (try simp only [List.map_toArray, List.map_cons, List.map_nil]); first | done | rfl) ?_
     with_reducible refine (Fa.calls k t274 (fun _ => True) _ _ t275 _ _ t278 t281 (fun _ => True) _ _ t282 _ _ t285 t288 t289 t292 t295 _ ?side1 ?side2 ?side3 ?side4 ?side5 ?side6 A21.out).mono ?_
     (case side1 => exact Kd.S_V HO277.out)
     (case side2 => exact uD HO280)
     (case side3 => exact (Kd.R_reads' HO280.out).2.1)
     (case side4 => exact Kd.S_V HO284.out)
     (case side5 => exact uD HO287)
     (case side6 => exact (Kd.R_reads' HO287.out).2.1)
     rintro e w40 ⟨v290, v293, rfl, ho0, ho1, hb⟩
     refine ⟨_, rfl, ?_⟩
     have HO291 := jtS ho0 (below_size (uN HB))
     replace HO277 := jkS HO277 hb
     replace HO284 := jkS HO284 hb
     have HO294 := jtR ho1 (below_size (uN HB))
     replace HO280 := jkR HO280 hb
     replace HO287 := jkR HO287 hb
     replace BK270 := kB BK270 hb
     replace BK271 := kB BK271 hb
     replace HB := Aside0.mk (below_step (uN HB) hb)
     (try clear hb)
     (try clear hb2)
     (try clear hk)
     (try clear hi)
     (try clear ho0)
     (try clear ho1)
     refine hK.out _ _ ⟨bc BK270 0, bc BK270 1, bc BK270 2, bc BK271 0, bc BK271 1, bc BK271 2⟩ (fun hHeld => ?_)
     clear hK K
     refine norm_ (a' := ?_) ?_ ?_
     rotate_left
     ·
      show Act.put _ (some 32) _ = _
      simp only [Act.put, setIfInBounds_toArray, set_cons_zero, set_cons_succ, i64_w, i32_w]
      rfl
     refine pure_ (i := 5) (N := some 27) (v := ?_) (a' := ?_) #[true, true, true, true, true, true, false, false, false, false, false] rfl rfl (any_of HT_.out (by kernel_rfl)) (fun _ _ _ h => h) (Or.inl ⟨by rfl, ?_⟩) ?_ ?_
     rotate_left
     ·
      intro w'
      go_simp
      with_reducible rfl
     rotate_left
     ·
      simp only [Act.put, setIfInBounds_toArray, set_cons_zero, set_cons_succ, i64_w, i32_w]
      rfl
     refine pure_ (i := 6) (N := some 33) (v := ?_) (a' := ?_) #[true, true, true, true, true, true, true, false, false, false, false] rfl rfl (any_of HT_.out (by kernel_rfl)) (fun _ _ _ h => h) (Or.inl ⟨by rfl, ?_⟩) ?_ ?_
     rotate_left
     ·
      intro w'
      go_simp
      with_reducible rfl
     rotate_left
     ·
      simp only [Act.put, setIfInBounds_toArray, set_cons_zero, set_cons_succ, i64_w, i32_w]
      rfl
     refine pure_ (i := 7) (N := some 34) (v := ?_) (a' := ?_) #[true, true, true, true, true, true, true, true, false, false, false] rfl rfl (any_of HT_.out (by kernel_rfl)) (fun _ _ _ h => h) (Or.inl ⟨by rfl, ?_⟩) ?_ ?_
     rotate_left
     ·
      intro w'
      go_simp
      with_reducible rfl
     rotate_left
     ·
      simp only [Act.put, setIfInBounds_toArray, set_cons_zero, set_cons_succ, i64_w, i32_w]
      rfl
     refine one_ (i := 8) (N := some 6) #[true, true, true, true, true, true, true, true, true, false, false] rfl rfl (one_of HT_.out (by kernel_rfl)) (by decide) (fun K hK => ?_)
     refine box_step ?hg (N := 6) ?hd (cs := #[.int .i64 0, .slice none 0 0, .slice none 0 0]) (t := 29) ?hr ?_; (case hd => rfl); (case hg => rfl); (case hr => first | (go_simp; done) | (go_simp; rfl))
     intro gb296 hg w41 hbox hb
     replace HO277 := jkS HO277 hb
     replace HO280 := jkR HO280 hb
     replace HO284 := jkS HO284 hb
     replace HO287 := jkR HO287 hb
     replace HO291 := jkS HO291 hb
     replace HO294 := jkR HO294 hb
     have BK296 := Aside0.mk (hbox)
     have GW296 := nG HB hg
     have GE296 := nG HB hg
     have GI296 := gI GE296
     replace HB := Aside0.mk (below_step (uN HB) hb)
     have NB270_296 := nL BK270 hg
     have NB296_270 := nR BK270 hg
     replace BK270 := kB BK270 hb
     have NB271_296 := nL BK271 hg
     have NB296_271 := nR BK271 hg
     replace BK271 := kB BK271 hb
     clear hb hbox hg
     refine hK.out _ _ ⟨bc BK270 0, bc BK270 1, bc BK270 2, bc BK271 0, bc BK271 1, bc BK271 2⟩ (fun hHeld => ?_)
     clear hK K
     refine norm_ (a' := ?_) ?_ ?_
     rotate_left
     ·
      show Act.put _ (some 6) _ = _
      simp only [Act.put, setIfInBounds_toArray, set_cons_zero, set_cons_succ, i64_w, i32_w]
      rfl
     exact norm_ (by simp only [putAll, Act.put, setIfInBounds_toArray, set_cons_zero, set_cons_succ]) (hCont (.slice Ao36 t275.length co36, .slice Ao37 t278.length co37, .slice Ao38 t282.length co38, .slice Ao39 t285.length co39, v290, v293, gb296) _ ⟨hHeld, (jqS HO277), (uR HO280), (jqS HO284), (uR HO287), (jqS HO291), (uR HO294), (uK BK270), (uK BK271), (uK BK296), GW296.out, GE296.out, NB270_296.out, NB296_270.out, NB271_296.out, NB296_271.out, (uN HB)⟩)
    skip
    refine box_step ?hg (N := 6) ?hd (cs := #[.int .i64 0, .slice none 0 0, .slice none 0 0]) (t := 29) ?hr ?_; (case hd => rfl); (case hg => rfl); (case hr => first | (go_simp; done) | (go_simp; rfl))
    intro gb296 hg w36 hbox hb
    replace HO277 := jkS HO277 hb
    replace HO280 := jkR HO280 hb
    replace HO284 := jkS HO284 hb
    replace HO287 := jkR HO287 hb
    have BK296 := Aside0.mk (hbox)
    have GW296 := nG HB hg
    have GE296 := nG HB hg
    have GI296 := gI GE296
    replace HB := Aside0.mk (below_step (uN HB) hb)
    have NB270_296 := nL BK270 hg
    have NB296_270 := nR BK270 hg
    replace BK270 := kB BK270 hb
    have NB271_296 := nL BK271 hg
    have NB296_271 := nR BK271 hg
    replace BK271 := kB BK271 hb
    clear hb hbox hg
    obtain ⟨Ao37, co37, eo37⟩ := Kd.S_slice HO277.out
    (first | subst eo37 | (injection eo37 with f1_ f2_ f3_; have f4_ := f1_.symm; have f5_ := f3_.symm; clear f1_ f2_ f3_; subst f4_; subst f5_))
    obtain ⟨Ao38, co38, eo38⟩ := Kd.R_slice HO280.out
    (first | subst eo38 | (injection eo38 with f1_ f2_ f3_; have f4_ := f1_.symm; have f5_ := f3_.symm; clear f1_ f2_ f3_; subst f4_; subst f5_))
    obtain ⟨Ao39, co39, eo39⟩ := Kd.S_slice HO284.out
    (first | subst eo39 | (injection eo39 with f1_ f2_ f3_; have f4_ := f1_.symm; have f5_ := f3_.symm; clear f1_ f2_ f3_; subst f4_; subst f5_))
    obtain ⟨Ao40, co40, eo40⟩ := Kd.R_slice HO287.out
    (first | subst eo40 | (injection eo40 with f1_ f2_ f3_; have f4_ := f1_.symm; have f5_ := f3_.symm; clear f1_ f2_ f3_; subst f4_; subst f5_))
    refine hK.out _ _ ⟨bc BK270 0, bc BK270 1, bc BK270 2, bc BK271 0, bc BK271 1, bc BK271 2⟩ (fun hHeld => ?_)
    clear hK K
    refine norm_ (a' := ?_) ?_ ?_
    rotate_left
    ·
     show Act.put _ (some 6) _ = _
     simp only [Act.put, setIfInBounds_toArray, set_cons_zero, set_cons_succ, i64_w, i32_w]
     rfl
    refine one_ (i := 4) (N := some 32) #[true, true, true, true, true, false, false, false, true, false, false] rfl rfl (one_of HT_.out (by kernel_rfl)) (by decide) (fun K hK => ?_)
    refine goes_ Try.func6 (by kernel_rfl) rfl #[.agg #[.int .i64 t274, .slice Ao37 t275.length co37, .slice Ao38 t278.length co38], .agg #[.int .i64 t281, .slice Ao39 t282.length co39, .slice Ao40 t285.length co40]] (by rfl) rfl rfl (by (try simp only [List.map_toArray, List.map_cons, List.map_nil]); first | done | rfl) ?_
    with_reducible refine (Fa.calls k t274 (fun _ => True) _ _ t275 _ _ t278 t281 (fun _ => True) _ _ t282 _ _ t285 t288 t289 t292 t295 _ ?side1 ?side2 ?side3 ?side4 ?side5 ?side6 A21.out).mono ?_
    (case side1 => exact Kd.S_V HO277.out)
    (case side2 => exact uD HO280)
    (case side3 => exact (Kd.R_reads' HO280.out).2.1)
    (case side4 => exact Kd.S_V HO284.out)
    (case side5 => exact uD HO287)
    (case side6 => exact (Kd.R_reads' HO287.out).2.1)
    rintro e w41 ⟨v290, v293, rfl, ho0, ho1, hb⟩
    refine ⟨_, rfl, ?_⟩
    have HO291 := jtS ho0 (below_size (uN HB))
    replace HO277 := jkS HO277 hb
    replace HO284 := jkS HO284 hb
    have HO294 := jtR ho1 (below_size (uN HB))
    replace HO280 := jkR HO280 hb
    replace HO287 := jkR HO287 hb
    replace BK270 := kB BK270 hb
    replace BK271 := kB BK271 hb
    replace BK296 := kB BK296 hb
    replace HB := Aside0.mk (below_step (uN HB) hb)
    (try clear hb)
    (try clear hb2)
    (try clear hk)
    (try clear hi)
    (try clear ho0)
    (try clear ho1)
    refine hK.out _ _ ⟨bc BK270 0, bc BK270 1, bc BK270 2, bc BK271 0, bc BK271 1, bc BK271 2⟩ (fun hHeld => ?_)
    clear hK K
    refine norm_ (a' := ?_) ?_ ?_
    rotate_left
    ·
     show Act.put _ (some 32) _ = _
     simp only [Act.put, setIfInBounds_toArray, set_cons_zero, set_cons_succ, i64_w, i32_w]
     rfl
    refine pure_ (i := 5) (N := some 27) (v := ?_) (a' := ?_) #[true, true, true, true, true, true, false, false, true, false, false] rfl rfl (any_of HT_.out (by kernel_rfl)) (fun _ _ _ h => h) (Or.inl ⟨by rfl, ?_⟩) ?_ ?_
    rotate_left
    ·
     intro w'
     go_simp
     with_reducible rfl
    rotate_left
    ·
     simp only [Act.put, setIfInBounds_toArray, set_cons_zero, set_cons_succ, i64_w, i32_w]
     rfl
    refine pure_ (i := 6) (N := some 33) (v := ?_) (a' := ?_) #[true, true, true, true, true, true, true, false, true, false, false] rfl rfl (any_of HT_.out (by kernel_rfl)) (fun _ _ _ h => h) (Or.inl ⟨by rfl, ?_⟩) ?_ ?_
    rotate_left
    ·
     intro w'
     go_simp
     with_reducible rfl
    rotate_left
    ·
     simp only [Act.put, setIfInBounds_toArray, set_cons_zero, set_cons_succ, i64_w, i32_w]
     rfl
    refine pure_ (i := 7) (N := some 34) (v := ?_) (a' := ?_) #[true, true, true, true, true, true, true, true, true, false, false] rfl rfl (any_of HT_.out (by kernel_rfl)) (fun _ _ _ h => h) (Or.inl ⟨by rfl, ?_⟩) ?_ ?_
    rotate_left
    ·
     intro w'
     go_simp
     with_reducible rfl
    rotate_left
    ·
     simp only [Act.put, setIfInBounds_toArray, set_cons_zero, set_cons_succ, i64_w, i32_w]
     rfl
    exact norm_ (by simp only [putAll, Act.put, setIfInBounds_toArray, set_cons_zero, set_cons_succ]) (hCont (.slice Ao37 t275.length co37, .slice Ao38 t278.length co38, .slice Ao39 t282.length co39, .slice Ao40 t285.length co40, v290, v293, gb296) _ ⟨hHeld, (jqS HO277), (uR HO280), (jqS HO284), (uR HO287), (jqS HO291), (uR HO294), (uK BK270), (uK BK271), (uK BK296), GW296.out, GE296.out, NB270_296.out, NB296_270.out, NB271_296.out, NB296_271.out, (uN HB)⟩)
   skip
   refine box_step ?hg (N := 6) ?hd (cs := #[.int .i64 0, .slice none 0 0, .slice none 0 0]) (t := 29) ?hr ?_; (case hd => rfl); (case hg => rfl); (case hr => first | (go_simp; done) | (go_simp; rfl))
   intro gb296 hg w35 hbox hb
   replace HO277 := jkS HO277 hb
   replace HO280 := jkR HO280 hb
   have BK296 := Aside0.mk (hbox)
   have GW296 := nG HB hg
   have GE296 := nG HB hg
   have GI296 := gI GE296
   replace HB := Aside0.mk (below_step (uN HB) hb)
   have NB270_296 := nL BK270 hg
   have NB296_270 := nR BK270 hg
   replace BK270 := kB BK270 hb
   have NB271_296 := nL BK271 hg
   have NB296_271 := nR BK271 hg
   replace BK271 := kB BK271 hb
   clear hb hbox hg
   refine hK.out _ _ ⟨bc BK270 0, bc BK270 1, bc BK270 2, bc BK271 0, bc BK271 1, bc BK271 2⟩ (fun hHeld => ?_)
   clear hK K
   refine norm_ (a' := ?_) ?_ ?_
   rotate_left
   ·
    show Act.put _ (some 6) _ = _
    simp only [Act.put, setIfInBounds_toArray, set_cons_zero, set_cons_succ, i64_w, i32_w]
    rfl
   refine one_ (i := 3) (N := some 31) #[true, true, true, true, false, false, false, false, true, false, false] rfl rfl (one_of HT_.out (by kernel_rfl)) (by decide) (fun K hK => ?_)
   refine goes_ Try.func7 (by kernel_rfl) rfl #[.agg #[.int .i64 a1_0, .slice A1_1 l1_1.length c1_1, .slice A1_2 l1_2.length c1_2]] (by rfl) rfl rfl (by (try simp only [List.map_toArray, List.map_cons, List.map_nil]); first | done | rfl) ?_
   with_reducible refine (Ff.calls k a1_0 _ _ l1_1 _ _ l1_2 t281 t282 t285 _ ?side1 ?side2 ?side3 ?side4 A20.out).mono ?_
   (case side1 => exact uC HR1_1 HB)
   (case side2 => exact HC1_1.out)
   (case side3 => exact uC HR1_2 HB)
   (case side4 => exact HC1_2.out)
   rintro e w36 ⟨v283, v286, rfl, ho0, ho1, hb⟩
   refine ⟨_, rfl, ?_⟩
   have HO284 := jtS ho0 (below_size (uN HB))
   replace HO277 := jkS HO277 hb
   have HO287 := jtR ho1 (below_size (uN HB))
   replace HO280 := jkR HO280 hb
   replace BK270 := kB BK270 hb
   replace BK271 := kB BK271 hb
   replace BK296 := kB BK296 hb
   replace HB := Aside0.mk (below_step (uN HB) hb)
   (try clear hb)
   (try clear hb2)
   (try clear hk)
   (try clear hi)
   (try clear ho0)
   (try clear ho1)
   obtain ⟨Ao37, co37, eo37⟩ := Kd.S_slice HO277.out
   (first | subst eo37 | (injection eo37 with f1_ f2_ f3_; have f4_ := f1_.symm; have f5_ := f3_.symm; clear f1_ f2_ f3_; subst f4_; subst f5_))
   obtain ⟨Ao38, co38, eo38⟩ := Kd.R_slice HO280.out
   (first | subst eo38 | (injection eo38 with f1_ f2_ f3_; have f4_ := f1_.symm; have f5_ := f3_.symm; clear f1_ f2_ f3_; subst f4_; subst f5_))
   obtain ⟨Ao39, co39, eo39⟩ := Kd.S_slice HO284.out
   (first | subst eo39 | (injection eo39 with f1_ f2_ f3_; have f4_ := f1_.symm; have f5_ := f3_.symm; clear f1_ f2_ f3_; subst f4_; subst f5_))
   obtain ⟨Ao40, co40, eo40⟩ := Kd.R_slice HO287.out
   (first | subst eo40 | (injection eo40 with f1_ f2_ f3_; have f4_ := f1_.symm; have f5_ := f3_.symm; clear f1_ f2_ f3_; subst f4_; subst f5_))
   refine hK.out _ _ ⟨bc BK270 0, bc BK270 1, bc BK270 2, bc BK271 0, bc BK271 1, bc BK271 2⟩ (fun hHeld => ?_)
   clear hK K
   refine norm_ (a' := ?_) ?_ ?_
   rotate_left
   ·
    show Act.put _ (some 31) _ = _
    simp only [Act.put, setIfInBounds_toArray, set_cons_zero, set_cons_succ, i64_w, i32_w]
    rfl
   refine one_ (i := 4) (N := some 32) #[true, true, true, true, true, false, false, false, true, false, false] rfl rfl (one_of HT_.out (by kernel_rfl)) (by decide) (fun K hK => ?_)
   refine goes_ Try.func6 (by kernel_rfl) rfl #[.agg #[.int .i64 t274, .slice Ao37 t275.length co37, .slice Ao38 t278.length co38], .agg #[.int .i64 t281, .slice Ao39 t282.length co39, .slice Ao40 t285.length co40]] (by rfl) rfl rfl (by (try simp only [List.map_toArray, List.map_cons, List.map_nil]); first | done | rfl) ?_
   with_reducible refine (Fa.calls k t274 (fun _ => True) _ _ t275 _ _ t278 t281 (fun _ => True) _ _ t282 _ _ t285 t288 t289 t292 t295 _ ?side1 ?side2 ?side3 ?side4 ?side5 ?side6 A21.out).mono ?_
   (case side1 => exact Kd.S_V HO277.out)
   (case side2 => exact uD HO280)
   (case side3 => exact (Kd.R_reads' HO280.out).2.1)
   (case side4 => exact Kd.S_V HO284.out)
   (case side5 => exact uD HO287)
   (case side6 => exact (Kd.R_reads' HO287.out).2.1)
   rintro e w41 ⟨v290, v293, rfl, ho0, ho1, hb⟩
   refine ⟨_, rfl, ?_⟩
   have HO291 := jtS ho0 (below_size (uN HB))
   replace HO277 := jkS HO277 hb
   replace HO284 := jkS HO284 hb
   have HO294 := jtR ho1 (below_size (uN HB))
   replace HO280 := jkR HO280 hb
   replace HO287 := jkR HO287 hb
   replace BK270 := kB BK270 hb
   replace BK271 := kB BK271 hb
   replace BK296 := kB BK296 hb
   replace HB := Aside0.mk (below_step (uN HB) hb)
   (try clear hb)
   (try clear hb2)
   (try clear hk)
   (try clear hi)
   (try clear ho0)
   (try clear ho1)
   refine hK.out _ _ ⟨bc BK270 0, bc BK270 1, bc BK270 2, bc BK271 0, bc BK271 1, bc BK271 2⟩ (fun hHeld => ?_)
   clear hK K
   refine norm_ (a' := ?_) ?_ ?_
   rotate_left
   ·
    show Act.put _ (some 32) _ = _
    simp only [Act.put, setIfInBounds_toArray, set_cons_zero, set_cons_succ, i64_w, i32_w]
    rfl
   refine pure_ (i := 5) (N := some 27) (v := ?_) (a' := ?_) #[true, true, true, true, true, true, false, false, true, false, false] rfl rfl (any_of HT_.out (by kernel_rfl)) (fun _ _ _ h => h) (Or.inl ⟨by rfl, ?_⟩) ?_ ?_
   rotate_left
   ·
    intro w'
    go_simp
    with_reducible rfl
   rotate_left
   ·
    simp only [Act.put, setIfInBounds_toArray, set_cons_zero, set_cons_succ, i64_w, i32_w]
    rfl
   refine pure_ (i := 6) (N := some 33) (v := ?_) (a' := ?_) #[true, true, true, true, true, true, true, false, true, false, false] rfl rfl (any_of HT_.out (by kernel_rfl)) (fun _ _ _ h => h) (Or.inl ⟨by rfl, ?_⟩) ?_ ?_
   rotate_left
   ·
    intro w'
    go_simp
    with_reducible rfl
   rotate_left
   ·
    simp only [Act.put, setIfInBounds_toArray, set_cons_zero, set_cons_succ, i64_w, i32_w]
    rfl
   refine pure_ (i := 7) (N := some 34) (v := ?_) (a' := ?_) #[true, true, true, true, true, true, true, true, true, false, false] rfl rfl (any_of HT_.out (by kernel_rfl)) (fun _ _ _ h => h) (Or.inl ⟨by rfl, ?_⟩) ?_ ?_
   rotate_left
   ·
    intro w'
    go_simp
    with_reducible rfl
   rotate_left
   ·
    simp only [Act.put, setIfInBounds_toArray, set_cons_zero, set_cons_succ, i64_w, i32_w]
    rfl
   exact norm_ (by simp only [putAll, Act.put, setIfInBounds_toArray, set_cons_zero, set_cons_succ]) (hCont (.slice Ao37 t275.length co37, .slice Ao38 t278.length co38, .slice Ao39 t282.length co39, .slice Ao40 t285.length co40, v290, v293, gb296) _ ⟨hHeld, (jqS HO277), (uR HO280), (jqS HO284), (uR HO287), (jqS HO291), (uR HO294), (uK BK270), (uK BK271), (uK BK296), GW296.out, GE296.out, NB270_296.out, NB296_270.out, NB271_296.out, NB296_271.out, (uN HB)⟩)
  skip
  refine box_step ?hg (N := 6) ?hd (cs := #[.int .i64 0, .slice none 0 0, .slice none 0 0]) (t := 29) ?hr ?_; (case hd => rfl); (case hg => rfl); (case hr => first | (go_simp; done) | (go_simp; rfl))
  intro gb296 hg w34 hbox hb
  have BK296 := Aside0.mk (hbox)
  have GW296 := nG HB hg
  have GE296 := nG HB hg
  have GI296 := gI GE296
  replace HB := Aside0.mk (below_step (uN HB) hb)
  have NB270_296 := nL BK270 hg
  have NB296_270 := nR BK270 hg
  replace BK270 := kB BK270 hb
  have NB271_296 := nL BK271 hg
  have NB296_271 := nR BK271 hg
  replace BK271 := kB BK271 hb
  clear hb hbox hg
  refine hK.out _ _ ⟨bc BK270 0, bc BK270 1, bc BK270 2, bc BK271 0, bc BK271 1, bc BK271 2⟩ (fun hHeld => ?_)
  clear hK K
  refine norm_ (a' := ?_) ?_ ?_
  rotate_left
  ·
   show Act.put _ (some 6) _ = _
   simp only [Act.put, setIfInBounds_toArray, set_cons_zero, set_cons_succ, i64_w, i32_w]
   rfl
  refine one_ (i := 1) (N := some 29) #[true, true, true, false, false, false, false, false, true, false, false] rfl rfl (one_of HT_.out (by kernel_rfl)) (by decide) (fun K hK => ?_)
  refine goes_ Try.func7 (by kernel_rfl) rfl #[.agg #[.int .i64 a0_0, .slice A0_1 l0_1.length c0_1, .slice A0_2 l0_2.length c0_2]] (by rfl) rfl rfl (by (try simp only [List.map_toArray, List.map_cons, List.map_nil]); first | done | rfl) ?_
  with_reducible refine (Ff.calls k a0_0 _ _ l0_1 _ _ l0_2 t274 t275 t278 _ ?side1 ?side2 ?side3 ?side4 A19.out).mono ?_
  (case side1 => exact uC HR0_1 HB)
  (case side2 => exact HC0_1.out)
  (case side3 => exact uC HR0_2 HB)
  (case side4 => exact HC0_2.out)
  rintro e w35 ⟨v276, v279, rfl, ho0, ho1, hb⟩
  refine ⟨_, rfl, ?_⟩
  have HO277 := jtS ho0 (below_size (uN HB))
  have HO280 := jtR ho1 (below_size (uN HB))
  replace BK270 := kB BK270 hb
  replace BK271 := kB BK271 hb
  replace BK296 := kB BK296 hb
  replace HB := Aside0.mk (below_step (uN HB) hb)
  (try clear hb)
  (try clear hb2)
  (try clear hk)
  (try clear hi)
  (try clear ho0)
  (try clear ho1)
  refine hK.out _ _ ⟨bc BK270 0, bc BK270 1, bc BK270 2, bc BK271 0, bc BK271 1, bc BK271 2⟩ (fun hHeld => ?_)
  clear hK K
  refine norm_ (a' := ?_) ?_ ?_
  rotate_left
  ·
   show Act.put _ (some 29) _ = _
   simp only [Act.put, setIfInBounds_toArray, set_cons_zero, set_cons_succ, i64_w, i32_w]
   rfl
  refine one_ (i := 3) (N := some 31) #[true, true, true, true, false, false, false, false, true, false, false] rfl rfl (one_of HT_.out (by kernel_rfl)) (by decide) (fun K hK => ?_)
  refine goes_ Try.func7 (by kernel_rfl) rfl #[.agg #[.int .i64 a1_0, .slice A1_1 l1_1.length c1_1, .slice A1_2 l1_2.length c1_2]] (by rfl) rfl rfl (by (try simp only [List.map_toArray, List.map_cons, List.map_nil]); first | done | rfl) ?_
  with_reducible refine (Ff.calls k a1_0 _ _ l1_1 _ _ l1_2 t281 t282 t285 _ ?side1 ?side2 ?side3 ?side4 A20.out).mono ?_
  (case side1 => exact uC HR1_1 HB)
  (case side2 => exact HC1_1.out)
  (case side3 => exact uC HR1_2 HB)
  (case side4 => exact HC1_2.out)
  rintro e w36 ⟨v283, v286, rfl, ho0, ho1, hb⟩
  refine ⟨_, rfl, ?_⟩
  have HO284 := jtS ho0 (below_size (uN HB))
  replace HO277 := jkS HO277 hb
  have HO287 := jtR ho1 (below_size (uN HB))
  replace HO280 := jkR HO280 hb
  replace BK270 := kB BK270 hb
  replace BK271 := kB BK271 hb
  replace BK296 := kB BK296 hb
  replace HB := Aside0.mk (below_step (uN HB) hb)
  (try clear hb)
  (try clear hb2)
  (try clear hk)
  (try clear hi)
  (try clear ho0)
  (try clear ho1)
  obtain ⟨Ao37, co37, eo37⟩ := Kd.S_slice HO277.out
  (first | subst eo37 | (injection eo37 with f1_ f2_ f3_; have f4_ := f1_.symm; have f5_ := f3_.symm; clear f1_ f2_ f3_; subst f4_; subst f5_))
  obtain ⟨Ao38, co38, eo38⟩ := Kd.R_slice HO280.out
  (first | subst eo38 | (injection eo38 with f1_ f2_ f3_; have f4_ := f1_.symm; have f5_ := f3_.symm; clear f1_ f2_ f3_; subst f4_; subst f5_))
  obtain ⟨Ao39, co39, eo39⟩ := Kd.S_slice HO284.out
  (first | subst eo39 | (injection eo39 with f1_ f2_ f3_; have f4_ := f1_.symm; have f5_ := f3_.symm; clear f1_ f2_ f3_; subst f4_; subst f5_))
  obtain ⟨Ao40, co40, eo40⟩ := Kd.R_slice HO287.out
  (first | subst eo40 | (injection eo40 with f1_ f2_ f3_; have f4_ := f1_.symm; have f5_ := f3_.symm; clear f1_ f2_ f3_; subst f4_; subst f5_))
  refine hK.out _ _ ⟨bc BK270 0, bc BK270 1, bc BK270 2, bc BK271 0, bc BK271 1, bc BK271 2⟩ (fun hHeld => ?_)
  clear hK K
  refine norm_ (a' := ?_) ?_ ?_
  rotate_left
  ·
   show Act.put _ (some 31) _ = _
   simp only [Act.put, setIfInBounds_toArray, set_cons_zero, set_cons_succ, i64_w, i32_w]
   rfl
  refine one_ (i := 4) (N := some 32) #[true, true, true, true, true, false, false, false, true, false, false] rfl rfl (one_of HT_.out (by kernel_rfl)) (by decide) (fun K hK => ?_)
  refine goes_ Try.func6 (by kernel_rfl) rfl #[.agg #[.int .i64 t274, .slice Ao37 t275.length co37, .slice Ao38 t278.length co38], .agg #[.int .i64 t281, .slice Ao39 t282.length co39, .slice Ao40 t285.length co40]] (by rfl) rfl rfl (by (try simp only [List.map_toArray, List.map_cons, List.map_nil]); first | done | rfl) ?_
  with_reducible refine (Fa.calls k t274 (fun _ => True) _ _ t275 _ _ t278 t281 (fun _ => True) _ _ t282 _ _ t285 t288 t289 t292 t295 _ ?side1 ?side2 ?side3 ?side4 ?side5 ?side6 A21.out).mono ?_
  (case side1 => exact Kd.S_V HO277.out)
  (case side2 => exact uD HO280)
  (case side3 => exact (Kd.R_reads' HO280.out).2.1)
  (case side4 => exact Kd.S_V HO284.out)
  (case side5 => exact uD HO287)
  (case side6 => exact (Kd.R_reads' HO287.out).2.1)
  rintro e w41 ⟨v290, v293, rfl, ho0, ho1, hb⟩
  refine ⟨_, rfl, ?_⟩
  have HO291 := jtS ho0 (below_size (uN HB))
  replace HO277 := jkS HO277 hb
  replace HO284 := jkS HO284 hb
  have HO294 := jtR ho1 (below_size (uN HB))
  replace HO280 := jkR HO280 hb
  replace HO287 := jkR HO287 hb
  replace BK270 := kB BK270 hb
  replace BK271 := kB BK271 hb
  replace BK296 := kB BK296 hb
  replace HB := Aside0.mk (below_step (uN HB) hb)
  (try clear hb)
  (try clear hb2)
  (try clear hk)
  (try clear hi)
  (try clear ho0)
  (try clear ho1)
  refine hK.out _ _ ⟨bc BK270 0, bc BK270 1, bc BK270 2, bc BK271 0, bc BK271 1, bc BK271 2⟩ (fun hHeld => ?_)
  clear hK K
  refine norm_ (a' := ?_) ?_ ?_
  rotate_left
  ·
   show Act.put _ (some 32) _ = _
   simp only [Act.put, setIfInBounds_toArray, set_cons_zero, set_cons_succ, i64_w, i32_w]
   rfl
  refine pure_ (i := 5) (N := some 27) (v := ?_) (a' := ?_) #[true, true, true, true, true, true, false, false, true, false, false] rfl rfl (any_of HT_.out (by kernel_rfl)) (fun _ _ _ h => h) (Or.inl ⟨by rfl, ?_⟩) ?_ ?_
  rotate_left
  ·
   intro w'
   go_simp
   with_reducible rfl
  rotate_left
  ·
   simp only [Act.put, setIfInBounds_toArray, set_cons_zero, set_cons_succ, i64_w, i32_w]
   rfl
  refine pure_ (i := 6) (N := some 33) (v := ?_) (a' := ?_) #[true, true, true, true, true, true, true, false, true, false, false] rfl rfl (any_of HT_.out (by kernel_rfl)) (fun _ _ _ h => h) (Or.inl ⟨by rfl, ?_⟩) ?_ ?_
  rotate_left
  ·
   intro w'
   go_simp
   with_reducible rfl
  rotate_left
  ·
   simp only [Act.put, setIfInBounds_toArray, set_cons_zero, set_cons_succ, i64_w, i32_w]
   rfl
  refine pure_ (i := 7) (N := some 34) (v := ?_) (a' := ?_) #[true, true, true, true, true, true, true, true, true, false, false] rfl rfl (any_of HT_.out (by kernel_rfl)) (fun _ _ _ h => h) (Or.inl ⟨by rfl, ?_⟩) ?_ ?_
  rotate_left
  ·
   intro w'
   go_simp
   with_reducible rfl
  rotate_left
  ·
   simp only [Act.put, setIfInBounds_toArray, set_cons_zero, set_cons_succ, i64_w, i32_w]
   rfl
  exact norm_ (by simp only [putAll, Act.put, setIfInBounds_toArray, set_cons_zero, set_cons_succ]) (hCont (.slice Ao37 t275.length co37, .slice Ao38 t278.length co38, .slice Ao39 t282.length co39, .slice Ao40 t285.length co40, v290, v293, gb296) _ ⟨hHeld, (jqS HO277), (uR HO280), (jqS HO284), (uR HO287), (jqS HO291), (uR HO294), (uK BK270), (uK BK271), (uK BK296), GW296.out, GE296.out, NB270_296.out, NB296_270.out, NB271_296.out, NB296_271.out, (uN HB)⟩)
 rintro ⟨v276, v279, v283, v286, v290, v293, gb296⟩ w42 ⟨hS_, h0_, h1_, h2_, h3_, h4_, h5_, h6_, h7_, h8_, h9_, h10_, h11_, h12_, h13_, h14_, h15_⟩
 have n0_ : Aside0 (Kd.S k53 53 w42 w.heap.size (fun _ => True) v276 t275) := ⟨h0_⟩
 have n1_ : Aside0 (Kd.R Kd.bool 4 w42 w.heap.size (fun _ => True) v279 t278) := ⟨h1_⟩
 have n2_ : Aside0 (Kd.S k53 53 w42 w.heap.size (fun _ => True) v283 t282) := ⟨h2_⟩
 have n3_ : Aside0 (Kd.R Kd.bool 4 w42 w.heap.size (fun _ => True) v286 t285) := ⟨h3_⟩
 have n4_ : Aside0 (Kd.S k53 53 w42 w.heap.size (fun _ => True) v290 t289) := ⟨h4_⟩
 have n5_ : Aside0 (Kd.R Kd.bool 4 w42 w.heap.size (fun _ => True) v293 t292) := ⟨h5_⟩
 have n6_ : Aside0 (w42.heap[gb270]? = some (.cells #[.int .i64 a0_0, .slice A0_1 l0_1.length c0_1, .slice A0_2 l0_2.length c0_2] 25 (0, 0))) := ⟨h6_⟩
 have n7_ : Aside0 (w42.heap[gb271]? = some (.cells #[.int .i64 a1_0, .slice A1_1 l1_1.length c1_1, .slice A1_2 l1_2.length c1_2] 25 (0, 0))) := ⟨h7_⟩
 have n8_ : Aside0 (w42.heap[gb296]? = some (.cells #[.int .i64 0, .slice none 0 0, .slice none 0 0] 29 (0, 0))) := ⟨h8_⟩
 have n9_ : Aside0 (w.heap.size ≤ gb296) := ⟨h9_⟩
 have n10_ : Aside0 (w.heap.size ≤ gb296) := ⟨h10_⟩
 have n11_ : Aside0 (gb270 ≠ gb296) := ⟨h11_⟩
 have n12_ : Aside0 (gb296 ≠ gb270) := ⟨h12_⟩
 have n13_ : Aside0 (gb271 ≠ gb296) := ⟨h13_⟩
 have n14_ : Aside0 (gb296 ≠ gb271) := ⟨h14_⟩
 have n15_ : Aside0 (Below w.heap.size w w42) := ⟨h15_⟩
 clear BK270
 clear BK271
 clear HB
 clear h0_ h1_ h2_ h3_ h4_ h5_ h6_ h7_ h8_ h9_ h10_ h11_ h12_ h13_ h14_ h15_
 have HO277 := n0_
 have HO280 := n1_
 have HO284 := n2_
 have HO287 := n3_
 have HO291 := n4_
 have HO294 := n5_
 have BK270 := n6_
 have BK271 := n7_
 have BK296 := n8_
 have GW296 := n9_
 have GE296 := n10_
 have GI296 := gI GE296
 have NB270_296 := n11_
 have NB296_270 := n12_
 have NB271_296 := n13_
 have NB296_271 := n14_
 have HB := n15_
 clear n0_ n1_ n2_ n3_ n4_ n5_ n6_ n7_ n8_ n9_ n10_ n11_ n12_ n13_ n14_ n15_
 have hHeld : w42.cell? ⟨gb270, 0, none⟩ = some (.int .i64 a0_0) ∧ w42.cell? ⟨gb270, 1, none⟩ = some (.slice A0_1 l0_1.length c0_1) ∧ w42.cell? ⟨gb270, 2, none⟩ = some (.slice A0_2 l0_2.length c0_2) ∧ w42.cell? ⟨gb271, 0, none⟩ = some (.int .i64 a1_0) ∧ w42.cell? ⟨gb271, 1, none⟩ = some (.slice A1_1 l1_1.length c1_1) ∧ w42.cell? ⟨gb271, 2, none⟩ = some (.slice A1_2 l1_2.length c1_2) := hS_
 obtain ⟨Ao44, co44, eo44⟩ := Kd.S_slice HO291.out
 (first | subst eo44 | (injection eo44 with f1_ f2_ f3_; have f4_ := f1_.symm; have f5_ := f3_.symm; clear f1_ f2_ f3_; subst f4_; subst f5_))
 obtain ⟨Ao46, co46, eo46⟩ := Kd.R_slice HO294.out
 (first | subst eo46 | (injection eo46 with f1_ f2_ f3_; have f4_ := f1_.symm; have f5_ := f3_.symm; clear f1_ f2_ f3_; subst f4_; subst f5_))
 refine norm_ (a' := ?_) ?_ ?_
 rotate_left
 ·
  simp only [putAll, Act.put, setIfInBounds_toArray, set_cons_zero, set_cons_succ]
  rfl
 refine one_ (i := 9) (N := none) #[true, true, true, true, true, true, true, true, true, true, false] rfl rfl (one_of HT_.out (by kernel_rfl)) (by decide) (fun K hK => ?_)
 have hs43 : w42.cell? ⟨gb296, 0, none⟩ = some (.int .i64 0) := bc BK296 0
 have hfs43 := blk_frozen BK296.out 0
 have hns43_0 := NB270_296.out
 have hns43_1 := NB271_296.out
 have hms43_0 := NB296_270.out
 have hms43_1 := NB296_271.out
 have hs45 : w42.cell? ⟨gb296, 1, none⟩ = some (.slice none 0 0) := bc BK296 1
 have hfs45 := blk_frozen BK296.out 1
 have hns45_0 := NB270_296.out
 have hns45_1 := NB271_296.out
 have hms45_0 := NB296_270.out
 have hms45_1 := NB296_271.out
 have hs47 : w42.cell? ⟨gb296, 2, none⟩ = some (.slice none 0 0) := bc BK296 2
 have hfs47 := blk_frozen BK296.out 2
 have hns47_0 := NB270_296.out
 have hns47_1 := NB271_296.out
 have hms47_0 := NB296_270.out
 have hms47_1 := NB296_271.out
 refine skip_ (w1 := ?_) (by rfl) rfl ?_ ?_
 rotate_left
 ·
  go_simp
  rfl
 refine hK.out _ _ ⟨((cell_far (p := ⟨gb296, _, none⟩) NB270_296.out _).trans (((cell_far (p := ⟨gb296, _, none⟩) NB270_296.out _).trans (((cell_far (p := ⟨gb296, _, none⟩) NB270_296.out _).trans (hHeld.1)))))), ((cell_far (p := ⟨gb296, _, none⟩) NB270_296.out _).trans (((cell_far (p := ⟨gb296, _, none⟩) NB270_296.out _).trans (((cell_far (p := ⟨gb296, _, none⟩) NB270_296.out _).trans (hHeld.2.1)))))), ((cell_far (p := ⟨gb296, _, none⟩) NB270_296.out _).trans (((cell_far (p := ⟨gb296, _, none⟩) NB270_296.out _).trans (((cell_far (p := ⟨gb296, _, none⟩) NB270_296.out _).trans (hHeld.2.2.1)))))), ((cell_far (p := ⟨gb296, _, none⟩) NB271_296.out _).trans (((cell_far (p := ⟨gb296, _, none⟩) NB271_296.out _).trans (((cell_far (p := ⟨gb296, _, none⟩) NB271_296.out _).trans (hHeld.2.2.2.1)))))), ((cell_far (p := ⟨gb296, _, none⟩) NB271_296.out _).trans (((cell_far (p := ⟨gb296, _, none⟩) NB271_296.out _).trans (((cell_far (p := ⟨gb296, _, none⟩) NB271_296.out _).trans (hHeld.2.2.2.2.1)))))), ((cell_far (p := ⟨gb296, _, none⟩) NB271_296.out _).trans (((cell_far (p := ⟨gb296, _, none⟩) NB271_296.out _).trans (((cell_far (p := ⟨gb296, _, none⟩) NB271_296.out _).trans (hHeld.2.2.2.2.2))))))⟩ (fun hHeld => ?_)
 clear hK K
 refine pure_ (i := 10) (N := some 7) (v := ?_) (a' := ?_) #[true, true, true, true, true, true, true, true, true, true, true] rfl rfl (any_of HT_.out (by kernel_rfl)) (fun _ _ _ h => h) (Or.inl ⟨by rfl, ?_⟩) ?_ ?_
 rotate_left
 ·
  intro w'
  go_simp
  with_reducible rfl
 rotate_left
 ·
  simp only [Act.put, setIfInBounds_toArray, set_cons_zero, set_cons_succ, i64_w, i32_w]
  rfl
 refine done_ (done_of HT_.out (by kernel_rfl)) ?_
 have hnb48 := NB270_296.out
 have hnc48 := NB296_270.out
 obtain ⟨hcz49_0, hcz49_1, hcz49_2, hfz49_0, hfz49_1, hfz49_2⟩ := ce3 BK270
 go_upto_region 12 with (first | ((with_reducible refine gate_callee (f := 7) rfl ?_); refine goesL_ (some 36) rfl rfl Try.func7 (by kernel_rfl) rfl #[.agg #[.int .i64 a0_0, .slice A0_1 l0_1.length c0_1, .slice A0_2 l0_2.length c0_2]] rfl (by (try simp only [List.map_toArray, List.map_cons, List.map_nil]); first | done | rfl) ?_; (with_reducible refine (Ff.calls k a0_0 _ _ l0_1 _ _ l0_2 t297 t298 t301 _ ?side1 ?side2 ?side3 ?side4 A22.out).mono ?_); (case side1 => exact Kd.C_below HR0_1.out (uN HB)); (case side2 => exact HC0_1.out); (case side3 => exact Kd.C_below HR0_2.out (uN HB)); (case side4 => exact HC0_2.out); rintro e w50 ⟨v299, v302, rfl, ho0, ho1, hb⟩; refine ⟨_, rfl, ?_⟩; obtain ⟨n1, hn1⟩ := kg_size hb; have HO300 := jcS ho0 hn1 (below_size (uN HB)); replace HO277 := jkFS HO277 BK296 hb; replace HO284 := jkFS HO284 BK296 hb; replace HO291 := joFS HO291 BK296 hb hn1; have HO303 := jcR ho1 hn1 (below_size (uN HB)); replace HO280 := jkFR HO280 BK296 hb; replace HO287 := jkFR HO287 BK296 hb; replace HO294 := joFR HO294 BK296 hb hn1; replace BK270 := Aside0.mk (blk_below (g := gb270) (o := .cells #[.int .i64 a0_0, .slice A0_1 l0_1.length c0_1, .slice A0_2 l0_2.length c0_2] 25 (0, 0)) (by refine uW ?_; refine blk_far ?_ NB270_296.out _; refine uW ?_; refine blk_far ?_ NB270_296.out _; refine uW ?_; refine blk_far ?_ NB270_296.out _; refine uW ?_; exact BK270.out) hb); replace BK271 := Aside0.mk (blk_below (g := gb271) (o := .cells #[.int .i64 a1_0, .slice A1_1 l1_1.length c1_1, .slice A1_2 l1_2.length c1_2] 25 (0, 0)) (by refine uW ?_; refine blk_far ?_ NB271_296.out _; refine uW ?_; refine blk_far ?_ NB271_296.out _; refine uW ?_; refine blk_far ?_ NB271_296.out _; refine uW ?_; exact BK271.out) hb); replace BK296 := Aside0.mk (blk_below (g := gb296) (o := .cells #[.int .i64 t288, .slice Ao44 t289.length co44, .slice Ao46 t292.length co46] 29 (0, 0)) (by refine uW ?_; refine blk_put (cs := #[.int .i64 t288, .slice Ao44 t289.length co44, .slice none 0 0]) ?_ 2 _ rfl; refine uW ?_; refine blk_put (cs := #[.int .i64 t288, .slice none 0 0, .slice none 0 0]) ?_ 1 _ rfl; refine uW ?_; refine blk_put (cs := #[.int .i64 0, .slice none 0 0, .slice none 0 0]) ?_ 0 _ rfl; refine uW ?_; exact BK296.out) hb); replace HB := Aside0.mk (below_step (uN HB) hb); clear hn1; (try clear hb); (try clear hb2); (try clear hk); (try clear hi); (try clear ho0); (try clear ho1)) | ((with_reducible refine gate_dst (N := 8) rfl ?_); refine box_event ?hg (N := 8) ?hd (cs := #[.int .i64 0, .slice none 0 0, .slice none 0 0]) (t := 29) ?hr ?_; (case hd => rfl); (case hg => rfl); (case hr => first | (go_simp; done) | (go_simp; rfl)); intro gb304 hg w51 hbox hb; replace HO277 := jkS HO277 hb; replace HO280 := jkR HO280 hb; replace HO284 := jkS HO284 hb; replace HO287 := jkR HO287 hb; replace HO291 := jkS HO291 hb; replace HO294 := jkR HO294 hb; replace HO300 := jkS HO300 hb; replace HO303 := jkR HO303 hb; have BK304 := Aside0.mk (hbox); have GW304 := nG HB hg; have GE304 := nG HB hg; have GI304 := gI GE304; replace HB := Aside0.mk (below_step (uN HB) hb); have NB270_304 := nL BK270 hg; have NB304_270 := nR BK270 hg; replace BK270 := kB BK270 hb; have NB271_304 := nL BK271 hg; have NB304_271 := nR BK271 hg; replace BK271 := kB BK271 hb; have NB296_304 := nL BK296 hg; have NB304_296 := nR BK296 hg; replace BK296 := kB BK296 hb; clear hb hbox hg; have hnb52 := NB304_270.out; have hnc52 := NB270_304.out; have hnb53 := NB304_271.out; have hnc53 := NB271_304.out; have hnb54 := NB304_296.out; have hnc54 := NB296_304.out; obtain ⟨hcz55_0, hcz55_1, hcz55_2, hfz55_0, hfz55_1, hfz55_2⟩ := ce3 BK304; obtain ⟨Ao56, co56, eo56⟩ := Kd.S_slice HO300.out; subst eo56; obtain ⟨Ao57, co57, eo57⟩ := Kd.R_slice HO303.out; subst eo57; have hnb58 := NB271_296.out; have hnc58 := NB296_271.out; obtain ⟨hcz59_0, hcz59_1, hcz59_2, hfz59_0, hfz59_1, hfz59_2⟩ := ce3 BK271) | ((with_reducible refine gate_callee (f := 7) rfl ?_); refine goesL_ (some 38) rfl rfl Try.func7 (by kernel_rfl) rfl #[.agg #[.int .i64 a1_0, .slice A1_1 l1_1.length c1_1, .slice A1_2 l1_2.length c1_2]] rfl (by (try simp only [List.map_toArray, List.map_cons, List.map_nil]); first | done | rfl) ?_; (with_reducible refine (Ff.calls k a1_0 _ _ l1_1 _ _ l1_2 t305 t306 t309 _ ?side1 ?side2 ?side3 ?side4 A23.out).mono ?_); (case side1 => exact Kd.C_below HR1_1.out (uN HB)); (case side2 => exact HC1_1.out); (case side3 => exact Kd.C_below HR1_2.out (uN HB)); (case side4 => exact HC1_2.out); rintro e w60 ⟨v307, v310, rfl, ho0, ho1, hb⟩; refine ⟨_, rfl, ?_⟩; obtain ⟨n2, hn2⟩ := kg_size hb; have HO308 := jcS ho0 hn2 (below_size (uN HB)); replace HO277 := jkFS HO277 BK304 hb; replace HO284 := jkFS HO284 BK304 hb; replace HO291 := joFS HO291 BK304 hb hn2; replace HO300 := joFS HO300 BK304 hb hn2; have HO311 := jcR ho1 hn2 (below_size (uN HB)); replace HO280 := jkFR HO280 BK304 hb; replace HO287 := jkFR HO287 BK304 hb; replace HO294 := joFR HO294 BK304 hb hn2; replace HO303 := joFR HO303 BK304 hb hn2; replace BK270 := Aside0.mk (blk_below (g := gb270) (o := .cells #[.int .i64 a0_0, .slice A0_1 l0_1.length c0_1, .slice A0_2 l0_2.length c0_2] 25 (0, 0)) (by refine uW ?_; refine blk_far ?_ NB270_304.out _; refine uW ?_; refine blk_far ?_ NB270_304.out _; refine uW ?_; refine blk_far ?_ NB270_304.out _; refine uW ?_; exact BK270.out) hb); replace BK271 := Aside0.mk (blk_below (g := gb271) (o := .cells #[.int .i64 a1_0, .slice A1_1 l1_1.length c1_1, .slice A1_2 l1_2.length c1_2] 25 (0, 0)) (by refine uW ?_; refine blk_far ?_ NB271_304.out _; refine uW ?_; refine blk_far ?_ NB271_304.out _; refine uW ?_; refine blk_far ?_ NB271_304.out _; refine uW ?_; exact BK271.out) hb); replace BK296 := Aside0.mk (blk_below (g := gb296) (o := .cells #[.int .i64 t288, .slice Ao44 t289.length co44, .slice Ao46 t292.length co46] 29 (0, 0)) (by refine uW ?_; refine blk_far ?_ NB296_304.out _; refine uW ?_; refine blk_far ?_ NB296_304.out _; refine uW ?_; refine blk_far ?_ NB296_304.out _; refine uW ?_; exact BK296.out) hb); replace BK304 := Aside0.mk (blk_below (g := gb304) (o := .cells #[.int .i64 t297, .slice Ao56 t298.length co56, .slice Ao57 t301.length co57] 29 (0, 0)) (by refine uW ?_; refine blk_put (cs := #[.int .i64 t297, .slice Ao56 t298.length co56, .slice none 0 0]) ?_ 2 _ rfl; refine uW ?_; refine blk_put (cs := #[.int .i64 t297, .slice none 0 0, .slice none 0 0]) ?_ 1 _ rfl; refine uW ?_; refine blk_put (cs := #[.int .i64 0, .slice none 0 0, .slice none 0 0]) ?_ 0 _ rfl; refine uW ?_; exact BK304.out) hb); replace HB := Aside0.mk (below_step (uN HB) hb); clear hn2; (try clear hb); (try clear hb2); (try clear hk); (try clear hi); (try clear ho0); (try clear ho1)) | ((with_reducible refine gate_dst (N := 9) rfl ?_); refine box_event ?hg (N := 9) ?hd (cs := #[.int .i64 0, .slice none 0 0, .slice none 0 0]) (t := 29) ?hr ?_; (case hd => rfl); (case hg => rfl); (case hr => first | (go_simp; done) | (go_simp; rfl)); intro gb312 hg w61 hbox hb; replace HO277 := jkS HO277 hb; replace HO280 := jkR HO280 hb; replace HO284 := jkS HO284 hb; replace HO287 := jkR HO287 hb; replace HO291 := jkS HO291 hb; replace HO294 := jkR HO294 hb; replace HO300 := jkS HO300 hb; replace HO303 := jkR HO303 hb; replace HO308 := jkS HO308 hb; replace HO311 := jkR HO311 hb; have BK312 := Aside0.mk (hbox); have GW312 := nG HB hg; have GE312 := nG HB hg; have GI312 := gI GE312; replace HB := Aside0.mk (below_step (uN HB) hb); have NB270_312 := nL BK270 hg; have NB312_270 := nR BK270 hg; replace BK270 := kB BK270 hb; have NB271_312 := nL BK271 hg; have NB312_271 := nR BK271 hg; replace BK271 := kB BK271 hb; have NB296_312 := nL BK296 hg; have NB312_296 := nR BK296 hg; replace BK296 := kB BK296 hb; have NB304_312 := nL BK304 hg; have NB312_304 := nR BK304 hg; replace BK304 := kB BK304 hb; clear hb hbox hg; have hnb62 := NB312_270.out; have hnc62 := NB270_312.out; have hnb63 := NB312_271.out; have hnc63 := NB271_312.out; have hnb64 := NB312_296.out; have hnc64 := NB296_312.out; have hnb65 := NB312_304.out; have hnc65 := NB304_312.out; obtain ⟨hcz66_0, hcz66_1, hcz66_2, hfz66_0, hfz66_1, hfz66_2⟩ := ce3 BK312; obtain ⟨Ao67, co67, eo67⟩ := Kd.S_slice HO308.out; subst eo67; obtain ⟨Ao68, co68, eo68⟩ := Kd.R_slice HO311.out; subst eo68) | ((with_reducible refine gate_store (t := 29) (p := 9) rfl ?_); refine store_event (t := 29) (p := 9) (v := ?vo_w69) (w1 := (((w61.setCell ⟨gb312, 0, none⟩ (.int .i64 t305)).setCell ⟨gb312, 1, none⟩ (.slice Ao67 t306.length co67)).setCell ⟨gb312, 2, none⟩ (.slice Ao68 t309.length co68))) ?hg ?ho ?hn ?hr ?_; (case ho => rfl); (case hg => rfl); (case hn => rfl); (case hr => first | (go_simp; done) | (go_simp; rfl)); intro w69 hw; have n0_ := jsS HO277 BK312 hw; have n1_ := jsR HO280 BK312 hw; have n2_ := jsS HO284 BK312 hw; have n3_ := jsR HO287 BK312 hw; have n4_ := jsS HO291 BK312 hw; have n5_ := jsR HO294 BK312 hw; have n6_ := jsS HO300 BK312 hw; have n7_ := jsR HO303 BK312 hw; have n8_ := jsS HO308 BK312 hw; have n9_ := jsR HO311 BK312 hw; have n10_ : Aside0 (w69.heap[gb270]? = some (.cells #[.int .i64 a0_0, .slice A0_1 l0_1.length c0_1, .slice A0_2 l0_2.length c0_2] 25 (0, 0))) := ⟨(by rw [hw]; exact (by refine uW ?_; refine blk_far ?_ NB270_312.out _; refine uW ?_; refine blk_far ?_ NB270_312.out _; refine uW ?_; refine blk_far ?_ NB270_312.out _; refine uW ?_; exact BK270.out))⟩; have n11_ : Aside0 (w69.heap[gb271]? = some (.cells #[.int .i64 a1_0, .slice A1_1 l1_1.length c1_1, .slice A1_2 l1_2.length c1_2] 25 (0, 0))) := ⟨(by rw [hw]; exact (by refine uW ?_; refine blk_far ?_ NB271_312.out _; refine uW ?_; refine blk_far ?_ NB271_312.out _; refine uW ?_; refine blk_far ?_ NB271_312.out _; refine uW ?_; exact BK271.out))⟩; have n12_ : Aside0 (w69.heap[gb296]? = some (.cells #[.int .i64 t288, .slice Ao44 t289.length co44, .slice Ao46 t292.length co46] 29 (0, 0))) := ⟨(by rw [hw]; exact (by refine uW ?_; refine blk_far ?_ NB296_312.out _; refine uW ?_; refine blk_far ?_ NB296_312.out _; refine uW ?_; refine blk_far ?_ NB296_312.out _; refine uW ?_; exact BK296.out))⟩; have n13_ : Aside0 (w69.heap[gb304]? = some (.cells #[.int .i64 t297, .slice Ao56 t298.length co56, .slice Ao57 t301.length co57] 29 (0, 0))) := ⟨(by rw [hw]; exact (by refine uW ?_; refine blk_far ?_ NB304_312.out _; refine uW ?_; refine blk_far ?_ NB304_312.out _; refine uW ?_; refine blk_far ?_ NB304_312.out _; refine uW ?_; exact BK304.out))⟩; have n14_ : Aside0 (w69.heap[gb312]? = some (.cells #[.int .i64 t305, .slice Ao67 t306.length co67, .slice Ao68 t309.length co68] 29 (0, 0))) := ⟨(by rw [hw]; exact (by refine uW ?_; refine blk_put (cs := #[.int .i64 t305, .slice Ao67 t306.length co67, .slice none 0 0]) ?_ 2 _ rfl; refine uW ?_; refine blk_put (cs := #[.int .i64 t305, .slice none 0 0, .slice none 0 0]) ?_ 1 _ rfl; refine uW ?_; refine blk_put (cs := #[.int .i64 0, .slice none 0 0, .slice none 0 0]) ?_ 0 _ rfl; refine uW ?_; exact BK312.out))⟩; have n15_ : Aside0 (Below w.heap.size w w69) := ⟨(by rw [hw]; exact (uN HB))⟩; clear hw HO277 HO280 HO284 HO287 HO291 HO294 HO300 HO303 HO308 HO311 BK270 BK271 BK296 BK304 BK312 HB; have HO277 := n0_; have HO280 := n1_; have HO284 := n2_; have HO287 := n3_; have HO291 := n4_; have HO294 := n5_; have HO300 := n6_; have HO303 := n7_; have HO308 := n8_; have HO311 := n9_; have BK270 := n10_; have BK271 := n11_; have BK296 := n12_; have BK304 := n13_; have BK312 := n14_; have HB := n15_; clear n0_ n1_ n2_ n3_ n4_ n5_ n6_ n7_ n8_ n9_ n10_ n11_ n12_ n13_ n14_ n15_; obtain ⟨hcz70_0, hcz70_1, hcz70_2, hfz70_0, hfz70_1, hfz70_2⟩ := ce3 BK304; obtain ⟨hcz71_0, hcz71_1, hcz71_2, hfz71_0, hfz71_1, hfz71_2⟩ := ce3 BK312) | ((with_reducible refine gate_callee (f := 8) rfl ?_); refine goesL_ (some 42) rfl rfl Try.func8 (by kernel_rfl) rfl #[.agg #[.int .i64 t297, .slice Ao56 t298.length co56, .slice Ao57 t301.length co57], .agg #[.int .i64 t305, .slice Ao67 t306.length co67, .slice Ao68 t309.length co68]] rfl (by (try simp only [List.map_toArray, List.map_cons, List.map_nil]); first | done | rfl) ?_; (with_reducible refine (Fb.calls k t297 (fun k_ => n1 ≤ k_ ∧ k_ < n2) _ _ t298 (fun k_ => some k_ = (.slice Ao57 t301.length co57 : Value).ownBlock) _ _ t301 t305 (fun k_ => n2 ≤ k_) _ _ t306 (fun k_ => some k_ = (.slice Ao68 t309.length co68 : Value).ownBlock) _ _ t309 t313 t314 t317 t320 _ ?side1 ?side2 ?side3 ?side4 A24.out).mono ?_); (case side1 => exact Kd.S_V HO300.out); (case side2 => exact Kd.R_V (Kd.R_tight rfl HO303.out)); (case side3 => exact Kd.S_V HO308.out); (case side4 => exact Kd.R_V (Kd.R_tight rfl HO311.out)); rintro e w72 ⟨v315, v318, rfl, ho0, ho1, hb⟩; refine ⟨_, rfl, ?_⟩; obtain ⟨n3, hn3⟩ := kg_size hb; have HO316 := jcS ho0 hn3 (below_size (uN HB)); replace HO277 := jkS HO277 hb; replace HO284 := jkS HO284 hb; replace HO291 := joS HO291 hb hn3; replace HO300 := joS HO300 hb hn3; replace HO308 := joS HO308 hb hn3; have HO319 := jcR ho1 hn3 (below_size (uN HB)); replace HO280 := jkR HO280 hb; replace HO287 := jkR HO287 hb; replace HO294 := joR HO294 hb hn3; replace HO303 := joR HO303 hb hn3; replace HO311 := joR HO311 hb hn3; replace BK270 := kB BK270 hb; replace BK271 := kB BK271 hb; replace BK296 := kB BK296 hb; replace BK304 := kB BK304 hb; replace BK312 := kB BK312 hb; replace HB := Aside0.mk (below_step (uN HB) hb); clear hn3; (try clear hb); (try clear hb2); (try clear hk); (try clear hi); (try clear ho0); (try clear ho1)) | ((with_reducible refine gate_dst (N := 10) rfl ?_); refine box_event ?hg (N := 10) ?hd (cs := #[.int .i64 0, .slice none 0 0, .slice none 0 0]) (t := 29) ?hr ?_; (case hd => rfl); (case hg => rfl); (case hr => first | (go_simp; done) | (go_simp; rfl)); intro gb321 hg w73 hbox hb; replace HO277 := jkS HO277 hb; replace HO280 := jkR HO280 hb; replace HO284 := jkS HO284 hb; replace HO287 := jkR HO287 hb; replace HO291 := jkS HO291 hb; replace HO294 := jkR HO294 hb; replace HO300 := jkS HO300 hb; replace HO303 := jkR HO303 hb; replace HO308 := jkS HO308 hb; replace HO311 := jkR HO311 hb; replace HO316 := jkS HO316 hb; replace HO319 := jkR HO319 hb; have BK321 := Aside0.mk (hbox); have GW321 := nG HB hg; have GE321 := nG HB hg; have GI321 := gI GE321; replace HB := Aside0.mk (below_step (uN HB) hb); have NB270_321 := nL BK270 hg; have NB321_270 := nR BK270 hg; replace BK270 := kB BK270 hb; have NB271_321 := nL BK271 hg; have NB321_271 := nR BK271 hg; replace BK271 := kB BK271 hb; have NB296_321 := nL BK296 hg; have NB321_296 := nR BK296 hg; replace BK296 := kB BK296 hb; have NB304_321 := nL BK304 hg; have NB321_304 := nR BK304 hg; replace BK304 := kB BK304 hb; have NB312_321 := nL BK312 hg; have NB321_312 := nR BK312 hg; replace BK312 := kB BK312 hb; clear hb hbox hg; have hnb74 := NB321_270.out; have hnc74 := NB270_321.out; have hnb75 := NB321_271.out; have hnc75 := NB271_321.out; have hnb76 := NB321_296.out; have hnc76 := NB296_321.out; have hnb77 := NB321_304.out; have hnc77 := NB304_321.out; have hnb78 := NB321_312.out; have hnc78 := NB312_321.out; obtain ⟨hcz79_0, hcz79_1, hcz79_2, hfz79_0, hfz79_1, hfz79_2⟩ := ce3 BK321; obtain ⟨Ao80, co80, eo80⟩ := Kd.S_slice HO316.out; subst eo80; obtain ⟨Ao81, co81, eo81⟩ := Kd.R_slice HO319.out; subst eo81))
 (try simp only [Act.put, setIfInBounds_toArray, set_cons_zero, set_cons_succ])
 go_cut [53] (fun v53 wc => ∃ (kq : Nat) (x53_24 : Bool), v53 = .bool x53_24 ∧ Aside0 (Fc.j0 kq t295 t320 x53_24 a0_0 l0_1 l0_2 a1_0 l1_1 l1_2 t288 t289 t292 t297 t298 t301 t305 t306 t309 t313 t314 t317 = some r) ∧ Aside0 (kq ≤ k) ∧ Aside0 (Kd.S k53 53 wc w.heap.size (fun k_ => ((True ∧ k_ < n1) ∧ k_ < n2) ∧ k_ < n3) (.slice Ao44 t289.length co44) t289) ∧ Aside0 (Kd.R Kd.bool 4 wc w.heap.size (fun k_ => ((True ∧ k_ < n1) ∧ k_ < n2) ∧ k_ < n3) (.slice Ao46 t292.length co46) t292) ∧ Aside0 (Kd.S k53 53 wc w.heap.size (fun k_ => (n1 ≤ k_ ∧ k_ < n2) ∧ k_ < n3) (.slice Ao56 t298.length co56) t298) ∧ Aside0 (Kd.R Kd.bool 4 wc w.heap.size (fun k_ => (n1 ≤ k_ ∧ k_ < n2) ∧ k_ < n3) (.slice Ao57 t301.length co57) t301) ∧ Aside0 (Kd.S k53 53 wc w.heap.size (fun k_ => n2 ≤ k_ ∧ k_ < n3) (.slice Ao67 t306.length co67) t306) ∧ Aside0 (Kd.R Kd.bool 4 wc w.heap.size (fun k_ => n2 ≤ k_ ∧ k_ < n3) (.slice Ao68 t309.length co68) t309) ∧ Aside0 (Kd.S k53 53 wc w.heap.size (fun k_ => n3 ≤ k_) (.slice Ao80 t314.length co80) t314) ∧ Aside0 (Kd.R Kd.bool 4 wc w.heap.size (fun k_ => n3 ≤ k_) (.slice Ao81 t317.length co81) t317) ∧ Aside0 (wc.heap[gb270]? = some (.cells #[.int .i64 a0_0, (.slice A0_1 l0_1.length c0_1), (.slice A0_2 l0_2.length c0_2)] 25 (0, 0))) ∧ Aside0 (wc.heap[gb271]? = some (.cells #[.int .i64 a1_0, (.slice A1_1 l1_1.length c1_1), (.slice A1_2 l1_2.length c1_2)] 25 (0, 0))) ∧ Aside0 (wc.heap[gb296]? = some (.cells #[.int .i64 t288, (.slice Ao44 t289.length co44), (.slice Ao46 t292.length co46)] 29 (0, 0))) ∧ Aside0 (wc.heap[gb304]? = some (.cells #[.int .i64 t297, (.slice Ao56 t298.length co56), (.slice Ao57 t301.length co57)] 29 (0, 0))) ∧ Aside0 (wc.heap[gb312]? = some (.cells #[.int .i64 t305, (.slice Ao67 t306.length co67), (.slice Ao68 t309.length co68)] 29 (0, 0))) ∧ Aside0 (wc.heap[gb321]? = some (.cells #[.int .i64 t313, (.slice Ao80 t314.length co80), (.slice Ao81 t317.length co81)] 29 (0, 0))) ∧ Aside0 (Below w.heap.size w wc))
 case first =>
  have H := HC25.out
  clear HC25
  replace H := Option.bind_eq_some_iff.mp H
  obtain ⟨t322, A820, H⟩ := H
  try dsimp only at H
  have A82 := Aside0.mk A820
  clear A820
  by_cases c83 : t322 = true
  ·
   subst c83
   rw [if_pos rfl] at H
   have H' := Aside0.mk H
   clear H
   have hnb84 := NB321_270.out
   have hnc84 := NB270_321.out
   have hnb85 := NB321_271.out
   have hnc85 := NB271_321.out
   have hnb86 := NB321_296.out
   have hnc86 := NB296_321.out
   have hnb87 := NB321_304.out
   have hnc87 := NB304_321.out
   have hnb88 := NB321_312.out
   have hnc88 := NB312_321.out
   obtain ⟨hcz89_0, hcz89_1, hcz89_2, hfz89_0, hfz89_1, hfz89_2⟩ := ce3 BK321
   have hnb90 := NB296_270.out
   have hnc90 := NB270_296.out
   have hnb91 := NB296_271.out
   have hnc91 := NB271_296.out
   have hnb92 := NB296_304.out
   have hnc92 := NB304_296.out
   have hnb93 := NB296_312.out
   have hnc93 := NB312_296.out
   obtain ⟨hcz94_0, hcz94_1, hcz94_2, hfz94_0, hfz94_1, hfz94_2⟩ := ce3 BK296
   go_wp2_with (first | ((with_reducible refine gate_callee (f := 9) rfl ?_); refine goesL_ (some 47) rfl rfl Try.func9 (by kernel_rfl) rfl #[.agg #[.int .i64 t313, .slice Ao80 t314.length co80, .slice Ao81 t317.length co81], .agg #[.int .i64 t288, .slice Ao44 t289.length co44, .slice Ao46 t292.length co46]] rfl (by (try simp only [List.map_toArray, List.map_cons, List.map_nil]); first | done | rfl) ?_; (with_reducible refine (Fj.calls k t313 _ _ t314 _ _ t317 t288 _ _ t289 _ _ t292 true _ ?side1 ?side2 ?side3 ?side4 ?side5 ?side6 ?side7 ?side8 A82.out).mono ?_); (case side1 => exact jdfSS HO316 BK321); (case side2 => exact (Kd.S_reads' HO316.out).2.1); (case side3 => exact jdfRR HO319 BK321); (case side4 => exact (Kd.R_reads' HO319.out).2.1); (case side5 => exact jdfSS HO291 BK321); (case side6 => exact (Kd.S_reads' HO291.out).2.1); (case side7 => exact jdfRR HO294 BK321); (case side8 => exact (Kd.R_reads' HO294.out).2.1); rintro e w95 ⟨rfl, hb⟩; refine ⟨_, rfl, ?_⟩; replace HO277 := jkFS HO277 BK321 hb; replace HO280 := jkFR HO280 BK321 hb; replace HO284 := jkFS HO284 BK321 hb; replace HO287 := jkFR HO287 BK321 hb; replace HO291 := jkFS HO291 BK321 hb; replace HO294 := jkFR HO294 BK321 hb; replace HO300 := jkFS HO300 BK321 hb; replace HO303 := jkFR HO303 BK321 hb; replace HO308 := jkFS HO308 BK321 hb; replace HO311 := jkFR HO311 BK321 hb; replace HO316 := jkFS HO316 BK321 hb; replace HO319 := jkFR HO319 BK321 hb; replace BK270 := Aside0.mk (blk_below (g := gb270) (o := .cells #[.int .i64 a0_0, .slice A0_1 l0_1.length c0_1, .slice A0_2 l0_2.length c0_2] 25 (0, 0)) (by refine uW ?_; refine blk_far ?_ NB270_321.out _; refine uW ?_; refine blk_far ?_ NB270_321.out _; refine uW ?_; refine blk_far ?_ NB270_321.out _; refine uW ?_; exact BK270.out) hb); replace BK271 := Aside0.mk (blk_below (g := gb271) (o := .cells #[.int .i64 a1_0, .slice A1_1 l1_1.length c1_1, .slice A1_2 l1_2.length c1_2] 25 (0, 0)) (by refine uW ?_; refine blk_far ?_ NB271_321.out _; refine uW ?_; refine blk_far ?_ NB271_321.out _; refine uW ?_; refine blk_far ?_ NB271_321.out _; refine uW ?_; exact BK271.out) hb); replace BK296 := Aside0.mk (blk_below (g := gb296) (o := .cells #[.int .i64 t288, .slice Ao44 t289.length co44, .slice Ao46 t292.length co46] 29 (0, 0)) (by refine uW ?_; refine blk_far ?_ NB296_321.out _; refine uW ?_; refine blk_far ?_ NB296_321.out _; refine uW ?_; refine blk_far ?_ NB296_321.out _; refine uW ?_; exact BK296.out) hb); replace BK304 := Aside0.mk (blk_below (g := gb304) (o := .cells #[.int .i64 t297, .slice Ao56 t298.length co56, .slice Ao57 t301.length co57] 29 (0, 0)) (by refine uW ?_; refine blk_far ?_ NB304_321.out _; refine uW ?_; refine blk_far ?_ NB304_321.out _; refine uW ?_; refine blk_far ?_ NB304_321.out _; refine uW ?_; exact BK304.out) hb); replace BK312 := Aside0.mk (blk_below (g := gb312) (o := .cells #[.int .i64 t305, .slice Ao67 t306.length co67, .slice Ao68 t309.length co68] 29 (0, 0)) (by refine uW ?_; refine blk_far ?_ NB312_321.out _; refine uW ?_; refine blk_far ?_ NB312_321.out _; refine uW ?_; refine blk_far ?_ NB312_321.out _; refine uW ?_; exact BK312.out) hb); replace BK321 := Aside0.mk (blk_below (g := gb321) (o := .cells #[.int .i64 t313, .slice Ao80 t314.length co80, .slice Ao81 t317.length co81] 29 (0, 0)) (by refine uW ?_; refine blk_put (cs := #[.int .i64 t313, .slice Ao80 t314.length co80, .slice none 0 0]) ?_ 2 _ rfl; refine uW ?_; refine blk_put (cs := #[.int .i64 t313, .slice none 0 0, .slice none 0 0]) ?_ 1 _ rfl; refine uW ?_; refine blk_put (cs := #[.int .i64 0, .slice none 0 0, .slice none 0 0]) ?_ 0 _ rfl; refine uW ?_; exact BK321.out) hb); replace HB := Aside0.mk (below_step (uN HB) hb); (try clear hb); (try clear hb2); (try clear hk); (try clear hi)))
   go_meet
   case rel => exact ⟨_, ((t320 != t295)), (by first | rfl | (simp; done) | (simp [*]; done)), H', ⟨by first | omega | exact Nat.le_refl _⟩, ⟨by exact jqS HO291⟩, ⟨by exact uR HO294⟩, ⟨by exact jqS HO300⟩, ⟨by exact uR HO303⟩, ⟨by exact jqS HO308⟩, ⟨by exact uR HO311⟩, ⟨by exact jqS HO316⟩, ⟨by exact uR HO319⟩, ⟨by refine uW ?_; exact BK270.out⟩, ⟨by refine uW ?_; exact BK271.out⟩, ⟨by refine uW ?_; exact BK296.out⟩, ⟨by refine uW ?_; exact BK304.out⟩, ⟨by refine uW ?_; exact BK312.out⟩, ⟨by refine uW ?_; exact BK321.out⟩, ⟨uN HB⟩⟩
  replace c83 := Bool.eq_false_iff.mpr c83
  subst c83
  rw [if_neg (show ¬ (false = true) by decide)] at H
  have H' := Aside0.mk H
  clear H
  have hnb96 := NB321_270.out
  have hnc96 := NB270_321.out
  have hnb97 := NB321_271.out
  have hnc97 := NB271_321.out
  have hnb98 := NB321_296.out
  have hnc98 := NB296_321.out
  have hnb99 := NB321_304.out
  have hnc99 := NB304_321.out
  have hnb100 := NB321_312.out
  have hnc100 := NB312_321.out
  obtain ⟨hcz101_0, hcz101_1, hcz101_2, hfz101_0, hfz101_1, hfz101_2⟩ := ce3 BK321
  have hnb102 := NB296_270.out
  have hnc102 := NB270_296.out
  have hnb103 := NB296_271.out
  have hnc103 := NB271_296.out
  have hnb104 := NB296_304.out
  have hnc104 := NB304_296.out
  have hnb105 := NB296_312.out
  have hnc105 := NB312_296.out
  obtain ⟨hcz106_0, hcz106_1, hcz106_2, hfz106_0, hfz106_1, hfz106_2⟩ := ce3 BK296
  go_wp2_with (first | ((with_reducible refine gate_callee (f := 9) rfl ?_); refine goesL_ (some 47) rfl rfl Try.func9 (by kernel_rfl) rfl #[.agg #[.int .i64 t313, .slice Ao80 t314.length co80, .slice Ao81 t317.length co81], .agg #[.int .i64 t288, .slice Ao44 t289.length co44, .slice Ao46 t292.length co46]] rfl (by (try simp only [List.map_toArray, List.map_cons, List.map_nil]); first | done | rfl) ?_; (with_reducible refine (Fj.calls k t313 _ _ t314 _ _ t317 t288 _ _ t289 _ _ t292 false _ ?side1 ?side2 ?side3 ?side4 ?side5 ?side6 ?side7 ?side8 A82.out).mono ?_); (case side1 => exact jdfSS HO316 BK321); (case side2 => exact (Kd.S_reads' HO316.out).2.1); (case side3 => exact jdfRR HO319 BK321); (case side4 => exact (Kd.R_reads' HO319.out).2.1); (case side5 => exact jdfSS HO291 BK321); (case side6 => exact (Kd.S_reads' HO291.out).2.1); (case side7 => exact jdfRR HO294 BK321); (case side8 => exact (Kd.R_reads' HO294.out).2.1); rintro e w107 ⟨rfl, hb⟩; refine ⟨_, rfl, ?_⟩; replace HO277 := jkFS HO277 BK321 hb; replace HO280 := jkFR HO280 BK321 hb; replace HO284 := jkFS HO284 BK321 hb; replace HO287 := jkFR HO287 BK321 hb; replace HO291 := jkFS HO291 BK321 hb; replace HO294 := jkFR HO294 BK321 hb; replace HO300 := jkFS HO300 BK321 hb; replace HO303 := jkFR HO303 BK321 hb; replace HO308 := jkFS HO308 BK321 hb; replace HO311 := jkFR HO311 BK321 hb; replace HO316 := jkFS HO316 BK321 hb; replace HO319 := jkFR HO319 BK321 hb; replace BK270 := Aside0.mk (blk_below (g := gb270) (o := .cells #[.int .i64 a0_0, .slice A0_1 l0_1.length c0_1, .slice A0_2 l0_2.length c0_2] 25 (0, 0)) (by refine uW ?_; refine blk_far ?_ NB270_321.out _; refine uW ?_; refine blk_far ?_ NB270_321.out _; refine uW ?_; refine blk_far ?_ NB270_321.out _; refine uW ?_; exact BK270.out) hb); replace BK271 := Aside0.mk (blk_below (g := gb271) (o := .cells #[.int .i64 a1_0, .slice A1_1 l1_1.length c1_1, .slice A1_2 l1_2.length c1_2] 25 (0, 0)) (by refine uW ?_; refine blk_far ?_ NB271_321.out _; refine uW ?_; refine blk_far ?_ NB271_321.out _; refine uW ?_; refine blk_far ?_ NB271_321.out _; refine uW ?_; exact BK271.out) hb); replace BK296 := Aside0.mk (blk_below (g := gb296) (o := .cells #[.int .i64 t288, .slice Ao44 t289.length co44, .slice Ao46 t292.length co46] 29 (0, 0)) (by refine uW ?_; refine blk_far ?_ NB296_321.out _; refine uW ?_; refine blk_far ?_ NB296_321.out _; refine uW ?_; refine blk_far ?_ NB296_321.out _; refine uW ?_; exact BK296.out) hb); replace BK304 := Aside0.mk (blk_below (g := gb304) (o := .cells #[.int .i64 t297, .slice Ao56 t298.length co56, .slice Ao57 t301.length co57] 29 (0, 0)) (by refine uW ?_; refine blk_far ?_ NB304_321.out _; refine uW ?_; refine blk_far ?_ NB304_321.out _; refine uW ?_; refine blk_far ?_ NB304_321.out _; refine uW ?_; exact BK304.out) hb); replace BK312 := Aside0.mk (blk_below (g := gb312) (o := .cells #[.int .i64 t305, .slice Ao67 t306.length co67, .slice Ao68 t309.length co68] 29 (0, 0)) (by refine uW ?_; refine blk_far ?_ NB312_321.out _; refine uW ?_; refine blk_far ?_ NB312_321.out _; refine uW ?_; refine blk_far ?_ NB312_321.out _; refine uW ?_; exact BK312.out) hb); replace BK321 := Aside0.mk (blk_below (g := gb321) (o := .cells #[.int .i64 t313, .slice Ao80 t314.length co80, .slice Ao81 t317.length co81] 29 (0, 0)) (by refine uW ?_; refine blk_put (cs := #[.int .i64 t313, .slice Ao80 t314.length co80, .slice none 0 0]) ?_ 2 _ rfl; refine uW ?_; refine blk_put (cs := #[.int .i64 t313, .slice none 0 0, .slice none 0 0]) ?_ 1 _ rfl; refine uW ?_; refine blk_put (cs := #[.int .i64 0, .slice none 0 0, .slice none 0 0]) ?_ 0 _ rfl; refine uW ?_; exact BK321.out) hb); replace HB := Aside0.mk (below_step (uN HB) hb); (try clear hb); (try clear hb2); (try clear hk); (try clear hi)))
  go_meet
  case rel => exact ⟨_, (true), (by first | rfl | (simp; done) | (simp [*]; done)), H', ⟨by first | omega | exact Nat.le_refl _⟩, ⟨by exact jqS HO291⟩, ⟨by exact uR HO294⟩, ⟨by exact jqS HO300⟩, ⟨by exact uR HO303⟩, ⟨by exact jqS HO308⟩, ⟨by exact uR HO311⟩, ⟨by exact jqS HO316⟩, ⟨by exact uR HO319⟩, ⟨by refine uW ?_; exact BK270.out⟩, ⟨by refine uW ?_; exact BK271.out⟩, ⟨by refine uW ?_; exact BK296.out⟩, ⟨by refine uW ?_; exact BK304.out⟩, ⟨by refine uW ?_; exact BK312.out⟩, ⟨by refine uW ?_; exact BK321.out⟩, ⟨uN HB⟩⟩
 case rest =>
  clear HC25
  try clear c1
  try clear p2
  try clear c4
  try clear c5
  try clear c6
  try clear c7
  try clear c8
  try clear c9
  try clear c10
  try clear c48
  try clear c52
  try clear c53
  try clear c54
  try clear c58
  try clear c62
  try clear c63
  try clear c64
  try clear c65
  try clear c74
  try clear c75
  try clear c76
  try clear c77
  try clear c78
  try clear c83
  try clear c84
  try clear c85
  try clear c86
  try clear c87
  try clear c88
  try clear c90
  try clear c91
  try clear c92
  try clear c93
  try clear c96
  try clear c97
  try clear c98
  try clear c99
  try clear c100
  try clear c102
  try clear c103
  try clear c104
  try clear c105
  try clear hcz101_0
  try clear hcz101_1
  try clear hcz101_2
  try clear hcz106_0
  try clear hcz106_1
  try clear hcz106_2
  try clear hcz49_0
  try clear hcz49_1
  try clear hcz49_2
  try clear hcz55_0
  try clear hcz55_1
  try clear hcz55_2
  try clear hcz59_0
  try clear hcz59_1
  try clear hcz59_2
  try clear hcz66_0
  try clear hcz66_1
  try clear hcz66_2
  try clear hcz70_0
  try clear hcz70_1
  try clear hcz70_2
  try clear hcz71_0
  try clear hcz71_1
  try clear hcz71_2
  try clear hcz79_0
  try clear hcz79_1
  try clear hcz79_2
  try clear hcz89_0
  try clear hcz89_1
  try clear hcz89_2
  try clear hcz94_0
  try clear hcz94_1
  try clear hcz94_2
  try clear hfz101_0
  try clear hfz101_1
  try clear hfz101_2
  try clear hfz106_0
  try clear hfz106_1
  try clear hfz106_2
  try clear hfz49_0
  try clear hfz49_1
  try clear hfz49_2
  try clear hfz55_0
  try clear hfz55_1
  try clear hfz55_2
  try clear hfz59_0
  try clear hfz59_1
  try clear hfz59_2
  try clear hfz66_0
  try clear hfz66_1
  try clear hfz66_2
  try clear hfz70_0
  try clear hfz70_1
  try clear hfz70_2
  try clear hfz71_0
  try clear hfz71_1
  try clear hfz71_2
  try clear hfz79_0
  try clear hfz79_1
  try clear hfz79_2
  try clear hfz89_0
  try clear hfz89_1
  try clear hfz89_2
  try clear hfz94_0
  try clear hfz94_1
  try clear hfz94_2
  obtain ⟨kq, x53_24, rfl, HA, HJ24, HO_297001, HO_297002, HO_305001, HO_305002, HO_313001, HO_313002, HO_322001, HO_322002, BK270, BK271, BK296, BK304, BK312, BK321, HB⟩ := hcut
  cases kq with
  | zero => exact absurd HA.out (by simp [Fc.j0])
  | succ kj24 =>
   have H := HA.out
   clear HA
   simp only [Fc.j0] at H
   by_cases c108 : x53_24 = true
   ·
    subst c108
    rw [if_pos rfl] at H
    obtain rfl := Option.some.inj H
    go_wp2
    go_ret
    exact ⟨by first | rfl | (simp [errW_none, errW_some] <;> rfl) | (simp [*, errW_none, errW_some] <;> rfl), uN HB⟩
   replace c108 := Bool.eq_false_iff.mpr c108
   subst c108
   rw [if_neg (show ¬ (false = true) by decide)] at H
   replace H := Option.bind_eq_some_iff.mp H
   obtain ⟨⟨t323, t324, t327⟩, A1090, H⟩ := H
   try dsimp only at H
   have A109 := Aside0.mk A1090
   clear A1090
   replace H := Option.bind_eq_some_iff.mp H
   obtain ⟨t330, A1100, H⟩ := H
   try dsimp only at H
   have A110 := Aside0.mk A1100
   clear A1100
   by_cases c111 : t330 = true
   ·
    subst c111
    rw [if_pos rfl] at H
    replace H := Option.bind_eq_some_iff.mp H
    obtain ⟨⟨t331, t332, t335⟩, A1120, H⟩ := H
    try dsimp only at H
    have A112 := Aside0.mk A1120
    clear A1120
    replace H := Option.bind_eq_some_iff.mp H
    obtain ⟨t338, A1130, H⟩ := H
    try dsimp only at H
    have A113 := Aside0.mk A1130
    clear A1130
    by_cases c114 : t338 = true
    ·
     subst c114
     rw [if_pos rfl] at H
     replace H := Option.bind_eq_some_iff.mp H
     obtain ⟨⟨t339, t340, t341⟩, A1150, H⟩ := H
     try dsimp only at H
     have A115 := Aside0.mk A1150
     clear A1150
     replace H := Option.bind_eq_some_iff.mp H
     obtain ⟨⟨t342, t343, t344⟩, A1160, H⟩ := H
     try dsimp only at H
     have A116 := Aside0.mk A1160
     clear A1160
     have HC117 := Aside0.mk H
     clear H
     try go_wp2
     replace HO_297001 := Aside0.mk (Kd.S_drew HO_297001.out)
     replace HO_297002 := Aside0.mk (Kd.R_drew HO_297002.out)
     replace HO_305001 := Aside0.mk (Kd.S_drew HO_305001.out)
     replace HO_305002 := Aside0.mk (Kd.R_drew HO_305002.out)
     replace HO_313001 := Aside0.mk (Kd.S_drew HO_313001.out)
     replace HO_313002 := Aside0.mk (Kd.R_drew HO_313002.out)
     replace HO_322001 := Aside0.mk (Kd.S_drew HO_322001.out)
     replace HO_322002 := Aside0.mk (Kd.R_drew HO_322002.out)
     replace BK270 := Aside0.mk (blk_drew BK270.out)
     replace BK271 := Aside0.mk (blk_drew BK271.out)
     replace BK296 := Aside0.mk (blk_drew BK296.out)
     replace BK304 := Aside0.mk (blk_drew BK304.out)
     replace BK312 := Aside0.mk (blk_drew BK312.out)
     replace BK321 := Aside0.mk (blk_drew BK321.out)
     replace HB := Aside0.mk (below_drew1 HB.out)
     refine start_ (n := 5) (S := fun w' => w'.cell? ⟨gb304, 0, none⟩ = some (.int .i64 t297) ∧ w'.cell? ⟨gb304, 1, none⟩ = some (.slice Ao56 t298.length co56) ∧ w'.cell? ⟨gb304, 2, none⟩ = some (.slice Ao57 t301.length co57) ∧ w'.cell? ⟨gb270, 0, none⟩ = some (.int .i64 a0_0) ∧ w'.cell? ⟨gb270, 1, none⟩ = some (.slice A0_1 l0_1.length c0_1) ∧ w'.cell? ⟨gb270, 2, none⟩ = some (.slice A0_2 l0_2.length c0_2)) (ds := []) #[false, false, false, false, false] (by kernel_rfl) rfl rfl ⟨bc BK304 0, bc BK304 1, bc BK304 2, bc BK270 0, bc BK270 1, bc BK270 2⟩ (fun hHeld => ?_)
     generalize wc.drew = w118 at HO_297001 HO_297002 HO_305001 HO_305002 HO_313001 HO_313002 HO_322001 HO_322002 BK270 BK271 BK296 BK304 BK312 BK321 HB hHeld ⊢
     refine take_ (i := 0) (N := some 54) (v := ?_) (a' := ?_) #[true, false, false, false, false] rfl rfl (by kernel_rfl) (fun _ _ _ h => h) (Or.inl ⟨by rfl, ?_⟩) hHeld ?_ ?_
     rotate_left
     ·
      rintro w' ⟨s0, s1, s2, s3, s4, s5⟩
      go_simp
      with_reducible rfl
     rotate_left
     ·
      simp only [Act.put, setIfInBounds_toArray, set_cons_zero, set_cons_succ, i64_w, i32_w]
      rfl
     refine take_ (i := 1) (N := some 55) (v := ?_) (a' := ?_) #[true, true, false, false, false] rfl rfl (by kernel_rfl) (fun _ _ _ h => h) (Or.inl ⟨by rfl, ?_⟩) hHeld ?_ ?_
     rotate_left
     ·
      rintro w' ⟨s0, s1, s2, s3, s4, s5⟩
      go_simp
      with_reducible rfl
     rotate_left
     ·
      simp only [Act.put, setIfInBounds_toArray, set_cons_zero, set_cons_succ, i64_w, i32_w]
      rfl
     refine one_ (i := 2) (N := some 56) #[true, true, true, false, false] rfl rfl (by kernel_rfl) (by decide) (fun K hK => ?_)
     refine goes_ Try.func7 (by kernel_rfl) rfl #[.agg #[.int .i64 a0_0, .slice A0_1 l0_1.length c0_1, .slice A0_2 l0_2.length c0_2]] (by rfl) rfl rfl (by (try simp only [List.map_toArray, List.map_cons, List.map_nil]); first | done | rfl) ?_
     with_reducible refine (Ff.calls kj24 a0_0 _ _ l0_1 _ _ l0_2 t323 t324 t327 _ ?side1 ?side2 ?side3 ?side4 A109.out).mono ?_
     (case side1 => exact uC HR0_1 HB)
     (case side2 => exact HC0_1.out)
     (case side3 => exact uC HR0_2 HB)
     (case side4 => exact HC0_2.out)
     rintro e w119 ⟨v325, v328, rfl, ho0, ho1, hb⟩
     refine ⟨_, rfl, ?_⟩
     have HO326 := jtS ho0 (below_size (uN HB))
     replace HO_297001 := jkS HO_297001 hb
     replace HO_305001 := jkS HO_305001 hb
     replace HO_313001 := jkS HO_313001 hb
     replace HO_322001 := jkS HO_322001 hb
     have HO329 := jtR ho1 (below_size (uN HB))
     replace HO_297002 := jkR HO_297002 hb
     replace HO_305002 := jkR HO_305002 hb
     replace HO_313002 := jkR HO_313002 hb
     replace HO_322002 := jkR HO_322002 hb
     replace BK270 := kB BK270 hb
     replace BK271 := kB BK271 hb
     replace BK296 := kB BK296 hb
     replace BK304 := kB BK304 hb
     replace BK312 := kB BK312 hb
     replace BK321 := kB BK321 hb
     replace HB := Aside0.mk (below_step (uN HB) hb)
     (try clear hb)
     (try clear hb2)
     (try clear hk)
     (try clear hi)
     (try clear ho0)
     (try clear ho1)
     obtain ⟨Ao120, co120, eo120⟩ := Kd.S_slice HO326.out
     (first | subst eo120 | (injection eo120 with f1_ f2_ f3_; have f4_ := f1_.symm; have f5_ := f3_.symm; clear f1_ f2_ f3_; subst f4_; subst f5_))
     obtain ⟨Ao121, co121, eo121⟩ := Kd.R_slice HO329.out
     (first | subst eo121 | (injection eo121 with f1_ f2_ f3_; have f4_ := f1_.symm; have f5_ := f3_.symm; clear f1_ f2_ f3_; subst f4_; subst f5_))
     refine hK.out _ _ ⟨bc BK304 0, bc BK304 1, bc BK304 2, bc BK270 0, bc BK270 1, bc BK270 2⟩ (fun hHeld => ?_)
     clear hK K
     refine norm_ (a' := ?_) ?_ ?_
     rotate_left
     ·
      show Act.put _ (some 56) _ = _
      simp only [Act.put, setIfInBounds_toArray, set_cons_zero, set_cons_succ, i64_w, i32_w]
      rfl
     refine one_ (i := 3) (N := some 57) #[true, true, true, true, false] rfl rfl (by kernel_rfl) (by decide) (fun K hK => ?_)
     refine goes_ Try.func9 (by kernel_rfl) rfl #[.agg #[.int .i64 t297, .slice Ao56 t298.length co56, .slice Ao57 t301.length co57], .agg #[.int .i64 t323, .slice Ao120 t324.length co120, .slice Ao121 t327.length co121]] (by rfl) rfl rfl (by (try simp only [List.map_toArray, List.map_cons, List.map_nil]); first | done | rfl) ?_
     with_reducible refine (Fj.calls kj24 t297 _ _ t298 _ _ t301 t323 _ _ t324 _ _ t327 true _ ?side1 ?side2 ?side3 ?side4 ?side5 ?side6 ?side7 ?side8 A110.out).mono ?_
     (case side1 => exact jdS HO_305001)
     (case side2 => exact (Kd.S_reads' HO_305001.out).2.1)
     (case side3 => exact uD HO_305002)
     (case side4 => exact (Kd.R_reads' HO_305002.out).2.1)
     (case side5 => exact jdS HO326)
     (case side6 => exact (Kd.S_reads' HO326.out).2.1)
     (case side7 => exact uD HO329)
     (case side8 => exact (Kd.R_reads' HO329.out).2.1)
     rintro e w122 ⟨rfl, hb⟩
     refine ⟨_, rfl, ?_⟩
     replace HO_297001 := jkS HO_297001 hb
     replace HO_297002 := jkR HO_297002 hb
     replace HO_305001 := jkS HO_305001 hb
     replace HO_305002 := jkR HO_305002 hb
     replace HO_313001 := jkS HO_313001 hb
     replace HO_313002 := jkR HO_313002 hb
     replace HO_322001 := jkS HO_322001 hb
     replace HO_322002 := jkR HO_322002 hb
     replace HO326 := jkS HO326 hb
     replace HO329 := jkR HO329 hb
     replace BK270 := kB BK270 hb
     replace BK271 := kB BK271 hb
     replace BK296 := kB BK296 hb
     replace BK304 := kB BK304 hb
     replace BK312 := kB BK312 hb
     replace BK321 := kB BK321 hb
     replace HB := Aside0.mk (below_step (uN HB) hb)
     (try clear hb)
     (try clear hb2)
     (try clear hk)
     (try clear hi)
     refine hK.out _ _ ⟨bc BK304 0, bc BK304 1, bc BK304 2, bc BK270 0, bc BK270 1, bc BK270 2⟩ (fun hHeld => ?_)
     clear hK K
     refine norm_ (a' := ?_) ?_ ?_
     rotate_left
     ·
      show Act.put _ (some 57) _ = _
      simp only [Act.put, setIfInBounds_toArray, set_cons_zero, set_cons_succ, i64_w, i32_w]
      rfl
     refine pure_ (i := 4) (N := some 58) (v := ?_) (a' := ?_) #[true, true, true, true, true] rfl rfl (by kernel_rfl) (fun _ _ _ h => h) (Or.inl ⟨by rfl, ?_⟩) ?_ ?_
     rotate_left
     ·
      intro w'
      go_simp
      with_reducible rfl
     rotate_left
     ·
      simp only [Act.put, setIfInBounds_toArray, set_cons_zero, set_cons_succ, i64_w, i32_w]
      rfl
     refine done_ (by kernel_rfl) ?_
     try go_wp2
     replace HO_297001 := Aside0.mk (Kd.S_drew HO_297001.out)
     replace HO_297002 := Aside0.mk (Kd.R_drew HO_297002.out)
     replace HO_305001 := Aside0.mk (Kd.S_drew HO_305001.out)
     replace HO_305002 := Aside0.mk (Kd.R_drew HO_305002.out)
     replace HO_313001 := Aside0.mk (Kd.S_drew HO_313001.out)
     replace HO_313002 := Aside0.mk (Kd.R_drew HO_313002.out)
     replace HO_322001 := Aside0.mk (Kd.S_drew HO_322001.out)
     replace HO_322002 := Aside0.mk (Kd.R_drew HO_322002.out)
     replace HO326 := Aside0.mk (Kd.S_drew HO326.out)
     replace HO329 := Aside0.mk (Kd.R_drew HO329.out)
     replace BK270 := Aside0.mk (blk_drew BK270.out)
     replace BK271 := Aside0.mk (blk_drew BK271.out)
     replace BK296 := Aside0.mk (blk_drew BK296.out)
     replace BK304 := Aside0.mk (blk_drew BK304.out)
     replace BK312 := Aside0.mk (blk_drew BK312.out)
     replace BK321 := Aside0.mk (blk_drew BK321.out)
     replace HB := Aside0.mk (below_drew1 HB.out)
     refine start_ (n := 5) (S := fun w' => w'.cell? ⟨gb312, 0, none⟩ = some (.int .i64 t305) ∧ w'.cell? ⟨gb312, 1, none⟩ = some (.slice Ao67 t306.length co67) ∧ w'.cell? ⟨gb312, 2, none⟩ = some (.slice Ao68 t309.length co68) ∧ w'.cell? ⟨gb271, 0, none⟩ = some (.int .i64 a1_0) ∧ w'.cell? ⟨gb271, 1, none⟩ = some (.slice A1_1 l1_1.length c1_1) ∧ w'.cell? ⟨gb271, 2, none⟩ = some (.slice A1_2 l1_2.length c1_2)) (ds := []) #[false, false, false, false, false] (by kernel_rfl) rfl rfl ⟨bc BK312 0, bc BK312 1, bc BK312 2, bc BK271 0, bc BK271 1, bc BK271 2⟩ (fun hHeld => ?_)
     generalize w122.drew = w123 at HO_297001 HO_297002 HO_305001 HO_305002 HO_313001 HO_313002 HO_322001 HO_322002 HO326 HO329 BK270 BK271 BK296 BK304 BK312 BK321 HB hHeld ⊢
     refine take_ (i := 0) (N := some 59) (v := ?_) (a' := ?_) #[true, false, false, false, false] rfl rfl (by kernel_rfl) (fun _ _ _ h => h) (Or.inl ⟨by rfl, ?_⟩) hHeld ?_ ?_
     rotate_left
     ·
      rintro w' ⟨s0, s1, s2, s3, s4, s5⟩
      go_simp
      with_reducible rfl
     rotate_left
     ·
      simp only [Act.put, setIfInBounds_toArray, set_cons_zero, set_cons_succ, i64_w, i32_w]
      rfl
     refine take_ (i := 1) (N := some 60) (v := ?_) (a' := ?_) #[true, true, false, false, false] rfl rfl (by kernel_rfl) (fun _ _ _ h => h) (Or.inl ⟨by rfl, ?_⟩) hHeld ?_ ?_
     rotate_left
     ·
      rintro w' ⟨s0, s1, s2, s3, s4, s5⟩
      go_simp
      with_reducible rfl
     rotate_left
     ·
      simp only [Act.put, setIfInBounds_toArray, set_cons_zero, set_cons_succ, i64_w, i32_w]
      rfl
     refine one_ (i := 2) (N := some 61) #[true, true, true, false, false] rfl rfl (by kernel_rfl) (by decide) (fun K hK => ?_)
     refine goes_ Try.func7 (by kernel_rfl) rfl #[.agg #[.int .i64 a1_0, .slice A1_1 l1_1.length c1_1, .slice A1_2 l1_2.length c1_2]] (by rfl) rfl rfl (by (try simp only [List.map_toArray, List.map_cons, List.map_nil]); first | done | rfl) ?_
     with_reducible refine (Ff.calls kj24 a1_0 _ _ l1_1 _ _ l1_2 t331 t332 t335 _ ?side1 ?side2 ?side3 ?side4 A112.out).mono ?_
     (case side1 => exact uC HR1_1 HB)
     (case side2 => exact HC1_1.out)
     (case side3 => exact uC HR1_2 HB)
     (case side4 => exact HC1_2.out)
     rintro e w124 ⟨v333, v336, rfl, ho0, ho1, hb⟩
     refine ⟨_, rfl, ?_⟩
     have HO334 := jtS ho0 (below_size (uN HB))
     replace HO_297001 := jkS HO_297001 hb
     replace HO_305001 := jkS HO_305001 hb
     replace HO_313001 := jkS HO_313001 hb
     replace HO_322001 := jkS HO_322001 hb
     replace HO326 := jkS HO326 hb
     have HO337 := jtR ho1 (below_size (uN HB))
     replace HO_297002 := jkR HO_297002 hb
     replace HO_305002 := jkR HO_305002 hb
     replace HO_313002 := jkR HO_313002 hb
     replace HO_322002 := jkR HO_322002 hb
     replace HO329 := jkR HO329 hb
     replace BK270 := kB BK270 hb
     replace BK271 := kB BK271 hb
     replace BK296 := kB BK296 hb
     replace BK304 := kB BK304 hb
     replace BK312 := kB BK312 hb
     replace BK321 := kB BK321 hb
     replace HB := Aside0.mk (below_step (uN HB) hb)
     (try clear hb)
     (try clear hb2)
     (try clear hk)
     (try clear hi)
     (try clear ho0)
     (try clear ho1)
     obtain ⟨Ao125, co125, eo125⟩ := Kd.S_slice HO334.out
     (first | subst eo125 | (injection eo125 with f1_ f2_ f3_; have f4_ := f1_.symm; have f5_ := f3_.symm; clear f1_ f2_ f3_; subst f4_; subst f5_))
     obtain ⟨Ao126, co126, eo126⟩ := Kd.R_slice HO337.out
     (first | subst eo126 | (injection eo126 with f1_ f2_ f3_; have f4_ := f1_.symm; have f5_ := f3_.symm; clear f1_ f2_ f3_; subst f4_; subst f5_))
     refine hK.out _ _ ⟨bc BK312 0, bc BK312 1, bc BK312 2, bc BK271 0, bc BK271 1, bc BK271 2⟩ (fun hHeld => ?_)
     clear hK K
     refine norm_ (a' := ?_) ?_ ?_
     rotate_left
     ·
      show Act.put _ (some 61) _ = _
      simp only [Act.put, setIfInBounds_toArray, set_cons_zero, set_cons_succ, i64_w, i32_w]
      rfl
     refine one_ (i := 3) (N := some 62) #[true, true, true, true, false] rfl rfl (by kernel_rfl) (by decide) (fun K hK => ?_)
     refine goes_ Try.func9 (by kernel_rfl) rfl #[.agg #[.int .i64 t305, .slice Ao67 t306.length co67, .slice Ao68 t309.length co68], .agg #[.int .i64 t331, .slice Ao125 t332.length co125, .slice Ao126 t335.length co126]] (by rfl) rfl rfl (by (try simp only [List.map_toArray, List.map_cons, List.map_nil]); first | done | rfl) ?_
     with_reducible refine (Fj.calls kj24 t305 _ _ t306 _ _ t309 t331 _ _ t332 _ _ t335 true _ ?side1 ?side2 ?side3 ?side4 ?side5 ?side6 ?side7 ?side8 A113.out).mono ?_
     (case side1 => exact jdS HO_313001)
     (case side2 => exact (Kd.S_reads' HO_313001.out).2.1)
     (case side3 => exact uD HO_313002)
     (case side4 => exact (Kd.R_reads' HO_313002.out).2.1)
     (case side5 => exact jdS HO334)
     (case side6 => exact (Kd.S_reads' HO334.out).2.1)
     (case side7 => exact uD HO337)
     (case side8 => exact (Kd.R_reads' HO337.out).2.1)
     rintro e w127 ⟨rfl, hb⟩
     refine ⟨_, rfl, ?_⟩
     replace HO_297001 := jkS HO_297001 hb
     replace HO_297002 := jkR HO_297002 hb
     replace HO_305001 := jkS HO_305001 hb
     replace HO_305002 := jkR HO_305002 hb
     replace HO_313001 := jkS HO_313001 hb
     replace HO_313002 := jkR HO_313002 hb
     replace HO_322001 := jkS HO_322001 hb
     replace HO_322002 := jkR HO_322002 hb
     replace HO326 := jkS HO326 hb
     replace HO329 := jkR HO329 hb
     replace HO334 := jkS HO334 hb
     replace HO337 := jkR HO337 hb
     replace BK270 := kB BK270 hb
     replace BK271 := kB BK271 hb
     replace BK296 := kB BK296 hb
     replace BK304 := kB BK304 hb
     replace BK312 := kB BK312 hb
     replace BK321 := kB BK321 hb
     replace HB := Aside0.mk (below_step (uN HB) hb)
     (try clear hb)
     (try clear hb2)
     (try clear hk)
     (try clear hi)
     refine hK.out _ _ ⟨bc BK312 0, bc BK312 1, bc BK312 2, bc BK271 0, bc BK271 1, bc BK271 2⟩ (fun hHeld => ?_)
     clear hK K
     refine norm_ (a' := ?_) ?_ ?_
     rotate_left
     ·
      show Act.put _ (some 62) _ = _
      simp only [Act.put, setIfInBounds_toArray, set_cons_zero, set_cons_succ, i64_w, i32_w]
      rfl
     refine pure_ (i := 4) (N := some 63) (v := ?_) (a' := ?_) #[true, true, true, true, true] rfl rfl (by kernel_rfl) (fun _ _ _ h => h) (Or.inl ⟨by rfl, ?_⟩) ?_ ?_
     rotate_left
     ·
      intro w'
      go_simp
      with_reducible rfl
     rotate_left
     ·
      simp only [Act.put, setIfInBounds_toArray, set_cons_zero, set_cons_succ, i64_w, i32_w]
      rfl
     refine done_ (by kernel_rfl) ?_
     have hnb128 := NB304_270.out
     have hnc128 := NB270_304.out
     have hnb129 := NB304_271.out
     have hnc129 := NB271_304.out
     have hnb130 := NB304_296.out
     have hnc130 := NB296_304.out
     have hnb131 := NB304_312.out
     have hnc131 := NB312_304.out
     have hnb132 := NB304_321.out
     have hnc132 := NB321_304.out
     obtain ⟨hcz133_0, hcz133_1, hcz133_2, hfz133_0, hfz133_1, hfz133_2⟩ := ce3 BK304
     go_upto_region 21 with (first | ((with_reducible refine gate_callee (f := 10) rfl ?_); refine goesL_ (some 66) rfl rfl Try.func10 (by kernel_rfl) rfl #[.agg #[.int .i64 t297, .slice Ao56 t298.length co56, .slice Ao57 t301.length co57], .int .i64 1] rfl (by (try simp only [List.map_toArray, List.map_cons, List.map_nil]); first | done | rfl) ?_; (with_reducible refine (Fy.callsT kj24 t297 (fun k_ => (n1 ≤ k_ ∧ k_ < n2) ∧ k_ < n3) (.slice Ao56 t298.length co56) t298 (fun k_ => some k_ = (.slice Ao57 t301.length co57 : Value).ownBlock) (.slice Ao57 t301.length co57) t301 1 t339 t340 t341 w _ ?side1 ?side2 ?side3 A115.out).mono ?_); (case side1 => exact uN HB); (case side2 => exact HO_305001.out); (case side3 => exact Kd.R_tight rfl HO_305002.out); rintro e w134 ⟨rfl, hy0, hy1, hb, hkp⟩; refine ⟨_, rfl, ?_⟩; have hux := HO_305002; replace HO_297001 := jmS HO_297001 hkp hux; replace HO_297002 := jmR HO_297002 hkp hux; replace HO_313001 := jmS HO_313001 hkp hux; replace HO_313002 := jmR HO_313002 hkp hux; replace HO_322001 := jmS HO_322001 hkp hux; replace HO_322002 := jmR HO_322002 hkp hux; replace BK270 := jmB BK270 hkp hux; replace BK271 := jmB BK271 hkp hux; replace BK296 := jmB BK296 hkp hux; replace BK304 := jmB BK304 hkp hux; replace BK312 := jmB BK312 hkp hux; replace BK321 := jmB BK321 hkp hux; replace HO_305002 := Aside0.mk (Kd.R_reok rfl hy1 (fun k_ e_ => HO_305002.out.1 k_ e_)); replace HO_305001 := Aside0.mk hy0; replace HB := Aside0.mk (hb); (try clear hb); clear hux; (try clear hkp); (try clear hy0); (try clear hy1); have hnb135 := NB312_270.out; have hnc135 := NB270_312.out; have hnb136 := NB312_271.out; have hnc136 := NB271_312.out; have hnb137 := NB312_296.out; have hnc137 := NB296_312.out; have hnb138 := NB312_321.out; have hnc138 := NB321_312.out; obtain ⟨hcz139_0, hcz139_1, hcz139_2, hfz139_0, hfz139_1, hfz139_2⟩ := ce3 BK312) | ((with_reducible refine gate_callee (f := 10) rfl ?_); refine goesL_ (some 69) rfl rfl Try.func10 (by kernel_rfl) rfl #[.agg #[.int .i64 t305, .slice Ao67 t306.length co67, .slice Ao68 t309.length co68], .int .i64 t339] rfl (by (try simp only [List.map_toArray, List.map_cons, List.map_nil]); first | done | rfl) ?_; (with_reducible refine (Fy.callsT kj24 t305 (fun k_ => n2 ≤ k_ ∧ k_ < n3) (.slice Ao67 t306.length co67) t306 (fun k_ => some k_ = (.slice Ao68 t309.length co68 : Value).ownBlock) (.slice Ao68 t309.length co68) t309 t339 t342 t343 t344 w _ ?side1 ?side2 ?side3 A116.out).mono ?_); (case side1 => exact uN HB); (case side2 => exact HO_313001.out); (case side3 => exact Kd.R_tight rfl HO_313002.out); rintro e w140 ⟨rfl, hy0, hy1, hb, hkp⟩; refine ⟨_, rfl, ?_⟩; have hux := HO_313002; replace HO_297001 := jmS HO_297001 hkp hux; replace HO_297002 := jmR HO_297002 hkp hux; replace HO_305001 := jmS HO_305001 hkp hux; replace HO_305002 := jmR HO_305002 hkp hux; replace HO_322001 := jmS HO_322001 hkp hux; replace HO_322002 := jmR HO_322002 hkp hux; replace BK270 := jmB BK270 hkp hux; replace BK271 := jmB BK271 hkp hux; replace BK296 := jmB BK296 hkp hux; replace BK304 := jmB BK304 hkp hux; replace BK312 := jmB BK312 hkp hux; replace BK321 := jmB BK321 hkp hux; replace HO_313002 := Aside0.mk (Kd.R_reok rfl hy1 (fun k_ e_ => HO_313002.out.1 k_ e_)); replace HO_313001 := Aside0.mk hy0; replace HB := Aside0.mk (hb); (try clear hb); clear hux; (try clear hkp); (try clear hy0); (try clear hy1)))
     (try simp only [Act.put, setIfInBounds_toArray, set_cons_zero, set_cons_succ])
     go_cut [82] (fun v82 wc => ∃ (kq : Nat) (x82_116 : Bool), v82 = .bool x82_116 ∧ Aside0 (Fc.j1 kq t295 x82_116 a0_0 l0_1 l0_2 a1_0 l1_1 l1_2 t288 t289 t292 t313 t314 t317 = some r) ∧ Aside0 (kq ≤ kj24) ∧ Aside0 (Kd.S k53 53 wc w.heap.size (fun k_ => ((True ∧ k_ < n1) ∧ k_ < n2) ∧ k_ < n3) (.slice Ao44 t289.length co44) t289) ∧ Aside0 (Kd.R Kd.bool 4 wc w.heap.size (fun k_ => ((True ∧ k_ < n1) ∧ k_ < n2) ∧ k_ < n3) (.slice Ao46 t292.length co46) t292) ∧ Aside0 (Kd.S k53 53 wc w.heap.size (fun k_ => (n1 ≤ k_ ∧ k_ < n2) ∧ k_ < n3) (.slice Ao56 t298.length co56) t340) ∧ Aside0 (Kd.R Kd.bool 4 wc w.heap.size (fun k_ => (n1 ≤ k_ ∧ k_ < n2) ∧ k_ < n3) (.slice Ao57 t301.length co57) t341) ∧ Aside0 (Kd.S k53 53 wc w.heap.size (fun k_ => n2 ≤ k_ ∧ k_ < n3) (.slice Ao67 t306.length co67) t343) ∧ Aside0 (Kd.R Kd.bool 4 wc w.heap.size (fun k_ => n2 ≤ k_ ∧ k_ < n3) (.slice Ao68 t309.length co68) t344) ∧ Aside0 (Kd.S k53 53 wc w.heap.size (fun k_ => n3 ≤ k_) (.slice Ao80 t314.length co80) t314) ∧ Aside0 (Kd.R Kd.bool 4 wc w.heap.size (fun k_ => n3 ≤ k_) (.slice Ao81 t317.length co81) t317) ∧ Aside0 (wc.heap[gb270]? = some (.cells #[.int .i64 a0_0, (.slice A0_1 l0_1.length c0_1), (.slice A0_2 l0_2.length c0_2)] 25 (0, 0))) ∧ Aside0 (wc.heap[gb271]? = some (.cells #[.int .i64 a1_0, (.slice A1_1 l1_1.length c1_1), (.slice A1_2 l1_2.length c1_2)] 25 (0, 0))) ∧ Aside0 (wc.heap[gb296]? = some (.cells #[.int .i64 t288, (.slice Ao44 t289.length co44), (.slice Ao46 t292.length co46)] 29 (0, 0))) ∧ Aside0 (wc.heap[gb304]? = some (.cells #[.int .i64 t297, (.slice Ao56 t298.length co56), (.slice Ao57 t301.length co57)] 29 (0, 0))) ∧ Aside0 (wc.heap[gb312]? = some (.cells #[.int .i64 t305, (.slice Ao67 t306.length co67), (.slice Ao68 t309.length co68)] 29 (0, 0))) ∧ Aside0 (wc.heap[gb321]? = some (.cells #[.int .i64 t313, (.slice Ao80 t314.length co80), (.slice Ao81 t317.length co81)] 29 (0, 0))) ∧ Aside0 (Below w.heap.size w wc))
     case first =>
      have H := HC117.out
      clear HC117
      by_cases c141 : t342 < 0
      ·
       rw [if_pos c141] at H
       have c141b0 : decide (t342 < 0) = true := decide_eq_true c141
       clear c141
       (first | rw [c141b0] | (simp only [i64_w, i32_w]; rw [c141b0]) | skip)
       have H' := Aside0.mk H
       clear H
       go_wp2
       go_meet
       case rel => exact ⟨_, (true), (by first | rfl | (simp; done) | (simp [*]; done)), H', ⟨by have := HJ24.out; first | omega | exact Nat.le_refl _⟩, ⟨by exact jqS HO_297001⟩, ⟨by exact uR HO_297002⟩, ⟨by exact jqS HO_305001⟩, ⟨by exact uR HO_305002⟩, ⟨by exact jqS HO_313001⟩, ⟨by exact uR HO_313002⟩, ⟨by exact jqS HO_322001⟩, ⟨by exact uR HO_322002⟩, ⟨by refine uW ?_; exact BK270.out⟩, ⟨by refine uW ?_; exact BK271.out⟩, ⟨by refine uW ?_; exact BK296.out⟩, ⟨by refine uW ?_; exact BK304.out⟩, ⟨by refine uW ?_; exact BK312.out⟩, ⟨by refine uW ?_; exact BK321.out⟩, ⟨uN HB⟩⟩
      rw [if_neg c141] at H
      have c141b0 : decide (t342 < 0) = false := decide_eq_false c141
      clear c141
      (first | rw [c141b0] | (simp only [i64_w, i32_w]; rw [c141b0]) | skip)
      replace H := Option.bind_eq_some_iff.mp H
      obtain ⟨t345, A1420, H⟩ := H
      try dsimp only at H
      have A142 := Aside0.mk A1420
      clear A1420
      by_cases c143 : t345 = true
      ·
       subst c143
       rw [if_pos rfl] at H
       have H' := Aside0.mk H
       clear H
       have hnb144 := NB321_270.out
       have hnc144 := NB270_321.out
       have hnb145 := NB321_271.out
       have hnc145 := NB271_321.out
       have hnb146 := NB321_296.out
       have hnc146 := NB296_321.out
       have hnb147 := NB321_304.out
       have hnc147 := NB304_321.out
       have hnb148 := NB321_312.out
       have hnc148 := NB312_321.out
       obtain ⟨hcz149_0, hcz149_1, hcz149_2, hfz149_0, hfz149_1, hfz149_2⟩ := ce3 BK321
       have hnb150 := NB296_270.out
       have hnc150 := NB270_296.out
       have hnb151 := NB296_271.out
       have hnc151 := NB271_296.out
       have hnb152 := NB296_304.out
       have hnc152 := NB304_296.out
       have hnb153 := NB296_312.out
       have hnc153 := NB312_296.out
       obtain ⟨hcz154_0, hcz154_1, hcz154_2, hfz154_0, hfz154_1, hfz154_2⟩ := ce3 BK296
       go_wp2_with (first | (go_at_call 9; (with_reducible refine (Fj.calls kj24 t313 _ _ t314 _ _ t317 t288 _ _ t289 _ _ t292 true _ ?side1 ?side2 ?side3 ?side4 ?side5 ?side6 ?side7 ?side8 A142.out).mono ?_); (case side1 => exact jdS HO_322001); (case side2 => exact (Kd.S_reads' HO_322001.out).2.1); (case side3 => exact uD HO_322002); (case side4 => exact (Kd.R_reads' HO_322002.out).2.1); (case side5 => exact jdS HO_297001); (case side6 => exact (Kd.S_reads' HO_297001.out).2.1); (case side7 => exact uD HO_297002); (case side8 => exact (Kd.R_reads' HO_297002.out).2.1); rintro e w155 ⟨rfl, hb⟩; replace HO_297001 := jkS HO_297001 hb; replace HO_297002 := jkR HO_297002 hb; replace HO_305001 := jkS HO_305001 hb; replace HO_305002 := jkR HO_305002 hb; replace HO_313001 := jkS HO_313001 hb; replace HO_313002 := jkR HO_313002 hb; replace HO_322001 := jkS HO_322001 hb; replace HO_322002 := jkR HO_322002 hb; replace BK270 := kB BK270 hb; replace BK271 := kB BK271 hb; replace BK296 := kB BK296 hb; replace BK304 := kB BK304 hb; replace BK312 := kB BK312 hb; replace BK321 := kB BK321 hb; replace HB := Aside0.mk (below_step (uN HB) hb); (try clear hb); (try clear hb2); (try clear hk); (try clear hi)))
       go_meet
       case rel => exact ⟨_, ((t320 != t295)), (by first | rfl | (simp; done) | (simp [*]; done)), H', ⟨by have := HJ24.out; first | omega | exact Nat.le_refl _⟩, ⟨by exact jqS HO_297001⟩, ⟨by exact uR HO_297002⟩, ⟨by exact jqS HO_305001⟩, ⟨by exact uR HO_305002⟩, ⟨by exact jqS HO_313001⟩, ⟨by exact uR HO_313002⟩, ⟨by exact jqS HO_322001⟩, ⟨by exact uR HO_322002⟩, ⟨by refine uW ?_; exact BK270.out⟩, ⟨by refine uW ?_; exact BK271.out⟩, ⟨by refine uW ?_; exact BK296.out⟩, ⟨by refine uW ?_; exact BK304.out⟩, ⟨by refine uW ?_; exact BK312.out⟩, ⟨by refine uW ?_; exact BK321.out⟩, ⟨uN HB⟩⟩
      replace c143 := Bool.eq_false_iff.mpr c143
      subst c143
      rw [if_neg (show ¬ (false = true) by decide)] at H
      have H' := Aside0.mk H
      clear H
      have hnb156 := NB321_270.out
      have hnc156 := NB270_321.out
      have hnb157 := NB321_271.out
      have hnc157 := NB271_321.out
      have hnb158 := NB321_296.out
      have hnc158 := NB296_321.out
      have hnb159 := NB321_304.out
      have hnc159 := NB304_321.out
      have hnb160 := NB321_312.out
      have hnc160 := NB312_321.out
      obtain ⟨hcz161_0, hcz161_1, hcz161_2, hfz161_0, hfz161_1, hfz161_2⟩ := ce3 BK321
      have hnb162 := NB296_270.out
      have hnc162 := NB270_296.out
      have hnb163 := NB296_271.out
      have hnc163 := NB271_296.out
      have hnb164 := NB296_304.out
      have hnc164 := NB304_296.out
      have hnb165 := NB296_312.out
      have hnc165 := NB312_296.out
      obtain ⟨hcz166_0, hcz166_1, hcz166_2, hfz166_0, hfz166_1, hfz166_2⟩ := ce3 BK296
      go_wp2_with (first | (go_at_call 9; (with_reducible refine (Fj.calls kj24 t313 _ _ t314 _ _ t317 t288 _ _ t289 _ _ t292 false _ ?side1 ?side2 ?side3 ?side4 ?side5 ?side6 ?side7 ?side8 A142.out).mono ?_); (case side1 => exact jdS HO_322001); (case side2 => exact (Kd.S_reads' HO_322001.out).2.1); (case side3 => exact uD HO_322002); (case side4 => exact (Kd.R_reads' HO_322002.out).2.1); (case side5 => exact jdS HO_297001); (case side6 => exact (Kd.S_reads' HO_297001.out).2.1); (case side7 => exact uD HO_297002); (case side8 => exact (Kd.R_reads' HO_297002.out).2.1); rintro e w167 ⟨rfl, hb⟩; replace HO_297001 := jkS HO_297001 hb; replace HO_297002 := jkR HO_297002 hb; replace HO_305001 := jkS HO_305001 hb; replace HO_305002 := jkR HO_305002 hb; replace HO_313001 := jkS HO_313001 hb; replace HO_313002 := jkR HO_313002 hb; replace HO_322001 := jkS HO_322001 hb; replace HO_322002 := jkR HO_322002 hb; replace BK270 := kB BK270 hb; replace BK271 := kB BK271 hb; replace BK296 := kB BK296 hb; replace BK304 := kB BK304 hb; replace BK312 := kB BK312 hb; replace BK321 := kB BK321 hb; replace HB := Aside0.mk (below_step (uN HB) hb); (try clear hb); (try clear hb2); (try clear hk); (try clear hi)))
      go_meet
      case rel => exact ⟨_, (true), (by first | rfl | (simp; done) | (simp [*]; done)), H', ⟨by have := HJ24.out; first | omega | exact Nat.le_refl _⟩, ⟨by exact jqS HO_297001⟩, ⟨by exact uR HO_297002⟩, ⟨by exact jqS HO_305001⟩, ⟨by exact uR HO_305002⟩, ⟨by exact jqS HO_313001⟩, ⟨by exact uR HO_313002⟩, ⟨by exact jqS HO_322001⟩, ⟨by exact uR HO_322002⟩, ⟨by refine uW ?_; exact BK270.out⟩, ⟨by refine uW ?_; exact BK271.out⟩, ⟨by refine uW ?_; exact BK296.out⟩, ⟨by refine uW ?_; exact BK304.out⟩, ⟨by refine uW ?_; exact BK312.out⟩, ⟨by refine uW ?_; exact BK321.out⟩, ⟨uN HB⟩⟩
     case rest =>
      clear HC117
      try clear c1
      try clear p2
      try clear c7
      try clear c9
      try clear c10
      try clear c12
      try clear c13
      try clear c14
      try clear c15
      try clear c16
      try clear c128
      try clear c129
      try clear c130
      try clear c131
      try clear c132
      try clear c135
      try clear c136
      try clear c137
      try clear c138
      try clear c141
      try clear c141b0
      try clear c143
      try clear c144
      try clear c145
      try clear c146
      try clear c147
      try clear c148
      try clear c150
      try clear c151
      try clear c152
      try clear c153
      try clear c156
      try clear c157
      try clear c158
      try clear c159
      try clear c160
      try clear c162
      try clear c163
      try clear c164
      try clear c165
      try clear hcz133_0
      try clear hcz133_1
      try clear hcz133_2
      try clear hcz139_0
      try clear hcz139_1
      try clear hcz139_2
      try clear hcz149_0
      try clear hcz149_1
      try clear hcz149_2
      try clear hcz154_0
      try clear hcz154_1
      try clear hcz154_2
      try clear hcz161_0
      try clear hcz161_1
      try clear hcz161_2
      try clear hcz166_0
      try clear hcz166_1
      try clear hcz166_2
      try clear hfz133_0
      try clear hfz133_1
      try clear hfz133_2
      try clear hfz139_0
      try clear hfz139_1
      try clear hfz139_2
      try clear hfz149_0
      try clear hfz149_1
      try clear hfz149_2
      try clear hfz154_0
      try clear hfz154_1
      try clear hfz154_2
      try clear hfz161_0
      try clear hfz161_1
      try clear hfz161_2
      try clear hfz166_0
      try clear hfz166_1
      try clear hfz166_2
      obtain ⟨kq, x82_116, rfl, HA, HJ116, HO_297001, HO_297002, HO_305001, HO_305002, HO_313001, HO_313002, HO_322001, HO_322002, BK270, BK271, BK296, BK304, BK312, BK321, HB⟩ := hcut
      have hl305001_116 := (Kd.S_reads' HO_305001.out).1
      rw [hl305001_116] at HO_305001
      (try simp only [hl305001_116])
      (try simp only [hl305001_116] at BK270)
      (try simp only [hl305001_116] at BK271)
      (try simp only [hl305001_116] at BK296)
      (try simp only [hl305001_116] at BK304)
      (try simp only [hl305001_116] at BK312)
      (try simp only [hl305001_116] at BK321)
      (try simp only [hl305001_116] at HO_297001)
      (try simp only [hl305001_116] at HO_297002)
      (try simp only [hl305001_116] at HO_305002)
      (try simp only [hl305001_116] at HO_313001)
      (try simp only [hl305001_116] at HO_313002)
      (try simp only [hl305001_116] at HO_322001)
      (try simp only [hl305001_116] at HO_322002)
      have hl305002_116 := (Kd.R_reads' HO_305002.out).1
      rw [hl305002_116] at HO_305002
      (try simp only [hl305002_116])
      (try simp only [hl305002_116] at BK270)
      (try simp only [hl305002_116] at BK271)
      (try simp only [hl305002_116] at BK296)
      (try simp only [hl305002_116] at BK304)
      (try simp only [hl305002_116] at BK312)
      (try simp only [hl305002_116] at BK321)
      (try simp only [hl305002_116] at HO_297001)
      (try simp only [hl305002_116] at HO_297002)
      (try simp only [hl305002_116] at HO_305001)
      (try simp only [hl305002_116] at HO_313001)
      (try simp only [hl305002_116] at HO_313002)
      (try simp only [hl305002_116] at HO_322001)
      (try simp only [hl305002_116] at HO_322002)
      have hl313001_116 := (Kd.S_reads' HO_313001.out).1
      rw [hl313001_116] at HO_313001
      (try simp only [hl313001_116])
      (try simp only [hl313001_116] at BK270)
      (try simp only [hl313001_116] at BK271)
      (try simp only [hl313001_116] at BK296)
      (try simp only [hl313001_116] at BK304)
      (try simp only [hl313001_116] at BK312)
      (try simp only [hl313001_116] at BK321)
      (try simp only [hl313001_116] at HO_297001)
      (try simp only [hl313001_116] at HO_297002)
      (try simp only [hl313001_116] at HO_305001)
      (try simp only [hl313001_116] at HO_305002)
      (try simp only [hl313001_116] at HO_313002)
      (try simp only [hl313001_116] at HO_322001)
      (try simp only [hl313001_116] at HO_322002)
      have hl313002_116 := (Kd.R_reads' HO_313002.out).1
      rw [hl313002_116] at HO_313002
      (try simp only [hl313002_116])
      (try simp only [hl313002_116] at BK270)
      (try simp only [hl313002_116] at BK271)
      (try simp only [hl313002_116] at BK296)
      (try simp only [hl313002_116] at BK304)
      (try simp only [hl313002_116] at BK312)
      (try simp only [hl313002_116] at BK321)
      (try simp only [hl313002_116] at HO_297001)
      (try simp only [hl313002_116] at HO_297002)
      (try simp only [hl313002_116] at HO_305001)
      (try simp only [hl313002_116] at HO_305002)
      (try simp only [hl313002_116] at HO_313001)
      (try simp only [hl313002_116] at HO_322001)
      (try simp only [hl313002_116] at HO_322002)
      cases kq with
      | zero => exact absurd HA.out (by simp [Fc.j1])
      | succ kj116 =>
       have H := HA.out
       clear HA
       simp only [Fc.j1] at H
       by_cases c168 : x82_116 = true
       ·
        subst c168
        rw [if_pos rfl] at H
        obtain rfl := Option.some.inj H
        go_wp2
        go_ret
        exact ⟨by first | rfl | (simp [errW_none, errW_some] <;> rfl) | (simp [*, errW_none, errW_some] <;> rfl), uN HB⟩
       replace c168 := Bool.eq_false_iff.mpr c168
       subst c168
       rw [if_neg (show ¬ (false = true) by decide)] at H
       replace H := Option.bind_eq_some_iff.mp H
       obtain ⟨⟨t346, t347, t348⟩, A1690, H⟩ := H
       try dsimp only at H
       have A169 := Aside0.mk A1690
       clear A1690
       replace H := Option.bind_eq_some_iff.mp H
       obtain ⟨t349, A1700, H⟩ := H
       try dsimp only at H
       have A170 := Aside0.mk A1700
       clear A1700
       by_cases c171 : t349 < 0
       ·
        rw [if_pos c171] at H
        have c171b0 : decide (t349 < 0) = true := decide_eq_true c171
        clear c171
        obtain rfl := Option.some.inj H
        have hnb172 := NB321_270.out
        have hnc172 := NB270_321.out
        have hnb173 := NB321_271.out
        have hnc173 := NB271_321.out
        have hnb174 := NB321_296.out
        have hnc174 := NB296_321.out
        have hnb175 := NB321_304.out
        have hnc175 := NB304_321.out
        have hnb176 := NB321_312.out
        have hnc176 := NB312_321.out
        obtain ⟨hcz177_0, hcz177_1, hcz177_2, hfz177_0, hfz177_1, hfz177_2⟩ := ce3 BK321
        go_wp2_with (first | ((with_reducible refine gate_callee (f := 10) rfl ?_); refine goesL_ (some 85) rfl rfl Try.func10 (by kernel_rfl) rfl #[.agg #[.int .i64 t313, .slice Ao80 t314.length co80, .slice Ao81 t317.length co81], .int .i64 1] rfl (by (try simp only [List.map_toArray, List.map_cons, List.map_nil]); first | done | rfl) ?_; (with_reducible refine (Fy.callsT kj116 t313 (fun k_ => n3 ≤ k_) (.slice Ao80 t314.length co80) t314 (fun k_ => some k_ = (.slice Ao81 t317.length co81 : Value).ownBlock) (.slice Ao81 t317.length co81) t317 1 t346 t347 t348 w _ ?side1 ?side2 ?side3 A169.out).mono ?_); (case side1 => exact uN HB); (case side2 => exact HO_322001.out); (case side3 => exact Kd.R_tight rfl HO_322002.out); rintro e w178 ⟨rfl, hy0, hy1, hb, hkp⟩; refine ⟨_, rfl, ?_⟩; have hux := HO_322002; replace HO_297001 := jmS HO_297001 hkp hux; replace HO_297002 := jmR HO_297002 hkp hux; replace HO_305001 := jmS HO_305001 hkp hux; replace HO_305002 := jmR HO_305002 hkp hux; replace HO_313001 := jmS HO_313001 hkp hux; replace HO_313002 := jmR HO_313002 hkp hux; replace BK270 := jmB BK270 hkp hux; replace BK271 := jmB BK271 hkp hux; replace BK296 := jmB BK296 hkp hux; replace BK304 := jmB BK304 hkp hux; replace BK312 := jmB BK312 hkp hux; replace BK321 := jmB BK321 hkp hux; replace HO_322001 := Aside0.mk hy0; replace HO_322002 := Aside0.mk (Kd.R_reok rfl hy1 (fun k_ e_ => HO_322002.out.1 k_ e_)); replace HB := Aside0.mk (hb); (try clear hb); clear hux; (try clear hkp); (try clear hy0); (try clear hy1); obtain ⟨hcz179_0, hcz179_1, hcz179_2, hfz179_0, hfz179_1, hfz179_2⟩ := ce3 BK321) | ((with_reducible refine gate_callee (f := 11) rfl ?_); refine goesL_ (some 88) rfl rfl Try.func11 (by kernel_rfl) rfl #[.agg #[.int .i64 t313, .slice Ao80 t347.length co80, .slice Ao81 t348.length co81], .int .i64 1] rfl (by (try simp only [List.map_toArray, List.map_cons, List.map_nil]); first | done | (rw [show t347.length = t314.length from (Kd.S_reads' HO_322001.out).1.symm, show t348.length = t317.length from (Kd.R_reads' HO_322002.out).1.symm] <;> rfl) | rfl | (simp only [List.length_drop, List.length_take]; rfl)) ?_; (with_reducible refine (FB.calls kj116 t313 _ _ t347 _ _ t348 1 t349 _ ?side1 ?side2 ?side3 ?side4 A170.out).mono ?_); (case side1 => exact jdS HO_322001); (case side2 => rw [show t347.length = t314.length from (Kd.S_reads' HO_322001.out).1.symm]; exact (Kd.S_reads' HO_322001.out).2.1); (case side3 => exact uD HO_322002); (case side4 => rw [show t348.length = t317.length from (Kd.R_reads' HO_322002.out).1.symm]; exact (Kd.R_reads' HO_322002.out).2.1); rintro e w180 ⟨rfl, hb⟩; refine ⟨_, rfl, ?_⟩; replace HO_297001 := jkS HO_297001 hb; replace HO_297002 := jkR HO_297002 hb; replace HO_305001 := jkS HO_305001 hb; replace HO_305002 := jkR HO_305002 hb; replace HO_313001 := jkS HO_313001 hb; replace HO_313002 := jkR HO_313002 hb; replace HO_322001 := jkS HO_322001 hb; replace HO_322002 := jkR HO_322002 hb; replace BK270 := kB BK270 hb; replace BK271 := kB BK271 hb; replace BK296 := kB BK296 hb; replace BK304 := kB BK304 hb; replace BK312 := kB BK312 hb; replace BK321 := kB BK321 hb; replace HB := Aside0.mk (below_step (uN HB) hb); (try clear hb); (try clear hb2); (try clear hk); (try clear hi)))
        go_ret
        exact ⟨by first | rfl | (simp [errW_none, errW_some] <;> rfl) | (simp [*, errW_none, errW_some] <;> rfl), uN HB⟩
       rw [if_neg c171] at H
       have c171b0 : decide (t349 < 0) = false := decide_eq_false c171
       clear c171
       by_cases c181 : t349 = t346
       ·
        rw [if_pos c181] at H
        have c181b0 : (t349 == t346) = true := beq_iff_eq.mpr c181
        have c181b1 : (t349 != t346) = false := bne_eq_false_iff_eq.mpr c181
        clear c181
        replace H := Option.bind_eq_some_iff.mp H
        obtain ⟨⟨t350, t351, t354⟩, A1820, H⟩ := H
        try dsimp only at H
        have A182 := Aside0.mk A1820
        clear A1820
        replace H := Option.bind_eq_some_iff.mp H
        obtain ⟨⟨t357, t358, t361⟩, A1830, H⟩ := H
        try dsimp only at H
        have A183 := Aside0.mk A1830
        clear A1830
        replace H := Option.bind_eq_some_iff.mp H
        obtain ⟨⟨t364, t365, t368, t371⟩, A1840, H⟩ := H
        try dsimp only at H
        have A184 := Aside0.mk A1840
        clear A1840
        have HC185 := Aside0.mk H
        clear H
        have hnb186 := NB321_270.out
        have hnc186 := NB270_321.out
        have hnb187 := NB321_271.out
        have hnc187 := NB271_321.out
        have hnb188 := NB321_296.out
        have hnc188 := NB296_321.out
        have hnb189 := NB321_304.out
        have hnc189 := NB304_321.out
        have hnb190 := NB321_312.out
        have hnc190 := NB312_321.out
        obtain ⟨hcz191_0, hcz191_1, hcz191_2, hfz191_0, hfz191_1, hfz191_2⟩ := ce3 BK321
        try go_wp2_with (first | ((with_reducible refine gate_callee (f := 10) rfl ?_); refine goesL_ (some 85) rfl rfl Try.func10 (by kernel_rfl) rfl #[.agg #[.int .i64 t313, .slice Ao80 t314.length co80, .slice Ao81 t317.length co81], .int .i64 1] rfl (by (try simp only [List.map_toArray, List.map_cons, List.map_nil]); first | done | rfl) ?_; (with_reducible refine (Fy.callsT kj116 t313 (fun k_ => n3 ≤ k_) (.slice Ao80 t314.length co80) t314 (fun k_ => some k_ = (.slice Ao81 t317.length co81 : Value).ownBlock) (.slice Ao81 t317.length co81) t317 1 t346 t347 t348 w _ ?side1 ?side2 ?side3 A169.out).mono ?_); (case side1 => exact uN HB); (case side2 => exact HO_322001.out); (case side3 => exact Kd.R_tight rfl HO_322002.out); rintro e w192 ⟨rfl, hy0, hy1, hb, hkp⟩; refine ⟨_, rfl, ?_⟩; have hux := HO_322002; replace HO_297001 := jmS HO_297001 hkp hux; replace HO_297002 := jmR HO_297002 hkp hux; replace HO_305001 := jmS HO_305001 hkp hux; replace HO_305002 := jmR HO_305002 hkp hux; replace HO_313001 := jmS HO_313001 hkp hux; replace HO_313002 := jmR HO_313002 hkp hux; replace BK270 := jmB BK270 hkp hux; replace BK271 := jmB BK271 hkp hux; replace BK296 := jmB BK296 hkp hux; replace BK304 := jmB BK304 hkp hux; replace BK312 := jmB BK312 hkp hux; replace BK321 := jmB BK321 hkp hux; replace HO_322001 := Aside0.mk hy0; replace HO_322002 := Aside0.mk (Kd.R_reok rfl hy1 (fun k_ e_ => HO_322002.out.1 k_ e_)); replace HB := Aside0.mk (hb); (try clear hb); clear hux; (try clear hkp); (try clear hy0); (try clear hy1); obtain ⟨hcz193_0, hcz193_1, hcz193_2, hfz193_0, hfz193_1, hfz193_2⟩ := ce3 BK321) | ((with_reducible refine gate_callee (f := 11) rfl ?_); refine goesL_ (some 88) rfl rfl Try.func11 (by kernel_rfl) rfl #[.agg #[.int .i64 t313, .slice Ao80 t347.length co80, .slice Ao81 t348.length co81], .int .i64 1] rfl (by (try simp only [List.map_toArray, List.map_cons, List.map_nil]); first | done | (rw [show t347.length = t314.length from (Kd.S_reads' HO_322001.out).1.symm, show t348.length = t317.length from (Kd.R_reads' HO_322002.out).1.symm] <;> rfl) | rfl | (simp only [List.length_drop, List.length_take]; rfl)) ?_; (with_reducible refine (FB.calls kj116 t313 _ _ t347 _ _ t348 1 t349 _ ?side1 ?side2 ?side3 ?side4 A170.out).mono ?_); (case side1 => exact jdS HO_322001); (case side2 => rw [show t347.length = t314.length from (Kd.S_reads' HO_322001.out).1.symm]; exact (Kd.S_reads' HO_322001.out).2.1); (case side3 => exact uD HO_322002); (case side4 => rw [show t348.length = t317.length from (Kd.R_reads' HO_322002.out).1.symm]; exact (Kd.R_reads' HO_322002.out).2.1); rintro e w194 ⟨rfl, hb⟩; refine ⟨_, rfl, ?_⟩; replace HO_297001 := jkS HO_297001 hb; replace HO_297002 := jkR HO_297002 hb; replace HO_305001 := jkS HO_305001 hb; replace HO_305002 := jkR HO_305002 hb; replace HO_313001 := jkS HO_313001 hb; replace HO_313002 := jkR HO_313002 hb; replace HO_322001 := jkS HO_322001 hb; replace HO_322002 := jkR HO_322002 hb; replace BK270 := kB BK270 hb; replace BK271 := kB BK271 hb; replace BK296 := kB BK296 hb; replace BK304 := kB BK304 hb; replace BK312 := kB BK312 hb; replace BK321 := kB BK321 hb; replace HB := Aside0.mk (below_step (uN HB) hb); (try clear hb); (try clear hb2); (try clear hk); (try clear hi)))
        replace HO_297001 := Aside0.mk (Kd.S_drew HO_297001.out)
        replace HO_297002 := Aside0.mk (Kd.R_drew HO_297002.out)
        replace HO_305001 := Aside0.mk (Kd.S_drew HO_305001.out)
        replace HO_305002 := Aside0.mk (Kd.R_drew HO_305002.out)
        replace HO_313001 := Aside0.mk (Kd.S_drew HO_313001.out)
        replace HO_313002 := Aside0.mk (Kd.R_drew HO_313002.out)
        replace HO_322001 := Aside0.mk (Kd.S_drew HO_322001.out)
        replace HO_322002 := Aside0.mk (Kd.R_drew HO_322002.out)
        replace BK270 := Aside0.mk (blk_drew BK270.out)
        replace BK271 := Aside0.mk (blk_drew BK271.out)
        replace BK296 := Aside0.mk (blk_drew BK296.out)
        replace BK304 := Aside0.mk (blk_drew BK304.out)
        replace BK312 := Aside0.mk (blk_drew BK312.out)
        replace BK321 := Aside0.mk (blk_drew BK321.out)
        replace HB := Aside0.mk (below_drew1 HB.out)
        refine start_ (n := 11) (S := fun w' => w'.cell? ⟨gb270, 0, none⟩ = some (.int .i64 a0_0) ∧ w'.cell? ⟨gb270, 1, none⟩ = some (.slice A0_1 l0_1.length c0_1) ∧ w'.cell? ⟨gb270, 2, none⟩ = some (.slice A0_2 l0_2.length c0_2) ∧ w'.cell? ⟨gb271, 0, none⟩ = some (.int .i64 a1_0) ∧ w'.cell? ⟨gb271, 1, none⟩ = some (.slice A1_1 l1_1.length c1_1) ∧ w'.cell? ⟨gb271, 2, none⟩ = some (.slice A1_2 l1_2.length c1_2)) (ds := []) #[false, false, false, false, false, false, false, false, false, false, false] (by kernel_rfl) rfl rfl ⟨bc BK270 0, bc BK270 1, bc BK270 2, bc BK271 0, bc BK271 1, bc BK271 2⟩ (fun hHeld => ?_); refine with_tabW Fc.tab31 Fc.bits31 (fun HT_ HW_ => ?_)
        generalize w194.drew = w195 at HO_297001 HO_297002 HO_305001 HO_305002 HO_313001 HO_313002 HO_322001 HO_322002 BK270 BK271 BK296 BK304 BK312 BK321 HB hHeld ⊢
        refine take_ (i := 0) (N := some 95) (v := ?_) (a' := ?_) #[true, false, false, false, false, false, false, false, false, false, false] rfl rfl (take_ofW HT_.out HW_.out (by kernel_rfl)) (fun _ _ _ h => h) (Or.inl ⟨by rfl, ?_⟩) hHeld ?_ ?_
        rotate_left
        ·
         rintro w' ⟨s0, s1, s2, s3, s4, s5⟩
         go_simp
         with_reducible rfl
        rotate_left
        ·
         simp only [Act.put, setIfInBounds_toArray, set_cons_zero, set_cons_succ, i64_w, i32_w]
         rfl
        refine take_ (i := 2) (N := some 97) (v := ?_) (a' := ?_) #[true, false, true, false, false, false, false, false, false, false, false] rfl rfl (take_ofW HT_.out HW_.out (by kernel_rfl)) (fun _ _ _ h => h) (Or.inl ⟨by rfl, ?_⟩) hHeld ?_ ?_
        rotate_left
        ·
         rintro w' ⟨s0, s1, s2, s3, s4, s5⟩
         go_simp
         with_reducible rfl
        rotate_left
        ·
         simp only [Act.put, setIfInBounds_toArray, set_cons_zero, set_cons_succ, i64_w, i32_w]
         rfl
        refine join_ (σ := Value × Value × Value × Value × Value × Value × Nat) 2 #[true, true, true, true, true, true, true, true, true, false, false] (fun s_ => [(96, .agg #[.int .i64 t350, s_.1, s_.2.1]), (98, .agg #[.int .i64 t357, s_.2.2.1, s_.2.2.2.1]), (99, .tuple #[.agg #[.int .i64 t364, s_.2.2.2.2.1, s_.2.2.2.2.2.1], .bool t371]), (15, .pointer (some ⟨s_.2.2.2.2.2.2, 0, none⟩)), (94, .tuple #[.agg #[.int .i64 t364, s_.2.2.2.2.1, s_.2.2.2.2.2.1], .bool t371]), (100, .agg #[.int .i64 t364, s_.2.2.2.2.1, s_.2.2.2.2.2.1]), (101, .bool t371)]) (fun s_ w' => (w'.cell? ⟨gb270, 0, none⟩ = some (.int .i64 a0_0) ∧ w'.cell? ⟨gb270, 1, none⟩ = some (.slice A0_1 l0_1.length c0_1) ∧ w'.cell? ⟨gb270, 2, none⟩ = some (.slice A0_2 l0_2.length c0_2) ∧ w'.cell? ⟨gb271, 0, none⟩ = some (.int .i64 a1_0) ∧ w'.cell? ⟨gb271, 1, none⟩ = some (.slice A1_1 l1_1.length c1_1) ∧ w'.cell? ⟨gb271, 2, none⟩ = some (.slice A1_2 l1_2.length c1_2)) ∧ (Kd.S k53 53 w' w.heap.size (fun _ => True) s_.1 t351) ∧ (Kd.R Kd.bool 4 w' w.heap.size (fun _ => True) s_.2.1 t354) ∧ (Kd.S k53 53 w' w.heap.size (fun _ => True) s_.2.2.1 t358) ∧ (Kd.R Kd.bool 4 w' w.heap.size (fun _ => True) s_.2.2.2.1 t361) ∧ (Kd.S k53 53 w' w.heap.size (fun _ => True) s_.2.2.2.2.1 t365) ∧ (Kd.R Kd.bool 4 w' w.heap.size (fun _ => True) s_.2.2.2.2.2.1 t368) ∧ (Kd.S k53 53 w' w.heap.size (fun k_ => ((True ∧ k_ < n1) ∧ k_ < n2) ∧ k_ < n3) (.slice Ao44 t289.length co44) t289) ∧ (Kd.R Kd.bool 4 w' w.heap.size (fun k_ => ((True ∧ k_ < n1) ∧ k_ < n2) ∧ k_ < n3) (.slice Ao46 t292.length co46) t292) ∧ (Kd.S k53 53 w' w.heap.size (fun k_ => (n1 ≤ k_ ∧ k_ < n2) ∧ k_ < n3) (.slice Ao56 t340.length co56) t340) ∧ (Kd.R Kd.bool 4 w' w.heap.size (fun k_ => (n1 ≤ k_ ∧ k_ < n2) ∧ k_ < n3) (.slice Ao57 t341.length co57) t341) ∧ (Kd.S k53 53 w' w.heap.size (fun k_ => n2 ≤ k_ ∧ k_ < n3) (.slice Ao67 t343.length co67) t343) ∧ (Kd.R Kd.bool 4 w' w.heap.size (fun k_ => n2 ≤ k_ ∧ k_ < n3) (.slice Ao68 t344.length co68) t344) ∧ (Kd.S k53 53 w' w.heap.size (fun k_ => n3 ≤ k_) (.slice Ao80 t314.length co80) t347) ∧ (Kd.R Kd.bool 4 w' w.heap.size (fun k_ => n3 ≤ k_) (.slice Ao81 t317.length co81) t348) ∧ (w'.heap[gb270]? = some (.cells #[.int .i64 a0_0, .slice A0_1 l0_1.length c0_1, .slice A0_2 l0_2.length c0_2] 25 (0, 0))) ∧ (w'.heap[gb271]? = some (.cells #[.int .i64 a1_0, .slice A1_1 l1_1.length c1_1, .slice A1_2 l1_2.length c1_2] 25 (0, 0))) ∧ (w'.heap[gb296]? = some (.cells #[.int .i64 t288, .slice Ao44 t289.length co44, .slice Ao46 t292.length co46] 29 (0, 0))) ∧ (w'.heap[gb304]? = some (.cells #[.int .i64 t297, .slice Ao56 t340.length co56, .slice Ao57 t341.length co57] 29 (0, 0))) ∧ (w'.heap[gb312]? = some (.cells #[.int .i64 t305, .slice Ao67 t343.length co67, .slice Ao68 t344.length co68] 29 (0, 0))) ∧ (w'.heap[gb321]? = some (.cells #[.int .i64 t313, .slice Ao80 t314.length co80, .slice Ao81 t317.length co81] 29 (0, 0))) ∧ (w'.heap[s_.2.2.2.2.2.2]? = some (.cells #[.int .i64 0, .slice none 0 0, .slice none 0 0] 29 (0, 0))) ∧ (w.heap.size ≤ s_.2.2.2.2.2.2) ∧ (w.heap.size ≤ s_.2.2.2.2.2.2) ∧ (gb270 ≠ s_.2.2.2.2.2.2) ∧ (s_.2.2.2.2.2.2 ≠ gb270) ∧ (gb271 ≠ s_.2.2.2.2.2.2) ∧ (s_.2.2.2.2.2.2 ≠ gb271) ∧ (gb296 ≠ s_.2.2.2.2.2.2) ∧ (s_.2.2.2.2.2.2 ≠ gb296) ∧ (gb304 ≠ s_.2.2.2.2.2.2) ∧ (s_.2.2.2.2.2.2 ≠ gb304) ∧ (gb312 ≠ s_.2.2.2.2.2.2) ∧ (s_.2.2.2.2.2.2 ≠ gb312) ∧ (gb321 ≠ s_.2.2.2.2.2.2) ∧ (s_.2.2.2.2.2.2 ≠ gb321) ∧ (Below w.heap.size w w')) ?_ ?_
        rotate_left
        ·
         intro hCont
         refine two_ (i := 1) (j := 8) (Ni := some 96) (Nj := some 15) #[true, true, true, false, false, false, false, false, false, false, false] #[true, false, true, false, false, false, false, false, true, false, false] rfl rfl rfl rfl (two_of HT_.out (by kernel_rfl)) (by decide) (by decide) (fun K hK => ?_) (fun K hK => ?_)
         ·
          skip
          refine goes_ Try.func7 (by kernel_rfl) rfl #[.agg #[.int .i64 a0_0, .slice A0_1 l0_1.length c0_1, .slice A0_2 l0_2.length c0_2]] (by rfl) rfl rfl (by (try simp only [List.map_toArray, List.map_cons, List.map_nil]); first | done | rfl) ?_
          with_reducible refine (Ff.calls kj116 a0_0 _ _ l0_1 _ _ l0_2 t350 t351 t354 _ ?side1 ?side2 ?side3 ?side4 A182.out).mono ?_
          (case side1 => exact uC HR0_1 HB)
          (case side2 => exact HC0_1.out)
          (case side3 => exact uC HR0_2 HB)
          (case side4 => exact HC0_2.out)
          rintro e w196 ⟨v352, v355, rfl, ho0, ho1, hb⟩
          refine ⟨_, rfl, ?_⟩
          have HO353 := jtS ho0 (below_size (uN HB))
          replace HO_297001 := jkS HO_297001 hb
          replace HO_305001 := jkS HO_305001 hb
          replace HO_313001 := jkS HO_313001 hb
          replace HO_322001 := jkS HO_322001 hb
          have HO356 := jtR ho1 (below_size (uN HB))
          replace HO_297002 := jkR HO_297002 hb
          replace HO_305002 := jkR HO_305002 hb
          replace HO_313002 := jkR HO_313002 hb
          replace HO_322002 := jkR HO_322002 hb
          replace BK270 := kB BK270 hb
          replace BK271 := kB BK271 hb
          replace BK296 := kB BK296 hb
          replace BK304 := kB BK304 hb
          replace BK312 := kB BK312 hb
          replace BK321 := kB BK321 hb
          replace HB := Aside0.mk (below_step (uN HB) hb)
          (try clear hb)
          (try clear hb2)
          (try clear hk)
          (try clear hi)
          (try clear ho0)
          (try clear ho1)
          refine hK.out _ _ ⟨bc BK270 0, bc BK270 1, bc BK270 2, bc BK271 0, bc BK271 1, bc BK271 2⟩ (fun hHeld => ?_)
          clear hK K
          refine norm_ (a' := ?_) ?_ ?_
          rotate_left
          ·
           show Act.put _ (some 96) _ = _
           simp only [Act.put, setIfInBounds_toArray, set_cons_zero, set_cons_succ, i64_w, i32_w]
           rfl
          refine two_ (i := 3) (j := 8) (Ni := some 98) (Nj := some 15) #[true, true, true, true, false, false, false, false, false, false, false] #[true, true, true, false, false, false, false, false, true, false, false] rfl rfl rfl rfl (two_of HT_.out (by kernel_rfl)) (by decide) (by decide) (fun K hK => ?_) (fun K hK => ?_)
          ·
           skip
           refine goes_ Try.func7 (by kernel_rfl) rfl #[.agg #[.int .i64 a1_0, .slice A1_1 l1_1.length c1_1, .slice A1_2 l1_2.length c1_2]] (by rfl) rfl rfl (by (try simp only [List.map_toArray, List.map_cons, List.map_nil]); first | done | rfl) ?_
           with_reducible refine (Ff.calls kj116 a1_0 _ _ l1_1 _ _ l1_2 t357 t358 t361 _ ?side1 ?side2 ?side3 ?side4 A183.out).mono ?_
           (case side1 => exact uC HR1_1 HB)
           (case side2 => exact HC1_1.out)
           (case side3 => exact uC HR1_2 HB)
           (case side4 => exact HC1_2.out)
           rintro e w197 ⟨v359, v362, rfl, ho0, ho1, hb⟩
           refine ⟨_, rfl, ?_⟩
           have HO360 := jtS ho0 (below_size (uN HB))
           replace HO_297001 := jkS HO_297001 hb
           replace HO_305001 := jkS HO_305001 hb
           replace HO_313001 := jkS HO_313001 hb
           replace HO_322001 := jkS HO_322001 hb
           replace HO353 := jkS HO353 hb
           have HO363 := jtR ho1 (below_size (uN HB))
           replace HO_297002 := jkR HO_297002 hb
           replace HO_305002 := jkR HO_305002 hb
           replace HO_313002 := jkR HO_313002 hb
           replace HO_322002 := jkR HO_322002 hb
           replace HO356 := jkR HO356 hb
           replace BK270 := kB BK270 hb
           replace BK271 := kB BK271 hb
           replace BK296 := kB BK296 hb
           replace BK304 := kB BK304 hb
           replace BK312 := kB BK312 hb
           replace BK321 := kB BK321 hb
           replace HB := Aside0.mk (below_step (uN HB) hb)
           (try clear hb)
           (try clear hb2)
           (try clear hk)
           (try clear hi)
           (try clear ho0)
           (try clear ho1)
           obtain ⟨Ao198, co198, eo198⟩ := Kd.S_slice HO353.out
           (first | subst eo198 | (injection eo198 with f1_ f2_ f3_; have f4_ := f1_.symm; have f5_ := f3_.symm; clear f1_ f2_ f3_; subst f4_; subst f5_))
           obtain ⟨Ao199, co199, eo199⟩ := Kd.R_slice HO356.out
           (first | subst eo199 | (injection eo199 with f1_ f2_ f3_; have f4_ := f1_.symm; have f5_ := f3_.symm; clear f1_ f2_ f3_; subst f4_; subst f5_))
           obtain ⟨Ao200, co200, eo200⟩ := Kd.S_slice HO360.out
           (first | subst eo200 | (injection eo200 with f1_ f2_ f3_; have f4_ := f1_.symm; have f5_ := f3_.symm; clear f1_ f2_ f3_; subst f4_; subst f5_))
           obtain ⟨Ao201, co201, eo201⟩ := Kd.R_slice HO363.out
           (first | subst eo201 | (injection eo201 with f1_ f2_ f3_; have f4_ := f1_.symm; have f5_ := f3_.symm; clear f1_ f2_ f3_; subst f4_; subst f5_))
           refine hK.out _ _ ⟨bc BK270 0, bc BK270 1, bc BK270 2, bc BK271 0, bc BK271 1, bc BK271 2⟩ (fun hHeld => ?_)
           clear hK K
           refine norm_ (a' := ?_) ?_ ?_
           rotate_left
           ·
            show Act.put _ (some 98) _ = _
            simp only [Act.put, setIfInBounds_toArray, set_cons_zero, set_cons_succ, i64_w, i32_w]
            rfl
           refine two_ (i := 4) (j := 8) (Ni := some 99) (Nj := some 15) #[true, true, true, true, true, false, false, false, false, false, false] #[true, true, true, true, false, false, false, false, true, false, false] rfl rfl rfl rfl (two_of HT_.out (by kernel_rfl)) (by decide) (by decide) (fun K hK => ?_) (fun K hK => ?_)
           ·
            skip
            refine goes_ Try.func8 (by kernel_rfl) rfl #[.agg #[.int .i64 t350, .slice Ao198 t351.length co198, .slice Ao199 t354.length co199], .agg #[.int .i64 t357, .slice Ao200 t358.length co200, .slice Ao201 t361.length co201]] (by rfl) rfl rfl (by (try simp only [List.map_toArray, List.map_cons, List.map_nil]); first | done | rfl) ?_
            with_reducible refine (Fb.calls kj116 t350 (fun _ => True) _ _ t351 (fun k_ => some k_ = (.slice Ao199 t354.length co199 : Value).ownBlock) _ _ t354 t357 (fun _ => True) _ _ t358 (fun k_ => some k_ = (.slice Ao201 t361.length co201 : Value).ownBlock) _ _ t361 t364 t365 t368 t371 _ ?side1 ?side2 ?side3 ?side4 A184.out).mono ?_
            (case side1 => exact Kd.S_V HO353.out)
            (case side2 => exact Kd.R_V (Kd.R_tight rfl HO356.out))
            (case side3 => exact Kd.S_V HO360.out)
            (case side4 => exact Kd.R_V (Kd.R_tight rfl HO363.out))
            rintro e w202 ⟨v366, v369, rfl, ho0, ho1, hb⟩
            refine ⟨_, rfl, ?_⟩
            have HO367 := jtS ho0 (below_size (uN HB))
            replace HO_297001 := jkS HO_297001 hb
            replace HO_305001 := jkS HO_305001 hb
            replace HO_313001 := jkS HO_313001 hb
            replace HO_322001 := jkS HO_322001 hb
            replace HO353 := jkS HO353 hb
            replace HO360 := jkS HO360 hb
            have HO370 := jtR ho1 (below_size (uN HB))
            replace HO_297002 := jkR HO_297002 hb
            replace HO_305002 := jkR HO_305002 hb
            replace HO_313002 := jkR HO_313002 hb
            replace HO_322002 := jkR HO_322002 hb
            replace HO356 := jkR HO356 hb
            replace HO363 := jkR HO363 hb
            replace BK270 := kB BK270 hb
            replace BK271 := kB BK271 hb
            replace BK296 := kB BK296 hb
            replace BK304 := kB BK304 hb
            replace BK312 := kB BK312 hb
            replace BK321 := kB BK321 hb
            replace HB := Aside0.mk (below_step (uN HB) hb)
            (try clear hb)
            (try clear hb2)
            (try clear hk)
            (try clear hi)
            (try clear ho0)
            (try clear ho1)
            refine hK.out _ _ ⟨bc BK270 0, bc BK270 1, bc BK270 2, bc BK271 0, bc BK271 1, bc BK271 2⟩ (fun hHeld => ?_)
            clear hK K
            refine norm_ (a' := ?_) ?_ ?_
            rotate_left
            ·
             show Act.put _ (some 99) _ = _
             simp only [Act.put, setIfInBounds_toArray, set_cons_zero, set_cons_succ, i64_w, i32_w]
             rfl
            refine pure_ (i := 5) (N := some 94) (v := ?_) (a' := ?_) #[true, true, true, true, true, true, false, false, false, false, false] rfl rfl (any_of HT_.out (by kernel_rfl)) (fun _ _ _ h => h) (Or.inl ⟨by rfl, ?_⟩) ?_ ?_
            rotate_left
            ·
             intro w'
             go_simp
             with_reducible rfl
            rotate_left
            ·
             simp only [Act.put, setIfInBounds_toArray, set_cons_zero, set_cons_succ, i64_w, i32_w]
             rfl
            refine pure_ (i := 6) (N := some 100) (v := ?_) (a' := ?_) #[true, true, true, true, true, true, true, false, false, false, false] rfl rfl (any_of HT_.out (by kernel_rfl)) (fun _ _ _ h => h) (Or.inl ⟨by rfl, ?_⟩) ?_ ?_
            rotate_left
            ·
             intro w'
             go_simp
             with_reducible rfl
            rotate_left
            ·
             simp only [Act.put, setIfInBounds_toArray, set_cons_zero, set_cons_succ, i64_w, i32_w]
             rfl
            refine pure_ (i := 7) (N := some 101) (v := ?_) (a' := ?_) #[true, true, true, true, true, true, true, true, false, false, false] rfl rfl (any_of HT_.out (by kernel_rfl)) (fun _ _ _ h => h) (Or.inl ⟨by rfl, ?_⟩) ?_ ?_
            rotate_left
            ·
             intro w'
             go_simp
             with_reducible rfl
            rotate_left
            ·
             simp only [Act.put, setIfInBounds_toArray, set_cons_zero, set_cons_succ, i64_w, i32_w]
             rfl
            refine one_ (i := 8) (N := some 15) #[true, true, true, true, true, true, true, true, true, false, false] rfl rfl (one_of HT_.out (by kernel_rfl)) (by decide) (fun K hK => ?_)
            refine box_step ?hg (N := 15) ?hd (cs := #[.int .i64 0, .slice none 0 0, .slice none 0 0]) (t := 29) ?hr ?_; (case hd => rfl); (case hg => rfl); (case hr => first | (go_simp; done) | (go_simp; rfl))
            intro gb372 hg w203 hbox hb
            replace HO_297001 := jkS HO_297001 hb
            replace HO_297002 := jkR HO_297002 hb
            replace HO_305001 := jkS HO_305001 hb
            replace HO_305002 := jkR HO_305002 hb
            replace HO_313001 := jkS HO_313001 hb
            replace HO_313002 := jkR HO_313002 hb
            replace HO_322001 := jkS HO_322001 hb
            replace HO_322002 := jkR HO_322002 hb
            replace HO353 := jkS HO353 hb
            replace HO356 := jkR HO356 hb
            replace HO360 := jkS HO360 hb
            replace HO363 := jkR HO363 hb
            replace HO367 := jkS HO367 hb
            replace HO370 := jkR HO370 hb
            have BK372 := Aside0.mk (hbox)
            have GW372 := nG HB hg
            have GE372 := nG HB hg
            have GI372 := gI GE372
            replace HB := Aside0.mk (below_step (uN HB) hb)
            have NB270_372 := nL BK270 hg
            have NB372_270 := nR BK270 hg
            replace BK270 := kB BK270 hb
            have NB271_372 := nL BK271 hg
            have NB372_271 := nR BK271 hg
            replace BK271 := kB BK271 hb
            have NB296_372 := nL BK296 hg
            have NB372_296 := nR BK296 hg
            replace BK296 := kB BK296 hb
            have NB304_372 := nL BK304 hg
            have NB372_304 := nR BK304 hg
            replace BK304 := kB BK304 hb
            have NB312_372 := nL BK312 hg
            have NB372_312 := nR BK312 hg
            replace BK312 := kB BK312 hb
            have NB321_372 := nL BK321 hg
            have NB372_321 := nR BK321 hg
            replace BK321 := kB BK321 hb
            clear hb hbox hg
            refine hK.out _ _ ⟨bc BK270 0, bc BK270 1, bc BK270 2, bc BK271 0, bc BK271 1, bc BK271 2⟩ (fun hHeld => ?_)
            clear hK K
            refine norm_ (a' := ?_) ?_ ?_
            rotate_left
            ·
             show Act.put _ (some 15) _ = _
             simp only [Act.put, setIfInBounds_toArray, set_cons_zero, set_cons_succ, i64_w, i32_w]
             rfl
            exact norm_ (by simp only [putAll, Act.put, setIfInBounds_toArray, set_cons_zero, set_cons_succ]) (hCont (.slice Ao198 t351.length co198, .slice Ao199 t354.length co199, .slice Ao200 t358.length co200, .slice Ao201 t361.length co201, v366, v369, gb372) _ ⟨hHeld, (jqS HO353), (uR HO356), (jqS HO360), (uR HO363), (jqS HO367), (uR HO370), (jqS HO_297001), (uR HO_297002), (jqS HO_305001), (uR HO_305002), (jqS HO_313001), (uR HO_313002), (jqS HO_322001), (uR HO_322002), (uK BK270), (uK BK271), (uK BK296), (uK BK304), (uK BK312), (uK BK321), (uK BK372), GW372.out, GE372.out, NB270_372.out, NB372_270.out, NB271_372.out, NB372_271.out, NB296_372.out, NB372_296.out, NB304_372.out, NB372_304.out, NB312_372.out, NB372_312.out, NB321_372.out, NB372_321.out, (uN HB)⟩)
           skip
           refine box_step ?hg (N := 15) ?hd (cs := #[.int .i64 0, .slice none 0 0, .slice none 0 0]) (t := 29) ?hr ?_; (case hd => rfl); (case hg => rfl); (case hr => first | (go_simp; done) | (go_simp; rfl))
           intro gb372 hg w198 hbox hb
           replace HO_297001 := jkS HO_297001 hb
           replace HO_297002 := jkR HO_297002 hb
           replace HO_305001 := jkS HO_305001 hb
           replace HO_305002 := jkR HO_305002 hb
           replace HO_313001 := jkS HO_313001 hb
           replace HO_313002 := jkR HO_313002 hb
           replace HO_322001 := jkS HO_322001 hb
           replace HO_322002 := jkR HO_322002 hb
           replace HO353 := jkS HO353 hb
           replace HO356 := jkR HO356 hb
           replace HO360 := jkS HO360 hb
           replace HO363 := jkR HO363 hb
           have BK372 := Aside0.mk (hbox)
           have GW372 := nG HB hg
           have GE372 := nG HB hg
           have GI372 := gI GE372
           replace HB := Aside0.mk (below_step (uN HB) hb)
           have NB270_372 := nL BK270 hg
           have NB372_270 := nR BK270 hg
           replace BK270 := kB BK270 hb
           have NB271_372 := nL BK271 hg
           have NB372_271 := nR BK271 hg
           replace BK271 := kB BK271 hb
           have NB296_372 := nL BK296 hg
           have NB372_296 := nR BK296 hg
           replace BK296 := kB BK296 hb
           have NB304_372 := nL BK304 hg
           have NB372_304 := nR BK304 hg
           replace BK304 := kB BK304 hb
           have NB312_372 := nL BK312 hg
           have NB372_312 := nR BK312 hg
           replace BK312 := kB BK312 hb
           have NB321_372 := nL BK321 hg
           have NB372_321 := nR BK321 hg
           replace BK321 := kB BK321 hb
           clear hb hbox hg
           obtain ⟨Ao199, co199, eo199⟩ := Kd.S_slice HO353.out
           (first | subst eo199 | (injection eo199 with f1_ f2_ f3_; have f4_ := f1_.symm; have f5_ := f3_.symm; clear f1_ f2_ f3_; subst f4_; subst f5_))
           obtain ⟨Ao200, co200, eo200⟩ := Kd.R_slice HO356.out
           (first | subst eo200 | (injection eo200 with f1_ f2_ f3_; have f4_ := f1_.symm; have f5_ := f3_.symm; clear f1_ f2_ f3_; subst f4_; subst f5_))
           obtain ⟨Ao201, co201, eo201⟩ := Kd.S_slice HO360.out
           (first | subst eo201 | (injection eo201 with f1_ f2_ f3_; have f4_ := f1_.symm; have f5_ := f3_.symm; clear f1_ f2_ f3_; subst f4_; subst f5_))
           obtain ⟨Ao202, co202, eo202⟩ := Kd.R_slice HO363.out
           (first | subst eo202 | (injection eo202 with f1_ f2_ f3_; have f4_ := f1_.symm; have f5_ := f3_.symm; clear f1_ f2_ f3_; subst f4_; subst f5_))
           refine hK.out _ _ ⟨bc BK270 0, bc BK270 1, bc BK270 2, bc BK271 0, bc BK271 1, bc BK271 2⟩ (fun hHeld => ?_)
           clear hK K
           refine norm_ (a' := ?_) ?_ ?_
           rotate_left
           ·
            show Act.put _ (some 15) _ = _
            simp only [Act.put, setIfInBounds_toArray, set_cons_zero, set_cons_succ, i64_w, i32_w]
            rfl
           refine one_ (i := 4) (N := some 99) #[true, true, true, true, true, false, false, false, true, false, false] rfl rfl (one_of HT_.out (by kernel_rfl)) (by decide) (fun K hK => ?_)
           refine goes_ Try.func8 (by kernel_rfl) rfl #[.agg #[.int .i64 t350, .slice Ao199 t351.length co199, .slice Ao200 t354.length co200], .agg #[.int .i64 t357, .slice Ao201 t358.length co201, .slice Ao202 t361.length co202]] (by rfl) rfl rfl (by (try simp only [List.map_toArray, List.map_cons, List.map_nil]); first | done | rfl) ?_
           with_reducible refine (Fb.calls kj116 t350 (fun _ => True) _ _ t351 (fun k_ => some k_ = (.slice Ao200 t354.length co200 : Value).ownBlock) _ _ t354 t357 (fun _ => True) _ _ t358 (fun k_ => some k_ = (.slice Ao202 t361.length co202 : Value).ownBlock) _ _ t361 t364 t365 t368 t371 _ ?side1 ?side2 ?side3 ?side4 A184.out).mono ?_
           (case side1 => exact Kd.S_V HO353.out)
           (case side2 => exact Kd.R_V (Kd.R_tight rfl HO356.out))
           (case side3 => exact Kd.S_V HO360.out)
           (case side4 => exact Kd.R_V (Kd.R_tight rfl HO363.out))
           rintro e w203 ⟨v366, v369, rfl, ho0, ho1, hb⟩
           refine ⟨_, rfl, ?_⟩
           have HO367 := jtS ho0 (below_size (uN HB))
           replace HO_297001 := jkS HO_297001 hb
           replace HO_305001 := jkS HO_305001 hb
           replace HO_313001 := jkS HO_313001 hb
           replace HO_322001 := jkS HO_322001 hb
           replace HO353 := jkS HO353 hb
           replace HO360 := jkS HO360 hb
           have HO370 := jtR ho1 (below_size (uN HB))
           replace HO_297002 := jkR HO_297002 hb
           replace HO_305002 := jkR HO_305002 hb
           replace HO_313002 := jkR HO_313002 hb
           replace HO_322002 := jkR HO_322002 hb
           replace HO356 := jkR HO356 hb
           replace HO363 := jkR HO363 hb
           replace BK270 := kB BK270 hb
           replace BK271 := kB BK271 hb
           replace BK296 := kB BK296 hb
           replace BK304 := kB BK304 hb
           replace BK312 := kB BK312 hb
           replace BK321 := kB BK321 hb
           replace BK372 := kB BK372 hb
           replace HB := Aside0.mk (below_step (uN HB) hb)
           (try clear hb)
           (try clear hb2)
           (try clear hk)
           (try clear hi)
           (try clear ho0)
           (try clear ho1)
           refine hK.out _ _ ⟨bc BK270 0, bc BK270 1, bc BK270 2, bc BK271 0, bc BK271 1, bc BK271 2⟩ (fun hHeld => ?_)
           clear hK K
           refine norm_ (a' := ?_) ?_ ?_
           rotate_left
           ·
            show Act.put _ (some 99) _ = _
            simp only [Act.put, setIfInBounds_toArray, set_cons_zero, set_cons_succ, i64_w, i32_w]
            rfl
           refine pure_ (i := 5) (N := some 94) (v := ?_) (a' := ?_) #[true, true, true, true, true, true, false, false, true, false, false] rfl rfl (any_of HT_.out (by kernel_rfl)) (fun _ _ _ h => h) (Or.inl ⟨by rfl, ?_⟩) ?_ ?_
           rotate_left
           ·
            intro w'
            go_simp
            with_reducible rfl
           rotate_left
           ·
            simp only [Act.put, setIfInBounds_toArray, set_cons_zero, set_cons_succ, i64_w, i32_w]
            rfl
           refine pure_ (i := 6) (N := some 100) (v := ?_) (a' := ?_) #[true, true, true, true, true, true, true, false, true, false, false] rfl rfl (any_of HT_.out (by kernel_rfl)) (fun _ _ _ h => h) (Or.inl ⟨by rfl, ?_⟩) ?_ ?_
           rotate_left
           ·
            intro w'
            go_simp
            with_reducible rfl
           rotate_left
           ·
            simp only [Act.put, setIfInBounds_toArray, set_cons_zero, set_cons_succ, i64_w, i32_w]
            rfl
           refine pure_ (i := 7) (N := some 101) (v := ?_) (a' := ?_) #[true, true, true, true, true, true, true, true, true, false, false] rfl rfl (any_of HT_.out (by kernel_rfl)) (fun _ _ _ h => h) (Or.inl ⟨by rfl, ?_⟩) ?_ ?_
           rotate_left
           ·
            intro w'
            go_simp
            with_reducible rfl
           rotate_left
           ·
            simp only [Act.put, setIfInBounds_toArray, set_cons_zero, set_cons_succ, i64_w, i32_w]
            rfl
           exact norm_ (by simp only [putAll, Act.put, setIfInBounds_toArray, set_cons_zero, set_cons_succ]) (hCont (.slice Ao199 t351.length co199, .slice Ao200 t354.length co200, .slice Ao201 t358.length co201, .slice Ao202 t361.length co202, v366, v369, gb372) _ ⟨hHeld, (jqS HO353), (uR HO356), (jqS HO360), (uR HO363), (jqS HO367), (uR HO370), (jqS HO_297001), (uR HO_297002), (jqS HO_305001), (uR HO_305002), (jqS HO_313001), (uR HO_313002), (jqS HO_322001), (uR HO_322002), (uK BK270), (uK BK271), (uK BK296), (uK BK304), (uK BK312), (uK BK321), (uK BK372), GW372.out, GE372.out, NB270_372.out, NB372_270.out, NB271_372.out, NB372_271.out, NB296_372.out, NB372_296.out, NB304_372.out, NB372_304.out, NB312_372.out, NB372_312.out, NB321_372.out, NB372_321.out, (uN HB)⟩)
          skip
          refine box_step ?hg (N := 15) ?hd (cs := #[.int .i64 0, .slice none 0 0, .slice none 0 0]) (t := 29) ?hr ?_; (case hd => rfl); (case hg => rfl); (case hr => first | (go_simp; done) | (go_simp; rfl))
          intro gb372 hg w197 hbox hb
          replace HO_297001 := jkS HO_297001 hb
          replace HO_297002 := jkR HO_297002 hb
          replace HO_305001 := jkS HO_305001 hb
          replace HO_305002 := jkR HO_305002 hb
          replace HO_313001 := jkS HO_313001 hb
          replace HO_313002 := jkR HO_313002 hb
          replace HO_322001 := jkS HO_322001 hb
          replace HO_322002 := jkR HO_322002 hb
          replace HO353 := jkS HO353 hb
          replace HO356 := jkR HO356 hb
          have BK372 := Aside0.mk (hbox)
          have GW372 := nG HB hg
          have GE372 := nG HB hg
          have GI372 := gI GE372
          replace HB := Aside0.mk (below_step (uN HB) hb)
          have NB270_372 := nL BK270 hg
          have NB372_270 := nR BK270 hg
          replace BK270 := kB BK270 hb
          have NB271_372 := nL BK271 hg
          have NB372_271 := nR BK271 hg
          replace BK271 := kB BK271 hb
          have NB296_372 := nL BK296 hg
          have NB372_296 := nR BK296 hg
          replace BK296 := kB BK296 hb
          have NB304_372 := nL BK304 hg
          have NB372_304 := nR BK304 hg
          replace BK304 := kB BK304 hb
          have NB312_372 := nL BK312 hg
          have NB372_312 := nR BK312 hg
          replace BK312 := kB BK312 hb
          have NB321_372 := nL BK321 hg
          have NB372_321 := nR BK321 hg
          replace BK321 := kB BK321 hb
          clear hb hbox hg
          refine hK.out _ _ ⟨bc BK270 0, bc BK270 1, bc BK270 2, bc BK271 0, bc BK271 1, bc BK271 2⟩ (fun hHeld => ?_)
          clear hK K
          refine norm_ (a' := ?_) ?_ ?_
          rotate_left
          ·
           show Act.put _ (some 15) _ = _
           simp only [Act.put, setIfInBounds_toArray, set_cons_zero, set_cons_succ, i64_w, i32_w]
           rfl
          refine one_ (i := 3) (N := some 98) #[true, true, true, true, false, false, false, false, true, false, false] rfl rfl (one_of HT_.out (by kernel_rfl)) (by decide) (fun K hK => ?_)
          refine goes_ Try.func7 (by kernel_rfl) rfl #[.agg #[.int .i64 a1_0, .slice A1_1 l1_1.length c1_1, .slice A1_2 l1_2.length c1_2]] (by rfl) rfl rfl (by (try simp only [List.map_toArray, List.map_cons, List.map_nil]); first | done | rfl) ?_
          with_reducible refine (Ff.calls kj116 a1_0 _ _ l1_1 _ _ l1_2 t357 t358 t361 _ ?side1 ?side2 ?side3 ?side4 A183.out).mono ?_
          (case side1 => exact uC HR1_1 HB)
          (case side2 => exact HC1_1.out)
          (case side3 => exact uC HR1_2 HB)
          (case side4 => exact HC1_2.out)
          rintro e w198 ⟨v359, v362, rfl, ho0, ho1, hb⟩
          refine ⟨_, rfl, ?_⟩
          have HO360 := jtS ho0 (below_size (uN HB))
          replace HO_297001 := jkS HO_297001 hb
          replace HO_305001 := jkS HO_305001 hb
          replace HO_313001 := jkS HO_313001 hb
          replace HO_322001 := jkS HO_322001 hb
          replace HO353 := jkS HO353 hb
          have HO363 := jtR ho1 (below_size (uN HB))
          replace HO_297002 := jkR HO_297002 hb
          replace HO_305002 := jkR HO_305002 hb
          replace HO_313002 := jkR HO_313002 hb
          replace HO_322002 := jkR HO_322002 hb
          replace HO356 := jkR HO356 hb
          replace BK270 := kB BK270 hb
          replace BK271 := kB BK271 hb
          replace BK296 := kB BK296 hb
          replace BK304 := kB BK304 hb
          replace BK312 := kB BK312 hb
          replace BK321 := kB BK321 hb
          replace BK372 := kB BK372 hb
          replace HB := Aside0.mk (below_step (uN HB) hb)
          (try clear hb)
          (try clear hb2)
          (try clear hk)
          (try clear hi)
          (try clear ho0)
          (try clear ho1)
          obtain ⟨Ao199, co199, eo199⟩ := Kd.S_slice HO353.out
          (first | subst eo199 | (injection eo199 with f1_ f2_ f3_; have f4_ := f1_.symm; have f5_ := f3_.symm; clear f1_ f2_ f3_; subst f4_; subst f5_))
          obtain ⟨Ao200, co200, eo200⟩ := Kd.R_slice HO356.out
          (first | subst eo200 | (injection eo200 with f1_ f2_ f3_; have f4_ := f1_.symm; have f5_ := f3_.symm; clear f1_ f2_ f3_; subst f4_; subst f5_))
          obtain ⟨Ao201, co201, eo201⟩ := Kd.S_slice HO360.out
          (first | subst eo201 | (injection eo201 with f1_ f2_ f3_; have f4_ := f1_.symm; have f5_ := f3_.symm; clear f1_ f2_ f3_; subst f4_; subst f5_))
          obtain ⟨Ao202, co202, eo202⟩ := Kd.R_slice HO363.out
          (first | subst eo202 | (injection eo202 with f1_ f2_ f3_; have f4_ := f1_.symm; have f5_ := f3_.symm; clear f1_ f2_ f3_; subst f4_; subst f5_))
          refine hK.out _ _ ⟨bc BK270 0, bc BK270 1, bc BK270 2, bc BK271 0, bc BK271 1, bc BK271 2⟩ (fun hHeld => ?_)
          clear hK K
          refine norm_ (a' := ?_) ?_ ?_
          rotate_left
          ·
           show Act.put _ (some 98) _ = _
           simp only [Act.put, setIfInBounds_toArray, set_cons_zero, set_cons_succ, i64_w, i32_w]
           rfl
          refine one_ (i := 4) (N := some 99) #[true, true, true, true, true, false, false, false, true, false, false] rfl rfl (one_of HT_.out (by kernel_rfl)) (by decide) (fun K hK => ?_)
          refine goes_ Try.func8 (by kernel_rfl) rfl #[.agg #[.int .i64 t350, .slice Ao199 t351.length co199, .slice Ao200 t354.length co200], .agg #[.int .i64 t357, .slice Ao201 t358.length co201, .slice Ao202 t361.length co202]] (by rfl) rfl rfl (by (try simp only [List.map_toArray, List.map_cons, List.map_nil]); first | done | rfl) ?_
          with_reducible refine (Fb.calls kj116 t350 (fun _ => True) _ _ t351 (fun k_ => some k_ = (.slice Ao200 t354.length co200 : Value).ownBlock) _ _ t354 t357 (fun _ => True) _ _ t358 (fun k_ => some k_ = (.slice Ao202 t361.length co202 : Value).ownBlock) _ _ t361 t364 t365 t368 t371 _ ?side1 ?side2 ?side3 ?side4 A184.out).mono ?_
          (case side1 => exact Kd.S_V HO353.out)
          (case side2 => exact Kd.R_V (Kd.R_tight rfl HO356.out))
          (case side3 => exact Kd.S_V HO360.out)
          (case side4 => exact Kd.R_V (Kd.R_tight rfl HO363.out))
          rintro e w203 ⟨v366, v369, rfl, ho0, ho1, hb⟩
          refine ⟨_, rfl, ?_⟩
          have HO367 := jtS ho0 (below_size (uN HB))
          replace HO_297001 := jkS HO_297001 hb
          replace HO_305001 := jkS HO_305001 hb
          replace HO_313001 := jkS HO_313001 hb
          replace HO_322001 := jkS HO_322001 hb
          replace HO353 := jkS HO353 hb
          replace HO360 := jkS HO360 hb
          have HO370 := jtR ho1 (below_size (uN HB))
          replace HO_297002 := jkR HO_297002 hb
          replace HO_305002 := jkR HO_305002 hb
          replace HO_313002 := jkR HO_313002 hb
          replace HO_322002 := jkR HO_322002 hb
          replace HO356 := jkR HO356 hb
          replace HO363 := jkR HO363 hb
          replace BK270 := kB BK270 hb
          replace BK271 := kB BK271 hb
          replace BK296 := kB BK296 hb
          replace BK304 := kB BK304 hb
          replace BK312 := kB BK312 hb
          replace BK321 := kB BK321 hb
          replace BK372 := kB BK372 hb
          replace HB := Aside0.mk (below_step (uN HB) hb)
          (try clear hb)
          (try clear hb2)
          (try clear hk)
          (try clear hi)
          (try clear ho0)
          (try clear ho1)
          refine hK.out _ _ ⟨bc BK270 0, bc BK270 1, bc BK270 2, bc BK271 0, bc BK271 1, bc BK271 2⟩ (fun hHeld => ?_)
          clear hK K
          refine norm_ (a' := ?_) ?_ ?_
          rotate_left
          ·
           show Act.put _ (some 99) _ = _
           simp only [Act.put, setIfInBounds_toArray, set_cons_zero, set_cons_succ, i64_w, i32_w]
           rfl
          refine pure_ (i := 5) (N := some 94) (v := ?_) (a' := ?_) #[true, true, true, true, true, true, false, false, true, false, false] rfl rfl (any_of HT_.out (by kernel_rfl)) (fun _ _ _ h => h) (Or.inl ⟨by rfl, ?_⟩) ?_ ?_
          rotate_left
          ·
           intro w'
           go_simp
           with_reducible rfl
          rotate_left
          ·
           simp only [Act.put, setIfInBounds_toArray, set_cons_zero, set_cons_succ, i64_w, i32_w]
           rfl
          refine pure_ (i := 6) (N := some 100) (v := ?_) (a' := ?_) #[true, true, true, true, true, true, true, false, true, false, false] rfl rfl (any_of HT_.out (by kernel_rfl)) (fun _ _ _ h => h) (Or.inl ⟨by rfl, ?_⟩) ?_ ?_
          rotate_left
          ·
           intro w'
           go_simp
           with_reducible rfl
          rotate_left
          ·
           simp only [Act.put, setIfInBounds_toArray, set_cons_zero, set_cons_succ, i64_w, i32_w]
           rfl
          refine pure_ (i := 7) (N := some 101) (v := ?_) (a' := ?_) #[true, true, true, true, true, true, true, true, true, false, false] rfl rfl (any_of HT_.out (by kernel_rfl)) (fun _ _ _ h => h) (Or.inl ⟨by rfl, ?_⟩) ?_ ?_
          rotate_left
          ·
           intro w'
           go_simp
           with_reducible rfl
          rotate_left
          ·
           simp only [Act.put, setIfInBounds_toArray, set_cons_zero, set_cons_succ, i64_w, i32_w]
           rfl
          exact norm_ (by simp only [putAll, Act.put, setIfInBounds_toArray, set_cons_zero, set_cons_succ]) (hCont (.slice Ao199 t351.length co199, .slice Ao200 t354.length co200, .slice Ao201 t358.length co201, .slice Ao202 t361.length co202, v366, v369, gb372) _ ⟨hHeld, (jqS HO353), (uR HO356), (jqS HO360), (uR HO363), (jqS HO367), (uR HO370), (jqS HO_297001), (uR HO_297002), (jqS HO_305001), (uR HO_305002), (jqS HO_313001), (uR HO_313002), (jqS HO_322001), (uR HO_322002), (uK BK270), (uK BK271), (uK BK296), (uK BK304), (uK BK312), (uK BK321), (uK BK372), GW372.out, GE372.out, NB270_372.out, NB372_270.out, NB271_372.out, NB372_271.out, NB296_372.out, NB372_296.out, NB304_372.out, NB372_304.out, NB312_372.out, NB372_312.out, NB321_372.out, NB372_321.out, (uN HB)⟩)
         skip
         refine box_step ?hg (N := 15) ?hd (cs := #[.int .i64 0, .slice none 0 0, .slice none 0 0]) (t := 29) ?hr ?_; (case hd => rfl); (case hg => rfl); (case hr => first | (go_simp; done) | (go_simp; rfl))
         intro gb372 hg w196 hbox hb
         replace HO_297001 := jkS HO_297001 hb
         replace HO_297002 := jkR HO_297002 hb
         replace HO_305001 := jkS HO_305001 hb
         replace HO_305002 := jkR HO_305002 hb
         replace HO_313001 := jkS HO_313001 hb
         replace HO_313002 := jkR HO_313002 hb
         replace HO_322001 := jkS HO_322001 hb
         replace HO_322002 := jkR HO_322002 hb
         have BK372 := Aside0.mk (hbox)
         have GW372 := nG HB hg
         have GE372 := nG HB hg
         have GI372 := gI GE372
         replace HB := Aside0.mk (below_step (uN HB) hb)
         have NB270_372 := nL BK270 hg
         have NB372_270 := nR BK270 hg
         replace BK270 := kB BK270 hb
         have NB271_372 := nL BK271 hg
         have NB372_271 := nR BK271 hg
         replace BK271 := kB BK271 hb
         have NB296_372 := nL BK296 hg
         have NB372_296 := nR BK296 hg
         replace BK296 := kB BK296 hb
         have NB304_372 := nL BK304 hg
         have NB372_304 := nR BK304 hg
         replace BK304 := kB BK304 hb
         have NB312_372 := nL BK312 hg
         have NB372_312 := nR BK312 hg
         replace BK312 := kB BK312 hb
         have NB321_372 := nL BK321 hg
         have NB372_321 := nR BK321 hg
         replace BK321 := kB BK321 hb
         clear hb hbox hg
         refine hK.out _ _ ⟨bc BK270 0, bc BK270 1, bc BK270 2, bc BK271 0, bc BK271 1, bc BK271 2⟩ (fun hHeld => ?_)
         clear hK K
         refine norm_ (a' := ?_) ?_ ?_
         rotate_left
         ·
          show Act.put _ (some 15) _ = _
          simp only [Act.put, setIfInBounds_toArray, set_cons_zero, set_cons_succ, i64_w, i32_w]
          rfl
         refine one_ (i := 1) (N := some 96) #[true, true, true, false, false, false, false, false, true, false, false] rfl rfl (one_of HT_.out (by kernel_rfl)) (by decide) (fun K hK => ?_)
         refine goes_ Try.func7 (by kernel_rfl) rfl #[.agg #[.int .i64 a0_0, .slice A0_1 l0_1.length c0_1, .slice A0_2 l0_2.length c0_2]] (by rfl) rfl rfl (by (try simp only [List.map_toArray, List.map_cons, List.map_nil]); first | done | rfl) ?_
         with_reducible refine (Ff.calls kj116 a0_0 _ _ l0_1 _ _ l0_2 t350 t351 t354 _ ?side1 ?side2 ?side3 ?side4 A182.out).mono ?_
         (case side1 => exact uC HR0_1 HB)
         (case side2 => exact HC0_1.out)
         (case side3 => exact uC HR0_2 HB)
         (case side4 => exact HC0_2.out)
         rintro e w197 ⟨v352, v355, rfl, ho0, ho1, hb⟩
         refine ⟨_, rfl, ?_⟩
         have HO353 := jtS ho0 (below_size (uN HB))
         replace HO_297001 := jkS HO_297001 hb
         replace HO_305001 := jkS HO_305001 hb
         replace HO_313001 := jkS HO_313001 hb
         replace HO_322001 := jkS HO_322001 hb
         have HO356 := jtR ho1 (below_size (uN HB))
         replace HO_297002 := jkR HO_297002 hb
         replace HO_305002 := jkR HO_305002 hb
         replace HO_313002 := jkR HO_313002 hb
         replace HO_322002 := jkR HO_322002 hb
         replace BK270 := kB BK270 hb
         replace BK271 := kB BK271 hb
         replace BK296 := kB BK296 hb
         replace BK304 := kB BK304 hb
         replace BK312 := kB BK312 hb
         replace BK321 := kB BK321 hb
         replace BK372 := kB BK372 hb
         replace HB := Aside0.mk (below_step (uN HB) hb)
         (try clear hb)
         (try clear hb2)
         (try clear hk)
         (try clear hi)
         (try clear ho0)
         (try clear ho1)
         refine hK.out _ _ ⟨bc BK270 0, bc BK270 1, bc BK270 2, bc BK271 0, bc BK271 1, bc BK271 2⟩ (fun hHeld => ?_)
         clear hK K
         refine norm_ (a' := ?_) ?_ ?_
         rotate_left
         ·
          show Act.put _ (some 96) _ = _
          simp only [Act.put, setIfInBounds_toArray, set_cons_zero, set_cons_succ, i64_w, i32_w]
          rfl
         refine one_ (i := 3) (N := some 98) #[true, true, true, true, false, false, false, false, true, false, false] rfl rfl (one_of HT_.out (by kernel_rfl)) (by decide) (fun K hK => ?_)
         refine goes_ Try.func7 (by kernel_rfl) rfl #[.agg #[.int .i64 a1_0, .slice A1_1 l1_1.length c1_1, .slice A1_2 l1_2.length c1_2]] (by rfl) rfl rfl (by (try simp only [List.map_toArray, List.map_cons, List.map_nil]); first | done | rfl) ?_
         with_reducible refine (Ff.calls kj116 a1_0 _ _ l1_1 _ _ l1_2 t357 t358 t361 _ ?side1 ?side2 ?side3 ?side4 A183.out).mono ?_
         (case side1 => exact uC HR1_1 HB)
         (case side2 => exact HC1_1.out)
         (case side3 => exact uC HR1_2 HB)
         (case side4 => exact HC1_2.out)
         rintro e w198 ⟨v359, v362, rfl, ho0, ho1, hb⟩
         refine ⟨_, rfl, ?_⟩
         have HO360 := jtS ho0 (below_size (uN HB))
         replace HO_297001 := jkS HO_297001 hb
         replace HO_305001 := jkS HO_305001 hb
         replace HO_313001 := jkS HO_313001 hb
         replace HO_322001 := jkS HO_322001 hb
         replace HO353 := jkS HO353 hb
         have HO363 := jtR ho1 (below_size (uN HB))
         replace HO_297002 := jkR HO_297002 hb
         replace HO_305002 := jkR HO_305002 hb
         replace HO_313002 := jkR HO_313002 hb
         replace HO_322002 := jkR HO_322002 hb
         replace HO356 := jkR HO356 hb
         replace BK270 := kB BK270 hb
         replace BK271 := kB BK271 hb
         replace BK296 := kB BK296 hb
         replace BK304 := kB BK304 hb
         replace BK312 := kB BK312 hb
         replace BK321 := kB BK321 hb
         replace BK372 := kB BK372 hb
         replace HB := Aside0.mk (below_step (uN HB) hb)
         (try clear hb)
         (try clear hb2)
         (try clear hk)
         (try clear hi)
         (try clear ho0)
         (try clear ho1)
         obtain ⟨Ao199, co199, eo199⟩ := Kd.S_slice HO353.out
         (first | subst eo199 | (injection eo199 with f1_ f2_ f3_; have f4_ := f1_.symm; have f5_ := f3_.symm; clear f1_ f2_ f3_; subst f4_; subst f5_))
         obtain ⟨Ao200, co200, eo200⟩ := Kd.R_slice HO356.out
         (first | subst eo200 | (injection eo200 with f1_ f2_ f3_; have f4_ := f1_.symm; have f5_ := f3_.symm; clear f1_ f2_ f3_; subst f4_; subst f5_))
         obtain ⟨Ao201, co201, eo201⟩ := Kd.S_slice HO360.out
         (first | subst eo201 | (injection eo201 with f1_ f2_ f3_; have f4_ := f1_.symm; have f5_ := f3_.symm; clear f1_ f2_ f3_; subst f4_; subst f5_))
         obtain ⟨Ao202, co202, eo202⟩ := Kd.R_slice HO363.out
         (first | subst eo202 | (injection eo202 with f1_ f2_ f3_; have f4_ := f1_.symm; have f5_ := f3_.symm; clear f1_ f2_ f3_; subst f4_; subst f5_))
         refine hK.out _ _ ⟨bc BK270 0, bc BK270 1, bc BK270 2, bc BK271 0, bc BK271 1, bc BK271 2⟩ (fun hHeld => ?_)
         clear hK K
         refine norm_ (a' := ?_) ?_ ?_
         rotate_left
         ·
          show Act.put _ (some 98) _ = _
          simp only [Act.put, setIfInBounds_toArray, set_cons_zero, set_cons_succ, i64_w, i32_w]
          rfl
         refine one_ (i := 4) (N := some 99) #[true, true, true, true, true, false, false, false, true, false, false] rfl rfl (one_of HT_.out (by kernel_rfl)) (by decide) (fun K hK => ?_)
         refine goes_ Try.func8 (by kernel_rfl) rfl #[.agg #[.int .i64 t350, .slice Ao199 t351.length co199, .slice Ao200 t354.length co200], .agg #[.int .i64 t357, .slice Ao201 t358.length co201, .slice Ao202 t361.length co202]] (by rfl) rfl rfl (by (try simp only [List.map_toArray, List.map_cons, List.map_nil]); first | done | rfl) ?_
         with_reducible refine (Fb.calls kj116 t350 (fun _ => True) _ _ t351 (fun k_ => some k_ = (.slice Ao200 t354.length co200 : Value).ownBlock) _ _ t354 t357 (fun _ => True) _ _ t358 (fun k_ => some k_ = (.slice Ao202 t361.length co202 : Value).ownBlock) _ _ t361 t364 t365 t368 t371 _ ?side1 ?side2 ?side3 ?side4 A184.out).mono ?_
         (case side1 => exact Kd.S_V HO353.out)
         (case side2 => exact Kd.R_V (Kd.R_tight rfl HO356.out))
         (case side3 => exact Kd.S_V HO360.out)
         (case side4 => exact Kd.R_V (Kd.R_tight rfl HO363.out))
         rintro e w203 ⟨v366, v369, rfl, ho0, ho1, hb⟩
         refine ⟨_, rfl, ?_⟩
         have HO367 := jtS ho0 (below_size (uN HB))
         replace HO_297001 := jkS HO_297001 hb
         replace HO_305001 := jkS HO_305001 hb
         replace HO_313001 := jkS HO_313001 hb
         replace HO_322001 := jkS HO_322001 hb
         replace HO353 := jkS HO353 hb
         replace HO360 := jkS HO360 hb
         have HO370 := jtR ho1 (below_size (uN HB))
         replace HO_297002 := jkR HO_297002 hb
         replace HO_305002 := jkR HO_305002 hb
         replace HO_313002 := jkR HO_313002 hb
         replace HO_322002 := jkR HO_322002 hb
         replace HO356 := jkR HO356 hb
         replace HO363 := jkR HO363 hb
         replace BK270 := kB BK270 hb
         replace BK271 := kB BK271 hb
         replace BK296 := kB BK296 hb
         replace BK304 := kB BK304 hb
         replace BK312 := kB BK312 hb
         replace BK321 := kB BK321 hb
         replace BK372 := kB BK372 hb
         replace HB := Aside0.mk (below_step (uN HB) hb)
         (try clear hb)
         (try clear hb2)
         (try clear hk)
         (try clear hi)
         (try clear ho0)
         (try clear ho1)
         refine hK.out _ _ ⟨bc BK270 0, bc BK270 1, bc BK270 2, bc BK271 0, bc BK271 1, bc BK271 2⟩ (fun hHeld => ?_)
         clear hK K
         refine norm_ (a' := ?_) ?_ ?_
         rotate_left
         ·
          show Act.put _ (some 99) _ = _
          simp only [Act.put, setIfInBounds_toArray, set_cons_zero, set_cons_succ, i64_w, i32_w]
          rfl
         refine pure_ (i := 5) (N := some 94) (v := ?_) (a' := ?_) #[true, true, true, true, true, true, false, false, true, false, false] rfl rfl (any_of HT_.out (by kernel_rfl)) (fun _ _ _ h => h) (Or.inl ⟨by rfl, ?_⟩) ?_ ?_
         rotate_left
         ·
          intro w'
          go_simp
          with_reducible rfl
         rotate_left
         ·
          simp only [Act.put, setIfInBounds_toArray, set_cons_zero, set_cons_succ, i64_w, i32_w]
          rfl
         refine pure_ (i := 6) (N := some 100) (v := ?_) (a' := ?_) #[true, true, true, true, true, true, true, false, true, false, false] rfl rfl (any_of HT_.out (by kernel_rfl)) (fun _ _ _ h => h) (Or.inl ⟨by rfl, ?_⟩) ?_ ?_
         rotate_left
         ·
          intro w'
          go_simp
          with_reducible rfl
         rotate_left
         ·
          simp only [Act.put, setIfInBounds_toArray, set_cons_zero, set_cons_succ, i64_w, i32_w]
          rfl
         refine pure_ (i := 7) (N := some 101) (v := ?_) (a' := ?_) #[true, true, true, true, true, true, true, true, true, false, false] rfl rfl (any_of HT_.out (by kernel_rfl)) (fun _ _ _ h => h) (Or.inl ⟨by rfl, ?_⟩) ?_ ?_
         rotate_left
         ·
          intro w'
          go_simp
          with_reducible rfl
         rotate_left
         ·
          simp only [Act.put, setIfInBounds_toArray, set_cons_zero, set_cons_succ, i64_w, i32_w]
          rfl
         exact norm_ (by simp only [putAll, Act.put, setIfInBounds_toArray, set_cons_zero, set_cons_succ]) (hCont (.slice Ao199 t351.length co199, .slice Ao200 t354.length co200, .slice Ao201 t358.length co201, .slice Ao202 t361.length co202, v366, v369, gb372) _ ⟨hHeld, (jqS HO353), (uR HO356), (jqS HO360), (uR HO363), (jqS HO367), (uR HO370), (jqS HO_297001), (uR HO_297002), (jqS HO_305001), (uR HO_305002), (jqS HO_313001), (uR HO_313002), (jqS HO_322001), (uR HO_322002), (uK BK270), (uK BK271), (uK BK296), (uK BK304), (uK BK312), (uK BK321), (uK BK372), GW372.out, GE372.out, NB270_372.out, NB372_270.out, NB271_372.out, NB372_271.out, NB296_372.out, NB372_296.out, NB304_372.out, NB372_304.out, NB312_372.out, NB372_312.out, NB321_372.out, NB372_321.out, (uN HB)⟩)
        rintro ⟨v352, v355, v359, v362, v366, v369, gb372⟩ w204 ⟨hS_, h0_, h1_, h2_, h3_, h4_, h5_, h6_, h7_, h8_, h9_, h10_, h11_, h12_, h13_, h14_, h15_, h16_, h17_, h18_, h19_, h20_, h21_, h22_, h23_, h24_, h25_, h26_, h27_, h28_, h29_, h30_, h31_, h32_, h33_, h34_, h35_⟩
        have n0_ : Aside0 (Kd.S k53 53 w204 w.heap.size (fun _ => True) v352 t351) := ⟨h0_⟩
        have n1_ : Aside0 (Kd.R Kd.bool 4 w204 w.heap.size (fun _ => True) v355 t354) := ⟨h1_⟩
        have n2_ : Aside0 (Kd.S k53 53 w204 w.heap.size (fun _ => True) v359 t358) := ⟨h2_⟩
        have n3_ : Aside0 (Kd.R Kd.bool 4 w204 w.heap.size (fun _ => True) v362 t361) := ⟨h3_⟩
        have n4_ : Aside0 (Kd.S k53 53 w204 w.heap.size (fun _ => True) v366 t365) := ⟨h4_⟩
        have n5_ : Aside0 (Kd.R Kd.bool 4 w204 w.heap.size (fun _ => True) v369 t368) := ⟨h5_⟩
        have n6_ : Aside0 (Kd.S k53 53 w204 w.heap.size (fun k_ => ((True ∧ k_ < n1) ∧ k_ < n2) ∧ k_ < n3) (.slice Ao44 t289.length co44) t289) := ⟨h6_⟩
        have n7_ : Aside0 (Kd.R Kd.bool 4 w204 w.heap.size (fun k_ => ((True ∧ k_ < n1) ∧ k_ < n2) ∧ k_ < n3) (.slice Ao46 t292.length co46) t292) := ⟨h7_⟩
        have n8_ : Aside0 (Kd.S k53 53 w204 w.heap.size (fun k_ => (n1 ≤ k_ ∧ k_ < n2) ∧ k_ < n3) (.slice Ao56 t340.length co56) t340) := ⟨h8_⟩
        have n9_ : Aside0 (Kd.R Kd.bool 4 w204 w.heap.size (fun k_ => (n1 ≤ k_ ∧ k_ < n2) ∧ k_ < n3) (.slice Ao57 t341.length co57) t341) := ⟨h9_⟩
        have n10_ : Aside0 (Kd.S k53 53 w204 w.heap.size (fun k_ => n2 ≤ k_ ∧ k_ < n3) (.slice Ao67 t343.length co67) t343) := ⟨h10_⟩
        have n11_ : Aside0 (Kd.R Kd.bool 4 w204 w.heap.size (fun k_ => n2 ≤ k_ ∧ k_ < n3) (.slice Ao68 t344.length co68) t344) := ⟨h11_⟩
        have n12_ : Aside0 (Kd.S k53 53 w204 w.heap.size (fun k_ => n3 ≤ k_) (.slice Ao80 t314.length co80) t347) := ⟨h12_⟩
        have n13_ : Aside0 (Kd.R Kd.bool 4 w204 w.heap.size (fun k_ => n3 ≤ k_) (.slice Ao81 t317.length co81) t348) := ⟨h13_⟩
        have n14_ : Aside0 (w204.heap[gb270]? = some (.cells #[.int .i64 a0_0, .slice A0_1 l0_1.length c0_1, .slice A0_2 l0_2.length c0_2] 25 (0, 0))) := ⟨h14_⟩
        have n15_ : Aside0 (w204.heap[gb271]? = some (.cells #[.int .i64 a1_0, .slice A1_1 l1_1.length c1_1, .slice A1_2 l1_2.length c1_2] 25 (0, 0))) := ⟨h15_⟩
        have n16_ : Aside0 (w204.heap[gb296]? = some (.cells #[.int .i64 t288, .slice Ao44 t289.length co44, .slice Ao46 t292.length co46] 29 (0, 0))) := ⟨h16_⟩
        have n17_ : Aside0 (w204.heap[gb304]? = some (.cells #[.int .i64 t297, .slice Ao56 t340.length co56, .slice Ao57 t341.length co57] 29 (0, 0))) := ⟨h17_⟩
        have n18_ : Aside0 (w204.heap[gb312]? = some (.cells #[.int .i64 t305, .slice Ao67 t343.length co67, .slice Ao68 t344.length co68] 29 (0, 0))) := ⟨h18_⟩
        have n19_ : Aside0 (w204.heap[gb321]? = some (.cells #[.int .i64 t313, .slice Ao80 t314.length co80, .slice Ao81 t317.length co81] 29 (0, 0))) := ⟨h19_⟩
        have n20_ : Aside0 (w204.heap[gb372]? = some (.cells #[.int .i64 0, .slice none 0 0, .slice none 0 0] 29 (0, 0))) := ⟨h20_⟩
        have n21_ : Aside0 (w.heap.size ≤ gb372) := ⟨h21_⟩
        have n22_ : Aside0 (w.heap.size ≤ gb372) := ⟨h22_⟩
        have n23_ : Aside0 (gb270 ≠ gb372) := ⟨h23_⟩
        have n24_ : Aside0 (gb372 ≠ gb270) := ⟨h24_⟩
        have n25_ : Aside0 (gb271 ≠ gb372) := ⟨h25_⟩
        have n26_ : Aside0 (gb372 ≠ gb271) := ⟨h26_⟩
        have n27_ : Aside0 (gb296 ≠ gb372) := ⟨h27_⟩
        have n28_ : Aside0 (gb372 ≠ gb296) := ⟨h28_⟩
        have n29_ : Aside0 (gb304 ≠ gb372) := ⟨h29_⟩
        have n30_ : Aside0 (gb372 ≠ gb304) := ⟨h30_⟩
        have n31_ : Aside0 (gb312 ≠ gb372) := ⟨h31_⟩
        have n32_ : Aside0 (gb372 ≠ gb312) := ⟨h32_⟩
        have n33_ : Aside0 (gb321 ≠ gb372) := ⟨h33_⟩
        have n34_ : Aside0 (gb372 ≠ gb321) := ⟨h34_⟩
        have n35_ : Aside0 (Below w.heap.size w w204) := ⟨h35_⟩
        clear HO_297001
        clear HO_297002
        clear HO_305001
        clear HO_305002
        clear HO_313001
        clear HO_313002
        clear HO_322001
        clear HO_322002
        clear BK270
        clear BK271
        clear BK296
        clear BK304
        clear BK312
        clear BK321
        clear HB
        clear h0_ h1_ h2_ h3_ h4_ h5_ h6_ h7_ h8_ h9_ h10_ h11_ h12_ h13_ h14_ h15_ h16_ h17_ h18_ h19_ h20_ h21_ h22_ h23_ h24_ h25_ h26_ h27_ h28_ h29_ h30_ h31_ h32_ h33_ h34_ h35_
        have HO353 := n0_
        have HO356 := n1_
        have HO360 := n2_
        have HO363 := n3_
        have HO367 := n4_
        have HO370 := n5_
        have HO_297001 := n6_
        have HO_297002 := n7_
        have HO_305001 := n8_
        have HO_305002 := n9_
        have HO_313001 := n10_
        have HO_313002 := n11_
        have HO_322001 := n12_
        have HO_322002 := n13_
        have BK270 := n14_
        have BK271 := n15_
        have BK296 := n16_
        have BK304 := n17_
        have BK312 := n18_
        have BK321 := n19_
        have BK372 := n20_
        have GW372 := n21_
        have GE372 := n22_
        have GI372 := gI GE372
        have NB270_372 := n23_
        have NB372_270 := n24_
        have NB271_372 := n25_
        have NB372_271 := n26_
        have NB296_372 := n27_
        have NB372_296 := n28_
        have NB304_372 := n29_
        have NB372_304 := n30_
        have NB312_372 := n31_
        have NB372_312 := n32_
        have NB321_372 := n33_
        have NB372_321 := n34_
        have HB := n35_
        clear n0_ n1_ n2_ n3_ n4_ n5_ n6_ n7_ n8_ n9_ n10_ n11_ n12_ n13_ n14_ n15_ n16_ n17_ n18_ n19_ n20_ n21_ n22_ n23_ n24_ n25_ n26_ n27_ n28_ n29_ n30_ n31_ n32_ n33_ n34_ n35_
        have hHeld : w204.cell? ⟨gb270, 0, none⟩ = some (.int .i64 a0_0) ∧ w204.cell? ⟨gb270, 1, none⟩ = some (.slice A0_1 l0_1.length c0_1) ∧ w204.cell? ⟨gb270, 2, none⟩ = some (.slice A0_2 l0_2.length c0_2) ∧ w204.cell? ⟨gb271, 0, none⟩ = some (.int .i64 a1_0) ∧ w204.cell? ⟨gb271, 1, none⟩ = some (.slice A1_1 l1_1.length c1_1) ∧ w204.cell? ⟨gb271, 2, none⟩ = some (.slice A1_2 l1_2.length c1_2) := hS_
        obtain ⟨Ao206, co206, eo206⟩ := Kd.S_slice HO367.out
        (first | subst eo206 | (injection eo206 with f1_ f2_ f3_; have f4_ := f1_.symm; have f5_ := f3_.symm; clear f1_ f2_ f3_; subst f4_; subst f5_))
        obtain ⟨Ao208, co208, eo208⟩ := Kd.R_slice HO370.out
        (first | subst eo208 | (injection eo208 with f1_ f2_ f3_; have f4_ := f1_.symm; have f5_ := f3_.symm; clear f1_ f2_ f3_; subst f4_; subst f5_))
        refine norm_ (a' := ?_) ?_ ?_
        rotate_left
        ·
         simp only [putAll, Act.put, setIfInBounds_toArray, set_cons_zero, set_cons_succ]
         rfl
        refine one_ (i := 9) (N := none) #[true, true, true, true, true, true, true, true, true, true, false] rfl rfl (one_of HT_.out (by kernel_rfl)) (by decide) (fun K hK => ?_)
        have hs205 : w204.cell? ⟨gb372, 0, none⟩ = some (.int .i64 0) := bc BK372 0
        have hfs205 := blk_frozen BK372.out 0
        have hns205_0 := NB270_372.out
        have hns205_1 := NB271_372.out
        have hns205_2 := NB296_372.out
        have hns205_3 := NB304_372.out
        have hns205_4 := NB312_372.out
        have hns205_5 := NB321_372.out
        have hms205_0 := NB372_270.out
        have hms205_1 := NB372_271.out
        have hms205_2 := NB372_296.out
        have hms205_3 := NB372_304.out
        have hms205_4 := NB372_312.out
        have hms205_5 := NB372_321.out
        have hs207 : w204.cell? ⟨gb372, 1, none⟩ = some (.slice none 0 0) := bc BK372 1
        have hfs207 := blk_frozen BK372.out 1
        have hns207_0 := NB270_372.out
        have hns207_1 := NB271_372.out
        have hns207_2 := NB296_372.out
        have hns207_3 := NB304_372.out
        have hns207_4 := NB312_372.out
        have hns207_5 := NB321_372.out
        have hms207_0 := NB372_270.out
        have hms207_1 := NB372_271.out
        have hms207_2 := NB372_296.out
        have hms207_3 := NB372_304.out
        have hms207_4 := NB372_312.out
        have hms207_5 := NB372_321.out
        have hs209 : w204.cell? ⟨gb372, 2, none⟩ = some (.slice none 0 0) := bc BK372 2
        have hfs209 := blk_frozen BK372.out 2
        have hns209_0 := NB270_372.out
        have hns209_1 := NB271_372.out
        have hns209_2 := NB296_372.out
        have hns209_3 := NB304_372.out
        have hns209_4 := NB312_372.out
        have hns209_5 := NB321_372.out
        have hms209_0 := NB372_270.out
        have hms209_1 := NB372_271.out
        have hms209_2 := NB372_296.out
        have hms209_3 := NB372_304.out
        have hms209_4 := NB372_312.out
        have hms209_5 := NB372_321.out
        refine skip_ (w1 := ?_) (by rfl) rfl ?_ ?_
        rotate_left
        ·
         go_simp
         rfl
        refine hK.out _ _ ⟨((cell_far (p := ⟨gb372, _, none⟩) NB270_372.out _).trans (((cell_far (p := ⟨gb372, _, none⟩) NB270_372.out _).trans (((cell_far (p := ⟨gb372, _, none⟩) NB270_372.out _).trans (hHeld.1)))))), ((cell_far (p := ⟨gb372, _, none⟩) NB270_372.out _).trans (((cell_far (p := ⟨gb372, _, none⟩) NB270_372.out _).trans (((cell_far (p := ⟨gb372, _, none⟩) NB270_372.out _).trans (hHeld.2.1)))))), ((cell_far (p := ⟨gb372, _, none⟩) NB270_372.out _).trans (((cell_far (p := ⟨gb372, _, none⟩) NB270_372.out _).trans (((cell_far (p := ⟨gb372, _, none⟩) NB270_372.out _).trans (hHeld.2.2.1)))))), ((cell_far (p := ⟨gb372, _, none⟩) NB271_372.out _).trans (((cell_far (p := ⟨gb372, _, none⟩) NB271_372.out _).trans (((cell_far (p := ⟨gb372, _, none⟩) NB271_372.out _).trans (hHeld.2.2.2.1)))))), ((cell_far (p := ⟨gb372, _, none⟩) NB271_372.out _).trans (((cell_far (p := ⟨gb372, _, none⟩) NB271_372.out _).trans (((cell_far (p := ⟨gb372, _, none⟩) NB271_372.out _).trans (hHeld.2.2.2.2.1)))))), ((cell_far (p := ⟨gb372, _, none⟩) NB271_372.out _).trans (((cell_far (p := ⟨gb372, _, none⟩) NB271_372.out _).trans (((cell_far (p := ⟨gb372, _, none⟩) NB271_372.out _).trans (hHeld.2.2.2.2.2))))))⟩ (fun hHeld => ?_)
        clear hK K
        refine pure_ (i := 10) (N := some 16) (v := ?_) (a' := ?_) #[true, true, true, true, true, true, true, true, true, true, true] rfl rfl (any_of HT_.out (by kernel_rfl)) (fun _ _ _ h => h) (Or.inl ⟨by rfl, ?_⟩) ?_ ?_
        rotate_left
        ·
         intro w'
         go_simp
         with_reducible rfl
        rotate_left
        ·
         simp only [Act.put, setIfInBounds_toArray, set_cons_zero, set_cons_succ, i64_w, i32_w]
         rfl
        refine done_ (done_of HT_.out (by kernel_rfl)) ?_
        go_upto_region 32 with (fail)
        go_cut [110] (fun v110 wc => ∃ (kq : Nat) (x110_184 : Bool), v110 = .bool x110_184 ∧ Aside0 (Fc.j2 kq t346 x110_184 t313 t347 t348 = some r) ∧ Aside0 (kq ≤ kj116) ∧ Aside0 (Kd.S k53 53 wc w.heap.size (fun k_ => ((True ∧ k_ < n1) ∧ k_ < n2) ∧ k_ < n3) (.slice Ao44 t289.length co44) t289) ∧ Aside0 (Kd.R Kd.bool 4 wc w.heap.size (fun k_ => ((True ∧ k_ < n1) ∧ k_ < n2) ∧ k_ < n3) (.slice Ao46 t292.length co46) t292) ∧ Aside0 (Kd.S k53 53 wc w.heap.size (fun k_ => (n1 ≤ k_ ∧ k_ < n2) ∧ k_ < n3) (.slice Ao56 t340.length co56) t340) ∧ Aside0 (Kd.R Kd.bool 4 wc w.heap.size (fun k_ => (n1 ≤ k_ ∧ k_ < n2) ∧ k_ < n3) (.slice Ao57 t341.length co57) t341) ∧ Aside0 (Kd.S k53 53 wc w.heap.size (fun k_ => n2 ≤ k_ ∧ k_ < n3) (.slice Ao67 t343.length co67) t343) ∧ Aside0 (Kd.R Kd.bool 4 wc w.heap.size (fun k_ => n2 ≤ k_ ∧ k_ < n3) (.slice Ao68 t344.length co68) t344) ∧ Aside0 (Kd.S k53 53 wc w.heap.size (fun k_ => n3 ≤ k_) (.slice Ao80 t314.length co80) t347) ∧ Aside0 (Kd.R Kd.bool 4 wc w.heap.size (fun k_ => n3 ≤ k_) (.slice Ao81 t317.length co81) t348) ∧ Aside0 (Kd.S k53 53 wc w.heap.size (fun _ => True) (.slice Ao206 t365.length co206) t365) ∧ Aside0 (Kd.R Kd.bool 4 wc w.heap.size (fun _ => True) (.slice Ao208 t368.length co208) t368) ∧ Aside0 (wc.heap[gb270]? = some (.cells #[.int .i64 a0_0, (.slice A0_1 l0_1.length c0_1), (.slice A0_2 l0_2.length c0_2)] 25 (0, 0))) ∧ Aside0 (wc.heap[gb271]? = some (.cells #[.int .i64 a1_0, (.slice A1_1 l1_1.length c1_1), (.slice A1_2 l1_2.length c1_2)] 25 (0, 0))) ∧ Aside0 (wc.heap[gb296]? = some (.cells #[.int .i64 t288, (.slice Ao44 t289.length co44), (.slice Ao46 t292.length co46)] 29 (0, 0))) ∧ Aside0 (wc.heap[gb304]? = some (.cells #[.int .i64 t297, (.slice Ao56 t340.length co56), (.slice Ao57 t341.length co57)] 29 (0, 0))) ∧ Aside0 (wc.heap[gb312]? = some (.cells #[.int .i64 t305, (.slice Ao67 t343.length co67), (.slice Ao68 t344.length co68)] 29 (0, 0))) ∧ Aside0 (wc.heap[gb321]? = some (.cells #[.int .i64 t313, (.slice Ao80 t314.length co80), (.slice Ao81 t317.length co81)] 29 (0, 0))) ∧ Aside0 (wc.heap[gb372]? = some (.cells #[.int .i64 t364, (.slice Ao206 t365.length co206), (.slice Ao208 t368.length co208)] 29 (0, 0))) ∧ Aside0 (Below w.heap.size w wc))
        case first =>
         have H := HC185.out
         clear HC185
         replace H := Option.bind_eq_some_iff.mp H
         obtain ⟨t373, A2100, H⟩ := H
         try dsimp only at H
         have A210 := Aside0.mk A2100
         clear A2100
         by_cases c211 : t373 = true
         ·
          subst c211
          rw [if_pos rfl] at H
          have H' := Aside0.mk H
          clear H
          have hnb212 := NB372_270.out
          have hnc212 := NB270_372.out
          have hnb213 := NB372_271.out
          have hnc213 := NB271_372.out
          have hnb214 := NB372_296.out
          have hnc214 := NB296_372.out
          have hnb215 := NB372_304.out
          have hnc215 := NB304_372.out
          have hnb216 := NB372_312.out
          have hnc216 := NB312_372.out
          have hnb217 := NB372_321.out
          have hnc217 := NB321_372.out
          obtain ⟨hcz218_0, hcz218_1, hcz218_2, hfz218_0, hfz218_1, hfz218_2⟩ := ce3 BK372
          have hnb219 := NB296_270.out
          have hnc219 := NB270_296.out
          have hnb220 := NB296_271.out
          have hnc220 := NB271_296.out
          have hnb221 := NB296_304.out
          have hnc221 := NB304_296.out
          have hnb222 := NB296_312.out
          have hnc222 := NB312_296.out
          have hnb223 := NB296_321.out
          have hnc223 := NB321_296.out
          obtain ⟨hcz224_0, hcz224_1, hcz224_2, hfz224_0, hfz224_1, hfz224_2⟩ := ce3 BK296
          go_wp2_with (first | ((with_reducible refine gate_callee (f := 9) rfl ?_); refine goesL_ (some 104) rfl rfl Try.func9 (by kernel_rfl) rfl #[.agg #[.int .i64 t364, .slice Ao206 t365.length co206, .slice Ao208 t368.length co208], .agg #[.int .i64 t288, .slice Ao44 t289.length co44, .slice Ao46 t292.length co46]] rfl (by (try simp only [List.map_toArray, List.map_cons, List.map_nil]); first | done | rfl) ?_; (with_reducible refine (Fj.calls kj116 t364 _ _ t365 _ _ t368 t288 _ _ t289 _ _ t292 true _ ?side1 ?side2 ?side3 ?side4 ?side5 ?side6 ?side7 ?side8 A210.out).mono ?_); (case side1 => exact jdfSS HO367 BK372); (case side2 => exact (Kd.S_reads' HO367.out).2.1); (case side3 => exact jdfRR HO370 BK372); (case side4 => exact (Kd.R_reads' HO370.out).2.1); (case side5 => exact jdfSS HO_297001 BK372); (case side6 => exact (Kd.S_reads' HO_297001.out).2.1); (case side7 => exact jdfRR HO_297002 BK372); (case side8 => exact (Kd.R_reads' HO_297002.out).2.1); rintro e w225 ⟨rfl, hb⟩; refine ⟨_, rfl, ?_⟩; replace HO_297001 := jkFS HO_297001 BK372 hb; replace HO_297002 := jkFR HO_297002 BK372 hb; replace HO_305001 := jkFS HO_305001 BK372 hb; replace HO_305002 := jkFR HO_305002 BK372 hb; replace HO_313001 := jkFS HO_313001 BK372 hb; replace HO_313002 := jkFR HO_313002 BK372 hb; replace HO_322001 := jkFS HO_322001 BK372 hb; replace HO_322002 := jkFR HO_322002 BK372 hb; replace HO353 := jkFS HO353 BK372 hb; replace HO356 := jkFR HO356 BK372 hb; replace HO360 := jkFS HO360 BK372 hb; replace HO363 := jkFR HO363 BK372 hb; replace HO367 := jkFS HO367 BK372 hb; replace HO370 := jkFR HO370 BK372 hb; replace BK270 := Aside0.mk (blk_below (g := gb270) (o := .cells #[.int .i64 a0_0, .slice A0_1 l0_1.length c0_1, .slice A0_2 l0_2.length c0_2] 25 (0, 0)) (by refine uW ?_; refine blk_far ?_ NB270_372.out _; refine uW ?_; refine blk_far ?_ NB270_372.out _; refine uW ?_; refine blk_far ?_ NB270_372.out _; refine uW ?_; exact BK270.out) hb); replace BK271 := Aside0.mk (blk_below (g := gb271) (o := .cells #[.int .i64 a1_0, .slice A1_1 l1_1.length c1_1, .slice A1_2 l1_2.length c1_2] 25 (0, 0)) (by refine uW ?_; refine blk_far ?_ NB271_372.out _; refine uW ?_; refine blk_far ?_ NB271_372.out _; refine uW ?_; refine blk_far ?_ NB271_372.out _; refine uW ?_; exact BK271.out) hb); replace BK296 := Aside0.mk (blk_below (g := gb296) (o := .cells #[.int .i64 t288, .slice Ao44 t289.length co44, .slice Ao46 t292.length co46] 29 (0, 0)) (by refine uW ?_; refine blk_far ?_ NB296_372.out _; refine uW ?_; refine blk_far ?_ NB296_372.out _; refine uW ?_; refine blk_far ?_ NB296_372.out _; refine uW ?_; exact BK296.out) hb); replace BK304 := Aside0.mk (blk_below (g := gb304) (o := .cells #[.int .i64 t297, .slice Ao56 t340.length co56, .slice Ao57 t341.length co57] 29 (0, 0)) (by refine uW ?_; refine blk_far ?_ NB304_372.out _; refine uW ?_; refine blk_far ?_ NB304_372.out _; refine uW ?_; refine blk_far ?_ NB304_372.out _; refine uW ?_; exact BK304.out) hb); replace BK312 := Aside0.mk (blk_below (g := gb312) (o := .cells #[.int .i64 t305, .slice Ao67 t343.length co67, .slice Ao68 t344.length co68] 29 (0, 0)) (by refine uW ?_; refine blk_far ?_ NB312_372.out _; refine uW ?_; refine blk_far ?_ NB312_372.out _; refine uW ?_; refine blk_far ?_ NB312_372.out _; refine uW ?_; exact BK312.out) hb); replace BK321 := Aside0.mk (blk_below (g := gb321) (o := .cells #[.int .i64 t313, .slice Ao80 t314.length co80, .slice Ao81 t317.length co81] 29 (0, 0)) (by refine uW ?_; refine blk_far ?_ NB321_372.out _; refine uW ?_; refine blk_far ?_ NB321_372.out _; refine uW ?_; refine blk_far ?_ NB321_372.out _; refine uW ?_; exact BK321.out) hb); replace BK372 := Aside0.mk (blk_below (g := gb372) (o := .cells #[.int .i64 t364, .slice Ao206 t365.length co206, .slice Ao208 t368.length co208] 29 (0, 0)) (by refine uW ?_; refine blk_put (cs := #[.int .i64 t364, .slice Ao206 t365.length co206, .slice none 0 0]) ?_ 2 _ rfl; refine uW ?_; refine blk_put (cs := #[.int .i64 t364, .slice none 0 0, .slice none 0 0]) ?_ 1 _ rfl; refine uW ?_; refine blk_put (cs := #[.int .i64 0, .slice none 0 0, .slice none 0 0]) ?_ 0 _ rfl; refine uW ?_; exact BK372.out) hb); replace HB := Aside0.mk (below_step (uN HB) hb); (try clear hb); (try clear hb2); (try clear hk); (try clear hi)))
          go_meet
          case rel => exact ⟨_, ((t371 != t295)), (by first | rfl | (simp; done) | (simp [*]; done)), H', ⟨by have := HJ24.out; have := HJ116.out; first | omega | exact Nat.le_refl _⟩, ⟨by (try simp only [hl305001_116]); (try simp only [hl305002_116]); (try simp only [hl313001_116]); (try simp only [hl313002_116]); exact jqS HO_297001⟩, ⟨by (try simp only [hl305001_116]); (try simp only [hl305002_116]); (try simp only [hl313001_116]); (try simp only [hl313002_116]); exact uR HO_297002⟩, ⟨by (try simp only [hl305001_116]); (try simp only [hl305002_116]); (try simp only [hl313001_116]); (try simp only [hl313002_116]); exact jqS HO_305001⟩, ⟨by (try simp only [hl305001_116]); (try simp only [hl305002_116]); (try simp only [hl313001_116]); (try simp only [hl313002_116]); exact uR HO_305002⟩, ⟨by (try simp only [hl305001_116]); (try simp only [hl305002_116]); (try simp only [hl313001_116]); (try simp only [hl313002_116]); exact jqS HO_313001⟩, ⟨by (try simp only [hl305001_116]); (try simp only [hl305002_116]); (try simp only [hl313001_116]); (try simp only [hl313002_116]); exact uR HO_313002⟩, ⟨by (try simp only [hl305001_116]); (try simp only [hl305002_116]); (try simp only [hl313001_116]); (try simp only [hl313002_116]); exact jqS HO_322001⟩, ⟨by (try simp only [hl305001_116]); (try simp only [hl305002_116]); (try simp only [hl313001_116]); (try simp only [hl313002_116]); exact uR HO_322002⟩, ⟨by (try simp only [hl305001_116]); (try simp only [hl305002_116]); (try simp only [hl313001_116]); (try simp only [hl313002_116]); exact jqS HO367⟩, ⟨by (try simp only [hl305001_116]); (try simp only [hl305002_116]); (try simp only [hl313001_116]); (try simp only [hl313002_116]); exact uR HO370⟩, ⟨by (try simp only [hl305001_116]); (try simp only [hl305002_116]); (try simp only [hl313001_116]); (try simp only [hl313002_116]); refine uW ?_; exact BK270.out⟩, ⟨by (try simp only [hl305001_116]); (try simp only [hl305002_116]); (try simp only [hl313001_116]); (try simp only [hl313002_116]); refine uW ?_; exact BK271.out⟩, ⟨by (try simp only [hl305001_116]); (try simp only [hl305002_116]); (try simp only [hl313001_116]); (try simp only [hl313002_116]); refine uW ?_; exact BK296.out⟩, ⟨by (try simp only [hl305001_116]); (try simp only [hl305002_116]); (try simp only [hl313001_116]); (try simp only [hl313002_116]); refine uW ?_; exact BK304.out⟩, ⟨by (try simp only [hl305001_116]); (try simp only [hl305002_116]); (try simp only [hl313001_116]); (try simp only [hl313002_116]); refine uW ?_; exact BK312.out⟩, ⟨by (try simp only [hl305001_116]); (try simp only [hl305002_116]); (try simp only [hl313001_116]); (try simp only [hl313002_116]); refine uW ?_; exact BK321.out⟩, ⟨by (try simp only [hl305001_116]); (try simp only [hl305002_116]); (try simp only [hl313001_116]); (try simp only [hl313002_116]); refine uW ?_; exact BK372.out⟩, ⟨uN HB⟩⟩
         replace c211 := Bool.eq_false_iff.mpr c211
         subst c211
         rw [if_neg (show ¬ (false = true) by decide)] at H
         have H' := Aside0.mk H
         clear H
         have hnb226 := NB372_270.out
         have hnc226 := NB270_372.out
         have hnb227 := NB372_271.out
         have hnc227 := NB271_372.out
         have hnb228 := NB372_296.out
         have hnc228 := NB296_372.out
         have hnb229 := NB372_304.out
         have hnc229 := NB304_372.out
         have hnb230 := NB372_312.out
         have hnc230 := NB312_372.out
         have hnb231 := NB372_321.out
         have hnc231 := NB321_372.out
         obtain ⟨hcz232_0, hcz232_1, hcz232_2, hfz232_0, hfz232_1, hfz232_2⟩ := ce3 BK372
         have hnb233 := NB296_270.out
         have hnc233 := NB270_296.out
         have hnb234 := NB296_271.out
         have hnc234 := NB271_296.out
         have hnb235 := NB296_304.out
         have hnc235 := NB304_296.out
         have hnb236 := NB296_312.out
         have hnc236 := NB312_296.out
         have hnb237 := NB296_321.out
         have hnc237 := NB321_296.out
         obtain ⟨hcz238_0, hcz238_1, hcz238_2, hfz238_0, hfz238_1, hfz238_2⟩ := ce3 BK296
         go_wp2_with (first | ((with_reducible refine gate_callee (f := 9) rfl ?_); refine goesL_ (some 104) rfl rfl Try.func9 (by kernel_rfl) rfl #[.agg #[.int .i64 t364, .slice Ao206 t365.length co206, .slice Ao208 t368.length co208], .agg #[.int .i64 t288, .slice Ao44 t289.length co44, .slice Ao46 t292.length co46]] rfl (by (try simp only [List.map_toArray, List.map_cons, List.map_nil]); first | done | rfl) ?_; (with_reducible refine (Fj.calls kj116 t364 _ _ t365 _ _ t368 t288 _ _ t289 _ _ t292 false _ ?side1 ?side2 ?side3 ?side4 ?side5 ?side6 ?side7 ?side8 A210.out).mono ?_); (case side1 => exact jdfSS HO367 BK372); (case side2 => exact (Kd.S_reads' HO367.out).2.1); (case side3 => exact jdfRR HO370 BK372); (case side4 => exact (Kd.R_reads' HO370.out).2.1); (case side5 => exact jdfSS HO_297001 BK372); (case side6 => exact (Kd.S_reads' HO_297001.out).2.1); (case side7 => exact jdfRR HO_297002 BK372); (case side8 => exact (Kd.R_reads' HO_297002.out).2.1); rintro e w239 ⟨rfl, hb⟩; refine ⟨_, rfl, ?_⟩; replace HO_297001 := jkFS HO_297001 BK372 hb; replace HO_297002 := jkFR HO_297002 BK372 hb; replace HO_305001 := jkFS HO_305001 BK372 hb; replace HO_305002 := jkFR HO_305002 BK372 hb; replace HO_313001 := jkFS HO_313001 BK372 hb; replace HO_313002 := jkFR HO_313002 BK372 hb; replace HO_322001 := jkFS HO_322001 BK372 hb; replace HO_322002 := jkFR HO_322002 BK372 hb; replace HO353 := jkFS HO353 BK372 hb; replace HO356 := jkFR HO356 BK372 hb; replace HO360 := jkFS HO360 BK372 hb; replace HO363 := jkFR HO363 BK372 hb; replace HO367 := jkFS HO367 BK372 hb; replace HO370 := jkFR HO370 BK372 hb; replace BK270 := Aside0.mk (blk_below (g := gb270) (o := .cells #[.int .i64 a0_0, .slice A0_1 l0_1.length c0_1, .slice A0_2 l0_2.length c0_2] 25 (0, 0)) (by refine uW ?_; refine blk_far ?_ NB270_372.out _; refine uW ?_; refine blk_far ?_ NB270_372.out _; refine uW ?_; refine blk_far ?_ NB270_372.out _; refine uW ?_; exact BK270.out) hb); replace BK271 := Aside0.mk (blk_below (g := gb271) (o := .cells #[.int .i64 a1_0, .slice A1_1 l1_1.length c1_1, .slice A1_2 l1_2.length c1_2] 25 (0, 0)) (by refine uW ?_; refine blk_far ?_ NB271_372.out _; refine uW ?_; refine blk_far ?_ NB271_372.out _; refine uW ?_; refine blk_far ?_ NB271_372.out _; refine uW ?_; exact BK271.out) hb); replace BK296 := Aside0.mk (blk_below (g := gb296) (o := .cells #[.int .i64 t288, .slice Ao44 t289.length co44, .slice Ao46 t292.length co46] 29 (0, 0)) (by refine uW ?_; refine blk_far ?_ NB296_372.out _; refine uW ?_; refine blk_far ?_ NB296_372.out _; refine uW ?_; refine blk_far ?_ NB296_372.out _; refine uW ?_; exact BK296.out) hb); replace BK304 := Aside0.mk (blk_below (g := gb304) (o := .cells #[.int .i64 t297, .slice Ao56 t340.length co56, .slice Ao57 t341.length co57] 29 (0, 0)) (by refine uW ?_; refine blk_far ?_ NB304_372.out _; refine uW ?_; refine blk_far ?_ NB304_372.out _; refine uW ?_; refine blk_far ?_ NB304_372.out _; refine uW ?_; exact BK304.out) hb); replace BK312 := Aside0.mk (blk_below (g := gb312) (o := .cells #[.int .i64 t305, .slice Ao67 t343.length co67, .slice Ao68 t344.length co68] 29 (0, 0)) (by refine uW ?_; refine blk_far ?_ NB312_372.out _; refine uW ?_; refine blk_far ?_ NB312_372.out _; refine uW ?_; refine blk_far ?_ NB312_372.out _; refine uW ?_; exact BK312.out) hb); replace BK321 := Aside0.mk (blk_below (g := gb321) (o := .cells #[.int .i64 t313, .slice Ao80 t314.length co80, .slice Ao81 t317.length co81] 29 (0, 0)) (by refine uW ?_; refine blk_far ?_ NB321_372.out _; refine uW ?_; refine blk_far ?_ NB321_372.out _; refine uW ?_; refine blk_far ?_ NB321_372.out _; refine uW ?_; exact BK321.out) hb); replace BK372 := Aside0.mk (blk_below (g := gb372) (o := .cells #[.int .i64 t364, .slice Ao206 t365.length co206, .slice Ao208 t368.length co208] 29 (0, 0)) (by refine uW ?_; refine blk_put (cs := #[.int .i64 t364, .slice Ao206 t365.length co206, .slice none 0 0]) ?_ 2 _ rfl; refine uW ?_; refine blk_put (cs := #[.int .i64 t364, .slice none 0 0, .slice none 0 0]) ?_ 1 _ rfl; refine uW ?_; refine blk_put (cs := #[.int .i64 0, .slice none 0 0, .slice none 0 0]) ?_ 0 _ rfl; refine uW ?_; exact BK372.out) hb); replace HB := Aside0.mk (below_step (uN HB) hb); (try clear hb); (try clear hb2); (try clear hk); (try clear hi)))
         go_meet
         case rel => exact ⟨_, (true), (by first | rfl | (simp; done) | (simp [*]; done)), H', ⟨by have := HJ24.out; have := HJ116.out; first | omega | exact Nat.le_refl _⟩, ⟨by (try simp only [hl305001_116]); (try simp only [hl305002_116]); (try simp only [hl313001_116]); (try simp only [hl313002_116]); exact jqS HO_297001⟩, ⟨by (try simp only [hl305001_116]); (try simp only [hl305002_116]); (try simp only [hl313001_116]); (try simp only [hl313002_116]); exact uR HO_297002⟩, ⟨by (try simp only [hl305001_116]); (try simp only [hl305002_116]); (try simp only [hl313001_116]); (try simp only [hl313002_116]); exact jqS HO_305001⟩, ⟨by (try simp only [hl305001_116]); (try simp only [hl305002_116]); (try simp only [hl313001_116]); (try simp only [hl313002_116]); exact uR HO_305002⟩, ⟨by (try simp only [hl305001_116]); (try simp only [hl305002_116]); (try simp only [hl313001_116]); (try simp only [hl313002_116]); exact jqS HO_313001⟩, ⟨by (try simp only [hl305001_116]); (try simp only [hl305002_116]); (try simp only [hl313001_116]); (try simp only [hl313002_116]); exact uR HO_313002⟩, ⟨by (try simp only [hl305001_116]); (try simp only [hl305002_116]); (try simp only [hl313001_116]); (try simp only [hl313002_116]); exact jqS HO_322001⟩, ⟨by (try simp only [hl305001_116]); (try simp only [hl305002_116]); (try simp only [hl313001_116]); (try simp only [hl313002_116]); exact uR HO_322002⟩, ⟨by (try simp only [hl305001_116]); (try simp only [hl305002_116]); (try simp only [hl313001_116]); (try simp only [hl313002_116]); exact jqS HO367⟩, ⟨by (try simp only [hl305001_116]); (try simp only [hl305002_116]); (try simp only [hl313001_116]); (try simp only [hl313002_116]); exact uR HO370⟩, ⟨by (try simp only [hl305001_116]); (try simp only [hl305002_116]); (try simp only [hl313001_116]); (try simp only [hl313002_116]); refine uW ?_; exact BK270.out⟩, ⟨by (try simp only [hl305001_116]); (try simp only [hl305002_116]); (try simp only [hl313001_116]); (try simp only [hl313002_116]); refine uW ?_; exact BK271.out⟩, ⟨by (try simp only [hl305001_116]); (try simp only [hl305002_116]); (try simp only [hl313001_116]); (try simp only [hl313002_116]); refine uW ?_; exact BK296.out⟩, ⟨by (try simp only [hl305001_116]); (try simp only [hl305002_116]); (try simp only [hl313001_116]); (try simp only [hl313002_116]); refine uW ?_; exact BK304.out⟩, ⟨by (try simp only [hl305001_116]); (try simp only [hl305002_116]); (try simp only [hl313001_116]); (try simp only [hl313002_116]); refine uW ?_; exact BK312.out⟩, ⟨by (try simp only [hl305001_116]); (try simp only [hl305002_116]); (try simp only [hl313001_116]); (try simp only [hl313002_116]); refine uW ?_; exact BK321.out⟩, ⟨by (try simp only [hl305001_116]); (try simp only [hl305002_116]); (try simp only [hl313001_116]); (try simp only [hl313002_116]); refine uW ?_; exact BK372.out⟩, ⟨uN HB⟩⟩
        case rest =>
         clear HC185
         try clear c1
         try clear c2
         try clear p2
         try clear c7
         try clear c8
         try clear c9
         try clear c21
         try clear c22
         try clear c23
         try clear c211
         try clear c212
         try clear c213
         try clear c214
         try clear c215
         try clear c216
         try clear c217
         try clear c219
         try clear c220
         try clear c221
         try clear c222
         try clear c223
         try clear c226
         try clear c227
         try clear c228
         try clear c229
         try clear c230
         try clear c231
         try clear c233
         try clear c234
         try clear c235
         try clear c236
         try clear c237
         try clear hcz218_0
         try clear hcz218_1
         try clear hcz218_2
         try clear hcz224_0
         try clear hcz224_1
         try clear hcz224_2
         try clear hcz232_0
         try clear hcz232_1
         try clear hcz232_2
         try clear hcz238_0
         try clear hcz238_1
         try clear hcz238_2
         try clear hfz218_0
         try clear hfz218_1
         try clear hfz218_2
         try clear hfz224_0
         try clear hfz224_1
         try clear hfz224_2
         try clear hfz232_0
         try clear hfz232_1
         try clear hfz232_2
         try clear hfz238_0
         try clear hfz238_1
         try clear hfz238_2
         obtain ⟨kq, x110_184, rfl, HA, HJ184, HO_297001, HO_297002, HO_305001, HO_305002, HO_313001, HO_313002, HO_322001, HO_322002, HO_373001, HO_373002, BK270, BK271, BK296, BK304, BK312, BK321, BK372, HB⟩ := hcut
         have hl322001_184 := (Kd.S_reads' HO_322001.out).1
         rw [hl322001_184] at HO_322001
         (try simp only [hl322001_184])
         (try simp only [hl322001_184] at BK270)
         (try simp only [hl322001_184] at BK271)
         (try simp only [hl322001_184] at BK296)
         (try simp only [hl322001_184] at BK304)
         (try simp only [hl322001_184] at BK312)
         (try simp only [hl322001_184] at BK321)
         (try simp only [hl322001_184] at BK372)
         (try simp only [hl322001_184] at HO_297001)
         (try simp only [hl322001_184] at HO_297002)
         (try simp only [hl322001_184] at HO_305001)
         (try simp only [hl322001_184] at HO_305002)
         (try simp only [hl322001_184] at HO_313001)
         (try simp only [hl322001_184] at HO_313002)
         (try simp only [hl322001_184] at HO_322002)
         (try simp only [hl322001_184] at HO_373001)
         (try simp only [hl322001_184] at HO_373002)
         have hl322002_184 := (Kd.R_reads' HO_322002.out).1
         rw [hl322002_184] at HO_322002
         (try simp only [hl322002_184])
         (try simp only [hl322002_184] at BK270)
         (try simp only [hl322002_184] at BK271)
         (try simp only [hl322002_184] at BK296)
         (try simp only [hl322002_184] at BK304)
         (try simp only [hl322002_184] at BK312)
         (try simp only [hl322002_184] at BK321)
         (try simp only [hl322002_184] at BK372)
         (try simp only [hl322002_184] at HO_297001)
         (try simp only [hl322002_184] at HO_297002)
         (try simp only [hl322002_184] at HO_305001)
         (try simp only [hl322002_184] at HO_305002)
         (try simp only [hl322002_184] at HO_313001)
         (try simp only [hl322002_184] at HO_313002)
         (try simp only [hl322002_184] at HO_322001)
         (try simp only [hl322002_184] at HO_373001)
         (try simp only [hl322002_184] at HO_373002)
         cases kq with
         | zero => exact absurd HA.out (by simp [Fc.j2])
         | succ kj184 =>
          have H := HA.out
          clear HA
          simp only [Fc.j2] at H
          by_cases c240 : x110_184 = true
          ·
           subst c240
           rw [if_pos rfl] at H
           obtain rfl := Option.some.inj H
           go_wp2
           go_ret
           exact ⟨by first | rfl | (simp [errW_none, errW_some] <;> rfl) | (simp [*, errW_none, errW_some] <;> rfl), uN HB⟩
          replace c240 := Bool.eq_false_iff.mpr c240
          subst c240
          rw [if_neg (show ¬ (false = true) by decide)] at H
          replace H := Option.bind_eq_some_iff.mp H
          obtain ⟨t374, A2410, H⟩ := H
          try dsimp only at H
          have A241 := Aside0.mk A2410
          clear A2410
          by_cases c242 : t374 < 0
          ·
           rw [if_pos c242] at H
           have c242b0 : decide (t374 < 0) = true := decide_eq_true c242
           clear c242
           obtain rfl := Option.some.inj H
           have hnb243 := NB321_270.out
           have hnc243 := NB270_321.out
           have hnb244 := NB321_271.out
           have hnc244 := NB271_321.out
           have hnb245 := NB321_296.out
           have hnc245 := NB296_321.out
           have hnb246 := NB321_304.out
           have hnc246 := NB304_321.out
           have hnb247 := NB321_312.out
           have hnc247 := NB312_321.out
           have hnb248 := NB321_372.out
           have hnc248 := NB372_321.out
           obtain ⟨hcz249_0, hcz249_1, hcz249_2, hfz249_0, hfz249_1, hfz249_2⟩ := ce3 BK321
           go_wp2_with (first | ((with_reducible refine gate_callee (f := 11) rfl ?_); refine goesL_ (some 113) rfl rfl Try.func11 (by kernel_rfl) rfl #[.agg #[.int .i64 t313, .slice Ao80 t347.length co80, .slice Ao81 t348.length co81], .int .i64 1] rfl (by (try simp only [List.map_toArray, List.map_cons, List.map_nil]); first | done | rfl) ?_; (with_reducible refine (FB.calls kj184 t313 _ _ t347 _ _ t348 1 t374 _ ?side1 ?side2 ?side3 ?side4 A241.out).mono ?_); (case side1 => exact jdS HO_322001); (case side2 => exact (Kd.S_reads' HO_322001.out).2.1); (case side3 => exact uD HO_322002); (case side4 => exact (Kd.R_reads' HO_322002.out).2.1); rintro e w250 ⟨rfl, hb⟩; refine ⟨_, rfl, ?_⟩; replace HO_297001 := jkS HO_297001 hb; replace HO_297002 := jkR HO_297002 hb; replace HO_305001 := jkS HO_305001 hb; replace HO_305002 := jkR HO_305002 hb; replace HO_313001 := jkS HO_313001 hb; replace HO_313002 := jkR HO_313002 hb; replace HO_322001 := jkS HO_322001 hb; replace HO_322002 := jkR HO_322002 hb; replace HO_373001 := jkS HO_373001 hb; replace HO_373002 := jkR HO_373002 hb; replace BK270 := kB BK270 hb; replace BK271 := kB BK271 hb; replace BK296 := kB BK296 hb; replace BK304 := kB BK304 hb; replace BK312 := kB BK312 hb; replace BK321 := kB BK321 hb; replace BK372 := kB BK372 hb; replace HB := Aside0.mk (below_step (uN HB) hb); (try clear hb); (try clear hb2); (try clear hk); (try clear hi)))
           go_ret
           exact ⟨by first | rfl | (simp [errW_none, errW_some] <;> rfl) | (simp [*, errW_none, errW_some] <;> rfl), uN HB⟩
          rw [if_neg c242] at H
          have c242b0 : decide (t374 < 0) = false := decide_eq_false c242
          clear c242
          by_cases c251 : t374 = t346
          ·
           rw [if_pos c251] at H
           have c251b0 : (t374 == t346) = true := beq_iff_eq.mpr c251
           have c251b1 : (t374 != t346) = false := bne_eq_false_iff_eq.mpr c251
           clear c251
           obtain rfl := Option.some.inj H
           have hnb252 := NB321_270.out
           have hnc252 := NB270_321.out
           have hnb253 := NB321_271.out
           have hnc253 := NB271_321.out
           have hnb254 := NB321_296.out
           have hnc254 := NB296_321.out
           have hnb255 := NB321_304.out
           have hnc255 := NB304_321.out
           have hnb256 := NB321_312.out
           have hnc256 := NB312_321.out
           have hnb257 := NB321_372.out
           have hnc257 := NB372_321.out
           obtain ⟨hcz258_0, hcz258_1, hcz258_2, hfz258_0, hfz258_1, hfz258_2⟩ := ce3 BK321
           go_wp2_with (first | ((with_reducible refine gate_callee (f := 11) rfl ?_); refine goesL_ (some 113) rfl rfl Try.func11 (by kernel_rfl) rfl #[.agg #[.int .i64 t313, .slice Ao80 t347.length co80, .slice Ao81 t348.length co81], .int .i64 1] rfl (by (try simp only [List.map_toArray, List.map_cons, List.map_nil]); first | done | rfl) ?_; (with_reducible refine (FB.calls kj184 t313 _ _ t347 _ _ t348 1 t374 _ ?side1 ?side2 ?side3 ?side4 A241.out).mono ?_); (case side1 => exact jdS HO_322001); (case side2 => exact (Kd.S_reads' HO_322001.out).2.1); (case side3 => exact uD HO_322002); (case side4 => exact (Kd.R_reads' HO_322002.out).2.1); rintro e w259 ⟨rfl, hb⟩; refine ⟨_, rfl, ?_⟩; replace HO_297001 := jkS HO_297001 hb; replace HO_297002 := jkR HO_297002 hb; replace HO_305001 := jkS HO_305001 hb; replace HO_305002 := jkR HO_305002 hb; replace HO_313001 := jkS HO_313001 hb; replace HO_313002 := jkR HO_313002 hb; replace HO_322001 := jkS HO_322001 hb; replace HO_322002 := jkR HO_322002 hb; replace HO_373001 := jkS HO_373001 hb; replace HO_373002 := jkR HO_373002 hb; replace BK270 := kB BK270 hb; replace BK271 := kB BK271 hb; replace BK296 := kB BK296 hb; replace BK304 := kB BK304 hb; replace BK312 := kB BK312 hb; replace BK321 := kB BK321 hb; replace BK372 := kB BK372 hb; replace HB := Aside0.mk (below_step (uN HB) hb); (try clear hb); (try clear hb2); (try clear hk); (try clear hi)))
           go_ret
           exact ⟨by first | rfl | (simp [errW_none, errW_some] <;> rfl) | (simp [*, errW_none, errW_some] <;> rfl), uN HB⟩
          rw [if_neg c251] at H
          have c251b0 : (t374 == t346) = false := beq_eq_false_iff_ne.mpr c251
          have c251b1 : (t374 != t346) = true := bne_iff_ne.mpr c251
          obtain rfl := Option.some.inj H
          have hnb260 := NB321_270.out
          have hnc260 := NB270_321.out
          have hnb261 := NB321_271.out
          have hnc261 := NB271_321.out
          have hnb262 := NB321_296.out
          have hnc262 := NB296_321.out
          have hnb263 := NB321_304.out
          have hnc263 := NB304_321.out
          have hnb264 := NB321_312.out
          have hnc264 := NB312_321.out
          have hnb265 := NB321_372.out
          have hnc265 := NB372_321.out
          obtain ⟨hcz266_0, hcz266_1, hcz266_2, hfz266_0, hfz266_1, hfz266_2⟩ := ce3 BK321
          go_wp2_with (first | ((with_reducible refine gate_callee (f := 11) rfl ?_); refine goesL_ (some 113) rfl rfl Try.func11 (by kernel_rfl) rfl #[.agg #[.int .i64 t313, .slice Ao80 t347.length co80, .slice Ao81 t348.length co81], .int .i64 1] rfl (by (try simp only [List.map_toArray, List.map_cons, List.map_nil]); first | done | rfl) ?_; (with_reducible refine (FB.calls kj184 t313 _ _ t347 _ _ t348 1 t374 _ ?side1 ?side2 ?side3 ?side4 A241.out).mono ?_); (case side1 => exact jdS HO_322001); (case side2 => exact (Kd.S_reads' HO_322001.out).2.1); (case side3 => exact uD HO_322002); (case side4 => exact (Kd.R_reads' HO_322002.out).2.1); rintro e w267 ⟨rfl, hb⟩; refine ⟨_, rfl, ?_⟩; replace HO_297001 := jkS HO_297001 hb; replace HO_297002 := jkR HO_297002 hb; replace HO_305001 := jkS HO_305001 hb; replace HO_305002 := jkR HO_305002 hb; replace HO_313001 := jkS HO_313001 hb; replace HO_313002 := jkR HO_313002 hb; replace HO_322001 := jkS HO_322001 hb; replace HO_322002 := jkR HO_322002 hb; replace HO_373001 := jkS HO_373001 hb; replace HO_373002 := jkR HO_373002 hb; replace BK270 := kB BK270 hb; replace BK271 := kB BK271 hb; replace BK296 := kB BK296 hb; replace BK304 := kB BK304 hb; replace BK312 := kB BK312 hb; replace BK321 := kB BK321 hb; replace BK372 := kB BK372 hb; replace HB := Aside0.mk (below_step (uN HB) hb); (try clear hb); (try clear hb2); (try clear hk); (try clear hi)))
          go_ret
          exact ⟨by first | rfl | (simp [errW_none, errW_some] <;> rfl) | (simp [*, errW_none, errW_some] <;> rfl), uN HB⟩
       rw [if_neg c181] at H
       have c181b0 : (t349 == t346) = false := beq_eq_false_iff_ne.mpr c181
       have c181b1 : (t349 != t346) = true := bne_iff_ne.mpr c181
       obtain rfl := Option.some.inj H
       have hnb268 := NB321_270.out
       have hnc268 := NB270_321.out
       have hnb269 := NB321_271.out
       have hnc269 := NB271_321.out
       have hnb270 := NB321_296.out
       have hnc270 := NB296_321.out
       have hnb271 := NB321_304.out
       have hnc271 := NB304_321.out
       have hnb272 := NB321_312.out
       have hnc272 := NB312_321.out
       obtain ⟨hcz273_0, hcz273_1, hcz273_2, hfz273_0, hfz273_1, hfz273_2⟩ := ce3 BK321
       go_wp2_with (first | ((with_reducible refine gate_callee (f := 10) rfl ?_); refine goesL_ (some 85) rfl rfl Try.func10 (by kernel_rfl) rfl #[.agg #[.int .i64 t313, .slice Ao80 t314.length co80, .slice Ao81 t317.length co81], .int .i64 1] rfl (by (try simp only [List.map_toArray, List.map_cons, List.map_nil]); first | done | rfl) ?_; (with_reducible refine (Fy.callsT kj116 t313 (fun k_ => n3 ≤ k_) (.slice Ao80 t314.length co80) t314 (fun k_ => some k_ = (.slice Ao81 t317.length co81 : Value).ownBlock) (.slice Ao81 t317.length co81) t317 1 t346 t347 t348 w _ ?side1 ?side2 ?side3 A169.out).mono ?_); (case side1 => exact uN HB); (case side2 => exact HO_322001.out); (case side3 => exact Kd.R_tight rfl HO_322002.out); rintro e w274 ⟨rfl, hy0, hy1, hb, hkp⟩; refine ⟨_, rfl, ?_⟩; have hux := HO_322002; replace HO_297001 := jmS HO_297001 hkp hux; replace HO_297002 := jmR HO_297002 hkp hux; replace HO_305001 := jmS HO_305001 hkp hux; replace HO_305002 := jmR HO_305002 hkp hux; replace HO_313001 := jmS HO_313001 hkp hux; replace HO_313002 := jmR HO_313002 hkp hux; replace BK270 := jmB BK270 hkp hux; replace BK271 := jmB BK271 hkp hux; replace BK296 := jmB BK296 hkp hux; replace BK304 := jmB BK304 hkp hux; replace BK312 := jmB BK312 hkp hux; replace BK321 := jmB BK321 hkp hux; replace HO_322001 := Aside0.mk hy0; replace HO_322002 := Aside0.mk (Kd.R_reok rfl hy1 (fun k_ e_ => HO_322002.out.1 k_ e_)); replace HB := Aside0.mk (hb); (try clear hb); clear hux; (try clear hkp); (try clear hy0); (try clear hy1); obtain ⟨hcz275_0, hcz275_1, hcz275_2, hfz275_0, hfz275_1, hfz275_2⟩ := ce3 BK321) | ((with_reducible refine gate_callee (f := 11) rfl ?_); refine goesL_ (some 88) rfl rfl Try.func11 (by kernel_rfl) rfl #[.agg #[.int .i64 t313, .slice Ao80 t347.length co80, .slice Ao81 t348.length co81], .int .i64 1] rfl (by (try simp only [List.map_toArray, List.map_cons, List.map_nil]); first | done | (rw [show t347.length = t314.length from (Kd.S_reads' HO_322001.out).1.symm, show t348.length = t317.length from (Kd.R_reads' HO_322002.out).1.symm] <;> rfl) | rfl | (simp only [List.length_drop, List.length_take]; rfl)) ?_; (with_reducible refine (FB.calls kj116 t313 _ _ t347 _ _ t348 1 t349 _ ?side1 ?side2 ?side3 ?side4 A170.out).mono ?_); (case side1 => exact jdS HO_322001); (case side2 => rw [show t347.length = t314.length from (Kd.S_reads' HO_322001.out).1.symm]; exact (Kd.S_reads' HO_322001.out).2.1); (case side3 => exact uD HO_322002); (case side4 => rw [show t348.length = t317.length from (Kd.R_reads' HO_322002.out).1.symm]; exact (Kd.R_reads' HO_322002.out).2.1); rintro e w276 ⟨rfl, hb⟩; refine ⟨_, rfl, ?_⟩; replace HO_297001 := jkS HO_297001 hb; replace HO_297002 := jkR HO_297002 hb; replace HO_305001 := jkS HO_305001 hb; replace HO_305002 := jkR HO_305002 hb; replace HO_313001 := jkS HO_313001 hb; replace HO_313002 := jkR HO_313002 hb; replace HO_322001 := jkS HO_322001 hb; replace HO_322002 := jkR HO_322002 hb; replace BK270 := kB BK270 hb; replace BK271 := kB BK271 hb; replace BK296 := kB BK296 hb; replace BK304 := kB BK304 hb; replace BK312 := kB BK312 hb; replace BK321 := kB BK321 hb; replace HB := Aside0.mk (below_step (uN HB) hb); (try clear hb); (try clear hb2); (try clear hk); (try clear hi)))
       go_ret
       exact ⟨by first | rfl | (simp [errW_none, errW_some] <;> rfl) | (simp [*, errW_none, errW_some] <;> rfl), uN HB⟩
    replace c114 := Bool.eq_false_iff.mpr c114
    subst c114
    rw [if_neg (show ¬ (false = true) by decide)] at H
    obtain rfl := Option.some.inj H
    try go_wp2
    replace HO_297001 := Aside0.mk (Kd.S_drew HO_297001.out)
    replace HO_297002 := Aside0.mk (Kd.R_drew HO_297002.out)
    replace HO_305001 := Aside0.mk (Kd.S_drew HO_305001.out)
    replace HO_305002 := Aside0.mk (Kd.R_drew HO_305002.out)
    replace HO_313001 := Aside0.mk (Kd.S_drew HO_313001.out)
    replace HO_313002 := Aside0.mk (Kd.R_drew HO_313002.out)
    replace HO_322001 := Aside0.mk (Kd.S_drew HO_322001.out)
    replace HO_322002 := Aside0.mk (Kd.R_drew HO_322002.out)
    replace BK270 := Aside0.mk (blk_drew BK270.out)
    replace BK271 := Aside0.mk (blk_drew BK271.out)
    replace BK296 := Aside0.mk (blk_drew BK296.out)
    replace BK304 := Aside0.mk (blk_drew BK304.out)
    replace BK312 := Aside0.mk (blk_drew BK312.out)
    replace BK321 := Aside0.mk (blk_drew BK321.out)
    replace HB := Aside0.mk (below_drew1 HB.out)
    refine start_ (n := 5) (S := fun w' => w'.cell? ⟨gb304, 0, none⟩ = some (.int .i64 t297) ∧ w'.cell? ⟨gb304, 1, none⟩ = some (.slice Ao56 t298.length co56) ∧ w'.cell? ⟨gb304, 2, none⟩ = some (.slice Ao57 t301.length co57) ∧ w'.cell? ⟨gb270, 0, none⟩ = some (.int .i64 a0_0) ∧ w'.cell? ⟨gb270, 1, none⟩ = some (.slice A0_1 l0_1.length c0_1) ∧ w'.cell? ⟨gb270, 2, none⟩ = some (.slice A0_2 l0_2.length c0_2)) (ds := []) #[false, false, false, false, false] (by kernel_rfl) rfl rfl ⟨bc BK304 0, bc BK304 1, bc BK304 2, bc BK270 0, bc BK270 1, bc BK270 2⟩ (fun hHeld => ?_)
    generalize wc.drew = w277 at HO_297001 HO_297002 HO_305001 HO_305002 HO_313001 HO_313002 HO_322001 HO_322002 BK270 BK271 BK296 BK304 BK312 BK321 HB hHeld ⊢
    refine take_ (i := 0) (N := some 54) (v := ?_) (a' := ?_) #[true, false, false, false, false] rfl rfl (by kernel_rfl) (fun _ _ _ h => h) (Or.inl ⟨by rfl, ?_⟩) hHeld ?_ ?_
    rotate_left
    ·
     rintro w' ⟨s0, s1, s2, s3, s4, s5⟩
     go_simp
     with_reducible rfl
    rotate_left
    ·
     simp only [Act.put, setIfInBounds_toArray, set_cons_zero, set_cons_succ, i64_w, i32_w]
     rfl
    refine take_ (i := 1) (N := some 55) (v := ?_) (a' := ?_) #[true, true, false, false, false] rfl rfl (by kernel_rfl) (fun _ _ _ h => h) (Or.inl ⟨by rfl, ?_⟩) hHeld ?_ ?_
    rotate_left
    ·
     rintro w' ⟨s0, s1, s2, s3, s4, s5⟩
     go_simp
     with_reducible rfl
    rotate_left
    ·
     simp only [Act.put, setIfInBounds_toArray, set_cons_zero, set_cons_succ, i64_w, i32_w]
     rfl
    refine one_ (i := 2) (N := some 56) #[true, true, true, false, false] rfl rfl (by kernel_rfl) (by decide) (fun K hK => ?_)
    refine goes_ Try.func7 (by kernel_rfl) rfl #[.agg #[.int .i64 a0_0, .slice A0_1 l0_1.length c0_1, .slice A0_2 l0_2.length c0_2]] (by rfl) rfl rfl (by (try simp only [List.map_toArray, List.map_cons, List.map_nil]); first | done | rfl) ?_
    with_reducible refine (Ff.calls kj24 a0_0 _ _ l0_1 _ _ l0_2 t323 t324 t327 _ ?side1 ?side2 ?side3 ?side4 A109.out).mono ?_
    (case side1 => exact uC HR0_1 HB)
    (case side2 => exact HC0_1.out)
    (case side3 => exact uC HR0_2 HB)
    (case side4 => exact HC0_2.out)
    rintro e w278 ⟨v325, v328, rfl, ho0, ho1, hb⟩
    refine ⟨_, rfl, ?_⟩
    have HO326 := jtS ho0 (below_size (uN HB))
    replace HO_297001 := jkS HO_297001 hb
    replace HO_305001 := jkS HO_305001 hb
    replace HO_313001 := jkS HO_313001 hb
    replace HO_322001 := jkS HO_322001 hb
    have HO329 := jtR ho1 (below_size (uN HB))
    replace HO_297002 := jkR HO_297002 hb
    replace HO_305002 := jkR HO_305002 hb
    replace HO_313002 := jkR HO_313002 hb
    replace HO_322002 := jkR HO_322002 hb
    replace BK270 := kB BK270 hb
    replace BK271 := kB BK271 hb
    replace BK296 := kB BK296 hb
    replace BK304 := kB BK304 hb
    replace BK312 := kB BK312 hb
    replace BK321 := kB BK321 hb
    replace HB := Aside0.mk (below_step (uN HB) hb)
    (try clear hb)
    (try clear hb2)
    (try clear hk)
    (try clear hi)
    (try clear ho0)
    (try clear ho1)
    obtain ⟨Ao279, co279, eo279⟩ := Kd.S_slice HO326.out
    (first | subst eo279 | (injection eo279 with f1_ f2_ f3_; have f4_ := f1_.symm; have f5_ := f3_.symm; clear f1_ f2_ f3_; subst f4_; subst f5_))
    obtain ⟨Ao280, co280, eo280⟩ := Kd.R_slice HO329.out
    (first | subst eo280 | (injection eo280 with f1_ f2_ f3_; have f4_ := f1_.symm; have f5_ := f3_.symm; clear f1_ f2_ f3_; subst f4_; subst f5_))
    refine hK.out _ _ ⟨bc BK304 0, bc BK304 1, bc BK304 2, bc BK270 0, bc BK270 1, bc BK270 2⟩ (fun hHeld => ?_)
    clear hK K
    refine norm_ (a' := ?_) ?_ ?_
    rotate_left
    ·
     show Act.put _ (some 56) _ = _
     simp only [Act.put, setIfInBounds_toArray, set_cons_zero, set_cons_succ, i64_w, i32_w]
     rfl
    refine one_ (i := 3) (N := some 57) #[true, true, true, true, false] rfl rfl (by kernel_rfl) (by decide) (fun K hK => ?_)
    refine goes_ Try.func9 (by kernel_rfl) rfl #[.agg #[.int .i64 t297, .slice Ao56 t298.length co56, .slice Ao57 t301.length co57], .agg #[.int .i64 t323, .slice Ao279 t324.length co279, .slice Ao280 t327.length co280]] (by rfl) rfl rfl (by (try simp only [List.map_toArray, List.map_cons, List.map_nil]); first | done | rfl) ?_
    with_reducible refine (Fj.calls kj24 t297 _ _ t298 _ _ t301 t323 _ _ t324 _ _ t327 true _ ?side1 ?side2 ?side3 ?side4 ?side5 ?side6 ?side7 ?side8 A110.out).mono ?_
    (case side1 => exact jdS HO_305001)
    (case side2 => exact (Kd.S_reads' HO_305001.out).2.1)
    (case side3 => exact uD HO_305002)
    (case side4 => exact (Kd.R_reads' HO_305002.out).2.1)
    (case side5 => exact jdS HO326)
    (case side6 => exact (Kd.S_reads' HO326.out).2.1)
    (case side7 => exact uD HO329)
    (case side8 => exact (Kd.R_reads' HO329.out).2.1)
    rintro e w281 ⟨rfl, hb⟩
    refine ⟨_, rfl, ?_⟩
    replace HO_297001 := jkS HO_297001 hb
    replace HO_297002 := jkR HO_297002 hb
    replace HO_305001 := jkS HO_305001 hb
    replace HO_305002 := jkR HO_305002 hb
    replace HO_313001 := jkS HO_313001 hb
    replace HO_313002 := jkR HO_313002 hb
    replace HO_322001 := jkS HO_322001 hb
    replace HO_322002 := jkR HO_322002 hb
    replace HO326 := jkS HO326 hb
    replace HO329 := jkR HO329 hb
    replace BK270 := kB BK270 hb
    replace BK271 := kB BK271 hb
    replace BK296 := kB BK296 hb
    replace BK304 := kB BK304 hb
    replace BK312 := kB BK312 hb
    replace BK321 := kB BK321 hb
    replace HB := Aside0.mk (below_step (uN HB) hb)
    (try clear hb)
    (try clear hb2)
    (try clear hk)
    (try clear hi)
    refine hK.out _ _ ⟨bc BK304 0, bc BK304 1, bc BK304 2, bc BK270 0, bc BK270 1, bc BK270 2⟩ (fun hHeld => ?_)
    clear hK K
    refine norm_ (a' := ?_) ?_ ?_
    rotate_left
    ·
     show Act.put _ (some 57) _ = _
     simp only [Act.put, setIfInBounds_toArray, set_cons_zero, set_cons_succ, i64_w, i32_w]
     rfl
    refine pure_ (i := 4) (N := some 58) (v := ?_) (a' := ?_) #[true, true, true, true, true] rfl rfl (by kernel_rfl) (fun _ _ _ h => h) (Or.inl ⟨by rfl, ?_⟩) ?_ ?_
    rotate_left
    ·
     intro w'
     go_simp
     with_reducible rfl
    rotate_left
    ·
     simp only [Act.put, setIfInBounds_toArray, set_cons_zero, set_cons_succ, i64_w, i32_w]
     rfl
    refine done_ (by kernel_rfl) ?_
    try go_wp2
    replace HO_297001 := Aside0.mk (Kd.S_drew HO_297001.out)
    replace HO_297002 := Aside0.mk (Kd.R_drew HO_297002.out)
    replace HO_305001 := Aside0.mk (Kd.S_drew HO_305001.out)
    replace HO_305002 := Aside0.mk (Kd.R_drew HO_305002.out)
    replace HO_313001 := Aside0.mk (Kd.S_drew HO_313001.out)
    replace HO_313002 := Aside0.mk (Kd.R_drew HO_313002.out)
    replace HO_322001 := Aside0.mk (Kd.S_drew HO_322001.out)
    replace HO_322002 := Aside0.mk (Kd.R_drew HO_322002.out)
    replace HO326 := Aside0.mk (Kd.S_drew HO326.out)
    replace HO329 := Aside0.mk (Kd.R_drew HO329.out)
    replace BK270 := Aside0.mk (blk_drew BK270.out)
    replace BK271 := Aside0.mk (blk_drew BK271.out)
    replace BK296 := Aside0.mk (blk_drew BK296.out)
    replace BK304 := Aside0.mk (blk_drew BK304.out)
    replace BK312 := Aside0.mk (blk_drew BK312.out)
    replace BK321 := Aside0.mk (blk_drew BK321.out)
    replace HB := Aside0.mk (below_drew1 HB.out)
    refine start_ (n := 5) (S := fun w' => w'.cell? ⟨gb312, 0, none⟩ = some (.int .i64 t305) ∧ w'.cell? ⟨gb312, 1, none⟩ = some (.slice Ao67 t306.length co67) ∧ w'.cell? ⟨gb312, 2, none⟩ = some (.slice Ao68 t309.length co68) ∧ w'.cell? ⟨gb271, 0, none⟩ = some (.int .i64 a1_0) ∧ w'.cell? ⟨gb271, 1, none⟩ = some (.slice A1_1 l1_1.length c1_1) ∧ w'.cell? ⟨gb271, 2, none⟩ = some (.slice A1_2 l1_2.length c1_2)) (ds := []) #[false, false, false, false, false] (by kernel_rfl) rfl rfl ⟨bc BK312 0, bc BK312 1, bc BK312 2, bc BK271 0, bc BK271 1, bc BK271 2⟩ (fun hHeld => ?_)
    generalize w281.drew = w282 at HO_297001 HO_297002 HO_305001 HO_305002 HO_313001 HO_313002 HO_322001 HO_322002 HO326 HO329 BK270 BK271 BK296 BK304 BK312 BK321 HB hHeld ⊢
    refine take_ (i := 0) (N := some 59) (v := ?_) (a' := ?_) #[true, false, false, false, false] rfl rfl (by kernel_rfl) (fun _ _ _ h => h) (Or.inl ⟨by rfl, ?_⟩) hHeld ?_ ?_
    rotate_left
    ·
     rintro w' ⟨s0, s1, s2, s3, s4, s5⟩
     go_simp
     with_reducible rfl
    rotate_left
    ·
     simp only [Act.put, setIfInBounds_toArray, set_cons_zero, set_cons_succ, i64_w, i32_w]
     rfl
    refine take_ (i := 1) (N := some 60) (v := ?_) (a' := ?_) #[true, true, false, false, false] rfl rfl (by kernel_rfl) (fun _ _ _ h => h) (Or.inl ⟨by rfl, ?_⟩) hHeld ?_ ?_
    rotate_left
    ·
     rintro w' ⟨s0, s1, s2, s3, s4, s5⟩
     go_simp
     with_reducible rfl
    rotate_left
    ·
     simp only [Act.put, setIfInBounds_toArray, set_cons_zero, set_cons_succ, i64_w, i32_w]
     rfl
    refine one_ (i := 2) (N := some 61) #[true, true, true, false, false] rfl rfl (by kernel_rfl) (by decide) (fun K hK => ?_)
    refine goes_ Try.func7 (by kernel_rfl) rfl #[.agg #[.int .i64 a1_0, .slice A1_1 l1_1.length c1_1, .slice A1_2 l1_2.length c1_2]] (by rfl) rfl rfl (by (try simp only [List.map_toArray, List.map_cons, List.map_nil]); first | done | rfl) ?_
    with_reducible refine (Ff.calls kj24 a1_0 _ _ l1_1 _ _ l1_2 t331 t332 t335 _ ?side1 ?side2 ?side3 ?side4 A112.out).mono ?_
    (case side1 => exact uC HR1_1 HB)
    (case side2 => exact HC1_1.out)
    (case side3 => exact uC HR1_2 HB)
    (case side4 => exact HC1_2.out)
    rintro e w283 ⟨v333, v336, rfl, ho0, ho1, hb⟩
    refine ⟨_, rfl, ?_⟩
    have HO334 := jtS ho0 (below_size (uN HB))
    replace HO_297001 := jkS HO_297001 hb
    replace HO_305001 := jkS HO_305001 hb
    replace HO_313001 := jkS HO_313001 hb
    replace HO_322001 := jkS HO_322001 hb
    replace HO326 := jkS HO326 hb
    have HO337 := jtR ho1 (below_size (uN HB))
    replace HO_297002 := jkR HO_297002 hb
    replace HO_305002 := jkR HO_305002 hb
    replace HO_313002 := jkR HO_313002 hb
    replace HO_322002 := jkR HO_322002 hb
    replace HO329 := jkR HO329 hb
    replace BK270 := kB BK270 hb
    replace BK271 := kB BK271 hb
    replace BK296 := kB BK296 hb
    replace BK304 := kB BK304 hb
    replace BK312 := kB BK312 hb
    replace BK321 := kB BK321 hb
    replace HB := Aside0.mk (below_step (uN HB) hb)
    (try clear hb)
    (try clear hb2)
    (try clear hk)
    (try clear hi)
    (try clear ho0)
    (try clear ho1)
    obtain ⟨Ao284, co284, eo284⟩ := Kd.S_slice HO334.out
    (first | subst eo284 | (injection eo284 with f1_ f2_ f3_; have f4_ := f1_.symm; have f5_ := f3_.symm; clear f1_ f2_ f3_; subst f4_; subst f5_))
    obtain ⟨Ao285, co285, eo285⟩ := Kd.R_slice HO337.out
    (first | subst eo285 | (injection eo285 with f1_ f2_ f3_; have f4_ := f1_.symm; have f5_ := f3_.symm; clear f1_ f2_ f3_; subst f4_; subst f5_))
    refine hK.out _ _ ⟨bc BK312 0, bc BK312 1, bc BK312 2, bc BK271 0, bc BK271 1, bc BK271 2⟩ (fun hHeld => ?_)
    clear hK K
    refine norm_ (a' := ?_) ?_ ?_
    rotate_left
    ·
     show Act.put _ (some 61) _ = _
     simp only [Act.put, setIfInBounds_toArray, set_cons_zero, set_cons_succ, i64_w, i32_w]
     rfl
    refine one_ (i := 3) (N := some 62) #[true, true, true, true, false] rfl rfl (by kernel_rfl) (by decide) (fun K hK => ?_)
    refine goes_ Try.func9 (by kernel_rfl) rfl #[.agg #[.int .i64 t305, .slice Ao67 t306.length co67, .slice Ao68 t309.length co68], .agg #[.int .i64 t331, .slice Ao284 t332.length co284, .slice Ao285 t335.length co285]] (by rfl) rfl rfl (by (try simp only [List.map_toArray, List.map_cons, List.map_nil]); first | done | rfl) ?_
    with_reducible refine (Fj.calls kj24 t305 _ _ t306 _ _ t309 t331 _ _ t332 _ _ t335 false _ ?side1 ?side2 ?side3 ?side4 ?side5 ?side6 ?side7 ?side8 A113.out).mono ?_
    (case side1 => exact jdS HO_313001)
    (case side2 => exact (Kd.S_reads' HO_313001.out).2.1)
    (case side3 => exact uD HO_313002)
    (case side4 => exact (Kd.R_reads' HO_313002.out).2.1)
    (case side5 => exact jdS HO334)
    (case side6 => exact (Kd.S_reads' HO334.out).2.1)
    (case side7 => exact uD HO337)
    (case side8 => exact (Kd.R_reads' HO337.out).2.1)
    rintro e w286 ⟨rfl, hb⟩
    refine ⟨_, rfl, ?_⟩
    replace HO_297001 := jkS HO_297001 hb
    replace HO_297002 := jkR HO_297002 hb
    replace HO_305001 := jkS HO_305001 hb
    replace HO_305002 := jkR HO_305002 hb
    replace HO_313001 := jkS HO_313001 hb
    replace HO_313002 := jkR HO_313002 hb
    replace HO_322001 := jkS HO_322001 hb
    replace HO_322002 := jkR HO_322002 hb
    replace HO326 := jkS HO326 hb
    replace HO329 := jkR HO329 hb
    replace HO334 := jkS HO334 hb
    replace HO337 := jkR HO337 hb
    replace BK270 := kB BK270 hb
    replace BK271 := kB BK271 hb
    replace BK296 := kB BK296 hb
    replace BK304 := kB BK304 hb
    replace BK312 := kB BK312 hb
    replace BK321 := kB BK321 hb
    replace HB := Aside0.mk (below_step (uN HB) hb)
    (try clear hb)
    (try clear hb2)
    (try clear hk)
    (try clear hi)
    refine hK.out _ _ ⟨bc BK312 0, bc BK312 1, bc BK312 2, bc BK271 0, bc BK271 1, bc BK271 2⟩ (fun hHeld => ?_)
    clear hK K
    refine norm_ (a' := ?_) ?_ ?_
    rotate_left
    ·
     show Act.put _ (some 62) _ = _
     simp only [Act.put, setIfInBounds_toArray, set_cons_zero, set_cons_succ, i64_w, i32_w]
     rfl
    refine pure_ (i := 4) (N := some 63) (v := ?_) (a' := ?_) #[true, true, true, true, true] rfl rfl (by kernel_rfl) (fun _ _ _ h => h) (Or.inl ⟨by rfl, ?_⟩) ?_ ?_
    rotate_left
    ·
     intro w'
     go_simp
     with_reducible rfl
    rotate_left
    ·
     simp only [Act.put, setIfInBounds_toArray, set_cons_zero, set_cons_succ, i64_w, i32_w]
     rfl
    refine done_ (by kernel_rfl) ?_
    try go_wp2
    go_ret
    exact ⟨by first | rfl | (simp [errW_none, errW_some] <;> rfl) | (simp [*, errW_none, errW_some] <;> rfl), uN HB⟩
   replace c111 := Bool.eq_false_iff.mpr c111
   subst c111
   rw [if_neg (show ¬ (false = true) by decide)] at H
   obtain rfl := Option.some.inj H
   try go_wp2
   replace HO_297001 := Aside0.mk (Kd.S_drew HO_297001.out)
   replace HO_297002 := Aside0.mk (Kd.R_drew HO_297002.out)
   replace HO_305001 := Aside0.mk (Kd.S_drew HO_305001.out)
   replace HO_305002 := Aside0.mk (Kd.R_drew HO_305002.out)
   replace HO_313001 := Aside0.mk (Kd.S_drew HO_313001.out)
   replace HO_313002 := Aside0.mk (Kd.R_drew HO_313002.out)
   replace HO_322001 := Aside0.mk (Kd.S_drew HO_322001.out)
   replace HO_322002 := Aside0.mk (Kd.R_drew HO_322002.out)
   replace BK270 := Aside0.mk (blk_drew BK270.out)
   replace BK271 := Aside0.mk (blk_drew BK271.out)
   replace BK296 := Aside0.mk (blk_drew BK296.out)
   replace BK304 := Aside0.mk (blk_drew BK304.out)
   replace BK312 := Aside0.mk (blk_drew BK312.out)
   replace BK321 := Aside0.mk (blk_drew BK321.out)
   replace HB := Aside0.mk (below_drew1 HB.out)
   refine start_ (n := 5) (S := fun w' => w'.cell? ⟨gb304, 0, none⟩ = some (.int .i64 t297) ∧ w'.cell? ⟨gb304, 1, none⟩ = some (.slice Ao56 t298.length co56) ∧ w'.cell? ⟨gb304, 2, none⟩ = some (.slice Ao57 t301.length co57) ∧ w'.cell? ⟨gb270, 0, none⟩ = some (.int .i64 a0_0) ∧ w'.cell? ⟨gb270, 1, none⟩ = some (.slice A0_1 l0_1.length c0_1) ∧ w'.cell? ⟨gb270, 2, none⟩ = some (.slice A0_2 l0_2.length c0_2)) (ds := []) #[false, false, false, false, false] (by kernel_rfl) rfl rfl ⟨bc BK304 0, bc BK304 1, bc BK304 2, bc BK270 0, bc BK270 1, bc BK270 2⟩ (fun hHeld => ?_)
   generalize wc.drew = w287 at HO_297001 HO_297002 HO_305001 HO_305002 HO_313001 HO_313002 HO_322001 HO_322002 BK270 BK271 BK296 BK304 BK312 BK321 HB hHeld ⊢
   refine take_ (i := 0) (N := some 54) (v := ?_) (a' := ?_) #[true, false, false, false, false] rfl rfl (by kernel_rfl) (fun _ _ _ h => h) (Or.inl ⟨by rfl, ?_⟩) hHeld ?_ ?_
   rotate_left
   ·
    rintro w' ⟨s0, s1, s2, s3, s4, s5⟩
    go_simp
    with_reducible rfl
   rotate_left
   ·
    simp only [Act.put, setIfInBounds_toArray, set_cons_zero, set_cons_succ, i64_w, i32_w]
    rfl
   refine take_ (i := 1) (N := some 55) (v := ?_) (a' := ?_) #[true, true, false, false, false] rfl rfl (by kernel_rfl) (fun _ _ _ h => h) (Or.inl ⟨by rfl, ?_⟩) hHeld ?_ ?_
   rotate_left
   ·
    rintro w' ⟨s0, s1, s2, s3, s4, s5⟩
    go_simp
    with_reducible rfl
   rotate_left
   ·
    simp only [Act.put, setIfInBounds_toArray, set_cons_zero, set_cons_succ, i64_w, i32_w]
    rfl
   refine one_ (i := 2) (N := some 56) #[true, true, true, false, false] rfl rfl (by kernel_rfl) (by decide) (fun K hK => ?_)
   refine goes_ Try.func7 (by kernel_rfl) rfl #[.agg #[.int .i64 a0_0, .slice A0_1 l0_1.length c0_1, .slice A0_2 l0_2.length c0_2]] (by rfl) rfl rfl (by (try simp only [List.map_toArray, List.map_cons, List.map_nil]); first | done | rfl) ?_
   with_reducible refine (Ff.calls kj24 a0_0 _ _ l0_1 _ _ l0_2 t323 t324 t327 _ ?side1 ?side2 ?side3 ?side4 A109.out).mono ?_
   (case side1 => exact uC HR0_1 HB)
   (case side2 => exact HC0_1.out)
   (case side3 => exact uC HR0_2 HB)
   (case side4 => exact HC0_2.out)
   rintro e w288 ⟨v325, v328, rfl, ho0, ho1, hb⟩
   refine ⟨_, rfl, ?_⟩
   have HO326 := jtS ho0 (below_size (uN HB))
   replace HO_297001 := jkS HO_297001 hb
   replace HO_305001 := jkS HO_305001 hb
   replace HO_313001 := jkS HO_313001 hb
   replace HO_322001 := jkS HO_322001 hb
   have HO329 := jtR ho1 (below_size (uN HB))
   replace HO_297002 := jkR HO_297002 hb
   replace HO_305002 := jkR HO_305002 hb
   replace HO_313002 := jkR HO_313002 hb
   replace HO_322002 := jkR HO_322002 hb
   replace BK270 := kB BK270 hb
   replace BK271 := kB BK271 hb
   replace BK296 := kB BK296 hb
   replace BK304 := kB BK304 hb
   replace BK312 := kB BK312 hb
   replace BK321 := kB BK321 hb
   replace HB := Aside0.mk (below_step (uN HB) hb)
   (try clear hb)
   (try clear hb2)
   (try clear hk)
   (try clear hi)
   (try clear ho0)
   (try clear ho1)
   obtain ⟨Ao289, co289, eo289⟩ := Kd.S_slice HO326.out
   (first | subst eo289 | (injection eo289 with f1_ f2_ f3_; have f4_ := f1_.symm; have f5_ := f3_.symm; clear f1_ f2_ f3_; subst f4_; subst f5_))
   obtain ⟨Ao290, co290, eo290⟩ := Kd.R_slice HO329.out
   (first | subst eo290 | (injection eo290 with f1_ f2_ f3_; have f4_ := f1_.symm; have f5_ := f3_.symm; clear f1_ f2_ f3_; subst f4_; subst f5_))
   refine hK.out _ _ ⟨bc BK304 0, bc BK304 1, bc BK304 2, bc BK270 0, bc BK270 1, bc BK270 2⟩ (fun hHeld => ?_)
   clear hK K
   refine norm_ (a' := ?_) ?_ ?_
   rotate_left
   ·
    show Act.put _ (some 56) _ = _
    simp only [Act.put, setIfInBounds_toArray, set_cons_zero, set_cons_succ, i64_w, i32_w]
    rfl
   refine one_ (i := 3) (N := some 57) #[true, true, true, true, false] rfl rfl (by kernel_rfl) (by decide) (fun K hK => ?_)
   refine goes_ Try.func9 (by kernel_rfl) rfl #[.agg #[.int .i64 t297, .slice Ao56 t298.length co56, .slice Ao57 t301.length co57], .agg #[.int .i64 t323, .slice Ao289 t324.length co289, .slice Ao290 t327.length co290]] (by rfl) rfl rfl (by (try simp only [List.map_toArray, List.map_cons, List.map_nil]); first | done | rfl) ?_
   with_reducible refine (Fj.calls kj24 t297 _ _ t298 _ _ t301 t323 _ _ t324 _ _ t327 false _ ?side1 ?side2 ?side3 ?side4 ?side5 ?side6 ?side7 ?side8 A110.out).mono ?_
   (case side1 => exact jdS HO_305001)
   (case side2 => exact (Kd.S_reads' HO_305001.out).2.1)
   (case side3 => exact uD HO_305002)
   (case side4 => exact (Kd.R_reads' HO_305002.out).2.1)
   (case side5 => exact jdS HO326)
   (case side6 => exact (Kd.S_reads' HO326.out).2.1)
   (case side7 => exact uD HO329)
   (case side8 => exact (Kd.R_reads' HO329.out).2.1)
   rintro e w291 ⟨rfl, hb⟩
   refine ⟨_, rfl, ?_⟩
   replace HO_297001 := jkS HO_297001 hb
   replace HO_297002 := jkR HO_297002 hb
   replace HO_305001 := jkS HO_305001 hb
   replace HO_305002 := jkR HO_305002 hb
   replace HO_313001 := jkS HO_313001 hb
   replace HO_313002 := jkR HO_313002 hb
   replace HO_322001 := jkS HO_322001 hb
   replace HO_322002 := jkR HO_322002 hb
   replace HO326 := jkS HO326 hb
   replace HO329 := jkR HO329 hb
   replace BK270 := kB BK270 hb
   replace BK271 := kB BK271 hb
   replace BK296 := kB BK296 hb
   replace BK304 := kB BK304 hb
   replace BK312 := kB BK312 hb
   replace BK321 := kB BK321 hb
   replace HB := Aside0.mk (below_step (uN HB) hb)
   (try clear hb)
   (try clear hb2)
   (try clear hk)
   (try clear hi)
   refine hK.out _ _ ⟨bc BK304 0, bc BK304 1, bc BK304 2, bc BK270 0, bc BK270 1, bc BK270 2⟩ (fun hHeld => ?_)
   clear hK K
   refine norm_ (a' := ?_) ?_ ?_
   rotate_left
   ·
    show Act.put _ (some 57) _ = _
    simp only [Act.put, setIfInBounds_toArray, set_cons_zero, set_cons_succ, i64_w, i32_w]
    rfl
   refine pure_ (i := 4) (N := some 58) (v := ?_) (a' := ?_) #[true, true, true, true, true] rfl rfl (by kernel_rfl) (fun _ _ _ h => h) (Or.inl ⟨by rfl, ?_⟩) ?_ ?_
   rotate_left
   ·
    intro w'
    go_simp
    with_reducible rfl
   rotate_left
   ·
    simp only [Act.put, setIfInBounds_toArray, set_cons_zero, set_cons_succ, i64_w, i32_w]
    rfl
   refine done_ (by kernel_rfl) ?_
   try go_wp2
   go_ret
   exact ⟨by first | rfl | (simp [errW_none, errW_some] <;> rfl) | (simp [*, errW_none, errW_some] <;> rfl), uN HB⟩

end Go.Proofs.Ytgbpbhplehmedaa.PFnExactJoinSystems
