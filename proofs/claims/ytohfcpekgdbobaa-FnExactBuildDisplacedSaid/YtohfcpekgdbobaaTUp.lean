-- made by wip/tools/trimwords.py over the kit's print, for this claim
import Derived.Test.YtohfcpekgdbobaaTFnv
import Derived.Test.YtohfcpekgdbobaaTWWords
import Derived.Test.YtohfcpekgdbobaaTWMore
namespace Go.Proofs.Ytohfcpekgdbobaa
open Go Go.RowKit Go.Proofs.YtohfcpekgdbobaaW.PrintWords
class Up (w W : World) : Prop where
 b : Below w.heap.size w W
instance Up.refl (w : World) : Up w w := ⟨Below.refl _ _⟩
instance Up.alloc (w W : World) (o : Obj) [u : Up w W] : Up w (W.alloc o) := ⟨below_alloc u.b o⟩
instance Up.drewN (w W : World) (n : Nat) [u : Up w W] : Up w (W.drewN n) := ⟨pw_below_drewN u.b n⟩
instance Up.drew (w W : World) [u : Up w W] : Up w W.drew := ⟨below_drew u.b⟩
theorem uR {α : Type} {d : Kd α} {e base : Nat} {ok : Nat → Prop} {w W : World} {v : Value} {xs : List α} (h : Aside0 (d.R e w base ok v xs)) [u : Up w W] : d.R e W base ok v xs := Kd.R_below h.out u.b
theorem uK {w W : World} {g : Nat} {o : Obj} (h : Aside0 (w.heap[g]? = some o)) [u : Up w W] : W.heap[g]? = some o := (u.b.block g (Array.getElem?_eq_some_iff.1 h.out).1).trans h.out
theorem uB {w0 w W : World} (h : Aside0 (Below w0.heap.size w0 w)) [u : Up w W] : Below w0.heap.size w0 W := below_then h.out h.out.size u.b
theorem uC {α : Type} {d : Kd α} {w w1 W : World} {A : Option Addr} {n : Nat} {xs : List α} (h : Aside0 (d.C w A n xs)) (hb : Aside0 (Below w.heap.size w w1)) [u : Up w1 W] : d.C W A n xs := Kd.C_below h.out (uB hb)
class MemG (g : Nat) (gs : List Nat) : Prop where
 m : g ∈ gs
instance (priority := 2000) MemG.head (g : Nat) (gs : List Nat) : MemG g (g :: gs) := ⟨List.mem_cons_self ..⟩
instance MemG.tail (g h : Nat) (gs : List Nat) [u : MemG g gs] : MemG g (h :: gs) := ⟨List.mem_cons_of_mem _ u.m⟩
class UpS (gs : List Nat) (w W : World) : Prop where
 b : ∀ w0 : World, (∀ g ∈ gs, w0.heap.size ≤ g) → Below w0.heap.size w0 w → Below w0.heap.size w0 W
instance UpS.refl (gs : List Nat) (w : World) : UpS gs w w := ⟨fun _ _ h => h⟩
instance UpS.alloc (gs : List Nat) (w W : World) (o : Obj) [u : UpS gs w W] : UpS gs w (W.alloc o) := ⟨fun w0 g h => below_alloc (u.b w0 g h) o⟩
instance UpS.drewN (gs : List Nat) (w W : World) (n : Nat) [u : UpS gs w W] : UpS gs w (W.drewN n) := ⟨fun w0 g h => pw_below_drewN (u.b w0 g h) n⟩
instance UpS.drew (gs : List Nat) (w W : World) [u : UpS gs w W] : UpS gs w W.drew := ⟨fun w0 g h => below_drew (u.b w0 g h)⟩
instance UpS.set (gs : List Nat) (w W : World) (g j : Nat) (v : Value) [m : MemG g gs] [u : UpS gs w W] : UpS gs w (W.setCell ⟨g, j, none⟩ v) := ⟨fun w0 hg h => below_set (u.b w0 hg h) (hg g m.m)⟩
def AllG (n : Nat) (gs : List Nat) : Prop := ∀ g ∈ gs, n ≤ g
theorem gN {n : Nat} : AllG n [] := fun g h => by cases h
theorem gC {n g : Nat} {gs : List Nat} (h : Aside0 (n ≤ g)) (t : AllG n gs) : AllG n (g :: gs) := fun x hx => by
 rcases List.mem_cons.1 hx with rfl | hx
 ·
  exact h.out
 ·
  exact t x hx
theorem uS {w0 w W : World} {gs : List Nat} (h : Aside0 (Below w0.heap.size w0 w)) (g : AllG w0.heap.size gs) [u : UpS gs w W] : Below w0.heap.size w0 W := u.b w0 g h.out
theorem uD {α : Type} {d : Kd α} {e base n c : Nat} {ok : Nat → Prop} {w W : World} {A : Option Addr} {xs : List α} (h : Aside0 (d.R e w base ok (.slice A n c) xs)) [u : Up w W] : d.C W A xs.length xs := Kd.C_below (Kd.R_reads' h.out).2.2 u.b
class UpB (W : World) (w : outParam World) : Prop where
 b : Below w.heap.size w W
instance (priority := 100) UpB.refl (w : World) : UpB w w := ⟨Below.refl _ _⟩
instance UpB.alloc (w W : World) (o : Obj) [u : UpB W w] : UpB (W.alloc o) w := ⟨below_alloc u.b o⟩
instance UpB.drewN (w W : World) (n : Nat) [u : UpB W w] : UpB (W.drewN n) w := ⟨pw_below_drewN u.b n⟩
instance UpB.drew (w W : World) [u : UpB W w] : UpB W.drew w := ⟨below_drew u.b⟩
theorem uW {W w : World} {g : Nat} {o : Obj} [u : UpB W w] (h : w.heap[g]? = some o) : W.heap[g]? = some o := blk_below h u.b
class Far (g : Nat) (w W : World) : Prop where
 f : ∀ {α : Type} (d : Kd α) (e base : Nat) (ok : Nat → Prop) (v : Value) (xs : List α), d.R e w base (fun k => ok k ∧ k ≠ g) v xs → d.R e W base (fun k => ok k ∧ k ≠ g) v xs
instance Far.refl (g : Nat) (w : World) : Far g w w := ⟨fun _ _ _ _ _ _ h => h⟩
instance Far.alloc (g : Nat) (w W : World) (o : Obj) [u : Far g w W] : Far g w (W.alloc o) := ⟨fun d e b ok v xs h => Kd.R_alloc (u.f d e b ok v xs h) o⟩
instance Far.drewN (g : Nat) (w W : World) (n : Nat) [u : Far g w W] : Far g w (W.drewN n) := ⟨fun d e b ok v xs h => Kd.R_drewN (u.f d e b ok v xs h) n⟩
instance Far.drew (g : Nat) (w W : World) [u : Far g w W] : Far g w W.drew := ⟨fun d e b ok v xs h => Kd.R_drew (u.f d e b ok v xs h)⟩
instance Far.set (g : Nat) (w W : World) (j : Nat) (x : Value) [u : Far g w W] : Far g w (W.setCell ⟨g, j, none⟩ x) := ⟨fun d e b ok v xs h => Kd.R_far (p := ⟨g, j, none⟩) (u.f d e b ok v xs h) (fun _ hk => hk.2) x⟩
class GEI (n g : Nat) : Prop where
 h : n ≤ g
class UpN (n : Nat) (w W : World) : Prop where
 b : ∀ w0 : World, w0.heap.size = n → Below w0.heap.size w0 w → Below w0.heap.size w0 W
instance UpN.refl (n : Nat) (w : World) : UpN n w w := ⟨fun _ _ h => h⟩
instance UpN.alloc (n : Nat) (w W : World) (o : Obj) [u : UpN n w W] : UpN n w (W.alloc o) := ⟨fun w0 e h => below_alloc (u.b w0 e h) o⟩
instance UpN.drewN (n : Nat) (w W : World) (m : Nat) [u : UpN n w W] : UpN n w (W.drewN m) := ⟨fun w0 e h => pw_below_drewN (u.b w0 e h) m⟩
instance UpN.drew (n : Nat) (w W : World) [u : UpN n w W] : UpN n w W.drew := ⟨fun w0 e h => below_drew (u.b w0 e h)⟩
instance UpN.set (n : Nat) (w W : World) (g j : Nat) (v : Value) [m : GEI n g] [u : UpN n w W] : UpN n w (W.setCell ⟨g, j, none⟩ v) := ⟨fun w0 e h => below_set (u.b w0 e h) (e ▸ m.h)⟩
end Go.Proofs.Ytohfcpekgdbobaa
