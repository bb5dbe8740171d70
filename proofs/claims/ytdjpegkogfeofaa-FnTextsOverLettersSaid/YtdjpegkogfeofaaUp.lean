/- What holds of a world holds of one that has come of it by new blocks and draws alone: told by the shape of the later world. -/
import Derived.Test.YtdjpegkogfeofaaFnv
import Derived.Test.YtdjpegkogfeofaaWWords
import Derived.Test.YtdjpegkogfeofaaWMore
namespace Go.Proofs.Ytdjpegkogfeofaa
open Go Go.RowKit Go.Proofs.YtdjpegkogfeofaaW.PrintWords
class Up (w W : World) : Prop where
  b : Below w.heap.size w W
instance Up.refl (w : World) : Up w w := ⟨Below.refl _ _⟩
instance Up.alloc (w W : World) (o : Obj) [u : Up w W] : Up w (W.alloc o) := ⟨below_alloc u.b o⟩
instance Up.drewN (w W : World) (n : Nat) [u : Up w W] : Up w (W.drewN n) := ⟨pw_below_drewN u.b n⟩
instance Up.drew (w W : World) [u : Up w W] : Up w W.drew := ⟨below_drew u.b⟩
theorem uR {α : Type} {d : Kd α} {e base : Nat} {ok : Nat → Prop} {w W : World} {v : Value} {xs : List α} (h : Aside0 (d.R e w base ok v xs)) [u : Up w W] : d.R e W base ok v xs := Kd.R_below h.out u.b
theorem uK {w W : World} {g : Nat} {o : Obj} (h : Aside0 (w.heap[g]? = some o)) [u : Up w W] : W.heap[g]? = some o := (u.b.block g (Array.getElem?_eq_some_iff.1 h.out).1).trans h.out
theorem uB {w0 w W : World} (h : Aside0 (Below w0.heap.size w0 w)) [u : Up w W] : Below w0.heap.size w0 W := below_then h.out h.out.size u.b
theorem uC {α : Type} {d : Kd α} {w w1 W : World} {A : Option Addr} {n : Nat} {xs : List α} (h : Aside0 (d.C w A n xs)) (hb : Aside0 (Below w.heap.size w w1)) [u : Up w1 W] : d.C W A n xs := Kd.C_below h.out (uB hb)
end Go.Proofs.Ytdjpegkogfeofaa
