-- made by wip/tools/trimwords.py over the kit's print, for this claim
import Derived.Sort.OwnSorted
import Derived.Shelf.Sort.Plain
import Derived.Shelf.Slices.In.SortNone
import Derived.Shelf.SlicesE.DeleteFunc
import Derived.Shelf.SlicesE.Delete
import Derived.Shelf.Lay
import Derived.Shelf.SlGeneric
import Derived.Ground.SlgfProg
import Derived.Ground.NamesProg
import Derived.Test.YtllaofiopnhdgaaTFnv
import Derived.Test.YtllaofiopnhdgaaTWWords
import Derived.Test.YtllaofiopnhdgaaTWKept
import Derived.Test.YtllaofiopnhdgaaTWN
namespace Go.Proofs.Ytllaofiopnhdgaa.Sorts
open Go Go.RowKit Go.Sort Go.Shelf Go.Proofs Go.Proofs.YtllaofiopnhdgaaW.PrintWords
set_option linter.unusedVariables false
set_option linter.unusedSimpArgs false
section
variable {α : Type} [Inhabited α] {enc : α → Value} {w : World} {base g cap q : Nat} {e : TypeId} {cur : Array Value}
theorem holds_own {l : List α} (hb : w.heap[g]? = some (.cells cur e (0, 0))) (ht : cur.toList.take l.length = l.map enc) : Holds enc w g 0 l.toArray := by
 intro j hj
 have hj' : j < l.length := by simpa using hj
 refine ⟨?_, by simp [World.frozen?, hb]⟩
 have h1 : (cur.toList.take l.length)[j]? = (l.map enc)[j]? := by rw [ht]
 rw [List.getElem?_take_of_lt hj'] at h1
 simp only [World.cell?, hb, Nat.zero_add]
 simp only [Option.isSome_none, Bool.false_eq_true, if_false]
 rw [← Array.getElem?_toList, h1]
 simp [hj']
theorem heap_put (d : Array α) (hb : w.heap[g]? = some (.cells cur e (0, 0))) : (putRow enc (Sort.ahead w q) g 0 d).heap[g]? = some (.cells (putCells enc 0 d cur) e (0, 0)) := by
 simp [putRow, mapBlock, Sort.ahead, Array.getElem?_modify, hb, onCells]
theorem grownBy_put (d : Array α) : w.grownBy (putRow enc (Sort.ahead w q) g 0 d) (some g) := by
 refine ⟨rfl, rfl, rfl, by simp, fun k hk hne => ?_⟩
 have : g ≠ k := fun e => hne (by rw [e])
 simp [putRow, mapBlock, Sort.ahead, Array.getElem?_modify, this]
theorem take_put (ts : List α) (h : ts.length ≤ cur.size) : (putCells enc 0 ts.toArray cur).toList.take ts.length = ts.map enc := by
 apply List.ext_getElem?
 intro j
 by_cases hj : j < ts.length
 ·
  rw [List.getElem?_take_of_lt hj, Array.getElem?_toList]
  simp [putCells, hj, show j < cur.size by omega]
 ·
  rw [List.getElem?_take_eq_none (by omega), List.getElem?_eq_none (by simp; omega)]
theorem owns_put {new : List α} {m : Nat} (hbase : base ≤ g) (hb : w.heap[g]? = some (.cells cur e (0, 0))) (h1 : new.length ≤ cap) (h2 : cap ≤ maxLen) (h3 : cur.size = cap * 1) (hm : m ≤ new.length) :
  (putRow enc (Sort.ahead w q) g 0 new.toArray).ownsRow base e 1 (.slice (some ⟨g, 0, none⟩) m cap) m ((new.take m).map enc) :=
 ⟨by simp [hm], .inr ⟨g, cap, _, rfl, hbase, heap_put _ hb, by omega, h2, by simp [putCells, h3], by
  rw [Nat.mul_one]
  have h := take_put (enc := enc) (cur := cur) new (by omega)
  have h' := congrArg (List.take m) h
  rw [List.take_take, Nat.min_eq_left hm, ← List.map_take] at h'
  exact h'⟩⟩
end
end Go.Proofs.Ytllaofiopnhdgaa.Sorts
