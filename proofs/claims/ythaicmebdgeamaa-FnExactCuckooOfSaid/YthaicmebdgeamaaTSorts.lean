-- made by wip/tools/trimwords.py over the kit's print, for this claim
import Derived.Sort.OwnSorted
import Derived.Shelf.Sort.Plain
import Derived.Shelf.Slices.In.SortNone
import Derived.Shelf.SlicesE.DeleteFunc
import Derived.Shelf.SlicesE.Delete
import Derived.Shelf.Lay
import Derived.Shelf.SlGeneric
import Derived.Ground.SlgfProg
import Derived.Ground.NamesProg
import Derived.Test.YthaicmebdgeamaaTFnv
import Derived.Test.YthaicmebdgeamaaTWWords
import Derived.Test.YthaicmebdgeamaaTWKept
import Derived.Test.YthaicmebdgeamaaTWN
namespace Go.Proofs.Ythaicmebdgeamaa.Sorts
open Go Go.RowKit Go.Sort Go.Shelf Go.Proofs Go.Proofs.YthaicmebdgeamaaW.PrintWords
set_option linter.unusedVariables false
set_option linter.unusedSimpArgs false
section
variable {α : Type} [Inhabited α] {enc : α → Value} {w : World} {base g cap q : Nat} {e : TypeId} {cur : Array Value}
theorem holds_own {l : List α} (hb : w.heap[g]? = some (.cells cur e (0, 0))) (ht : cur.toList.take l.length = l.map enc) : Holds enc w g 0 l.toArray := by
  intro j hj
  have hj' : j < l.length := by simpa using hj
  refine ⟨?_, by simp [World.frozen?, hb]⟩
  have h1 : (cur.toList.take l.length)[j]? = (l.map enc)[j]? := by rw [ht]
  rw [List.getElem?_take_of_lt hj'] at h1
  simp only [World.cell?, hb, Nat.zero_add]
  simp only [Option.isSome_none, Bool.false_eq_true, if_false]
  rw [← Array.getElem?_toList, h1]
  simp [hj']
theorem heap_put (d : Array α) (hb : w.heap[g]? = some (.cells cur e (0, 0))) : (putRow enc (Sort.ahead w q) g 0 d).heap[g]? = some (.cells (putCells enc 0 d cur) e (0, 0)) := by
  simp [putRow, mapBlock, Sort.ahead, Array.getElem?_modify, hb, onCells]
theorem grownBy_put (d : Array α) : w.grownBy (putRow enc (Sort.ahead w q) g 0 d) (some g) := by
  refine ⟨rfl, rfl, rfl, by simp, fun k hk hne => ?_⟩
  have : g ≠ k := fun e => hne (by rw [e])
  simp [putRow, mapBlock, Sort.ahead, Array.getElem?_modify, this]
theorem take_put (ts : List α) (h : ts.length ≤ cur.size) : (putCells enc 0 ts.toArray cur).toList.take ts.length = ts.map enc := by
  apply List.ext_getElem?
  intro j
  by_cases hj : j < ts.length
  · rw [List.getElem?_take_of_lt hj, Array.getElem?_toList]
    simp [putCells, hj, show j < cur.size by omega]
  · rw [List.getElem?_take_eq_none (by omega), List.getElem?_eq_none (by simp; omega)]
theorem owns_put {new : List α} {m : Nat} (hbase : base ≤ g) (hb : w.heap[g]? = some (.cells cur e (0, 0))) (h1 : new.length ≤ cap) (h2 : cap ≤ maxLen) (h3 : cur.size = cap * 1) (hm : m ≤ new.length) :
    (putRow enc (Sort.ahead w q) g 0 new.toArray).ownsRow base e 1 (.slice (some ⟨g, 0, none⟩) m cap) m ((new.take m).map enc) :=
  ⟨by simp [hm], .inr ⟨g, cap, _, rfl, hbase, heap_put _ hb, by omega, h2, by simp [putCells, h3], by
    rw [Nat.mul_one]
    have h := take_put (enc := enc) (cur := cur) new (by omega)
    have h' := congrArg (List.take m) h
    rw [List.take_take, Nat.min_eq_left hm, ← List.map_take] at h'
    exact h'⟩⟩
end
def sortS (l : List ByteArray) : List ByteArray := ((l.map fun s => s.data.toList).mergeSort fun x y => decide (x ≤ y)).map fun b => ⟨b.toArray⟩
theorem sortS_length (l : List ByteArray) : (sortS l).length = l.length := by simp [sortS]
theorem encStr_of (l : List ByteArray) : (l.map fun s => s.data.toList).map encStr = l.map Value.string := by
  rw [List.map_map]
  exact List.map_congr_left fun s _ => rfl
theorem sort_row {P : Program} {ρ : Ren} (Ly : Lays.n190 P ρ) (T : Nat) (P0 : Nat → Prop) (u : Value) (l : List ByteArray) (w0 w : World) (hB : Below w0.heap.size w0 w) (ho : Kd.R Kd.string T w w0.heap.size P0 u l) (hl : l.length < 4611686018427387904) :
    Calls P (ρ.f 190) #[u] w fun e w' => e = .returned (.tuple #[]) ∧ Kd.R Kd.string T w' w0.heap.size (fun k_ => (P0 k_ ∨ w.heap.size ≤ k_)) u (sortS l) ∧ Below w0.heap.size w0 w' ∧ Kept w w' (fun k_ => P0 k_) := by
  have hP := ho.1
  have hown := Kd.own_of_R ho
  rcases hown.2 with ⟨rfl, hn⟩ | ⟨g, cap, cur, rfl, hbase, hb, h1, h2, h3, h4⟩
  · have hl0 : l = [] := List.eq_nil_of_length_eq_zero hn
    subst hl0
    refine (Any.slices_Sort_string_none Ly none 0 w).mono ?_
    rintro e w' ⟨rfl, rfl⟩
    have e0 : sortS [] = [] := by simp [sortS]
    rw [e0]
    exact ⟨rfl, Kd.R_mono ho (fun _ hk => .inl hk), hB, Kept.refl _ _⟩
  · have hlt : g < w.heap.size := (Array.getElem?_eq_some_iff.1 hb).1
    have c := Any.slices_Sort_string Ly g 0 cap (l.map fun s => s.data.toList) w (holds_of_block hb (by rw [List.length_map, encStr_of]; simpa [encs] using h4)) hlt (by simpa using hl)
    rw [List.length_map] at c
    refine c.mono ?_
    rintro e w' ⟨rfl, n, os, rfl⟩
    refine ⟨rfl, ?_, hB.grown (grownBy_sorted _) hB.size (fun j hj => by cases hj; exact hbase), Kept.of_grown (grownBy_sorted _) (Kept.refl _ _) (fun k hk => by cases hk; exact .inl (hP g rfl))⟩
    refine Kd.R_of_own ?_ (fun k hk => .inl (hP k hk))
    have o := ownsRow_sorted (w := w) (n := n) (os := os) (cap := cap) (base := w0.heap.size) (ss := l.map fun s => s.data.toList) (ts := (l.map fun s => s.data.toList).mergeSort fun x y => decide (x ≤ y)) (by simp) hbase hb (by simpa using h1) h2 h3
    rw [List.length_map] at o
    rw [sortS_length]
    unfold sortS encs
    rw [List.map_map]
    exact o
theorem deleteFunc_row {P : Program} {ρ : Ren} (L : SlLaysH.n10 P ρ) (v23 : ∀ w, (zeroValue (ρ.t 23)).run P w = .ok (Value.string ⟨#[]⟩) w) (g0 : Nat) (eg : ∀ args w, (callFunc g0 args).run P w = .ok (.enter g0 args) w) (p : ByteArray → Bool) (hp : ∀ (W : World) (x : ByteArray), FnGives P g0 #[] #[Value.string x] (.bool (p x)) W) (T : Nat) (P0 : Nat → Prop) (u : Value) (l : List ByteArray) (w0 w : World) (hB : Below w0.heap.size w0 w) (ho : Kd.R Kd.string T w w0.heap.size P0 u l) (hl : 0 < l.length) (hl2 : l.length ≤ 9223372036854775807) :
    Calls P (ρ.f 10) #[u, .func (.func g0) #[] #[]] w fun e w' => ∃ v0_ : Value, e = .returned v0_ ∧ Kd.R Kd.string T w' w0.heap.size (fun k_ => (P0 k_ ∨ w.heap.size ≤ k_)) v0_ (l.filter fun x => !p x) ∧ Below w0.heap.size w0 w' ∧ Kept w w' (fun k_ => P0 k_) := by
  have hP := ho.1
  have hown := Kd.own_of_R ho
  rcases hown.2 with ⟨rfl, hn⟩ | ⟨g, cap, cur, rfl, hbase, hb, h1, h2, h3, h4⟩
  · omega
  · have hh := holds_own (enc := Value.string) hb (by simpa [encs] using h4)
    have c := AnyE.slices_DeleteFunc L Value.string (fun _ => rfl) p g0 #[] eg ⟨#[]⟩ v23 g 0 cap l.toArray w (fun W x _ => hp W x) (fun n os dk x _ => hp _ x) hh (by simpa using hl2) (by simpa using h1)
    simp only [List.size_toArray] at c
    refine c.mono ?_
    rintro e w' ⟨rfl, q, rfl⟩
    have hle := List.length_filter_le (fun x => !p x) l
    have hlen : ((l.filter fun x => !p x) ++ List.replicate (l.length - (l.filter fun x => !p x).length) (⟨#[]⟩ : ByteArray)).length = l.length := by simp; omega
    have o := owns_put (enc := Value.string) (q := q) (cap := cap) (base := w0.heap.size) (new := (l.filter fun x => !p x) ++ List.replicate (l.length - (l.filter fun x => !p x).length) (⟨#[]⟩ : ByteArray)) (m := (l.filter fun x => !p x).length) hbase hb (by omega) h2 h3 (by omega)
    refine ⟨_, rfl, ?_, hB.grown (grownBy_put _) hB.size (fun j hj => by cases hj; exact hbase), Kept.of_grown (grownBy_put _) (Kept.refl _ _) (fun k hk => by cases hk; exact .inl (hP g rfl))⟩
    refine Kd.R_of_own ?_ (fun k hk => .inl (hP k (by simpa [Value.ownBlock] using hk)))
    rw [List.take_left] at o
    exact o
end Go.Proofs.Ythaicmebdgeamaa.Sorts
