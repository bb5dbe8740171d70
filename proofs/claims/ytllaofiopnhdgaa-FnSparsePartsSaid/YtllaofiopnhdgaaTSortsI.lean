-- made by wip/tools/trimwords.py over the kit's print, for this claim
import Derived.Shelf.Slices.CompactI
import Derived.Test.YtllaofiopnhdgaaTSorts
namespace Go.Proofs.Ytllaofiopnhdgaa.SortsI
open Go Go.RowKit Go.Sort Go.Shelf Go.Proofs Go.Proofs.YtllaofiopnhdgaaW.PrintWords Go.Proofs.Ytllaofiopnhdgaa.Sorts
set_option linter.unusedVariables false
set_option linter.unusedSimpArgs false
section
variable {α : Type} [Inhabited α] {enc : α → Value} {w : World} {base g cap n : Nat} {e : TypeId} {cur : Array Value} {os : Array Obj}
theorem heap_sortedE (d : Array α) (hb : w.heap[g]? = some (.cells cur e (0, 0))) : (grow (putRow enc (Sort.ahead w n) g 0 d) os).heap[g]? = some (.cells (putCells enc 0 d cur) e (0, 0)) := by
 have hg : g < w.heap.size := (Array.getElem?_eq_some_iff.1 hb).1
 rw [heap_grow_old _ _ (by simpa using hg)]
 simp [putRow, mapBlock, Sort.ahead, Array.getElem?_modify, hb, onCells]
theorem grownBy_sortedE (d : Array α) : w.grownBy (grow (putRow enc (Sort.ahead w n) g 0 d) os) (some g) := by
 refine ⟨rfl, rfl, rfl, by simp, fun k hk hne => ?_⟩
 rw [heap_grow_old _ _ (by simpa using hk)]
 have : g ≠ k := fun e => hne (by rw [e])
 simp [putRow, mapBlock, Sort.ahead, Array.getElem?_modify, this]
theorem ownsRow_sortedE {ss ts : List α} (hl : ts.length = ss.length) (hbase : base ≤ g) (hb : w.heap[g]? = some (.cells cur e (0, 0)))
  (h1 : ss.length ≤ cap) (h2 : cap ≤ maxLen) (h3 : cur.size = cap * 1) :
  (grow (putRow enc (Sort.ahead w n) g 0 ts.toArray) os).ownsRow base e 1 (.slice (some ⟨g, 0, none⟩) ss.length cap) ss.length (ts.map enc) :=
 ⟨by simp [hl], .inr ⟨g, cap, _, rfl, hbase, heap_sortedE _ hb, h1, h2, by simp [putCells, h3], by rw [Nat.mul_one, ← hl]; exact take_put ts (by omega)⟩⟩
end
theorem sort_rowI {P : Program} {ρ : Ren} (Ly : Lays.n189 P ρ) (T : Nat) (P0 : Nat → Prop) (u : Value) (l : List Int) (w0 w : World) (hB : Below w0.heap.size w0 w) (ho : Kd.R (Kd.int .i64) T w w0.heap.size P0 u l) (hl : l.length < 4611686018427387904) :
  Calls P (ρ.f 189) #[u] w fun e w' => e = .returned (.tuple #[]) ∧ Kd.R (Kd.int .i64) T w' w0.heap.size (fun k_ => (P0 k_ ∨ w.heap.size ≤ k_)) u (l.mergeSort fun x y => decide (x ≤ y)) ∧ Below w0.heap.size w0 w' ∧ Kept w w' (fun k_ => P0 k_) := by
 have hP := ho.1
 have hown := Kd.own_of_R ho
 rcases hown.2 with ⟨rfl, hn⟩ | ⟨g, cap, cur, rfl, hbase, hb, h1, h2, h3, h4⟩
 ·
  have hl0 : l = [] := List.eq_nil_of_length_eq_zero hn
  subst hl0
  refine (Any.slices_Sort_int_none Ly none 0 w).mono ?_
  rintro e w' ⟨rfl, rfl⟩
  have e0 : ([] : List Int).mergeSort (fun x y => decide (x ≤ y)) = [] := by simp
  rw [e0]
  exact ⟨rfl, Kd.R_mono ho (fun _ hk => .inl hk), hB, Kept.refl _ _⟩
 ·
  have hlt : g < w.heap.size := (Array.getElem?_eq_some_iff.1 hb).1
  have c := Any.slices_Sort_int Ly g 0 cap l w (holds_own (enc := Value.int .i64) hb (by simpa [encs] using h4)) hlt hl
  refine c.mono ?_
  rintro e w' ⟨rfl, n, os, rfl⟩
  refine ⟨rfl, ?_, hB.grown (grownBy_sortedE _) hB.size (fun j hj => by cases hj; exact hbase), Kept.of_grown (grownBy_sortedE _) (Kept.refl _ _) (fun k hk => by cases hk; exact .inl (hP g rfl))⟩
  refine Kd.R_of_own ?_ (fun k hk => .inl (hP k hk))
  have o := ownsRow_sortedE (w := w) (n := n) (os := os) (cap := cap) (base := w0.heap.size) (enc := Value.int .i64) (ss := l) (ts := l.mergeSort fun x y => decide (x ≤ y)) (by simp) hbase hb (by simpa using h1) h2 h3
  rw [List.length_mergeSort]
  exact o
theorem compact_len (l : List Int) : (Lib.compact l).length ≤ l.length := by
 unfold Lib.compact Lib.compactUpTo
 rw [List.length_map]
 have := List.length_filter_le (Lib.keeps l.toArray) (List.range l.length)
 rw [List.length_range] at this
 exact this
theorem compact_rowI {P : Program} {ρ : Ren} (L : Lays2.n20 P ρ) (T : Nat) (P0 : Nat → Prop) (u : Value) (l : List Int) (w0 w : World) (hB : Below w0.heap.size w0 w) (ho : Kd.R (Kd.int .i64) T w w0.heap.size P0 u l) (hl : l.length ≤ 9223372036854775807) :
  Calls P (ρ.f 20) #[u] w fun e w' => ∃ v0_ : Value, e = .returned v0_ ∧ Kd.R (Kd.int .i64) T w' w0.heap.size (fun k_ => (P0 k_ ∨ w.heap.size ≤ k_)) v0_ (Lib.compact l) ∧ Below w0.heap.size w0 w' ∧ Kept w w' (fun k_ => P0 k_) := by
 have hc := compact_len l
 have hP := ho.1
 have hown := Kd.own_of_R ho
 rcases hown.2 with ⟨rfl, hn⟩ | ⟨g, cap, cur, rfl, hbase, hb, h1, h2, h3, h4⟩
 ·
  have hl0 : l = [] := List.eq_nil_of_length_eq_zero hn
  subst hl0
  refine (Any.slices_Compact_int_empty L none 0 w).mono ?_
  rintro e w' ⟨rfl, rfl⟩
  have e0 : Lib.compact ([] : List Int) = [] := List.eq_nil_of_length_eq_zero (by simpa using hc)
  rw [e0]
  exact ⟨_, rfl, Kd.R_mono ho (fun _ hk => .inl hk), hB, Kept.refl _ _⟩
 ·
  have c := Any.slices_Compact_int L g 0 cap l w (holds_own (enc := Value.int .i64) hb (by simpa [encs] using h4)) hl (by simpa using h1)
  refine c.mono ?_
  rintro e w' ⟨rfl, q, rfl⟩
  have hlen : (Lib.compact l ++ List.replicate (l.length - (Lib.compact l).length) (0 : Int)).length = l.length := by simp; omega
  have o := owns_put (enc := Value.int .i64) (q := q) (cap := cap) (base := w0.heap.size) (new := Lib.compact l ++ List.replicate (l.length - (Lib.compact l).length) (0 : Int)) (m := (Lib.compact l).length) hbase hb (by omega) h2 h3 (by omega)
  refine ⟨_, rfl, ?_, hB.grown (grownBy_put _) hB.size (fun j hj => by cases hj; exact hbase), Kept.of_grown (grownBy_put _) (Kept.refl _ _) (fun k hk => by cases hk; exact .inl (hP g rfl))⟩
  refine Kd.R_of_own ?_ (fun k hk => .inl (hP k (by simpa [Value.ownBlock] using hk)))
  rw [List.take_left] at o
  exact o
theorem deleteFunc_rowI {P : Program} {ρ : Ren} (L : SlLaysH.n10 P ρ) (v23 : ∀ w, (zeroValue (ρ.t 23)).run P w = .ok (Value.int .i64 0) w) (g0 : Nat) (lb : Array Value) (eg : ∀ args w, (callFunc g0 args).run P w = .ok (.enter g0 args) w) (p : Int → Bool) (T : Nat) (P0 : Nat → Prop) (u : Value) (l : List Int) (w0 w : World) (hB : Below w0.heap.size w0 w) (ho : Kd.R (Kd.int .i64) T w w0.heap.size P0 u l)
  (hp : ∀ (W : World) (x : Int), Kept w W P0 → FnGives P g0 lb #[Value.int .i64 x] (.bool (p x)) W) (hnil : u = .slice none 0 0 → ∀ fv W, Calls P (ρ.f 10) #[.slice none 0 0, fv] W fun e w' => e = .returned (.slice none 0 0) ∧ ∃ q, w' = W.drewN q) (hl2 : l.length ≤ 9223372036854775807) :
  Calls P (ρ.f 10) #[u, .func (.func g0) #[] lb] w fun e w' => ∃ v0_ : Value, e = .returned v0_ ∧ Kd.R (Kd.int .i64) T w' w0.heap.size (fun k_ => (P0 k_ ∨ w.heap.size ≤ k_)) v0_ (l.filter fun x => !p x) ∧ Below w0.heap.size w0 w' ∧ Kept w w' (fun k_ => P0 k_) := by
 have hP := ho.1
 have hown := Kd.own_of_R ho
 rcases hown.2 with ⟨rfl, hn⟩ | ⟨g, cap, cur, rfl, hbase, hb, h1, h2, h3, h4⟩
 ·
  have hl0 : l = [] := List.eq_nil_of_length_eq_zero hn
  subst hl0
  refine (hnil rfl _ w).mono ?_
  rintro e w' ⟨rfl, q, rfl⟩
  rw [List.filter_nil]
  exact ⟨_, rfl, Kd.R_mono (by repeat (first | exact ho | apply Kd.R_drewN)) (fun _ hk => .inl hk), by repeat (first | exact hB | apply pw_below_drewN), Kept.drewN (Kept.refl _ _) _⟩
 ·
  have hh := holds_own (enc := Value.int .i64) hb (by simpa [encs] using h4)
  have c := AnyE.slices_DeleteFunc L (Value.int .i64) (fun _ => rfl) p g0 lb eg 0 v23 g 0 cap l.toArray w
   (fun W x hb => hp W x (Kept.of_below hb _)) (fun n os dk x _ => hp _ x (Kept.of_grown (grownBy_sortedE _) (Kept.refl _ _) (fun k hk => by cases hk; exact .inl (hP g rfl)))) hh (by simpa using hl2) (by simpa using h1)
  simp only [List.size_toArray] at c
  refine c.mono ?_
  rintro e w' ⟨rfl, q, rfl⟩
  have hle := List.length_filter_le (fun x => !p x) l
  have hlen : ((l.filter fun x => !p x) ++ List.replicate (l.length - (l.filter fun x => !p x).length) (0 : Int)).length = l.length := by simp; omega
  have o := owns_put (enc := Value.int .i64) (q := q) (cap := cap) (base := w0.heap.size) (new := (l.filter fun x => !p x) ++ List.replicate (l.length - (l.filter fun x => !p x).length) (0 : Int)) (m := (l.filter fun x => !p x).length) hbase hb (by omega) h2 h3 (by omega)
  refine ⟨_, rfl, ?_, hB.grown (grownBy_put _) hB.size (fun j hj => by cases hj; exact hbase), Kept.of_grown (grownBy_put _) (Kept.refl _ _) (fun k hk => by cases hk; exact .inl (hP g rfl))⟩
  refine Kd.R_of_own ?_ (fun k hk => .inl (hP k (by simpa [Value.ownBlock] using hk)))
  rw [List.take_left] at o
  exact o
end Go.Proofs.Ytllaofiopnhdgaa.SortsI
