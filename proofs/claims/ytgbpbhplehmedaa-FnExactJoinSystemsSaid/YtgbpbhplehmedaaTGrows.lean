-- made by wip/tools/trimwords.py over the kit's print, for this claim
import Derived.Shelf.Spec.SlicesGrow
import Derived.Shelf.Lay
import Derived.Shelf.SlGeneric
import Derived.Ground.Names8Prog
import Derived.Test.YtgbpbhplehmedaaTWWords
import Derived.Test.YtgbpbhplehmedaaTWMore
import Derived.Test.YtgbpbhplehmedaaTWN
namespace Go.Proofs.Ytgbpbhplehmedaa.Grows
open Go Go.RowKit Go.Shelf Go.Proofs Go.Proofs.YtgbpbhplehmedaaW.PrintWords
set_option linter.unusedVariables false
set_option linter.unusedSimpArgs false
theorem zeroCells_size (cs : Array Value) (k : Nat) : (Builtin.zeroCells cs k).size = k * cs.size := by simp [Builtin.zeroCells]
theorem add_w {a b c : Nat} (h : c = a + b) (hc : c < 1000000) : wrap64 ((a : Int) + (b : Int)) = (c : Int) := by
 subst h
 unfold wrap64
 omega
theorem at_rows {α : Type} {d : Kd α} {e : Nat} {w : World} {A : Option Addr} {n : Nat} {xs : List (List α)} (h : (Kd.slice e d).C w A n xs) (i : Nat) (hi : i < xs.length) :
  ∃ ad A' c', A = some ad ∧ w.cell? (ad.add i) = some (.slice A' xs[i].length c') ∧ xs[i].length ≤ c' ∧ d.C w A' xs[i].length xs[i] := by
 obtain ⟨ad, e1, hc⟩ := h.2.2 (by have := h.1; omega)
 obtain ⟨c, _, ⟨A', c', rfl, hl, hC⟩, hcell⟩ := hc i xs[i] (List.getElem?_eq_getElem hi)
 refine ⟨ad, A', c', e1, ?_, hl, hC⟩
 have h0 := hcell 0 (.slice A' xs[i].length c') rfl
 rw [show i * (Kd.slice e d).sz + 0 = i from by show i * 1 + 0 = i; omega] at h0
 exact h0
theorem at_rowsF {α : Type} {d : Kd α} {e : Nat} {W : World} {ok : Nat → Prop} {A : Option Addr} {n : Nat} {xs : List (List α)} (h : Kd.F (Kd.slice e d) W ok A n xs) (i : Nat) (hi : i < xs.length) :
  ∃ ad A' c', A = some ad ∧ W.cell? (ad.add i) = some (.slice A' xs[i].length c') ∧ xs[i].length ≤ c' ∧ Kd.F d W ok A' xs[i].length xs[i] := by
 have hr := Kd.F_rows h
 obtain ⟨ad, e1, hc⟩ := hr.2.2 (by have := hr.1; omega)
 obtain ⟨c, _, hk, hcell⟩ := hc i xs[i] (List.getElem?_eq_getElem hi)
 obtain ⟨A', c', rfl, hl, hF⟩ := Kd.FK_slice_open hk
 refine ⟨ad, A', c', e1, ?_, hl, hF⟩
 have h0 := hcell 0 (.slice A' xs[i].length c') rfl
 rw [show i * (Kd.slice e d).sz + 0 = i from by show i * 1 + 0 = i; omega] at h0
 exact h0
theorem take_flat {α : Type} (l : List (List α)) (n : Nat) (h : n < l.length) : (l.take (n + 1)).flatten.length = (l.take n).flatten.length + l[n].length := by
 rw [List.take_succ_eq_append_getElem h, List.flatten_append, List.length_append, List.flatten_cons, List.flatten_nil, List.append_nil]
theorem take_flat_eq {α : Type} (l : List (List α)) (n : Nat) (h : n < l.length) : (l.take (n + 1)).flatten = (l.take n).flatten ++ l[n] := by
 rw [List.take_succ_eq_append_getElem h, List.flatten_append, List.flatten_cons, List.flatten_nil, List.append_nil]
theorem take_flat_le {α : Type} (l : List (List α)) (n : Nat) : (l.take n).flatten.length ≤ l.flatten.length := by
 conv => rhs; rw [← List.take_append_drop n l, List.flatten_append, List.length_append]
 omega
theorem flat_fits {α : Type} (l : List (List α)) (n : Nat) (h : n < l.length) (ht : l.flatten.length < 1000000) (b : Nat) (hb : b ≤ 1000 := by decide) : (((l.take n).flatten).length + l[n].length) * b ≤ 140737488355328 := by
 have e1 := take_flat l n h
 have e2 := take_flat_le l (n + 1)
 have e3 : ((l.take n).flatten).length + l[n].length ≤ 1000000 := by omega
 have := Nat.mul_le_mul e3 hb
 omega
theorem grow_none {α : Type} {P : Program} {ρ : Ren} (L : Lays8.n4 P ρ) (d : Kd α) (i0 : TypeInfo) (z : Value) (hi0 : P.info? (ρ.t 25) = some i0) (hz0 : i0.zero = some z) (hs : i0.size = d.sz) (hb : i0.bytes ≤ 1000) (hzs : z.cells.size = d.sz) (n : Nat) (hn : n ≤ 1000000) (w0 w : World) (hB : Below w0.heap.size w0 w) (hs0 : 0 < d.sz := by decide) :
  Calls P (ρ.f 4) #[.slice none 0 0, .int .i64 (n : Int)] w fun e w' => ∃ v0_ : Value, e = .returned v0_ ∧ d.R (ρ.t 25) w' w0.heap.size (fun _ => True) v0_ [] ∧ Below w0.heap.size w0 w' := by
 by_cases c : n = 0
 ·
  subst c
  refine (Any8.slices_Grow_room L none 0 0 0 w (by omega) (by omega) (by omega) (by omega)).mono ?_
  rintro e w' ⟨rfl, rfl⟩
  exact ⟨_, rfl, Kd.R_nil _ _ _ _ _, hB⟩
 ·
  refine (Any8.slices_Grow_grow L i0 z hi0 hz0 (by omega) none 0 0 n [] w (by omega) (by omega) ?_ (by omega) (by simp) (fun _ => rfl) (fun a h => by cases h)).mono ?_
  ·
   have : (0 + n) * i0.bytes ≤ 1000000 * 1000 := Nat.mul_le_mul (by omega) hb
   omega
  ·
   rintro e w' ⟨rfl, rfl⟩
   have hG := grownCap_ge w (0 + n) 0 (ρ.t 25)
   have hG2 := grownCap_le_maxLen w (0 + n) 0 (ρ.t 25) (by unfold maxLen; omega)
   generalize grownCap w (0 + n) 0 (ρ.t 25) = G at *
   refine ⟨_, rfl, ⟨fun _ _ => trivial, [], ⟨by simp, .inr ⟨w.heap.size, G, #[] ++ Builtin.zeroCells z.cells (0 + n - 0) ++ Builtin.zeroCells z.cells (G - (0 + n)), rfl, hB.size, ?_, Nat.zero_le _, hG2, ?_, by simp⟩⟩, ?_⟩, below_alloc (below_drew1 hB) _⟩
   ·
    show (w.drew.heap.push _)[w.heap.size]? = _
    have e : w.drew.heap = w.heap := rfl
    rw [e, Array.getElem?_push_size]
   ·
    rw [Array.size_append, Array.size_append, zeroCells_size, zeroCells_size, hzs, show (#[] : Array Value).size = 0 from rfl, Nat.zero_add, ← Nat.add_mul]
    congr 1
    omega
   ·
    exact ⟨by simp, fun j p hj => by simp at hj⟩
end Go.Proofs.Ytgbpbhplehmedaa.Grows
