-- made by wip/tools/trimwords.py over the kit's print, for this claim
import Derived.Test.YtohfcpekgdbobaaTWWords
import Derived.ChangeArms
import Derived.ChangeSlices
import Derived.OpenShut
import Derived.WalkKit
namespace Go.Proofs.Ytohfcpekgdbobaa.Opens
open Go.RowKit Go.Proofs.YtohfcpekgdbobaaW.PrintWords Go.ChangeShapes Go.WideShapes
set_option linter.unusedVariables false
structure Opens {α : Type} (P : Program) (t : TypeId) (d : Kd α) (good : α → Prop) : Prop where
 sz : P.cellsOf t = d.sz
 rd : ∀ {H : Type} (enc : TypeId × Value → H) (w : World) (base : Nat) (sp : Nat → Bool) (hd : Bool) (fuel : Nat) (cs : List Value) (r : DataW H × List MemPlace), DataW.trod enc P w base sp hd fuel t cs = some r → ∃ x, d.K w x cs ∧ good x
theorem opens_string {P : Program} {t : TypeId} (h : P.underlying t = some .string) (hz : P.cellsOf t = 1) : Opens P t Kd.string (fun s => s.size ≤ maxLen) :=
 ⟨hz, fun enc w base sp hd fuel cs r hr => by
  obtain ⟨n, rfl, _, hw⟩ := DataW.trod_string h hr
  exact ⟨n, rfl, hw⟩⟩
theorem add_add_ (a : Addr) (i j : Nat) : (a.add i).add j = a.add (i + j) := by
 by_cases hi : i = 0 <;> by_cases hj : j = 0 <;> simp [Addr.add, hi, hj, Nat.add_assoc]
theorem list_of_each {α : Type} {n : Nat} {R : Nat → α → Prop} (h : ∀ i, i < n → ∃ x, R i x) : ∃ l : List α, l.length = n ∧ ∀ (i : Nat) (x : α), l[i]? = some x → R i x := by
 induction n with
 | zero => exact ⟨[], rfl, fun i x hx => by simp at hx⟩
 | succ n ih =>
  obtain ⟨l, hl, hR⟩ := ih (fun i hi => h i (by omega))
  obtain ⟨x, hx⟩ := h n (by omega)
  refine ⟨l ++ [x], by simp [hl], fun i y hy => ?_⟩
  by_cases hi : i < l.length
  ·
   rw [List.getElem?_append_left hi] at hy
   exact hR i y hy
  ·
   rw [List.getElem?_append_right (by omega)] at hy
   have : i - l.length = 0 := by
    have := (List.getElem?_eq_some_iff.1 hy).1
    simp at this
    omega
   rw [this] at hy
   simp at hy
   subst hy
   have : i = n := by omega
   subst this
   exact hx
theorem opens_slice {α : Type} {P : Program} {t e : TypeId} {d : Kd α} {good : α → Prop} (h : P.underlying t = some (.slice e)) (hz : P.cellsOf t = 1) (O : Opens P e d good) : Opens P t (Kd.slice e d) (fun l => l.length ≤ maxLen ∧ ∀ x ∈ l, good x) := by
 refine ⟨hz, fun enc w base sp hd fuel cs r hr => ?_⟩
 rcases DataW.trod_slice h hr with ⟨rfl, _⟩ | ⟨a, len, cap, elems, rest, n, _, rfl, _, _, hl, hm, hlen, hel, _, _⟩
 ·
  exact ⟨[], ⟨none, 0, rfl, Nat.le_refl _, Kd.C_nil d w⟩, by simp, by simp⟩
 ·
  have each : ∀ i, i < len → ∃ x, ∃ c, w.cells? base (a.add (i * P.cellsOf e)) (P.cellsOf e) = some c ∧ d.K w x c ∧ good x := by
   intro i hi
   have hy := hel i hi
   rw [List.getElem?_eq_getElem (by omega), Option.bind_eq_some_iff] at hy
   obtain ⟨c, hc, ht⟩ := hy
   obtain ⟨x, hK, hg⟩ := O.rd _ _ _ _ _ _ _ _ ht
   exact ⟨x, c, hc, hK, hg⟩
  obtain ⟨l, hll, hlx⟩ := list_of_each each
  refine ⟨l, ⟨some a, cap, by rw [hll], by omega, rfl, ?_, fun _ => ⟨a, rfl, fun j p hj => ?_⟩⟩, by omega, fun x hx => ?_⟩
  ·
   unfold maxLen at hm
   omega
  ·
   obtain ⟨c, hc, hK, _⟩ := hlx j p hj
   refine ⟨c, d.K_len hK, hK, fun i u hu => ?_⟩
   have hcell := (World.cells?_some hc).2.2 i (by
    have h1 := (List.getElem?_eq_some_iff.1 hu).1
    rw [d.K_len hK] at h1
    rw [O.sz]
    exact h1)
   rw [add_add_, O.sz] at hcell
   rw [hcell]
   exact hu
  ·
   obtain ⟨i, hi⟩ := List.getElem?_of_mem hx
   obtain ⟨c, _, _, hg⟩ := hlx i x hi
   exact hg
structure OpensL {α : Type} (P : Program) (fs : List Field) (off : Nat) (d : Kd α) (good : α → Prop) : Prop where
 rd : ∀ {H : Type} (enc : TypeId × Value → H) (w : World) (base : Nat) (sp : Nat → Bool) (hd : Bool) (n : Nat) (cs : List Value), cs.length = off + d.sz →
  (∀ f ∈ fs, ∃ r, DataW.trod enc P w base sp hd n f.type ((cs.drop f.offset).take (P.cellsOf f.type)) = some r) → ∃ x, d.K w x (cs.drop off) ∧ good x
end Go.Proofs.Ytohfcpekgdbobaa.Opens
