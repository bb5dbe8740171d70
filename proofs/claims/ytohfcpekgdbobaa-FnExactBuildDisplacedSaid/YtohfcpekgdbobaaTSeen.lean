-- made by wip/tools/trimwords.py over the kit's print, for this claim
import Derived.Maps.OwnSet
import Derived.WideKeyEntry
import Derived.WalkKit
import Derived.Test.YtohfcpekgdbobaaTFnv
namespace Go.Proofs.Ytohfcpekgdbobaa.Seen
open Go Go.RowKit Go.Maps
def seenD (q : IntKind) (S : List Int) : DataW Unit := setOf (.lit (.bool true)) (S.map (Lit.int q))
theorem seenD_snoc (q : IntKind) (S : List Int) (x : Int) : seenD q (S ++ [x]) = (seenD q S).put (.int q x) (.lit (.bool true)) := by
 unfold seenD
 rw [List.map_append, List.map_cons, List.map_nil, setOf_snoc]
theorem seen_keys (q : IntKind) (S : List Int) : ∀ x ∈ S.map (Lit.int q), WideAt.IsKeyLit x := by
 intro x hx
 obtain ⟨_, _, rfl⟩ := List.mem_map.1 hx
 trivial
theorem seen_isMap (q : IntKind) (S : List Int) : IsMap (seenD q S) := (tidy_setOf _ _ (seen_keys q S)).isMap
theorem atKey_seen (q : IntKind) (x : Int) (z : DataW Unit) : ∀ (n : Nat) (S : List Int), S.length = n → (seenD q S).atKey (.int q x) z = if x ∈ S then .lit (.bool true) else z := by
 intro n
 induction n with
 | zero =>
  intro S hS
  obtain rfl := List.length_eq_zero_iff.1 hS
  rfl
 | succ n ih =>
  intro S hS
  have hne : S ≠ [] := by intro h; subst h; cases hS
  obtain ⟨T, y, rfl⟩ : ∃ T y, S = T ++ [y] := ⟨S.dropLast, S.getLast hne, (List.dropLast_concat_getLast hne).symm⟩
  have hT : T.length = n := by simpa using hS
  rw [seenD_snoc]
  by_cases e : x = y
  ·
   subst e
   rw [atKey_put_same (k := Lit.int q x) (seen_isMap q T) trivial, if_pos (by simp)]
  ·
   rw [atKey_put_other (fun h => e (by cases h; rfl)), ih T hT]
   by_cases c : x ∈ T
   ·
    rw [if_pos c, if_pos (by simp [c])]
   ·
    rw [if_neg c, if_neg (by simp [c, e])]
theorem plainElem_bool_inv {P : Program} {e : TypeId} (he : P.underlying e = some .bool) {v : Value} {z : DataW Unit × List MemPlace} (h : plainElem P e v = some z) : ∃ c, v = .bool c ∧ z = (.lit (.bool c), []) := by
 unfold plainElem at h
 rw [he] at h
 cases v <;> simp at h
 subst h
 exact ⟨_, rfl, rfl⟩
theorem lookup_seen {P : Program} {k t e : TypeId} {w : World} {b n : Nat} {q : IntKind} {S : List Int} {key : Value} {x : Int} (h : w.ownsMap P k (plainElem P e) b n (seenD q S)) (K : Keyed P k) (ht : P.underlying t = some (.map k e)) (he : P.underlying e = some .bool) (hz : (zeroValue e).run P w = .ok (.bool false) w) (hkey : keyOf P k key = some (.int q x)) :
  (Instr.lookup t (.map (some b)) key false).run P w = .ok (.bool (decide (x ∈ S))) w := by
 obtain ⟨v, ps, hrun, hv⟩ := h.lookup K ht hz (plainElem_bool he false) hkey
 obtain ⟨c, rfl, hc⟩ := plainElem_bool_inv he hv
 rw [hrun]
 simp only [Prod.mk.injEq] at hc
 rw [atKey_seen q x _ _ S rfl] at hc
 by_cases c' : x ∈ S
 ·
  rw [if_pos c'] at hc
  have := hc.1
  cases this
  simp [c']
 ·
  rw [if_neg c'] at hc
  have := hc.1
  cases this
  simp [c']
@[go_sem] theorem binOp_string_geq_ (t : TypeId) (a b : ByteArray) : binOp .geq t (.string a) (.string b) = pure (.bool !(Op.bytesLess a.toList b.toList)) := by simp [binOp, Op.stringOp]
end Go.Proofs.Ytohfcpekgdbobaa.Seen
