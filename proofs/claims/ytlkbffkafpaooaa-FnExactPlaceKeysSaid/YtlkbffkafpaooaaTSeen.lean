-- made by wip/tools/trimwords.py over the kit's print, for this claim
import Derived.Maps.OwnSet
import Derived.WideKeyEntry
import Derived.WalkKit
import Derived.Test.YtlkbffkafpaooaaTFnv
namespace Go.Proofs.Ytlkbffkafpaooaa.Seen
open Go Go.RowKit Go.Maps
def seenD (q : IntKind) (S : List Int) : DataW Unit := setOf (.lit (.bool true)) (S.map (Lit.int q))
theorem seenD_snoc (q : IntKind) (S : List Int) (x : Int) : seenD q (S ++ [x]) = (seenD q S).put (.int q x) (.lit (.bool true)) := by
  unfold seenD
  rw [List.map_append, List.map_cons, List.map_nil, setOf_snoc]
theorem seen_keys (q : IntKind) (S : List Int) : ∀ x ∈ S.map (Lit.int q), WideAt.IsKeyLit x := by
  intro x hx
  obtain ⟨_, _, rfl⟩ := List.mem_map.1 hx
  trivial
def addI (acc : List Int) (x : Int) : List Int := if x ∈ acc then acc else acc ++ [x]
theorem addKey_map (q : IntKind) (acc : List Int) (x : Int) : addKey (acc.map (Lit.int q)) (.int q x) = (addI acc x).map (Lit.int q) := by
  have e : (acc.map (Lit.int q)).any (fun y => y.sameKey (.int q x)) = decide (x ∈ acc) := by
    induction acc with
    | nil => rfl
    | cons a r ih =>
      rw [List.map_cons, List.any_cons, ih]
      by_cases c : a = x
      · subst c
        simp [WideAt.sameKey_self (show WideAt.IsKeyLit (Lit.int q a) from trivial)]
      · rw [sameKey_ne (fun h => c (by cases h; rfl))]
        have c' : ¬ x = a := fun h => c h.symm
        simp [c']
  unfold addKey addI
  rw [e]
  by_cases c : x ∈ acc
  · simp [c]
  · simp [c]
theorem size_seen (q : IntKind) (S : List Int) : Maps.size (seenD q S) = (S.foldl addI []).length := by
  unfold seenD
  rw [size_setOf _ _ (seen_keys q S)]
  have : ∀ (l acc : List Int), (l.map (Lit.int q)).foldl addKey (acc.map (Lit.int q)) = (l.foldl addI acc).map (Lit.int q) := by
    intro l
    induction l with
    | nil => intro acc; rfl
    | cons a r ih => intro acc; rw [List.map_cons, List.foldl_cons, List.foldl_cons, addKey_map, ih]
  have h := this S []
  rw [List.map_nil] at h
  rw [h, List.length_map]
@[go_sem] theorem binOp_string_geq_ (t : TypeId) (a b : ByteArray) : binOp .geq t (.string a) (.string b) = pure (.bool !(Op.bytesLess a.toList b.toList)) := by simp [binOp, Op.stringOp]
end Go.Proofs.Ytlkbffkafpaooaa.Seen
