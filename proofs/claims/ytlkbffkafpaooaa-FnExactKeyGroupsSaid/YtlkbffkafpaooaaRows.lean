/-
  No cell of these rows narrows 'for every input' (looked for: loops, veiled, ifaces, maps, wideKeys, modest, calm, conditions, laid).
  DERIVED. THE GIVEN ROWS OF THIS SEAT. 7 by the template 'for every input the law returns true; each argument reads behind the call as it read before'; 0 by the template 'total and deterministic' (their statements: YtlkbffkafpaooaaTotals.lean).
  GIVEN WITH THE SEED: the statements are not yours to turn. If you find one false, say at which input.
  Laid BY PROGRAM, IN A SANDBOX (cutbox-rows.mjs): the forced cells as the released guide's own fill.sh prints them over the translation df80619f25a447a8… (all of the seat's roots in one cut). By AI agents, Wed Nov 11 2026. No macro, syntax, notation, axiom, sorry.
-/
import Derived.Test.YtlkbffkafpaooaaChecked
import GoSem.Claim
import GoSem.ClaimJoined
import GoSem.ClaimMapViews
import Derived.JoinedTies
import Derived.KernelRfl
namespace Go.Proofs.Ytlkbffkafpaooaa
/- THE CELL 'sum', in the pinned program and in every row, IS THE sha256 OF THE DUMP (.gsa) THAT YtlkbffkafpaooaaProg.lean LOADS. Nothing in Lean hashes anything: it is a label: what it is worth is what the hold of that sum in a sandbox is worth. -/
noncomputable def Try.pinned : Pinned := { name := "ytlkbffkafpaooaa", sum := "df80619f25a447a8342dcf9cba2b067eb496cec7eb85fe7fac268b2b0fa00901", checked := Try.checked }
namespace Rows
def none {H : Type} : Left H := { results := [], args := [] }

/-- 'laws.FnExactIsCrowd': WHATEVER THE INPUT: true; the input reads as it did. -/
def fnExactIsCrowdSpec : ChangeSpec := { name := "fnExactIsCrowd", fn := fun _ => fun
  | [d1, d2, d3, d4] => { results := [.lit (.bool true)], args := [d1, d2, d3, d4] }
  | _ => none }
def fnExactIsCrowdRow : OpenClaim := { program := "ytlkbffkafpaooaa", sum := "df80619f25a447a8342dcf9cba2b067eb496cec7eb85fe7fac268b2b0fa00901", func := "loop.example/g01097/laws.FnExactIsCrowd", spec := "fnExactIsCrowd", apart := false }
def FnExactIsCrowdSaid : Prop := fnExactIsCrowdRow.holds Try.pinned (OpenSpec.ofChange fnExactIsCrowdSpec)

/-- ITS FALSE NEIGHBOUR: 'it returns false'. Refute it at one input. -/
def fnExactIsCrowdWrong : ChangeSpec := { name := "fnExactIsCrowd", fn := fun _ => fun
  | [d1, d2, d3, d4] => { results := [.lit (.bool false)], args := [d1, d2, d3, d4] }
  | _ => none }
def FnExactIsCrowdWrongFalsely : Prop := fnExactIsCrowdRow.holds Try.pinned (OpenSpec.ofChange fnExactIsCrowdWrong)

/-- 'laws.FnExactMostPlaced': WHATEVER THE INPUT: true; the input reads as it did. -/
def fnExactMostPlacedSpec : ChangeSpec := { name := "fnExactMostPlaced", fn := fun _ => fun
  | [d1, d2, d3] => { results := [.lit (.bool true)], args := [d1, d2, d3] }
  | _ => none }
def fnExactMostPlacedRow : OpenClaim := { program := "ytlkbffkafpaooaa", sum := "df80619f25a447a8342dcf9cba2b067eb496cec7eb85fe7fac268b2b0fa00901", func := "loop.example/g01097/laws.FnExactMostPlaced", spec := "fnExactMostPlaced", unfollowed := true, recurses := true, apart := false }
def FnExactMostPlacedSaid : Prop := fnExactMostPlacedRow.holds Try.pinned (OpenSpec.ofChange fnExactMostPlacedSpec)

/-- ITS FALSE NEIGHBOUR: 'it returns false'. Refute it at one input. -/
def fnExactMostPlacedWrong : ChangeSpec := { name := "fnExactMostPlaced", fn := fun _ => fun
  | [d1, d2, d3] => { results := [.lit (.bool false)], args := [d1, d2, d3] }
  | _ => none }
def FnExactMostPlacedWrongFalsely : Prop := fnExactMostPlacedRow.holds Try.pinned (OpenSpec.ofChange fnExactMostPlacedWrong)

/-- 'laws.FnExactLeastCells': WHATEVER THE INPUT: true; the input reads as it did. -/
def fnExactLeastCellsSpec : ChangeSpec := { name := "fnExactLeastCells", fn := fun _ => fun
  | [d1, d2, d3] => { results := [.lit (.bool true)], args := [d1, d2, d3] }
  | _ => none }
def fnExactLeastCellsRow : OpenClaim := { program := "ytlkbffkafpaooaa", sum := "df80619f25a447a8342dcf9cba2b067eb496cec7eb85fe7fac268b2b0fa00901", func := "loop.example/g01097/laws.FnExactLeastCells", spec := "fnExactLeastCells", unfollowed := true, recurses := true, apart := false }
def FnExactLeastCellsSaid : Prop := fnExactLeastCellsRow.holds Try.pinned (OpenSpec.ofChange fnExactLeastCellsSpec)

/-- ITS FALSE NEIGHBOUR: 'it returns false'. Refute it at one input. -/
def fnExactLeastCellsWrong : ChangeSpec := { name := "fnExactLeastCells", fn := fun _ => fun
  | [d1, d2, d3] => { results := [.lit (.bool false)], args := [d1, d2, d3] }
  | _ => none }
def FnExactLeastCellsWrongFalsely : Prop := fnExactLeastCellsRow.holds Try.pinned (OpenSpec.ofChange fnExactLeastCellsWrong)

/-- 'laws.FnExactFirstCuckooSeed': WHATEVER THE INPUT: true; the input reads as it did. -/
def fnExactFirstCuckooSeedSpec : ChangeSpec := { name := "fnExactFirstCuckooSeed", fn := fun _ => fun
  | [d1, d2, d3, d4] => { results := [.lit (.bool true)], args := [d1, d2, d3, d4] }
  | _ => none }
def fnExactFirstCuckooSeedRow : OpenClaim := { program := "ytlkbffkafpaooaa", sum := "df80619f25a447a8342dcf9cba2b067eb496cec7eb85fe7fac268b2b0fa00901", func := "loop.example/g01097/laws.FnExactFirstCuckooSeed", spec := "fnExactFirstCuckooSeed", unfollowed := true, recurses := true, apart := false }
def FnExactFirstCuckooSeedSaid : Prop := fnExactFirstCuckooSeedRow.holds Try.pinned (OpenSpec.ofChange fnExactFirstCuckooSeedSpec)

/-- ITS FALSE NEIGHBOUR: 'it returns false'. Refute it at one input. -/
def fnExactFirstCuckooSeedWrong : ChangeSpec := { name := "fnExactFirstCuckooSeed", fn := fun _ => fun
  | [d1, d2, d3, d4] => { results := [.lit (.bool false)], args := [d1, d2, d3, d4] }
  | _ => none }
def FnExactFirstCuckooSeedWrongFalsely : Prop := fnExactFirstCuckooSeedRow.holds Try.pinned (OpenSpec.ofChange fnExactFirstCuckooSeedWrong)

/-- 'laws.FnExactCrowdOf': WHATEVER THE INPUT: true; the input reads as it did. -/
def fnExactCrowdOfSpec : ChangeSpec := { name := "fnExactCrowdOf", fn := fun _ => fun
  | [d1, d2, d3] => { results := [.lit (.bool true)], args := [d1, d2, d3] }
  | _ => none }
def fnExactCrowdOfRow : OpenClaim := { program := "ytlkbffkafpaooaa", sum := "df80619f25a447a8342dcf9cba2b067eb496cec7eb85fe7fac268b2b0fa00901", func := "loop.example/g01097/laws.FnExactCrowdOf", spec := "fnExactCrowdOf", unfollowed := true, recurses := true, apart := false }
def FnExactCrowdOfSaid : Prop := fnExactCrowdOfRow.holds Try.pinned (OpenSpec.ofChange fnExactCrowdOfSpec)

/-- ITS FALSE NEIGHBOUR: 'it returns false'. Refute it at one input. -/
def fnExactCrowdOfWrong : ChangeSpec := { name := "fnExactCrowdOf", fn := fun _ => fun
  | [d1, d2, d3] => { results := [.lit (.bool false)], args := [d1, d2, d3] }
  | _ => none }
def FnExactCrowdOfWrongFalsely : Prop := fnExactCrowdOfRow.holds Try.pinned (OpenSpec.ofChange fnExactCrowdOfWrong)

/-- 'laws.FnExactKeyGroups': WHATEVER THE INPUT: true; the input reads as it did. -/
def fnExactKeyGroupsSpec : ChangeSpec := { name := "fnExactKeyGroups", fn := fun _ => fun
  | [d1, d2, d3] => { results := [.lit (.bool true)], args := [d1, d2, d3] }
  | _ => none }
def fnExactKeyGroupsRow : OpenClaim := { program := "ytlkbffkafpaooaa", sum := "df80619f25a447a8342dcf9cba2b067eb496cec7eb85fe7fac268b2b0fa00901", func := "loop.example/g01097/laws.FnExactKeyGroups", spec := "fnExactKeyGroups", unfollowed := true, recurses := true, apart := false }
def FnExactKeyGroupsSaid : Prop := fnExactKeyGroupsRow.holds Try.pinned (OpenSpec.ofChange fnExactKeyGroupsSpec)

/-- ITS FALSE NEIGHBOUR: 'it returns false'. Refute it at one input. -/
def fnExactKeyGroupsWrong : ChangeSpec := { name := "fnExactKeyGroups", fn := fun _ => fun
  | [d1, d2, d3] => { results := [.lit (.bool false)], args := [d1, d2, d3] }
  | _ => none }
def FnExactKeyGroupsWrongFalsely : Prop := fnExactKeyGroupsRow.holds Try.pinned (OpenSpec.ofChange fnExactKeyGroupsWrong)

/-- 'laws.FnExactPlaceKeys': WHATEVER THE INPUT: true; the input reads as it did. -/
def fnExactPlaceKeysSpec : ChangeSpec := { name := "fnExactPlaceKeys", fn := fun _ => fun
  | [d1, d2, d3] => { results := [.lit (.bool true)], args := [d1, d2, d3] }
  | _ => none }
def fnExactPlaceKeysRow : OpenClaim := { program := "ytlkbffkafpaooaa", sum := "df80619f25a447a8342dcf9cba2b067eb496cec7eb85fe7fac268b2b0fa00901", func := "loop.example/g01097/laws.FnExactPlaceKeys", spec := "fnExactPlaceKeys", unfollowed := true, recurses := true, apart := false }
def FnExactPlaceKeysSaid : Prop := fnExactPlaceKeysRow.holds Try.pinned (OpenSpec.ofChange fnExactPlaceKeysSpec)

/-- ITS FALSE NEIGHBOUR: 'it returns false'. Refute it at one input. -/
def fnExactPlaceKeysWrong : ChangeSpec := { name := "fnExactPlaceKeys", fn := fun _ => fun
  | [d1, d2, d3] => { results := [.lit (.bool false)], args := [d1, d2, d3] }
  | _ => none }
def FnExactPlaceKeysWrongFalsely : Prop := fnExactPlaceKeysRow.holds Try.pinned (OpenSpec.ofChange fnExactPlaceKeysWrong)

/- THE SECOND FORM. 'bulk': how many values and letters a reading holds, each counted each time it is reached (what is shared counts as often as it is met; a slice's spare places count too). A statement '..UptoSaid' is the law's where the arguments, and the package variables that the reading takes, are together of bulk at most 1048576: NARROWER than '..Said'. Prove '..Said' where nothing that the law and all that it calls make is longer than what came in: it says more and counts as full. Else prove '..UptoSaid'. A law counts once. -/
mutual
def uptoBulk {H : Type} : DataW H → Nat
  | .lit (.string bytes) => bytes.length + 1
  | .lit _ => 1
  | .nil => 1
  | .ptr d => uptoBulk d + 1
  | .slice elems spare => uptoBulkAll elems + uptoBulkAll spare + 1
  | .agg parts => uptoBulkAll parts + 1
  | .iface _ d => uptoBulk d + 1
  | .map entries => uptoBulkEntries entries + 1
  | .held _ => 1
def uptoBulkAll {H : Type} : List (DataW H) → Nat
  | [] => 0
  | d :: r => uptoBulk d + uptoBulkAll r
def uptoBulkEntries {H : Type} : List (Lit × DataW H) → Nat
  | [] => 0
  | x :: r => uptoBulkEntry x + uptoBulkEntries r
def uptoBulkEntry {H : Type} : Lit × DataW H → Nat
  | (.string bytes, d) => bytes.length + uptoBulk d + 1
  | (_, d) => uptoBulk d + 1
 end
def uptoSmall : (H : Type) → List (DataW H) → Bool := fun _ ds => decide (uptoBulkAll ds ≤ 1048576)
def OpenSpec.upto (s : _root_.Go.ChangeSpec) : _root_.Go.OpenSpec := { _root_.Go.OpenSpec.ofChange s with cond := some uptoSmall }

/-- 'laws.FnExactIsCrowd', WHERE WHAT IT READS IS OF BULK AT MOST 1048576: true; the input reads as it did. -/
def fnExactIsCrowdUptoRow : OpenClaim := { program := "ytlkbffkafpaooaa", sum := "df80619f25a447a8342dcf9cba2b067eb496cec7eb85fe7fac268b2b0fa00901", func := "loop.example/g01097/laws.FnExactIsCrowd", spec := "fnExactIsCrowd", apart := false, narrowed := true }
def FnExactIsCrowdUptoSaid : Prop := fnExactIsCrowdUptoRow.holds Try.pinned (OpenSpec.upto fnExactIsCrowdSpec)

/-- 'laws.FnExactMostPlaced', WHERE WHAT IT READS IS OF BULK AT MOST 1048576: true; the input reads as it did. -/
def fnExactMostPlacedUptoRow : OpenClaim := { program := "ytlkbffkafpaooaa", sum := "df80619f25a447a8342dcf9cba2b067eb496cec7eb85fe7fac268b2b0fa00901", func := "loop.example/g01097/laws.FnExactMostPlaced", spec := "fnExactMostPlaced", unfollowed := true, recurses := true, apart := false, narrowed := true }
def FnExactMostPlacedUptoSaid : Prop := fnExactMostPlacedUptoRow.holds Try.pinned (OpenSpec.upto fnExactMostPlacedSpec)

/-- 'laws.FnExactLeastCells', WHERE WHAT IT READS IS OF BULK AT MOST 1048576: true; the input reads as it did. -/
def fnExactLeastCellsUptoRow : OpenClaim := { program := "ytlkbffkafpaooaa", sum := "df80619f25a447a8342dcf9cba2b067eb496cec7eb85fe7fac268b2b0fa00901", func := "loop.example/g01097/laws.FnExactLeastCells", spec := "fnExactLeastCells", unfollowed := true, recurses := true, apart := false, narrowed := true }
def FnExactLeastCellsUptoSaid : Prop := fnExactLeastCellsUptoRow.holds Try.pinned (OpenSpec.upto fnExactLeastCellsSpec)

/-- 'laws.FnExactFirstCuckooSeed', WHERE WHAT IT READS IS OF BULK AT MOST 1048576: true; the input reads as it did. -/
def fnExactFirstCuckooSeedUptoRow : OpenClaim := { program := "ytlkbffkafpaooaa", sum := "df80619f25a447a8342dcf9cba2b067eb496cec7eb85fe7fac268b2b0fa00901", func := "loop.example/g01097/laws.FnExactFirstCuckooSeed", spec := "fnExactFirstCuckooSeed", unfollowed := true, recurses := true, apart := false, narrowed := true }
def FnExactFirstCuckooSeedUptoSaid : Prop := fnExactFirstCuckooSeedUptoRow.holds Try.pinned (OpenSpec.upto fnExactFirstCuckooSeedSpec)

/-- 'laws.FnExactCrowdOf', WHERE WHAT IT READS IS OF BULK AT MOST 1048576: true; the input reads as it did. -/
def fnExactCrowdOfUptoRow : OpenClaim := { program := "ytlkbffkafpaooaa", sum := "df80619f25a447a8342dcf9cba2b067eb496cec7eb85fe7fac268b2b0fa00901", func := "loop.example/g01097/laws.FnExactCrowdOf", spec := "fnExactCrowdOf", unfollowed := true, recurses := true, apart := false, narrowed := true }
def FnExactCrowdOfUptoSaid : Prop := fnExactCrowdOfUptoRow.holds Try.pinned (OpenSpec.upto fnExactCrowdOfSpec)

/-- 'laws.FnExactKeyGroups', WHERE WHAT IT READS IS OF BULK AT MOST 1048576: true; the input reads as it did. -/
def fnExactKeyGroupsUptoRow : OpenClaim := { program := "ytlkbffkafpaooaa", sum := "df80619f25a447a8342dcf9cba2b067eb496cec7eb85fe7fac268b2b0fa00901", func := "loop.example/g01097/laws.FnExactKeyGroups", spec := "fnExactKeyGroups", unfollowed := true, recurses := true, apart := false, narrowed := true }
def FnExactKeyGroupsUptoSaid : Prop := fnExactKeyGroupsUptoRow.holds Try.pinned (OpenSpec.upto fnExactKeyGroupsSpec)

/-- 'laws.FnExactPlaceKeys', WHERE WHAT IT READS IS OF BULK AT MOST 1048576: true; the input reads as it did. -/
def fnExactPlaceKeysUptoRow : OpenClaim := { program := "ytlkbffkafpaooaa", sum := "df80619f25a447a8342dcf9cba2b067eb496cec7eb85fe7fac268b2b0fa00901", func := "loop.example/g01097/laws.FnExactPlaceKeys", spec := "fnExactPlaceKeys", unfollowed := true, recurses := true, apart := false, narrowed := true }
def FnExactPlaceKeysUptoSaid : Prop := fnExactPlaceKeysUptoRow.holds Try.pinned (OpenSpec.upto fnExactPlaceKeysSpec)

end Rows
end Go.Proofs.Ytlkbffkafpaooaa
