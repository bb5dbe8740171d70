/-
  No cell of these rows narrows 'for every input' (looked for: loops, veiled, ifaces, maps, wideKeys, modest, calm, conditions, laid).
  DERIVED. THE GIVEN ROWS OF THIS SEAT. 6 by the template 'for every input the law returns true; each argument reads behind the call as it read before'; 0 by the template 'total and deterministic' (their statements: YtgnpledbeohjgaaTotals.lean).
  GIVEN WITH THE SEED: the statements are not yours to turn. If you find one false, say at which input.
  Laid BY PROGRAM, IN A SANDBOX (cutbox-rows.mjs): the forced cells as the released guide's own fill.sh prints them over the translation 4a9b5173d87e2f7d… (all of the seat's roots in one cut). By AI agents, Wed Nov 11 2026. No macro, syntax, notation, axiom, sorry.
-/
import Derived.Test.YtgnpledbeohjgaaChecked
import GoSem.Claim
import GoSem.ClaimJoined
import GoSem.ClaimMapViews
import Derived.JoinedTies
import Derived.KernelRfl
namespace Go.Proofs.Ytgnpledbeohjgaa
/- THE CELL 'sum', in the pinned program and in every row, IS THE sha256 OF THE DUMP (.gsa) THAT YtgnpledbeohjgaaProg.lean LOADS. Nothing in Lean hashes anything: it is a label: what it is worth is what the hold of that sum in a sandbox is worth. -/
noncomputable def Try.pinned : Pinned := { name := "ytgnpledbeohjgaa", sum := "4a9b5173d87e2f7d5f156169c5f1357b513ec0baa7553cdb7cd9587cec0f6b4e", checked := Try.checked }
namespace Rows
def none {H : Type} : Left H := { results := [], args := [] }

/-- 'laws.FnExactAddTables': WHATEVER THE INPUT: true; the input reads as it did. -/
def fnExactAddTablesSpec : ChangeSpec := { name := "fnExactAddTables", fn := fun _ => fun
  | [d1, d2] => { results := [.lit (.bool true)], args := [d1, d2] }
  | _ => none }
def fnExactAddTablesRow : OpenClaim := { program := "ytgnpledbeohjgaa", sum := "4a9b5173d87e2f7d5f156169c5f1357b513ec0baa7553cdb7cd9587cec0f6b4e", func := "loop.example/g01097/laws.FnExactAddTables", spec := "fnExactAddTables", unfollowed := true, recurses := true, apart := false }
def FnExactAddTablesSaid : Prop := fnExactAddTablesRow.holds Try.pinned (OpenSpec.ofChange fnExactAddTablesSpec)

/-- ITS FALSE NEIGHBOUR: 'it returns false'. Refute it at one input. -/
def fnExactAddTablesWrong : ChangeSpec := { name := "fnExactAddTables", fn := fun _ => fun
  | [d1, d2] => { results := [.lit (.bool false)], args := [d1, d2] }
  | _ => none }
def FnExactAddTablesWrongFalsely : Prop := fnExactAddTablesRow.holds Try.pinned (OpenSpec.ofChange fnExactAddTablesWrong)

/-- 'laws.FnExactUnionBloom': WHATEVER THE INPUT: true; the input reads as it did. -/
def fnExactUnionBloomSpec : ChangeSpec := { name := "fnExactUnionBloom", fn := fun _ => fun
  | [d1, d2] => { results := [.lit (.bool true)], args := [d1, d2] }
  | _ => none }
def fnExactUnionBloomRow : OpenClaim := { program := "ytgnpledbeohjgaa", sum := "4a9b5173d87e2f7d5f156169c5f1357b513ec0baa7553cdb7cd9587cec0f6b4e", func := "loop.example/g01097/laws.FnExactUnionBloom", spec := "fnExactUnionBloom", unfollowed := true, recurses := true, apart := false }
def FnExactUnionBloomSaid : Prop := fnExactUnionBloomRow.holds Try.pinned (OpenSpec.ofChange fnExactUnionBloomSpec)

/-- ITS FALSE NEIGHBOUR: 'it returns false'. Refute it at one input. -/
def fnExactUnionBloomWrong : ChangeSpec := { name := "fnExactUnionBloom", fn := fun _ => fun
  | [d1, d2] => { results := [.lit (.bool false)], args := [d1, d2] }
  | _ => none }
def FnExactUnionBloomWrongFalsely : Prop := fnExactUnionBloomRow.holds Try.pinned (OpenSpec.ofChange fnExactUnionBloomWrong)

/-- 'laws.FnExactBloomOfCounting': WHATEVER THE INPUT: true; the input reads as it did. -/
def fnExactBloomOfCountingSpec : ChangeSpec := { name := "fnExactBloomOfCounting", fn := fun _ => fun
  | [d] => { results := [.lit (.bool true)], args := [d] }
  | _ => none }
def fnExactBloomOfCountingRow : OpenClaim := { program := "ytgnpledbeohjgaa", sum := "4a9b5173d87e2f7d5f156169c5f1357b513ec0baa7553cdb7cd9587cec0f6b4e", func := "loop.example/g01097/laws.FnExactBloomOfCounting", spec := "fnExactBloomOfCounting", unfollowed := true, recurses := true, apart := false }
def FnExactBloomOfCountingSaid : Prop := fnExactBloomOfCountingRow.holds Try.pinned (OpenSpec.ofChange fnExactBloomOfCountingSpec)

/-- ITS FALSE NEIGHBOUR: 'it returns false'. Refute it at one input. -/
def fnExactBloomOfCountingWrong : ChangeSpec := { name := "fnExactBloomOfCounting", fn := fun _ => fun
  | [d] => { results := [.lit (.bool false)], args := [d] }
  | _ => none }
def FnExactBloomOfCountingWrongFalsely : Prop := fnExactBloomOfCountingRow.holds Try.pinned (OpenSpec.ofChange fnExactBloomOfCountingWrong)

/-- 'laws.FnExactIsSolution': WHATEVER THE INPUT: true; the input reads as it did. -/
def fnExactIsSolutionSpec : ChangeSpec := { name := "fnExactIsSolution", fn := fun _ => fun
  | [d1, d2] => { results := [.lit (.bool true)], args := [d1, d2] }
  | _ => none }
def fnExactIsSolutionRow : OpenClaim := { program := "ytgnpledbeohjgaa", sum := "4a9b5173d87e2f7d5f156169c5f1357b513ec0baa7553cdb7cd9587cec0f6b4e", func := "loop.example/g01097/laws.FnExactIsSolution", spec := "fnExactIsSolution", unfollowed := true, recurses := true, apart := false }
def FnExactIsSolutionSaid : Prop := fnExactIsSolutionRow.holds Try.pinned (OpenSpec.ofChange fnExactIsSolutionSpec)

/-- ITS FALSE NEIGHBOUR: 'it returns false'. Refute it at one input. -/
def fnExactIsSolutionWrong : ChangeSpec := { name := "fnExactIsSolution", fn := fun _ => fun
  | [d1, d2] => { results := [.lit (.bool false)], args := [d1, d2] }
  | _ => none }
def FnExactIsSolutionWrongFalsely : Prop := fnExactIsSolutionRow.holds Try.pinned (OpenSpec.ofChange fnExactIsSolutionWrong)

/-- 'laws.FnExactJoinSystems': WHATEVER THE INPUT: true; the input reads as it did. -/
def fnExactJoinSystemsSpec : ChangeSpec := { name := "fnExactJoinSystems", fn := fun _ => fun
  | [d1, d2] => { results := [.lit (.bool true)], args := [d1, d2] }
  | _ => none }
def fnExactJoinSystemsRow : OpenClaim := { program := "ytgnpledbeohjgaa", sum := "4a9b5173d87e2f7d5f156169c5f1357b513ec0baa7553cdb7cd9587cec0f6b4e", func := "loop.example/g01097/laws.FnExactJoinSystems", spec := "fnExactJoinSystems", unfollowed := true, recurses := true, apart := false }
def FnExactJoinSystemsSaid : Prop := fnExactJoinSystemsRow.holds Try.pinned (OpenSpec.ofChange fnExactJoinSystemsSpec)

/-- ITS FALSE NEIGHBOUR: 'it returns false'. Refute it at one input. -/
def fnExactJoinSystemsWrong : ChangeSpec := { name := "fnExactJoinSystems", fn := fun _ => fun
  | [d1, d2] => { results := [.lit (.bool false)], args := [d1, d2] }
  | _ => none }
def FnExactJoinSystemsWrongFalsely : Prop := fnExactJoinSystemsRow.holds Try.pinned (OpenSpec.ofChange fnExactJoinSystemsWrong)

/-- 'laws.FnExactSystemOf': WHATEVER THE INPUT: true; the input reads as it did. -/
def fnExactSystemOfSpec : ChangeSpec := { name := "fnExactSystemOf", fn := fun _ => fun
  | [d1, d2] => { results := [.lit (.bool true)], args := [d1, d2] }
  | _ => none }
def fnExactSystemOfRow : OpenClaim := { program := "ytgnpledbeohjgaa", sum := "4a9b5173d87e2f7d5f156169c5f1357b513ec0baa7553cdb7cd9587cec0f6b4e", func := "loop.example/g01097/laws.FnExactSystemOf", spec := "fnExactSystemOf", unfollowed := true, recurses := true, apart := false }
def FnExactSystemOfSaid : Prop := fnExactSystemOfRow.holds Try.pinned (OpenSpec.ofChange fnExactSystemOfSpec)

/-- ITS FALSE NEIGHBOUR: 'it returns false'. Refute it at one input. -/
def fnExactSystemOfWrong : ChangeSpec := { name := "fnExactSystemOf", fn := fun _ => fun
  | [d1, d2] => { results := [.lit (.bool false)], args := [d1, d2] }
  | _ => none }
def FnExactSystemOfWrongFalsely : Prop := fnExactSystemOfRow.holds Try.pinned (OpenSpec.ofChange fnExactSystemOfWrong)

/- THE SECOND FORM. 'bulk': how many values and letters a reading holds, each counted each time it is reached (what is shared counts as often as it is met; a slice's spare places count too). A statement '..UptoSaid' is the law's where the arguments, and the package variables that the reading takes, are together of bulk at most 1048576: NARROWER than '..Said'. Prove '..Said' where nothing that the law and all that it calls make is longer than what came in: it says more and counts as full. Else prove '..UptoSaid'. A law counts once. -/
mutual
def uptoBulk {H : Type} : DataW H → Nat
  | .lit (.string bytes) => bytes.length + 1
  | .lit _ => 1
  | .nil => 1
  | .ptr d => uptoBulk d + 1
  | .slice elems spare => uptoBulkAll elems + uptoBulkAll spare + 1
  | .agg parts => uptoBulkAll parts + 1
  | .iface _ d => uptoBulk d + 1
  | .map entries => uptoBulkEntries entries + 1
  | .held _ => 1
def uptoBulkAll {H : Type} : List (DataW H) → Nat
  | [] => 0
  | d :: r => uptoBulk d + uptoBulkAll r
def uptoBulkEntries {H : Type} : List (Lit × DataW H) → Nat
  | [] => 0
  | x :: r => uptoBulkEntry x + uptoBulkEntries r
def uptoBulkEntry {H : Type} : Lit × DataW H → Nat
  | (.string bytes, d) => bytes.length + uptoBulk d + 1
  | (_, d) => uptoBulk d + 1
 end
def uptoSmall : (H : Type) → List (DataW H) → Bool := fun _ ds => decide (uptoBulkAll ds ≤ 1048576)
def OpenSpec.upto (s : _root_.Go.ChangeSpec) : _root_.Go.OpenSpec := { _root_.Go.OpenSpec.ofChange s with cond := some uptoSmall }

/-- 'laws.FnExactAddTables', WHERE WHAT IT READS IS OF BULK AT MOST 1048576: true; the input reads as it did. -/
def fnExactAddTablesUptoRow : OpenClaim := { program := "ytgnpledbeohjgaa", sum := "4a9b5173d87e2f7d5f156169c5f1357b513ec0baa7553cdb7cd9587cec0f6b4e", func := "loop.example/g01097/laws.FnExactAddTables", spec := "fnExactAddTables", unfollowed := true, recurses := true, apart := false, narrowed := true }
def FnExactAddTablesUptoSaid : Prop := fnExactAddTablesUptoRow.holds Try.pinned (OpenSpec.upto fnExactAddTablesSpec)

/-- 'laws.FnExactUnionBloom', WHERE WHAT IT READS IS OF BULK AT MOST 1048576: true; the input reads as it did. -/
def fnExactUnionBloomUptoRow : OpenClaim := { program := "ytgnpledbeohjgaa", sum := "4a9b5173d87e2f7d5f156169c5f1357b513ec0baa7553cdb7cd9587cec0f6b4e", func := "loop.example/g01097/laws.FnExactUnionBloom", spec := "fnExactUnionBloom", unfollowed := true, recurses := true, apart := false, narrowed := true }
def FnExactUnionBloomUptoSaid : Prop := fnExactUnionBloomUptoRow.holds Try.pinned (OpenSpec.upto fnExactUnionBloomSpec)

/-- 'laws.FnExactBloomOfCounting', WHERE WHAT IT READS IS OF BULK AT MOST 1048576: true; the input reads as it did. -/
def fnExactBloomOfCountingUptoRow : OpenClaim := { program := "ytgnpledbeohjgaa", sum := "4a9b5173d87e2f7d5f156169c5f1357b513ec0baa7553cdb7cd9587cec0f6b4e", func := "loop.example/g01097/laws.FnExactBloomOfCounting", spec := "fnExactBloomOfCounting", unfollowed := true, recurses := true, apart := false, narrowed := true }
def FnExactBloomOfCountingUptoSaid : Prop := fnExactBloomOfCountingUptoRow.holds Try.pinned (OpenSpec.upto fnExactBloomOfCountingSpec)

/-- 'laws.FnExactIsSolution', WHERE WHAT IT READS IS OF BULK AT MOST 1048576: true; the input reads as it did. -/
def fnExactIsSolutionUptoRow : OpenClaim := { program := "ytgnpledbeohjgaa", sum := "4a9b5173d87e2f7d5f156169c5f1357b513ec0baa7553cdb7cd9587cec0f6b4e", func := "loop.example/g01097/laws.FnExactIsSolution", spec := "fnExactIsSolution", unfollowed := true, recurses := true, apart := false, narrowed := true }
def FnExactIsSolutionUptoSaid : Prop := fnExactIsSolutionUptoRow.holds Try.pinned (OpenSpec.upto fnExactIsSolutionSpec)

/-- 'laws.FnExactJoinSystems', WHERE WHAT IT READS IS OF BULK AT MOST 1048576: true; the input reads as it did. -/
def fnExactJoinSystemsUptoRow : OpenClaim := { program := "ytgnpledbeohjgaa", sum := "4a9b5173d87e2f7d5f156169c5f1357b513ec0baa7553cdb7cd9587cec0f6b4e", func := "loop.example/g01097/laws.FnExactJoinSystems", spec := "fnExactJoinSystems", unfollowed := true, recurses := true, apart := false, narrowed := true }
def FnExactJoinSystemsUptoSaid : Prop := fnExactJoinSystemsUptoRow.holds Try.pinned (OpenSpec.upto fnExactJoinSystemsSpec)

/-- 'laws.FnExactSystemOf', WHERE WHAT IT READS IS OF BULK AT MOST 1048576: true; the input reads as it did. -/
def fnExactSystemOfUptoRow : OpenClaim := { program := "ytgnpledbeohjgaa", sum := "4a9b5173d87e2f7d5f156169c5f1357b513ec0baa7553cdb7cd9587cec0f6b4e", func := "loop.example/g01097/laws.FnExactSystemOf", spec := "fnExactSystemOf", unfollowed := true, recurses := true, apart := false, narrowed := true }
def FnExactSystemOfUptoSaid : Prop := fnExactSystemOfUptoRow.holds Try.pinned (OpenSpec.upto fnExactSystemOfSpec)

end Rows
end Go.Proofs.Ytgnpledbeohjgaa
