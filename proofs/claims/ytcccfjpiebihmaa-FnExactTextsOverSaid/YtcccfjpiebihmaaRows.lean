/-
  No cell of these rows narrows 'for every input' (looked for: loops, veiled, ifaces, maps, wideKeys, modest, calm, conditions, laid).
  DERIVED. THE GIVEN ROWS OF THIS SEAT. 12 by the template 'for every input the law returns true; each argument reads behind the call as it read before'; 0 by the template 'total and deterministic' (their statements: YtcccfjpiebihmaaTotals.lean).
  GIVEN WITH THE SEED: the statements are not yours to turn. If you find one false, say at which input.
  Laid BY PROGRAM, IN A SANDBOX (cutbox-rows.mjs): the forced cells as the released guide's own fill.sh prints them over the translation c0d89067d422b879… (all of the seat's roots in one cut). By AI agents, Wed Nov 11 2026. No macro, syntax, notation, axiom, sorry.
-/
import Derived.Test.YtcccfjpiebihmaaChecked
import GoSem.Claim
import GoSem.ClaimJoined
import GoSem.ClaimMapViews
import Derived.JoinedTies
import Derived.KernelRfl
namespace Go.Proofs.Ytcccfjpiebihmaa
/- THE CELL 'sum', in the pinned program and in every row, IS THE sha256 OF THE DUMP (.gsa) THAT YtcccfjpiebihmaaProg.lean LOADS. Nothing in Lean hashes anything: it is a label: what it is worth is what the hold of that sum in a sandbox is worth. -/
noncomputable def Try.pinned : Pinned := { name := "ytcccfjpiebihmaa", sum := "c0d89067d422b879d6c5d65fbbb6bf69da92669daf4e2b57546033aa477b6a7d", checked := Try.checked }
namespace Rows
def none {H : Type} : Left H := { results := [], args := [] }

/-- 'laws.FnExactPrintOf': WHATEVER THE INPUT: true; the input reads as it did. -/
def fnExactPrintOfSpec : ChangeSpec := { name := "fnExactPrintOf", fn := fun _ => fun
  | [d1, d2, d3] => { results := [.lit (.bool true)], args := [d1, d2, d3] }
  | _ => none }
def fnExactPrintOfRow : OpenClaim := { program := "ytcccfjpiebihmaa", sum := "c0d89067d422b879d6c5d65fbbb6bf69da92669daf4e2b57546033aa477b6a7d", func := "loop.example/g01097/laws.FnExactPrintOf", spec := "fnExactPrintOf", apart := false }
def FnExactPrintOfSaid : Prop := fnExactPrintOfRow.holds Try.pinned (OpenSpec.ofChange fnExactPrintOfSpec)

/-- ITS FALSE NEIGHBOUR: 'it returns false'. Refute it at one input. -/
def fnExactPrintOfWrong : ChangeSpec := { name := "fnExactPrintOf", fn := fun _ => fun
  | [d1, d2, d3] => { results := [.lit (.bool false)], args := [d1, d2, d3] }
  | _ => none }
def FnExactPrintOfWrongFalsely : Prop := fnExactPrintOfRow.holds Try.pinned (OpenSpec.ofChange fnExactPrintOfWrong)

/-- 'laws.FnExactCellsOf': WHATEVER THE INPUT: true; the input reads as it did. -/
def fnExactCellsOfSpec : ChangeSpec := { name := "fnExactCellsOf", fn := fun _ => fun
  | [d1, d2, d3] => { results := [.lit (.bool true)], args := [d1, d2, d3] }
  | _ => none }
def fnExactCellsOfRow : OpenClaim := { program := "ytcccfjpiebihmaa", sum := "c0d89067d422b879d6c5d65fbbb6bf69da92669daf4e2b57546033aa477b6a7d", func := "loop.example/g01097/laws.FnExactCellsOf", spec := "fnExactCellsOf", apart := false }
def FnExactCellsOfSaid : Prop := fnExactCellsOfRow.holds Try.pinned (OpenSpec.ofChange fnExactCellsOfSpec)

/-- ITS FALSE NEIGHBOUR: 'it returns false'. Refute it at one input. -/
def fnExactCellsOfWrong : ChangeSpec := { name := "fnExactCellsOf", fn := fun _ => fun
  | [d1, d2, d3] => { results := [.lit (.bool false)], args := [d1, d2, d3] }
  | _ => none }
def FnExactCellsOfWrongFalsely : Prop := fnExactCellsOfRow.holds Try.pinned (OpenSpec.ofChange fnExactCellsOfWrong)

/-- 'laws.FnExactNewCuckoo': WHATEVER THE INPUT: true; the input reads as it did. -/
def fnExactNewCuckooSpec : ChangeSpec := { name := "fnExactNewCuckoo", fn := fun _ => fun
  | [d1, d2] => { results := [.lit (.bool true)], args := [d1, d2] }
  | _ => none }
def fnExactNewCuckooRow : OpenClaim := { program := "ytcccfjpiebihmaa", sum := "c0d89067d422b879d6c5d65fbbb6bf69da92669daf4e2b57546033aa477b6a7d", func := "loop.example/g01097/laws.FnExactNewCuckoo", spec := "fnExactNewCuckoo", apart := false }
def FnExactNewCuckooSaid : Prop := fnExactNewCuckooRow.holds Try.pinned (OpenSpec.ofChange fnExactNewCuckooSpec)

/-- ITS FALSE NEIGHBOUR: 'it returns false'. Refute it at one input. -/
def fnExactNewCuckooWrong : ChangeSpec := { name := "fnExactNewCuckoo", fn := fun _ => fun
  | [d1, d2] => { results := [.lit (.bool false)], args := [d1, d2] }
  | _ => none }
def FnExactNewCuckooWrongFalsely : Prop := fnExactNewCuckooRow.holds Try.pinned (OpenSpec.ofChange fnExactNewCuckooWrong)

/-- 'laws.FnExactIsCounting': WHATEVER THE INPUT: true; the input reads as it did. -/
def fnExactIsCountingSpec : ChangeSpec := { name := "fnExactIsCounting", fn := fun _ => fun
  | [d] => { results := [.lit (.bool true)], args := [d] }
  | _ => none }
def fnExactIsCountingRow : OpenClaim := { program := "ytcccfjpiebihmaa", sum := "c0d89067d422b879d6c5d65fbbb6bf69da92669daf4e2b57546033aa477b6a7d", func := "loop.example/g01097/laws.FnExactIsCounting", spec := "fnExactIsCounting", unfollowed := true, recurses := true, apart := false }
def FnExactIsCountingSaid : Prop := fnExactIsCountingRow.holds Try.pinned (OpenSpec.ofChange fnExactIsCountingSpec)

/-- ITS FALSE NEIGHBOUR: 'it returns false'. Refute it at one input. -/
def fnExactIsCountingWrong : ChangeSpec := { name := "fnExactIsCounting", fn := fun _ => fun
  | [d] => { results := [.lit (.bool false)], args := [d] }
  | _ => none }
def FnExactIsCountingWrongFalsely : Prop := fnExactIsCountingRow.holds Try.pinned (OpenSpec.ofChange fnExactIsCountingWrong)

/-- 'laws.FnExactIsTable': WHATEVER THE INPUT: true; the input reads as it did. -/
def fnExactIsTableSpec : ChangeSpec := { name := "fnExactIsTable", fn := fun _ => fun
  | [d] => { results := [.lit (.bool true)], args := [d] }
  | _ => none }
def fnExactIsTableRow : OpenClaim := { program := "ytcccfjpiebihmaa", sum := "c0d89067d422b879d6c5d65fbbb6bf69da92669daf4e2b57546033aa477b6a7d", func := "loop.example/g01097/laws.FnExactIsTable", spec := "fnExactIsTable", unfollowed := true, recurses := true, apart := false }
def FnExactIsTableSaid : Prop := fnExactIsTableRow.holds Try.pinned (OpenSpec.ofChange fnExactIsTableSpec)

/-- ITS FALSE NEIGHBOUR: 'it returns false'. Refute it at one input. -/
def fnExactIsTableWrong : ChangeSpec := { name := "fnExactIsTable", fn := fun _ => fun
  | [d] => { results := [.lit (.bool false)], args := [d] }
  | _ => none }
def FnExactIsTableWrongFalsely : Prop := fnExactIsTableRow.holds Try.pinned (OpenSpec.ofChange fnExactIsTableWrong)

/-- 'laws.FnExactNewBloom': WHATEVER THE INPUT: true; the input reads as it did. -/
def fnExactNewBloomSpec : ChangeSpec := { name := "fnExactNewBloom", fn := fun _ => fun
  | [d1, d2, d3] => { results := [.lit (.bool true)], args := [d1, d2, d3] }
  | _ => none }
def fnExactNewBloomRow : OpenClaim := { program := "ytcccfjpiebihmaa", sum := "c0d89067d422b879d6c5d65fbbb6bf69da92669daf4e2b57546033aa477b6a7d", func := "loop.example/g01097/laws.FnExactNewBloom", spec := "fnExactNewBloom", apart := false }
def FnExactNewBloomSaid : Prop := fnExactNewBloomRow.holds Try.pinned (OpenSpec.ofChange fnExactNewBloomSpec)

/-- ITS FALSE NEIGHBOUR: 'it returns false'. Refute it at one input. -/
def fnExactNewBloomWrong : ChangeSpec := { name := "fnExactNewBloom", fn := fun _ => fun
  | [d1, d2, d3] => { results := [.lit (.bool false)], args := [d1, d2, d3] }
  | _ => none }
def FnExactNewBloomWrongFalsely : Prop := fnExactNewBloomRow.holds Try.pinned (OpenSpec.ofChange fnExactNewBloomWrong)

/-- 'laws.FnExactCuckooOf': WHATEVER THE INPUT: true; the input reads as it did. -/
def fnExactCuckooOfSpec : ChangeSpec := { name := "fnExactCuckooOf", fn := fun _ => fun
  | [d1, d2, d3, d4] => { results := [.lit (.bool true)], args := [d1, d2, d3, d4] }
  | _ => none }
def fnExactCuckooOfRow : OpenClaim := { program := "ytcccfjpiebihmaa", sum := "c0d89067d422b879d6c5d65fbbb6bf69da92669daf4e2b57546033aa477b6a7d", func := "loop.example/g01097/laws.FnExactCuckooOf", spec := "fnExactCuckooOf", inPlace := ["slices.overlaps[string]"], unfollowed := true, recurses := true, apart := false }
def FnExactCuckooOfSaid : Prop := fnExactCuckooOfRow.holds Try.pinned (OpenSpec.ofChange fnExactCuckooOfSpec)

/-- ITS FALSE NEIGHBOUR: 'it returns false'. Refute it at one input. -/
def fnExactCuckooOfWrong : ChangeSpec := { name := "fnExactCuckooOf", fn := fun _ => fun
  | [d1, d2, d3, d4] => { results := [.lit (.bool false)], args := [d1, d2, d3, d4] }
  | _ => none }
def FnExactCuckooOfWrongFalsely : Prop := fnExactCuckooOfRow.holds Try.pinned (OpenSpec.ofChange fnExactCuckooOfWrong)

/-- 'laws.FnExactProbesOf': WHATEVER THE INPUT: true; the input reads as it did. -/
def fnExactProbesOfSpec : ChangeSpec := { name := "fnExactProbesOf", fn := fun _ => fun
  | [d1, d2, d3, d4] => { results := [.lit (.bool true)], args := [d1, d2, d3, d4] }
  | _ => none }
def fnExactProbesOfRow : OpenClaim := { program := "ytcccfjpiebihmaa", sum := "c0d89067d422b879d6c5d65fbbb6bf69da92669daf4e2b57546033aa477b6a7d", func := "loop.example/g01097/laws.FnExactProbesOf", spec := "fnExactProbesOf", apart := false }
def FnExactProbesOfSaid : Prop := fnExactProbesOfRow.holds Try.pinned (OpenSpec.ofChange fnExactProbesOfSpec)

/-- ITS FALSE NEIGHBOUR: 'it returns false'. Refute it at one input. -/
def fnExactProbesOfWrong : ChangeSpec := { name := "fnExactProbesOf", fn := fun _ => fun
  | [d1, d2, d3, d4] => { results := [.lit (.bool false)], args := [d1, d2, d3, d4] }
  | _ => none }
def FnExactProbesOfWrongFalsely : Prop := fnExactProbesOfRow.holds Try.pinned (OpenSpec.ofChange fnExactProbesOfWrong)

/-- 'laws.FnExactIsBloom': WHATEVER THE INPUT: true; the input reads as it did. -/
def fnExactIsBloomSpec : ChangeSpec := { name := "fnExactIsBloom", fn := fun _ => fun
  | [d] => { results := [.lit (.bool true)], args := [d] }
  | _ => none }
def fnExactIsBloomRow : OpenClaim := { program := "ytcccfjpiebihmaa", sum := "c0d89067d422b879d6c5d65fbbb6bf69da92669daf4e2b57546033aa477b6a7d", func := "loop.example/g01097/laws.FnExactIsBloom", spec := "fnExactIsBloom", apart := false }
def FnExactIsBloomSaid : Prop := fnExactIsBloomRow.holds Try.pinned (OpenSpec.ofChange fnExactIsBloomSpec)

/-- ITS FALSE NEIGHBOUR: 'it returns false'. Refute it at one input. -/
def fnExactIsBloomWrong : ChangeSpec := { name := "fnExactIsBloom", fn := fun _ => fun
  | [d] => { results := [.lit (.bool false)], args := [d] }
  | _ => none }
def FnExactIsBloomWrongFalsely : Prop := fnExactIsBloomRow.holds Try.pinned (OpenSpec.ofChange fnExactIsBloomWrong)

/-- 'laws.FnExactTextsOver': WHATEVER THE INPUT: true; the input reads as it did. -/
def fnExactTextsOverSpec : ChangeSpec := { name := "fnExactTextsOver", fn := fun _ => fun
  | [d1, d2] => { results := [.lit (.bool true)], args := [d1, d2] }
  | _ => none }
def fnExactTextsOverRow : OpenClaim := { program := "ytcccfjpiebihmaa", sum := "c0d89067d422b879d6c5d65fbbb6bf69da92669daf4e2b57546033aa477b6a7d", func := "loop.example/g01097/laws.FnExactTextsOver", spec := "fnExactTextsOver", apart := false }
def FnExactTextsOverSaid : Prop := fnExactTextsOverRow.holds Try.pinned (OpenSpec.ofChange fnExactTextsOverSpec)

/-- ITS FALSE NEIGHBOUR: 'it returns false'. Refute it at one input. -/
def fnExactTextsOverWrong : ChangeSpec := { name := "fnExactTextsOver", fn := fun _ => fun
  | [d1, d2] => { results := [.lit (.bool false)], args := [d1, d2] }
  | _ => none }
def FnExactTextsOverWrongFalsely : Prop := fnExactTextsOverRow.holds Try.pinned (OpenSpec.ofChange fnExactTextsOverWrong)

/-- 'laws.FnTextsOverLetters': WHATEVER THE INPUT: true; the input reads as it did. -/
def fnTextsOverLettersSpec : ChangeSpec := { name := "fnTextsOverLetters", fn := fun _ => fun
  | [d1, d2] => { results := [.lit (.bool true)], args := [d1, d2] }
  | _ => none }
def fnTextsOverLettersRow : OpenClaim := { program := "ytcccfjpiebihmaa", sum := "c0d89067d422b879d6c5d65fbbb6bf69da92669daf4e2b57546033aa477b6a7d", func := "loop.example/g01097/laws.FnTextsOverLetters", spec := "fnTextsOverLetters", apart := false }
def FnTextsOverLettersSaid : Prop := fnTextsOverLettersRow.holds Try.pinned (OpenSpec.ofChange fnTextsOverLettersSpec)

/-- ITS FALSE NEIGHBOUR: 'it returns false'. Refute it at one input. -/
def fnTextsOverLettersWrong : ChangeSpec := { name := "fnTextsOverLetters", fn := fun _ => fun
  | [d1, d2] => { results := [.lit (.bool false)], args := [d1, d2] }
  | _ => none }
def FnTextsOverLettersWrongFalsely : Prop := fnTextsOverLettersRow.holds Try.pinned (OpenSpec.ofChange fnTextsOverLettersWrong)

/-- 'laws.FnExactCoversBloom': WHATEVER THE INPUT: true; the input reads as it did. -/
def fnExactCoversBloomSpec : ChangeSpec := { name := "fnExactCoversBloom", fn := fun _ => fun
  | [d1, d2] => { results := [.lit (.bool true)], args := [d1, d2] }
  | _ => none }
def fnExactCoversBloomRow : OpenClaim := { program := "ytcccfjpiebihmaa", sum := "c0d89067d422b879d6c5d65fbbb6bf69da92669daf4e2b57546033aa477b6a7d", func := "loop.example/g01097/laws.FnExactCoversBloom", spec := "fnExactCoversBloom", apart := false }
def FnExactCoversBloomSaid : Prop := fnExactCoversBloomRow.holds Try.pinned (OpenSpec.ofChange fnExactCoversBloomSpec)

/-- ITS FALSE NEIGHBOUR: 'it returns false'. Refute it at one input. -/
def fnExactCoversBloomWrong : ChangeSpec := { name := "fnExactCoversBloom", fn := fun _ => fun
  | [d1, d2] => { results := [.lit (.bool false)], args := [d1, d2] }
  | _ => none }
def FnExactCoversBloomWrongFalsely : Prop := fnExactCoversBloomRow.holds Try.pinned (OpenSpec.ofChange fnExactCoversBloomWrong)

/- THE SECOND FORM. 'bulk': how many values and letters a reading holds, each counted each time it is reached (what is shared counts as often as it is met; a slice's spare places count too). A statement '..UptoSaid' is the law's where the arguments, and the package variables that the reading takes, are together of bulk at most 1048576: NARROWER than '..Said'. Prove '..Said' where nothing that the law and all that it calls make is longer than what came in: it says more and counts as full. Else prove '..UptoSaid'. A law counts once. -/
mutual
def uptoBulk {H : Type} : DataW H → Nat
  | .lit (.string bytes) => bytes.length + 1
  | .lit _ => 1
  | .nil => 1
  | .ptr d => uptoBulk d + 1
  | .slice elems spare => uptoBulkAll elems + uptoBulkAll spare + 1
  | .agg parts => uptoBulkAll parts + 1
  | .iface _ d => uptoBulk d + 1
  | .map entries => uptoBulkEntries entries + 1
  | .held _ => 1
def uptoBulkAll {H : Type} : List (DataW H) → Nat
  | [] => 0
  | d :: r => uptoBulk d + uptoBulkAll r
def uptoBulkEntries {H : Type} : List (Lit × DataW H) → Nat
  | [] => 0
  | x :: r => uptoBulkEntry x + uptoBulkEntries r
def uptoBulkEntry {H : Type} : Lit × DataW H → Nat
  | (.string bytes, d) => bytes.length + uptoBulk d + 1
  | (_, d) => uptoBulk d + 1
 end
def uptoSmall : (H : Type) → List (DataW H) → Bool := fun _ ds => decide (uptoBulkAll ds ≤ 1048576)
def OpenSpec.upto (s : _root_.Go.ChangeSpec) : _root_.Go.OpenSpec := { _root_.Go.OpenSpec.ofChange s with cond := some uptoSmall }

/-- 'laws.FnExactPrintOf', WHERE WHAT IT READS IS OF BULK AT MOST 1048576: true; the input reads as it did. -/
def fnExactPrintOfUptoRow : OpenClaim := { program := "ytcccfjpiebihmaa", sum := "c0d89067d422b879d6c5d65fbbb6bf69da92669daf4e2b57546033aa477b6a7d", func := "loop.example/g01097/laws.FnExactPrintOf", spec := "fnExactPrintOf", apart := false, narrowed := true }
def FnExactPrintOfUptoSaid : Prop := fnExactPrintOfUptoRow.holds Try.pinned (OpenSpec.upto fnExactPrintOfSpec)

/-- 'laws.FnExactCellsOf', WHERE WHAT IT READS IS OF BULK AT MOST 1048576: true; the input reads as it did. -/
def fnExactCellsOfUptoRow : OpenClaim := { program := "ytcccfjpiebihmaa", sum := "c0d89067d422b879d6c5d65fbbb6bf69da92669daf4e2b57546033aa477b6a7d", func := "loop.example/g01097/laws.FnExactCellsOf", spec := "fnExactCellsOf", apart := false, narrowed := true }
def FnExactCellsOfUptoSaid : Prop := fnExactCellsOfUptoRow.holds Try.pinned (OpenSpec.upto fnExactCellsOfSpec)

/-- 'laws.FnExactNewCuckoo', WHERE WHAT IT READS IS OF BULK AT MOST 1048576: true; the input reads as it did. -/
def fnExactNewCuckooUptoRow : OpenClaim := { program := "ytcccfjpiebihmaa", sum := "c0d89067d422b879d6c5d65fbbb6bf69da92669daf4e2b57546033aa477b6a7d", func := "loop.example/g01097/laws.FnExactNewCuckoo", spec := "fnExactNewCuckoo", apart := false, narrowed := true }
def FnExactNewCuckooUptoSaid : Prop := fnExactNewCuckooUptoRow.holds Try.pinned (OpenSpec.upto fnExactNewCuckooSpec)

/-- 'laws.FnExactIsCounting', WHERE WHAT IT READS IS OF BULK AT MOST 1048576: true; the input reads as it did. -/
def fnExactIsCountingUptoRow : OpenClaim := { program := "ytcccfjpiebihmaa", sum := "c0d89067d422b879d6c5d65fbbb6bf69da92669daf4e2b57546033aa477b6a7d", func := "loop.example/g01097/laws.FnExactIsCounting", spec := "fnExactIsCounting", unfollowed := true, recurses := true, apart := false, narrowed := true }
def FnExactIsCountingUptoSaid : Prop := fnExactIsCountingUptoRow.holds Try.pinned (OpenSpec.upto fnExactIsCountingSpec)

/-- 'laws.FnExactIsTable', WHERE WHAT IT READS IS OF BULK AT MOST 1048576: true; the input reads as it did. -/
def fnExactIsTableUptoRow : OpenClaim := { program := "ytcccfjpiebihmaa", sum := "c0d89067d422b879d6c5d65fbbb6bf69da92669daf4e2b57546033aa477b6a7d", func := "loop.example/g01097/laws.FnExactIsTable", spec := "fnExactIsTable", unfollowed := true, recurses := true, apart := false, narrowed := true }
def FnExactIsTableUptoSaid : Prop := fnExactIsTableUptoRow.holds Try.pinned (OpenSpec.upto fnExactIsTableSpec)

/-- 'laws.FnExactNewBloom', WHERE WHAT IT READS IS OF BULK AT MOST 1048576: true; the input reads as it did. -/
def fnExactNewBloomUptoRow : OpenClaim := { program := "ytcccfjpiebihmaa", sum := "c0d89067d422b879d6c5d65fbbb6bf69da92669daf4e2b57546033aa477b6a7d", func := "loop.example/g01097/laws.FnExactNewBloom", spec := "fnExactNewBloom", apart := false, narrowed := true }
def FnExactNewBloomUptoSaid : Prop := fnExactNewBloomUptoRow.holds Try.pinned (OpenSpec.upto fnExactNewBloomSpec)

/-- 'laws.FnExactCuckooOf', WHERE WHAT IT READS IS OF BULK AT MOST 1048576: true; the input reads as it did. -/
def fnExactCuckooOfUptoRow : OpenClaim := { program := "ytcccfjpiebihmaa", sum := "c0d89067d422b879d6c5d65fbbb6bf69da92669daf4e2b57546033aa477b6a7d", func := "loop.example/g01097/laws.FnExactCuckooOf", spec := "fnExactCuckooOf", inPlace := ["slices.overlaps[string]"], unfollowed := true, recurses := true, apart := false, narrowed := true }
def FnExactCuckooOfUptoSaid : Prop := fnExactCuckooOfUptoRow.holds Try.pinned (OpenSpec.upto fnExactCuckooOfSpec)

/-- 'laws.FnExactProbesOf', WHERE WHAT IT READS IS OF BULK AT MOST 1048576: true; the input reads as it did. -/
def fnExactProbesOfUptoRow : OpenClaim := { program := "ytcccfjpiebihmaa", sum := "c0d89067d422b879d6c5d65fbbb6bf69da92669daf4e2b57546033aa477b6a7d", func := "loop.example/g01097/laws.FnExactProbesOf", spec := "fnExactProbesOf", apart := false, narrowed := true }
def FnExactProbesOfUptoSaid : Prop := fnExactProbesOfUptoRow.holds Try.pinned (OpenSpec.upto fnExactProbesOfSpec)

/-- 'laws.FnExactIsBloom', WHERE WHAT IT READS IS OF BULK AT MOST 1048576: true; the input reads as it did. -/
def fnExactIsBloomUptoRow : OpenClaim := { program := "ytcccfjpiebihmaa", sum := "c0d89067d422b879d6c5d65fbbb6bf69da92669daf4e2b57546033aa477b6a7d", func := "loop.example/g01097/laws.FnExactIsBloom", spec := "fnExactIsBloom", apart := false, narrowed := true }
def FnExactIsBloomUptoSaid : Prop := fnExactIsBloomUptoRow.holds Try.pinned (OpenSpec.upto fnExactIsBloomSpec)

/-- 'laws.FnExactTextsOver', WHERE WHAT IT READS IS OF BULK AT MOST 1048576: true; the input reads as it did. -/
def fnExactTextsOverUptoRow : OpenClaim := { program := "ytcccfjpiebihmaa", sum := "c0d89067d422b879d6c5d65fbbb6bf69da92669daf4e2b57546033aa477b6a7d", func := "loop.example/g01097/laws.FnExactTextsOver", spec := "fnExactTextsOver", apart := false, narrowed := true }
def FnExactTextsOverUptoSaid : Prop := fnExactTextsOverUptoRow.holds Try.pinned (OpenSpec.upto fnExactTextsOverSpec)

/-- 'laws.FnTextsOverLetters', WHERE WHAT IT READS IS OF BULK AT MOST 1048576: true; the input reads as it did. -/
def fnTextsOverLettersUptoRow : OpenClaim := { program := "ytcccfjpiebihmaa", sum := "c0d89067d422b879d6c5d65fbbb6bf69da92669daf4e2b57546033aa477b6a7d", func := "loop.example/g01097/laws.FnTextsOverLetters", spec := "fnTextsOverLetters", apart := false, narrowed := true }
def FnTextsOverLettersUptoSaid : Prop := fnTextsOverLettersUptoRow.holds Try.pinned (OpenSpec.upto fnTextsOverLettersSpec)

/-- 'laws.FnExactCoversBloom', WHERE WHAT IT READS IS OF BULK AT MOST 1048576: true; the input reads as it did. -/
def fnExactCoversBloomUptoRow : OpenClaim := { program := "ytcccfjpiebihmaa", sum := "c0d89067d422b879d6c5d65fbbb6bf69da92669daf4e2b57546033aa477b6a7d", func := "loop.example/g01097/laws.FnExactCoversBloom", spec := "fnExactCoversBloom", apart := false, narrowed := true }
def FnExactCoversBloomUptoSaid : Prop := fnExactCoversBloomUptoRow.holds Try.pinned (OpenSpec.upto fnExactCoversBloomSpec)

end Rows
end Go.Proofs.Ytcccfjpiebihmaa
