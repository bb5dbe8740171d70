/-
  No cell of these rows narrows 'for every input' (looked for: loops, veiled, ifaces, maps, wideKeys, modest, calm, conditions, laid).
  DERIVED. THE GIVEN ROWS OF THIS SEAT. 12 by the template 'for every input the law returns true; each argument reads behind the call as it read before'; 0 by the template 'total and deterministic' (their statements: YtmiekfffaaagpaaTotals.lean).
  GIVEN WITH THE SEED: the statements are not yours to turn. If you find one false, say at which input.
  Laid BY PROGRAM, IN A SANDBOX (cutbox-rows.mjs): the forced cells as the released guide's own fill.sh prints them over the translation 4d778587c28b656c… (all of the seat's roots in one cut). By AI agents, Wed Nov 11 2026. No macro, syntax, notation, axiom, sorry.
-/
import Derived.Test.YtmiekfffaaagpaaChecked
import GoSem.Claim
import GoSem.ClaimJoined
import GoSem.ClaimMapViews
import Derived.JoinedTies
import Derived.KernelRfl
namespace Go.Proofs.Ytmiekfffaaagpaa
/- THE CELL 'sum', in the pinned program and in every row, IS THE sha256 OF THE DUMP (.gsa) THAT YtmiekfffaaagpaaProg.lean LOADS. Nothing in Lean hashes anything: it is a label: what it is worth is what the hold of that sum in a sandbox is worth. -/
noncomputable def Try.pinned : Pinned := { name := "ytmiekfffaaagpaa", sum := "4d778587c28b656c6795ed578eef47b4bc83c02bd81cff2e71ce7f8452f14670", checked := Try.checked }
namespace Rows
def none {H : Type} : Left H := { results := [], args := [] }

/-- 'laws.FnExactBloomLoad': WHATEVER THE INPUT: true; the input reads as it did. -/
def fnExactBloomLoadSpec : ChangeSpec := { name := "fnExactBloomLoad", fn := fun _ => fun
  | [d] => { results := [.lit (.bool true)], args := [d] }
  | _ => none }
def fnExactBloomLoadRow : OpenClaim := { program := "ytmiekfffaaagpaa", sum := "4d778587c28b656c6795ed578eef47b4bc83c02bd81cff2e71ce7f8452f14670", func := "loop.example/g01097/laws.FnExactBloomLoad", spec := "fnExactBloomLoad", apart := false }
def FnExactBloomLoadSaid : Prop := fnExactBloomLoadRow.holds Try.pinned (OpenSpec.ofChange fnExactBloomLoadSpec)

/-- ITS FALSE NEIGHBOUR: 'it returns false'. Refute it at one input. -/
def fnExactBloomLoadWrong : ChangeSpec := { name := "fnExactBloomLoad", fn := fun _ => fun
  | [d] => { results := [.lit (.bool false)], args := [d] }
  | _ => none }
def FnExactBloomLoadWrongFalsely : Prop := fnExactBloomLoadRow.holds Try.pinned (OpenSpec.ofChange fnExactBloomLoadWrong)

/-- 'laws.FnExactAddTables': WHATEVER THE INPUT: true; the input reads as it did. -/
def fnExactAddTablesSpec : ChangeSpec := { name := "fnExactAddTables", fn := fun _ => fun
  | [d1, d2] => { results := [.lit (.bool true)], args := [d1, d2] }
  | _ => none }
def fnExactAddTablesRow : OpenClaim := { program := "ytmiekfffaaagpaa", sum := "4d778587c28b656c6795ed578eef47b4bc83c02bd81cff2e71ce7f8452f14670", func := "loop.example/g01097/laws.FnExactAddTables", spec := "fnExactAddTables", unfollowed := true, recurses := true, apart := false }
def FnExactAddTablesSaid : Prop := fnExactAddTablesRow.holds Try.pinned (OpenSpec.ofChange fnExactAddTablesSpec)

/-- ITS FALSE NEIGHBOUR: 'it returns false'. Refute it at one input. -/
def fnExactAddTablesWrong : ChangeSpec := { name := "fnExactAddTables", fn := fun _ => fun
  | [d1, d2] => { results := [.lit (.bool false)], args := [d1, d2] }
  | _ => none }
def FnExactAddTablesWrongFalsely : Prop := fnExactAddTablesRow.holds Try.pinned (OpenSpec.ofChange fnExactAddTablesWrong)

/-- 'laws.FnPlacesOfHashes': WHATEVER THE INPUT: true; the input reads as it did. -/
def fnPlacesOfHashesSpec : ChangeSpec := { name := "fnPlacesOfHashes", fn := fun _ => fun
  | [d1, d2] => { results := [.lit (.bool true)], args := [d1, d2] }
  | _ => none }
def fnPlacesOfHashesRow : OpenClaim := { program := "ytmiekfffaaagpaa", sum := "4d778587c28b656c6795ed578eef47b4bc83c02bd81cff2e71ce7f8452f14670", func := "loop.example/g01097/laws.FnPlacesOfHashes", spec := "fnPlacesOfHashes", apart := false }
def FnPlacesOfHashesSaid : Prop := fnPlacesOfHashesRow.holds Try.pinned (OpenSpec.ofChange fnPlacesOfHashesSpec)

/-- ITS FALSE NEIGHBOUR: 'it returns false'. Refute it at one input. -/
def fnPlacesOfHashesWrong : ChangeSpec := { name := "fnPlacesOfHashes", fn := fun _ => fun
  | [d1, d2] => { results := [.lit (.bool false)], args := [d1, d2] }
  | _ => none }
def FnPlacesOfHashesWrongFalsely : Prop := fnPlacesOfHashesRow.holds Try.pinned (OpenSpec.ofChange fnPlacesOfHashesWrong)

/-- 'laws.FnExactRetrieveValue': WHATEVER THE INPUT: true; the input reads as it did. -/
def fnExactRetrieveValueSpec : ChangeSpec := { name := "fnExactRetrieveValue", fn := fun _ => fun
  | [d1, d2] => { results := [.lit (.bool true)], args := [d1, d2] }
  | _ => none }
def fnExactRetrieveValueRow : OpenClaim := { program := "ytmiekfffaaagpaa", sum := "4d778587c28b656c6795ed578eef47b4bc83c02bd81cff2e71ce7f8452f14670", func := "loop.example/g01097/laws.FnExactRetrieveValue", spec := "fnExactRetrieveValue", unfollowed := true, recurses := true, apart := false }
def FnExactRetrieveValueSaid : Prop := fnExactRetrieveValueRow.holds Try.pinned (OpenSpec.ofChange fnExactRetrieveValueSpec)

/-- ITS FALSE NEIGHBOUR: 'it returns false'. Refute it at one input. -/
def fnExactRetrieveValueWrong : ChangeSpec := { name := "fnExactRetrieveValue", fn := fun _ => fun
  | [d1, d2] => { results := [.lit (.bool false)], args := [d1, d2] }
  | _ => none }
def FnExactRetrieveValueWrongFalsely : Prop := fnExactRetrieveValueRow.holds Try.pinned (OpenSpec.ofChange fnExactRetrieveValueWrong)

/-- 'laws.FnExactPrintHas': WHATEVER THE INPUT: true; the input reads as it did. -/
def fnExactPrintHasSpec : ChangeSpec := { name := "fnExactPrintHas", fn := fun _ => fun
  | [d1, d2] => { results := [.lit (.bool true)], args := [d1, d2] }
  | _ => none }
def fnExactPrintHasRow : OpenClaim := { program := "ytmiekfffaaagpaa", sum := "4d778587c28b656c6795ed578eef47b4bc83c02bd81cff2e71ce7f8452f14670", func := "loop.example/g01097/laws.FnExactPrintHas", spec := "fnExactPrintHas", unfollowed := true, recurses := true, apart := false }
def FnExactPrintHasSaid : Prop := fnExactPrintHasRow.holds Try.pinned (OpenSpec.ofChange fnExactPrintHasSpec)

/-- ITS FALSE NEIGHBOUR: 'it returns false'. Refute it at one input. -/
def fnExactPrintHasWrong : ChangeSpec := { name := "fnExactPrintHas", fn := fun _ => fun
  | [d1, d2] => { results := [.lit (.bool false)], args := [d1, d2] }
  | _ => none }
def FnExactPrintHasWrongFalsely : Prop := fnExactPrintHasRow.holds Try.pinned (OpenSpec.ofChange fnExactPrintHasWrong)

/-- 'laws.FnExactIsSystem': WHATEVER THE INPUT: true; the input reads as it did. -/
def fnExactIsSystemSpec : ChangeSpec := { name := "fnExactIsSystem", fn := fun _ => fun
  | [d] => { results := [.lit (.bool true)], args := [d] }
  | _ => none }
def fnExactIsSystemRow : OpenClaim := { program := "ytmiekfffaaagpaa", sum := "4d778587c28b656c6795ed578eef47b4bc83c02bd81cff2e71ce7f8452f14670", func := "loop.example/g01097/laws.FnExactIsSystem", spec := "fnExactIsSystem", unfollowed := true, recurses := true, apart := false }
def FnExactIsSystemSaid : Prop := fnExactIsSystemRow.holds Try.pinned (OpenSpec.ofChange fnExactIsSystemSpec)

/-- ITS FALSE NEIGHBOUR: 'it returns false'. Refute it at one input. -/
def fnExactIsSystemWrong : ChangeSpec := { name := "fnExactIsSystem", fn := fun _ => fun
  | [d] => { results := [.lit (.bool false)], args := [d] }
  | _ => none }
def FnExactIsSystemWrongFalsely : Prop := fnExactIsSystemRow.holds Try.pinned (OpenSpec.ofChange fnExactIsSystemWrong)

/-- 'laws.FnExactBloomHas': WHATEVER THE INPUT: true; the input reads as it did. -/
def fnExactBloomHasSpec : ChangeSpec := { name := "fnExactBloomHas", fn := fun _ => fun
  | [d1, d2] => { results := [.lit (.bool true)], args := [d1, d2] }
  | _ => none }
def fnExactBloomHasRow : OpenClaim := { program := "ytmiekfffaaagpaa", sum := "4d778587c28b656c6795ed578eef47b4bc83c02bd81cff2e71ce7f8452f14670", func := "loop.example/g01097/laws.FnExactBloomHas", spec := "fnExactBloomHas", apart := false }
def FnExactBloomHasSaid : Prop := fnExactBloomHasRow.holds Try.pinned (OpenSpec.ofChange fnExactBloomHasSpec)

/-- ITS FALSE NEIGHBOUR: 'it returns false'. Refute it at one input. -/
def fnExactBloomHasWrong : ChangeSpec := { name := "fnExactBloomHas", fn := fun _ => fun
  | [d1, d2] => { results := [.lit (.bool false)], args := [d1, d2] }
  | _ => none }
def FnExactBloomHasWrongFalsely : Prop := fnExactBloomHasRow.holds Try.pinned (OpenSpec.ofChange fnExactBloomHasWrong)

/-- 'laws.FnExactBloomOfCounting': WHATEVER THE INPUT: true; the input reads as it did. -/
def fnExactBloomOfCountingSpec : ChangeSpec := { name := "fnExactBloomOfCounting", fn := fun _ => fun
  | [d] => { results := [.lit (.bool true)], args := [d] }
  | _ => none }
def fnExactBloomOfCountingRow : OpenClaim := { program := "ytmiekfffaaagpaa", sum := "4d778587c28b656c6795ed578eef47b4bc83c02bd81cff2e71ce7f8452f14670", func := "loop.example/g01097/laws.FnExactBloomOfCounting", spec := "fnExactBloomOfCounting", unfollowed := true, recurses := true, apart := false }
def FnExactBloomOfCountingSaid : Prop := fnExactBloomOfCountingRow.holds Try.pinned (OpenSpec.ofChange fnExactBloomOfCountingSpec)

/-- ITS FALSE NEIGHBOUR: 'it returns false'. Refute it at one input. -/
def fnExactBloomOfCountingWrong : ChangeSpec := { name := "fnExactBloomOfCounting", fn := fun _ => fun
  | [d] => { results := [.lit (.bool false)], args := [d] }
  | _ => none }
def FnExactBloomOfCountingWrongFalsely : Prop := fnExactBloomOfCountingRow.holds Try.pinned (OpenSpec.ofChange fnExactBloomOfCountingWrong)

/-- 'laws.FnExactUnionBloom': WHATEVER THE INPUT: true; the input reads as it did. -/
def fnExactUnionBloomSpec : ChangeSpec := { name := "fnExactUnionBloom", fn := fun _ => fun
  | [d1, d2] => { results := [.lit (.bool true)], args := [d1, d2] }
  | _ => none }
def fnExactUnionBloomRow : OpenClaim := { program := "ytmiekfffaaagpaa", sum := "4d778587c28b656c6795ed578eef47b4bc83c02bd81cff2e71ce7f8452f14670", func := "loop.example/g01097/laws.FnExactUnionBloom", spec := "fnExactUnionBloom", unfollowed := true, recurses := true, apart := false }
def FnExactUnionBloomSaid : Prop := fnExactUnionBloomRow.holds Try.pinned (OpenSpec.ofChange fnExactUnionBloomSpec)

/-- ITS FALSE NEIGHBOUR: 'it returns false'. Refute it at one input. -/
def fnExactUnionBloomWrong : ChangeSpec := { name := "fnExactUnionBloom", fn := fun _ => fun
  | [d1, d2] => { results := [.lit (.bool false)], args := [d1, d2] }
  | _ => none }
def FnExactUnionBloomWrongFalsely : Prop := fnExactUnionBloomRow.holds Try.pinned (OpenSpec.ofChange fnExactUnionBloomWrong)

/-- 'laws.FnExactCountingAdd': WHATEVER THE INPUT: true; the input reads as it did. -/
def fnExactCountingAddSpec : ChangeSpec := { name := "fnExactCountingAdd", fn := fun _ => fun
  | [d1, d2] => { results := [.lit (.bool true)], args := [d1, d2] }
  | _ => none }
def fnExactCountingAddRow : OpenClaim := { program := "ytmiekfffaaagpaa", sum := "4d778587c28b656c6795ed578eef47b4bc83c02bd81cff2e71ce7f8452f14670", func := "loop.example/g01097/laws.FnExactCountingAdd", spec := "fnExactCountingAdd", unfollowed := true, recurses := true, apart := false }
def FnExactCountingAddSaid : Prop := fnExactCountingAddRow.holds Try.pinned (OpenSpec.ofChange fnExactCountingAddSpec)

/-- ITS FALSE NEIGHBOUR: 'it returns false'. Refute it at one input. -/
def fnExactCountingAddWrong : ChangeSpec := { name := "fnExactCountingAdd", fn := fun _ => fun
  | [d1, d2] => { results := [.lit (.bool false)], args := [d1, d2] }
  | _ => none }
def FnExactCountingAddWrongFalsely : Prop := fnExactCountingAddRow.holds Try.pinned (OpenSpec.ofChange fnExactCountingAddWrong)

/-- 'laws.FnExactCountingOf': WHATEVER THE INPUT: true; the input reads as it did. -/
def fnExactCountingOfSpec : ChangeSpec := { name := "fnExactCountingOf", fn := fun _ => fun
  | [d1, d2, d3, d4] => { results := [.lit (.bool true)], args := [d1, d2, d3, d4] }
  | _ => none }
def fnExactCountingOfRow : OpenClaim := { program := "ytmiekfffaaagpaa", sum := "4d778587c28b656c6795ed578eef47b4bc83c02bd81cff2e71ce7f8452f14670", func := "loop.example/g01097/laws.FnExactCountingOf", spec := "fnExactCountingOf", apart := false }
def FnExactCountingOfSaid : Prop := fnExactCountingOfRow.holds Try.pinned (OpenSpec.ofChange fnExactCountingOfSpec)

/-- ITS FALSE NEIGHBOUR: 'it returns false'. Refute it at one input. -/
def fnExactCountingOfWrong : ChangeSpec := { name := "fnExactCountingOf", fn := fun _ => fun
  | [d1, d2, d3, d4] => { results := [.lit (.bool false)], args := [d1, d2, d3, d4] }
  | _ => none }
def FnExactCountingOfWrongFalsely : Prop := fnExactCountingOfRow.holds Try.pinned (OpenSpec.ofChange fnExactCountingOfWrong)

/-- 'laws.FnExactFirstDifference': WHATEVER THE INPUT: true; the input reads as it did. -/
def fnExactFirstDifferenceSpec : ChangeSpec := { name := "fnExactFirstDifference", fn := fun _ => fun
  | [d1, d2, d3] => { results := [.lit (.bool true)], args := [d1, d2, d3] }
  | _ => none }
def fnExactFirstDifferenceRow : OpenClaim := { program := "ytmiekfffaaagpaa", sum := "4d778587c28b656c6795ed578eef47b4bc83c02bd81cff2e71ce7f8452f14670", func := "loop.example/g01097/laws.FnExactFirstDifference", spec := "fnExactFirstDifference", unfollowed := true, recurses := true, apart := false }
def FnExactFirstDifferenceSaid : Prop := fnExactFirstDifferenceRow.holds Try.pinned (OpenSpec.ofChange fnExactFirstDifferenceSpec)

/-- ITS FALSE NEIGHBOUR: 'it returns false'. Refute it at one input. -/
def fnExactFirstDifferenceWrong : ChangeSpec := { name := "fnExactFirstDifference", fn := fun _ => fun
  | [d1, d2, d3] => { results := [.lit (.bool false)], args := [d1, d2, d3] }
  | _ => none }
def FnExactFirstDifferenceWrongFalsely : Prop := fnExactFirstDifferenceRow.holds Try.pinned (OpenSpec.ofChange fnExactFirstDifferenceWrong)

/- THE SECOND FORM. 'bulk': how many values and letters a reading holds, each counted each time it is reached (what is shared counts as often as it is met; a slice's spare places count too). A statement '..UptoSaid' is the law's where the arguments, and the package variables that the reading takes, are together of bulk at most 1048576: NARROWER than '..Said'. Prove '..Said' where nothing that the law and all that it calls make is longer than what came in: it says more and counts as full. Else prove '..UptoSaid'. A law counts once. -/
mutual
def uptoBulk {H : Type} : DataW H → Nat
  | .lit (.string bytes) => bytes.length + 1
  | .lit _ => 1
  | .nil => 1
  | .ptr d => uptoBulk d + 1
  | .slice elems spare => uptoBulkAll elems + uptoBulkAll spare + 1
  | .agg parts => uptoBulkAll parts + 1
  | .iface _ d => uptoBulk d + 1
  | .map entries => uptoBulkEntries entries + 1
  | .held _ => 1
def uptoBulkAll {H : Type} : List (DataW H) → Nat
  | [] => 0
  | d :: r => uptoBulk d + uptoBulkAll r
def uptoBulkEntries {H : Type} : List (Lit × DataW H) → Nat
  | [] => 0
  | x :: r => uptoBulkEntry x + uptoBulkEntries r
def uptoBulkEntry {H : Type} : Lit × DataW H → Nat
  | (.string bytes, d) => bytes.length + uptoBulk d + 1
  | (_, d) => uptoBulk d + 1
 end
def uptoSmall : (H : Type) → List (DataW H) → Bool := fun _ ds => decide (uptoBulkAll ds ≤ 1048576)
def OpenSpec.upto (s : _root_.Go.ChangeSpec) : _root_.Go.OpenSpec := { _root_.Go.OpenSpec.ofChange s with cond := some uptoSmall }

/-- 'laws.FnExactBloomLoad', WHERE WHAT IT READS IS OF BULK AT MOST 1048576: true; the input reads as it did. -/
def fnExactBloomLoadUptoRow : OpenClaim := { program := "ytmiekfffaaagpaa", sum := "4d778587c28b656c6795ed578eef47b4bc83c02bd81cff2e71ce7f8452f14670", func := "loop.example/g01097/laws.FnExactBloomLoad", spec := "fnExactBloomLoad", apart := false, narrowed := true }
def FnExactBloomLoadUptoSaid : Prop := fnExactBloomLoadUptoRow.holds Try.pinned (OpenSpec.upto fnExactBloomLoadSpec)

/-- 'laws.FnExactAddTables', WHERE WHAT IT READS IS OF BULK AT MOST 1048576: true; the input reads as it did. -/
def fnExactAddTablesUptoRow : OpenClaim := { program := "ytmiekfffaaagpaa", sum := "4d778587c28b656c6795ed578eef47b4bc83c02bd81cff2e71ce7f8452f14670", func := "loop.example/g01097/laws.FnExactAddTables", spec := "fnExactAddTables", unfollowed := true, recurses := true, apart := false, narrowed := true }
def FnExactAddTablesUptoSaid : Prop := fnExactAddTablesUptoRow.holds Try.pinned (OpenSpec.upto fnExactAddTablesSpec)

/-- 'laws.FnPlacesOfHashes', WHERE WHAT IT READS IS OF BULK AT MOST 1048576: true; the input reads as it did. -/
def fnPlacesOfHashesUptoRow : OpenClaim := { program := "ytmiekfffaaagpaa", sum := "4d778587c28b656c6795ed578eef47b4bc83c02bd81cff2e71ce7f8452f14670", func := "loop.example/g01097/laws.FnPlacesOfHashes", spec := "fnPlacesOfHashes", apart := false, narrowed := true }
def FnPlacesOfHashesUptoSaid : Prop := fnPlacesOfHashesUptoRow.holds Try.pinned (OpenSpec.upto fnPlacesOfHashesSpec)

/-- 'laws.FnExactRetrieveValue', WHERE WHAT IT READS IS OF BULK AT MOST 1048576: true; the input reads as it did. -/
def fnExactRetrieveValueUptoRow : OpenClaim := { program := "ytmiekfffaaagpaa", sum := "4d778587c28b656c6795ed578eef47b4bc83c02bd81cff2e71ce7f8452f14670", func := "loop.example/g01097/laws.FnExactRetrieveValue", spec := "fnExactRetrieveValue", unfollowed := true, recurses := true, apart := false, narrowed := true }
def FnExactRetrieveValueUptoSaid : Prop := fnExactRetrieveValueUptoRow.holds Try.pinned (OpenSpec.upto fnExactRetrieveValueSpec)

/-- 'laws.FnExactPrintHas', WHERE WHAT IT READS IS OF BULK AT MOST 1048576: true; the input reads as it did. -/
def fnExactPrintHasUptoRow : OpenClaim := { program := "ytmiekfffaaagpaa", sum := "4d778587c28b656c6795ed578eef47b4bc83c02bd81cff2e71ce7f8452f14670", func := "loop.example/g01097/laws.FnExactPrintHas", spec := "fnExactPrintHas", unfollowed := true, recurses := true, apart := false, narrowed := true }
def FnExactPrintHasUptoSaid : Prop := fnExactPrintHasUptoRow.holds Try.pinned (OpenSpec.upto fnExactPrintHasSpec)

/-- 'laws.FnExactIsSystem', WHERE WHAT IT READS IS OF BULK AT MOST 1048576: true; the input reads as it did. -/
def fnExactIsSystemUptoRow : OpenClaim := { program := "ytmiekfffaaagpaa", sum := "4d778587c28b656c6795ed578eef47b4bc83c02bd81cff2e71ce7f8452f14670", func := "loop.example/g01097/laws.FnExactIsSystem", spec := "fnExactIsSystem", unfollowed := true, recurses := true, apart := false, narrowed := true }
def FnExactIsSystemUptoSaid : Prop := fnExactIsSystemUptoRow.holds Try.pinned (OpenSpec.upto fnExactIsSystemSpec)

/-- 'laws.FnExactBloomHas', WHERE WHAT IT READS IS OF BULK AT MOST 1048576: true; the input reads as it did. -/
def fnExactBloomHasUptoRow : OpenClaim := { program := "ytmiekfffaaagpaa", sum := "4d778587c28b656c6795ed578eef47b4bc83c02bd81cff2e71ce7f8452f14670", func := "loop.example/g01097/laws.FnExactBloomHas", spec := "fnExactBloomHas", apart := false, narrowed := true }
def FnExactBloomHasUptoSaid : Prop := fnExactBloomHasUptoRow.holds Try.pinned (OpenSpec.upto fnExactBloomHasSpec)

/-- 'laws.FnExactBloomOfCounting', WHERE WHAT IT READS IS OF BULK AT MOST 1048576: true; the input reads as it did. -/
def fnExactBloomOfCountingUptoRow : OpenClaim := { program := "ytmiekfffaaagpaa", sum := "4d778587c28b656c6795ed578eef47b4bc83c02bd81cff2e71ce7f8452f14670", func := "loop.example/g01097/laws.FnExactBloomOfCounting", spec := "fnExactBloomOfCounting", unfollowed := true, recurses := true, apart := false, narrowed := true }
def FnExactBloomOfCountingUptoSaid : Prop := fnExactBloomOfCountingUptoRow.holds Try.pinned (OpenSpec.upto fnExactBloomOfCountingSpec)

/-- 'laws.FnExactUnionBloom', WHERE WHAT IT READS IS OF BULK AT MOST 1048576: true; the input reads as it did. -/
def fnExactUnionBloomUptoRow : OpenClaim := { program := "ytmiekfffaaagpaa", sum := "4d778587c28b656c6795ed578eef47b4bc83c02bd81cff2e71ce7f8452f14670", func := "loop.example/g01097/laws.FnExactUnionBloom", spec := "fnExactUnionBloom", unfollowed := true, recurses := true, apart := false, narrowed := true }
def FnExactUnionBloomUptoSaid : Prop := fnExactUnionBloomUptoRow.holds Try.pinned (OpenSpec.upto fnExactUnionBloomSpec)

/-- 'laws.FnExactCountingAdd', WHERE WHAT IT READS IS OF BULK AT MOST 1048576: true; the input reads as it did. -/
def fnExactCountingAddUptoRow : OpenClaim := { program := "ytmiekfffaaagpaa", sum := "4d778587c28b656c6795ed578eef47b4bc83c02bd81cff2e71ce7f8452f14670", func := "loop.example/g01097/laws.FnExactCountingAdd", spec := "fnExactCountingAdd", unfollowed := true, recurses := true, apart := false, narrowed := true }
def FnExactCountingAddUptoSaid : Prop := fnExactCountingAddUptoRow.holds Try.pinned (OpenSpec.upto fnExactCountingAddSpec)

/-- 'laws.FnExactCountingOf', WHERE WHAT IT READS IS OF BULK AT MOST 1048576: true; the input reads as it did. -/
def fnExactCountingOfUptoRow : OpenClaim := { program := "ytmiekfffaaagpaa", sum := "4d778587c28b656c6795ed578eef47b4bc83c02bd81cff2e71ce7f8452f14670", func := "loop.example/g01097/laws.FnExactCountingOf", spec := "fnExactCountingOf", apart := false, narrowed := true }
def FnExactCountingOfUptoSaid : Prop := fnExactCountingOfUptoRow.holds Try.pinned (OpenSpec.upto fnExactCountingOfSpec)

/-- 'laws.FnExactFirstDifference', WHERE WHAT IT READS IS OF BULK AT MOST 1048576: true; the input reads as it did. -/
def fnExactFirstDifferenceUptoRow : OpenClaim := { program := "ytmiekfffaaagpaa", sum := "4d778587c28b656c6795ed578eef47b4bc83c02bd81cff2e71ce7f8452f14670", func := "loop.example/g01097/laws.FnExactFirstDifference", spec := "fnExactFirstDifference", unfollowed := true, recurses := true, apart := false, narrowed := true }
def FnExactFirstDifferenceUptoSaid : Prop := fnExactFirstDifferenceUptoRow.holds Try.pinned (OpenSpec.upto fnExactFirstDifferenceSpec)

end Rows
end Go.Proofs.Ytmiekfffaaagpaa
