/-
  No cell of these rows narrows 'for every input' (looked for: loops, veiled, ifaces, maps, wideKeys, modest, calm, conditions, laid).
  DERIVED. THE GIVEN ROWS OF THIS SEAT. 3 by the template 'for every input the law returns true; each argument reads behind the call as it read before'; 0 by the template 'total and deterministic' (their statements: YthaicmebdgeamaaTotals.lean).
  GIVEN WITH THE SEED: the statements are not yours to turn. If you find one false, say at which input.
  Laid BY PROGRAM, IN A SANDBOX (cutbox-rows.mjs): the forced cells as the released guide's own fill.sh prints them over the translation 9f1b1c5b154e7e68… (all of the seat's roots in one cut). By AI agents, Wed Nov 11 2026. No macro, syntax, notation, axiom, sorry.
-/
import Derived.Test.YthaicmebdgeamaaChecked
import GoSem.Claim
import GoSem.ClaimJoined
import GoSem.ClaimMapViews
import Derived.JoinedTies
import Derived.KernelRfl
namespace Go.Proofs.Ythaicmebdgeamaa
/- THE CELL 'sum', in the pinned program and in every row, IS THE sha256 OF THE DUMP (.gsa) THAT YthaicmebdgeamaaProg.lean LOADS. Nothing in Lean hashes anything: it is a label: what it is worth is what the hold of that sum in a sandbox is worth. -/
noncomputable def Try.pinned : Pinned := { name := "ythaicmebdgeamaa", sum := "9f1b1c5b154e7e683fabaa506b9488cf63c54111d0eb2005960f773c0dcf2ad4", checked := Try.checked }
namespace Rows
def none {H : Type} : Left H := { results := [], args := [] }

/-- 'laws.FnExactCuckooUnstash': WHATEVER THE INPUT: true; the input reads as it did. -/
def fnExactCuckooUnstashSpec : ChangeSpec := { name := "fnExactCuckooUnstash", fn := fun _ => fun
  | [d] => { results := [.lit (.bool true)], args := [d] }
  | _ => none }
def fnExactCuckooUnstashRow : OpenClaim := { program := "ythaicmebdgeamaa", sum := "9f1b1c5b154e7e683fabaa506b9488cf63c54111d0eb2005960f773c0dcf2ad4", func := "loop.example/g01097/laws.FnExactCuckooUnstash", spec := "fnExactCuckooUnstash", unfollowed := true, recurses := true, apart := false }
def FnExactCuckooUnstashSaid : Prop := fnExactCuckooUnstashRow.holds Try.pinned (OpenSpec.ofChange fnExactCuckooUnstashSpec)

/-- ITS FALSE NEIGHBOUR: 'it returns false'. Refute it at one input. -/
def fnExactCuckooUnstashWrong : ChangeSpec := { name := "fnExactCuckooUnstash", fn := fun _ => fun
  | [d] => { results := [.lit (.bool false)], args := [d] }
  | _ => none }
def FnExactCuckooUnstashWrongFalsely : Prop := fnExactCuckooUnstashRow.holds Try.pinned (OpenSpec.ofChange fnExactCuckooUnstashWrong)

/-- 'laws.FnExactCuckooInsert': WHATEVER THE INPUT: true; the input reads as it did. -/
def fnExactCuckooInsertSpec : ChangeSpec := { name := "fnExactCuckooInsert", fn := fun _ => fun
  | [d1, d2, d3] => { results := [.lit (.bool true)], args := [d1, d2, d3] }
  | _ => none }
def fnExactCuckooInsertRow : OpenClaim := { program := "ythaicmebdgeamaa", sum := "9f1b1c5b154e7e683fabaa506b9488cf63c54111d0eb2005960f773c0dcf2ad4", func := "loop.example/g01097/laws.FnExactCuckooInsert", spec := "fnExactCuckooInsert", inPlace := ["slices.overlaps[string]"], unfollowed := true, recurses := true, apart := false }
def FnExactCuckooInsertSaid : Prop := fnExactCuckooInsertRow.holds Try.pinned (OpenSpec.ofChange fnExactCuckooInsertSpec)

/-- ITS FALSE NEIGHBOUR: 'it returns false'. Refute it at one input. -/
def fnExactCuckooInsertWrong : ChangeSpec := { name := "fnExactCuckooInsert", fn := fun _ => fun
  | [d1, d2, d3] => { results := [.lit (.bool false)], args := [d1, d2, d3] }
  | _ => none }
def FnExactCuckooInsertWrongFalsely : Prop := fnExactCuckooInsertRow.holds Try.pinned (OpenSpec.ofChange fnExactCuckooInsertWrong)

/-- 'laws.FnExactCuckooOf': WHATEVER THE INPUT: true; the input reads as it did. -/
def fnExactCuckooOfSpec : ChangeSpec := { name := "fnExactCuckooOf", fn := fun _ => fun
  | [d1, d2, d3, d4] => { results := [.lit (.bool true)], args := [d1, d2, d3, d4] }
  | _ => none }
def fnExactCuckooOfRow : OpenClaim := { program := "ythaicmebdgeamaa", sum := "9f1b1c5b154e7e683fabaa506b9488cf63c54111d0eb2005960f773c0dcf2ad4", func := "loop.example/g01097/laws.FnExactCuckooOf", spec := "fnExactCuckooOf", inPlace := ["slices.overlaps[string]"], unfollowed := true, recurses := true, apart := false }
def FnExactCuckooOfSaid : Prop := fnExactCuckooOfRow.holds Try.pinned (OpenSpec.ofChange fnExactCuckooOfSpec)

/-- ITS FALSE NEIGHBOUR: 'it returns false'. Refute it at one input. -/
def fnExactCuckooOfWrong : ChangeSpec := { name := "fnExactCuckooOf", fn := fun _ => fun
  | [d1, d2, d3, d4] => { results := [.lit (.bool false)], args := [d1, d2, d3, d4] }
  | _ => none }
def FnExactCuckooOfWrongFalsely : Prop := fnExactCuckooOfRow.holds Try.pinned (OpenSpec.ofChange fnExactCuckooOfWrong)

/- THE SECOND FORM. 'bulk': how many values and letters a reading holds, each counted each time it is reached (what is shared counts as often as it is met; a slice's spare places count too). A statement '..UptoSaid' is the law's where the arguments, and the package variables that the reading takes, are together of bulk at most 1048576: NARROWER than '..Said'. Prove '..Said' where nothing that the law and all that it calls make is longer than what came in: it says more and counts as full. Else prove '..UptoSaid'. A law counts once. -/
mutual
def uptoBulk {H : Type} : DataW H → Nat
  | .lit (.string bytes) => bytes.length + 1
  | .lit _ => 1
  | .nil => 1
  | .ptr d => uptoBulk d + 1
  | .slice elems spare => uptoBulkAll elems + uptoBulkAll spare + 1
  | .agg parts => uptoBulkAll parts + 1
  | .iface _ d => uptoBulk d + 1
  | .map entries => uptoBulkEntries entries + 1
  | .held _ => 1
def uptoBulkAll {H : Type} : List (DataW H) → Nat
  | [] => 0
  | d :: r => uptoBulk d + uptoBulkAll r
def uptoBulkEntries {H : Type} : List (Lit × DataW H) → Nat
  | [] => 0
  | x :: r => uptoBulkEntry x + uptoBulkEntries r
def uptoBulkEntry {H : Type} : Lit × DataW H → Nat
  | (.string bytes, d) => bytes.length + uptoBulk d + 1
  | (_, d) => uptoBulk d + 1
 end
def uptoSmall : (H : Type) → List (DataW H) → Bool := fun _ ds => decide (uptoBulkAll ds ≤ 1048576)
def OpenSpec.upto (s : _root_.Go.ChangeSpec) : _root_.Go.OpenSpec := { _root_.Go.OpenSpec.ofChange s with cond := some uptoSmall }

/-- 'laws.FnExactCuckooUnstash', WHERE WHAT IT READS IS OF BULK AT MOST 1048576: true; the input reads as it did. -/
def fnExactCuckooUnstashUptoRow : OpenClaim := { program := "ythaicmebdgeamaa", sum := "9f1b1c5b154e7e683fabaa506b9488cf63c54111d0eb2005960f773c0dcf2ad4", func := "loop.example/g01097/laws.FnExactCuckooUnstash", spec := "fnExactCuckooUnstash", unfollowed := true, recurses := true, apart := false, narrowed := true }
def FnExactCuckooUnstashUptoSaid : Prop := fnExactCuckooUnstashUptoRow.holds Try.pinned (OpenSpec.upto fnExactCuckooUnstashSpec)

/-- 'laws.FnExactCuckooInsert', WHERE WHAT IT READS IS OF BULK AT MOST 1048576: true; the input reads as it did. -/
def fnExactCuckooInsertUptoRow : OpenClaim := { program := "ythaicmebdgeamaa", sum := "9f1b1c5b154e7e683fabaa506b9488cf63c54111d0eb2005960f773c0dcf2ad4", func := "loop.example/g01097/laws.FnExactCuckooInsert", spec := "fnExactCuckooInsert", inPlace := ["slices.overlaps[string]"], unfollowed := true, recurses := true, apart := false, narrowed := true }
def FnExactCuckooInsertUptoSaid : Prop := fnExactCuckooInsertUptoRow.holds Try.pinned (OpenSpec.upto fnExactCuckooInsertSpec)

/-- 'laws.FnExactCuckooOf', WHERE WHAT IT READS IS OF BULK AT MOST 1048576: true; the input reads as it did. -/
def fnExactCuckooOfUptoRow : OpenClaim := { program := "ythaicmebdgeamaa", sum := "9f1b1c5b154e7e683fabaa506b9488cf63c54111d0eb2005960f773c0dcf2ad4", func := "loop.example/g01097/laws.FnExactCuckooOf", spec := "fnExactCuckooOf", inPlace := ["slices.overlaps[string]"], unfollowed := true, recurses := true, apart := false, narrowed := true }
def FnExactCuckooOfUptoSaid : Prop := fnExactCuckooOfUptoRow.holds Try.pinned (OpenSpec.upto fnExactCuckooOfSpec)

end Rows
end Go.Proofs.Ythaicmebdgeamaa
