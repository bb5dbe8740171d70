/-
  No cell of these rows narrows 'for every input' (looked for: loops, veiled, ifaces, maps, wideKeys, modest, calm, conditions, laid).
  DERIVED. THE GIVEN ROWS OF THIS SEAT. 7 by the template 'for every input the law returns true; each argument reads behind the call as it read before'; 0 by the template 'total and deterministic' (their statements: YtmccpdjmplijgaaTotals.lean).
  GIVEN WITH THE SEED: the statements are not yours to turn. If you find one false, say at which input.
  Laid BY PROGRAM, IN A SANDBOX (cutbox-rows.mjs): the forced cells as the released guide's own fill.sh prints them over the translation 5de982979889cef6… (all of the seat's roots in one cut). By AI agents, Wed Nov 11 2026. No macro, syntax, notation, axiom, sorry.
-/
import Derived.Test.YtmccpdjmplijgaaChecked
import GoSem.Claim
import GoSem.ClaimJoined
import GoSem.ClaimMapViews
import Derived.JoinedTies
import Derived.KernelRfl
namespace Go.Proofs.Ytmccpdjmplijgaa
/- THE CELL 'sum', in the pinned program and in every row, IS THE sha256 OF THE DUMP (.gsa) THAT YtmccpdjmplijgaaProg.lean LOADS. Nothing in Lean hashes anything: it is a label: what it is worth is what the hold of that sum in a sandbox is worth. -/
noncomputable def Try.pinned : Pinned := { name := "ytmccpdjmplijgaa", sum := "5de982979889cef6e3d65fefb7f8941cad15bd65a612a28b0ccd224d129bbe74", checked := Try.checked }
namespace Rows
def none {H : Type} : Left H := { results := [], args := [] }

/-- 'laws.FnExactIsCuckoo': WHATEVER THE INPUT: true; the input reads as it did. -/
def fnExactIsCuckooSpec : ChangeSpec := { name := "fnExactIsCuckoo", fn := fun _ => fun
  | [d] => { results := [.lit (.bool true)], args := [d] }
  | _ => none }
def fnExactIsCuckooRow : OpenClaim := { program := "ytmccpdjmplijgaa", sum := "5de982979889cef6e3d65fefb7f8941cad15bd65a612a28b0ccd224d129bbe74", func := "loop.example/g01097/laws.FnExactIsCuckoo", spec := "fnExactIsCuckoo", unfollowed := true, recurses := true, apart := false }
def FnExactIsCuckooSaid : Prop := fnExactIsCuckooRow.holds Try.pinned (OpenSpec.ofChange fnExactIsCuckooSpec)

/-- ITS FALSE NEIGHBOUR: 'it returns false'. Refute it at one input. -/
def fnExactIsCuckooWrong : ChangeSpec := { name := "fnExactIsCuckoo", fn := fun _ => fun
  | [d] => { results := [.lit (.bool false)], args := [d] }
  | _ => none }
def FnExactIsCuckooWrongFalsely : Prop := fnExactIsCuckooRow.holds Try.pinned (OpenSpec.ofChange fnExactIsCuckooWrong)

/-- 'laws.FnExactCuckooFind': WHATEVER THE INPUT: true; the input reads as it did. -/
def fnExactCuckooFindSpec : ChangeSpec := { name := "fnExactCuckooFind", fn := fun _ => fun
  | [d1, d2] => { results := [.lit (.bool true)], args := [d1, d2] }
  | _ => none }
def fnExactCuckooFindRow : OpenClaim := { program := "ytmccpdjmplijgaa", sum := "5de982979889cef6e3d65fefb7f8941cad15bd65a612a28b0ccd224d129bbe74", func := "loop.example/g01097/laws.FnExactCuckooFind", spec := "fnExactCuckooFind", unfollowed := true, recurses := true, apart := false }
def FnExactCuckooFindSaid : Prop := fnExactCuckooFindRow.holds Try.pinned (OpenSpec.ofChange fnExactCuckooFindSpec)

/-- ITS FALSE NEIGHBOUR: 'it returns false'. Refute it at one input. -/
def fnExactCuckooFindWrong : ChangeSpec := { name := "fnExactCuckooFind", fn := fun _ => fun
  | [d1, d2] => { results := [.lit (.bool false)], args := [d1, d2] }
  | _ => none }
def FnExactCuckooFindWrongFalsely : Prop := fnExactCuckooFindRow.holds Try.pinned (OpenSpec.ofChange fnExactCuckooFindWrong)

/-- 'laws.FnExactCuckooKeys': WHATEVER THE INPUT: true; the input reads as it did. -/
def fnExactCuckooKeysSpec : ChangeSpec := { name := "fnExactCuckooKeys", fn := fun _ => fun
  | [d] => { results := [.lit (.bool true)], args := [d] }
  | _ => none }
def fnExactCuckooKeysRow : OpenClaim := { program := "ytmccpdjmplijgaa", sum := "5de982979889cef6e3d65fefb7f8941cad15bd65a612a28b0ccd224d129bbe74", func := "loop.example/g01097/laws.FnExactCuckooKeys", spec := "fnExactCuckooKeys", unfollowed := true, recurses := true, apart := false }
def FnExactCuckooKeysSaid : Prop := fnExactCuckooKeysRow.holds Try.pinned (OpenSpec.ofChange fnExactCuckooKeysSpec)

/-- ITS FALSE NEIGHBOUR: 'it returns false'. Refute it at one input. -/
def fnExactCuckooKeysWrong : ChangeSpec := { name := "fnExactCuckooKeys", fn := fun _ => fun
  | [d] => { results := [.lit (.bool false)], args := [d] }
  | _ => none }
def FnExactCuckooKeysWrongFalsely : Prop := fnExactCuckooKeysRow.holds Try.pinned (OpenSpec.ofChange fnExactCuckooKeysWrong)

/-- 'laws.FnExactCuckooUnstash': WHATEVER THE INPUT: true; the input reads as it did. -/
def fnExactCuckooUnstashSpec : ChangeSpec := { name := "fnExactCuckooUnstash", fn := fun _ => fun
  | [d] => { results := [.lit (.bool true)], args := [d] }
  | _ => none }
def fnExactCuckooUnstashRow : OpenClaim := { program := "ytmccpdjmplijgaa", sum := "5de982979889cef6e3d65fefb7f8941cad15bd65a612a28b0ccd224d129bbe74", func := "loop.example/g01097/laws.FnExactCuckooUnstash", spec := "fnExactCuckooUnstash", unfollowed := true, recurses := true, apart := false }
def FnExactCuckooUnstashSaid : Prop := fnExactCuckooUnstashRow.holds Try.pinned (OpenSpec.ofChange fnExactCuckooUnstashSpec)

/-- ITS FALSE NEIGHBOUR: 'it returns false'. Refute it at one input. -/
def fnExactCuckooUnstashWrong : ChangeSpec := { name := "fnExactCuckooUnstash", fn := fun _ => fun
  | [d] => { results := [.lit (.bool false)], args := [d] }
  | _ => none }
def FnExactCuckooUnstashWrongFalsely : Prop := fnExactCuckooUnstashRow.holds Try.pinned (OpenSpec.ofChange fnExactCuckooUnstashWrong)

/-- 'laws.FnExactCuckooRemove': WHATEVER THE INPUT: true; the input reads as it did. -/
def fnExactCuckooRemoveSpec : ChangeSpec := { name := "fnExactCuckooRemove", fn := fun _ => fun
  | [d1, d2] => { results := [.lit (.bool true)], args := [d1, d2] }
  | _ => none }
def fnExactCuckooRemoveRow : OpenClaim := { program := "ytmccpdjmplijgaa", sum := "5de982979889cef6e3d65fefb7f8941cad15bd65a612a28b0ccd224d129bbe74", func := "loop.example/g01097/laws.FnExactCuckooRemove", spec := "fnExactCuckooRemove", unfollowed := true, recurses := true, apart := false }
def FnExactCuckooRemoveSaid : Prop := fnExactCuckooRemoveRow.holds Try.pinned (OpenSpec.ofChange fnExactCuckooRemoveSpec)

/-- ITS FALSE NEIGHBOUR: 'it returns false'. Refute it at one input. -/
def fnExactCuckooRemoveWrong : ChangeSpec := { name := "fnExactCuckooRemove", fn := fun _ => fun
  | [d1, d2] => { results := [.lit (.bool false)], args := [d1, d2] }
  | _ => none }
def FnExactCuckooRemoveWrongFalsely : Prop := fnExactCuckooRemoveRow.holds Try.pinned (OpenSpec.ofChange fnExactCuckooRemoveWrong)

/-- 'laws.FnExactCuckooInsert': WHATEVER THE INPUT: true; the input reads as it did. -/
def fnExactCuckooInsertSpec : ChangeSpec := { name := "fnExactCuckooInsert", fn := fun _ => fun
  | [d1, d2, d3] => { results := [.lit (.bool true)], args := [d1, d2, d3] }
  | _ => none }
def fnExactCuckooInsertRow : OpenClaim := { program := "ytmccpdjmplijgaa", sum := "5de982979889cef6e3d65fefb7f8941cad15bd65a612a28b0ccd224d129bbe74", func := "loop.example/g01097/laws.FnExactCuckooInsert", spec := "fnExactCuckooInsert", inPlace := ["slices.overlaps[string]"], unfollowed := true, recurses := true, apart := false }
def FnExactCuckooInsertSaid : Prop := fnExactCuckooInsertRow.holds Try.pinned (OpenSpec.ofChange fnExactCuckooInsertSpec)

/-- ITS FALSE NEIGHBOUR: 'it returns false'. Refute it at one input. -/
def fnExactCuckooInsertWrong : ChangeSpec := { name := "fnExactCuckooInsert", fn := fun _ => fun
  | [d1, d2, d3] => { results := [.lit (.bool false)], args := [d1, d2, d3] }
  | _ => none }
def FnExactCuckooInsertWrongFalsely : Prop := fnExactCuckooInsertRow.holds Try.pinned (OpenSpec.ofChange fnExactCuckooInsertWrong)

/-- 'laws.FnExactCuckooOf': WHATEVER THE INPUT: true; the input reads as it did. -/
def fnExactCuckooOfSpec : ChangeSpec := { name := "fnExactCuckooOf", fn := fun _ => fun
  | [d1, d2, d3, d4] => { results := [.lit (.bool true)], args := [d1, d2, d3, d4] }
  | _ => none }
def fnExactCuckooOfRow : OpenClaim := { program := "ytmccpdjmplijgaa", sum := "5de982979889cef6e3d65fefb7f8941cad15bd65a612a28b0ccd224d129bbe74", func := "loop.example/g01097/laws.FnExactCuckooOf", spec := "fnExactCuckooOf", inPlace := ["slices.overlaps[string]"], unfollowed := true, recurses := true, apart := false }
def FnExactCuckooOfSaid : Prop := fnExactCuckooOfRow.holds Try.pinned (OpenSpec.ofChange fnExactCuckooOfSpec)

/-- ITS FALSE NEIGHBOUR: 'it returns false'. Refute it at one input. -/
def fnExactCuckooOfWrong : ChangeSpec := { name := "fnExactCuckooOf", fn := fun _ => fun
  | [d1, d2, d3, d4] => { results := [.lit (.bool false)], args := [d1, d2, d3, d4] }
  | _ => none }
def FnExactCuckooOfWrongFalsely : Prop := fnExactCuckooOfRow.holds Try.pinned (OpenSpec.ofChange fnExactCuckooOfWrong)

/- THE SECOND FORM. 'bulk': how many values and letters a reading holds, each counted each time it is reached (what is shared counts as often as it is met; a slice's spare places count too). A statement '..UptoSaid' is the law's where the arguments, and the package variables that the reading takes, are together of bulk at most 1048576: NARROWER than '..Said'. Prove '..Said' where nothing that the law and all that it calls make is longer than what came in: it says more and counts as full. Else prove '..UptoSaid'. A law counts once. -/
mutual
def uptoBulk {H : Type} : DataW H → Nat
  | .lit (.string bytes) => bytes.length + 1
  | .lit _ => 1
  | .nil => 1
  | .ptr d => uptoBulk d + 1
  | .slice elems spare => uptoBulkAll elems + uptoBulkAll spare + 1
  | .agg parts => uptoBulkAll parts + 1
  | .iface _ d => uptoBulk d + 1
  | .map entries => uptoBulkEntries entries + 1
  | .held _ => 1
def uptoBulkAll {H : Type} : List (DataW H) → Nat
  | [] => 0
  | d :: r => uptoBulk d + uptoBulkAll r
def uptoBulkEntries {H : Type} : List (Lit × DataW H) → Nat
  | [] => 0
  | x :: r => uptoBulkEntry x + uptoBulkEntries r
def uptoBulkEntry {H : Type} : Lit × DataW H → Nat
  | (.string bytes, d) => bytes.length + uptoBulk d + 1
  | (_, d) => uptoBulk d + 1
 end
def uptoSmall : (H : Type) → List (DataW H) → Bool := fun _ ds => decide (uptoBulkAll ds ≤ 1048576)
def OpenSpec.upto (s : _root_.Go.ChangeSpec) : _root_.Go.OpenSpec := { _root_.Go.OpenSpec.ofChange s with cond := some uptoSmall }

/-- 'laws.FnExactIsCuckoo', WHERE WHAT IT READS IS OF BULK AT MOST 1048576: true; the input reads as it did. -/
def fnExactIsCuckooUptoRow : OpenClaim := { program := "ytmccpdjmplijgaa", sum := "5de982979889cef6e3d65fefb7f8941cad15bd65a612a28b0ccd224d129bbe74", func := "loop.example/g01097/laws.FnExactIsCuckoo", spec := "fnExactIsCuckoo", unfollowed := true, recurses := true, apart := false, narrowed := true }
def FnExactIsCuckooUptoSaid : Prop := fnExactIsCuckooUptoRow.holds Try.pinned (OpenSpec.upto fnExactIsCuckooSpec)

/-- 'laws.FnExactCuckooFind', WHERE WHAT IT READS IS OF BULK AT MOST 1048576: true; the input reads as it did. -/
def fnExactCuckooFindUptoRow : OpenClaim := { program := "ytmccpdjmplijgaa", sum := "5de982979889cef6e3d65fefb7f8941cad15bd65a612a28b0ccd224d129bbe74", func := "loop.example/g01097/laws.FnExactCuckooFind", spec := "fnExactCuckooFind", unfollowed := true, recurses := true, apart := false, narrowed := true }
def FnExactCuckooFindUptoSaid : Prop := fnExactCuckooFindUptoRow.holds Try.pinned (OpenSpec.upto fnExactCuckooFindSpec)

/-- 'laws.FnExactCuckooKeys', WHERE WHAT IT READS IS OF BULK AT MOST 1048576: true; the input reads as it did. -/
def fnExactCuckooKeysUptoRow : OpenClaim := { program := "ytmccpdjmplijgaa", sum := "5de982979889cef6e3d65fefb7f8941cad15bd65a612a28b0ccd224d129bbe74", func := "loop.example/g01097/laws.FnExactCuckooKeys", spec := "fnExactCuckooKeys", unfollowed := true, recurses := true, apart := false, narrowed := true }
def FnExactCuckooKeysUptoSaid : Prop := fnExactCuckooKeysUptoRow.holds Try.pinned (OpenSpec.upto fnExactCuckooKeysSpec)

/-- 'laws.FnExactCuckooUnstash', WHERE WHAT IT READS IS OF BULK AT MOST 1048576: true; the input reads as it did. -/
def fnExactCuckooUnstashUptoRow : OpenClaim := { program := "ytmccpdjmplijgaa", sum := "5de982979889cef6e3d65fefb7f8941cad15bd65a612a28b0ccd224d129bbe74", func := "loop.example/g01097/laws.FnExactCuckooUnstash", spec := "fnExactCuckooUnstash", unfollowed := true, recurses := true, apart := false, narrowed := true }
def FnExactCuckooUnstashUptoSaid : Prop := fnExactCuckooUnstashUptoRow.holds Try.pinned (OpenSpec.upto fnExactCuckooUnstashSpec)

/-- 'laws.FnExactCuckooRemove', WHERE WHAT IT READS IS OF BULK AT MOST 1048576: true; the input reads as it did. -/
def fnExactCuckooRemoveUptoRow : OpenClaim := { program := "ytmccpdjmplijgaa", sum := "5de982979889cef6e3d65fefb7f8941cad15bd65a612a28b0ccd224d129bbe74", func := "loop.example/g01097/laws.FnExactCuckooRemove", spec := "fnExactCuckooRemove", unfollowed := true, recurses := true, apart := false, narrowed := true }
def FnExactCuckooRemoveUptoSaid : Prop := fnExactCuckooRemoveUptoRow.holds Try.pinned (OpenSpec.upto fnExactCuckooRemoveSpec)

/-- 'laws.FnExactCuckooInsert', WHERE WHAT IT READS IS OF BULK AT MOST 1048576: true; the input reads as it did. -/
def fnExactCuckooInsertUptoRow : OpenClaim := { program := "ytmccpdjmplijgaa", sum := "5de982979889cef6e3d65fefb7f8941cad15bd65a612a28b0ccd224d129bbe74", func := "loop.example/g01097/laws.FnExactCuckooInsert", spec := "fnExactCuckooInsert", inPlace := ["slices.overlaps[string]"], unfollowed := true, recurses := true, apart := false, narrowed := true }
def FnExactCuckooInsertUptoSaid : Prop := fnExactCuckooInsertUptoRow.holds Try.pinned (OpenSpec.upto fnExactCuckooInsertSpec)

/-- 'laws.FnExactCuckooOf', WHERE WHAT IT READS IS OF BULK AT MOST 1048576: true; the input reads as it did. -/
def fnExactCuckooOfUptoRow : OpenClaim := { program := "ytmccpdjmplijgaa", sum := "5de982979889cef6e3d65fefb7f8941cad15bd65a612a28b0ccd224d129bbe74", func := "loop.example/g01097/laws.FnExactCuckooOf", spec := "fnExactCuckooOf", inPlace := ["slices.overlaps[string]"], unfollowed := true, recurses := true, apart := false, narrowed := true }
def FnExactCuckooOfUptoSaid : Prop := fnExactCuckooOfUptoRow.holds Try.pinned (OpenSpec.upto fnExactCuckooOfSpec)

end Rows
end Go.Proofs.Ytmccpdjmplijgaa
