/-
  No cell of these rows narrows 'for every input' (looked for: loops, veiled, ifaces, maps, wideKeys, modest, calm, conditions, laid).
  DERIVED. THE GIVEN ROWS OF THIS SEAT. 5 by the template 'for every input the law returns true; each argument reads behind the call as it read before'; 0 by the template 'total and deterministic' (their statements: YtdjpegkogfeofaaTotals.lean).
  GIVEN WITH THE SEED: the statements are not yours to turn. If you find one false, say at which input.
  Laid BY PROGRAM, IN A SANDBOX (cutbox-rows.mjs): the forced cells as the released guide's own fill.sh prints them over the translation d235c102ba29a456… (all of the seat's roots in one cut). By AI agents, Wed Nov 11 2026. No macro, syntax, notation, axiom, sorry.
-/
import Derived.Test.YtdjpegkogfeofaaChecked
import GoSem.Claim
import GoSem.ClaimJoined
import GoSem.ClaimMapViews
import Derived.JoinedTies
import Derived.KernelRfl
namespace Go.Proofs.Ytdjpegkogfeofaa
/- THE CELL 'sum', in the pinned program and in every row, IS THE sha256 OF THE DUMP (.gsa) THAT YtdjpegkogfeofaaProg.lean LOADS. Nothing in Lean hashes anything: it is a label: what it is worth is what the hold of that sum in a sandbox is worth. -/
noncomputable def Try.pinned : Pinned := { name := "ytdjpegkogfeofaa", sum := "d235c102ba29a45666d4c4e4d97071d20340130fd9699d23fd34f39a570c8538", checked := Try.checked }
namespace Rows
def none {H : Type} : Left H := { results := [], args := [] }

/-- 'laws.FnTextsOverLetters': WHATEVER THE INPUT: true; the input reads as it did. -/
def fnTextsOverLettersSpec : ChangeSpec := { name := "fnTextsOverLetters", fn := fun _ => fun
  | [d1, d2] => { results := [.lit (.bool true)], args := [d1, d2] }
  | _ => none }
def fnTextsOverLettersRow : OpenClaim := { program := "ytdjpegkogfeofaa", sum := "d235c102ba29a45666d4c4e4d97071d20340130fd9699d23fd34f39a570c8538", func := "loop.example/g01097/laws.FnTextsOverLetters", spec := "fnTextsOverLetters", apart := false }
def FnTextsOverLettersSaid : Prop := fnTextsOverLettersRow.holds Try.pinned (OpenSpec.ofChange fnTextsOverLettersSpec)

/-- ITS FALSE NEIGHBOUR: 'it returns false'. Refute it at one input. -/
def fnTextsOverLettersWrong : ChangeSpec := { name := "fnTextsOverLetters", fn := fun _ => fun
  | [d1, d2] => { results := [.lit (.bool false)], args := [d1, d2] }
  | _ => none }
def FnTextsOverLettersWrongFalsely : Prop := fnTextsOverLettersRow.holds Try.pinned (OpenSpec.ofChange fnTextsOverLettersWrong)

/-- 'laws.FnPlacesOfHashes': WHATEVER THE INPUT: true; the input reads as it did. -/
def fnPlacesOfHashesSpec : ChangeSpec := { name := "fnPlacesOfHashes", fn := fun _ => fun
  | [d1, d2] => { results := [.lit (.bool true)], args := [d1, d2] }
  | _ => none }
def fnPlacesOfHashesRow : OpenClaim := { program := "ytdjpegkogfeofaa", sum := "d235c102ba29a45666d4c4e4d97071d20340130fd9699d23fd34f39a570c8538", func := "loop.example/g01097/laws.FnPlacesOfHashes", spec := "fnPlacesOfHashes", apart := false }
def FnPlacesOfHashesSaid : Prop := fnPlacesOfHashesRow.holds Try.pinned (OpenSpec.ofChange fnPlacesOfHashesSpec)

/-- ITS FALSE NEIGHBOUR: 'it returns false'. Refute it at one input. -/
def fnPlacesOfHashesWrong : ChangeSpec := { name := "fnPlacesOfHashes", fn := fun _ => fun
  | [d1, d2] => { results := [.lit (.bool false)], args := [d1, d2] }
  | _ => none }
def FnPlacesOfHashesWrongFalsely : Prop := fnPlacesOfHashesRow.holds Try.pinned (OpenSpec.ofChange fnPlacesOfHashesWrong)

/-- 'laws.FnNeighboursOfRank': WHATEVER THE INPUT: true; the input reads as it did. -/
def fnNeighboursOfRankSpec : ChangeSpec := { name := "fnNeighboursOfRank", fn := fun _ => fun
  | [d1, d2] => { results := [.lit (.bool true)], args := [d1, d2] }
  | _ => none }
def fnNeighboursOfRankRow : OpenClaim := { program := "ytdjpegkogfeofaa", sum := "d235c102ba29a45666d4c4e4d97071d20340130fd9699d23fd34f39a570c8538", func := "loop.example/g01097/laws.FnNeighboursOfRank", spec := "fnNeighboursOfRank", apart := false }
def FnNeighboursOfRankSaid : Prop := fnNeighboursOfRankRow.holds Try.pinned (OpenSpec.ofChange fnNeighboursOfRankSpec)

/-- ITS FALSE NEIGHBOUR: 'it returns false'. Refute it at one input. -/
def fnNeighboursOfRankWrong : ChangeSpec := { name := "fnNeighboursOfRank", fn := fun _ => fun
  | [d1, d2] => { results := [.lit (.bool false)], args := [d1, d2] }
  | _ => none }
def FnNeighboursOfRankWrongFalsely : Prop := fnNeighboursOfRankRow.holds Try.pinned (OpenSpec.ofChange fnNeighboursOfRankWrong)

/-- 'laws.FnSparseCounts': WHATEVER THE INPUT: true; the input reads as it did. -/
def fnSparseCountsSpec : ChangeSpec := { name := "fnSparseCounts", fn := fun _ => fun
  | [d1, d2] => { results := [.lit (.bool true)], args := [d1, d2] }
  | _ => none }
def fnSparseCountsRow : OpenClaim := { program := "ytdjpegkogfeofaa", sum := "d235c102ba29a45666d4c4e4d97071d20340130fd9699d23fd34f39a570c8538", func := "loop.example/g01097/laws.FnSparseCounts", spec := "fnSparseCounts", apart := false }
def FnSparseCountsSaid : Prop := fnSparseCountsRow.holds Try.pinned (OpenSpec.ofChange fnSparseCountsSpec)

/-- ITS FALSE NEIGHBOUR: 'it returns false'. Refute it at one input. -/
def fnSparseCountsWrong : ChangeSpec := { name := "fnSparseCounts", fn := fun _ => fun
  | [d1, d2] => { results := [.lit (.bool false)], args := [d1, d2] }
  | _ => none }
def FnSparseCountsWrongFalsely : Prop := fnSparseCountsRow.holds Try.pinned (OpenSpec.ofChange fnSparseCountsWrong)

/-- 'laws.FnSparseParts': WHATEVER THE INPUT: true; the input reads as it did. -/
def fnSparsePartsSpec : ChangeSpec := { name := "fnSparseParts", fn := fun _ => fun
  | [d1, d2] => { results := [.lit (.bool true)], args := [d1, d2] }
  | _ => none }
def fnSparsePartsRow : OpenClaim := { program := "ytdjpegkogfeofaa", sum := "d235c102ba29a45666d4c4e4d97071d20340130fd9699d23fd34f39a570c8538", func := "loop.example/g01097/laws.FnSparseParts", spec := "fnSparseParts", unfollowed := true, recurses := true, apart := false }
def FnSparsePartsSaid : Prop := fnSparsePartsRow.holds Try.pinned (OpenSpec.ofChange fnSparsePartsSpec)

/-- ITS FALSE NEIGHBOUR: 'it returns false'. Refute it at one input. -/
def fnSparsePartsWrong : ChangeSpec := { name := "fnSparseParts", fn := fun _ => fun
  | [d1, d2] => { results := [.lit (.bool false)], args := [d1, d2] }
  | _ => none }
def FnSparsePartsWrongFalsely : Prop := fnSparsePartsRow.holds Try.pinned (OpenSpec.ofChange fnSparsePartsWrong)

/- THE SECOND FORM. 'bulk': how many values and letters a reading holds, each counted each time it is reached (what is shared counts as often as it is met; a slice's spare places count too). A statement '..UptoSaid' is the law's where the arguments, and the package variables that the reading takes, are together of bulk at most 1048576: NARROWER than '..Said'. Prove '..Said' where nothing that the law and all that it calls make is longer than what came in: it says more and counts as full. Else prove '..UptoSaid'. A law counts once. -/
mutual
def uptoBulk {H : Type} : DataW H → Nat
  | .lit (.string bytes) => bytes.length + 1
  | .lit _ => 1
  | .nil => 1
  | .ptr d => uptoBulk d + 1
  | .slice elems spare => uptoBulkAll elems + uptoBulkAll spare + 1
  | .agg parts => uptoBulkAll parts + 1
  | .iface _ d => uptoBulk d + 1
  | .map entries => uptoBulkEntries entries + 1
  | .held _ => 1
def uptoBulkAll {H : Type} : List (DataW H) → Nat
  | [] => 0
  | d :: r => uptoBulk d + uptoBulkAll r
def uptoBulkEntries {H : Type} : List (Lit × DataW H) → Nat
  | [] => 0
  | x :: r => uptoBulkEntry x + uptoBulkEntries r
def uptoBulkEntry {H : Type} : Lit × DataW H → Nat
  | (.string bytes, d) => bytes.length + uptoBulk d + 1
  | (_, d) => uptoBulk d + 1
 end
def uptoSmall : (H : Type) → List (DataW H) → Bool := fun _ ds => decide (uptoBulkAll ds ≤ 1048576)
def OpenSpec.upto (s : _root_.Go.ChangeSpec) : _root_.Go.OpenSpec := { _root_.Go.OpenSpec.ofChange s with cond := some uptoSmall }

/-- 'laws.FnTextsOverLetters', WHERE WHAT IT READS IS OF BULK AT MOST 1048576: true; the input reads as it did. -/
def fnTextsOverLettersUptoRow : OpenClaim := { program := "ytdjpegkogfeofaa", sum := "d235c102ba29a45666d4c4e4d97071d20340130fd9699d23fd34f39a570c8538", func := "loop.example/g01097/laws.FnTextsOverLetters", spec := "fnTextsOverLetters", apart := false, narrowed := true }
def FnTextsOverLettersUptoSaid : Prop := fnTextsOverLettersUptoRow.holds Try.pinned (OpenSpec.upto fnTextsOverLettersSpec)

/-- 'laws.FnPlacesOfHashes', WHERE WHAT IT READS IS OF BULK AT MOST 1048576: true; the input reads as it did. -/
def fnPlacesOfHashesUptoRow : OpenClaim := { program := "ytdjpegkogfeofaa", sum := "d235c102ba29a45666d4c4e4d97071d20340130fd9699d23fd34f39a570c8538", func := "loop.example/g01097/laws.FnPlacesOfHashes", spec := "fnPlacesOfHashes", apart := false, narrowed := true }
def FnPlacesOfHashesUptoSaid : Prop := fnPlacesOfHashesUptoRow.holds Try.pinned (OpenSpec.upto fnPlacesOfHashesSpec)

/-- 'laws.FnNeighboursOfRank', WHERE WHAT IT READS IS OF BULK AT MOST 1048576: true; the input reads as it did. -/
def fnNeighboursOfRankUptoRow : OpenClaim := { program := "ytdjpegkogfeofaa", sum := "d235c102ba29a45666d4c4e4d97071d20340130fd9699d23fd34f39a570c8538", func := "loop.example/g01097/laws.FnNeighboursOfRank", spec := "fnNeighboursOfRank", apart := false, narrowed := true }
def FnNeighboursOfRankUptoSaid : Prop := fnNeighboursOfRankUptoRow.holds Try.pinned (OpenSpec.upto fnNeighboursOfRankSpec)

/-- 'laws.FnSparseCounts', WHERE WHAT IT READS IS OF BULK AT MOST 1048576: true; the input reads as it did. -/
def fnSparseCountsUptoRow : OpenClaim := { program := "ytdjpegkogfeofaa", sum := "d235c102ba29a45666d4c4e4d97071d20340130fd9699d23fd34f39a570c8538", func := "loop.example/g01097/laws.FnSparseCounts", spec := "fnSparseCounts", apart := false, narrowed := true }
def FnSparseCountsUptoSaid : Prop := fnSparseCountsUptoRow.holds Try.pinned (OpenSpec.upto fnSparseCountsSpec)

/-- 'laws.FnSparseParts', WHERE WHAT IT READS IS OF BULK AT MOST 1048576: true; the input reads as it did. -/
def fnSparsePartsUptoRow : OpenClaim := { program := "ytdjpegkogfeofaa", sum := "d235c102ba29a45666d4c4e4d97071d20340130fd9699d23fd34f39a570c8538", func := "loop.example/g01097/laws.FnSparseParts", spec := "fnSparseParts", unfollowed := true, recurses := true, apart := false, narrowed := true }
def FnSparsePartsUptoSaid : Prop := fnSparsePartsUptoRow.holds Try.pinned (OpenSpec.upto fnSparsePartsSpec)

end Rows
end Go.Proofs.Ytdjpegkogfeofaa
