-- made by wip/tools/trimwords.py over the kit's print, for this claim
import Derived.WalkSpells
import Derived.WalkKit
namespace Go.Proofs.Ytgbpbhplehmedaa.Nils
open Go Go.RowKit
theorem slice_eql_nil {P : Program} (w : World) (t e : TypeId) (a : Option Addr) (n c : Nat) (h : P.underlying t = some (.slice e)) : (binOp .eql t (.slice a n c) (.slice none 0 0)).run P w = .ok (.bool a.isNone) w := by
 simp only [binOp]
 simp [Op.equal, Op.maxDepth, Lib.run_equalIn_slice_nil w 9999 t e a n c 0 0 h]
end Go.Proofs.Ytgbpbhplehmedaa.Nils
