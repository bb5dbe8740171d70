-- made by wip/tools/trimwords.py over the kit's print, for this claim
import Derived.Maps.OwnSet
import Derived.WideKeyEntry
import Derived.WalkKit
import Derived.Test.YtgbpbhplehmedaaTFnv
namespace Go.Proofs.Ytgbpbhplehmedaa.Seen
open Go Go.RowKit Go.Maps
@[go_sem] theorem binOp_string_geq_ (t : TypeId) (a b : ByteArray) : binOp .geq t (.string a) (.string b) = pure (.bool !(Op.bytesLess a.toList b.toList)) := by simp [binOp, Op.stringOp]
end Go.Proofs.Ytgbpbhplehmedaa.Seen
