-- made by wip/tools/trimwords.py over the kit's print, for this claim
import Derived.WalkSpells
import Derived.WalkKit
namespace Go.Proofs.Ytohfcpekgdbobaa.Nils
open Go Go.RowKit
end Go.Proofs.Ytohfcpekgdbobaa.Nils
