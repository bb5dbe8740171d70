-- made by wip/tools/trimwords.py over the kit's print, for this claim
import Derived.Test.YtohfcpekgdbobaaTWWords
namespace Go.Proofs.YtohfcpekgdbobaaW.PrintWords
open Go.RowKit
section
variable {P : Program} {ops : Array Oper} {rest : List Oper} {o : Oper} {a : Act} {Q : Exit → Act → World → Prop} {W : World}
end
end Go.Proofs.YtohfcpekgdbobaaW.PrintWords
