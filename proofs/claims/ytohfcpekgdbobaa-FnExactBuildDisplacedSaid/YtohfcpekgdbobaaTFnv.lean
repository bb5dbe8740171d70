-- made by wip/tools/trimwords.py over the kit's print, for this claim
import Derived.Test.YtohfcpekgdbobaaTWWords
import Derived.Test.YtohfcpekgdbobaaTWLast
import Derived.Test.YtohfcpekgdbobaaTWMore
namespace Go.Proofs.YtohfcpekgdbobaaW.PrintWords
open Go.RowKit Go.Proofs.YtohfcpekgdbobaaW.PrintLast
section
variable {P : Program} {ops : Array Oper} {rest : List Oper} {o : Oper} {a : Act} {Q : Exit → Act → World → Prop} {W : World}
end
end Go.Proofs.YtohfcpekgdbobaaW.PrintWords
