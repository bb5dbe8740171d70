-- made by wip/tools/trimwords.py over the kit's print, for this claim
import Derived.Test.YtippedfjmlkpiaaTWWords
import Derived.Test.YtippedfjmlkpiaaTWLast
import Derived.Test.YtippedfjmlkpiaaTWMore
namespace Go.Proofs.YtippedfjmlkpiaaW.PrintWords
open Go.RowKit Go.Proofs.YtippedfjmlkpiaaW.PrintLast
section
variable {P : Program} {ops : Array Oper} {rest : List Oper} {o : Oper} {a : Act} {Q : Exit → Act → World → Prop} {W : World}
end
end Go.Proofs.YtippedfjmlkpiaaW.PrintWords
