-- made by wip/tools/trimwords.py over the kit's print, for this claim
import Derived.Test.YthaicmebdgeamaaTWWords
import Derived.Test.YthaicmebdgeamaaTWLast
import Derived.Test.YthaicmebdgeamaaTWMore
namespace Go.Proofs.YthaicmebdgeamaaW.PrintWords
open Go.RowKit Go.Proofs.YthaicmebdgeamaaW.PrintLast
section
variable {P : Program} {ops : Array Oper} {rest : List Oper} {o : Oper} {a : Act} {Q : Exit → Act → World → Prop} {W : World}
end
end Go.Proofs.YthaicmebdgeamaaW.PrintWords
