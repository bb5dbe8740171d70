-- made by wip/tools/trimwords.py over the kit's print, for this claim
import Derived.Test.YtllaofiopnhdgaaTWWords
import Derived.Test.YtllaofiopnhdgaaTWLast
import Derived.Test.YtllaofiopnhdgaaTWMore
namespace Go.Proofs.YtllaofiopnhdgaaW.PrintWords
open Go.RowKit Go.Proofs.YtllaofiopnhdgaaW.PrintLast
section
variable {P : Program} {ops : Array Oper} {rest : List Oper} {o : Oper} {a : Act} {Q : Exit → Act → World → Prop} {W : World}
end
end Go.Proofs.YtllaofiopnhdgaaW.PrintWords
