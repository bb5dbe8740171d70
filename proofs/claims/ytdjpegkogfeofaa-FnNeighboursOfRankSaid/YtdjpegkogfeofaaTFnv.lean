-- made by wip/tools/trimwords.py over the kit's print, for this claim
import Derived.Test.YtdjpegkogfeofaaTWWords
import Derived.Test.YtdjpegkogfeofaaTWLast
import Derived.Test.YtdjpegkogfeofaaTWMore
namespace Go.Proofs.YtdjpegkogfeofaaW.PrintWords
open Go.RowKit Go.Proofs.YtdjpegkogfeofaaW.PrintLast
section
variable {P : Program} {ops : Array Oper} {rest : List Oper} {o : Oper} {a : Act} {Q : Exit → Act → World → Prop} {W : World}
end
end Go.Proofs.YtdjpegkogfeofaaW.PrintWords
