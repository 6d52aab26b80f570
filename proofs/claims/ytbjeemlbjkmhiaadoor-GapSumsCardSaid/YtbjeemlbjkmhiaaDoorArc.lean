/- Boxes kept; copying into an array. -/
import Derived.Test.YtbjeemlbjkmhiaaDoorArr
import Derived.ChangeKeysEq
import Derived.Laws.StructEq
namespace Go.Proofs.YtbjeemlbjkmhiaaDoor.Q
open Go.RowKit Go.Proofs.YtbjeemlbjkmhiaaDoorW.PrintWords Go.Proofs.YtbjeemlbjkmhiaaDoorW.PrintLast Go.Proofs.YtbjeemlbjkmhiaaDoorW.PrintMore
section
variable {P : Program} {ops : Array Oper} {rest : List Oper} {o : Oper} {a : Act} {Q : Exit → Act → World → Prop}
end
end Go.Proofs.YtbjeemlbjkmhiaaDoor.Q
