import Derived.Test.YtjjjoepnlhpjdaaDoorProg
import Derived.Below
import Derived.Deep.Draws
import Derived.Deep.AppendLies
import Derived.Maps.AppendAt
import Derived.OwnWalk
import Derived.Laws.BytesArg
import Derived.Laws.MakeOwn
import Derived.Laws.OwnMore
import Derived.Deep.OwnRows
import Derived.Tactics
import Derived.Lib.ConvBytes
import Derived.Laws.Slices
import Derived.WalkKit
import Derived.KernelRfl
import Derived.RowKit3
import Derived.Deep.LoopGhost
import Derived.Deep.QuietTactic
import Derived.BigQuiet
import Derived.WideLaws
import Derived.Deep.DeepCutAuto
import Derived.Deep.CutBlock
import Derived.Deep.RegionHeld3
import Derived.Laws.Rows
import Derived.Lib.AppendStr
import Derived.ArgAppend
import Derived.Laws.IdiomCopy
import Derived.OrdersHeld
import Derived.Laws.BitsLemmas
import Derived.RowKit
import Derived.Test.YtjjjoepnlhpjdaaDoorAid
import Derived.Test.YtjjjoepnlhpjdaaDoorSq
import Derived.Test.YtjjjoepnlhpjdaaDoorRat
import Derived.Test.YtjjjoepnlhpjdaaDoorSpl
import Derived.Test.YtjjjoepnlhpjdaaDoorWWords
import Derived.Test.YtjjjoepnlhpjdaaDoorWLast
import Derived.Test.YtjjjoepnlhpjdaaDoorWTab
import Derived.Test.YtjjjoepnlhpjdaaDoorWQPut
import Derived.Test.YtjjjoepnlhpjdaaDoorWApart
import Derived.Test.YtjjjoepnlhpjdaaDoorWArr
import Derived.Test.YtjjjoepnlhpjdaaDoorWZeros
import Derived.Test.YtjjjoepnlhpjdaaDoorWFoot
import Derived.Test.YtjjjoepnlhpjdaaDoorWKept
import Derived.Test.YtjjjoepnlhpjdaaDoorWShare
import Derived.Test.YtjjjoepnlhpjdaaDoorWN
import Derived.Test.YtjjjoepnlhpjdaaDoorWFootNe
import Derived.Test.YtjjjoepnlhpjdaaDoorWAt
import Derived.Test.YtjjjoepnlhpjdaaDoorWRepsOne
import Derived.Test.YtjjjoepnlhpjdaaDoorWGuard
import Derived.Test.YtjjjoepnlhpjdaaDoorWNEv
import Derived.Test.YtjjjoepnlhpjdaaDoorWMore
namespace Go.Proofs.YtjjjoepnlhpjdaaDoor.Q
open Go.RowKit Go.Proofs.YtjjjoepnlhpjdaaDoorW.PrintWords Go.Proofs.YtjjjoepnlhpjdaaDoorW.PrintLast Go.Proofs.YtjjjoepnlhpjdaaDoorW.PrintMore
attribute [local go_sem] max2_int min2_int max_two min_two max_three min_three max_four min_four   -- for this text's walks alone
set_option linter.unusedVariables false
set_option linter.unusedSimpArgs false



def errW : Option Int → Value
 | none => .nilIface
 | some c => .iface 0 (.int .i64 c)
theorem errW_none : errW none = .nilIface := rfl
theorem errW_some (c : Int) : errW (some c) = .iface 0 (.int .i64 c) := rfl

theorem info5 : (Tryd.prog.info? 5).map (fun i => (i.zero, i.size, i.bytes)) = some (some (.int .u8 0), 1, 1) := by kernel_rfl
theorem info44 : (Tryd.prog.info? 44).map (fun i => (i.zero, i.size, i.bytes)) = some (some (.int .u32 0), 1, 4) := by kernel_rfl

end Go.Proofs.YtjjjoepnlhpjdaaDoor.Q
