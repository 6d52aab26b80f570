import Derived.Test.YtbjeemlbjkmhiaaDoorProg
import Derived.RangeFuncNested
import Derived.RangeFuncBound
import Derived.RangeFuncCalls
import Derived.RangeFuncLeaves
import Derived.RangeFuncOwn
import Derived.Shelf.Abstract
import Derived.Shelf.RegionOpen
import Derived.OwnWalkIn
import Derived.TacticsInMore
import Derived.LoopNIn
import Derived.LoopIn
import Derived.Outline
import Derived.Lib.Hide
import Derived.WalkSpells
import Derived.Maps.OwnIn
import Derived.Maps.OwnOps
import Derived.Test.YtbjeemlbjkmhiaaDoorRound
import Derived.Test.YtbjeemlbjkmhiaaDoorRoundN
import Derived.Below
import Derived.Deep.Draws
import Derived.Deep.AppendLies
import Derived.Maps.AppendAt
import Derived.OwnWalk
import Derived.Laws.BytesArg
import Derived.Laws.MakeOwn
import Derived.Laws.OwnMore
import Derived.Deep.OwnRows
import Derived.Tactics
import Derived.Lib.ConvBytes
import Derived.Laws.Slices
import Derived.WalkKit
import Derived.KernelRfl
import Derived.RowKit3
import Derived.Deep.LoopGhost
import Derived.Deep.QuietTactic
import Derived.BigQuiet
import Derived.WideLaws
import Derived.Deep.DeepCutAuto
import Derived.Deep.CutBlock
import Derived.Deep.RegionHeld3
import Derived.Laws.Rows
import Derived.Lib.AppendStr
import Derived.ArgAppend
import Derived.Laws.IdiomCopy
import Derived.OrdersHeld
import Derived.Laws.BitsLemmas
import Derived.RowKit
import Derived.Test.YtbjeemlbjkmhiaaDoorAid
import Derived.Test.YtbjeemlbjkmhiaaDoorSq
import Derived.Test.YtbjeemlbjkmhiaaDoorFld
import Derived.Test.YtbjeemlbjkmhiaaDoorArr
import Derived.Test.YtbjeemlbjkmhiaaDoorArc
import Derived.Test.YtbjeemlbjkmhiaaDoorRat
import Derived.Test.YtbjeemlbjkmhiaaDoorWWords
import Derived.Test.YtbjeemlbjkmhiaaDoorWLast
import Derived.Test.YtbjeemlbjkmhiaaDoorWTab
import Derived.Test.YtbjeemlbjkmhiaaDoorWQPut
import Derived.Test.YtbjeemlbjkmhiaaDoorWApart
import Derived.Test.YtbjeemlbjkmhiaaDoorWArr
import Derived.Test.YtbjeemlbjkmhiaaDoorWZeros
import Derived.Test.YtbjeemlbjkmhiaaDoorWFoot
import Derived.Test.YtbjeemlbjkmhiaaDoorWKept
import Derived.Test.YtbjeemlbjkmhiaaDoorWShare
import Derived.Test.YtbjeemlbjkmhiaaDoorWN
import Derived.Test.YtbjeemlbjkmhiaaDoorWFootNe
import Derived.Test.YtbjeemlbjkmhiaaDoorWAt
import Derived.Test.YtbjeemlbjkmhiaaDoorWRepsOne
import Derived.Test.YtbjeemlbjkmhiaaDoorWGuard
import Derived.Test.YtbjeemlbjkmhiaaDoorWNEv
import Derived.Test.YtbjeemlbjkmhiaaDoorWMore
namespace Go.Proofs.YtbjeemlbjkmhiaaDoor.Q
open Go.RowKit Go.Proofs.YtbjeemlbjkmhiaaDoorW.PrintWords Go.Proofs.YtbjeemlbjkmhiaaDoorW.PrintLast Go.Proofs.YtbjeemlbjkmhiaaDoorW.PrintMore
attribute [local go_sem] max2_int min2_int max_two min_two max_three min_three max_four min_four   -- for this text's walks alone
set_option linter.unusedVariables false
set_option linter.unusedSimpArgs false



def errW : Option Int → Value
 | none => .nilIface
 | some c => .iface 0 (.int .i64 c)
theorem errW_none : errW none = .nilIface := rfl
theorem errW_some (c : Int) : errW (some c) = .iface 0 (.int .i64 c) := rfl

theorem info35 : (Tryd.prog.info? 35).map (fun i => (i.zero, i.size, i.bytes)) = some (some (.slice none 0 0), 1, 24) := by kernel_rfl
theorem info48 : (Tryd.prog.info? 48).map (fun i => (i.zero, i.size, i.bytes)) = some (some (.int .u64 0), 1, 8) := by kernel_rfl
theorem info115 : (Tryd.prog.info? 115).map (fun i => (i.zero, i.size, i.bytes)) = some (some (.int .u32 0), 1, 4) := by kernel_rfl
def rd_L3 (xs : List (List Int)) (i : Int) : (List Int) := xs.getD i.toNat ([] : List Int)
theorem at_L3 {w : World} {A : Option Addr} {n : Nat} {xs : List (List Int)} (h : Kd.C (Kd.slice 48 (Kd.int .u64)) w A n xs) (i : Int) (h0 : 0 ≤ i) (h1 : i < n) : ∃ ad A0 c0, A = some ad ∧ w.cell? (ad.add i.toNat) = some (.slice A0 (rd_L3 xs i).length c0) ∧ (rd_L3 xs i).length ≤ c0 ∧ (Kd.int .u64).C w A0 (rd_L3 xs i).length (rd_L3 xs i) := by
 obtain ⟨ad, c, e, _, hK, hc0⟩ := Kd.C_get h ([] : List Int) i h0 h1
 have hc : ∀ j u, c[j]? = some u → w.cell? (ad.add (i.toNat * 1 + j)) = some u := hc0
 obtain ⟨A0, c0, rfl, l0, g0⟩ := hK
 exact ⟨ad, A0, c0, e, by have hq := hc 0 _ rfl; rwa [Nat.mul_one, Nat.add_zero] at hq, l0, g0⟩

end Go.Proofs.YtbjeemlbjkmhiaaDoor.Q
