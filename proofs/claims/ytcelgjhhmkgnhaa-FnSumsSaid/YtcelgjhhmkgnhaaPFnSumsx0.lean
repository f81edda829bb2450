-- Written by wip/tools/myprint.py of this claim's session, over the kit's print, round texts of its own: own text.
import Derived.Test.YtcelgjhhmkgnhaaProg
import Derived.Shelf.Abstract
import Derived.Below
import Derived.Deep.Draws
import Derived.Deep.AppendLies
import Derived.Maps.AppendAt
import Derived.OwnWalk
import Derived.Laws.BytesArg
import Derived.Laws.MakeOwn
import Derived.Laws.OwnMore
import Derived.Deep.OwnRows
import Derived.Tactics
import Derived.Lib.ConvBytes
import Derived.Laws.Slices
import Derived.WalkKit
import Derived.KernelRfl
import Derived.RowKit3
import Derived.Deep.LoopGhost
import Derived.Deep.QuietTactic
import Derived.BigQuiet
import Derived.WideLaws
import Derived.Deep.DeepCutAuto
import Derived.Deep.CutBlock
import Derived.Deep.RegionHeld3
import Derived.Laws.Rows
import Derived.Lib.AppendStr
import Derived.ArgAppend
import Derived.Laws.IdiomCopy
import Derived.OrdersHeld
import Derived.Laws.BitsLemmas
import Derived.RowKit
import Derived.Test.YtcelgjhhmkgnhaaWWords
import Derived.Test.YtcelgjhhmkgnhaaWLast
import Derived.Test.YtcelgjhhmkgnhaaWTab
import Derived.Test.YtcelgjhhmkgnhaaWFour
import Derived.Test.YtcelgjhhmkgnhaaWQPut
import Derived.Test.YtcelgjhhmkgnhaaWApart
import Derived.Test.YtcelgjhhmkgnhaaWArr
import Derived.Test.YtcelgjhhmkgnhaaWZeros
import Derived.Test.YtcelgjhhmkgnhaaWFoot
import Derived.Test.YtcelgjhhmkgnhaaWKept
import Derived.Test.YtcelgjhhmkgnhaaWShare
import Derived.Test.YtcelgjhhmkgnhaaWN
import Derived.Test.YtcelgjhhmkgnhaaWFootNe
import Derived.Test.YtcelgjhhmkgnhaaWAt
import Derived.Test.YtcelgjhhmkgnhaaWEqStruct
import Derived.Test.YtcelgjhhmkgnhaaWRepsOne
import Derived.Test.YtcelgjhhmkgnhaaWInv
import Derived.Test.YtcelgjhhmkgnhaaWInvWords
import Derived.Test.YtcelgjhhmkgnhaaWGuard
import Derived.Test.YtcelgjhhmkgnhaaWNEv
import Derived.Test.YtcelgjhhmkgnhaaWMore
namespace Go.Proofs.Ytcelgjhhmkgnhaa.PFnSums
open Go.RowKit Go.Proofs.YtcelgjhhmkgnhaaW.PrintWords Go.Proofs.YtcelgjhhmkgnhaaW.PrintLast Go.Proofs.YtcelgjhhmkgnhaaW.PrintMore
attribute [local go_sem] max2_int min2_int max_two min_two max_three min_three max_four min_four   -- for this text's walks alone
set_option linter.unusedVariables false
set_option linter.unusedSimpArgs false



def errW : Option Int → Value
  | none => .nilIface
  | some c => .iface 0 (.int .i64 c)
theorem errW_none : errW none = .nilIface := rfl
theorem errW_some (c : Int) : errW (some c) = .iface 0 (.int .i64 c) := rfl

theorem info2 : (Try.prog.info? 2).map (fun i => (i.zero, i.size, i.bytes)) = some (some (.int .i64 0), 1, 8) := by kernel_rfl
theorem info5 : (Try.prog.info? 5).map (fun i => (i.zero, i.size, i.bytes)) = some (some (.int .u8 0), 1, 1) := by kernel_rfl
-- the values' own types

end Go.Proofs.Ytcelgjhhmkgnhaa.PFnSums
