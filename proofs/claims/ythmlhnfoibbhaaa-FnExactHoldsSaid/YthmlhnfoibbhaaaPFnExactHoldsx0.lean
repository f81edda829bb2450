-- Written by wip/tools/myprint.py of this claim's session, over the kit's print, round texts of its own: own text.
import Derived.Test.YthmlhnfoibbhaaaProg
import Derived.Shelf.Abstract
import Derived.Below
import Derived.Deep.Draws
import Derived.Deep.AppendLies
import Derived.Maps.AppendAt
import Derived.OwnWalk
import Derived.Laws.BytesArg
import Derived.Laws.MakeOwn
import Derived.Laws.OwnMore
import Derived.Deep.OwnRows
import Derived.Tactics
import Derived.Lib.ConvBytes
import Derived.Laws.Slices
import Derived.WalkKit
import Derived.KernelRfl
import Derived.RowKit3
import Derived.Deep.LoopGhost
import Derived.Deep.QuietTactic
import Derived.BigQuiet
import Derived.WideLaws
import Derived.Deep.DeepCutAuto
import Derived.Deep.CutBlock
import Derived.Deep.RegionHeld3
import Derived.Laws.Rows
import Derived.Lib.AppendStr
import Derived.ArgAppend
import Derived.Laws.IdiomCopy
import Derived.OrdersHeld
import Derived.Laws.BitsLemmas
import Derived.RowKit
import Derived.Test.YthmlhnfoibbhaaaWWords
import Derived.Test.YthmlhnfoibbhaaaWLast
import Derived.Test.YthmlhnfoibbhaaaWTab
import Derived.Test.YthmlhnfoibbhaaaWFour
import Derived.Test.YthmlhnfoibbhaaaWQPut
import Derived.Test.YthmlhnfoibbhaaaWApart
import Derived.Test.YthmlhnfoibbhaaaWArr
import Derived.Test.YthmlhnfoibbhaaaWZeros
import Derived.Test.YthmlhnfoibbhaaaWFoot
import Derived.Test.YthmlhnfoibbhaaaWKept
import Derived.Test.YthmlhnfoibbhaaaWShare
import Derived.Test.YthmlhnfoibbhaaaWN
import Derived.Test.YthmlhnfoibbhaaaWFootNe
import Derived.Test.YthmlhnfoibbhaaaWAt
import Derived.Test.YthmlhnfoibbhaaaWEqStruct
import Derived.Test.YthmlhnfoibbhaaaWRepsOne
import Derived.Test.YthmlhnfoibbhaaaWInv
import Derived.Test.YthmlhnfoibbhaaaWInvWords
import Derived.Test.YthmlhnfoibbhaaaWGuard
import Derived.Test.YthmlhnfoibbhaaaWNEv
import Derived.Test.YthmlhnfoibbhaaaWMore
namespace Go.Proofs.Ythmlhnfoibbhaaa.PFnExactHolds
open Go.RowKit Go.Proofs.YthmlhnfoibbhaaaW.PrintWords Go.Proofs.YthmlhnfoibbhaaaW.PrintLast Go.Proofs.YthmlhnfoibbhaaaW.PrintMore
attribute [local go_sem] max2_int min2_int max_two min_two max_three min_three max_four min_four   -- for this text's walks alone
set_option linter.unusedVariables false
set_option linter.unusedSimpArgs false



def errW : Option Int → Value
  | none => .nilIface
  | some c => .iface 0 (.int .i64 c)
theorem errW_none : errW none = .nilIface := rfl
theorem errW_some (c : Int) : errW (some c) = .iface 0 (.int .i64 c) := rfl

theorem info5 : (Try.prog.info? 5).map (fun i => (i.zero, i.size, i.bytes)) = some (some (.int .u8 0), 1, 1) := by kernel_rfl
-- the values' own types

end Go.Proofs.Ythmlhnfoibbhaaa.PFnExactHolds
