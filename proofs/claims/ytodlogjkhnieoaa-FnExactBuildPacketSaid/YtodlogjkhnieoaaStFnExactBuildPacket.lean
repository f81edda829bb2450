/- The pure statement of the law FnExactBuildPacket, over numbers and lists; the conditions are those of Go's own kinds. -/
import Derived.Test.YtodlogjkhnieoaaPFnExactBuildPacketx6
namespace Go.Proofs.Ytodlogjkhnieoaa.PFnExactBuildPacket
open Go.RowKit Go.Proofs.YtodlogjkhnieoaaW.PrintWords Go.Proofs.YtodlogjkhnieoaaW.PrintLast Go.Proofs.YtodlogjkhnieoaaW.PrintMore
def laws_FnExactBuildPacket.Pure : Prop := ∀ (a0_0 : Int) (a0_1 : Int) (a0_2 : Int) (a0_3 : Int) (a0_4 : Int) (a0_5 : Int) (l0_6 : (List Int)), (Lit.int .i64 a0_0).wf = true → (Lit.int .i64 a0_1).wf = true → (Lit.int .i64 a0_2).wf = true → (Lit.int .i64 a0_3).wf = true → (Lit.int .i64 a0_4).wf = true → (Lit.int .i64 a0_5).wf = true → l0_6.length ≤ maxLen → (∀ y ∈ l0_6, (Lit.int .u8 y).wf = true) → ∃ k, laws_FnExactBuildPacket.f k a0_0 a0_1 a0_2 a0_3 a0_4 a0_5 l0_6 = some true
end Go.Proofs.Ytodlogjkhnieoaa.PFnExactBuildPacket
