/- The pure statement of the law FnExactSuiteFault, over numbers and lists; the conditions are those of Go's own kinds. -/
import Derived.Test.YtfggalllhcohaaaPFnExactSuiteFaultx1
namespace Go.Proofs.Ytfggalllhcohaaa.PFnExactSuiteFault
open Go.RowKit Go.Proofs.YtfggalllhcohaaaW.PrintWords Go.Proofs.YtfggalllhcohaaaW.PrintLast Go.Proofs.YtfggalllhcohaaaW.PrintMore
def laws_FnExactSuiteFault.Pure : Prop := ∀ (a0_0 : Int) (a0_1 : Int) (a0_2 : Int) (a0_3 : Int), (Lit.int .i64 a0_0).wf = true → (Lit.int .i64 a0_1).wf = true → (Lit.int .i64 a0_2).wf = true → (Lit.int .i64 a0_3).wf = true → ∃ k, laws_FnExactSuiteFault.f k a0_0 a0_1 a0_2 a0_3 = some true
end Go.Proofs.Ytfggalllhcohaaa.PFnExactSuiteFault
