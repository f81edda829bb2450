/- The pure statement of the law FnExactTermsFault, over numbers and lists; the conditions are those of Go's own kinds. -/
import Derived.Test.YtihipdmjacplfaaPFnExactTermsFaultx7
namespace Go.Proofs.Ytihipdmjacplfaa.PFnExactTermsFault
open Go.RowKit Go.Proofs.YtihipdmjacplfaaW.PrintWords Go.Proofs.YtihipdmjacplfaaW.PrintLast Go.Proofs.YtihipdmjacplfaaW.PrintMore
def ok69 (x : S69) : Prop := (Lit.int .i64 x.f0).wf = true ∧ (Lit.int .i64 x.f1).wf = true ∧ (Lit.int .i64 x.f2).wf = true ∧ (Lit.int .i64 x.f3).wf = true
def laws_FnExactTermsFault.Pure : Prop := ∀ (l0 : (List S69)), l0.length ≤ maxLen → l0.length * 32 ≤ 140737488351232 → (∀ y ∈ l0, ok69 y) → ∃ k, laws_FnExactTermsFault.f k l0 = some true
end Go.Proofs.Ytihipdmjacplfaa.PFnExactTermsFault
