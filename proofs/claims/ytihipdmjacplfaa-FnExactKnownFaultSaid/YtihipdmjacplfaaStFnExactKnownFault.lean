/- The pure statement of the law FnExactKnownFault, over numbers and lists; the conditions are those of Go's own kinds. -/
import Derived.Test.YtihipdmjacplfaaPFnExactKnownFaultx7
namespace Go.Proofs.Ytihipdmjacplfaa.PFnExactKnownFault
open Go.RowKit Go.Proofs.YtihipdmjacplfaaW.PrintWords Go.Proofs.YtihipdmjacplfaaW.PrintLast Go.Proofs.YtihipdmjacplfaaW.PrintMore
def ok69 (x : S69) : Prop := (Lit.int .i64 x.f0).wf = true ∧ (Lit.int .i64 x.f1).wf = true ∧ (Lit.int .i64 x.f2).wf = true ∧ (Lit.int .i64 x.f3).wf = true
def laws_FnExactKnownFault.Pure : Prop := ∀ (l0 : (List S69)) (l1 : (List Int)), l0.length ≤ maxLen → l0.length * 32 ≤ 140737488351232 → (∀ y ∈ l0, ok69 y) → l1.length ≤ maxLen → l1.length * 8 ≤ 140737488351232 → (∀ y ∈ l1, (Lit.int .i64 y).wf = true) → ∃ k, laws_FnExactKnownFault.f k l0 l1 = some true
end Go.Proofs.Ytihipdmjacplfaa.PFnExactKnownFault
