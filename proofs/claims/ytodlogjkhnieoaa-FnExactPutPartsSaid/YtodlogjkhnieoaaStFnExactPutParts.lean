/- The pure statement of the law FnExactPutParts, over numbers and lists; the conditions are those of Go's own kinds. -/
import Derived.Test.YtodlogjkhnieoaaPFnExactPutPartsx4
namespace Go.Proofs.Ytodlogjkhnieoaa.PFnExactPutParts
open Go.RowKit Go.Proofs.YtodlogjkhnieoaaW.PrintWords Go.Proofs.YtodlogjkhnieoaaW.PrintLast Go.Proofs.YtodlogjkhnieoaaW.PrintMore
def laws_FnExactPutParts.Pure : Prop := ∀ (l0 : (List (List Int))), l0.length ≤ maxLen → l0.length * 24 ≤ 140737488351232 → (∀ y ∈ l0, y.length ≤ maxLen ∧ (∀ z ∈ y, (Lit.int .u8 z).wf = true)) → ∃ k, laws_FnExactPutParts.f k l0 = some true
end Go.Proofs.Ytodlogjkhnieoaa.PFnExactPutParts
