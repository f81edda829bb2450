/- The pure statement of the law FnExactEncodeTerm, over numbers and lists; the conditions are those of Go's own kinds. -/
import Derived.Test.YtihipdmjacplfaaPFnExactEncodeTermx11
namespace Go.Proofs.Ytihipdmjacplfaa.PFnExactEncodeTerm
open Go.RowKit Go.Proofs.YtihipdmjacplfaaW.PrintWords Go.Proofs.YtihipdmjacplfaaW.PrintLast Go.Proofs.YtihipdmjacplfaaW.PrintMore
def ok69 (x : S69) : Prop := (Lit.int .i64 x.f0).wf = true ∧ (Lit.int .i64 x.f1).wf = true ∧ (Lit.int .i64 x.f2).wf = true ∧ (Lit.int .i64 x.f3).wf = true
def laws_FnExactEncodeTerm.Pure : Prop := ∀ (l0 : (List S69)) (a1 : Int), l0.length ≤ maxLen → l0.length * 32 ≤ 140737488351232 → (∀ y ∈ l0, ok69 y) → (Lit.int .i64 a1).wf = true → ∃ k, laws_FnExactEncodeTerm.f k l0 a1 = some true
end Go.Proofs.Ytihipdmjacplfaa.PFnExactEncodeTerm
