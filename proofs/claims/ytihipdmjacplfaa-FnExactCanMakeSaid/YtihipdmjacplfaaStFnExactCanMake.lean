/- The pure statement of the law FnExactCanMake, over numbers and lists; the conditions are those of Go's own kinds. -/
import Derived.Test.YtihipdmjacplfaaPFnExactCanMakex10
namespace Go.Proofs.Ytihipdmjacplfaa.PFnExactCanMake
open Go.RowKit Go.Proofs.YtihipdmjacplfaaW.PrintWords Go.Proofs.YtihipdmjacplfaaW.PrintLast Go.Proofs.YtihipdmjacplfaaW.PrintMore
def ok69 (x : S69) : Prop := (Lit.int .i64 x.f0).wf = true ∧ (Lit.int .i64 x.f1).wf = true ∧ (Lit.int .i64 x.f2).wf = true ∧ (Lit.int .i64 x.f3).wf = true
def laws_FnExactCanMake.Pure : Prop := ∀ (l0 : (List S69)) (l1 : (List Int)) (a2 : Int), l0.length ≤ maxLen → l0.length * 32 ≤ 140737488351232 → (∀ y ∈ l0, ok69 y) → l1.length ≤ maxLen → l1.length * 8 ≤ 140737488351232 → (∀ y ∈ l1, (Lit.int .i64 y).wf = true) → (Lit.int .i64 a2).wf = true → ∃ k, laws_FnExactCanMake.f k l0 l1 a2 = some true
end Go.Proofs.Ytihipdmjacplfaa.PFnExactCanMake
