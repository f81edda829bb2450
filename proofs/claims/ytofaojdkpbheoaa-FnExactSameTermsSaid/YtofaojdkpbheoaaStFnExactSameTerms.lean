/- The pure statement of the law FnExactSameTerms, over numbers and lists; the conditions are those of Go's own kinds. -/
import Derived.Test.YtofaojdkpbheoaaPFnExactSameTermsx12
namespace Go.Proofs.Ytofaojdkpbheoaa.PFnExactSameTerms
open Go.RowKit Go.Proofs.YtofaojdkpbheoaaW.PrintWords Go.Proofs.YtofaojdkpbheoaaW.PrintLast Go.Proofs.YtofaojdkpbheoaaW.PrintMore
def ok36 (x : S36) : Prop := (Lit.int .i64 x.f0).wf = true ∧ (Lit.int .i64 x.f1).wf = true ∧ (Lit.int .i64 x.f2).wf = true ∧ (Lit.int .i64 x.f3).wf = true
def laws_FnExactSameTerms.Pure : Prop := ∀ (l0 : (List S36)) (a1 : Int) (l2 : (List S36)) (a3 : Int), l0.length ≤ maxLen → l0.length * 32 ≤ 140737488351232 → (∀ y ∈ l0, ok36 y) → (Lit.int .i64 a1).wf = true → l2.length ≤ maxLen → l2.length * 32 ≤ 140737488351232 → (∀ y ∈ l2, ok36 y) → (Lit.int .i64 a3).wf = true → ∃ k, laws_FnExactSameTerms.f k l0 a1 l2 a3 = some true
end Go.Proofs.Ytofaojdkpbheoaa.PFnExactSameTerms
