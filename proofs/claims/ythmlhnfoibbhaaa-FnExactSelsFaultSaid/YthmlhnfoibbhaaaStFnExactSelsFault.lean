/- The pure statement of the law FnExactSelsFault, over numbers and lists; the conditions are those of Go's own kinds. -/
import Derived.Test.YthmlhnfoibbhaaaPFnExactSelsFaultx6
namespace Go.Proofs.Ythmlhnfoibbhaaa.PFnExactSelsFault
open Go.RowKit Go.Proofs.YthmlhnfoibbhaaaW.PrintWords Go.Proofs.YthmlhnfoibbhaaaW.PrintLast Go.Proofs.YthmlhnfoibbhaaaW.PrintMore
def ok30 (x : S30) : Prop := (Lit.int .i64 x.f0).wf = true ∧ (Lit.int .i64 x.f1).wf = true
def ok32 (x : S32) : Prop := (Lit.int .i64 x.f0.f0).wf = true ∧ (Lit.int .i64 x.f0.f1).wf = true ∧ (Lit.int .i64 x.f1.f0).wf = true ∧ (Lit.int .i64 x.f1.f1).wf = true ∧ (Lit.int .i64 x.f2.f0).wf = true ∧ (Lit.int .i64 x.f2.f1).wf = true ∧ (Lit.int .i64 x.f3.f0).wf = true ∧ (Lit.int .i64 x.f3.f1).wf = true ∧ (Lit.int .i64 x.f4).wf = true
def laws_FnExactSelsFault.Pure : Prop := ∀ (l0 : (List S32)), l0.length ≤ maxLen → l0.length * 72 ≤ 140737488351232 → (∀ y ∈ l0, ok32 y) → ∃ k, laws_FnExactSelsFault.f k l0 = some true
end Go.Proofs.Ythmlhnfoibbhaaa.PFnExactSelsFault
