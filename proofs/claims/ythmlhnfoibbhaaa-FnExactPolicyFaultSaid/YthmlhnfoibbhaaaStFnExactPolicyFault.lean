/- The pure statement of the law FnExactPolicyFault, over numbers and lists; the conditions are those of Go's own kinds. -/
import Derived.Test.YthmlhnfoibbhaaaPFnExactPolicyFaultx7
namespace Go.Proofs.Ythmlhnfoibbhaaa.PFnExactPolicyFault
open Go.RowKit Go.Proofs.YthmlhnfoibbhaaaW.PrintWords Go.Proofs.YthmlhnfoibbhaaaW.PrintLast Go.Proofs.YthmlhnfoibbhaaaW.PrintMore
def ok30 (x : S30) : Prop := (Lit.int .i64 x.f0).wf = true ∧ (Lit.int .i64 x.f1).wf = true
def ok32 (x : S32) : Prop := (Lit.int .i64 x.f0.f0).wf = true ∧ (Lit.int .i64 x.f0.f1).wf = true ∧ (Lit.int .i64 x.f1.f0).wf = true ∧ (Lit.int .i64 x.f1.f1).wf = true ∧ (Lit.int .i64 x.f2.f0).wf = true ∧ (Lit.int .i64 x.f2.f1).wf = true ∧ (Lit.int .i64 x.f3.f0).wf = true ∧ (Lit.int .i64 x.f3.f1).wf = true ∧ (Lit.int .i64 x.f4).wf = true
def ok114 (x : S114) : Prop := (Lit.int .i64 x.f0.f0.f0).wf = true ∧ (Lit.int .i64 x.f0.f0.f1).wf = true ∧ (Lit.int .i64 x.f0.f1.f0).wf = true ∧ (Lit.int .i64 x.f0.f1.f1).wf = true ∧ (Lit.int .i64 x.f0.f2.f0).wf = true ∧ (Lit.int .i64 x.f0.f2.f1).wf = true ∧ (Lit.int .i64 x.f0.f3.f0).wf = true ∧ (Lit.int .i64 x.f0.f3.f1).wf = true ∧ (Lit.int .i64 x.f0.f4).wf = true ∧ (Lit.int .i64 x.f1).wf = true ∧ (Lit.int .i64 x.f2).wf = true
def laws_FnExactPolicyFault.Pure : Prop := ∀ (l0 : (List S114)), l0.length ≤ maxLen → l0.length * 88 ≤ 140737488351232 → (∀ y ∈ l0, ok114 y) → ∃ k, laws_FnExactPolicyFault.f k l0 = some true
end Go.Proofs.Ythmlhnfoibbhaaa.PFnExactPolicyFault
