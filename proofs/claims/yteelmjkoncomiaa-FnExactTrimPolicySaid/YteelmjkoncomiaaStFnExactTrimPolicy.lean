/- The pure statement of the law FnExactTrimPolicy, over numbers and lists; the conditions are those of Go's own kinds. -/
import Derived.Test.YteelmjkoncomiaaPFnExactTrimPolicyx12
namespace Go.Proofs.Yteelmjkoncomiaa.PFnExactTrimPolicy
open Go.RowKit Go.Proofs.YteelmjkoncomiaaW.PrintWords Go.Proofs.YteelmjkoncomiaaW.PrintLast Go.Proofs.YteelmjkoncomiaaW.PrintMore
def ok111 (x : S111) : Prop := (Lit.int .i64 x.f0).wf = true ∧ (Lit.int .i64 x.f1).wf = true
def ok113 (x : S113) : Prop := (Lit.int .i64 x.f0.f0).wf = true ∧ (Lit.int .i64 x.f0.f1).wf = true ∧ (Lit.int .i64 x.f1.f0).wf = true ∧ (Lit.int .i64 x.f1.f1).wf = true ∧ (Lit.int .i64 x.f2.f0).wf = true ∧ (Lit.int .i64 x.f2.f1).wf = true ∧ (Lit.int .i64 x.f3.f0).wf = true ∧ (Lit.int .i64 x.f3.f1).wf = true ∧ (Lit.int .i64 x.f4).wf = true
def ok133 (x : S133) : Prop := (Lit.int .i64 x.f0.f0.f0).wf = true ∧ (Lit.int .i64 x.f0.f0.f1).wf = true ∧ (Lit.int .i64 x.f0.f1.f0).wf = true ∧ (Lit.int .i64 x.f0.f1.f1).wf = true ∧ (Lit.int .i64 x.f0.f2.f0).wf = true ∧ (Lit.int .i64 x.f0.f2.f1).wf = true ∧ (Lit.int .i64 x.f0.f3.f0).wf = true ∧ (Lit.int .i64 x.f0.f3.f1).wf = true ∧ (Lit.int .i64 x.f0.f4).wf = true ∧ (Lit.int .i64 x.f1).wf = true ∧ (Lit.int .i64 x.f2).wf = true
def laws_FnExactTrimPolicy.Pure : Prop := ∀ (l0 : (List S133)), l0.length ≤ maxLen → l0.length * 88 ≤ 140737488351232 → (∀ y ∈ l0, ok133 y) → ∃ k, laws_FnExactTrimPolicy.f k l0 = some true
end Go.Proofs.Yteelmjkoncomiaa.PFnExactTrimPolicy
