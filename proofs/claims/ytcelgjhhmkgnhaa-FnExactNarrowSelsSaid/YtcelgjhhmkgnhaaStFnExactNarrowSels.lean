/- The pure statement of the law FnExactNarrowSels, over numbers and lists; the conditions are those of Go's own kinds. -/
import Derived.Test.YtcelgjhhmkgnhaaPFnExactNarrowSelsx14
namespace Go.Proofs.Ytcelgjhhmkgnhaa.PFnExactNarrowSels
open Go.RowKit Go.Proofs.YtcelgjhhmkgnhaaW.PrintWords Go.Proofs.YtcelgjhhmkgnhaaW.PrintLast Go.Proofs.YtcelgjhhmkgnhaaW.PrintMore
def ok120 (x : S120) : Prop := (Lit.int .i64 x.f0).wf = true ∧ (Lit.int .i64 x.f1).wf = true
def ok122 (x : S122) : Prop := (Lit.int .i64 x.f0.f0).wf = true ∧ (Lit.int .i64 x.f0.f1).wf = true ∧ (Lit.int .i64 x.f1.f0).wf = true ∧ (Lit.int .i64 x.f1.f1).wf = true ∧ (Lit.int .i64 x.f2.f0).wf = true ∧ (Lit.int .i64 x.f2.f1).wf = true ∧ (Lit.int .i64 x.f3.f0).wf = true ∧ (Lit.int .i64 x.f3.f1).wf = true ∧ (Lit.int .i64 x.f4).wf = true
def laws_FnExactNarrowSels.Pure : Prop := ∀ (l0 : (List S122)) (l1 : (List S122)), l0.length ≤ maxLen → l0.length * 72 ≤ 140737488351232 → (∀ y ∈ l0, ok122 y) → l1.length ≤ maxLen → l1.length * 72 ≤ 140737488351232 → (∀ y ∈ l1, ok122 y) → ∃ k, laws_FnExactNarrowSels.f k l0 l1 = some true
end Go.Proofs.Ytcelgjhhmkgnhaa.PFnExactNarrowSels
