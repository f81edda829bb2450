/- The pure statement of the law FnExactSwapRules, over numbers and lists; the conditions are those of Go's own kinds. -/
import Derived.Test.YtcelgjhhmkgnhaaPFnExactSwapRulesx15
namespace Go.Proofs.Ytcelgjhhmkgnhaa.PFnExactSwapRules
open Go.RowKit Go.Proofs.YtcelgjhhmkgnhaaW.PrintWords Go.Proofs.YtcelgjhhmkgnhaaW.PrintLast Go.Proofs.YtcelgjhhmkgnhaaW.PrintMore
def ok120 (x : S120) : Prop := (Lit.int .i64 x.f0).wf = true ∧ (Lit.int .i64 x.f1).wf = true
def ok122 (x : S122) : Prop := (Lit.int .i64 x.f0.f0).wf = true ∧ (Lit.int .i64 x.f0.f1).wf = true ∧ (Lit.int .i64 x.f1.f0).wf = true ∧ (Lit.int .i64 x.f1.f1).wf = true ∧ (Lit.int .i64 x.f2.f0).wf = true ∧ (Lit.int .i64 x.f2.f1).wf = true ∧ (Lit.int .i64 x.f3.f0).wf = true ∧ (Lit.int .i64 x.f3.f1).wf = true ∧ (Lit.int .i64 x.f4).wf = true
def ok130 (x : S130) : Prop := (Lit.int .i64 x.f0.f0.f0).wf = true ∧ (Lit.int .i64 x.f0.f0.f1).wf = true ∧ (Lit.int .i64 x.f0.f1.f0).wf = true ∧ (Lit.int .i64 x.f0.f1.f1).wf = true ∧ (Lit.int .i64 x.f0.f2.f0).wf = true ∧ (Lit.int .i64 x.f0.f2.f1).wf = true ∧ (Lit.int .i64 x.f0.f3.f0).wf = true ∧ (Lit.int .i64 x.f0.f3.f1).wf = true ∧ (Lit.int .i64 x.f0.f4).wf = true ∧ (Lit.int .i64 x.f1).wf = true ∧ (Lit.int .i64 x.f2).wf = true
def laws_FnExactSwapRules.Pure : Prop := ∀ (l0 : (List S130)) (a1 : Int), l0.length ≤ maxLen → l0.length * 88 ≤ 140737488351232 → (∀ y ∈ l0, ok130 y) → (Lit.int .i64 a1).wf = true → ∃ k, laws_FnExactSwapRules.f k l0 a1 = some true
end Go.Proofs.Ytcelgjhhmkgnhaa.PFnExactSwapRules
