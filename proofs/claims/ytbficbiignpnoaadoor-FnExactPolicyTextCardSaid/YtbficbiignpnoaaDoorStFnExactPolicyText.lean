/- The pure statement of the law FnExactPolicyText, over numbers and lists; the conditions are those of Go's own kinds. -/
import Derived.Test.YtbficbiignpnoaaDoorPFnExactPolicyTextx11
namespace Go.Proofs.YtbficbiignpnoaaDoor.PFnExactPolicyText
open Go.RowKit Go.Proofs.YtbficbiignpnoaaDoorW.PrintWords Go.Proofs.YtbficbiignpnoaaDoorW.PrintLast Go.Proofs.YtbficbiignpnoaaDoorW.PrintMore
def ok54 (x : S54) : Prop := (Lit.int .i64 x.f0).wf = true ∧ (Lit.int .i64 x.f1).wf = true
def ok56 (x : S56) : Prop := (Lit.int .i64 x.f0.f0).wf = true ∧ (Lit.int .i64 x.f0.f1).wf = true ∧ (Lit.int .i64 x.f1.f0).wf = true ∧ (Lit.int .i64 x.f1.f1).wf = true ∧ (Lit.int .i64 x.f2.f0).wf = true ∧ (Lit.int .i64 x.f2.f1).wf = true ∧ (Lit.int .i64 x.f3.f0).wf = true ∧ (Lit.int .i64 x.f3.f1).wf = true ∧ (Lit.int .i64 x.f4).wf = true
def ok58 (x : S58) : Prop := (Lit.int .i64 x.f0.f0.f0).wf = true ∧ (Lit.int .i64 x.f0.f0.f1).wf = true ∧ (Lit.int .i64 x.f0.f1.f0).wf = true ∧ (Lit.int .i64 x.f0.f1.f1).wf = true ∧ (Lit.int .i64 x.f0.f2.f0).wf = true ∧ (Lit.int .i64 x.f0.f2.f1).wf = true ∧ (Lit.int .i64 x.f0.f3.f0).wf = true ∧ (Lit.int .i64 x.f0.f3.f1).wf = true ∧ (Lit.int .i64 x.f0.f4).wf = true ∧ (Lit.int .i64 x.f1).wf = true ∧ (Lit.int .i64 x.f2).wf = true
def laws_FnExactPolicyText.Pure : Prop := ∀ (l0 : (List S58)), l0.length ≤ maxLen → l0.length * 88 ≤ 140737488351232 → (∀ y ∈ l0, ok58 y) → ∃ k, laws_FnExactPolicyText.f k l0 = some true
end Go.Proofs.YtbficbiignpnoaaDoor.PFnExactPolicyText
