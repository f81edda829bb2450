/- The pure statement of the law FnExactTermText, over numbers and lists; the conditions are those of Go's own kinds. -/
import Derived.Test.YtbficbiignpnoaaDoorPFnExactTermTextx10
namespace Go.Proofs.YtbficbiignpnoaaDoor.PFnExactTermText
open Go.RowKit Go.Proofs.YtbficbiignpnoaaDoorW.PrintWords Go.Proofs.YtbficbiignpnoaaDoorW.PrintLast Go.Proofs.YtbficbiignpnoaaDoorW.PrintMore
def ok68 (x : S68) : Prop := (Lit.int .i64 x.f0).wf = true ∧ (Lit.int .i64 x.f1).wf = true ∧ (Lit.int .i64 x.f2).wf = true ∧ (Lit.int .i64 x.f3).wf = true
def laws_FnExactTermText.Pure : Prop := ∀ (l0 : (List S68)) (a1 : Int), l0.length ≤ maxLen → l0.length * 32 ≤ 140737488351232 → (∀ y ∈ l0, ok68 y) → (Lit.int .i64 a1).wf = true → ∃ k, laws_FnExactTermText.f k l0 a1 = some true
end Go.Proofs.YtbficbiignpnoaaDoor.PFnExactTermText
