/- The pure statement of the law FnExactHoldsAny, over numbers and lists; the conditions are those of Go's own kinds. -/
import Derived.Test.YteelmjkoncomiaaPFnExactHoldsAnyx10
namespace Go.Proofs.Yteelmjkoncomiaa.PFnExactHoldsAny
open Go.RowKit Go.Proofs.YteelmjkoncomiaaW.PrintWords Go.Proofs.YteelmjkoncomiaaW.PrintLast Go.Proofs.YteelmjkoncomiaaW.PrintMore
def ok111 (x : S111) : Prop := (Lit.int .i64 x.f0).wf = true ∧ (Lit.int .i64 x.f1).wf = true
def ok113 (x : S113) : Prop := (Lit.int .i64 x.f0.f0).wf = true ∧ (Lit.int .i64 x.f0.f1).wf = true ∧ (Lit.int .i64 x.f1.f0).wf = true ∧ (Lit.int .i64 x.f1.f1).wf = true ∧ (Lit.int .i64 x.f2.f0).wf = true ∧ (Lit.int .i64 x.f2.f1).wf = true ∧ (Lit.int .i64 x.f3.f0).wf = true ∧ (Lit.int .i64 x.f3.f1).wf = true ∧ (Lit.int .i64 x.f4).wf = true
def laws_FnExactHoldsAny.Pure : Prop := ∀ (l0 : (List S113)) (a1_0 : Int) (a1_1 : Int) (a1_2 : Int) (a1_3 : Int) (a1_4 : Int) (a1_5 : Int) (l1_6 : (List Int)), l0.length ≤ maxLen → l0.length * 72 ≤ 140737488351232 → (∀ y ∈ l0, ok113 y) → (Lit.int .i64 a1_0).wf = true → (Lit.int .i64 a1_1).wf = true → (Lit.int .i64 a1_2).wf = true → (Lit.int .i64 a1_3).wf = true → (Lit.int .i64 a1_4).wf = true → (Lit.int .i64 a1_5).wf = true → l1_6.length ≤ maxLen → (∀ y ∈ l1_6, (Lit.int .u8 y).wf = true) → ∃ k, laws_FnExactHoldsAny.f k l0 a1_0 a1_1 a1_2 a1_3 a1_4 a1_5 l1_6 = some true
end Go.Proofs.Yteelmjkoncomiaa.PFnExactHoldsAny
