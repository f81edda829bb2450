/- Of every input the law FnExactPutNumber answers true, and each argument reads behind the call as it read before. No condition beyond the statement's own. -/
import Derived.Test.YthmlhnfoibbhaaaRows
import Derived.Test.YthmlhnfoibbhaaaPFnExactPutNumberx2
import Derived.Test.YthmlhnfoibbhaaaPureFnExactPutNumber
import Derived.Test.YthmlhnfoibbhaaaWSized
import Derived.WalkKit
import Derived.ProofKit
import Derived.OpenShut
import Derived.ShutString
import Derived.ChangeOld
import Derived.Below
import Derived.SizedLaws
import Derived.Deep.Slices
import Derived.Carry
import Derived.ChangeArms
namespace Go.Proofs.Ythmlhnfoibbhaaa.fnExactPutNumber
open Go.ChangeShapes Go.WideShapes Go.ChangeAt Go.RowKit Go.Deep
open Go.Proofs.Ythmlhnfoibbhaaa.PFnExactPutNumber Go.Proofs.YthmlhnfoibbhaaaW.PrintWords Go.Proofs.YthmlhnfoibbhaaaW.PrintLast Go.Proofs.YthmlhnfoibbhaaaW.PrintMore
open Go.ChangeMaps (open_string shut_string)
set_option linter.unusedVariables false
theorem own : ownKnob Try.prog.godebug = none := by kernel_rfl
theorem laidOut : laidOutB Try.prog = true := by kernel_rfl
section
variable {H : Type} {enc : TypeId × Value → H} {w : World} {base : Nat} {spare : Nat → Bool} {held : Bool}
theorem one_cell {cs : List Value} (h : cs.length = 1) : ∃ v, cs = [v] := List.length_eq_one_iff.mp h
theorem trod_slice_cells {P : Program} {t e fuel : Nat} {cs : List Value} {x : DataW H × List MemPlace} (ht : P.underlying t = some (.slice e)) (h : DataW.trod enc P w base spare held fuel t cs = some x) : cs.length = 1 := by
  rcases open_slice ht h with ⟨rfl, _⟩ | ⟨a, len, cap, m, n, Dx, Pl, rfl, _⟩ <;> rfl
theorem open_row {P : Program} {α : Type} (d : Kd α) (ok : α → Prop) {t e fuel : Nat} {v : Value} {x : DataW H × List MemPlace} (ht : P.underlying t = some (.slice e)) (hC : P.cellsOf e = d.sz)
    (hel : ∀ (f : Nat) (cs : List Value) (y : DataW H × List MemPlace), DataW.trod enc P w base spare held f e cs = some y → ∃ z, d.K w z cs ∧ ok z) (h : DataW.trod enc P w base spare held fuel t [v] = some x) :
    ∃ (A_ : Option Addr) (m : Nat) (b : List α), v = .slice A_ b.length m ∧ (b.length ≤ m ∧ m ≤ maxLen ∧ d.C w A_ b.length b ∧ ∀ y ∈ b, ok y) ∧ (b = [] ∨ ∃ el sp, x.1 = .slice el sp ∧ b.length ≤ el.length + sp.length) := by
  rcases open_slice ht h with ⟨hcs, _⟩ | ⟨a, len, cap, m, n, Dx, Pl, hcs, hb, hl, hm, hmm, hx, hi⟩
  · refine ⟨none, 0, [], by simpa using hcs, ⟨Nat.le_refl _, by simp [maxLen], ⟨rfl, by simp, fun h => by simp at h⟩, fun y hy => by simp at hy⟩, .inl rfl⟩
  · have hlm : len ≤ m := by rw [hmm]; split <;> omega
    have hz : ∀ i, i < len → ∃ z, (∃ cs', w.cells? base (a.add (i * P.cellsOf e)) (P.cellsOf e) = some cs' ∧ d.K w z cs') ∧ ok z := by
      intro i hil
      obtain ⟨cs', h1, h2⟩ := hi i (by omega)
      obtain ⟨z, h3, h4⟩ := hel _ _ _ h2
      exact ⟨z, ⟨cs', h1, h3⟩, h4⟩
    have hl9 : ∃ b : List α, b.length = len ∧ ∀ j z, b[j]? = some z → (∃ cs', w.cells? base (a.add (j * P.cellsOf e)) (P.cellsOf e) = some cs' ∧ d.K w z cs') ∧ ok z := by
      clear hcs hb hl hm hmm hx hi hlm h
      induction len with
      | zero => exact ⟨[], rfl, fun j z hj => by simp at hj⟩
      | succ q ih =>
        obtain ⟨b, hbl, hbb⟩ := ih (fun i hiq => hz i (by omega))
        obtain ⟨z, hzz⟩ := hz q (by omega)
        refine ⟨b ++ [z], by simp [hbl], fun j y hj => ?_⟩
        rcases Nat.lt_or_ge j b.length with hjl | hjl
        · rw [List.getElem?_append_left hjl] at hj
          exact hbb j y hj
        · rw [List.getElem?_append_right hjl] at hj
          have hj0 : j = q := by
            have := (List.getElem?_eq_some_iff.1 hj).1
            simp at this
            omega
          subst hj0
          rw [hbl, Nat.sub_self] at hj
          simp at hj
          subst hj
          exact hzz
    obtain ⟨b, hbl, hbb⟩ := hl9
    subst hbl
    refine ⟨some a, cap, b, by simpa using hcs, ⟨hl, hm, ⟨rfl, by unfold maxLen at hm; omega, fun _ => ⟨a, rfl, fun j z hj => ?_⟩⟩, fun y hy => ?_⟩, .inr ⟨_, _, by rw [hx], ?_⟩⟩
    · obtain ⟨⟨cs', h1, h2⟩, _⟩ := hbb j z hj
      obtain ⟨_, hlen, hat⟩ := World.cells?_some h1
      refine ⟨cs', by rw [hlen, hC], h2, fun i u hu => ?_⟩
      have hiu := (List.getElem?_eq_some_iff.1 hu).1
      have hc := hat i (by omega)
      rw [← Go.Deep.add_add, ← hC, hc, hu]
    · obtain ⟨j, hj⟩ := List.getElem?_of_mem hy
      exact (hbb j y hj).2
    · simp
end
set_option maxRecDepth 100000 in
theorem lifted (os : Os) (started : os.Started) (H : Type) (enc : TypeId × Value → H) :
    ReturnsInHanded {} Try.checked os 3 .any (Rows.fnExactPutNumberSpec.pre6 enc Try.prog Try.f3 Rows.fnExactPutNumberRow.domain false) (Rows.fnExactPutNumberSpec.post enc Try.prog Try.f3 false true false false) := by
  refine returnsInHanded_of_change_sized (C := Try.checked) own started (by kernel_rfl) Try.func3
    (ChangeSpec.witness6 (enc := enc) (C := Try.checked) false ⟨#[], #[.int .i64 0, .int .i64 0], []⟩ 8 (by kernel_rfl) (by kernel_rfl) (by kernel_rfl) (by kernel_rfl)) ?_
  intro W base args ds gs before hval0 hW hcnd hsz0 _
  have hsz : (DataW.weightsEach Try.prog (Try.f3.params.toList ++ Rows.fnExactPutNumberSpec.plain.varTypes Try.prog) (ds ++ gs)).all (· ≤ reachBytes) = true := hsz0
  have hval : ∀ (j : Nat) t v, Try.f3.params[j]? = some t → args[j]? = some v → Value.okWide Try.prog W .any base t v := hval0
  have hW' := hW
  obtain ⟨p, q, hA0, hV, rfl, hfz, hnd⟩ := hW
  have hA : DataW.TrodAll enc Try.prog W 0 (fun _ => true) true Try.f3.params.toList args.toList ds p := hA0
  rw [Try.params3] at hA hval hsz
  obtain ⟨v0, vs0, d0, ds0, p0, q0, hargs, rfl, rfl, h0, r0⟩ := trodAll_cons hA
  obtain ⟨v1, vs1, d1, ds1, p1, q1, rfl, rfl, rfl, h1, r1⟩ := trodAll_cons r0
  obtain ⟨rfl, rfl, rfl⟩ := trodAll_nil r1
  obtain rfl : args = #[v0, v1] := by cases args; simp_all
  obtain ⟨rfl, rfl⟩ := trodVars_none hV
  have k0 := h0
  have lt0 : ∀ x ∈ p0, x.block < W.heap.size := by obtain ⟨m, hm⟩ := k0; exact DataW.trod_lt m _ _ _ hm
  obtain ⟨a0, rfl, rfl, rfl, w0⟩ := open_int Try.underlying2 (hval 0 2 v0 rfl rfl) h0
  have k1 := h1
  have lt1 : ∀ x ∈ p1, x.block < W.heap.size := by obtain ⟨m, hm⟩ := k1; exact DataW.trod_lt m _ _ _ hm
  obtain ⟨a1, rfl, rfl, rfl, w1⟩ := open_int Try.underlying2 (hval 1 2 v1 rfl rfl) h1
  clear hA0 hval0 hsz0 hsz
  obtain ⟨k, hk⟩ := Pure.FnExactPutNumber a0 a1 w0 w1
  refine (laws_FnExactPutNumber.calls k a0 a1 true W hk).mono fun e W' ⟨he, bel⟩ => ?_
  subst he
  exact ⟨_, rfl, _, _, _, [], _, [], hW', trodAll_mk1 (shut_bool Try.underlying4 _), (trodAll_cons_mk (Below.trod laidOut (by kernel_rfl) (of_decide_eq_true (by kernel_rfl)) k0 bel lt0) (trodAll_cons_mk (Below.trod laidOut (by kernel_rfl) (of_decide_eq_true (by kernel_rfl)) k1 bel lt1) trodAll_mk0)), rfl, bel.frame _, fun h => by cases h⟩
theorem over : Rows.fnExactPutNumberRow.holds Try.pinned (OpenSpec.ofChange Rows.fnExactPutNumberSpec) :=
  OpenClaim.holds_of_wide 3 Try.f3 rfl rfl rfl rfl rfl rfl rfl ⟨rfl, rfl, rfl, rfl, rfl⟩ rfl rfl rfl rfl rfl (by kernel_rfl) Try.func3 (by kernel_rfl)
    (of_decide_eq_true (by kernel_rfl)) (by unfold Func.isWrapper; first | (rw [if_pos (by decide +kernel)]; kernel_rfl) | (rw [if_neg (by decide +kernel)]; exact ⟨rfl, rfl⟩))
    (fun os started H enc _ => lifted os started H enc)
theorem proved : Rows.FnExactPutNumberSaid := over
#print axioms proved
end Go.Proofs.Ythmlhnfoibbhaaa.fnExactPutNumber
namespace Go.Proofs.Ythmlhnfoibbhaaa
/-- The row, under a short name, for the claim. -/
theorem fnExactPutNumber_holds : Rows.FnExactPutNumberSaid := fnExactPutNumber.proved
end Go.Proofs.Ythmlhnfoibbhaaa
