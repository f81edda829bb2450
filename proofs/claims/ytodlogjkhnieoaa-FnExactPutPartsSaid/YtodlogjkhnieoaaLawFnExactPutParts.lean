/- Of every input the law FnExactPutParts answers true, and each argument reads behind the call as it read before. No condition beyond the statement's own. -/
import Derived.Test.YtodlogjkhnieoaaRows
import Derived.Test.YtodlogjkhnieoaaPFnExactPutPartsx4
import Derived.Test.YtodlogjkhnieoaaStFnExactPutParts
import Derived.Test.YtodlogjkhnieoaaPureFnExactPutParts
import Derived.Test.YtodlogjkhnieoaaWSized
import Derived.WalkKit
import Derived.ProofKit
import Derived.OpenShut
import Derived.ShutString
import Derived.ChangeOld
import Derived.Below
import Derived.SizedLaws
import Derived.Deep.Slices
import Derived.Carry
import Derived.ChangeArms
namespace Go.Proofs.Ytodlogjkhnieoaa.fnExactPutParts
open Go.ChangeShapes Go.WideShapes Go.ChangeAt Go.RowKit Go.Deep
open Go.Proofs.Ytodlogjkhnieoaa.PFnExactPutParts Go.Proofs.YtodlogjkhnieoaaW.PrintWords Go.Proofs.YtodlogjkhnieoaaW.PrintLast Go.Proofs.YtodlogjkhnieoaaW.PrintMore
open Go.ChangeMaps (open_string shut_string)
set_option linter.unusedVariables false
theorem own : ownKnob Try.prog.godebug = none := by kernel_rfl
theorem laidOut : laidOutB Try.prog = true := by kernel_rfl
section
variable {H : Type} {enc : TypeId × Value → H} {w : World} {base : Nat} {spare : Nat → Bool} {held : Bool}
theorem one_cell {cs : List Value} (h : cs.length = 1) : ∃ v, cs = [v] := List.length_eq_one_iff.mp h
theorem trod_slice_cells {P : Program} {t e fuel : Nat} {cs : List Value} {x : DataW H × List MemPlace} (ht : P.underlying t = some (.slice e)) (h : DataW.trod enc P w base spare held fuel t cs = some x) : cs.length = 1 := by
  rcases open_slice ht h with ⟨rfl, _⟩ | ⟨a, len, cap, m, n, Dx, Pl, rfl, _⟩ <;> rfl
theorem open_row {P : Program} {α : Type} (d : Kd α) (ok : α → Prop) {t e fuel : Nat} {v : Value} {x : DataW H × List MemPlace} (ht : P.underlying t = some (.slice e)) (hC : P.cellsOf e = d.sz)
    (hel : ∀ (f : Nat) (cs : List Value) (y : DataW H × List MemPlace), DataW.trod enc P w base spare held f e cs = some y → ∃ z, d.K w z cs ∧ ok z) (h : DataW.trod enc P w base spare held fuel t [v] = some x) :
    ∃ (A_ : Option Addr) (m : Nat) (b : List α), v = .slice A_ b.length m ∧ (b.length ≤ m ∧ m ≤ maxLen ∧ d.C w A_ b.length b ∧ ∀ y ∈ b, ok y) ∧ (b = [] ∨ ∃ el sp, x.1 = .slice el sp ∧ b.length ≤ el.length + sp.length) := by
  rcases open_slice ht h with ⟨hcs, _⟩ | ⟨a, len, cap, m, n, Dx, Pl, hcs, hb, hl, hm, hmm, hx, hi⟩
  · refine ⟨none, 0, [], by simpa using hcs, ⟨Nat.le_refl _, by simp [maxLen], ⟨rfl, by simp, fun h => by simp at h⟩, fun y hy => by simp at hy⟩, .inl rfl⟩
  · have hlm : len ≤ m := by rw [hmm]; split <;> omega
    have hz : ∀ i, i < len → ∃ z, (∃ cs', w.cells? base (a.add (i * P.cellsOf e)) (P.cellsOf e) = some cs' ∧ d.K w z cs') ∧ ok z := by
      intro i hil
      obtain ⟨cs', h1, h2⟩ := hi i (by omega)
      obtain ⟨z, h3, h4⟩ := hel _ _ _ h2
      exact ⟨z, ⟨cs', h1, h3⟩, h4⟩
    have hl9 : ∃ b : List α, b.length = len ∧ ∀ j z, b[j]? = some z → (∃ cs', w.cells? base (a.add (j * P.cellsOf e)) (P.cellsOf e) = some cs' ∧ d.K w z cs') ∧ ok z := by
      clear hcs hb hl hm hmm hx hi hlm h
      induction len with
      | zero => exact ⟨[], rfl, fun j z hj => by simp at hj⟩
      | succ q ih =>
        obtain ⟨b, hbl, hbb⟩ := ih (fun i hiq => hz i (by omega))
        obtain ⟨z, hzz⟩ := hz q (by omega)
        refine ⟨b ++ [z], by simp [hbl], fun j y hj => ?_⟩
        rcases Nat.lt_or_ge j b.length with hjl | hjl
        · rw [List.getElem?_append_left hjl] at hj
          exact hbb j y hj
        · rw [List.getElem?_append_right hjl] at hj
          have hj0 : j = q := by
            have := (List.getElem?_eq_some_iff.1 hj).1
            simp at this
            omega
          subst hj0
          rw [hbl, Nat.sub_self] at hj
          simp at hj
          subst hj
          exact hzz
    obtain ⟨b, hbl, hbb⟩ := hl9
    subst hbl
    refine ⟨some a, cap, b, by simpa using hcs, ⟨hl, hm, ⟨rfl, by unfold maxLen at hm; omega, fun _ => ⟨a, rfl, fun j z hj => ?_⟩⟩, fun y hy => ?_⟩, .inr ⟨_, _, by rw [hx], ?_⟩⟩
    · obtain ⟨⟨cs', h1, h2⟩, _⟩ := hbb j z hj
      obtain ⟨_, hlen, hat⟩ := World.cells?_some h1
      refine ⟨cs', by rw [hlen, hC], h2, fun i u hu => ?_⟩
      have hiu := (List.getElem?_eq_some_iff.1 hu).1
      have hc := hat i (by omega)
      rw [← Go.Deep.add_add, ← hC, hc, hu]
    · obtain ⟨j, hj⟩ := List.getElem?_of_mem hy
      exact (hbb j y hj).2
    · simp
theorem row_22 {fuel : Nat} {v : Value} {x : DataW H × List MemPlace} (h : DataW.trod enc Try.prog w base spare held fuel 22 [v] = some x) :
    ∃ (A_ : Option Addr) (m : Nat) (b : (List Int)), v = .slice A_ b.length m ∧ (b.length ≤ m ∧ m ≤ maxLen ∧ (Kd.int .u8).C w A_ b.length b ∧ (∀ y ∈ b, (Lit.int .u8 y).wf = true)) ∧ (b = [] ∨ ∃ el sp, x.1 = .slice el sp ∧ b.length ≤ el.length + sp.length) := by
  refine open_row (Kd.int .u8) _ Try.underlying22 (by kernel_rfl) ?_ h
  intro f cs y hy
  obtain ⟨n, rfl, _, hn⟩ := DataW.trod_int Try.underlying5 hy
  exact ⟨n, rfl, hn⟩
theorem row_30 {fuel : Nat} {v : Value} {x : DataW H × List MemPlace} (h : DataW.trod enc Try.prog w base spare held fuel 30 [v] = some x) :
    ∃ (A_ : Option Addr) (m : Nat) (b : (List (List Int))), v = .slice A_ b.length m ∧ (b.length ≤ m ∧ m ≤ maxLen ∧ (Kd.slice 5 (Kd.int .u8)).C w A_ b.length b ∧ (∀ y ∈ b, y.length ≤ maxLen ∧ (∀ z ∈ y, (Lit.int .u8 z).wf = true))) ∧ (b = [] ∨ ∃ el sp, x.1 = .slice el sp ∧ b.length ≤ el.length + sp.length) := by
  refine open_row (Kd.slice 5 (Kd.int .u8)) _ Try.underlying30 (by kernel_rfl) ?_ h
  intro f cs y hy
  obtain ⟨v, rfl⟩ := one_cell (trod_slice_cells Try.underlying22 hy)
  obtain ⟨A_, m, b, rfl, ⟨h1, h2, h3, h4⟩, _⟩ := row_22 hy
  exact ⟨b, ⟨A_, m, rfl, h1, h3⟩, Nat.le_trans h1 h2, h4⟩
end
set_option maxRecDepth 100000 in
theorem lifted (os : Os) (started : os.Started) (H : Type) (enc : TypeId × Value → H) :
    ReturnsInHanded {} Try.checked os 6 .any (Rows.fnExactPutPartsSpec.pre6 enc Try.prog Try.f6 Rows.fnExactPutPartsRow.domain false) (Rows.fnExactPutPartsSpec.post enc Try.prog Try.f6 false true false false) := by
  refine returnsInHanded_of_change_sized (C := Try.checked) own started (by kernel_rfl) Try.func6
    (ChangeSpec.witness6 (enc := enc) (C := Try.checked) false ⟨#[], #[.slice none 0 0], []⟩ 8 (by kernel_rfl) (by kernel_rfl) (by kernel_rfl) (by kernel_rfl)) ?_
  intro W base args ds gs before hval0 hW hcnd hsz0 _
  have hsz : (DataW.weightsEach Try.prog (Try.f6.params.toList ++ Rows.fnExactPutPartsSpec.plain.varTypes Try.prog) (ds ++ gs)).all (· ≤ reachBytes) = true := hsz0
  have hval : ∀ (j : Nat) t v, Try.f6.params[j]? = some t → args[j]? = some v → Value.okWide Try.prog W .any base t v := hval0
  have hW' := hW
  obtain ⟨p, q, hA0, hV, rfl, hfz, hnd⟩ := hW
  have hA : DataW.TrodAll enc Try.prog W 0 (fun _ => true) true Try.f6.params.toList args.toList ds p := hA0
  rw [Try.params6] at hA hval hsz
  obtain ⟨v0, vs0, d0, ds0, p0, q0, hargs, rfl, rfl, h0, r0⟩ := trodAll_cons hA
  obtain ⟨rfl, rfl, rfl⟩ := trodAll_nil r0
  obtain rfl : args = #[v0] := by cases args; simp_all
  obtain ⟨rfl, rfl⟩ := trodVars_none hV
  have k0 := h0
  have lt0 : ∀ x ∈ p0, x.block < W.heap.size := by obtain ⟨m, hm⟩ := k0; exact DataW.trod_lt m _ _ _ hm
  obtain ⟨aa0, ll0, cc0, rfl⟩ := okWide_slice Try.underlying30 (hval 0 30 v0 rfl rfl)
  obtain ⟨fuel0, hf0⟩ := h0
  have hf0 : DataW.trod enc Try.prog W 0 (fun _ => true) true fuel0 30 [.slice aa0 ll0 cc0] = some (d0, p0) := by simpa [Value.cells] using hf0
  obtain ⟨A0_, m0_, l0, hcs0, ⟨u0_, o0_, g0_, w0_⟩, z0_⟩ := row_30 hf0
  injection hcs0 with e1 e2 e3
  subst e1 e2 e3
  have y0_ : l0.length * 24 ≤ 140737488351232 := by
    rcases z0_ with z | ⟨el, sp, hd, hle⟩
    · subst z; simp
    · have hd : d0 = .slice el sp := hd
      subst hd
      have q := sized_slice hsz (j := 0) (t := 30) rfl rfl Try.underlying30
      have hb : Try.prog.bytesOf 22 = 24 := by kernel_rfl
      rw [hb] at q
      unfold reachBytes at q
      omega
  clear hA0 hval0 hsz0 hsz
  obtain ⟨k, hk⟩ := Pure.FnExactPutParts l0 (Nat.le_trans u0_ o0_) y0_ w0_
  refine (laws_FnExactPutParts.calls k _ _ l0 true rfl W g0_ u0_ hk).mono fun e W' ⟨he, bel⟩ => ?_
  subst he
  exact ⟨_, rfl, _, _, _, [], _, [], hW', trodAll_mk1 (shut_bool Try.underlying4 _), (trodAll_cons_mk (Below.trod laidOut (by kernel_rfl) (of_decide_eq_true (by kernel_rfl)) k0 bel lt0) trodAll_mk0), rfl, bel.frame _, fun h => by cases h⟩
theorem over : Rows.fnExactPutPartsRow.holds Try.pinned (OpenSpec.ofChange Rows.fnExactPutPartsSpec) :=
  OpenClaim.holds_of_wide 6 Try.f6 rfl rfl rfl rfl rfl rfl rfl ⟨rfl, rfl, rfl, rfl, rfl⟩ rfl rfl rfl rfl rfl (by kernel_rfl) Try.func6 (by kernel_rfl)
    (of_decide_eq_true (by kernel_rfl)) (by unfold Func.isWrapper; first | (rw [if_pos (by decide +kernel)]; kernel_rfl) | (rw [if_neg (by decide +kernel)]; exact ⟨rfl, rfl⟩))
    (fun os started H enc _ => lifted os started H enc)
theorem proved : Rows.FnExactPutPartsSaid := over
#print axioms proved
end Go.Proofs.Ytodlogjkhnieoaa.fnExactPutParts
namespace Go.Proofs.Ytodlogjkhnieoaa
/-- The row, under a short name, for the claim. -/
theorem fnExactPutParts_holds : Rows.FnExactPutPartsSaid := fnExactPutParts.proved
end Go.Proofs.Ytodlogjkhnieoaa
