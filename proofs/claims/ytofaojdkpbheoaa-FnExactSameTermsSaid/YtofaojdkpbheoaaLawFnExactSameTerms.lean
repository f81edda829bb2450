/- Of every input the law FnExactSameTerms answers true, and each argument reads behind the call as it read before. No condition beyond the statement's own. -/
import Derived.Test.YtofaojdkpbheoaaRows
import Derived.Test.YtofaojdkpbheoaaPFnExactSameTermsx12
import Derived.Test.YtofaojdkpbheoaaStFnExactSameTerms
import Derived.Test.YtofaojdkpbheoaaPureFnExactSameTerms
import Derived.Test.YtofaojdkpbheoaaVFnExactSameTerms
import Derived.WalkKit
import Derived.ProofKit
import Derived.OpenShut
import Derived.ShutString
import Derived.ChangeOld
import Derived.Below
import Derived.SizedLaws
import Derived.Deep.Slices
import Derived.Carry
import Derived.ChangeArms
namespace Go.Proofs.Ytofaojdkpbheoaa.fnExactSameTerms
open Go.ChangeShapes Go.WideShapes Go.ChangeAt Go.RowKit Go.Deep
open Go.Proofs.Ytofaojdkpbheoaa.PFnExactSameTerms Go.Proofs.YtofaojdkpbheoaaW.PrintWords Go.Proofs.YtofaojdkpbheoaaW.PrintLast Go.Proofs.YtofaojdkpbheoaaW.PrintMore
open Go.ChangeMaps (open_string shut_string)
set_option linter.unusedVariables false
theorem own : ownKnob Try.prog.godebug = none := by kernel_rfl
theorem laidOut : laidOutB Try.prog = true := by kernel_rfl
section
variable {H : Type} {enc : TypeId × Value → H} {w : World} {base : Nat} {spare : Nat → Bool} {held : Bool}
theorem one_cell {cs : List Value} (h : cs.length = 1) : ∃ v, cs = [v] := List.length_eq_one_iff.mp h
theorem trod_slice_cells {P : Program} {t e fuel : Nat} {cs : List Value} {x : DataW H × List MemPlace} (ht : P.underlying t = some (.slice e)) (h : DataW.trod enc P w base spare held fuel t cs = some x) : cs.length = 1 := by
  rcases open_slice ht h with ⟨rfl, _⟩ | ⟨a, len, cap, m, n, Dx, Pl, rfl, _⟩ <;> rfl
theorem open_row {P : Program} {α : Type} (d : Kd α) (ok : α → Prop) {t e fuel : Nat} {v : Value} {x : DataW H × List MemPlace} (ht : P.underlying t = some (.slice e)) (hC : P.cellsOf e = d.sz)
    (hel : ∀ (f : Nat) (cs : List Value) (y : DataW H × List MemPlace), DataW.trod enc P w base spare held f e cs = some y → ∃ z, d.K w z cs ∧ ok z) (h : DataW.trod enc P w base spare held fuel t [v] = some x) :
    ∃ (A_ : Option Addr) (m : Nat) (b : List α), v = .slice A_ b.length m ∧ (b.length ≤ m ∧ m ≤ maxLen ∧ d.C w A_ b.length b ∧ ∀ y ∈ b, ok y) ∧ (b = [] ∨ ∃ el sp, x.1 = .slice el sp ∧ b.length ≤ el.length + sp.length) := by
  rcases open_slice ht h with ⟨hcs, _⟩ | ⟨a, len, cap, m, n, Dx, Pl, hcs, hb, hl, hm, hmm, hx, hi⟩
  · refine ⟨none, 0, [], by simpa using hcs, ⟨Nat.le_refl _, by simp [maxLen], ⟨rfl, by simp, fun h => by simp at h⟩, fun y hy => by simp at hy⟩, .inl rfl⟩
  · have hlm : len ≤ m := by rw [hmm]; split <;> omega
    have hz : ∀ i, i < len → ∃ z, (∃ cs', w.cells? base (a.add (i * P.cellsOf e)) (P.cellsOf e) = some cs' ∧ d.K w z cs') ∧ ok z := by
      intro i hil
      obtain ⟨cs', h1, h2⟩ := hi i (by omega)
      obtain ⟨z, h3, h4⟩ := hel _ _ _ h2
      exact ⟨z, ⟨cs', h1, h3⟩, h4⟩
    have hl9 : ∃ b : List α, b.length = len ∧ ∀ j z, b[j]? = some z → (∃ cs', w.cells? base (a.add (j * P.cellsOf e)) (P.cellsOf e) = some cs' ∧ d.K w z cs') ∧ ok z := by
      clear hcs hb hl hm hmm hx hi hlm h
      induction len with
      | zero => exact ⟨[], rfl, fun j z hj => by simp at hj⟩
      | succ q ih =>
        obtain ⟨b, hbl, hbb⟩ := ih (fun i hiq => hz i (by omega))
        obtain ⟨z, hzz⟩ := hz q (by omega)
        refine ⟨b ++ [z], by simp [hbl], fun j y hj => ?_⟩
        rcases Nat.lt_or_ge j b.length with hjl | hjl
        · rw [List.getElem?_append_left hjl] at hj
          exact hbb j y hj
        · rw [List.getElem?_append_right hjl] at hj
          have hj0 : j = q := by
            have := (List.getElem?_eq_some_iff.1 hj).1
            simp at this
            omega
          subst hj0
          rw [hbl, Nat.sub_self] at hj
          simp at hj
          subst hj
          exact hzz
    obtain ⟨b, hbl, hbb⟩ := hl9
    subst hbl
    refine ⟨some a, cap, b, by simpa using hcs, ⟨hl, hm, ⟨rfl, by unfold maxLen at hm; omega, fun _ => ⟨a, rfl, fun j z hj => ?_⟩⟩, fun y hy => ?_⟩, .inr ⟨_, _, by rw [hx], ?_⟩⟩
    · obtain ⟨⟨cs', h1, h2⟩, _⟩ := hbb j z hj
      obtain ⟨_, hlen, hat⟩ := World.cells?_some h1
      refine ⟨cs', by rw [hlen, hC], h2, fun i u hu => ?_⟩
      have hiu := (List.getElem?_eq_some_iff.1 hu).1
      have hc := hat i (by omega)
      rw [← Go.Deep.add_add, ← hC, hc, hu]
    · obtain ⟨j, hj⟩ := List.getElem?_of_mem hy
      exact (hbb j y hj).2
    · simp
theorem len_cells_4 {α : Type} {l : List α} (h : l.length = 4) : ∃ c0 c1 c2 c3, l = [c0, c1, c2, c3] := by
  match l, h with
  | [c0, c1, c2, c3], _ => exact ⟨c0, c1, c2, c3, rfl⟩
theorem cells_36 {fuel : Nat} {cs : List Value} {x : DataW H × List MemPlace} (h : DataW.trod enc Try.prog w base spare held fuel 36 cs = some x) :
    ∃ (b0 : Int) (b1 : Int) (b2 : Int) (b3 : Int), cs = [.int .i64 b0, .int .i64 b1, .int .i64 b2, .int .i64 b3] ∧ (Lit.int .i64 b0).wf = true ∧ (Lit.int .i64 b1).wf = true ∧ (Lit.int .i64 b2).wf = true ∧ (Lit.int .i64 b3).wf = true := by
  obtain ⟨xs, n, _, _, hl, hx, hf⟩ := DataW.trod_struct Try.underlying36 h
  have hl : cs.length = 4 := hl.trans (by kernel_rfl)
  obtain ⟨c0, c1, c2, c3, rfl⟩ := len_cells_4 hl
  obtain ⟨y0, e0⟩ : ∃ y, xs[0]? = some y := ⟨_, List.getElem?_eq_getElem (by rw [hx]; decide)⟩
  have g0 : DataW.trod enc Try.prog w base spare held n 2 [c0] = some y0 := by
    have g : DataW.trod enc Try.prog w base spare held n 2 ((List.drop 0 [c0, c1, c2, c3]).take (Try.prog.cellsOf 2)) = some y0 := (hf 0 _ rfl).trans e0
    rw [show Try.prog.cellsOf 2 = 1 from by kernel_rfl] at g
    exact g
  obtain ⟨b0, z0, _, w0⟩ := DataW.trod_int Try.underlying2 g0
  have eq0 : c0 = .int .i64 b0 := by simpa using z0
  obtain ⟨y1, e1⟩ : ∃ y, xs[1]? = some y := ⟨_, List.getElem?_eq_getElem (by rw [hx]; decide)⟩
  have g1 : DataW.trod enc Try.prog w base spare held n 2 [c1] = some y1 := by
    have g : DataW.trod enc Try.prog w base spare held n 2 ((List.drop 1 [c0, c1, c2, c3]).take (Try.prog.cellsOf 2)) = some y1 := (hf 1 _ rfl).trans e1
    rw [show Try.prog.cellsOf 2 = 1 from by kernel_rfl] at g
    exact g
  obtain ⟨b1, z1, _, w1⟩ := DataW.trod_int Try.underlying2 g1
  have eq1 : c1 = .int .i64 b1 := by simpa using z1
  obtain ⟨y2, e2⟩ : ∃ y, xs[2]? = some y := ⟨_, List.getElem?_eq_getElem (by rw [hx]; decide)⟩
  have g2 : DataW.trod enc Try.prog w base spare held n 2 [c2] = some y2 := by
    have g : DataW.trod enc Try.prog w base spare held n 2 ((List.drop 2 [c0, c1, c2, c3]).take (Try.prog.cellsOf 2)) = some y2 := (hf 2 _ rfl).trans e2
    rw [show Try.prog.cellsOf 2 = 1 from by kernel_rfl] at g
    exact g
  obtain ⟨b2, z2, _, w2⟩ := DataW.trod_int Try.underlying2 g2
  have eq2 : c2 = .int .i64 b2 := by simpa using z2
  obtain ⟨y3, e3⟩ : ∃ y, xs[3]? = some y := ⟨_, List.getElem?_eq_getElem (by rw [hx]; decide)⟩
  have g3 : DataW.trod enc Try.prog w base spare held n 2 [c3] = some y3 := by
    have g : DataW.trod enc Try.prog w base spare held n 2 ((List.drop 3 [c0, c1, c2, c3]).take (Try.prog.cellsOf 2)) = some y3 := (hf 3 _ rfl).trans e3
    rw [show Try.prog.cellsOf 2 = 1 from by kernel_rfl] at g
    exact g
  obtain ⟨b3, z3, _, w3⟩ := DataW.trod_int Try.underlying2 g3
  have eq3 : c3 = .int .i64 b3 := by simpa using z3
  subst eq0 eq1 eq2 eq3
  exact ⟨b0, b1, b2, b3, rfl, w0, w1, w2, w3⟩
theorem row_22 {fuel : Nat} {v : Value} {x : DataW H × List MemPlace} (h : DataW.trod enc Try.prog w base spare held fuel 22 [v] = some x) :
    ∃ (A_ : Option Addr) (m : Nat) (b : (List S36)), v = .slice A_ b.length m ∧ (b.length ≤ m ∧ m ≤ maxLen ∧ k36.C w A_ b.length b ∧ (∀ y ∈ b, ok36 y)) ∧ (b = [] ∨ ∃ el sp, x.1 = .slice el sp ∧ b.length ≤ el.length + sp.length) := by
  refine open_row k36 _ Try.underlying22 (by kernel_rfl) ?_ h
  intro f cs y hy
  obtain ⟨b0, b1, b2, b3, rfl, w0, w1, w2, w3⟩ := cells_36 hy
  exact ⟨(⟨b0, b1, b2, b3⟩ : S36), k36_mk w (⟨b0, b1, b2, b3⟩ : S36), ⟨w0, w1, w2, w3⟩⟩
end
set_option maxRecDepth 100000 in
theorem lifted (os : Os) (started : os.Started) (H : Type) (enc : TypeId × Value → H) :
    ReturnsInHanded {} Try.checked os 3 .any (Rows.fnExactSameTermsSpec.pre6 enc Try.prog Try.f3 Rows.fnExactSameTermsRow.domain false) (Rows.fnExactSameTermsSpec.post enc Try.prog Try.f3 false true false false) := by
  refine returnsInHanded_of_change_sized (C := Try.checked) own started (by kernel_rfl) Try.func3
    (ChangeSpec.witness6 (enc := enc) (C := Try.checked) false ⟨#[], #[.slice none 0 0, .int .i64 0, .slice none 0 0, .int .i64 0], []⟩ 8 (by kernel_rfl) (by kernel_rfl) (by kernel_rfl) (by kernel_rfl)) ?_
  intro W base args ds gs before hval0 hW hcnd hsz0 _
  have hsz : (DataW.weightsEach Try.prog (Try.f3.params.toList ++ Rows.fnExactSameTermsSpec.plain.varTypes Try.prog) (ds ++ gs)).all (· ≤ reachBytes) = true := hsz0
  have hval : ∀ (j : Nat) t v, Try.f3.params[j]? = some t → args[j]? = some v → Value.okWide Try.prog W .any base t v := hval0
  have hW' := hW
  obtain ⟨p, q, hA0, hV, rfl, hfz, hnd⟩ := hW
  have hA : DataW.TrodAll enc Try.prog W 0 (fun _ => true) true Try.f3.params.toList args.toList ds p := hA0
  rw [Try.params3] at hA hval hsz
  obtain ⟨v0, vs0, d0, ds0, p0, q0, hargs, rfl, rfl, h0, r0⟩ := trodAll_cons hA
  obtain ⟨v1, vs1, d1, ds1, p1, q1, rfl, rfl, rfl, h1, r1⟩ := trodAll_cons r0
  obtain ⟨v2, vs2, d2, ds2, p2, q2, rfl, rfl, rfl, h2, r2⟩ := trodAll_cons r1
  obtain ⟨v3, vs3, d3, ds3, p3, q3, rfl, rfl, rfl, h3, r3⟩ := trodAll_cons r2
  obtain ⟨rfl, rfl, rfl⟩ := trodAll_nil r3
  obtain rfl : args = #[v0, v1, v2, v3] := by cases args; simp_all
  obtain ⟨rfl, rfl⟩ := trodVars_none hV
  have k0 := h0
  have lt0 : ∀ x ∈ p0, x.block < W.heap.size := by obtain ⟨m, hm⟩ := k0; exact DataW.trod_lt m _ _ _ hm
  obtain ⟨aa0, ll0, cc0, rfl⟩ := okWide_slice Try.underlying22 (hval 0 22 v0 rfl rfl)
  obtain ⟨fuel0, hf0⟩ := h0
  have hf0 : DataW.trod enc Try.prog W 0 (fun _ => true) true fuel0 22 [.slice aa0 ll0 cc0] = some (d0, p0) := by simpa [Value.cells] using hf0
  obtain ⟨A0_, m0_, l0, hcs0, ⟨u0_, o0_, g0_, w0_⟩, z0_⟩ := row_22 hf0
  injection hcs0 with e1 e2 e3
  subst e1 e2 e3
  have y0_ : l0.length * 32 ≤ 140737488351232 := by
    rcases z0_ with z | ⟨el, sp, hd, hle⟩
    · subst z; simp
    · have hd : d0 = .slice el sp := hd
      subst hd
      have q := sized_slice hsz (j := 0) (t := 22) rfl rfl Try.underlying22
      have hb : Try.prog.bytesOf 36 = 32 := by kernel_rfl
      rw [hb] at q
      unfold reachBytes at q
      omega
  have k1 := h1
  have lt1 : ∀ x ∈ p1, x.block < W.heap.size := by obtain ⟨m, hm⟩ := k1; exact DataW.trod_lt m _ _ _ hm
  obtain ⟨a1, rfl, rfl, rfl, w1⟩ := open_int Try.underlying2 (hval 1 2 v1 rfl rfl) h1
  have k2 := h2
  have lt2 : ∀ x ∈ p2, x.block < W.heap.size := by obtain ⟨m, hm⟩ := k2; exact DataW.trod_lt m _ _ _ hm
  obtain ⟨aa2, ll2, cc2, rfl⟩ := okWide_slice Try.underlying22 (hval 2 22 v2 rfl rfl)
  obtain ⟨fuel2, hf2⟩ := h2
  have hf2 : DataW.trod enc Try.prog W 0 (fun _ => true) true fuel2 22 [.slice aa2 ll2 cc2] = some (d2, p2) := by simpa [Value.cells] using hf2
  obtain ⟨A2_, m2_, l2, hcs2, ⟨u2_, o2_, g2_, w2_⟩, z2_⟩ := row_22 hf2
  injection hcs2 with e1 e2 e3
  subst e1 e2 e3
  have y2_ : l2.length * 32 ≤ 140737488351232 := by
    rcases z2_ with z | ⟨el, sp, hd, hle⟩
    · subst z; simp
    · have hd : d2 = .slice el sp := hd
      subst hd
      have q := sized_slice hsz (j := 2) (t := 22) rfl rfl Try.underlying22
      have hb : Try.prog.bytesOf 36 = 32 := by kernel_rfl
      rw [hb] at q
      unfold reachBytes at q
      omega
  have k3 := h3
  have lt3 : ∀ x ∈ p3, x.block < W.heap.size := by obtain ⟨m, hm⟩ := k3; exact DataW.trod_lt m _ _ _ hm
  obtain ⟨a3, rfl, rfl, rfl, w3⟩ := open_int Try.underlying2 (hval 3 2 v3 rfl rfl) h3
  clear hA0 hval0 hsz0 hsz
  obtain ⟨k, hk⟩ := Pure.FnExactSameTerms l0 a1 l2 a3 (Nat.le_trans u0_ o0_) y0_ w0_ w1 (Nat.le_trans u2_ o2_) y2_ w2_ w3
  refine (laws_FnExactSameTerms.calls k _ _ l0 a1 _ _ l2 a3 true rfl W g0_ u0_ g2_ u2_ hk).mono fun e W' ⟨he, bel⟩ => ?_
  subst he
  exact ⟨_, rfl, _, _, _, [], _, [], hW', trodAll_mk1 (shut_bool Try.underlying4 _), (trodAll_cons_mk (Below.trod laidOut (by kernel_rfl) (of_decide_eq_true (by kernel_rfl)) k0 bel lt0) (trodAll_cons_mk (Below.trod laidOut (by kernel_rfl) (of_decide_eq_true (by kernel_rfl)) k1 bel lt1) (trodAll_cons_mk (Below.trod laidOut (by kernel_rfl) (of_decide_eq_true (by kernel_rfl)) k2 bel lt2) (trodAll_cons_mk (Below.trod laidOut (by kernel_rfl) (of_decide_eq_true (by kernel_rfl)) k3 bel lt3) trodAll_mk0)))), rfl, bel.frame _, fun h => by cases h⟩
theorem over : Rows.fnExactSameTermsRow.holds Try.pinned (OpenSpec.ofChange Rows.fnExactSameTermsSpec) :=
  OpenClaim.holds_of_wide 3 Try.f3 rfl rfl rfl rfl rfl rfl rfl ⟨rfl, rfl, rfl, rfl, rfl⟩ rfl rfl rfl rfl rfl (by kernel_rfl) Try.func3 (by kernel_rfl)
    (of_decide_eq_true (by kernel_rfl)) (by unfold Func.isWrapper; first | (rw [if_pos (by decide +kernel)]; kernel_rfl) | (rw [if_neg (by decide +kernel)]; exact ⟨rfl, rfl⟩))
    (fun os started H enc _ => lifted os started H enc)
theorem proved : Rows.FnExactSameTermsSaid := over
#print axioms proved
end Go.Proofs.Ytofaojdkpbheoaa.fnExactSameTerms
namespace Go.Proofs.Ytofaojdkpbheoaa
/-- The row, under a short name, for the claim. -/
theorem fnExactSameTerms_holds : Rows.FnExactSameTermsSaid := fnExactSameTerms.proved
end Go.Proofs.Ytofaojdkpbheoaa
