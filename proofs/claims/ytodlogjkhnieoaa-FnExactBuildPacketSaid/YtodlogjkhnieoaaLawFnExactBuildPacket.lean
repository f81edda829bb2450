/- Of every input the law FnExactBuildPacket answers true, and each argument reads behind the call as it read before. No condition beyond the statement's own. -/
import Derived.Test.YtodlogjkhnieoaaRows
import Derived.Test.YtodlogjkhnieoaaPFnExactBuildPacketx6
import Derived.Test.YtodlogjkhnieoaaStFnExactBuildPacket
import Derived.Test.YtodlogjkhnieoaaPureFnExactBuildPacket
import Derived.Test.YtodlogjkhnieoaaVFnExactBuildPacket
import Derived.WalkKit
import Derived.ProofKit
import Derived.OpenShut
import Derived.ShutString
import Derived.ChangeOld
import Derived.Below
import Derived.SizedLaws
import Derived.Deep.Slices
import Derived.Carry
import Derived.ChangeArms
namespace Go.Proofs.Ytodlogjkhnieoaa.fnExactBuildPacket
open Go.ChangeShapes Go.WideShapes Go.ChangeAt Go.RowKit Go.Deep
open Go.Proofs.Ytodlogjkhnieoaa.PFnExactBuildPacket Go.Proofs.YtodlogjkhnieoaaW.PrintWords Go.Proofs.YtodlogjkhnieoaaW.PrintLast Go.Proofs.YtodlogjkhnieoaaW.PrintMore
open Go.ChangeMaps (open_string shut_string)
set_option linter.unusedVariables false
theorem own : ownKnob Try.prog.godebug = none := by kernel_rfl
theorem laidOut : laidOutB Try.prog = true := by kernel_rfl
section
variable {H : Type} {enc : TypeId × Value → H} {w : World} {base : Nat} {spare : Nat → Bool} {held : Bool}
theorem one_cell {cs : List Value} (h : cs.length = 1) : ∃ v, cs = [v] := List.length_eq_one_iff.mp h
theorem trod_slice_cells {P : Program} {t e fuel : Nat} {cs : List Value} {x : DataW H × List MemPlace} (ht : P.underlying t = some (.slice e)) (h : DataW.trod enc P w base spare held fuel t cs = some x) : cs.length = 1 := by
  rcases open_slice ht h with ⟨rfl, _⟩ | ⟨a, len, cap, m, n, Dx, Pl, rfl, _⟩ <;> rfl
theorem open_row {P : Program} {α : Type} (d : Kd α) (ok : α → Prop) {t e fuel : Nat} {v : Value} {x : DataW H × List MemPlace} (ht : P.underlying t = some (.slice e)) (hC : P.cellsOf e = d.sz)
    (hel : ∀ (f : Nat) (cs : List Value) (y : DataW H × List MemPlace), DataW.trod enc P w base spare held f e cs = some y → ∃ z, d.K w z cs ∧ ok z) (h : DataW.trod enc P w base spare held fuel t [v] = some x) :
    ∃ (A_ : Option Addr) (m : Nat) (b : List α), v = .slice A_ b.length m ∧ (b.length ≤ m ∧ m ≤ maxLen ∧ d.C w A_ b.length b ∧ ∀ y ∈ b, ok y) ∧ (b = [] ∨ ∃ el sp, x.1 = .slice el sp ∧ b.length ≤ el.length + sp.length) := by
  rcases open_slice ht h with ⟨hcs, _⟩ | ⟨a, len, cap, m, n, Dx, Pl, hcs, hb, hl, hm, hmm, hx, hi⟩
  · refine ⟨none, 0, [], by simpa using hcs, ⟨Nat.le_refl _, by simp [maxLen], ⟨rfl, by simp, fun h => by simp at h⟩, fun y hy => by simp at hy⟩, .inl rfl⟩
  · have hlm : len ≤ m := by rw [hmm]; split <;> omega
    have hz : ∀ i, i < len → ∃ z, (∃ cs', w.cells? base (a.add (i * P.cellsOf e)) (P.cellsOf e) = some cs' ∧ d.K w z cs') ∧ ok z := by
      intro i hil
      obtain ⟨cs', h1, h2⟩ := hi i (by omega)
      obtain ⟨z, h3, h4⟩ := hel _ _ _ h2
      exact ⟨z, ⟨cs', h1, h3⟩, h4⟩
    have hl9 : ∃ b : List α, b.length = len ∧ ∀ j z, b[j]? = some z → (∃ cs', w.cells? base (a.add (j * P.cellsOf e)) (P.cellsOf e) = some cs' ∧ d.K w z cs') ∧ ok z := by
      clear hcs hb hl hm hmm hx hi hlm h
      induction len with
      | zero => exact ⟨[], rfl, fun j z hj => by simp at hj⟩
      | succ q ih =>
        obtain ⟨b, hbl, hbb⟩ := ih (fun i hiq => hz i (by omega))
        obtain ⟨z, hzz⟩ := hz q (by omega)
        refine ⟨b ++ [z], by simp [hbl], fun j y hj => ?_⟩
        rcases Nat.lt_or_ge j b.length with hjl | hjl
        · rw [List.getElem?_append_left hjl] at hj
          exact hbb j y hj
        · rw [List.getElem?_append_right hjl] at hj
          have hj0 : j = q := by
            have := (List.getElem?_eq_some_iff.1 hj).1
            simp at this
            omega
          subst hj0
          rw [hbl, Nat.sub_self] at hj
          simp at hj
          subst hj
          exact hzz
    obtain ⟨b, hbl, hbb⟩ := hl9
    subst hbl
    refine ⟨some a, cap, b, by simpa using hcs, ⟨hl, hm, ⟨rfl, by unfold maxLen at hm; omega, fun _ => ⟨a, rfl, fun j z hj => ?_⟩⟩, fun y hy => ?_⟩, .inr ⟨_, _, by rw [hx], ?_⟩⟩
    · obtain ⟨⟨cs', h1, h2⟩, _⟩ := hbb j z hj
      obtain ⟨_, hlen, hat⟩ := World.cells?_some h1
      refine ⟨cs', by rw [hlen, hC], h2, fun i u hu => ?_⟩
      have hiu := (List.getElem?_eq_some_iff.1 hu).1
      have hc := hat i (by omega)
      rw [← Go.Deep.add_add, ← hC, hc, hu]
    · obtain ⟨j, hj⟩ := List.getElem?_of_mem hy
      exact (hbb j y hj).2
    · simp
theorem len_cells_7 {α : Type} {l : List α} (h : l.length = 7) : ∃ c0 c1 c2 c3 c4 c5 c6, l = [c0, c1, c2, c3, c4, c5, c6] := by
  match l, h with
  | [c0, c1, c2, c3, c4, c5, c6], _ => exact ⟨c0, c1, c2, c3, c4, c5, c6, rfl⟩
theorem row_22 {fuel : Nat} {v : Value} {x : DataW H × List MemPlace} (h : DataW.trod enc Try.prog w base spare held fuel 22 [v] = some x) :
    ∃ (A_ : Option Addr) (m : Nat) (b : (List Int)), v = .slice A_ b.length m ∧ (b.length ≤ m ∧ m ≤ maxLen ∧ (Kd.int .u8).C w A_ b.length b ∧ (∀ y ∈ b, (Lit.int .u8 y).wf = true)) ∧ (b = [] ∨ ∃ el sp, x.1 = .slice el sp ∧ b.length ≤ el.length + sp.length) := by
  refine open_row (Kd.int .u8) _ Try.underlying22 (by kernel_rfl) ?_ h
  intro f cs y hy
  obtain ⟨n, rfl, _, hn⟩ := DataW.trod_int Try.underlying5 hy
  exact ⟨n, rfl, hn⟩
theorem cells_64 {fuel : Nat} {cs : List Value} {x : DataW H × List MemPlace} (h : DataW.trod enc Try.prog w base spare held fuel 64 cs = some x) :
    ∃ (b0 : Int) (b1 : Int) (b2 : Int) (b3 : Int) (b4 : Int) (b5 : Int) (A6 : Option Addr) (m6 : Nat) (b6 : (List Int)), cs = [.int .i64 b0, .int .i64 b1, .int .i64 b2, .int .i64 b3, .int .i64 b4, .int .i64 b5, .slice A6 b6.length m6] ∧ (Lit.int .i64 b0).wf = true ∧ (Lit.int .i64 b1).wf = true ∧ (Lit.int .i64 b2).wf = true ∧ (Lit.int .i64 b3).wf = true ∧ (Lit.int .i64 b4).wf = true ∧ (Lit.int .i64 b5).wf = true ∧ (b6.length ≤ m6 ∧ m6 ≤ maxLen ∧ (Kd.int .u8).C w A6 b6.length b6 ∧ (∀ y ∈ b6, (Lit.int .u8 y).wf = true)) := by
  obtain ⟨xs, n, _, _, hl, hx, hf⟩ := DataW.trod_struct Try.underlying64 h
  have hl : cs.length = 7 := hl.trans (by kernel_rfl)
  obtain ⟨c0, c1, c2, c3, c4, c5, c6, rfl⟩ := len_cells_7 hl
  obtain ⟨y0, e0⟩ : ∃ y, xs[0]? = some y := ⟨_, List.getElem?_eq_getElem (by rw [hx]; decide)⟩
  have g0 : DataW.trod enc Try.prog w base spare held n 2 [c0] = some y0 := by
    have g : DataW.trod enc Try.prog w base spare held n 2 ((List.drop 0 [c0, c1, c2, c3, c4, c5, c6]).take (Try.prog.cellsOf 2)) = some y0 := (hf 0 _ rfl).trans e0
    rw [show Try.prog.cellsOf 2 = 1 from by kernel_rfl] at g
    exact g
  obtain ⟨b0, z0, _, w0⟩ := DataW.trod_int Try.underlying2 g0
  have eq0 : c0 = .int .i64 b0 := by simpa using z0
  obtain ⟨y1, e1⟩ : ∃ y, xs[1]? = some y := ⟨_, List.getElem?_eq_getElem (by rw [hx]; decide)⟩
  have g1 : DataW.trod enc Try.prog w base spare held n 2 [c1] = some y1 := by
    have g : DataW.trod enc Try.prog w base spare held n 2 ((List.drop 1 [c0, c1, c2, c3, c4, c5, c6]).take (Try.prog.cellsOf 2)) = some y1 := (hf 1 _ rfl).trans e1
    rw [show Try.prog.cellsOf 2 = 1 from by kernel_rfl] at g
    exact g
  obtain ⟨b1, z1, _, w1⟩ := DataW.trod_int Try.underlying2 g1
  have eq1 : c1 = .int .i64 b1 := by simpa using z1
  obtain ⟨y2, e2⟩ : ∃ y, xs[2]? = some y := ⟨_, List.getElem?_eq_getElem (by rw [hx]; decide)⟩
  have g2 : DataW.trod enc Try.prog w base spare held n 2 [c2] = some y2 := by
    have g : DataW.trod enc Try.prog w base spare held n 2 ((List.drop 2 [c0, c1, c2, c3, c4, c5, c6]).take (Try.prog.cellsOf 2)) = some y2 := (hf 2 _ rfl).trans e2
    rw [show Try.prog.cellsOf 2 = 1 from by kernel_rfl] at g
    exact g
  obtain ⟨b2, z2, _, w2⟩ := DataW.trod_int Try.underlying2 g2
  have eq2 : c2 = .int .i64 b2 := by simpa using z2
  obtain ⟨y3, e3⟩ : ∃ y, xs[3]? = some y := ⟨_, List.getElem?_eq_getElem (by rw [hx]; decide)⟩
  have g3 : DataW.trod enc Try.prog w base spare held n 2 [c3] = some y3 := by
    have g : DataW.trod enc Try.prog w base spare held n 2 ((List.drop 3 [c0, c1, c2, c3, c4, c5, c6]).take (Try.prog.cellsOf 2)) = some y3 := (hf 3 _ rfl).trans e3
    rw [show Try.prog.cellsOf 2 = 1 from by kernel_rfl] at g
    exact g
  obtain ⟨b3, z3, _, w3⟩ := DataW.trod_int Try.underlying2 g3
  have eq3 : c3 = .int .i64 b3 := by simpa using z3
  obtain ⟨y4, e4⟩ : ∃ y, xs[4]? = some y := ⟨_, List.getElem?_eq_getElem (by rw [hx]; decide)⟩
  have g4 : DataW.trod enc Try.prog w base spare held n 2 [c4] = some y4 := by
    have g : DataW.trod enc Try.prog w base spare held n 2 ((List.drop 4 [c0, c1, c2, c3, c4, c5, c6]).take (Try.prog.cellsOf 2)) = some y4 := (hf 4 _ rfl).trans e4
    rw [show Try.prog.cellsOf 2 = 1 from by kernel_rfl] at g
    exact g
  obtain ⟨b4, z4, _, w4⟩ := DataW.trod_int Try.underlying2 g4
  have eq4 : c4 = .int .i64 b4 := by simpa using z4
  obtain ⟨y5, e5⟩ : ∃ y, xs[5]? = some y := ⟨_, List.getElem?_eq_getElem (by rw [hx]; decide)⟩
  have g5 : DataW.trod enc Try.prog w base spare held n 2 [c5] = some y5 := by
    have g : DataW.trod enc Try.prog w base spare held n 2 ((List.drop 5 [c0, c1, c2, c3, c4, c5, c6]).take (Try.prog.cellsOf 2)) = some y5 := (hf 5 _ rfl).trans e5
    rw [show Try.prog.cellsOf 2 = 1 from by kernel_rfl] at g
    exact g
  obtain ⟨b5, z5, _, w5⟩ := DataW.trod_int Try.underlying2 g5
  have eq5 : c5 = .int .i64 b5 := by simpa using z5
  obtain ⟨y6, e6⟩ : ∃ y, xs[6]? = some y := ⟨_, List.getElem?_eq_getElem (by rw [hx]; decide)⟩
  have g6 : DataW.trod enc Try.prog w base spare held n 22 [c6] = some y6 := by
    have g : DataW.trod enc Try.prog w base spare held n 22 ((List.drop 6 [c0, c1, c2, c3, c4, c5, c6]).take (Try.prog.cellsOf 22)) = some y6 := (hf 6 _ rfl).trans e6
    rw [show Try.prog.cellsOf 22 = 1 from by kernel_rfl] at g
    exact g
  obtain ⟨A6, m6, b6, eq6, w6, _⟩ := row_22 g6
  subst eq0 eq1 eq2 eq3 eq4 eq5 eq6
  exact ⟨b0, b1, b2, b3, b4, b5, A6, m6, b6, rfl, w0, w1, w2, w3, w4, w5, w6⟩
end
set_option maxRecDepth 100000 in
theorem lifted (os : Os) (started : os.Started) (H : Type) (enc : TypeId × Value → H) :
    ReturnsInHanded {} Try.checked os 9 .any (Rows.fnExactBuildPacketSpec.pre6 enc Try.prog Try.f9 Rows.fnExactBuildPacketRow.domain false) (Rows.fnExactBuildPacketSpec.post enc Try.prog Try.f9 false true false false) := by
  refine returnsInHanded_of_change_sized (C := Try.checked) own started (by kernel_rfl) Try.func9
    (ChangeSpec.witness6 (enc := enc) (C := Try.checked) false ⟨#[], #[.agg #[.int .i64 0, .int .i64 0, .int .i64 0, .int .i64 0, .int .i64 0, .int .i64 0, .slice none 0 0]], []⟩ 8 (by kernel_rfl) (by kernel_rfl) (by kernel_rfl) (by kernel_rfl)) ?_
  intro W base args ds gs before hval0 hW hcnd hsz0 _
  have hsz : (DataW.weightsEach Try.prog (Try.f9.params.toList ++ Rows.fnExactBuildPacketSpec.plain.varTypes Try.prog) (ds ++ gs)).all (· ≤ reachBytes) = true := hsz0
  have hval : ∀ (j : Nat) t v, Try.f9.params[j]? = some t → args[j]? = some v → Value.okWide Try.prog W .any base t v := hval0
  have hW' := hW
  obtain ⟨p, q, hA0, hV, rfl, hfz, hnd⟩ := hW
  have hA : DataW.TrodAll enc Try.prog W 0 (fun _ => true) true Try.f9.params.toList args.toList ds p := hA0
  rw [Try.params9] at hA hval hsz
  obtain ⟨v0, vs0, d0, ds0, p0, q0, hargs, rfl, rfl, h0, r0⟩ := trodAll_cons hA
  obtain ⟨rfl, rfl, rfl⟩ := trodAll_nil r0
  obtain rfl : args = #[v0] := by cases args; simp_all
  obtain ⟨rfl, rfl⟩ := trodVars_none hV
  have k0 := h0
  have lt0 : ∀ x ∈ p0, x.block < W.heap.size := by obtain ⟨m, hm⟩ := k0; exact DataW.trod_lt m _ _ _ hm
  obtain ⟨cs0, rfl, _⟩ := okWide_struct Try.underlying64 (hval 0 64 v0 rfl rfl)
  obtain ⟨fuel0, hf0⟩ := h0
  have hf0 : DataW.trod enc Try.prog W 0 (fun _ => true) true fuel0 64 cs0.toList = some (d0, p0) := by simpa [Value.cells] using hf0
  obtain ⟨a0_0, a0_1, a0_2, a0_3, a0_4, a0_5, A0_6, m0_6, l0_6, hcs0, w0_0, w0_1, w0_2, w0_3, w0_4, w0_5, w0_6⟩ := cells_64 hf0
  obtain rfl := Array.toList_inj.mp (hcs0.trans rfl : cs0.toList = (#[.int .i64 a0_0, .int .i64 a0_1, .int .i64 a0_2, .int .i64 a0_3, .int .i64 a0_4, .int .i64 a0_5, .slice A0_6 l0_6.length m0_6] : Array Value).toList)
  obtain ⟨u0_6, o0_6, g0_6, w0_6⟩ := w0_6
  clear hA0 hval0 hsz0 hsz
  obtain ⟨k, hk⟩ := Pure.FnExactBuildPacket a0_0 a0_1 a0_2 a0_3 a0_4 a0_5 l0_6 w0_0 w0_1 w0_2 w0_3 w0_4 w0_5 (Nat.le_trans u0_6 o0_6) w0_6
  refine (laws_FnExactBuildPacket.calls k a0_0 a0_1 a0_2 a0_3 a0_4 a0_5 _ _ l0_6 true rfl W g0_6 u0_6 hk).mono fun e W' ⟨he, bel⟩ => ?_
  subst he
  exact ⟨_, rfl, _, _, _, [], _, [], hW', trodAll_mk1 (shut_bool Try.underlying4 _), (trodAll_cons_mk (Below.trod laidOut (by kernel_rfl) (of_decide_eq_true (by kernel_rfl)) k0 bel lt0) trodAll_mk0), rfl, bel.frame _, fun h => by cases h⟩
theorem over : Rows.fnExactBuildPacketRow.holds Try.pinned (OpenSpec.ofChange Rows.fnExactBuildPacketSpec) :=
  OpenClaim.holds_of_wide 9 Try.f9 rfl rfl rfl rfl rfl rfl rfl ⟨rfl, rfl, rfl, rfl, rfl⟩ rfl rfl rfl rfl rfl (by kernel_rfl) Try.func9 (by kernel_rfl)
    (of_decide_eq_true (by kernel_rfl)) (by unfold Func.isWrapper; first | (rw [if_pos (by decide +kernel)]; kernel_rfl) | (rw [if_neg (by decide +kernel)]; exact ⟨rfl, rfl⟩))
    (fun os started H enc _ => lifted os started H enc)
theorem proved : Rows.FnExactBuildPacketSaid := over
#print axioms proved
end Go.Proofs.Ytodlogjkhnieoaa.fnExactBuildPacket
namespace Go.Proofs.Ytodlogjkhnieoaa
/-- The row, under a short name, for the claim. -/
theorem fnExactBuildPacket_holds : Rows.FnExactBuildPacketSaid := fnExactBuildPacket.proved
end Go.Proofs.Ytodlogjkhnieoaa
