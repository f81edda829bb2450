/- Of every input the law FnExactPolicyText answers true, and each argument reads behind the call as it read before. No condition beyond the statement's own. -/
import Derived.Test.YtbficbiignpnoaaDoorRows
import Derived.Test.YtbficbiignpnoaaDoorPFnExactPolicyTextx11
import Derived.Test.YtbficbiignpnoaaDoorStFnExactPolicyText
import Derived.Test.YtbficbiignpnoaaDoorPureFnExactPolicyText
import Derived.Test.YtbficbiignpnoaaDoorVFnExactPolicyText
import Derived.LaidMore
import Derived.Stop.Joined
import Derived.Stop.LaidErr
import Derived.Lib.LaidTab
import Derived.MakeChecks
import Derived.SevenTiedAt
import Derived.Test.YtbficbiignpnoaaDoorTie
import Derived.Test.YtbficbiignpnoaaDoorCards
import Derived.WalkKit
import Derived.ProofKit
import Derived.OpenShut
import Derived.ShutString
import Derived.ChangeOld
import Derived.Below
import Derived.SizedLaws
import Derived.Deep.Slices
import Derived.Carry
import Derived.ChangeArms
namespace Go.Proofs.YtbficbiignpnoaaDoor.fnExactPolicyText
open Go.ChangeShapes Go.WideShapes Go.ChangeAt Go.RowKit Go.Deep
open Go.Proofs.YtbficbiignpnoaaDoor.PFnExactPolicyText Go.Proofs.YtbficbiignpnoaaDoorW.PrintWords Go.Proofs.YtbficbiignpnoaaDoorW.PrintLast Go.Proofs.YtbficbiignpnoaaDoorW.PrintMore
open Go.ChangeMaps (open_string shut_string)
set_option linter.unusedVariables false
theorem own : ownKnob Tryd.prog.godebug = none := by kernel_rfl
theorem laidOut : laidOutB Tryd.prog = true := by kernel_rfl
section
variable {H : Type} {enc : TypeId × Value → H} {w : World} {base : Nat} {spare : Nat → Bool} {held : Bool}
theorem one_cell {cs : List Value} (h : cs.length = 1) : ∃ v, cs = [v] := List.length_eq_one_iff.mp h
theorem trod_slice_cells {P : Program} {t e fuel : Nat} {cs : List Value} {x : DataW H × List MemPlace} (ht : P.underlying t = some (.slice e)) (h : DataW.trod enc P w base spare held fuel t cs = some x) : cs.length = 1 := by
  rcases open_slice ht h with ⟨rfl, _⟩ | ⟨a, len, cap, m, n, Dx, Pl, rfl, _⟩ <;> rfl
theorem open_row {P : Program} {α : Type} (d : Kd α) (ok : α → Prop) {t e fuel : Nat} {v : Value} {x : DataW H × List MemPlace} (ht : P.underlying t = some (.slice e)) (hC : P.cellsOf e = d.sz)
    (hel : ∀ (f : Nat) (cs : List Value) (y : DataW H × List MemPlace), DataW.trod enc P w base spare held f e cs = some y → ∃ z, d.K w z cs ∧ ok z) (h : DataW.trod enc P w base spare held fuel t [v] = some x) :
    ∃ (A_ : Option Addr) (m : Nat) (b : List α), v = .slice A_ b.length m ∧ (b.length ≤ m ∧ m ≤ maxLen ∧ d.C w A_ b.length b ∧ ∀ y ∈ b, ok y) ∧ (b = [] ∨ ∃ el sp, x.1 = .slice el sp ∧ b.length ≤ el.length + sp.length) := by
  rcases open_slice ht h with ⟨hcs, _⟩ | ⟨a, len, cap, m, n, Dx, Pl, hcs, hb, hl, hm, hmm, hx, hi⟩
  · refine ⟨none, 0, [], by simpa using hcs, ⟨Nat.le_refl _, by simp [maxLen], ⟨rfl, by simp, fun h => by simp at h⟩, fun y hy => by simp at hy⟩, .inl rfl⟩
  · have hlm : len ≤ m := by rw [hmm]; split <;> omega
    have hz : ∀ i, i < len → ∃ z, (∃ cs', w.cells? base (a.add (i * P.cellsOf e)) (P.cellsOf e) = some cs' ∧ d.K w z cs') ∧ ok z := by
      intro i hil
      obtain ⟨cs', h1, h2⟩ := hi i (by omega)
      obtain ⟨z, h3, h4⟩ := hel _ _ _ h2
      exact ⟨z, ⟨cs', h1, h3⟩, h4⟩
    have hl9 : ∃ b : List α, b.length = len ∧ ∀ j z, b[j]? = some z → (∃ cs', w.cells? base (a.add (j * P.cellsOf e)) (P.cellsOf e) = some cs' ∧ d.K w z cs') ∧ ok z := by
      clear hcs hb hl hm hmm hx hi hlm h
      induction len with
      | zero => exact ⟨[], rfl, fun j z hj => by simp at hj⟩
      | succ q ih =>
        obtain ⟨b, hbl, hbb⟩ := ih (fun i hiq => hz i (by omega))
        obtain ⟨z, hzz⟩ := hz q (by omega)
        refine ⟨b ++ [z], by simp [hbl], fun j y hj => ?_⟩
        rcases Nat.lt_or_ge j b.length with hjl | hjl
        · rw [List.getElem?_append_left hjl] at hj
          exact hbb j y hj
        · rw [List.getElem?_append_right hjl] at hj
          have hj0 : j = q := by
            have := (List.getElem?_eq_some_iff.1 hj).1
            simp at this
            omega
          subst hj0
          rw [hbl, Nat.sub_self] at hj
          simp at hj
          subst hj
          exact hzz
    obtain ⟨b, hbl, hbb⟩ := hl9
    subst hbl
    refine ⟨some a, cap, b, by simpa using hcs, ⟨hl, hm, ⟨rfl, by unfold maxLen at hm; omega, fun _ => ⟨a, rfl, fun j z hj => ?_⟩⟩, fun y hy => ?_⟩, .inr ⟨_, _, by rw [hx], ?_⟩⟩
    · obtain ⟨⟨cs', h1, h2⟩, _⟩ := hbb j z hj
      obtain ⟨_, hlen, hat⟩ := World.cells?_some h1
      refine ⟨cs', by rw [hlen, hC], h2, fun i u hu => ?_⟩
      have hiu := (List.getElem?_eq_some_iff.1 hu).1
      have hc := hat i (by omega)
      rw [← Go.Deep.add_add, ← hC, hc, hu]
    · obtain ⟨j, hj⟩ := List.getElem?_of_mem hy
      exact (hbb j y hj).2
    · simp
theorem len_cells_2 {α : Type} {l : List α} (h : l.length = 2) : ∃ c0 c1, l = [c0, c1] := by
  match l, h with
  | [c0, c1], _ => exact ⟨c0, c1, rfl⟩
theorem len_cells_9 {α : Type} {l : List α} (h : l.length = 9) : ∃ c0 c1 c2 c3 c4 c5 c6 c7 c8, l = [c0, c1, c2, c3, c4, c5, c6, c7, c8] := by
  match l, h with
  | [c0, c1, c2, c3, c4, c5, c6, c7, c8], _ => exact ⟨c0, c1, c2, c3, c4, c5, c6, c7, c8, rfl⟩
theorem len_cells_11 {α : Type} {l : List α} (h : l.length = 11) : ∃ c0 c1 c2 c3 c4 c5 c6 c7 c8 c9 c10, l = [c0, c1, c2, c3, c4, c5, c6, c7, c8, c9, c10] := by
  match l, h with
  | [c0, c1, c2, c3, c4, c5, c6, c7, c8, c9, c10], _ => exact ⟨c0, c1, c2, c3, c4, c5, c6, c7, c8, c9, c10, rfl⟩
theorem cells_54 {fuel : Nat} {cs : List Value} {x : DataW H × List MemPlace} (h : DataW.trod enc Tryd.prog w base spare held fuel 54 cs = some x) :
    ∃ (b0 : Int) (b1 : Int), cs = [.int .i64 b0, .int .i64 b1] ∧ (Lit.int .i64 b0).wf = true ∧ (Lit.int .i64 b1).wf = true := by
  obtain ⟨xs, n, _, _, hl, hx, hf⟩ := DataW.trod_struct Tryd.underlying54 h
  have hl : cs.length = 2 := hl.trans (by kernel_rfl)
  obtain ⟨c0, c1, rfl⟩ := len_cells_2 hl
  obtain ⟨y0, e0⟩ : ∃ y, xs[0]? = some y := ⟨_, List.getElem?_eq_getElem (by rw [hx]; decide)⟩
  have g0 : DataW.trod enc Tryd.prog w base spare held n 2 [c0] = some y0 := by
    have g : DataW.trod enc Tryd.prog w base spare held n 2 ((List.drop 0 [c0, c1]).take (Tryd.prog.cellsOf 2)) = some y0 := (hf 0 _ rfl).trans e0
    rw [show Tryd.prog.cellsOf 2 = 1 from by kernel_rfl] at g
    exact g
  obtain ⟨b0, z0, _, w0⟩ := DataW.trod_int Tryd.underlying2 g0
  have eq0 : c0 = .int .i64 b0 := by simpa using z0
  obtain ⟨y1, e1⟩ : ∃ y, xs[1]? = some y := ⟨_, List.getElem?_eq_getElem (by rw [hx]; decide)⟩
  have g1 : DataW.trod enc Tryd.prog w base spare held n 2 [c1] = some y1 := by
    have g : DataW.trod enc Tryd.prog w base spare held n 2 ((List.drop 1 [c0, c1]).take (Tryd.prog.cellsOf 2)) = some y1 := (hf 1 _ rfl).trans e1
    rw [show Tryd.prog.cellsOf 2 = 1 from by kernel_rfl] at g
    exact g
  obtain ⟨b1, z1, _, w1⟩ := DataW.trod_int Tryd.underlying2 g1
  have eq1 : c1 = .int .i64 b1 := by simpa using z1
  subst eq0 eq1
  exact ⟨b0, b1, rfl, w0, w1⟩
theorem cells_56 {fuel : Nat} {cs : List Value} {x : DataW H × List MemPlace} (h : DataW.trod enc Tryd.prog w base spare held fuel 56 cs = some x) :
    ∃ (b0 : Int) (b1 : Int) (b2 : Int) (b3 : Int) (b4 : Int) (b5 : Int) (b6 : Int) (b7 : Int) (b8 : Int), cs = [.int .i64 b0, .int .i64 b1, .int .i64 b2, .int .i64 b3, .int .i64 b4, .int .i64 b5, .int .i64 b6, .int .i64 b7, .int .i64 b8] ∧ (Lit.int .i64 b0).wf = true ∧ (Lit.int .i64 b1).wf = true ∧ (Lit.int .i64 b2).wf = true ∧ (Lit.int .i64 b3).wf = true ∧ (Lit.int .i64 b4).wf = true ∧ (Lit.int .i64 b5).wf = true ∧ (Lit.int .i64 b6).wf = true ∧ (Lit.int .i64 b7).wf = true ∧ (Lit.int .i64 b8).wf = true := by
  obtain ⟨xs, n, _, _, hl, hx, hf⟩ := DataW.trod_struct Tryd.underlying56 h
  have hl : cs.length = 9 := hl.trans (by kernel_rfl)
  obtain ⟨c0, c1, c2, c3, c4, c5, c6, c7, c8, rfl⟩ := len_cells_9 hl
  obtain ⟨y0, e0⟩ : ∃ y, xs[0]? = some y := ⟨_, List.getElem?_eq_getElem (by rw [hx]; decide)⟩
  have g0 : DataW.trod enc Tryd.prog w base spare held n 54 [c0, c1] = some y0 := by
    have g : DataW.trod enc Tryd.prog w base spare held n 54 ((List.drop 0 [c0, c1, c2, c3, c4, c5, c6, c7, c8]).take (Tryd.prog.cellsOf 54)) = some y0 := (hf 0 _ rfl).trans e0
    rw [show Tryd.prog.cellsOf 54 = 2 from by kernel_rfl] at g
    exact g
  obtain ⟨b0, b1, z0, w0, w1⟩ := cells_54 g0
  simp only [List.cons.injEq, and_true] at z0
  obtain ⟨eq0, eq1⟩ := z0
  obtain ⟨y1, e1⟩ : ∃ y, xs[1]? = some y := ⟨_, List.getElem?_eq_getElem (by rw [hx]; decide)⟩
  have g1 : DataW.trod enc Tryd.prog w base spare held n 54 [c2, c3] = some y1 := by
    have g : DataW.trod enc Tryd.prog w base spare held n 54 ((List.drop 2 [c0, c1, c2, c3, c4, c5, c6, c7, c8]).take (Tryd.prog.cellsOf 54)) = some y1 := (hf 1 _ rfl).trans e1
    rw [show Tryd.prog.cellsOf 54 = 2 from by kernel_rfl] at g
    exact g
  obtain ⟨b2, b3, z2, w2, w3⟩ := cells_54 g1
  simp only [List.cons.injEq, and_true] at z2
  obtain ⟨eq2, eq3⟩ := z2
  obtain ⟨y2, e2⟩ : ∃ y, xs[2]? = some y := ⟨_, List.getElem?_eq_getElem (by rw [hx]; decide)⟩
  have g2 : DataW.trod enc Tryd.prog w base spare held n 54 [c4, c5] = some y2 := by
    have g : DataW.trod enc Tryd.prog w base spare held n 54 ((List.drop 4 [c0, c1, c2, c3, c4, c5, c6, c7, c8]).take (Tryd.prog.cellsOf 54)) = some y2 := (hf 2 _ rfl).trans e2
    rw [show Tryd.prog.cellsOf 54 = 2 from by kernel_rfl] at g
    exact g
  obtain ⟨b4, b5, z4, w4, w5⟩ := cells_54 g2
  simp only [List.cons.injEq, and_true] at z4
  obtain ⟨eq4, eq5⟩ := z4
  obtain ⟨y3, e3⟩ : ∃ y, xs[3]? = some y := ⟨_, List.getElem?_eq_getElem (by rw [hx]; decide)⟩
  have g3 : DataW.trod enc Tryd.prog w base spare held n 54 [c6, c7] = some y3 := by
    have g : DataW.trod enc Tryd.prog w base spare held n 54 ((List.drop 6 [c0, c1, c2, c3, c4, c5, c6, c7, c8]).take (Tryd.prog.cellsOf 54)) = some y3 := (hf 3 _ rfl).trans e3
    rw [show Tryd.prog.cellsOf 54 = 2 from by kernel_rfl] at g
    exact g
  obtain ⟨b6, b7, z6, w6, w7⟩ := cells_54 g3
  simp only [List.cons.injEq, and_true] at z6
  obtain ⟨eq6, eq7⟩ := z6
  obtain ⟨y4, e4⟩ : ∃ y, xs[4]? = some y := ⟨_, List.getElem?_eq_getElem (by rw [hx]; decide)⟩
  have g4 : DataW.trod enc Tryd.prog w base spare held n 2 [c8] = some y4 := by
    have g : DataW.trod enc Tryd.prog w base spare held n 2 ((List.drop 8 [c0, c1, c2, c3, c4, c5, c6, c7, c8]).take (Tryd.prog.cellsOf 2)) = some y4 := (hf 4 _ rfl).trans e4
    rw [show Tryd.prog.cellsOf 2 = 1 from by kernel_rfl] at g
    exact g
  obtain ⟨b8, z8, _, w8⟩ := DataW.trod_int Tryd.underlying2 g4
  have eq8 : c8 = .int .i64 b8 := by simpa using z8
  subst eq0 eq1 eq2 eq3 eq4 eq5 eq6 eq7 eq8
  exact ⟨b0, b1, b2, b3, b4, b5, b6, b7, b8, rfl, w0, w1, w2, w3, w4, w5, w6, w7, w8⟩
theorem cells_58 {fuel : Nat} {cs : List Value} {x : DataW H × List MemPlace} (h : DataW.trod enc Tryd.prog w base spare held fuel 58 cs = some x) :
    ∃ (b0 : Int) (b1 : Int) (b2 : Int) (b3 : Int) (b4 : Int) (b5 : Int) (b6 : Int) (b7 : Int) (b8 : Int) (b9 : Int) (b10 : Int), cs = [.int .i64 b0, .int .i64 b1, .int .i64 b2, .int .i64 b3, .int .i64 b4, .int .i64 b5, .int .i64 b6, .int .i64 b7, .int .i64 b8, .int .i64 b9, .int .i64 b10] ∧ (Lit.int .i64 b0).wf = true ∧ (Lit.int .i64 b1).wf = true ∧ (Lit.int .i64 b2).wf = true ∧ (Lit.int .i64 b3).wf = true ∧ (Lit.int .i64 b4).wf = true ∧ (Lit.int .i64 b5).wf = true ∧ (Lit.int .i64 b6).wf = true ∧ (Lit.int .i64 b7).wf = true ∧ (Lit.int .i64 b8).wf = true ∧ (Lit.int .i64 b9).wf = true ∧ (Lit.int .i64 b10).wf = true := by
  obtain ⟨xs, n, _, _, hl, hx, hf⟩ := DataW.trod_struct Tryd.underlying58 h
  have hl : cs.length = 11 := hl.trans (by kernel_rfl)
  obtain ⟨c0, c1, c2, c3, c4, c5, c6, c7, c8, c9, c10, rfl⟩ := len_cells_11 hl
  obtain ⟨y0, e0⟩ : ∃ y, xs[0]? = some y := ⟨_, List.getElem?_eq_getElem (by rw [hx]; decide)⟩
  have g0 : DataW.trod enc Tryd.prog w base spare held n 56 [c0, c1, c2, c3, c4, c5, c6, c7, c8] = some y0 := by
    have g : DataW.trod enc Tryd.prog w base spare held n 56 ((List.drop 0 [c0, c1, c2, c3, c4, c5, c6, c7, c8, c9, c10]).take (Tryd.prog.cellsOf 56)) = some y0 := (hf 0 _ rfl).trans e0
    rw [show Tryd.prog.cellsOf 56 = 9 from by kernel_rfl] at g
    exact g
  obtain ⟨b0, b1, b2, b3, b4, b5, b6, b7, b8, z0, w0, w1, w2, w3, w4, w5, w6, w7, w8⟩ := cells_56 g0
  simp only [List.cons.injEq, and_true] at z0
  obtain ⟨eq0, eq1, eq2, eq3, eq4, eq5, eq6, eq7, eq8⟩ := z0
  obtain ⟨y1, e1⟩ : ∃ y, xs[1]? = some y := ⟨_, List.getElem?_eq_getElem (by rw [hx]; decide)⟩
  have g1 : DataW.trod enc Tryd.prog w base spare held n 2 [c9] = some y1 := by
    have g : DataW.trod enc Tryd.prog w base spare held n 2 ((List.drop 9 [c0, c1, c2, c3, c4, c5, c6, c7, c8, c9, c10]).take (Tryd.prog.cellsOf 2)) = some y1 := (hf 1 _ rfl).trans e1
    rw [show Tryd.prog.cellsOf 2 = 1 from by kernel_rfl] at g
    exact g
  obtain ⟨b9, z9, _, w9⟩ := DataW.trod_int Tryd.underlying2 g1
  have eq9 : c9 = .int .i64 b9 := by simpa using z9
  obtain ⟨y2, e2⟩ : ∃ y, xs[2]? = some y := ⟨_, List.getElem?_eq_getElem (by rw [hx]; decide)⟩
  have g2 : DataW.trod enc Tryd.prog w base spare held n 2 [c10] = some y2 := by
    have g : DataW.trod enc Tryd.prog w base spare held n 2 ((List.drop 10 [c0, c1, c2, c3, c4, c5, c6, c7, c8, c9, c10]).take (Tryd.prog.cellsOf 2)) = some y2 := (hf 2 _ rfl).trans e2
    rw [show Tryd.prog.cellsOf 2 = 1 from by kernel_rfl] at g
    exact g
  obtain ⟨b10, z10, _, w10⟩ := DataW.trod_int Tryd.underlying2 g2
  have eq10 : c10 = .int .i64 b10 := by simpa using z10
  subst eq0 eq1 eq2 eq3 eq4 eq5 eq6 eq7 eq8 eq9 eq10
  exact ⟨b0, b1, b2, b3, b4, b5, b6, b7, b8, b9, b10, rfl, w0, w1, w2, w3, w4, w5, w6, w7, w8, w9, w10⟩
theorem row_27 {fuel : Nat} {v : Value} {x : DataW H × List MemPlace} (h : DataW.trod enc Tryd.prog w base spare held fuel 27 [v] = some x) :
    ∃ (A_ : Option Addr) (m : Nat) (b : (List S58)), v = .slice A_ b.length m ∧ (b.length ≤ m ∧ m ≤ maxLen ∧ k58.C w A_ b.length b ∧ (∀ y ∈ b, ok58 y)) ∧ (b = [] ∨ ∃ el sp, x.1 = .slice el sp ∧ b.length ≤ el.length + sp.length) := by
  refine open_row k58 _ Tryd.underlying27 (by kernel_rfl) ?_ h
  intro f cs y hy
  obtain ⟨b0, b1, b2, b3, b4, b5, b6, b7, b8, b9, b10, rfl, w0, w1, w2, w3, w4, w5, w6, w7, w8, w9, w10⟩ := cells_58 hy
  exact ⟨(⟨(⟨(⟨b0, b1⟩ : S54), (⟨b2, b3⟩ : S54), (⟨b4, b5⟩ : S54), (⟨b6, b7⟩ : S54), b8⟩ : S56), b9, b10⟩ : S58), k58_mk w (⟨(⟨(⟨b0, b1⟩ : S54), (⟨b2, b3⟩ : S54), (⟨b4, b5⟩ : S54), (⟨b6, b7⟩ : S54), b8⟩ : S56), b9, b10⟩ : S58), ⟨w0, w1, w2, w3, w4, w5, w6, w7, w8, w9, w10⟩⟩
end
/-- The door's own heap meets the condition: closed facts. -/
theorem door_met (os : Os) (args : Array Value) : laidMetH Tryd.prog Rows.fnExactPolicyTextRow.laid ((World.doorLaid Tryd.prog 24 os).forCall (fun _ _ => 0) ⟨#[], args, []⟩).memory :=
  laidMetH_of_parts3 (fuel := 8) (laidMet_of_run' 8 (by kernel_rfl) (by kernel_rfl)) (by kernel_rfl) (by kernel_rfl)
/-- What the condition gives the walk: the table of powers of ten. -/
theorem tab_of {W : World} (h : laidMetH Tryd.prog Rows.fnExactPolicyTextRow.laid W) : PFnExactPolicyText.Tb W := by
  rw [MakeChecks.laidMetH_plain _ _ _ (by kernel_rfl)] at h
  have h3 : laidMet Tryd.prog (("internal/strconv.uint64pow10", Lib.tabData .u64 Lib.pow10Tab) :: []) W := (laidMet.tail (laidMet.tail h))
  exact PFnExactPolicyText.Tb.of (Lib.tabIs_of_head (g := 0) (t := 119) (e := 111) (n := 20) (by kernel_rfl) (by kernel_rfl) Tryd.underlying119 Tryd.underlying111 (by kernel_rfl) (by kernel_rfl) h3)
set_option maxRecDepth 100000 in
theorem lifted (os : Os) (started : os.Started) (H : Type) (enc : TypeId × Value → H) :
    ReturnsInHanded {} Tryd.checked os 4 .any (fun w args => (Rows.fnExactPolicyTextSpec.pre enc Tryd.prog Tryd.f4 [] false w args ∧ laidMetH Tryd.prog Rows.fnExactPolicyTextRow.laid w) ∧ sizedMet enc Tryd.prog Tryd.f4 (OpenSpec.ofChange Rows.fnExactPolicyTextSpec) false w args) (Rows.fnExactPolicyTextSpec.post enc Tryd.prog Tryd.f4 false true false false) := by
  refine returnsInHanded_of_change_and (C := Tryd.checked) (X := fun w _ => laidMetH Tryd.prog Rows.fnExactPolicyTextRow.laid w) (fun _ _ _ hh h => h.of_heap hh) own started (by kernel_rfl) Tryd.func4
    (ChangeSpec.witness_shaped (enc := enc) (C := Tryd.checked) (os := os) (X := fun w _ => laidMetH Tryd.prog Rows.fnExactPolicyTextRow.laid w) false (World.doorLaid Tryd.prog 24 os) #[.slice none 0 0] 8 rfl (World.shaped_of_RefB (by kernel_rfl) (by kernel_rfl)) (by kernel_rfl) (by kernel_rfl) (by kernel_rfl) (door_met os _)) ?_
  intro W base args ds gs before hval0 hW hcnd hsz0 hL _
  have hsz : (DataW.weightsEach Tryd.prog (Tryd.f4.params.toList ++ Rows.fnExactPolicyTextSpec.plain.varTypes Tryd.prog) (ds ++ gs)).all (· ≤ reachBytes) = true := hsz0
  have hval : ∀ (j : Nat) t v, Tryd.f4.params[j]? = some t → args[j]? = some v → Value.okWide Tryd.prog W .any base t v := hval0
  have hW' := hW
  obtain ⟨p, q, hA0, hV, rfl, hfz, hnd⟩ := hW
  have hA : DataW.TrodAll enc Tryd.prog W 0 (fun _ => true) true Tryd.f4.params.toList args.toList ds p := hA0
  rw [Tryd.params4] at hA hval hsz
  obtain ⟨v0, vs0, d0, ds0, p0, q0, hargs, rfl, rfl, h0, r0⟩ := trodAll_cons hA
  obtain ⟨rfl, rfl, rfl⟩ := trodAll_nil r0
  obtain rfl : args = #[v0] := by cases args; simp_all
  obtain ⟨rfl, rfl⟩ := trodVars_none hV
  have k0 := h0
  have lt0 : ∀ x ∈ p0, x.block < W.heap.size := by obtain ⟨m, hm⟩ := k0; exact DataW.trod_lt m _ _ _ hm
  obtain ⟨aa0, ll0, cc0, rfl⟩ := okWide_slice Tryd.underlying27 (hval 0 27 v0 rfl rfl)
  obtain ⟨fuel0, hf0⟩ := h0
  have hf0 : DataW.trod enc Tryd.prog W 0 (fun _ => true) true fuel0 27 [.slice aa0 ll0 cc0] = some (d0, p0) := by simpa [Value.cells] using hf0
  obtain ⟨A0_, m0_, l0, hcs0, ⟨u0_, o0_, g0_, w0_⟩, z0_⟩ := row_27 hf0
  injection hcs0 with e1 e2 e3
  subst e1 e2 e3
  have y0_ : l0.length * 88 ≤ 140737488351232 := by
    rcases z0_ with z | ⟨el, sp, hd, hle⟩
    · subst z; simp
    · have hd : d0 = .slice el sp := hd
      subst hd
      have q := sized_slice hsz (j := 0) (t := 27) rfl rfl Tryd.underlying27
      have hb : Tryd.prog.bytesOf 58 = 88 := by kernel_rfl
      rw [hb] at q
      unfold reachBytes at q
      omega
  clear hA0 hval0 hsz0 hsz
  obtain ⟨k, hk⟩ := Pure.FnExactPolicyText l0 (Nat.le_trans u0_ o0_) y0_ w0_
  have HT := tab_of hL
  have HB := Aside0.mk (Below.refl W.heap.size W)
  refine (laws_FnExactPolicyText.calls k _ _ l0 true rfl W g0_ u0_ hk).mono fun e W' ⟨he, bel⟩ => ?_
  subst he
  exact ⟨_, rfl, _, _, _, [], _, [], hW', trodAll_mk1 (shut_bool Tryd.underlying4 _), (trodAll_cons_mk (Below.trod laidOut (by kernel_rfl) (of_decide_eq_true (by kernel_rfl)) k0 bel lt0) trodAll_mk0), rfl, bel.frame _, fun h => by cases h⟩
theorem over : Rows.fnExactPolicyTextRow.holds Tryd.pinned (OpenSpec.ofChange Rows.fnExactPolicyTextSpec) :=
  OpenClaim.holds_of_wide 4 Tryd.f4 rfl rfl rfl rfl rfl rfl rfl ⟨rfl, rfl, rfl, rfl, rfl⟩ rfl rfl rfl rfl rfl (by kernel_rfl) Tryd.func4 (by kernel_rfl)
    (of_decide_eq_true (by kernel_rfl)) (by unfold Func.isWrapper; first | (rw [if_pos (by decide +kernel)]; kernel_rfl) | (rw [if_neg (by decide +kernel)]; exact ⟨rfl, rfl⟩))
    (fun os started H enc _ => lifted os started H enc)
theorem row_holds : Rows.FnExactPolicyTextSaid := over
theorem card_holds : Rows.FnExactPolicyTextCardSaid :=
  Claim7.holds_tied_plain_at .later [] [.data, .data, .data] true (true, "0b5841960b553a44d4c8410b966e3e388734351b54125a0723f4c7ceedc5ce58") false
    row_holds (fun _ h => by cases h) (by kernel_rfl) (fun _ h => by cases h) fnExactPolicyText_row_tie rfl ⟨rfl, rfl⟩ (by kernel_rfl) rfl
    (fun f fn hf hfn => by
      obtain rfl : f = 4 := Option.some.inj ((show Tryd.prog.funcNamed "loop.example/g00205/laws.FnExactPolicyText" = some 4 by kernel_rfl).symm.trans hf) |>.symm
      obtain rfl : fn = Tryd.f4 := (Option.some.inj (Tryd.func4.symm.trans hfn)).symm
      exact ⟨by kernel_rfl, fun j t ht => by
        rw [Tryd.params4] at ht
        have hm : t ∈ [27] := by simpa using Array.mem_of_getElem? ht
        have hall : ([27].all fun u => !Tryd.prog.wantsStandIn u) = true := by kernel_rfl
        exact (show Tryd.prog.wantsStandIn t = false by simpa using List.all_eq_true.1 hall t hm)⟩)
    (by kernel_rfl)
theorem proved : Rows.FnExactPolicyTextCardSaid := card_holds
#print axioms proved
end Go.Proofs.YtbficbiignpnoaaDoor.fnExactPolicyText
namespace Go.Proofs.YtbficbiignpnoaaDoor
/-- The card, under a short name, for the claim. -/
theorem fnExactPolicyText_holds : Rows.FnExactPolicyTextCardSaid := fnExactPolicyText.proved
end Go.Proofs.YtbficbiignpnoaaDoor
