-- Written by wip/tools/myprint.py of this claim's session, over the kit's print, round texts of its own: own text.
import Derived.Test.YtofaojdkpbheoaaPFnExactSameTermsx0
import Derived.Test.YtofaojdkpbheoaaPFnExactSameTermsx8
namespace Go.Proofs.Ytofaojdkpbheoaa.PFnExactSameTerms
open Go.RowKit Go.Proofs.YtofaojdkpbheoaaW.PrintWords Go.Proofs.YtofaojdkpbheoaaW.PrintLast Go.Proofs.YtofaojdkpbheoaaW.PrintMore
attribute [local go_sem] max2_int min2_int max_two min_two max_three min_three max_four min_four   -- for this text's walks alone
set_option linter.unusedVariables false
set_option linter.unusedSimpArgs false

/-! ### impl_Term_fault: function 32 (my own text) -/
def impl_Term_fault.p1 (l1 : List S34) (at_ : Int) : Option Bool := (impl_isPlace.f l1 at_).bind fun b => some (!b)
def impl_Term_fault.p2 (l1 : List S34) (at_ : Int) : Option Bool := if 0 ≤ at_ then (if at_ < (l1.length : Int) then some ((rd_T34 l1 at_).f0 != 2) else none) else none
def impl_Term_fault.r (a0_0 a0_1 a0_2 a0_3 : Int) (b1 xa xb xn b2 : Bool) (i j : Int) : Int :=
  if b1 = true then (if (xa = false ∧ a0_1 ≠ 0) ∨ (xb = false ∧ a0_2 ≠ 0) ∨ (xn = false ∧ a0_3 ≠ 0) then 1 else if b2 = true then (if 0 ≤ i then 3 else if a0_0 = 6 ∨ a0_0 = 7 then (if 0 ≤ j then 1 else if a0_0 = 7 ∧ a0_1 > a0_2 then 1 else 0) else 0) else 3) else 5
def impl_Term_fault.f (a0_0 : Int) (a0_1 : Int) (a0_2 : Int) (a0_3 : Int) (l1 : List S34) : Option Int :=
  (impl_in.f a0_0 1 7).bind fun b1 => (impl_namesOf.f 9 a0_0).bind fun x => (impl_in.f a0_3 0 9999).bind fun b2 => (impl_Term_parts.f 9 a0_0 a0_1 a0_2 a0_3).bind fun ps => (idxO (impl_Term_fault.p1 l1) ps 0).bind fun i =>
    (if 0 ≤ i then some 0 else idxO (impl_Term_fault.p2 l1) ps 0).bind fun j => some (impl_Term_fault.r a0_0 a0_1 a0_2 a0_3 b1 x.1 x.2.1 x.2.2 b2 i j)
set_option maxHeartbeats 4000000 in
set_option maxRecDepth 100000 in
theorem impl_Term_fault_lit1.calls (A1 : Option Addr) (c1 : Nat) (l1 : List S34) (x : Int) (b : Bool) (pb : Nat) (w W : World) (hpb : pb < w.heap.size) (e0 : w.cell? ⟨pb, 0, none⟩ = some (.slice A1 l1.length c1))
    (hr : Kd.C k34 w A1 l1.length l1) (hc : l1.length ≤ c1) (hb : Below w.heap.size w W) (h : impl_Term_fault.p1 l1 x = some b) :
    Calls Try.prog 36 #[.int .i64 x, .pointer (some ⟨pb, 0, none⟩)] W fun e w' => e = .returned (.bool b) ∧ Below w.heap.size w w' := by
  replace e0 := (hb.cell (p := ⟨pb, 0, none⟩) hpb).trans e0
  obtain ⟨b', h1, h⟩ := Option.bind_eq_some_iff.mp h
  obtain rfl := Option.some.inj h
  have HH := Aside0.mk (impl_isPlace.calls A1 c1 l1 x b' W (Kd.C_below hr hb) hc h1)
  have HB := Aside0.mk hb
  clear hr hc h h1 hb hpb
  go_enter Try.func36, Try.ntmps36
  go_wp2_with (go_at_call 25; refine HH.out.mono ?_; rintro e w' ⟨rfl, ⟨nd, rfl⟩⟩)
  go_ret
  exact ⟨rfl, pw_below_drewN HB.out nd⟩
set_option maxHeartbeats 4000000 in
set_option maxRecDepth 100000 in
theorem impl_Term_fault_lit2.calls (A1 : Option Addr) (c1 : Nat) (l1 : List S34) (x : Int) (b : Bool) (pb : Nat) (w W : World) (hpb : pb < w.heap.size) (e0 : w.cell? ⟨pb, 0, none⟩ = some (.slice A1 l1.length c1))
    (hr : Kd.C k34 w A1 l1.length l1) (hc : l1.length ≤ c1) (hb : Below w.heap.size w W) (h : impl_Term_fault.p2 l1 x = some b) :
    Calls Try.prog 37 #[.int .i64 x, .pointer (some ⟨pb, 0, none⟩)] W fun e w' => e = .returned (.bool b) ∧ Below w.heap.size w w' := by
  replace e0 := (hb.cell (p := ⟨pb, 0, none⟩) hpb).trans e0
  unfold impl_Term_fault.p2 at h
  by_cases h0 : 0 ≤ x
  · rw [if_pos h0] at h
    by_cases h1 : x < (l1.length : Int)
    · rw [if_pos h1] at h
      obtain rfl := Option.some.inj h
      obtain ⟨ad, e, hx0, hx1, hx2, hx3⟩ := at_T34 (Kd.C_below hr hb) x h0 h1
      cases e
      have HB := Aside0.mk hb
      clear hr hc h hb hpb
      have p1 : (0 ≤ x) = True := eq_true h0
      have q1 : (x < (l1.length : Int)) = True := eq_true h1
      have hu := Try.underlying25
      have hu2 := Try.underlying34
      go_enter Try.func37, Try.ntmps37
      go_wp2
      go_ret
      exact ⟨rfl, HB.out⟩
    · rw [if_neg h1] at h
      exact absurd h (by simp)
  · rw [if_neg h0] at h
    exact absurd h (by simp)
set_option maxHeartbeats 16000000 in
set_option maxRecDepth 100000 in
theorem impl_Term_fault_b (a0_0 : Int) (a0_1 : Int) (a0_2 : Int) (a0_3 : Int) (A1 : Option Addr) (c1 : Nat) (l1 : List S34) (xa_ xb_ xn_ b1_ b2_ : Bool) (ps_ : List Int) (i_ j_ r_ : Int) (w : World) (hc1 : l1.length ≤ c1) (HR1 : Aside0 (Kd.C k34 w A1 l1.length l1)) (eg1 : ∀ args w, (callFunc 36 args).run Try.prog w = .ok (.enter 36 args) w) (eg2 : ∀ args w, (callFunc 37 args).run Try.prog w = .ok (.enter 37 args) w) (H1 : Aside0 (impl_in.f a0_0 1 7 = some b1_)) (H2 : Aside0 (impl_namesOf.f 9 a0_0 = some (xa_, xb_, xn_))) (H3 : Aside0 (impl_in.f a0_3 0 9999 = some b2_))
    (H4 : Aside0 (impl_Term_parts.f 9 a0_0 a0_1 a0_2 a0_3 = some ps_)) (H5 : Aside0 (idxO (impl_Term_fault.p1 l1) ps_ 0 = some i_)) (H6 : Aside0 (i_ < 0 → idxO (impl_Term_fault.p2 l1) ps_ 0 = some j_)) (HV : Aside0 (impl_Term_fault.r a0_0 a0_1 a0_2 a0_3 b1_ xa_ xb_ xn_ b2_ i_ j_ = r_)) (vb1 : b1_ = false) :
    Calls Try.prog 32 #[.agg #[.int .i64 a0_0, .int .i64 a0_1, .int .i64 a0_2, .int .i64 a0_3], .slice A1 l1.length c1] w fun e w' => e = .returned (.int .i64 r_) ∧ Below w.heap.size w w' := by
  skip
  all_goals (
    have BX := Aside0.mk (Boxes.start w)
    have hu1 := Try.underlying34
    have hu2 := Try.underlying25
    have hu3 := Try.underlying64
    go_enter Try.func32, Try.ntmps32
    go_wp2_with (first | ((with_reducible refine gate_dst (N := 2) rfl ?_); refine box_event ?hg (N := 2) ?hd (cs := #[.int .i64 a0_0, .int .i64 a0_1, .int .i64 a0_2, .int .i64 a0_3]) (t := 34) ?hr ?_; (case hd => rfl); (case hg => rfl); (case hr => first | (go_simp; done) | (go_simp; rfl)); intro g2 hg w2_ hbox hb; have BY := Aside0.mk (Boxes.new (w0 := w) (bs := []) (by (with_reducible repeat (first | refine Boxes.drewN ?_ _ | refine Boxes.drew ?_ | refine Boxes.alloc ?_ _)); exact BX.out) hg hbox hb); clear BX hb hbox hg; have BX := BY; clear BY; have q2_0 : World.cell? _ ⟨g2, 0, none⟩ = some (.int .i64 a0_0) := BX.out.cell (i := 0) rfl (j := 0) rfl; have f2_0 : World.frozen? _ ⟨g2, 0, none⟩ = false := BX.out.frozen (i := 0) rfl 0; have q2_1 : World.cell? _ ⟨g2, 1, none⟩ = some (.int .i64 a0_1) := BX.out.cell (i := 0) rfl (j := 1) rfl; have f2_1 : World.frozen? _ ⟨g2, 1, none⟩ = false := BX.out.frozen (i := 0) rfl 1; have q2_2 : World.cell? _ ⟨g2, 2, none⟩ = some (.int .i64 a0_2) := BX.out.cell (i := 0) rfl (j := 2) rfl; have f2_2 : World.frozen? _ ⟨g2, 2, none⟩ = false := BX.out.frozen (i := 0) rfl 2; have q2_3 : World.cell? _ ⟨g2, 3, none⟩ = some (.int .i64 a0_3) := BX.out.cell (i := 0) rfl (j := 3) rfl; have f2_3 : World.frozen? _ ⟨g2, 3, none⟩ = false := BX.out.frozen (i := 0) rfl 3) | ((with_reducible refine gate_dst (N := 3) rfl ?_); refine box_event ?hg (N := 3) ?hd (cs := #[.slice A1 l1.length c1]) (t := 25) ?hr ?_; (case hd => rfl); (case hg => rfl); (case hr => first | (go_simp; done) | (go_simp; rfl)); intro g3 hg w3_ hbox hb; have BY := Aside0.mk (Boxes.new (w0 := w) (bs := [(g2, #[.int .i64 a0_0, .int .i64 a0_1, .int .i64 a0_2, .int .i64 a0_3], 34)]) (by (with_reducible repeat (first | refine Boxes.drewN ?_ _ | refine Boxes.drew ?_ | refine Boxes.alloc ?_ _)); exact BX.out) hg hbox hb); clear BX hb hbox hg; have BX := BY; clear BY; clear q2_0 f2_0 q2_1 f2_1 q2_2 f2_2 q2_3 f2_3; have q3_0 : World.cell? _ ⟨g3, 0, none⟩ = some (.slice A1 l1.length c1) := BX.out.cell (i := 0) rfl (j := 0) rfl; have f3_0 : World.frozen? _ ⟨g3, 0, none⟩ = false := BX.out.frozen (i := 0) rfl 0; have q2_0 : World.cell? _ ⟨g2, 0, none⟩ = some (.int .i64 a0_0) := BX.out.cell (i := 1) rfl (j := 0) rfl; have f2_0 : World.frozen? _ ⟨g2, 0, none⟩ = false := BX.out.frozen (i := 1) rfl 0; have q2_1 : World.cell? _ ⟨g2, 1, none⟩ = some (.int .i64 a0_1) := BX.out.cell (i := 1) rfl (j := 1) rfl; have f2_1 : World.frozen? _ ⟨g2, 1, none⟩ = false := BX.out.frozen (i := 1) rfl 1; have q2_2 : World.cell? _ ⟨g2, 2, none⟩ = some (.int .i64 a0_2) := BX.out.cell (i := 1) rfl (j := 2) rfl; have f2_2 : World.frozen? _ ⟨g2, 2, none⟩ = false := BX.out.frozen (i := 1) rfl 2; have q2_3 : World.cell? _ ⟨g2, 3, none⟩ = some (.int .i64 a0_3) := BX.out.cell (i := 1) rfl (j := 3) rfl; have f2_3 : World.frozen? _ ⟨g2, 3, none⟩ = false := BX.out.frozen (i := 1) rfl 3) | ((with_reducible refine gate_dst (N := 5) rfl ?_); refine box_event ?hg (N := 5) ?hd (cs := #[.bool false, .bool false, .bool false]) (t := 64) ?hr ?_; (case hd => rfl); (case hg => rfl); (case hr => first | (go_simp; done) | (go_simp; rfl)); intro g5 hg w5_ hbox hb; have BY := Aside0.mk (Boxes.new (w0 := w) (bs := [(g3, #[.slice A1 l1.length c1], 25), (g2, #[.int .i64 a0_0, .int .i64 a0_1, .int .i64 a0_2, .int .i64 a0_3], 34)]) (by (with_reducible repeat (first | refine Boxes.drewN ?_ _ | refine Boxes.drew ?_ | refine Boxes.alloc ?_ _)); exact BX.out) hg hbox hb); clear BX hb hbox hg; have BX := BY; clear BY; clear q3_0 f3_0 q2_0 f2_0 q2_1 f2_1 q2_2 f2_2 q2_3 f2_3; have q5_0 : World.cell? _ ⟨g5, 0, none⟩ = some (.bool false) := BX.out.cell (i := 0) rfl (j := 0) rfl; have f5_0 : World.frozen? _ ⟨g5, 0, none⟩ = false := BX.out.frozen (i := 0) rfl 0; have q5_1 : World.cell? _ ⟨g5, 1, none⟩ = some (.bool false) := BX.out.cell (i := 0) rfl (j := 1) rfl; have f5_1 : World.frozen? _ ⟨g5, 1, none⟩ = false := BX.out.frozen (i := 0) rfl 1; have q5_2 : World.cell? _ ⟨g5, 2, none⟩ = some (.bool false) := BX.out.cell (i := 0) rfl (j := 2) rfl; have f5_2 : World.frozen? _ ⟨g5, 2, none⟩ = false := BX.out.frozen (i := 0) rfl 2; have q3_0 : World.cell? _ ⟨g3, 0, none⟩ = some (.slice A1 l1.length c1) := BX.out.cell (i := 1) rfl (j := 0) rfl; have f3_0 : World.frozen? _ ⟨g3, 0, none⟩ = false := BX.out.frozen (i := 1) rfl 0; have q2_0 : World.cell? _ ⟨g2, 0, none⟩ = some (.int .i64 a0_0) := BX.out.cell (i := 2) rfl (j := 0) rfl; have f2_0 : World.frozen? _ ⟨g2, 0, none⟩ = false := BX.out.frozen (i := 2) rfl 0; have q2_1 : World.cell? _ ⟨g2, 1, none⟩ = some (.int .i64 a0_1) := BX.out.cell (i := 2) rfl (j := 1) rfl; have f2_1 : World.frozen? _ ⟨g2, 1, none⟩ = false := BX.out.frozen (i := 2) rfl 1; have q2_2 : World.cell? _ ⟨g2, 2, none⟩ = some (.int .i64 a0_2) := BX.out.cell (i := 2) rfl (j := 2) rfl; have f2_2 : World.frozen? _ ⟨g2, 2, none⟩ = false := BX.out.frozen (i := 2) rfl 2; have q2_3 : World.cell? _ ⟨g2, 3, none⟩ = some (.int .i64 a0_3) := BX.out.cell (i := 2) rfl (j := 3) rfl; have f2_3 : World.frozen? _ ⟨g2, 3, none⟩ = false := BX.out.frozen (i := 2) rfl 3) | (go_at_call 34; first | ((with_reducible refine (impl_in.calls a0_0 1 7 _ _ H1.out).mono ?_); rintro e w' ⟨rfl, ⟨nd, rfl⟩⟩) | ((with_reducible refine (impl_in.calls a0_3 0 9999 _ _ H3.out).mono ?_); rintro e w' ⟨rfl, ⟨nd2, rfl⟩⟩)) | (go_at_call 35; refine (impl_namesOf.calls 9 a0_0 _ _ _ _ H2.out).mono ?_; rintro e w12_ ⟨rfl, hb⟩; have BY := Aside0.mk (Boxes.below (w0 := w) (bs := [(g3, #[.slice A1 l1.length c1], 25), (g2, #[.int .i64 a0_0, .int .i64 a0_1, .int .i64 a0_2, .int .i64 a0_3], 34)]) (by (with_reducible repeat (first | refine Boxes.drewN ?_ _ | refine Boxes.drew ?_ | refine Boxes.alloc ?_ _)); exact BX.out) hb); clear BX hb; have BX := BY; clear BY; clear q3_0 f3_0 q2_0 f2_0 q2_1 f2_1 q2_2 f2_2 q2_3 f2_3; have q3_0 : World.cell? _ ⟨g3, 0, none⟩ = some (.slice A1 l1.length c1) := BX.out.cell (i := 0) rfl (j := 0) rfl; have f3_0 : World.frozen? _ ⟨g3, 0, none⟩ = false := BX.out.frozen (i := 0) rfl 0; have q2_0 : World.cell? _ ⟨g2, 0, none⟩ = some (.int .i64 a0_0) := BX.out.cell (i := 1) rfl (j := 0) rfl; have f2_0 : World.frozen? _ ⟨g2, 0, none⟩ = false := BX.out.frozen (i := 1) rfl 0; have q2_1 : World.cell? _ ⟨g2, 1, none⟩ = some (.int .i64 a0_1) := BX.out.cell (i := 1) rfl (j := 1) rfl; have f2_1 : World.frozen? _ ⟨g2, 1, none⟩ = false := BX.out.frozen (i := 1) rfl 1; have q2_2 : World.cell? _ ⟨g2, 2, none⟩ = some (.int .i64 a0_2) := BX.out.cell (i := 1) rfl (j := 2) rfl; have f2_2 : World.frozen? _ ⟨g2, 2, none⟩ = false := BX.out.frozen (i := 1) rfl 2; have q2_3 : World.cell? _ ⟨g2, 3, none⟩ = some (.int .i64 a0_3) := BX.out.cell (i := 1) rfl (j := 3) rfl; have f2_3 : World.frozen? _ ⟨g2, 3, none⟩ = false := BX.out.frozen (i := 1) rfl 3) | ((with_reducible refine gate_store (t := 64) (p := 5) rfl ?_); refine boxes_store (w0 := w) (bs := [(g5, #[.bool xa_, .bool xb_, .bool xn_], 64), (g3, #[.slice A1 l1.length c1], 25), (g2, #[.int .i64 a0_0, .int .i64 a0_1, .int .i64 a0_2, .int .i64 a0_3], 34)]) (W1 := ((World.setCell w5_ ⟨g5, 0, none⟩ (.bool xa_)).setCell ⟨g5, 1, none⟩ (.bool xb_)).setCell ⟨g5, 2, none⟩ (.bool xn_)) rfl rfl rfl ?hr (((Boxes.put (w0 := w) (b1 := []) (b2 := [(g3, #[.slice A1 l1.length c1], 25), (g2, #[.int .i64 a0_0, .int .i64 a0_1, .int .i64 a0_2, .int .i64 a0_3], 34)]) (g := g5) (cs := #[.bool false, .bool false, .bool false]) (t := 64) BX.out 0 (.bool xa_)).put (b1 := []) 1 (.bool xb_)).put (b1 := []) 2 (.bool xn_)) ?_; (case hr => first | (go_simp; done) | (go_simp; rfl)); intro w13_ BY; have BY := Aside0.mk BY; clear BX; have BX := BY; clear BY; clear q5_0 f5_0 q5_1 f5_1 q5_2 f5_2 q3_0 f3_0 q2_0 f2_0 q2_1 f2_1 q2_2 f2_2 q2_3 f2_3; have q5_0 : World.cell? _ ⟨g5, 0, none⟩ = some (.bool xa_) := BX.out.cell (i := 0) rfl (j := 0) rfl; have f5_0 : World.frozen? _ ⟨g5, 0, none⟩ = false := BX.out.frozen (i := 0) rfl 0; have q5_1 : World.cell? _ ⟨g5, 1, none⟩ = some (.bool xb_) := BX.out.cell (i := 0) rfl (j := 1) rfl; have f5_1 : World.frozen? _ ⟨g5, 1, none⟩ = false := BX.out.frozen (i := 0) rfl 1; have q5_2 : World.cell? _ ⟨g5, 2, none⟩ = some (.bool xn_) := BX.out.cell (i := 0) rfl (j := 2) rfl; have f5_2 : World.frozen? _ ⟨g5, 2, none⟩ = false := BX.out.frozen (i := 0) rfl 2; have q3_0 : World.cell? _ ⟨g3, 0, none⟩ = some (.slice A1 l1.length c1) := BX.out.cell (i := 1) rfl (j := 0) rfl; have f3_0 : World.frozen? _ ⟨g3, 0, none⟩ = false := BX.out.frozen (i := 1) rfl 0; have q2_0 : World.cell? _ ⟨g2, 0, none⟩ = some (.int .i64 a0_0) := BX.out.cell (i := 2) rfl (j := 0) rfl; have f2_0 : World.frozen? _ ⟨g2, 0, none⟩ = false := BX.out.frozen (i := 2) rfl 0; have q2_1 : World.cell? _ ⟨g2, 1, none⟩ = some (.int .i64 a0_1) := BX.out.cell (i := 2) rfl (j := 1) rfl; have f2_1 : World.frozen? _ ⟨g2, 1, none⟩ = false := BX.out.frozen (i := 2) rfl 1; have q2_2 : World.cell? _ ⟨g2, 2, none⟩ = some (.int .i64 a0_2) := BX.out.cell (i := 2) rfl (j := 2) rfl; have f2_2 : World.frozen? _ ⟨g2, 2, none⟩ = false := BX.out.frozen (i := 2) rfl 2; have q2_3 : World.cell? _ ⟨g2, 3, none⟩ = some (.int .i64 a0_3) := BX.out.cell (i := 2) rfl (j := 3) rfl; have f2_3 : World.frozen? _ ⟨g2, 3, none⟩ = false := BX.out.frozen (i := 2) rfl 3) | (go_at_call 26; refine (impl_Term_parts.calls 9 a0_0 a0_1 a0_2 a0_3 _ _ H4.out).mono ?_; rintro e w47_ ⟨pv, rfl, hR, hb⟩; obtain ⟨pA, pc, rfl, _, hC⟩ := Kd.R_reads hR; have HC := Aside0.mk hC; clear hC hR; have BY := Aside0.mk (Boxes.below (w0 := w) (bs := [(g5, #[.bool xa_, .bool xb_, .bool xn_], 64), (g3, #[.slice A1 l1.length c1], 25), (g2, #[.int .i64 a0_0, .int .i64 a0_1, .int .i64 a0_2, .int .i64 a0_3], 34)]) (by (with_reducible repeat (first | refine Boxes.drewN ?_ _ | refine Boxes.drew ?_ | refine Boxes.alloc ?_ _)); exact BX.out) hb); clear BX hb; have BX := BY; clear BY; clear q5_0 f5_0 q5_1 f5_1 q5_2 f5_2 q3_0 f3_0 q2_0 f2_0 q2_1 f2_1 q2_2 f2_2 q2_3 f2_3; have q5_0 : World.cell? _ ⟨g5, 0, none⟩ = some (.bool xa_) := BX.out.cell (i := 0) rfl (j := 0) rfl; have f5_0 : World.frozen? _ ⟨g5, 0, none⟩ = false := BX.out.frozen (i := 0) rfl 0; have q5_1 : World.cell? _ ⟨g5, 1, none⟩ = some (.bool xb_) := BX.out.cell (i := 0) rfl (j := 1) rfl; have f5_1 : World.frozen? _ ⟨g5, 1, none⟩ = false := BX.out.frozen (i := 0) rfl 1; have q5_2 : World.cell? _ ⟨g5, 2, none⟩ = some (.bool xn_) := BX.out.cell (i := 0) rfl (j := 2) rfl; have f5_2 : World.frozen? _ ⟨g5, 2, none⟩ = false := BX.out.frozen (i := 0) rfl 2; have q3_0 : World.cell? _ ⟨g3, 0, none⟩ = some (.slice A1 l1.length c1) := BX.out.cell (i := 1) rfl (j := 0) rfl; have f3_0 : World.frozen? _ ⟨g3, 0, none⟩ = false := BX.out.frozen (i := 1) rfl 0; have q2_0 : World.cell? _ ⟨g2, 0, none⟩ = some (.int .i64 a0_0) := BX.out.cell (i := 2) rfl (j := 0) rfl; have f2_0 : World.frozen? _ ⟨g2, 0, none⟩ = false := BX.out.frozen (i := 2) rfl 0; have q2_1 : World.cell? _ ⟨g2, 1, none⟩ = some (.int .i64 a0_1) := BX.out.cell (i := 2) rfl (j := 1) rfl; have f2_1 : World.frozen? _ ⟨g2, 1, none⟩ = false := BX.out.frozen (i := 2) rfl 1; have q2_2 : World.cell? _ ⟨g2, 2, none⟩ = some (.int .i64 a0_2) := BX.out.cell (i := 2) rfl (j := 2) rfl; have f2_2 : World.frozen? _ ⟨g2, 2, none⟩ = false := BX.out.frozen (i := 2) rfl 2; have q2_3 : World.cell? _ ⟨g2, 3, none⟩ = some (.int .i64 a0_3) := BX.out.cell (i := 2) rfl (j := 3) rfl; have f2_3 : World.frozen? _ ⟨g2, 3, none⟩ = false := BX.out.frozen (i := 2) rfl 3) | (go_at_call 23; refine (ContainsFuncI.calls pA pc ps_ 36 #[.pointer (some ⟨g3, 0, none⟩)] (impl_Term_fault.p1 l1) _ _ eg1 HC.out (fun x b W hx hb2 => impl_Term_fault_lit1.calls A1 c1 l1 x b g3 _ W (BX.out.lt (i := 1) rfl) (BX.out.cell (i := 1) rfl (j := 0) rfl) (Kd.C_below HR1.out BX.out.low) hc1 hb2 hx) H5.out).mono ?_; rintro e w49_ ⟨rfl, hb⟩; clear HC; have BY := Aside0.mk (Boxes.below (w0 := w) (bs := [(g5, #[.bool xa_, .bool xb_, .bool xn_], 64), (g3, #[.slice A1 l1.length c1], 25), (g2, #[.int .i64 a0_0, .int .i64 a0_1, .int .i64 a0_2, .int .i64 a0_3], 34)]) (by (with_reducible repeat (first | refine Boxes.drewN ?_ _ | refine Boxes.drew ?_ | refine Boxes.alloc ?_ _)); exact BX.out) hb); clear BX hb; have BX := BY; clear BY; clear q5_0 f5_0 q5_1 f5_1 q5_2 f5_2 q3_0 f3_0 q2_0 f2_0 q2_1 f2_1 q2_2 f2_2 q2_3 f2_3; have q5_0 : World.cell? _ ⟨g5, 0, none⟩ = some (.bool xa_) := BX.out.cell (i := 0) rfl (j := 0) rfl; have f5_0 : World.frozen? _ ⟨g5, 0, none⟩ = false := BX.out.frozen (i := 0) rfl 0; have q5_1 : World.cell? _ ⟨g5, 1, none⟩ = some (.bool xb_) := BX.out.cell (i := 0) rfl (j := 1) rfl; have f5_1 : World.frozen? _ ⟨g5, 1, none⟩ = false := BX.out.frozen (i := 0) rfl 1; have q5_2 : World.cell? _ ⟨g5, 2, none⟩ = some (.bool xn_) := BX.out.cell (i := 0) rfl (j := 2) rfl; have f5_2 : World.frozen? _ ⟨g5, 2, none⟩ = false := BX.out.frozen (i := 0) rfl 2; have q3_0 : World.cell? _ ⟨g3, 0, none⟩ = some (.slice A1 l1.length c1) := BX.out.cell (i := 1) rfl (j := 0) rfl; have f3_0 : World.frozen? _ ⟨g3, 0, none⟩ = false := BX.out.frozen (i := 1) rfl 0; have q2_0 : World.cell? _ ⟨g2, 0, none⟩ = some (.int .i64 a0_0) := BX.out.cell (i := 2) rfl (j := 0) rfl; have f2_0 : World.frozen? _ ⟨g2, 0, none⟩ = false := BX.out.frozen (i := 2) rfl 0; have q2_1 : World.cell? _ ⟨g2, 1, none⟩ = some (.int .i64 a0_1) := BX.out.cell (i := 2) rfl (j := 1) rfl; have f2_1 : World.frozen? _ ⟨g2, 1, none⟩ = false := BX.out.frozen (i := 2) rfl 1; have q2_2 : World.cell? _ ⟨g2, 2, none⟩ = some (.int .i64 a0_2) := BX.out.cell (i := 2) rfl (j := 2) rfl; have f2_2 : World.frozen? _ ⟨g2, 2, none⟩ = false := BX.out.frozen (i := 2) rfl 2; have q2_3 : World.cell? _ ⟨g2, 3, none⟩ = some (.int .i64 a0_3) := BX.out.cell (i := 2) rfl (j := 3) rfl; have f2_3 : World.frozen? _ ⟨g2, 3, none⟩ = false := BX.out.frozen (i := 2) rfl 3) | (go_at_call 23; refine (ContainsFuncI.calls pA pc ps_ 37 #[.pointer (some ⟨g3, 0, none⟩)] (impl_Term_fault.p2 l1) _ _ eg2 HC.out (fun x b W hx hb2 => impl_Term_fault_lit2.calls A1 c1 l1 x b g3 _ W (BX.out.lt (i := 1) rfl) (BX.out.cell (i := 1) rfl (j := 0) rfl) (Kd.C_below HR1.out BX.out.low) hc1 hb2 hx) (H6.out (Int.not_le.mp (of_decide_eq_false ci)))).mono ?_; rintro e w49_ ⟨rfl, hb⟩; clear HC; have BY := Aside0.mk (Boxes.below (w0 := w) (bs := [(g5, #[.bool xa_, .bool xb_, .bool xn_], 64), (g3, #[.slice A1 l1.length c1], 25), (g2, #[.int .i64 a0_0, .int .i64 a0_1, .int .i64 a0_2, .int .i64 a0_3], 34)]) (by (with_reducible repeat (first | refine Boxes.drewN ?_ _ | refine Boxes.drew ?_ | refine Boxes.alloc ?_ _)); exact BX.out) hb); clear BX hb; have BX := BY; clear BY; clear q5_0 f5_0 q5_1 f5_1 q5_2 f5_2 q3_0 f3_0 q2_0 f2_0 q2_1 f2_1 q2_2 f2_2 q2_3 f2_3; have q5_0 : World.cell? _ ⟨g5, 0, none⟩ = some (.bool xa_) := BX.out.cell (i := 0) rfl (j := 0) rfl; have f5_0 : World.frozen? _ ⟨g5, 0, none⟩ = false := BX.out.frozen (i := 0) rfl 0; have q5_1 : World.cell? _ ⟨g5, 1, none⟩ = some (.bool xb_) := BX.out.cell (i := 0) rfl (j := 1) rfl; have f5_1 : World.frozen? _ ⟨g5, 1, none⟩ = false := BX.out.frozen (i := 0) rfl 1; have q5_2 : World.cell? _ ⟨g5, 2, none⟩ = some (.bool xn_) := BX.out.cell (i := 0) rfl (j := 2) rfl; have f5_2 : World.frozen? _ ⟨g5, 2, none⟩ = false := BX.out.frozen (i := 0) rfl 2; have q3_0 : World.cell? _ ⟨g3, 0, none⟩ = some (.slice A1 l1.length c1) := BX.out.cell (i := 1) rfl (j := 0) rfl; have f3_0 : World.frozen? _ ⟨g3, 0, none⟩ = false := BX.out.frozen (i := 1) rfl 0; have q2_0 : World.cell? _ ⟨g2, 0, none⟩ = some (.int .i64 a0_0) := BX.out.cell (i := 2) rfl (j := 0) rfl; have f2_0 : World.frozen? _ ⟨g2, 0, none⟩ = false := BX.out.frozen (i := 2) rfl 0; have q2_1 : World.cell? _ ⟨g2, 1, none⟩ = some (.int .i64 a0_1) := BX.out.cell (i := 2) rfl (j := 1) rfl; have f2_1 : World.frozen? _ ⟨g2, 1, none⟩ = false := BX.out.frozen (i := 2) rfl 1; have q2_2 : World.cell? _ ⟨g2, 2, none⟩ = some (.int .i64 a0_2) := BX.out.cell (i := 2) rfl (j := 2) rfl; have f2_2 : World.frozen? _ ⟨g2, 2, none⟩ = false := BX.out.frozen (i := 2) rfl 2; have q2_3 : World.cell? _ ⟨g2, 3, none⟩ = some (.int .i64 a0_3) := BX.out.cell (i := 2) rfl (j := 3) rfl; have f2_3 : World.frozen? _ ⟨g2, 3, none⟩ = false := BX.out.frozen (i := 2) rfl 3) | fail)
    go_ret
    refine ⟨congrArg (fun z => Ending.returned (Value.int .i64 z)) ?_, (Boxes.low (w0 := w) (bs := [(g3, #[.slice A1 l1.length c1], 25), (g2, #[.int .i64 a0_0, .int .i64 a0_1, .int .i64 a0_2, .int .i64 a0_3], 34)]) (by (with_reducible repeat (first | refine Boxes.drewN ?_ _ | refine Boxes.drew ?_ | refine Boxes.alloc ?_ _)); exact BX.out))⟩
    rw [← HV.out]
    simp only [impl_Term_fault.r]
    clear HV BX HR1 H1 H2 H3 H4 H5 eg1 eg2 hu1 hu2 hu3
    simp_all
    try ((repeat' split) <;> omega))
set_option maxHeartbeats 16000000 in
set_option maxRecDepth 100000 in
theorem impl_Term_fault_n (a0_0 : Int) (a0_1 : Int) (a0_2 : Int) (a0_3 : Int) (A1 : Option Addr) (c1 : Nat) (l1 : List S34) (xa_ xb_ xn_ b1_ b2_ : Bool) (ps_ : List Int) (i_ j_ r_ : Int) (w : World) (hc1 : l1.length ≤ c1) (HR1 : Aside0 (Kd.C k34 w A1 l1.length l1)) (eg1 : ∀ args w, (callFunc 36 args).run Try.prog w = .ok (.enter 36 args) w) (eg2 : ∀ args w, (callFunc 37 args).run Try.prog w = .ok (.enter 37 args) w) (H1 : Aside0 (impl_in.f a0_0 1 7 = some b1_)) (H2 : Aside0 (impl_namesOf.f 9 a0_0 = some (xa_, xb_, xn_))) (H3 : Aside0 (impl_in.f a0_3 0 9999 = some b2_))
    (H4 : Aside0 (impl_Term_parts.f 9 a0_0 a0_1 a0_2 a0_3 = some ps_)) (H5 : Aside0 (idxO (impl_Term_fault.p1 l1) ps_ 0 = some i_)) (H6 : Aside0 (i_ < 0 → idxO (impl_Term_fault.p2 l1) ps_ 0 = some j_)) (HV : Aside0 (impl_Term_fault.r a0_0 a0_1 a0_2 a0_3 b1_ xa_ xb_ xn_ b2_ i_ j_ = r_)) (vb1 : b1_ = true) (ea : xa_ = false) (eb : xb_ = false) (en : xn_ = true) (o6 : (a0_0 != 6) = true) (o7 : (a0_0 != 7) = true) :
    Calls Try.prog 32 #[.agg #[.int .i64 a0_0, .int .i64 a0_1, .int .i64 a0_2, .int .i64 a0_3], .slice A1 l1.length c1] w fun e w' => e = .returned (.int .i64 r_) ∧ Below w.heap.size w w' := by
  have hp : ((a0_1 != 0) = true) ∨ ((a0_1 != 0) = false ∧ (a0_2 != 0) = true) ∨ ((a0_1 != 0) = false ∧ (a0_2 != 0) = false ∧ b2_ = true ∧ decide (0 ≤ i_) = true) ∨ ((a0_1 != 0) = false ∧ (a0_2 != 0) = false ∧ b2_ = true ∧ decide (0 ≤ i_) = false) ∨ ((a0_1 != 0) = false ∧ (a0_2 != 0) = false ∧ b2_ = false) := by
    rcases Bool.eq_false_or_eq_true ((a0_1 != 0)) with z0 | z0
    · exact .inl z0
    · rcases Bool.eq_false_or_eq_true ((a0_2 != 0)) with z1 | z1
      · exact .inr (.inl ⟨z0, z1⟩)
      · rcases Bool.eq_false_or_eq_true (b2_) with vb | vb
        · rcases Bool.eq_false_or_eq_true (decide (0 ≤ i_)) with ci | ci
          · exact .inr (.inr (.inl ⟨z0, z1, vb, ci⟩))
          · exact .inr (.inr (.inr (.inl ⟨z0, z1, vb, ci⟩)))
        · exact .inr (.inr (.inr (.inr ⟨z0, z1, vb⟩)))
  rcases hp with z0 | ⟨z0, z1⟩ | ⟨z0, z1, vb, ci⟩ | ⟨z0, z1, vb, ci⟩ | ⟨z0, z1, vb⟩
  all_goals (
    have BX := Aside0.mk (Boxes.start w)
    have hu1 := Try.underlying34
    have hu2 := Try.underlying25
    have hu3 := Try.underlying64
    go_enter Try.func32, Try.ntmps32
    go_wp2_with (first | ((with_reducible refine gate_dst (N := 2) rfl ?_); refine box_event ?hg (N := 2) ?hd (cs := #[.int .i64 a0_0, .int .i64 a0_1, .int .i64 a0_2, .int .i64 a0_3]) (t := 34) ?hr ?_; (case hd => rfl); (case hg => rfl); (case hr => first | (go_simp; done) | (go_simp; rfl)); intro g2 hg w2_ hbox hb; have BY := Aside0.mk (Boxes.new (w0 := w) (bs := []) (by (with_reducible repeat (first | refine Boxes.drewN ?_ _ | refine Boxes.drew ?_ | refine Boxes.alloc ?_ _)); exact BX.out) hg hbox hb); clear BX hb hbox hg; have BX := BY; clear BY; have q2_0 : World.cell? _ ⟨g2, 0, none⟩ = some (.int .i64 a0_0) := BX.out.cell (i := 0) rfl (j := 0) rfl; have f2_0 : World.frozen? _ ⟨g2, 0, none⟩ = false := BX.out.frozen (i := 0) rfl 0; have q2_1 : World.cell? _ ⟨g2, 1, none⟩ = some (.int .i64 a0_1) := BX.out.cell (i := 0) rfl (j := 1) rfl; have f2_1 : World.frozen? _ ⟨g2, 1, none⟩ = false := BX.out.frozen (i := 0) rfl 1; have q2_2 : World.cell? _ ⟨g2, 2, none⟩ = some (.int .i64 a0_2) := BX.out.cell (i := 0) rfl (j := 2) rfl; have f2_2 : World.frozen? _ ⟨g2, 2, none⟩ = false := BX.out.frozen (i := 0) rfl 2; have q2_3 : World.cell? _ ⟨g2, 3, none⟩ = some (.int .i64 a0_3) := BX.out.cell (i := 0) rfl (j := 3) rfl; have f2_3 : World.frozen? _ ⟨g2, 3, none⟩ = false := BX.out.frozen (i := 0) rfl 3) | ((with_reducible refine gate_dst (N := 3) rfl ?_); refine box_event ?hg (N := 3) ?hd (cs := #[.slice A1 l1.length c1]) (t := 25) ?hr ?_; (case hd => rfl); (case hg => rfl); (case hr => first | (go_simp; done) | (go_simp; rfl)); intro g3 hg w3_ hbox hb; have BY := Aside0.mk (Boxes.new (w0 := w) (bs := [(g2, #[.int .i64 a0_0, .int .i64 a0_1, .int .i64 a0_2, .int .i64 a0_3], 34)]) (by (with_reducible repeat (first | refine Boxes.drewN ?_ _ | refine Boxes.drew ?_ | refine Boxes.alloc ?_ _)); exact BX.out) hg hbox hb); clear BX hb hbox hg; have BX := BY; clear BY; clear q2_0 f2_0 q2_1 f2_1 q2_2 f2_2 q2_3 f2_3; have q3_0 : World.cell? _ ⟨g3, 0, none⟩ = some (.slice A1 l1.length c1) := BX.out.cell (i := 0) rfl (j := 0) rfl; have f3_0 : World.frozen? _ ⟨g3, 0, none⟩ = false := BX.out.frozen (i := 0) rfl 0; have q2_0 : World.cell? _ ⟨g2, 0, none⟩ = some (.int .i64 a0_0) := BX.out.cell (i := 1) rfl (j := 0) rfl; have f2_0 : World.frozen? _ ⟨g2, 0, none⟩ = false := BX.out.frozen (i := 1) rfl 0; have q2_1 : World.cell? _ ⟨g2, 1, none⟩ = some (.int .i64 a0_1) := BX.out.cell (i := 1) rfl (j := 1) rfl; have f2_1 : World.frozen? _ ⟨g2, 1, none⟩ = false := BX.out.frozen (i := 1) rfl 1; have q2_2 : World.cell? _ ⟨g2, 2, none⟩ = some (.int .i64 a0_2) := BX.out.cell (i := 1) rfl (j := 2) rfl; have f2_2 : World.frozen? _ ⟨g2, 2, none⟩ = false := BX.out.frozen (i := 1) rfl 2; have q2_3 : World.cell? _ ⟨g2, 3, none⟩ = some (.int .i64 a0_3) := BX.out.cell (i := 1) rfl (j := 3) rfl; have f2_3 : World.frozen? _ ⟨g2, 3, none⟩ = false := BX.out.frozen (i := 1) rfl 3) | ((with_reducible refine gate_dst (N := 5) rfl ?_); refine box_event ?hg (N := 5) ?hd (cs := #[.bool false, .bool false, .bool false]) (t := 64) ?hr ?_; (case hd => rfl); (case hg => rfl); (case hr => first | (go_simp; done) | (go_simp; rfl)); intro g5 hg w5_ hbox hb; have BY := Aside0.mk (Boxes.new (w0 := w) (bs := [(g3, #[.slice A1 l1.length c1], 25), (g2, #[.int .i64 a0_0, .int .i64 a0_1, .int .i64 a0_2, .int .i64 a0_3], 34)]) (by (with_reducible repeat (first | refine Boxes.drewN ?_ _ | refine Boxes.drew ?_ | refine Boxes.alloc ?_ _)); exact BX.out) hg hbox hb); clear BX hb hbox hg; have BX := BY; clear BY; clear q3_0 f3_0 q2_0 f2_0 q2_1 f2_1 q2_2 f2_2 q2_3 f2_3; have q5_0 : World.cell? _ ⟨g5, 0, none⟩ = some (.bool false) := BX.out.cell (i := 0) rfl (j := 0) rfl; have f5_0 : World.frozen? _ ⟨g5, 0, none⟩ = false := BX.out.frozen (i := 0) rfl 0; have q5_1 : World.cell? _ ⟨g5, 1, none⟩ = some (.bool false) := BX.out.cell (i := 0) rfl (j := 1) rfl; have f5_1 : World.frozen? _ ⟨g5, 1, none⟩ = false := BX.out.frozen (i := 0) rfl 1; have q5_2 : World.cell? _ ⟨g5, 2, none⟩ = some (.bool false) := BX.out.cell (i := 0) rfl (j := 2) rfl; have f5_2 : World.frozen? _ ⟨g5, 2, none⟩ = false := BX.out.frozen (i := 0) rfl 2; have q3_0 : World.cell? _ ⟨g3, 0, none⟩ = some (.slice A1 l1.length c1) := BX.out.cell (i := 1) rfl (j := 0) rfl; have f3_0 : World.frozen? _ ⟨g3, 0, none⟩ = false := BX.out.frozen (i := 1) rfl 0; have q2_0 : World.cell? _ ⟨g2, 0, none⟩ = some (.int .i64 a0_0) := BX.out.cell (i := 2) rfl (j := 0) rfl; have f2_0 : World.frozen? _ ⟨g2, 0, none⟩ = false := BX.out.frozen (i := 2) rfl 0; have q2_1 : World.cell? _ ⟨g2, 1, none⟩ = some (.int .i64 a0_1) := BX.out.cell (i := 2) rfl (j := 1) rfl; have f2_1 : World.frozen? _ ⟨g2, 1, none⟩ = false := BX.out.frozen (i := 2) rfl 1; have q2_2 : World.cell? _ ⟨g2, 2, none⟩ = some (.int .i64 a0_2) := BX.out.cell (i := 2) rfl (j := 2) rfl; have f2_2 : World.frozen? _ ⟨g2, 2, none⟩ = false := BX.out.frozen (i := 2) rfl 2; have q2_3 : World.cell? _ ⟨g2, 3, none⟩ = some (.int .i64 a0_3) := BX.out.cell (i := 2) rfl (j := 3) rfl; have f2_3 : World.frozen? _ ⟨g2, 3, none⟩ = false := BX.out.frozen (i := 2) rfl 3) | (go_at_call 34; first | ((with_reducible refine (impl_in.calls a0_0 1 7 _ _ H1.out).mono ?_); rintro e w' ⟨rfl, ⟨nd, rfl⟩⟩) | ((with_reducible refine (impl_in.calls a0_3 0 9999 _ _ H3.out).mono ?_); rintro e w' ⟨rfl, ⟨nd2, rfl⟩⟩)) | (go_at_call 35; refine (impl_namesOf.calls 9 a0_0 _ _ _ _ H2.out).mono ?_; rintro e w12_ ⟨rfl, hb⟩; have BY := Aside0.mk (Boxes.below (w0 := w) (bs := [(g3, #[.slice A1 l1.length c1], 25), (g2, #[.int .i64 a0_0, .int .i64 a0_1, .int .i64 a0_2, .int .i64 a0_3], 34)]) (by (with_reducible repeat (first | refine Boxes.drewN ?_ _ | refine Boxes.drew ?_ | refine Boxes.alloc ?_ _)); exact BX.out) hb); clear BX hb; have BX := BY; clear BY; clear q3_0 f3_0 q2_0 f2_0 q2_1 f2_1 q2_2 f2_2 q2_3 f2_3; have q3_0 : World.cell? _ ⟨g3, 0, none⟩ = some (.slice A1 l1.length c1) := BX.out.cell (i := 0) rfl (j := 0) rfl; have f3_0 : World.frozen? _ ⟨g3, 0, none⟩ = false := BX.out.frozen (i := 0) rfl 0; have q2_0 : World.cell? _ ⟨g2, 0, none⟩ = some (.int .i64 a0_0) := BX.out.cell (i := 1) rfl (j := 0) rfl; have f2_0 : World.frozen? _ ⟨g2, 0, none⟩ = false := BX.out.frozen (i := 1) rfl 0; have q2_1 : World.cell? _ ⟨g2, 1, none⟩ = some (.int .i64 a0_1) := BX.out.cell (i := 1) rfl (j := 1) rfl; have f2_1 : World.frozen? _ ⟨g2, 1, none⟩ = false := BX.out.frozen (i := 1) rfl 1; have q2_2 : World.cell? _ ⟨g2, 2, none⟩ = some (.int .i64 a0_2) := BX.out.cell (i := 1) rfl (j := 2) rfl; have f2_2 : World.frozen? _ ⟨g2, 2, none⟩ = false := BX.out.frozen (i := 1) rfl 2; have q2_3 : World.cell? _ ⟨g2, 3, none⟩ = some (.int .i64 a0_3) := BX.out.cell (i := 1) rfl (j := 3) rfl; have f2_3 : World.frozen? _ ⟨g2, 3, none⟩ = false := BX.out.frozen (i := 1) rfl 3) | ((with_reducible refine gate_store (t := 64) (p := 5) rfl ?_); refine boxes_store (w0 := w) (bs := [(g5, #[.bool xa_, .bool xb_, .bool xn_], 64), (g3, #[.slice A1 l1.length c1], 25), (g2, #[.int .i64 a0_0, .int .i64 a0_1, .int .i64 a0_2, .int .i64 a0_3], 34)]) (W1 := ((World.setCell w5_ ⟨g5, 0, none⟩ (.bool xa_)).setCell ⟨g5, 1, none⟩ (.bool xb_)).setCell ⟨g5, 2, none⟩ (.bool xn_)) rfl rfl rfl ?hr (((Boxes.put (w0 := w) (b1 := []) (b2 := [(g3, #[.slice A1 l1.length c1], 25), (g2, #[.int .i64 a0_0, .int .i64 a0_1, .int .i64 a0_2, .int .i64 a0_3], 34)]) (g := g5) (cs := #[.bool false, .bool false, .bool false]) (t := 64) BX.out 0 (.bool xa_)).put (b1 := []) 1 (.bool xb_)).put (b1 := []) 2 (.bool xn_)) ?_; (case hr => first | (go_simp; done) | (go_simp; rfl)); intro w13_ BY; have BY := Aside0.mk BY; clear BX; have BX := BY; clear BY; clear q5_0 f5_0 q5_1 f5_1 q5_2 f5_2 q3_0 f3_0 q2_0 f2_0 q2_1 f2_1 q2_2 f2_2 q2_3 f2_3; have q5_0 : World.cell? _ ⟨g5, 0, none⟩ = some (.bool xa_) := BX.out.cell (i := 0) rfl (j := 0) rfl; have f5_0 : World.frozen? _ ⟨g5, 0, none⟩ = false := BX.out.frozen (i := 0) rfl 0; have q5_1 : World.cell? _ ⟨g5, 1, none⟩ = some (.bool xb_) := BX.out.cell (i := 0) rfl (j := 1) rfl; have f5_1 : World.frozen? _ ⟨g5, 1, none⟩ = false := BX.out.frozen (i := 0) rfl 1; have q5_2 : World.cell? _ ⟨g5, 2, none⟩ = some (.bool xn_) := BX.out.cell (i := 0) rfl (j := 2) rfl; have f5_2 : World.frozen? _ ⟨g5, 2, none⟩ = false := BX.out.frozen (i := 0) rfl 2; have q3_0 : World.cell? _ ⟨g3, 0, none⟩ = some (.slice A1 l1.length c1) := BX.out.cell (i := 1) rfl (j := 0) rfl; have f3_0 : World.frozen? _ ⟨g3, 0, none⟩ = false := BX.out.frozen (i := 1) rfl 0; have q2_0 : World.cell? _ ⟨g2, 0, none⟩ = some (.int .i64 a0_0) := BX.out.cell (i := 2) rfl (j := 0) rfl; have f2_0 : World.frozen? _ ⟨g2, 0, none⟩ = false := BX.out.frozen (i := 2) rfl 0; have q2_1 : World.cell? _ ⟨g2, 1, none⟩ = some (.int .i64 a0_1) := BX.out.cell (i := 2) rfl (j := 1) rfl; have f2_1 : World.frozen? _ ⟨g2, 1, none⟩ = false := BX.out.frozen (i := 2) rfl 1; have q2_2 : World.cell? _ ⟨g2, 2, none⟩ = some (.int .i64 a0_2) := BX.out.cell (i := 2) rfl (j := 2) rfl; have f2_2 : World.frozen? _ ⟨g2, 2, none⟩ = false := BX.out.frozen (i := 2) rfl 2; have q2_3 : World.cell? _ ⟨g2, 3, none⟩ = some (.int .i64 a0_3) := BX.out.cell (i := 2) rfl (j := 3) rfl; have f2_3 : World.frozen? _ ⟨g2, 3, none⟩ = false := BX.out.frozen (i := 2) rfl 3) | (go_at_call 26; refine (impl_Term_parts.calls 9 a0_0 a0_1 a0_2 a0_3 _ _ H4.out).mono ?_; rintro e w47_ ⟨pv, rfl, hR, hb⟩; obtain ⟨pA, pc, rfl, _, hC⟩ := Kd.R_reads hR; have HC := Aside0.mk hC; clear hC hR; have BY := Aside0.mk (Boxes.below (w0 := w) (bs := [(g5, #[.bool xa_, .bool xb_, .bool xn_], 64), (g3, #[.slice A1 l1.length c1], 25), (g2, #[.int .i64 a0_0, .int .i64 a0_1, .int .i64 a0_2, .int .i64 a0_3], 34)]) (by (with_reducible repeat (first | refine Boxes.drewN ?_ _ | refine Boxes.drew ?_ | refine Boxes.alloc ?_ _)); exact BX.out) hb); clear BX hb; have BX := BY; clear BY; clear q5_0 f5_0 q5_1 f5_1 q5_2 f5_2 q3_0 f3_0 q2_0 f2_0 q2_1 f2_1 q2_2 f2_2 q2_3 f2_3; have q5_0 : World.cell? _ ⟨g5, 0, none⟩ = some (.bool xa_) := BX.out.cell (i := 0) rfl (j := 0) rfl; have f5_0 : World.frozen? _ ⟨g5, 0, none⟩ = false := BX.out.frozen (i := 0) rfl 0; have q5_1 : World.cell? _ ⟨g5, 1, none⟩ = some (.bool xb_) := BX.out.cell (i := 0) rfl (j := 1) rfl; have f5_1 : World.frozen? _ ⟨g5, 1, none⟩ = false := BX.out.frozen (i := 0) rfl 1; have q5_2 : World.cell? _ ⟨g5, 2, none⟩ = some (.bool xn_) := BX.out.cell (i := 0) rfl (j := 2) rfl; have f5_2 : World.frozen? _ ⟨g5, 2, none⟩ = false := BX.out.frozen (i := 0) rfl 2; have q3_0 : World.cell? _ ⟨g3, 0, none⟩ = some (.slice A1 l1.length c1) := BX.out.cell (i := 1) rfl (j := 0) rfl; have f3_0 : World.frozen? _ ⟨g3, 0, none⟩ = false := BX.out.frozen (i := 1) rfl 0; have q2_0 : World.cell? _ ⟨g2, 0, none⟩ = some (.int .i64 a0_0) := BX.out.cell (i := 2) rfl (j := 0) rfl; have f2_0 : World.frozen? _ ⟨g2, 0, none⟩ = false := BX.out.frozen (i := 2) rfl 0; have q2_1 : World.cell? _ ⟨g2, 1, none⟩ = some (.int .i64 a0_1) := BX.out.cell (i := 2) rfl (j := 1) rfl; have f2_1 : World.frozen? _ ⟨g2, 1, none⟩ = false := BX.out.frozen (i := 2) rfl 1; have q2_2 : World.cell? _ ⟨g2, 2, none⟩ = some (.int .i64 a0_2) := BX.out.cell (i := 2) rfl (j := 2) rfl; have f2_2 : World.frozen? _ ⟨g2, 2, none⟩ = false := BX.out.frozen (i := 2) rfl 2; have q2_3 : World.cell? _ ⟨g2, 3, none⟩ = some (.int .i64 a0_3) := BX.out.cell (i := 2) rfl (j := 3) rfl; have f2_3 : World.frozen? _ ⟨g2, 3, none⟩ = false := BX.out.frozen (i := 2) rfl 3) | (go_at_call 23; refine (ContainsFuncI.calls pA pc ps_ 36 #[.pointer (some ⟨g3, 0, none⟩)] (impl_Term_fault.p1 l1) _ _ eg1 HC.out (fun x b W hx hb2 => impl_Term_fault_lit1.calls A1 c1 l1 x b g3 _ W (BX.out.lt (i := 1) rfl) (BX.out.cell (i := 1) rfl (j := 0) rfl) (Kd.C_below HR1.out BX.out.low) hc1 hb2 hx) H5.out).mono ?_; rintro e w49_ ⟨rfl, hb⟩; clear HC; have BY := Aside0.mk (Boxes.below (w0 := w) (bs := [(g5, #[.bool xa_, .bool xb_, .bool xn_], 64), (g3, #[.slice A1 l1.length c1], 25), (g2, #[.int .i64 a0_0, .int .i64 a0_1, .int .i64 a0_2, .int .i64 a0_3], 34)]) (by (with_reducible repeat (first | refine Boxes.drewN ?_ _ | refine Boxes.drew ?_ | refine Boxes.alloc ?_ _)); exact BX.out) hb); clear BX hb; have BX := BY; clear BY; clear q5_0 f5_0 q5_1 f5_1 q5_2 f5_2 q3_0 f3_0 q2_0 f2_0 q2_1 f2_1 q2_2 f2_2 q2_3 f2_3; have q5_0 : World.cell? _ ⟨g5, 0, none⟩ = some (.bool xa_) := BX.out.cell (i := 0) rfl (j := 0) rfl; have f5_0 : World.frozen? _ ⟨g5, 0, none⟩ = false := BX.out.frozen (i := 0) rfl 0; have q5_1 : World.cell? _ ⟨g5, 1, none⟩ = some (.bool xb_) := BX.out.cell (i := 0) rfl (j := 1) rfl; have f5_1 : World.frozen? _ ⟨g5, 1, none⟩ = false := BX.out.frozen (i := 0) rfl 1; have q5_2 : World.cell? _ ⟨g5, 2, none⟩ = some (.bool xn_) := BX.out.cell (i := 0) rfl (j := 2) rfl; have f5_2 : World.frozen? _ ⟨g5, 2, none⟩ = false := BX.out.frozen (i := 0) rfl 2; have q3_0 : World.cell? _ ⟨g3, 0, none⟩ = some (.slice A1 l1.length c1) := BX.out.cell (i := 1) rfl (j := 0) rfl; have f3_0 : World.frozen? _ ⟨g3, 0, none⟩ = false := BX.out.frozen (i := 1) rfl 0; have q2_0 : World.cell? _ ⟨g2, 0, none⟩ = some (.int .i64 a0_0) := BX.out.cell (i := 2) rfl (j := 0) rfl; have f2_0 : World.frozen? _ ⟨g2, 0, none⟩ = false := BX.out.frozen (i := 2) rfl 0; have q2_1 : World.cell? _ ⟨g2, 1, none⟩ = some (.int .i64 a0_1) := BX.out.cell (i := 2) rfl (j := 1) rfl; have f2_1 : World.frozen? _ ⟨g2, 1, none⟩ = false := BX.out.frozen (i := 2) rfl 1; have q2_2 : World.cell? _ ⟨g2, 2, none⟩ = some (.int .i64 a0_2) := BX.out.cell (i := 2) rfl (j := 2) rfl; have f2_2 : World.frozen? _ ⟨g2, 2, none⟩ = false := BX.out.frozen (i := 2) rfl 2; have q2_3 : World.cell? _ ⟨g2, 3, none⟩ = some (.int .i64 a0_3) := BX.out.cell (i := 2) rfl (j := 3) rfl; have f2_3 : World.frozen? _ ⟨g2, 3, none⟩ = false := BX.out.frozen (i := 2) rfl 3) | (go_at_call 23; refine (ContainsFuncI.calls pA pc ps_ 37 #[.pointer (some ⟨g3, 0, none⟩)] (impl_Term_fault.p2 l1) _ _ eg2 HC.out (fun x b W hx hb2 => impl_Term_fault_lit2.calls A1 c1 l1 x b g3 _ W (BX.out.lt (i := 1) rfl) (BX.out.cell (i := 1) rfl (j := 0) rfl) (Kd.C_below HR1.out BX.out.low) hc1 hb2 hx) (H6.out (Int.not_le.mp (of_decide_eq_false ci)))).mono ?_; rintro e w49_ ⟨rfl, hb⟩; clear HC; have BY := Aside0.mk (Boxes.below (w0 := w) (bs := [(g5, #[.bool xa_, .bool xb_, .bool xn_], 64), (g3, #[.slice A1 l1.length c1], 25), (g2, #[.int .i64 a0_0, .int .i64 a0_1, .int .i64 a0_2, .int .i64 a0_3], 34)]) (by (with_reducible repeat (first | refine Boxes.drewN ?_ _ | refine Boxes.drew ?_ | refine Boxes.alloc ?_ _)); exact BX.out) hb); clear BX hb; have BX := BY; clear BY; clear q5_0 f5_0 q5_1 f5_1 q5_2 f5_2 q3_0 f3_0 q2_0 f2_0 q2_1 f2_1 q2_2 f2_2 q2_3 f2_3; have q5_0 : World.cell? _ ⟨g5, 0, none⟩ = some (.bool xa_) := BX.out.cell (i := 0) rfl (j := 0) rfl; have f5_0 : World.frozen? _ ⟨g5, 0, none⟩ = false := BX.out.frozen (i := 0) rfl 0; have q5_1 : World.cell? _ ⟨g5, 1, none⟩ = some (.bool xb_) := BX.out.cell (i := 0) rfl (j := 1) rfl; have f5_1 : World.frozen? _ ⟨g5, 1, none⟩ = false := BX.out.frozen (i := 0) rfl 1; have q5_2 : World.cell? _ ⟨g5, 2, none⟩ = some (.bool xn_) := BX.out.cell (i := 0) rfl (j := 2) rfl; have f5_2 : World.frozen? _ ⟨g5, 2, none⟩ = false := BX.out.frozen (i := 0) rfl 2; have q3_0 : World.cell? _ ⟨g3, 0, none⟩ = some (.slice A1 l1.length c1) := BX.out.cell (i := 1) rfl (j := 0) rfl; have f3_0 : World.frozen? _ ⟨g3, 0, none⟩ = false := BX.out.frozen (i := 1) rfl 0; have q2_0 : World.cell? _ ⟨g2, 0, none⟩ = some (.int .i64 a0_0) := BX.out.cell (i := 2) rfl (j := 0) rfl; have f2_0 : World.frozen? _ ⟨g2, 0, none⟩ = false := BX.out.frozen (i := 2) rfl 0; have q2_1 : World.cell? _ ⟨g2, 1, none⟩ = some (.int .i64 a0_1) := BX.out.cell (i := 2) rfl (j := 1) rfl; have f2_1 : World.frozen? _ ⟨g2, 1, none⟩ = false := BX.out.frozen (i := 2) rfl 1; have q2_2 : World.cell? _ ⟨g2, 2, none⟩ = some (.int .i64 a0_2) := BX.out.cell (i := 2) rfl (j := 2) rfl; have f2_2 : World.frozen? _ ⟨g2, 2, none⟩ = false := BX.out.frozen (i := 2) rfl 2; have q2_3 : World.cell? _ ⟨g2, 3, none⟩ = some (.int .i64 a0_3) := BX.out.cell (i := 2) rfl (j := 3) rfl; have f2_3 : World.frozen? _ ⟨g2, 3, none⟩ = false := BX.out.frozen (i := 2) rfl 3) | fail)
    go_ret
    refine ⟨congrArg (fun z => Ending.returned (Value.int .i64 z)) ?_, (Boxes.low (w0 := w) (bs := [(g5, #[.bool xa_, .bool xb_, .bool xn_], 64), (g3, #[.slice A1 l1.length c1], 25), (g2, #[.int .i64 a0_0, .int .i64 a0_1, .int .i64 a0_2, .int .i64 a0_3], 34)]) (by (with_reducible repeat (first | refine Boxes.drewN ?_ _ | refine Boxes.drew ?_ | refine Boxes.alloc ?_ _)); exact BX.out))⟩
    rw [← HV.out]
    simp only [impl_Term_fault.r]
    clear HV BX HR1 H1 H2 H3 H4 H5 eg1 eg2 hu1 hu2 hu3
    simp_all
    try ((repeat' split) <;> omega))
set_option maxHeartbeats 16000000 in
set_option maxRecDepth 100000 in
theorem impl_Term_fault_h (a0_0 : Int) (a0_1 : Int) (a0_2 : Int) (a0_3 : Int) (A1 : Option Addr) (c1 : Nat) (l1 : List S34) (xa_ xb_ xn_ b1_ b2_ : Bool) (ps_ : List Int) (i_ j_ r_ : Int) (w : World) (hc1 : l1.length ≤ c1) (HR1 : Aside0 (Kd.C k34 w A1 l1.length l1)) (eg1 : ∀ args w, (callFunc 36 args).run Try.prog w = .ok (.enter 36 args) w) (eg2 : ∀ args w, (callFunc 37 args).run Try.prog w = .ok (.enter 37 args) w) (H1 : Aside0 (impl_in.f a0_0 1 7 = some b1_)) (H2 : Aside0 (impl_namesOf.f 9 a0_0 = some (xa_, xb_, xn_))) (H3 : Aside0 (impl_in.f a0_3 0 9999 = some b2_))
    (H4 : Aside0 (impl_Term_parts.f 9 a0_0 a0_1 a0_2 a0_3 = some ps_)) (H5 : Aside0 (idxO (impl_Term_fault.p1 l1) ps_ 0 = some i_)) (H6 : Aside0 (i_ < 0 → idxO (impl_Term_fault.p2 l1) ps_ 0 = some j_)) (HV : Aside0 (impl_Term_fault.r a0_0 a0_1 a0_2 a0_3 b1_ xa_ xb_ xn_ b2_ i_ j_ = r_)) (vb1 : b1_ = true) (ea : xa_ = true) (eb : xb_ = false) (en : xn_ = false) (o6 : (a0_0 != 6) = false) (e7 : (a0_0 == 7) = false) :
    Calls Try.prog 32 #[.agg #[.int .i64 a0_0, .int .i64 a0_1, .int .i64 a0_2, .int .i64 a0_3], .slice A1 l1.length c1] w fun e w' => e = .returned (.int .i64 r_) ∧ Below w.heap.size w w' := by
  have hp : ((a0_2 != 0) = true) ∨ ((a0_2 != 0) = false ∧ (a0_3 != 0) = true) ∨ ((a0_2 != 0) = false ∧ (a0_3 != 0) = false ∧ b2_ = true ∧ decide (0 ≤ i_) = true) ∨ ((a0_2 != 0) = false ∧ (a0_3 != 0) = false ∧ b2_ = true ∧ decide (0 ≤ i_) = false ∧ decide (0 ≤ j_) = true) ∨ ((a0_2 != 0) = false ∧ (a0_3 != 0) = false ∧ b2_ = true ∧ decide (0 ≤ i_) = false ∧ decide (0 ≤ j_) = false) ∨ ((a0_2 != 0) = false ∧ (a0_3 != 0) = false ∧ b2_ = false) := by
    rcases Bool.eq_false_or_eq_true ((a0_2 != 0)) with z1 | z1
    · exact .inl z1
    · rcases Bool.eq_false_or_eq_true ((a0_3 != 0)) with z2 | z2
      · exact .inr (.inl ⟨z1, z2⟩)
      · rcases Bool.eq_false_or_eq_true (b2_) with vb | vb
        · rcases Bool.eq_false_or_eq_true (decide (0 ≤ i_)) with ci | ci
          · exact .inr (.inr (.inl ⟨z1, z2, vb, ci⟩))
          · rcases Bool.eq_false_or_eq_true (decide (0 ≤ j_)) with cj | cj
            · exact .inr (.inr (.inr (.inl ⟨z1, z2, vb, ci, cj⟩)))
            · exact .inr (.inr (.inr (.inr (.inl ⟨z1, z2, vb, ci, cj⟩))))
        · exact .inr (.inr (.inr (.inr (.inr ⟨z1, z2, vb⟩))))
  rcases hp with z1 | ⟨z1, z2⟩ | ⟨z1, z2, vb, ci⟩ | ⟨z1, z2, vb, ci, cj⟩ | ⟨z1, z2, vb, ci, cj⟩ | ⟨z1, z2, vb⟩
  all_goals (
    have BX := Aside0.mk (Boxes.start w)
    have hu1 := Try.underlying34
    have hu2 := Try.underlying25
    have hu3 := Try.underlying64
    go_enter Try.func32, Try.ntmps32
    go_wp2_with (first | ((with_reducible refine gate_dst (N := 2) rfl ?_); refine box_event ?hg (N := 2) ?hd (cs := #[.int .i64 a0_0, .int .i64 a0_1, .int .i64 a0_2, .int .i64 a0_3]) (t := 34) ?hr ?_; (case hd => rfl); (case hg => rfl); (case hr => first | (go_simp; done) | (go_simp; rfl)); intro g2 hg w2_ hbox hb; have BY := Aside0.mk (Boxes.new (w0 := w) (bs := []) (by (with_reducible repeat (first | refine Boxes.drewN ?_ _ | refine Boxes.drew ?_ | refine Boxes.alloc ?_ _)); exact BX.out) hg hbox hb); clear BX hb hbox hg; have BX := BY; clear BY; have q2_0 : World.cell? _ ⟨g2, 0, none⟩ = some (.int .i64 a0_0) := BX.out.cell (i := 0) rfl (j := 0) rfl; have f2_0 : World.frozen? _ ⟨g2, 0, none⟩ = false := BX.out.frozen (i := 0) rfl 0; have q2_1 : World.cell? _ ⟨g2, 1, none⟩ = some (.int .i64 a0_1) := BX.out.cell (i := 0) rfl (j := 1) rfl; have f2_1 : World.frozen? _ ⟨g2, 1, none⟩ = false := BX.out.frozen (i := 0) rfl 1; have q2_2 : World.cell? _ ⟨g2, 2, none⟩ = some (.int .i64 a0_2) := BX.out.cell (i := 0) rfl (j := 2) rfl; have f2_2 : World.frozen? _ ⟨g2, 2, none⟩ = false := BX.out.frozen (i := 0) rfl 2; have q2_3 : World.cell? _ ⟨g2, 3, none⟩ = some (.int .i64 a0_3) := BX.out.cell (i := 0) rfl (j := 3) rfl; have f2_3 : World.frozen? _ ⟨g2, 3, none⟩ = false := BX.out.frozen (i := 0) rfl 3) | ((with_reducible refine gate_dst (N := 3) rfl ?_); refine box_event ?hg (N := 3) ?hd (cs := #[.slice A1 l1.length c1]) (t := 25) ?hr ?_; (case hd => rfl); (case hg => rfl); (case hr => first | (go_simp; done) | (go_simp; rfl)); intro g3 hg w3_ hbox hb; have BY := Aside0.mk (Boxes.new (w0 := w) (bs := [(g2, #[.int .i64 a0_0, .int .i64 a0_1, .int .i64 a0_2, .int .i64 a0_3], 34)]) (by (with_reducible repeat (first | refine Boxes.drewN ?_ _ | refine Boxes.drew ?_ | refine Boxes.alloc ?_ _)); exact BX.out) hg hbox hb); clear BX hb hbox hg; have BX := BY; clear BY; clear q2_0 f2_0 q2_1 f2_1 q2_2 f2_2 q2_3 f2_3; have q3_0 : World.cell? _ ⟨g3, 0, none⟩ = some (.slice A1 l1.length c1) := BX.out.cell (i := 0) rfl (j := 0) rfl; have f3_0 : World.frozen? _ ⟨g3, 0, none⟩ = false := BX.out.frozen (i := 0) rfl 0; have q2_0 : World.cell? _ ⟨g2, 0, none⟩ = some (.int .i64 a0_0) := BX.out.cell (i := 1) rfl (j := 0) rfl; have f2_0 : World.frozen? _ ⟨g2, 0, none⟩ = false := BX.out.frozen (i := 1) rfl 0; have q2_1 : World.cell? _ ⟨g2, 1, none⟩ = some (.int .i64 a0_1) := BX.out.cell (i := 1) rfl (j := 1) rfl; have f2_1 : World.frozen? _ ⟨g2, 1, none⟩ = false := BX.out.frozen (i := 1) rfl 1; have q2_2 : World.cell? _ ⟨g2, 2, none⟩ = some (.int .i64 a0_2) := BX.out.cell (i := 1) rfl (j := 2) rfl; have f2_2 : World.frozen? _ ⟨g2, 2, none⟩ = false := BX.out.frozen (i := 1) rfl 2; have q2_3 : World.cell? _ ⟨g2, 3, none⟩ = some (.int .i64 a0_3) := BX.out.cell (i := 1) rfl (j := 3) rfl; have f2_3 : World.frozen? _ ⟨g2, 3, none⟩ = false := BX.out.frozen (i := 1) rfl 3) | ((with_reducible refine gate_dst (N := 5) rfl ?_); refine box_event ?hg (N := 5) ?hd (cs := #[.bool false, .bool false, .bool false]) (t := 64) ?hr ?_; (case hd => rfl); (case hg => rfl); (case hr => first | (go_simp; done) | (go_simp; rfl)); intro g5 hg w5_ hbox hb; have BY := Aside0.mk (Boxes.new (w0 := w) (bs := [(g3, #[.slice A1 l1.length c1], 25), (g2, #[.int .i64 a0_0, .int .i64 a0_1, .int .i64 a0_2, .int .i64 a0_3], 34)]) (by (with_reducible repeat (first | refine Boxes.drewN ?_ _ | refine Boxes.drew ?_ | refine Boxes.alloc ?_ _)); exact BX.out) hg hbox hb); clear BX hb hbox hg; have BX := BY; clear BY; clear q3_0 f3_0 q2_0 f2_0 q2_1 f2_1 q2_2 f2_2 q2_3 f2_3; have q5_0 : World.cell? _ ⟨g5, 0, none⟩ = some (.bool false) := BX.out.cell (i := 0) rfl (j := 0) rfl; have f5_0 : World.frozen? _ ⟨g5, 0, none⟩ = false := BX.out.frozen (i := 0) rfl 0; have q5_1 : World.cell? _ ⟨g5, 1, none⟩ = some (.bool false) := BX.out.cell (i := 0) rfl (j := 1) rfl; have f5_1 : World.frozen? _ ⟨g5, 1, none⟩ = false := BX.out.frozen (i := 0) rfl 1; have q5_2 : World.cell? _ ⟨g5, 2, none⟩ = some (.bool false) := BX.out.cell (i := 0) rfl (j := 2) rfl; have f5_2 : World.frozen? _ ⟨g5, 2, none⟩ = false := BX.out.frozen (i := 0) rfl 2; have q3_0 : World.cell? _ ⟨g3, 0, none⟩ = some (.slice A1 l1.length c1) := BX.out.cell (i := 1) rfl (j := 0) rfl; have f3_0 : World.frozen? _ ⟨g3, 0, none⟩ = false := BX.out.frozen (i := 1) rfl 0; have q2_0 : World.cell? _ ⟨g2, 0, none⟩ = some (.int .i64 a0_0) := BX.out.cell (i := 2) rfl (j := 0) rfl; have f2_0 : World.frozen? _ ⟨g2, 0, none⟩ = false := BX.out.frozen (i := 2) rfl 0; have q2_1 : World.cell? _ ⟨g2, 1, none⟩ = some (.int .i64 a0_1) := BX.out.cell (i := 2) rfl (j := 1) rfl; have f2_1 : World.frozen? _ ⟨g2, 1, none⟩ = false := BX.out.frozen (i := 2) rfl 1; have q2_2 : World.cell? _ ⟨g2, 2, none⟩ = some (.int .i64 a0_2) := BX.out.cell (i := 2) rfl (j := 2) rfl; have f2_2 : World.frozen? _ ⟨g2, 2, none⟩ = false := BX.out.frozen (i := 2) rfl 2; have q2_3 : World.cell? _ ⟨g2, 3, none⟩ = some (.int .i64 a0_3) := BX.out.cell (i := 2) rfl (j := 3) rfl; have f2_3 : World.frozen? _ ⟨g2, 3, none⟩ = false := BX.out.frozen (i := 2) rfl 3) | (go_at_call 34; first | ((with_reducible refine (impl_in.calls a0_0 1 7 _ _ H1.out).mono ?_); rintro e w' ⟨rfl, ⟨nd, rfl⟩⟩) | ((with_reducible refine (impl_in.calls a0_3 0 9999 _ _ H3.out).mono ?_); rintro e w' ⟨rfl, ⟨nd2, rfl⟩⟩)) | (go_at_call 35; refine (impl_namesOf.calls 9 a0_0 _ _ _ _ H2.out).mono ?_; rintro e w12_ ⟨rfl, hb⟩; have BY := Aside0.mk (Boxes.below (w0 := w) (bs := [(g3, #[.slice A1 l1.length c1], 25), (g2, #[.int .i64 a0_0, .int .i64 a0_1, .int .i64 a0_2, .int .i64 a0_3], 34)]) (by (with_reducible repeat (first | refine Boxes.drewN ?_ _ | refine Boxes.drew ?_ | refine Boxes.alloc ?_ _)); exact BX.out) hb); clear BX hb; have BX := BY; clear BY; clear q3_0 f3_0 q2_0 f2_0 q2_1 f2_1 q2_2 f2_2 q2_3 f2_3; have q3_0 : World.cell? _ ⟨g3, 0, none⟩ = some (.slice A1 l1.length c1) := BX.out.cell (i := 0) rfl (j := 0) rfl; have f3_0 : World.frozen? _ ⟨g3, 0, none⟩ = false := BX.out.frozen (i := 0) rfl 0; have q2_0 : World.cell? _ ⟨g2, 0, none⟩ = some (.int .i64 a0_0) := BX.out.cell (i := 1) rfl (j := 0) rfl; have f2_0 : World.frozen? _ ⟨g2, 0, none⟩ = false := BX.out.frozen (i := 1) rfl 0; have q2_1 : World.cell? _ ⟨g2, 1, none⟩ = some (.int .i64 a0_1) := BX.out.cell (i := 1) rfl (j := 1) rfl; have f2_1 : World.frozen? _ ⟨g2, 1, none⟩ = false := BX.out.frozen (i := 1) rfl 1; have q2_2 : World.cell? _ ⟨g2, 2, none⟩ = some (.int .i64 a0_2) := BX.out.cell (i := 1) rfl (j := 2) rfl; have f2_2 : World.frozen? _ ⟨g2, 2, none⟩ = false := BX.out.frozen (i := 1) rfl 2; have q2_3 : World.cell? _ ⟨g2, 3, none⟩ = some (.int .i64 a0_3) := BX.out.cell (i := 1) rfl (j := 3) rfl; have f2_3 : World.frozen? _ ⟨g2, 3, none⟩ = false := BX.out.frozen (i := 1) rfl 3) | ((with_reducible refine gate_store (t := 64) (p := 5) rfl ?_); refine boxes_store (w0 := w) (bs := [(g5, #[.bool xa_, .bool xb_, .bool xn_], 64), (g3, #[.slice A1 l1.length c1], 25), (g2, #[.int .i64 a0_0, .int .i64 a0_1, .int .i64 a0_2, .int .i64 a0_3], 34)]) (W1 := ((World.setCell w5_ ⟨g5, 0, none⟩ (.bool xa_)).setCell ⟨g5, 1, none⟩ (.bool xb_)).setCell ⟨g5, 2, none⟩ (.bool xn_)) rfl rfl rfl ?hr (((Boxes.put (w0 := w) (b1 := []) (b2 := [(g3, #[.slice A1 l1.length c1], 25), (g2, #[.int .i64 a0_0, .int .i64 a0_1, .int .i64 a0_2, .int .i64 a0_3], 34)]) (g := g5) (cs := #[.bool false, .bool false, .bool false]) (t := 64) BX.out 0 (.bool xa_)).put (b1 := []) 1 (.bool xb_)).put (b1 := []) 2 (.bool xn_)) ?_; (case hr => first | (go_simp; done) | (go_simp; rfl)); intro w13_ BY; have BY := Aside0.mk BY; clear BX; have BX := BY; clear BY; clear q5_0 f5_0 q5_1 f5_1 q5_2 f5_2 q3_0 f3_0 q2_0 f2_0 q2_1 f2_1 q2_2 f2_2 q2_3 f2_3; have q5_0 : World.cell? _ ⟨g5, 0, none⟩ = some (.bool xa_) := BX.out.cell (i := 0) rfl (j := 0) rfl; have f5_0 : World.frozen? _ ⟨g5, 0, none⟩ = false := BX.out.frozen (i := 0) rfl 0; have q5_1 : World.cell? _ ⟨g5, 1, none⟩ = some (.bool xb_) := BX.out.cell (i := 0) rfl (j := 1) rfl; have f5_1 : World.frozen? _ ⟨g5, 1, none⟩ = false := BX.out.frozen (i := 0) rfl 1; have q5_2 : World.cell? _ ⟨g5, 2, none⟩ = some (.bool xn_) := BX.out.cell (i := 0) rfl (j := 2) rfl; have f5_2 : World.frozen? _ ⟨g5, 2, none⟩ = false := BX.out.frozen (i := 0) rfl 2; have q3_0 : World.cell? _ ⟨g3, 0, none⟩ = some (.slice A1 l1.length c1) := BX.out.cell (i := 1) rfl (j := 0) rfl; have f3_0 : World.frozen? _ ⟨g3, 0, none⟩ = false := BX.out.frozen (i := 1) rfl 0; have q2_0 : World.cell? _ ⟨g2, 0, none⟩ = some (.int .i64 a0_0) := BX.out.cell (i := 2) rfl (j := 0) rfl; have f2_0 : World.frozen? _ ⟨g2, 0, none⟩ = false := BX.out.frozen (i := 2) rfl 0; have q2_1 : World.cell? _ ⟨g2, 1, none⟩ = some (.int .i64 a0_1) := BX.out.cell (i := 2) rfl (j := 1) rfl; have f2_1 : World.frozen? _ ⟨g2, 1, none⟩ = false := BX.out.frozen (i := 2) rfl 1; have q2_2 : World.cell? _ ⟨g2, 2, none⟩ = some (.int .i64 a0_2) := BX.out.cell (i := 2) rfl (j := 2) rfl; have f2_2 : World.frozen? _ ⟨g2, 2, none⟩ = false := BX.out.frozen (i := 2) rfl 2; have q2_3 : World.cell? _ ⟨g2, 3, none⟩ = some (.int .i64 a0_3) := BX.out.cell (i := 2) rfl (j := 3) rfl; have f2_3 : World.frozen? _ ⟨g2, 3, none⟩ = false := BX.out.frozen (i := 2) rfl 3) | (go_at_call 26; refine (impl_Term_parts.calls 9 a0_0 a0_1 a0_2 a0_3 _ _ H4.out).mono ?_; rintro e w47_ ⟨pv, rfl, hR, hb⟩; obtain ⟨pA, pc, rfl, _, hC⟩ := Kd.R_reads hR; have HC := Aside0.mk hC; clear hC hR; have BY := Aside0.mk (Boxes.below (w0 := w) (bs := [(g5, #[.bool xa_, .bool xb_, .bool xn_], 64), (g3, #[.slice A1 l1.length c1], 25), (g2, #[.int .i64 a0_0, .int .i64 a0_1, .int .i64 a0_2, .int .i64 a0_3], 34)]) (by (with_reducible repeat (first | refine Boxes.drewN ?_ _ | refine Boxes.drew ?_ | refine Boxes.alloc ?_ _)); exact BX.out) hb); clear BX hb; have BX := BY; clear BY; clear q5_0 f5_0 q5_1 f5_1 q5_2 f5_2 q3_0 f3_0 q2_0 f2_0 q2_1 f2_1 q2_2 f2_2 q2_3 f2_3; have q5_0 : World.cell? _ ⟨g5, 0, none⟩ = some (.bool xa_) := BX.out.cell (i := 0) rfl (j := 0) rfl; have f5_0 : World.frozen? _ ⟨g5, 0, none⟩ = false := BX.out.frozen (i := 0) rfl 0; have q5_1 : World.cell? _ ⟨g5, 1, none⟩ = some (.bool xb_) := BX.out.cell (i := 0) rfl (j := 1) rfl; have f5_1 : World.frozen? _ ⟨g5, 1, none⟩ = false := BX.out.frozen (i := 0) rfl 1; have q5_2 : World.cell? _ ⟨g5, 2, none⟩ = some (.bool xn_) := BX.out.cell (i := 0) rfl (j := 2) rfl; have f5_2 : World.frozen? _ ⟨g5, 2, none⟩ = false := BX.out.frozen (i := 0) rfl 2; have q3_0 : World.cell? _ ⟨g3, 0, none⟩ = some (.slice A1 l1.length c1) := BX.out.cell (i := 1) rfl (j := 0) rfl; have f3_0 : World.frozen? _ ⟨g3, 0, none⟩ = false := BX.out.frozen (i := 1) rfl 0; have q2_0 : World.cell? _ ⟨g2, 0, none⟩ = some (.int .i64 a0_0) := BX.out.cell (i := 2) rfl (j := 0) rfl; have f2_0 : World.frozen? _ ⟨g2, 0, none⟩ = false := BX.out.frozen (i := 2) rfl 0; have q2_1 : World.cell? _ ⟨g2, 1, none⟩ = some (.int .i64 a0_1) := BX.out.cell (i := 2) rfl (j := 1) rfl; have f2_1 : World.frozen? _ ⟨g2, 1, none⟩ = false := BX.out.frozen (i := 2) rfl 1; have q2_2 : World.cell? _ ⟨g2, 2, none⟩ = some (.int .i64 a0_2) := BX.out.cell (i := 2) rfl (j := 2) rfl; have f2_2 : World.frozen? _ ⟨g2, 2, none⟩ = false := BX.out.frozen (i := 2) rfl 2; have q2_3 : World.cell? _ ⟨g2, 3, none⟩ = some (.int .i64 a0_3) := BX.out.cell (i := 2) rfl (j := 3) rfl; have f2_3 : World.frozen? _ ⟨g2, 3, none⟩ = false := BX.out.frozen (i := 2) rfl 3) | (go_at_call 23; refine (ContainsFuncI.calls pA pc ps_ 36 #[.pointer (some ⟨g3, 0, none⟩)] (impl_Term_fault.p1 l1) _ _ eg1 HC.out (fun x b W hx hb2 => impl_Term_fault_lit1.calls A1 c1 l1 x b g3 _ W (BX.out.lt (i := 1) rfl) (BX.out.cell (i := 1) rfl (j := 0) rfl) (Kd.C_below HR1.out BX.out.low) hc1 hb2 hx) H5.out).mono ?_; rintro e w49_ ⟨rfl, hb⟩; clear HC; have BY := Aside0.mk (Boxes.below (w0 := w) (bs := [(g5, #[.bool xa_, .bool xb_, .bool xn_], 64), (g3, #[.slice A1 l1.length c1], 25), (g2, #[.int .i64 a0_0, .int .i64 a0_1, .int .i64 a0_2, .int .i64 a0_3], 34)]) (by (with_reducible repeat (first | refine Boxes.drewN ?_ _ | refine Boxes.drew ?_ | refine Boxes.alloc ?_ _)); exact BX.out) hb); clear BX hb; have BX := BY; clear BY; clear q5_0 f5_0 q5_1 f5_1 q5_2 f5_2 q3_0 f3_0 q2_0 f2_0 q2_1 f2_1 q2_2 f2_2 q2_3 f2_3; have q5_0 : World.cell? _ ⟨g5, 0, none⟩ = some (.bool xa_) := BX.out.cell (i := 0) rfl (j := 0) rfl; have f5_0 : World.frozen? _ ⟨g5, 0, none⟩ = false := BX.out.frozen (i := 0) rfl 0; have q5_1 : World.cell? _ ⟨g5, 1, none⟩ = some (.bool xb_) := BX.out.cell (i := 0) rfl (j := 1) rfl; have f5_1 : World.frozen? _ ⟨g5, 1, none⟩ = false := BX.out.frozen (i := 0) rfl 1; have q5_2 : World.cell? _ ⟨g5, 2, none⟩ = some (.bool xn_) := BX.out.cell (i := 0) rfl (j := 2) rfl; have f5_2 : World.frozen? _ ⟨g5, 2, none⟩ = false := BX.out.frozen (i := 0) rfl 2; have q3_0 : World.cell? _ ⟨g3, 0, none⟩ = some (.slice A1 l1.length c1) := BX.out.cell (i := 1) rfl (j := 0) rfl; have f3_0 : World.frozen? _ ⟨g3, 0, none⟩ = false := BX.out.frozen (i := 1) rfl 0; have q2_0 : World.cell? _ ⟨g2, 0, none⟩ = some (.int .i64 a0_0) := BX.out.cell (i := 2) rfl (j := 0) rfl; have f2_0 : World.frozen? _ ⟨g2, 0, none⟩ = false := BX.out.frozen (i := 2) rfl 0; have q2_1 : World.cell? _ ⟨g2, 1, none⟩ = some (.int .i64 a0_1) := BX.out.cell (i := 2) rfl (j := 1) rfl; have f2_1 : World.frozen? _ ⟨g2, 1, none⟩ = false := BX.out.frozen (i := 2) rfl 1; have q2_2 : World.cell? _ ⟨g2, 2, none⟩ = some (.int .i64 a0_2) := BX.out.cell (i := 2) rfl (j := 2) rfl; have f2_2 : World.frozen? _ ⟨g2, 2, none⟩ = false := BX.out.frozen (i := 2) rfl 2; have q2_3 : World.cell? _ ⟨g2, 3, none⟩ = some (.int .i64 a0_3) := BX.out.cell (i := 2) rfl (j := 3) rfl; have f2_3 : World.frozen? _ ⟨g2, 3, none⟩ = false := BX.out.frozen (i := 2) rfl 3) | (go_at_call 23; refine (ContainsFuncI.calls pA pc ps_ 37 #[.pointer (some ⟨g3, 0, none⟩)] (impl_Term_fault.p2 l1) _ _ eg2 HC.out (fun x b W hx hb2 => impl_Term_fault_lit2.calls A1 c1 l1 x b g3 _ W (BX.out.lt (i := 1) rfl) (BX.out.cell (i := 1) rfl (j := 0) rfl) (Kd.C_below HR1.out BX.out.low) hc1 hb2 hx) (H6.out (Int.not_le.mp (of_decide_eq_false ci)))).mono ?_; rintro e w49_ ⟨rfl, hb⟩; clear HC; have BY := Aside0.mk (Boxes.below (w0 := w) (bs := [(g5, #[.bool xa_, .bool xb_, .bool xn_], 64), (g3, #[.slice A1 l1.length c1], 25), (g2, #[.int .i64 a0_0, .int .i64 a0_1, .int .i64 a0_2, .int .i64 a0_3], 34)]) (by (with_reducible repeat (first | refine Boxes.drewN ?_ _ | refine Boxes.drew ?_ | refine Boxes.alloc ?_ _)); exact BX.out) hb); clear BX hb; have BX := BY; clear BY; clear q5_0 f5_0 q5_1 f5_1 q5_2 f5_2 q3_0 f3_0 q2_0 f2_0 q2_1 f2_1 q2_2 f2_2 q2_3 f2_3; have q5_0 : World.cell? _ ⟨g5, 0, none⟩ = some (.bool xa_) := BX.out.cell (i := 0) rfl (j := 0) rfl; have f5_0 : World.frozen? _ ⟨g5, 0, none⟩ = false := BX.out.frozen (i := 0) rfl 0; have q5_1 : World.cell? _ ⟨g5, 1, none⟩ = some (.bool xb_) := BX.out.cell (i := 0) rfl (j := 1) rfl; have f5_1 : World.frozen? _ ⟨g5, 1, none⟩ = false := BX.out.frozen (i := 0) rfl 1; have q5_2 : World.cell? _ ⟨g5, 2, none⟩ = some (.bool xn_) := BX.out.cell (i := 0) rfl (j := 2) rfl; have f5_2 : World.frozen? _ ⟨g5, 2, none⟩ = false := BX.out.frozen (i := 0) rfl 2; have q3_0 : World.cell? _ ⟨g3, 0, none⟩ = some (.slice A1 l1.length c1) := BX.out.cell (i := 1) rfl (j := 0) rfl; have f3_0 : World.frozen? _ ⟨g3, 0, none⟩ = false := BX.out.frozen (i := 1) rfl 0; have q2_0 : World.cell? _ ⟨g2, 0, none⟩ = some (.int .i64 a0_0) := BX.out.cell (i := 2) rfl (j := 0) rfl; have f2_0 : World.frozen? _ ⟨g2, 0, none⟩ = false := BX.out.frozen (i := 2) rfl 0; have q2_1 : World.cell? _ ⟨g2, 1, none⟩ = some (.int .i64 a0_1) := BX.out.cell (i := 2) rfl (j := 1) rfl; have f2_1 : World.frozen? _ ⟨g2, 1, none⟩ = false := BX.out.frozen (i := 2) rfl 1; have q2_2 : World.cell? _ ⟨g2, 2, none⟩ = some (.int .i64 a0_2) := BX.out.cell (i := 2) rfl (j := 2) rfl; have f2_2 : World.frozen? _ ⟨g2, 2, none⟩ = false := BX.out.frozen (i := 2) rfl 2; have q2_3 : World.cell? _ ⟨g2, 3, none⟩ = some (.int .i64 a0_3) := BX.out.cell (i := 2) rfl (j := 3) rfl; have f2_3 : World.frozen? _ ⟨g2, 3, none⟩ = false := BX.out.frozen (i := 2) rfl 3) | fail)
    go_ret
    refine ⟨congrArg (fun z => Ending.returned (Value.int .i64 z)) ?_, (Boxes.low (w0 := w) (bs := [(g5, #[.bool xa_, .bool xb_, .bool xn_], 64), (g3, #[.slice A1 l1.length c1], 25), (g2, #[.int .i64 a0_0, .int .i64 a0_1, .int .i64 a0_2, .int .i64 a0_3], 34)]) (by (with_reducible repeat (first | refine Boxes.drewN ?_ _ | refine Boxes.drew ?_ | refine Boxes.alloc ?_ _)); exact BX.out))⟩
    rw [← HV.out]
    simp only [impl_Term_fault.r]
    clear HV BX HR1 H1 H2 H3 H4 H5 eg1 eg2 hu1 hu2 hu3
    simp_all
    try ((repeat' split) <;> omega))
set_option maxHeartbeats 16000000 in
set_option maxRecDepth 100000 in
theorem impl_Term_fault_p (a0_0 : Int) (a0_1 : Int) (a0_2 : Int) (a0_3 : Int) (A1 : Option Addr) (c1 : Nat) (l1 : List S34) (xa_ xb_ xn_ b1_ b2_ : Bool) (ps_ : List Int) (i_ j_ r_ : Int) (w : World) (hc1 : l1.length ≤ c1) (HR1 : Aside0 (Kd.C k34 w A1 l1.length l1)) (eg1 : ∀ args w, (callFunc 36 args).run Try.prog w = .ok (.enter 36 args) w) (eg2 : ∀ args w, (callFunc 37 args).run Try.prog w = .ok (.enter 37 args) w) (H1 : Aside0 (impl_in.f a0_0 1 7 = some b1_)) (H2 : Aside0 (impl_namesOf.f 9 a0_0 = some (xa_, xb_, xn_))) (H3 : Aside0 (impl_in.f a0_3 0 9999 = some b2_))
    (H4 : Aside0 (impl_Term_parts.f 9 a0_0 a0_1 a0_2 a0_3 = some ps_)) (H5 : Aside0 (idxO (impl_Term_fault.p1 l1) ps_ 0 = some i_)) (H6 : Aside0 (i_ < 0 → idxO (impl_Term_fault.p2 l1) ps_ 0 = some j_)) (HV : Aside0 (impl_Term_fault.r a0_0 a0_1 a0_2 a0_3 b1_ xa_ xb_ xn_ b2_ i_ j_ = r_)) (vb1 : b1_ = true) (ea : xa_ = true) (eb : xb_ = true) (en : xn_ = false) (o6 : (a0_0 != 6) = true) (e7 : (a0_0 == 7) = !(a0_0 != 7)) :
    Calls Try.prog 32 #[.agg #[.int .i64 a0_0, .int .i64 a0_1, .int .i64 a0_2, .int .i64 a0_3], .slice A1 l1.length c1] w fun e w' => e = .returned (.int .i64 r_) ∧ Below w.heap.size w w' := by
  have hp : ((a0_3 != 0) = true) ∨ ((a0_3 != 0) = false ∧ b2_ = true ∧ decide (0 ≤ i_) = true) ∨ ((a0_3 != 0) = false ∧ b2_ = true ∧ decide (0 ≤ i_) = false ∧ (a0_0 != 7) = true) ∨ ((a0_3 != 0) = false ∧ b2_ = true ∧ decide (0 ≤ i_) = false ∧ (a0_0 != 7) = false ∧ decide (0 ≤ j_) = true) ∨ ((a0_3 != 0) = false ∧ b2_ = true ∧ decide (0 ≤ i_) = false ∧ (a0_0 != 7) = false ∧ decide (0 ≤ j_) = false ∧ decide (a0_1 > a0_2) = true) ∨ ((a0_3 != 0) = false ∧ b2_ = true ∧ decide (0 ≤ i_) = false ∧ (a0_0 != 7) = false ∧ decide (0 ≤ j_) = false ∧ decide (a0_1 > a0_2) = false) ∨ ((a0_3 != 0) = false ∧ b2_ = false) := by
    rcases Bool.eq_false_or_eq_true ((a0_3 != 0)) with z2 | z2
    · exact .inl z2
    · rcases Bool.eq_false_or_eq_true (b2_) with vb | vb
      · rcases Bool.eq_false_or_eq_true (decide (0 ≤ i_)) with ci | ci
        · exact .inr (.inl ⟨z2, vb, ci⟩)
        · rcases Bool.eq_false_or_eq_true ((a0_0 != 7)) with o7 | o7
          · exact .inr (.inr (.inl ⟨z2, vb, ci, o7⟩))
          · rcases Bool.eq_false_or_eq_true (decide (0 ≤ j_)) with cj | cj
            · exact .inr (.inr (.inr (.inl ⟨z2, vb, ci, o7, cj⟩)))
            · rcases Bool.eq_false_or_eq_true (decide (a0_1 > a0_2)) with cg | cg
              · exact .inr (.inr (.inr (.inr (.inl ⟨z2, vb, ci, o7, cj, cg⟩))))
              · exact .inr (.inr (.inr (.inr (.inr (.inl ⟨z2, vb, ci, o7, cj, cg⟩)))))
      · exact .inr (.inr (.inr (.inr (.inr (.inr ⟨z2, vb⟩)))))
  rcases hp with z2 | ⟨z2, vb, ci⟩ | ⟨z2, vb, ci, o7⟩ | ⟨z2, vb, ci, o7, cj⟩ | ⟨z2, vb, ci, o7, cj, cg⟩ | ⟨z2, vb, ci, o7, cj, cg⟩ | ⟨z2, vb⟩
  all_goals (
    have BX := Aside0.mk (Boxes.start w)
    have hu1 := Try.underlying34
    have hu2 := Try.underlying25
    have hu3 := Try.underlying64
    go_enter Try.func32, Try.ntmps32
    go_wp2_with (first | ((with_reducible refine gate_dst (N := 2) rfl ?_); refine box_event ?hg (N := 2) ?hd (cs := #[.int .i64 a0_0, .int .i64 a0_1, .int .i64 a0_2, .int .i64 a0_3]) (t := 34) ?hr ?_; (case hd => rfl); (case hg => rfl); (case hr => first | (go_simp; done) | (go_simp; rfl)); intro g2 hg w2_ hbox hb; have BY := Aside0.mk (Boxes.new (w0 := w) (bs := []) (by (with_reducible repeat (first | refine Boxes.drewN ?_ _ | refine Boxes.drew ?_ | refine Boxes.alloc ?_ _)); exact BX.out) hg hbox hb); clear BX hb hbox hg; have BX := BY; clear BY; have q2_0 : World.cell? _ ⟨g2, 0, none⟩ = some (.int .i64 a0_0) := BX.out.cell (i := 0) rfl (j := 0) rfl; have f2_0 : World.frozen? _ ⟨g2, 0, none⟩ = false := BX.out.frozen (i := 0) rfl 0; have q2_1 : World.cell? _ ⟨g2, 1, none⟩ = some (.int .i64 a0_1) := BX.out.cell (i := 0) rfl (j := 1) rfl; have f2_1 : World.frozen? _ ⟨g2, 1, none⟩ = false := BX.out.frozen (i := 0) rfl 1; have q2_2 : World.cell? _ ⟨g2, 2, none⟩ = some (.int .i64 a0_2) := BX.out.cell (i := 0) rfl (j := 2) rfl; have f2_2 : World.frozen? _ ⟨g2, 2, none⟩ = false := BX.out.frozen (i := 0) rfl 2; have q2_3 : World.cell? _ ⟨g2, 3, none⟩ = some (.int .i64 a0_3) := BX.out.cell (i := 0) rfl (j := 3) rfl; have f2_3 : World.frozen? _ ⟨g2, 3, none⟩ = false := BX.out.frozen (i := 0) rfl 3) | ((with_reducible refine gate_dst (N := 3) rfl ?_); refine box_event ?hg (N := 3) ?hd (cs := #[.slice A1 l1.length c1]) (t := 25) ?hr ?_; (case hd => rfl); (case hg => rfl); (case hr => first | (go_simp; done) | (go_simp; rfl)); intro g3 hg w3_ hbox hb; have BY := Aside0.mk (Boxes.new (w0 := w) (bs := [(g2, #[.int .i64 a0_0, .int .i64 a0_1, .int .i64 a0_2, .int .i64 a0_3], 34)]) (by (with_reducible repeat (first | refine Boxes.drewN ?_ _ | refine Boxes.drew ?_ | refine Boxes.alloc ?_ _)); exact BX.out) hg hbox hb); clear BX hb hbox hg; have BX := BY; clear BY; clear q2_0 f2_0 q2_1 f2_1 q2_2 f2_2 q2_3 f2_3; have q3_0 : World.cell? _ ⟨g3, 0, none⟩ = some (.slice A1 l1.length c1) := BX.out.cell (i := 0) rfl (j := 0) rfl; have f3_0 : World.frozen? _ ⟨g3, 0, none⟩ = false := BX.out.frozen (i := 0) rfl 0; have q2_0 : World.cell? _ ⟨g2, 0, none⟩ = some (.int .i64 a0_0) := BX.out.cell (i := 1) rfl (j := 0) rfl; have f2_0 : World.frozen? _ ⟨g2, 0, none⟩ = false := BX.out.frozen (i := 1) rfl 0; have q2_1 : World.cell? _ ⟨g2, 1, none⟩ = some (.int .i64 a0_1) := BX.out.cell (i := 1) rfl (j := 1) rfl; have f2_1 : World.frozen? _ ⟨g2, 1, none⟩ = false := BX.out.frozen (i := 1) rfl 1; have q2_2 : World.cell? _ ⟨g2, 2, none⟩ = some (.int .i64 a0_2) := BX.out.cell (i := 1) rfl (j := 2) rfl; have f2_2 : World.frozen? _ ⟨g2, 2, none⟩ = false := BX.out.frozen (i := 1) rfl 2; have q2_3 : World.cell? _ ⟨g2, 3, none⟩ = some (.int .i64 a0_3) := BX.out.cell (i := 1) rfl (j := 3) rfl; have f2_3 : World.frozen? _ ⟨g2, 3, none⟩ = false := BX.out.frozen (i := 1) rfl 3) | ((with_reducible refine gate_dst (N := 5) rfl ?_); refine box_event ?hg (N := 5) ?hd (cs := #[.bool false, .bool false, .bool false]) (t := 64) ?hr ?_; (case hd => rfl); (case hg => rfl); (case hr => first | (go_simp; done) | (go_simp; rfl)); intro g5 hg w5_ hbox hb; have BY := Aside0.mk (Boxes.new (w0 := w) (bs := [(g3, #[.slice A1 l1.length c1], 25), (g2, #[.int .i64 a0_0, .int .i64 a0_1, .int .i64 a0_2, .int .i64 a0_3], 34)]) (by (with_reducible repeat (first | refine Boxes.drewN ?_ _ | refine Boxes.drew ?_ | refine Boxes.alloc ?_ _)); exact BX.out) hg hbox hb); clear BX hb hbox hg; have BX := BY; clear BY; clear q3_0 f3_0 q2_0 f2_0 q2_1 f2_1 q2_2 f2_2 q2_3 f2_3; have q5_0 : World.cell? _ ⟨g5, 0, none⟩ = some (.bool false) := BX.out.cell (i := 0) rfl (j := 0) rfl; have f5_0 : World.frozen? _ ⟨g5, 0, none⟩ = false := BX.out.frozen (i := 0) rfl 0; have q5_1 : World.cell? _ ⟨g5, 1, none⟩ = some (.bool false) := BX.out.cell (i := 0) rfl (j := 1) rfl; have f5_1 : World.frozen? _ ⟨g5, 1, none⟩ = false := BX.out.frozen (i := 0) rfl 1; have q5_2 : World.cell? _ ⟨g5, 2, none⟩ = some (.bool false) := BX.out.cell (i := 0) rfl (j := 2) rfl; have f5_2 : World.frozen? _ ⟨g5, 2, none⟩ = false := BX.out.frozen (i := 0) rfl 2; have q3_0 : World.cell? _ ⟨g3, 0, none⟩ = some (.slice A1 l1.length c1) := BX.out.cell (i := 1) rfl (j := 0) rfl; have f3_0 : World.frozen? _ ⟨g3, 0, none⟩ = false := BX.out.frozen (i := 1) rfl 0; have q2_0 : World.cell? _ ⟨g2, 0, none⟩ = some (.int .i64 a0_0) := BX.out.cell (i := 2) rfl (j := 0) rfl; have f2_0 : World.frozen? _ ⟨g2, 0, none⟩ = false := BX.out.frozen (i := 2) rfl 0; have q2_1 : World.cell? _ ⟨g2, 1, none⟩ = some (.int .i64 a0_1) := BX.out.cell (i := 2) rfl (j := 1) rfl; have f2_1 : World.frozen? _ ⟨g2, 1, none⟩ = false := BX.out.frozen (i := 2) rfl 1; have q2_2 : World.cell? _ ⟨g2, 2, none⟩ = some (.int .i64 a0_2) := BX.out.cell (i := 2) rfl (j := 2) rfl; have f2_2 : World.frozen? _ ⟨g2, 2, none⟩ = false := BX.out.frozen (i := 2) rfl 2; have q2_3 : World.cell? _ ⟨g2, 3, none⟩ = some (.int .i64 a0_3) := BX.out.cell (i := 2) rfl (j := 3) rfl; have f2_3 : World.frozen? _ ⟨g2, 3, none⟩ = false := BX.out.frozen (i := 2) rfl 3) | (go_at_call 34; first | ((with_reducible refine (impl_in.calls a0_0 1 7 _ _ H1.out).mono ?_); rintro e w' ⟨rfl, ⟨nd, rfl⟩⟩) | ((with_reducible refine (impl_in.calls a0_3 0 9999 _ _ H3.out).mono ?_); rintro e w' ⟨rfl, ⟨nd2, rfl⟩⟩)) | (go_at_call 35; refine (impl_namesOf.calls 9 a0_0 _ _ _ _ H2.out).mono ?_; rintro e w12_ ⟨rfl, hb⟩; have BY := Aside0.mk (Boxes.below (w0 := w) (bs := [(g3, #[.slice A1 l1.length c1], 25), (g2, #[.int .i64 a0_0, .int .i64 a0_1, .int .i64 a0_2, .int .i64 a0_3], 34)]) (by (with_reducible repeat (first | refine Boxes.drewN ?_ _ | refine Boxes.drew ?_ | refine Boxes.alloc ?_ _)); exact BX.out) hb); clear BX hb; have BX := BY; clear BY; clear q3_0 f3_0 q2_0 f2_0 q2_1 f2_1 q2_2 f2_2 q2_3 f2_3; have q3_0 : World.cell? _ ⟨g3, 0, none⟩ = some (.slice A1 l1.length c1) := BX.out.cell (i := 0) rfl (j := 0) rfl; have f3_0 : World.frozen? _ ⟨g3, 0, none⟩ = false := BX.out.frozen (i := 0) rfl 0; have q2_0 : World.cell? _ ⟨g2, 0, none⟩ = some (.int .i64 a0_0) := BX.out.cell (i := 1) rfl (j := 0) rfl; have f2_0 : World.frozen? _ ⟨g2, 0, none⟩ = false := BX.out.frozen (i := 1) rfl 0; have q2_1 : World.cell? _ ⟨g2, 1, none⟩ = some (.int .i64 a0_1) := BX.out.cell (i := 1) rfl (j := 1) rfl; have f2_1 : World.frozen? _ ⟨g2, 1, none⟩ = false := BX.out.frozen (i := 1) rfl 1; have q2_2 : World.cell? _ ⟨g2, 2, none⟩ = some (.int .i64 a0_2) := BX.out.cell (i := 1) rfl (j := 2) rfl; have f2_2 : World.frozen? _ ⟨g2, 2, none⟩ = false := BX.out.frozen (i := 1) rfl 2; have q2_3 : World.cell? _ ⟨g2, 3, none⟩ = some (.int .i64 a0_3) := BX.out.cell (i := 1) rfl (j := 3) rfl; have f2_3 : World.frozen? _ ⟨g2, 3, none⟩ = false := BX.out.frozen (i := 1) rfl 3) | ((with_reducible refine gate_store (t := 64) (p := 5) rfl ?_); refine boxes_store (w0 := w) (bs := [(g5, #[.bool xa_, .bool xb_, .bool xn_], 64), (g3, #[.slice A1 l1.length c1], 25), (g2, #[.int .i64 a0_0, .int .i64 a0_1, .int .i64 a0_2, .int .i64 a0_3], 34)]) (W1 := ((World.setCell w5_ ⟨g5, 0, none⟩ (.bool xa_)).setCell ⟨g5, 1, none⟩ (.bool xb_)).setCell ⟨g5, 2, none⟩ (.bool xn_)) rfl rfl rfl ?hr (((Boxes.put (w0 := w) (b1 := []) (b2 := [(g3, #[.slice A1 l1.length c1], 25), (g2, #[.int .i64 a0_0, .int .i64 a0_1, .int .i64 a0_2, .int .i64 a0_3], 34)]) (g := g5) (cs := #[.bool false, .bool false, .bool false]) (t := 64) BX.out 0 (.bool xa_)).put (b1 := []) 1 (.bool xb_)).put (b1 := []) 2 (.bool xn_)) ?_; (case hr => first | (go_simp; done) | (go_simp; rfl)); intro w13_ BY; have BY := Aside0.mk BY; clear BX; have BX := BY; clear BY; clear q5_0 f5_0 q5_1 f5_1 q5_2 f5_2 q3_0 f3_0 q2_0 f2_0 q2_1 f2_1 q2_2 f2_2 q2_3 f2_3; have q5_0 : World.cell? _ ⟨g5, 0, none⟩ = some (.bool xa_) := BX.out.cell (i := 0) rfl (j := 0) rfl; have f5_0 : World.frozen? _ ⟨g5, 0, none⟩ = false := BX.out.frozen (i := 0) rfl 0; have q5_1 : World.cell? _ ⟨g5, 1, none⟩ = some (.bool xb_) := BX.out.cell (i := 0) rfl (j := 1) rfl; have f5_1 : World.frozen? _ ⟨g5, 1, none⟩ = false := BX.out.frozen (i := 0) rfl 1; have q5_2 : World.cell? _ ⟨g5, 2, none⟩ = some (.bool xn_) := BX.out.cell (i := 0) rfl (j := 2) rfl; have f5_2 : World.frozen? _ ⟨g5, 2, none⟩ = false := BX.out.frozen (i := 0) rfl 2; have q3_0 : World.cell? _ ⟨g3, 0, none⟩ = some (.slice A1 l1.length c1) := BX.out.cell (i := 1) rfl (j := 0) rfl; have f3_0 : World.frozen? _ ⟨g3, 0, none⟩ = false := BX.out.frozen (i := 1) rfl 0; have q2_0 : World.cell? _ ⟨g2, 0, none⟩ = some (.int .i64 a0_0) := BX.out.cell (i := 2) rfl (j := 0) rfl; have f2_0 : World.frozen? _ ⟨g2, 0, none⟩ = false := BX.out.frozen (i := 2) rfl 0; have q2_1 : World.cell? _ ⟨g2, 1, none⟩ = some (.int .i64 a0_1) := BX.out.cell (i := 2) rfl (j := 1) rfl; have f2_1 : World.frozen? _ ⟨g2, 1, none⟩ = false := BX.out.frozen (i := 2) rfl 1; have q2_2 : World.cell? _ ⟨g2, 2, none⟩ = some (.int .i64 a0_2) := BX.out.cell (i := 2) rfl (j := 2) rfl; have f2_2 : World.frozen? _ ⟨g2, 2, none⟩ = false := BX.out.frozen (i := 2) rfl 2; have q2_3 : World.cell? _ ⟨g2, 3, none⟩ = some (.int .i64 a0_3) := BX.out.cell (i := 2) rfl (j := 3) rfl; have f2_3 : World.frozen? _ ⟨g2, 3, none⟩ = false := BX.out.frozen (i := 2) rfl 3) | (go_at_call 26; refine (impl_Term_parts.calls 9 a0_0 a0_1 a0_2 a0_3 _ _ H4.out).mono ?_; rintro e w47_ ⟨pv, rfl, hR, hb⟩; obtain ⟨pA, pc, rfl, _, hC⟩ := Kd.R_reads hR; have HC := Aside0.mk hC; clear hC hR; have BY := Aside0.mk (Boxes.below (w0 := w) (bs := [(g5, #[.bool xa_, .bool xb_, .bool xn_], 64), (g3, #[.slice A1 l1.length c1], 25), (g2, #[.int .i64 a0_0, .int .i64 a0_1, .int .i64 a0_2, .int .i64 a0_3], 34)]) (by (with_reducible repeat (first | refine Boxes.drewN ?_ _ | refine Boxes.drew ?_ | refine Boxes.alloc ?_ _)); exact BX.out) hb); clear BX hb; have BX := BY; clear BY; clear q5_0 f5_0 q5_1 f5_1 q5_2 f5_2 q3_0 f3_0 q2_0 f2_0 q2_1 f2_1 q2_2 f2_2 q2_3 f2_3; have q5_0 : World.cell? _ ⟨g5, 0, none⟩ = some (.bool xa_) := BX.out.cell (i := 0) rfl (j := 0) rfl; have f5_0 : World.frozen? _ ⟨g5, 0, none⟩ = false := BX.out.frozen (i := 0) rfl 0; have q5_1 : World.cell? _ ⟨g5, 1, none⟩ = some (.bool xb_) := BX.out.cell (i := 0) rfl (j := 1) rfl; have f5_1 : World.frozen? _ ⟨g5, 1, none⟩ = false := BX.out.frozen (i := 0) rfl 1; have q5_2 : World.cell? _ ⟨g5, 2, none⟩ = some (.bool xn_) := BX.out.cell (i := 0) rfl (j := 2) rfl; have f5_2 : World.frozen? _ ⟨g5, 2, none⟩ = false := BX.out.frozen (i := 0) rfl 2; have q3_0 : World.cell? _ ⟨g3, 0, none⟩ = some (.slice A1 l1.length c1) := BX.out.cell (i := 1) rfl (j := 0) rfl; have f3_0 : World.frozen? _ ⟨g3, 0, none⟩ = false := BX.out.frozen (i := 1) rfl 0; have q2_0 : World.cell? _ ⟨g2, 0, none⟩ = some (.int .i64 a0_0) := BX.out.cell (i := 2) rfl (j := 0) rfl; have f2_0 : World.frozen? _ ⟨g2, 0, none⟩ = false := BX.out.frozen (i := 2) rfl 0; have q2_1 : World.cell? _ ⟨g2, 1, none⟩ = some (.int .i64 a0_1) := BX.out.cell (i := 2) rfl (j := 1) rfl; have f2_1 : World.frozen? _ ⟨g2, 1, none⟩ = false := BX.out.frozen (i := 2) rfl 1; have q2_2 : World.cell? _ ⟨g2, 2, none⟩ = some (.int .i64 a0_2) := BX.out.cell (i := 2) rfl (j := 2) rfl; have f2_2 : World.frozen? _ ⟨g2, 2, none⟩ = false := BX.out.frozen (i := 2) rfl 2; have q2_3 : World.cell? _ ⟨g2, 3, none⟩ = some (.int .i64 a0_3) := BX.out.cell (i := 2) rfl (j := 3) rfl; have f2_3 : World.frozen? _ ⟨g2, 3, none⟩ = false := BX.out.frozen (i := 2) rfl 3) | (go_at_call 23; refine (ContainsFuncI.calls pA pc ps_ 36 #[.pointer (some ⟨g3, 0, none⟩)] (impl_Term_fault.p1 l1) _ _ eg1 HC.out (fun x b W hx hb2 => impl_Term_fault_lit1.calls A1 c1 l1 x b g3 _ W (BX.out.lt (i := 1) rfl) (BX.out.cell (i := 1) rfl (j := 0) rfl) (Kd.C_below HR1.out BX.out.low) hc1 hb2 hx) H5.out).mono ?_; rintro e w49_ ⟨rfl, hb⟩; clear HC; have BY := Aside0.mk (Boxes.below (w0 := w) (bs := [(g5, #[.bool xa_, .bool xb_, .bool xn_], 64), (g3, #[.slice A1 l1.length c1], 25), (g2, #[.int .i64 a0_0, .int .i64 a0_1, .int .i64 a0_2, .int .i64 a0_3], 34)]) (by (with_reducible repeat (first | refine Boxes.drewN ?_ _ | refine Boxes.drew ?_ | refine Boxes.alloc ?_ _)); exact BX.out) hb); clear BX hb; have BX := BY; clear BY; clear q5_0 f5_0 q5_1 f5_1 q5_2 f5_2 q3_0 f3_0 q2_0 f2_0 q2_1 f2_1 q2_2 f2_2 q2_3 f2_3; have q5_0 : World.cell? _ ⟨g5, 0, none⟩ = some (.bool xa_) := BX.out.cell (i := 0) rfl (j := 0) rfl; have f5_0 : World.frozen? _ ⟨g5, 0, none⟩ = false := BX.out.frozen (i := 0) rfl 0; have q5_1 : World.cell? _ ⟨g5, 1, none⟩ = some (.bool xb_) := BX.out.cell (i := 0) rfl (j := 1) rfl; have f5_1 : World.frozen? _ ⟨g5, 1, none⟩ = false := BX.out.frozen (i := 0) rfl 1; have q5_2 : World.cell? _ ⟨g5, 2, none⟩ = some (.bool xn_) := BX.out.cell (i := 0) rfl (j := 2) rfl; have f5_2 : World.frozen? _ ⟨g5, 2, none⟩ = false := BX.out.frozen (i := 0) rfl 2; have q3_0 : World.cell? _ ⟨g3, 0, none⟩ = some (.slice A1 l1.length c1) := BX.out.cell (i := 1) rfl (j := 0) rfl; have f3_0 : World.frozen? _ ⟨g3, 0, none⟩ = false := BX.out.frozen (i := 1) rfl 0; have q2_0 : World.cell? _ ⟨g2, 0, none⟩ = some (.int .i64 a0_0) := BX.out.cell (i := 2) rfl (j := 0) rfl; have f2_0 : World.frozen? _ ⟨g2, 0, none⟩ = false := BX.out.frozen (i := 2) rfl 0; have q2_1 : World.cell? _ ⟨g2, 1, none⟩ = some (.int .i64 a0_1) := BX.out.cell (i := 2) rfl (j := 1) rfl; have f2_1 : World.frozen? _ ⟨g2, 1, none⟩ = false := BX.out.frozen (i := 2) rfl 1; have q2_2 : World.cell? _ ⟨g2, 2, none⟩ = some (.int .i64 a0_2) := BX.out.cell (i := 2) rfl (j := 2) rfl; have f2_2 : World.frozen? _ ⟨g2, 2, none⟩ = false := BX.out.frozen (i := 2) rfl 2; have q2_3 : World.cell? _ ⟨g2, 3, none⟩ = some (.int .i64 a0_3) := BX.out.cell (i := 2) rfl (j := 3) rfl; have f2_3 : World.frozen? _ ⟨g2, 3, none⟩ = false := BX.out.frozen (i := 2) rfl 3) | (go_at_call 23; refine (ContainsFuncI.calls pA pc ps_ 37 #[.pointer (some ⟨g3, 0, none⟩)] (impl_Term_fault.p2 l1) _ _ eg2 HC.out (fun x b W hx hb2 => impl_Term_fault_lit2.calls A1 c1 l1 x b g3 _ W (BX.out.lt (i := 1) rfl) (BX.out.cell (i := 1) rfl (j := 0) rfl) (Kd.C_below HR1.out BX.out.low) hc1 hb2 hx) (H6.out (Int.not_le.mp (of_decide_eq_false ci)))).mono ?_; rintro e w49_ ⟨rfl, hb⟩; clear HC; have BY := Aside0.mk (Boxes.below (w0 := w) (bs := [(g5, #[.bool xa_, .bool xb_, .bool xn_], 64), (g3, #[.slice A1 l1.length c1], 25), (g2, #[.int .i64 a0_0, .int .i64 a0_1, .int .i64 a0_2, .int .i64 a0_3], 34)]) (by (with_reducible repeat (first | refine Boxes.drewN ?_ _ | refine Boxes.drew ?_ | refine Boxes.alloc ?_ _)); exact BX.out) hb); clear BX hb; have BX := BY; clear BY; clear q5_0 f5_0 q5_1 f5_1 q5_2 f5_2 q3_0 f3_0 q2_0 f2_0 q2_1 f2_1 q2_2 f2_2 q2_3 f2_3; have q5_0 : World.cell? _ ⟨g5, 0, none⟩ = some (.bool xa_) := BX.out.cell (i := 0) rfl (j := 0) rfl; have f5_0 : World.frozen? _ ⟨g5, 0, none⟩ = false := BX.out.frozen (i := 0) rfl 0; have q5_1 : World.cell? _ ⟨g5, 1, none⟩ = some (.bool xb_) := BX.out.cell (i := 0) rfl (j := 1) rfl; have f5_1 : World.frozen? _ ⟨g5, 1, none⟩ = false := BX.out.frozen (i := 0) rfl 1; have q5_2 : World.cell? _ ⟨g5, 2, none⟩ = some (.bool xn_) := BX.out.cell (i := 0) rfl (j := 2) rfl; have f5_2 : World.frozen? _ ⟨g5, 2, none⟩ = false := BX.out.frozen (i := 0) rfl 2; have q3_0 : World.cell? _ ⟨g3, 0, none⟩ = some (.slice A1 l1.length c1) := BX.out.cell (i := 1) rfl (j := 0) rfl; have f3_0 : World.frozen? _ ⟨g3, 0, none⟩ = false := BX.out.frozen (i := 1) rfl 0; have q2_0 : World.cell? _ ⟨g2, 0, none⟩ = some (.int .i64 a0_0) := BX.out.cell (i := 2) rfl (j := 0) rfl; have f2_0 : World.frozen? _ ⟨g2, 0, none⟩ = false := BX.out.frozen (i := 2) rfl 0; have q2_1 : World.cell? _ ⟨g2, 1, none⟩ = some (.int .i64 a0_1) := BX.out.cell (i := 2) rfl (j := 1) rfl; have f2_1 : World.frozen? _ ⟨g2, 1, none⟩ = false := BX.out.frozen (i := 2) rfl 1; have q2_2 : World.cell? _ ⟨g2, 2, none⟩ = some (.int .i64 a0_2) := BX.out.cell (i := 2) rfl (j := 2) rfl; have f2_2 : World.frozen? _ ⟨g2, 2, none⟩ = false := BX.out.frozen (i := 2) rfl 2; have q2_3 : World.cell? _ ⟨g2, 3, none⟩ = some (.int .i64 a0_3) := BX.out.cell (i := 2) rfl (j := 3) rfl; have f2_3 : World.frozen? _ ⟨g2, 3, none⟩ = false := BX.out.frozen (i := 2) rfl 3) | fail)
    go_ret
    refine ⟨congrArg (fun z => Ending.returned (Value.int .i64 z)) ?_, (Boxes.low (w0 := w) (bs := [(g5, #[.bool xa_, .bool xb_, .bool xn_], 64), (g3, #[.slice A1 l1.length c1], 25), (g2, #[.int .i64 a0_0, .int .i64 a0_1, .int .i64 a0_2, .int .i64 a0_3], 34)]) (by (with_reducible repeat (first | refine Boxes.drewN ?_ _ | refine Boxes.drew ?_ | refine Boxes.alloc ?_ _)); exact BX.out))⟩
    rw [← HV.out]
    simp only [impl_Term_fault.r]
    clear HV BX HR1 H1 H2 H3 H4 H5 eg1 eg2 hu1 hu2 hu3
    simp_all
    try ((repeat' split) <;> omega))
set_option maxRecDepth 100000 in
theorem impl_Term_fault.calls (a0_0 : Int) (a0_1 : Int) (a0_2 : Int) (a0_3 : Int) (A1 : Option Addr) (c1 : Nat) (l1 : List S34) (r : Int) (w : World) (hr1 : Kd.C k34 w A1 l1.length l1) (hc1 : l1.length ≤ c1) (h : impl_Term_fault.f a0_0 a0_1 a0_2 a0_3 l1 = some r) :
    Calls Try.prog 32 #[.agg #[.int .i64 a0_0, .int .i64 a0_1, .int .i64 a0_2, .int .i64 a0_3], .slice A1 l1.length c1] w fun e w' => e = .returned (.int .i64 r) ∧ Below w.heap.size w w' := by
  have eg1 : ∀ args w, (callFunc 36 args).run Try.prog w = .ok (.enter 36 args) w := Go.Proofs.enters_of Try.func36 (by kernel_rfl) rfl
  have eg2 : ∀ args w, (callFunc 37 args).run Try.prog w = .ok (.enter 37 args) w := Go.Proofs.enters_of Try.func37 (by kernel_rfl) rfl
  unfold impl_Term_fault.f at h
  obtain ⟨b1_, h1, h⟩ := Option.bind_eq_some_iff.mp h
  obtain ⟨⟨xa_, xb_, xn_⟩, h2, h⟩ := Option.bind_eq_some_iff.mp h
  obtain ⟨b2_, h3, h⟩ := Option.bind_eq_some_iff.mp h
  obtain ⟨ps_, h4, h⟩ := Option.bind_eq_some_iff.mp h
  obtain ⟨i_, h5, h⟩ := Option.bind_eq_some_iff.mp h
  obtain ⟨j_, h6, h⟩ := Option.bind_eq_some_iff.mp h
  have HV := Aside0.mk (Option.some.inj h)
  have H1 := Aside0.mk h1
  have H2 := Aside0.mk h2
  have H3 := Aside0.mk h3
  have H4 := Aside0.mk h4
  have H5 := Aside0.mk h5
  have H6 : Aside0 (i_ < 0 → idxO (impl_Term_fault.p2 l1) ps_ 0 = some j_) := ⟨fun hi => by rw [if_neg (by omega)] at h6; exact h6⟩
  have HR1 := Aside0.mk hr1
  rcases Bool.eq_false_or_eq_true b1_ with vb1 | vb1
  · have hn : ((xa_ = false ∧ xb_ = false ∧ xn_ = true) ∧ (a0_0 != 6) = true ∧ (a0_0 != 7) = true) ∨ ((xa_ = true ∧ xb_ = false ∧ xn_ = false) ∧ (a0_0 != 6) = false ∧ (a0_0 == 7) = false) ∨ ((xa_ = true ∧ xb_ = true ∧ xn_ = false) ∧ (a0_0 != 6) = true ∧ (a0_0 == 7) = !(a0_0 != 7)) := by
      have h := h2
      unfold impl_namesOf.f at h
      by_cases q1 : a0_0 = 1
      · rw [if_pos q1, impl_namesOf.j0, if_pos (by simp [q1])] at h
        simp only [Option.some.injEq, Prod.mk.injEq] at h
        exact .inl ⟨⟨h.1.symm, h.2.1.symm, h.2.2.symm⟩, by simp [q1], by simp [q1]⟩
      · rw [if_neg q1] at h
        by_cases q2 : a0_0 = 2
        · rw [impl_namesOf.j0, if_pos (by simp [q2])] at h
          simp only [Option.some.injEq, Prod.mk.injEq] at h
          exact .inl ⟨⟨h.1.symm, h.2.1.symm, h.2.2.symm⟩, by simp [q2], by simp [q2]⟩
        · rw [impl_namesOf.j0, if_neg (by simp [q2])] at h
          by_cases q6 : a0_0 = 6
          · rw [if_pos q6] at h
            simp only [Option.some.injEq, Prod.mk.injEq] at h
            exact .inr (.inl ⟨⟨h.1.symm, h.2.1.symm, h.2.2.symm⟩, by simp [q6], by simp [q6]⟩)
          · rw [if_neg q6] at h
            simp only [Option.some.injEq, Prod.mk.injEq] at h
            exact .inr (.inr ⟨⟨h.1.symm, h.2.1.symm, h.2.2.symm⟩, by simp [q6], by simp [bne]⟩)
    rcases hn with ⟨⟨ea, eb, en⟩, o6, o7⟩ | ⟨⟨ea, eb, en⟩, o6, e7⟩ | ⟨⟨ea, eb, en⟩, o6, e7⟩
    · exact impl_Term_fault_n a0_0 a0_1 a0_2 a0_3 A1 c1 l1 xa_ xb_ xn_ b1_ b2_ ps_ i_ j_ r w hc1 HR1 eg1 eg2 H1 H2 H3 H4 H5 H6 HV vb1 ea eb en o6 o7
    · exact impl_Term_fault_h a0_0 a0_1 a0_2 a0_3 A1 c1 l1 xa_ xb_ xn_ b1_ b2_ ps_ i_ j_ r w hc1 HR1 eg1 eg2 H1 H2 H3 H4 H5 H6 HV vb1 ea eb en o6 e7
    · exact impl_Term_fault_p a0_0 a0_1 a0_2 a0_3 A1 c1 l1 xa_ xb_ xn_ b1_ b2_ ps_ i_ j_ r w hc1 HR1 eg1 eg2 H1 H2 H3 H4 H5 H6 HV vb1 ea eb en o6 e7
  · exact impl_Term_fault_b a0_0 a0_1 a0_2 a0_3 A1 c1 l1 xa_ xb_ xn_ b1_ b2_ ps_ i_ j_ r w hc1 HR1 eg1 eg2 H1 H2 H3 H4 H5 H6 HV vb1

/-! ### (my own text) mapWords -/
-- a map of bools that the call itself made and in which only 'true' is stored: which keys are in it (S, over the keys' own type; enc: a key as a Go value)
def ownsSet {α : Type} (P : Program) (w : World) (k e : TypeId) (enc : α → Value) (b n : Nat) (S : α → Bool) : Prop :=
  ∃ D : DataW Unit, w.ownsMap P k (plainElem P e) b n D ∧ Go.Maps.IsMap D ∧ ∀ x kl, keyOf P k (enc x) = some kl → D.atKey kl (.lit (.bool false)) = .lit (.bool (S x))
theorem ownsSet_made {α : Type} (P : Program) (w : World) (k e : TypeId) (enc : α → Value) : ownsSet P (w.alloc (.map #[] 0)) k e enc w.heap.size 0 (fun _ => false) :=
  ⟨.map [], World.ownsMap_made w P k _, ⟨[], rfl⟩, fun _ _ _ => rfl⟩
theorem ownsSet.lt {α : Type} {P : Program} {w : World} {k e : TypeId} {enc : α → Value} {b n : Nat} {S : α → Bool} (h : ownsSet P w k e enc b n S) : b < w.heap.size := by
  obtain ⟨D, h1, _⟩ := h
  exact h1.lt
theorem ownsSet.grown {α : Type} {P : Program} {w w' : World} {k e : TypeId} {enc : α → Value} {b n : Nat} {S : α → Bool} {row : Option Nat} (h : ownsSet P w k e enc b n S) (hg : w.grownBy w' row) (hne : some b ≠ row) : ownsSet P w' k e enc b n S := by
  obtain ⟨D, h1, h2, h3⟩ := h
  exact ⟨D, h1.kept hg hne, h2, h3⟩
theorem ownsSet.below {α : Type} {P : Program} {w w' : World} {k e : TypeId} {enc : α → Value} {b n : Nat} {S : α → Bool} (h : ownsSet P w k e enc b n S) (hb : Below w.heap.size w w') : ownsSet P w' k e enc b n S :=
  h.grown (grown_of_below hb none) (by simp)
theorem ownsSet.alloc {α : Type} {P : Program} {w : World} {k e : TypeId} {enc : α → Value} {b n : Nat} {S : α → Bool} (h : ownsSet P w k e enc b n S) (o : Obj) : ownsSet P (w.alloc o) k e enc b n S :=
  h.grown (World.grownBy_alloc w o none) (by simp)
theorem plainElem_bool_inv {H : Type} {P : Program} {e : TypeId} (he : P.underlying e = some .bool) {v : Value} {z : DataW H × List MemPlace} (h : plainElem P e v = some z) : ∃ x, v = .bool x ∧ z = (.lit (.bool x), []) := by
  unfold plainElem at h
  rw [he] at h
  cases v <;> simp at h
  exact ⟨_, rfl, h.symm⟩
theorem ownsSet.look {α : Type} {P : Program} {w : World} {t k e : TypeId} {enc : α → Value} {b n : Nat} {S : α → Bool} (h : ownsSet P w k e enc b n S) (K : Go.Maps.Keyed P k) (ht : P.underlying t = some (.map k e)) (he : P.underlying e = some .bool)
    (hz : (zeroValue e).run P w = .ok (.bool false) w) {x : α} {kl : Lit} (hkey : keyOf P k (enc x) = some kl) : (Instr.lookup t (.map (some b)) (enc x) false).run P w = .ok (.bool (S x)) w := by
  obtain ⟨D, h1, _, h3⟩ := h
  obtain ⟨v, ps, hrun, hv⟩ := h1.lookup K ht hz (plainElem_bool he false) hkey
  obtain ⟨y, rfl, hy⟩ := plainElem_bool_inv he hv
  have := h3 x kl hkey
  rw [this] at hy
  simp only [Prod.mk.injEq, DataW.lit.injEq, Lit.bool.injEq] at hy
  rw [hrun, hy.1]
theorem wpList_lookup_set {α : Type} {P : Program} {w : World} {ops : Array Oper} {rest : List Oper} {o : Oper} {a : Act} {Q : Exit → Act → World → Prop}
    (hg : o.guard = none) (m x : Operand) (t : TypeId) (hop : o.op = Op.lookup t m x false)
    (k e : TypeId) (K : Go.Maps.Keyed P k) (ht : P.underlying t = some (.map k e)) (he : P.underlying e = some .bool) (hz : (zeroValue e).run P w = .ok (.bool false) w) {enc : α → Value} {b n : Nat} {S : α → Bool}
    (hown : ownsSet P w k e enc b n S) (hm : a.eval m = .map (some b)) (key : α) {kl : Lit} (hx : a.eval x = enc key) (hkey : keyOf P k (enc key) = some kl) {s : Bool} (hS : S key = s)
    (hK : wpList P ops Q rest (a.put o.dst (.bool s)) w) :
    wpList P ops Q (o :: rest) a w := by
  refine wpList_plain hg fun K' hK' => ?_
  have hrun := hown.look K ht he hz hkey
  rw [hS] at hrun
  unfold Oper.wp
  simp [execOp, hop, hm, hx, hrun, Result.andThen]
  exact hK' _ _ hK
theorem ownsSet.put {α : Type} [DecidableEq α] {P : Program} {w' : World} {k e : TypeId} {enc : α → Value} (hinj : ∀ x y, enc x = enc y → x = y) {b n : Nat} {S : α → Bool} {D : DataW Unit} (K : Go.Maps.Keyed P k) (h2 : Go.Maps.IsMap D)
    (h3 : ∀ x kl, keyOf P k (enc x) = some kl → D.atKey kl (.lit (.bool false)) = .lit (.bool (S x))) {key : α} {kl : Lit} (hkey : keyOf P k (enc key) = some kl) (hw : w'.ownsMap P k (plainElem P e) b (n + 1) (D.put kl (.lit (.bool true)))) :
    ownsSet P w' k e enc b (n + 1) (fun x => S x || decide (x = key)) := by
  refine ⟨_, hw, ?_, fun x kx hx => ?_⟩
  · obtain ⟨es, rfl⟩ := h2
    exact ⟨_, rfl⟩
  · by_cases hk : kx = kl
    · subst hk
      have := hinj _ _ (K.inj hx hkey)
      subst this
      rw [Go.Maps.atKey_put_same h2 (K.key hkey)]
      simp
    · have hne : x ≠ key := fun e1 => hk (by rw [e1, hkey] at hx; exact (Option.some.inj hx).symm)
      rw [Go.Maps.atKey_put_other hk, h3 x kx hx]
      simp [hne]
theorem wpList_update_set {α : Type} [DecidableEq α] {P : Program} {w : World} {ops : Array Oper} {rest : List Oper} {o : Oper} {a : Act} {Q : Exit → Act → World → Prop}
    (hg : o.guard = none) (m x v : Operand) (t : TypeId) (hop : o.op = Op.mapUpdate t m x v)
    (k e : TypeId) (K : Go.Maps.Keyed P k) (ht : P.underlying t = some (.map k e)) (he : P.underlying e = some .bool) {enc : α → Value} (hinj : ∀ x y, enc x = enc y → x = y) {b n : Nat} {S : α → Bool}
    (hown : ownsSet P w k e enc b n S) (hn : n < maxLen) (hm : a.eval m = .map (some b)) (key : α) {kl : Lit} (hx : a.eval x = enc key) (hv : a.eval v = .bool true) (hkey : keyOf P k (enc key) = some kl)
    (hK : ∀ w', ownsSet P w' k e enc b (n + 1) (fun x => S x || decide (x = key)) → w.grownBy w' (some b) → wpList P ops Q rest (a.put o.dst undef) w') :
    wpList P ops Q (o :: rest) a w := by
  obtain ⟨D, h1, h2, h3⟩ := hown
  exact wpList_mapUpdate_own w hg m x v t hop k e K ht _ b n D hm h1 hn (enc key) (.bool true) kl hx hv hkey (.lit (.bool true)) [] (plainElem_bool he true) (fun w' r1 r2 => hK w' (ownsSet.put hinj K h2 h3 hkey r1) r2)

/-! ### (my own text) termKey -/
def encT (x : S34) : Value := .agg #[.int .i64 x.f0, .int .i64 x.f1, .int .i64 x.f2, .int .i64 x.f3]
def eqT (x y : S34) : Bool := decide (x.f0 = y.f0 ∧ x.f1 = y.f1 ∧ x.f2 = y.f2 ∧ x.f3 = y.f3)
def okI (x : Int) : Bool := decide (-9223372036854775808 ≤ x ∧ x ≤ 9223372036854775807)
def okT (x : S34) : Bool := okI x.f0 && (okI x.f1 && (okI x.f2 && okI x.f3))
theorem okI_wf {x : Int} (h : okI x = true) : (Lit.int .i64 x).wf = true := by
  have h := of_decide_eq_true h
  simp [Lit.wf, IntKind.min, IntKind.max, IntKind.signed, IntKind.bits]
  omega
theorem encT_inj (x y : S34) (h : encT x = encT y) : x = y := by
  cases x
  cases y
  simpa [encT] using h
instance decT : DecidableEq S34 := fun x y => decidable_of_iff (x.f0 = y.f0 ∧ x.f1 = y.f1 ∧ x.f2 = y.f2 ∧ x.f3 = y.f3) (by cases x; cases y; simp)
theorem eqT_dec (x y : S34) : eqT x y = decide (x = y) := by
  cases x
  cases y
  simp [eqT]
theorem laidOut_ : laidOutB Try.prog = true := by kernel_rfl
theorem rowT : 34 < Try.prog.types.size := by decide +kernel
theorem wideT : (match Try.prog.underlying 34 with | some (.array _ _) | some (.struct _) => true | _ => false) = true := by kernel_rfl
theorem keyTT : Try.prog.keyTypeAt 2 34 = true := by kernel_rfl
set_option maxRecDepth 100000 in
theorem keyTT' : Try.prog.keyType 34 = true := by kernel_rfl
set_option maxRecDepth 100000 in
theorem keyedT : Go.Maps.Keyed Try.prog 34 := Go.Maps.Keyed.of_law (deep_law_laid laidOut_ (m := 2) (by omega) rowT keyTT wideT)
theorem keyOfT (x : S34) (h : okT x = true) : ∃ kl, keyOf Try.prog 34 (encT x) = some kl := by
  unfold okT at h
  simp only [Bool.and_eq_true] at h
  obtain ⟨h0, h1, h2, h3⟩ := h
  have w0 := okI_wf h0
  have w1 := okI_wf h1
  have w2 := okI_wf h2
  have w3 := okI_wf h3
  have hk := keyTT'
  have hu := Try.underlying34
  have hu2 := Try.underlying2
  have hc : Try.prog.cellsOf 34 = 4 := by kernel_rfl
  have hc2 : Try.prog.cellsOf 2 = 1 := by kernel_rfl
  obtain ⟨m, hm⟩ : ∃ m, Try.prog.types.size + 1 = m + 2 := ⟨Try.prog.types.size - 1, by have := rowT; omega⟩
  have one : ∀ a : Int, (Lit.int .i64 a).wf = true → Try.prog.keyLits (m + 1) 2 [.int .i64 a] = some [.int .i64 a] := by
    intro a ha
    unfold Program.keyLits
    rw [hu2]
    simp [ha]
  have hl : Try.prog.keyLits (m + 2) 34 [.int .i64 x.f0, .int .i64 x.f1, .int .i64 x.f2, .int .i64 x.f3] = some [.int .i64 x.f0, .int .i64 x.f1, .int .i64 x.f2, .int .i64 x.f3] := by
    unfold Program.keyLits
    rw [hu]
    dsimp only
    rw [if_pos ⟨by rw [hc]; rfl, by simp⟩]
    simp [hc2, List.mapM_cons, one _ w0, one _ w1, one _ w2, one _ w3]
  unfold keyOf
  simp only [hu]
  rw [if_pos (by simp [hk, Value.formed, hu, hc, encT]), hm]
  have he : (encT x).cells.toList = [.int .i64 x.f0, .int .i64 x.f1, .int .i64 x.f2, .int .i64 x.f3] := rfl
  rw [he, hl]
  exact ⟨_, rfl⟩

/-! ### impl_TermsFault: function 22 (my own text) -/
def impl_TermsFault.l : List S34 → List S34 → Option Int
  | _, [] => some 0
  | seen, t :: ts => (impl_Term_fault.f t.f0 t.f1 t.f2 t.f3 seen).bind fun c => if c = 0 then (if okT t = true then (if seen.any (eqT t) = true then some 7 else impl_TermsFault.l (seen ++ [t]) ts) else none) else some c
def impl_TermsFault.f (l0 : List S34) : Option Int := if 400 < l0.length then some 2 else impl_TermsFault.l [] l0
theorem impl_TermsFault_many (A0 : Option Addr) (c0 : Nat) (l0 : List S34) (w : World) (hm : l0.length ≤ 9223372036854775807) (h : 400 < l0.length) :
    Calls Try.prog 22 #[.slice A0 l0.length c0] w fun e w' => e = .returned (.int .i64 2) ∧ Below w.heap.size w w' := by
  have hq : decide ((l0.length : Int) > 400) = true := decide_eq_true (by omega)
  clear h
  go_enter Try.func22, Try.ntmps22
  go_wp2
  go_ret
  exact ⟨rfl, Below.refl _ _⟩
theorem zeroB_ (w : World) : (zeroValue 4).run Try.prog w = .ok (.bool false) w := by kernel_rfl
set_option maxHeartbeats 8000000 in
set_option maxRecDepth 100000 in
theorem impl_TermsFault.calls (A0 : Option Addr) (c0 : Nat) (l0 : List S34) (r : Int) (w : World) (hr0 : Kd.C k34 w A0 l0.length l0) (hc0 : l0.length ≤ c0) (h : impl_TermsFault.f l0 = some r) :
    Calls Try.prog 22 #[.slice A0 l0.length c0] w fun e w' => e = .returned (.int .i64 r) ∧ Below w.heap.size w w' := by
  have hm : l0.length ≤ 9223372036854775807 := hr0.2.1
  unfold impl_TermsFault.f at h
  by_cases h400 : 400 < l0.length
  · rw [if_pos h400] at h
    obtain rfl := Option.some.inj h
    exact impl_TermsFault_many A0 c0 l0 w hm h400
  · rw [if_neg h400] at h
    have hq : decide ((l0.length : Int) > 400) = false := decide_eq_false (by omega)
    have HR0 := Aside0.mk hr0
    have H0 := Aside0.mk h
    clear hr0 h
    have hmm := @run_makeMap Try.prog
    go_enter Try.func22, Try.ntmps22
    go_wp2
    clear hmm
    go_loopg [13] l0.length (fun gg s13 wr => ∃ kk : Nat, kk ≤ l0.length ∧ l0.length - kk ≤ gg ∧ s13 = .int .i64 kk ∧ Aside0 (Below w.heap.size w wr) ∧ Aside0 (ownsSet Try.prog wr 34 4 encT w.heap.size kk (fun x => (l0.take kk).any (eqT x))) ∧ Aside0 (impl_TermsFault.l (l0.take kk) (l0.drop kk) = some r))
    case atStart => exact ⟨0, Nat.zero_le _, by omega, rfl, ⟨(Below.refl _ _).alloc (Nat.le_refl _) _⟩, ⟨by simpa using ownsSet_made Try.prog w 34 4 encT⟩, ⟨by rw [List.take_zero, List.drop_zero]; exact H0.out⟩⟩
    case round =>
      obtain ⟨kk, hkk, hg, rfl, BW, HS, A⟩ := hrel
      clear H0
      by_cases hlt : kk < l0.length
      · have hltz : (kk : Int) < (l0.length : Int) := by omega
        obtain ⟨ad, e, hx0, hx1, hx2, hx3⟩ := at_T34 HR0.out (kk : Int) (by omega) hltz
        have A2 := A.out
        rw [List.drop_eq_getElem_cons hlt, impl_TermsFault.l, ← getD_at l0 z34 kk hlt] at A2
        have hT : l0.take kk ++ [l0.getD (kk : Int).toNat z34] = l0.take (kk + 1) := by rw [List.take_succ_eq_append_getElem hlt, getD_at l0 z34 kk hlt]
        change (impl_Term_fault.f (rd_T34 l0 (kk : Int)).f0 (rd_T34 l0 (kk : Int)).f1 (rd_T34 l0 (kk : Int)).f2 (rd_T34 l0 (kk : Int)).f3 (l0.take kk)).bind _ = some r at A2
        obtain ⟨c, hc, A3⟩ := Option.bind_eq_some_iff.mp A2
        have hlen : (l0.take kk).length = kk := by rw [List.length_take]; omega
        cases e
        have hcon := fun (W : World) (hb : Below wr.heap.size wr W) => impl_Term_fault.calls (rd_T34 l0 (kk : Int)).f0 (rd_T34 l0 (kk : Int)).f1 (rd_T34 l0 (kk : Int)).f2 (rd_T34 l0 (kk : Int)).f3 (some ad) c0 (l0.take kk) c W (Kd.C_take (Kd.C_below HR0.out (below_step BW.out hb)) (by omega)) (by omega) hc
        simp only [hlen] at hcon
        have HF := Aside0.mk hcon
        clear A A2 hcon hc
        replace hx0 := (BW.out.cell (World.block_lt_of_cell? w _ hx0)).trans hx0
        replace hx1 := (BW.out.cell (World.block_lt_of_cell? w _ hx1)).trans hx1
        replace hx2 := (BW.out.cell (World.block_lt_of_cell? w _ hx2)).trans hx2
        replace hx3 := (BW.out.cell (World.block_lt_of_cell? w _ hx3)).trans hx3
        simp only [Int.toNat_natCast] at hx0 hx1 hx2 hx3
        clear HR0
        have hS : ∀ s : Bool, (l0.take kk).any (eqT (rd_T34 l0 (kk : Int))) = s → (fun x => (l0.take kk).any (eqT x)) (rd_T34 l0 (kk : Int)) = s := fun s h => h
        by_cases hc : c = 0
        · subst hc
          rw [if_pos rfl] at A3
          by_cases hok : okT (l0.getD (kk : Int).toNat z34) = true
          · rw [if_pos hok] at A3
            obtain ⟨kl, hkey⟩ := keyOfT (rd_T34 l0 (kk : Int)) hok
            by_cases hs0 : (l0.take kk).any (eqT (l0.getD (kk : Int).toNat z34)) = true
            · rw [if_pos hs0] at A3
              obtain rfl := Option.some.inj A3
              have hs := hS true hs0
              clear A3 hs0 hS hok
              have hu1 := Try.underlying34
              have hu2 := Try.underlying25
              have p1 : (0 ≤ (kk : Int)) = True := eq_true (by omega)
              have p2 : ((kk : Int) ≤ (c0 : Int)) = True := eq_true (by omega)
              have BX := Aside0.mk (Boxes.start wr)
              go_wp2_with (first | ((with_reducible refine gate_dst (N := 5) rfl ?_); refine box_event ?hg (N := 5) ?hd (cs := #[.int .i64 0, .int .i64 0, .int .i64 0, .int .i64 0]) (t := 34) ?hr ?_; (case hd => rfl); (case hg => rfl); (case hr => first | (go_simp; done) | (go_simp; rfl)); intro g5 hg w5_ hbox hb; have BY := Aside0.mk (Boxes.new (w0 := wr) (bs := []) (by (with_reducible repeat (first | refine Boxes.drewN ?_ _ | refine Boxes.drew ?_ | refine Boxes.alloc ?_ _)); exact BX.out) hg hbox hb); clear BX hb hbox hg; have BX := BY; clear BY; have q5_0 : World.cell? _ ⟨g5, 0, none⟩ = some (.int .i64 0) := BX.out.cell (i := 0) rfl (j := 0) rfl; have f5_0 : World.frozen? _ ⟨g5, 0, none⟩ = false := BX.out.frozen (i := 0) rfl 0; have q5_1 : World.cell? _ ⟨g5, 1, none⟩ = some (.int .i64 0) := BX.out.cell (i := 0) rfl (j := 1) rfl; have f5_1 : World.frozen? _ ⟨g5, 1, none⟩ = false := BX.out.frozen (i := 0) rfl 1; have q5_2 : World.cell? _ ⟨g5, 2, none⟩ = some (.int .i64 0) := BX.out.cell (i := 0) rfl (j := 2) rfl; have f5_2 : World.frozen? _ ⟨g5, 2, none⟩ = false := BX.out.frozen (i := 0) rfl 2; have q5_3 : World.cell? _ ⟨g5, 3, none⟩ = some (.int .i64 0) := BX.out.cell (i := 0) rfl (j := 3) rfl; have f5_3 : World.frozen? _ ⟨g5, 3, none⟩ = false := BX.out.frozen (i := 0) rfl 3) | ((with_reducible refine gate_store (t := 34) (p := 5) rfl ?_); refine boxes_store (w0 := wr) (bs := [(g5, #[.int .i64 (rd_T34 l0 (kk : Int)).f0, .int .i64 (rd_T34 l0 (kk : Int)).f1, .int .i64 (rd_T34 l0 (kk : Int)).f2, .int .i64 (rd_T34 l0 (kk : Int)).f3], 34)]) (W1 := (((World.setCell w5_ ⟨g5, 0, none⟩ (.int .i64 (rd_T34 l0 (kk : Int)).f0)).setCell ⟨g5, 1, none⟩ (.int .i64 (rd_T34 l0 (kk : Int)).f1)).setCell ⟨g5, 2, none⟩ (.int .i64 (rd_T34 l0 (kk : Int)).f2)).setCell ⟨g5, 3, none⟩ (.int .i64 (rd_T34 l0 (kk : Int)).f3)) rfl rfl rfl ?hr ((((Boxes.put (w0 := wr) (b1 := []) (b2 := []) (g := g5) (cs := #[.int .i64 0, .int .i64 0, .int .i64 0, .int .i64 0]) (t := 34) BX.out 0 (.int .i64 (rd_T34 l0 (kk : Int)).f0)).put (b1 := []) 1 (.int .i64 (rd_T34 l0 (kk : Int)).f1)).put (b1 := []) 2 (.int .i64 (rd_T34 l0 (kk : Int)).f2)).put (b1 := []) 3 (.int .i64 (rd_T34 l0 (kk : Int)).f3)) ?_; (case hr => first | (go_simp; done) | (go_simp; rfl)); intro w6_ BY; have BY := Aside0.mk BY; clear BX; have BX := BY; clear BY; clear q5_0 f5_0 q5_1 f5_1 q5_2 f5_2 q5_3 f5_3; have q5_0 : World.cell? _ ⟨g5, 0, none⟩ = some (.int .i64 (rd_T34 l0 (kk : Int)).f0) := BX.out.cell (i := 0) rfl (j := 0) rfl; have f5_0 : World.frozen? _ ⟨g5, 0, none⟩ = false := BX.out.frozen (i := 0) rfl 0; have q5_1 : World.cell? _ ⟨g5, 1, none⟩ = some (.int .i64 (rd_T34 l0 (kk : Int)).f1) := BX.out.cell (i := 0) rfl (j := 1) rfl; have f5_1 : World.frozen? _ ⟨g5, 1, none⟩ = false := BX.out.frozen (i := 0) rfl 1; have q5_2 : World.cell? _ ⟨g5, 2, none⟩ = some (.int .i64 (rd_T34 l0 (kk : Int)).f2) := BX.out.cell (i := 0) rfl (j := 2) rfl; have f5_2 : World.frozen? _ ⟨g5, 2, none⟩ = false := BX.out.frozen (i := 0) rfl 2; have q5_3 : World.cell? _ ⟨g5, 3, none⟩ = some (.int .i64 (rd_T34 l0 (kk : Int)).f3) := BX.out.cell (i := 0) rfl (j := 3) rfl; have f5_3 : World.frozen? _ ⟨g5, 3, none⟩ = false := BX.out.frozen (i := 0) rfl 3) | fail)
              refine start_ (n := 6) (S := fun w' => w'.cell? ⟨g5, 0, none⟩ = some (.int .i64 (rd_T34 l0 (kk : Int)).f0) ∧ w'.cell? ⟨g5, 1, none⟩ = some (.int .i64 (rd_T34 l0 (kk : Int)).f1) ∧ w'.cell? ⟨g5, 2, none⟩ = some (.int .i64 (rd_T34 l0 (kk : Int)).f2) ∧ w'.cell? ⟨g5, 3, none⟩ = some (.int .i64 (rd_T34 l0 (kk : Int)).f3)) (ds := [4]) #[false, false, false, false, false, false] (by kernel_rfl) rfl rfl ⟨q5_0, q5_1, q5_2, q5_3⟩ (fun hHeld => ?_)
              refine pure_ (i := 1) (N := some 19) (v := ?_) (a' := ?_) #[false, true, false, false, false, false] rfl rfl (by kernel_rfl) (fun _ _ _ h => h) (Or.inl ⟨by rfl, ?_⟩) ?_ ?_
              rotate_left
              · intro w'
                go_simp
                with_reducible rfl
              rotate_left
              · simp only [Act.put, List.setIfInBounds_toArray, List.set_cons_zero, List.set_cons_succ, i64_w, i32_w]
                rfl
              refine pure_ (i := 2) (N := some 20) (v := ?_) (a' := ?_) #[false, true, true, false, false, false] rfl rfl (by kernel_rfl) (fun _ _ _ h => h) (Or.inl ⟨by rfl, ?_⟩) ?_ ?_
              rotate_left
              · intro w'
                go_simp
                with_reducible rfl
              rotate_left
              · simp only [Act.put, List.setIfInBounds_toArray, List.set_cons_zero, List.set_cons_succ, i64_w, i32_w]
                rfl
              refine pure_ (i := 3) (N := some 21) (v := ?_) (a' := ?_) #[false, true, true, true, false, false] rfl rfl (by kernel_rfl) (fun _ _ _ h => h) (Or.inl ⟨by rfl, ?_⟩) ?_ ?_
              rotate_left
              · intro w'
                go_simp
                with_reducible rfl
              rotate_left
              · simp only [Act.put, List.setIfInBounds_toArray, List.set_cons_zero, List.set_cons_succ, i64_w, i32_w]
                rfl
              refine take_ (i := 0) (N := some 18) (v := ?_) (a' := ?_) #[true, true, true, true, false, false] rfl rfl (by kernel_rfl) (fun _ _ _ h => h) (Or.inl ⟨by rfl, ?_⟩) hHeld ?_ ?_
              rotate_left
              · rintro w' ⟨s0, s1, s2, s3⟩
                go_simp
                with_reducible rfl
              rotate_left
              · simp only [Act.put, List.setIfInBounds_toArray, List.set_cons_zero, List.set_cons_succ, i64_w, i32_w]
                rfl
              refine last_ (i := 4) (N := some 22) #[true, true, true, true, true, false] rfl rfl (by kernel_rfl) (by decide) (fun K hK => ?_)
              refine goes_ Try.func32 (by kernel_rfl) rfl #[.agg #[.int .i64 (rd_T34 l0 (kk : Int)).f0, .int .i64 (rd_T34 l0 (kk : Int)).f1, .int .i64 (rd_T34 l0 (kk : Int)).f2, .int .i64 (rd_T34 l0 (kk : Int)).f3], .slice (some ad) kk c0] (by rfl) rfl rfl (by simp only [List.map_toArray, List.map_cons, List.map_nil]; rfl) ?_
              with_reducible refine (HF.out _ (Boxes.low (w0 := wr) (bs := [(g5, #[.int .i64 (rd_T34 l0 (kk : Int)).f0, .int .i64 (rd_T34 l0 (kk : Int)).f1, .int .i64 (rd_T34 l0 (kk : Int)).f2, .int .i64 (rd_T34 l0 (kk : Int)).f3], 34)]) (Boxes.drew BX.out))).mono ?_
              rintro e w7_ ⟨rfl, hb⟩
              refine ⟨_, rfl, ?_⟩
              have BY := Aside0.mk (Boxes.below (w0 := wr) (bs := [(g5, #[.int .i64 (rd_T34 l0 (kk : Int)).f0, .int .i64 (rd_T34 l0 (kk : Int)).f1, .int .i64 (rd_T34 l0 (kk : Int)).f2, .int .i64 (rd_T34 l0 (kk : Int)).f3], 34)]) (Boxes.drew BX.out) hb)
              clear BX hb
              have BX := BY
              clear BY
              clear q5_0 f5_0 q5_1 f5_1 q5_2 f5_2 q5_3 f5_3
              have q5_0 : World.cell? _ ⟨g5, 0, none⟩ = some (.int .i64 (rd_T34 l0 (kk : Int)).f0) := BX.out.cell (i := 0) rfl (j := 0) rfl
              have f5_0 : World.frozen? _ ⟨g5, 0, none⟩ = false := BX.out.frozen (i := 0) rfl 0
              have q5_1 : World.cell? _ ⟨g5, 1, none⟩ = some (.int .i64 (rd_T34 l0 (kk : Int)).f1) := BX.out.cell (i := 0) rfl (j := 1) rfl
              have f5_1 : World.frozen? _ ⟨g5, 1, none⟩ = false := BX.out.frozen (i := 0) rfl 1
              have q5_2 : World.cell? _ ⟨g5, 2, none⟩ = some (.int .i64 (rd_T34 l0 (kk : Int)).f2) := BX.out.cell (i := 0) rfl (j := 2) rfl
              have f5_2 : World.frozen? _ ⟨g5, 2, none⟩ = false := BX.out.frozen (i := 0) rfl 2
              have q5_3 : World.cell? _ ⟨g5, 3, none⟩ = some (.int .i64 (rd_T34 l0 (kk : Int)).f3) := BX.out.cell (i := 0) rfl (j := 3) rfl
              have f5_3 : World.frozen? _ ⟨g5, 3, none⟩ = false := BX.out.frozen (i := 0) rfl 3
              refine hK.out _ _ ?_
              clear hK K
              refine norm_ (a' := ?_) ?_ ?_
              rotate_left
              · show Act.put _ (some 22) _ = _
                simp only [Act.put, List.setIfInBounds_toArray, List.set_cons_zero, List.set_cons_succ, i64_w, i32_w]
                rfl
              refine pure_ (i := 5) (N := some 6) (v := ?_) (a' := ?_) #[true, true, true, true, true, true] rfl rfl (by kernel_rfl) (fun _ _ _ h => h) (Or.inl ⟨by rfl, ?_⟩) ?_ ?_
              rotate_left
              · intro w'
                go_simp
                with_reducible rfl
              rotate_left
              · simp only [Act.put, List.setIfInBounds_toArray, List.set_cons_zero, List.set_cons_succ, i64_w, i32_w]
                rfl
              refine done_ (by kernel_rfl) ?_
              go_wp2_with (first | (at_lookup; refine wpList_lookup_set rfl _ _ 61 rfl 34 4 keyedT Try.underlying61 Try.underlying4 (zeroB_ _) (HS.out.below (Boxes.low (w0 := wr) (bs := [(g5, #[.int .i64 (rd_T34 l0 (kk : Int)).f0, .int .i64 (rd_T34 l0 (kk : Int)).f1, .int .i64 (rd_T34 l0 (kk : Int)).f2, .int .i64 (rd_T34 l0 (kk : Int)).f3], 34)]) (by (with_reducible repeat (first | refine Boxes.drewN ?_ _ | refine Boxes.drew ?_ | refine Boxes.alloc ?_ _)); exact BX.out))) rfl (rd_T34 l0 (kk : Int)) rfl hkey (s := true) hs ?_) | fail)
              go_ret
              exact ⟨rfl, below_step BW.out (Boxes.low (w0 := wr) (bs := [(g5, #[.int .i64 (rd_T34 l0 (kk : Int)).f0, .int .i64 (rd_T34 l0 (kk : Int)).f1, .int .i64 (rd_T34 l0 (kk : Int)).f2, .int .i64 (rd_T34 l0 (kk : Int)).f3], 34)]) (by (with_reducible repeat (first | refine Boxes.drewN ?_ _ | refine Boxes.drew ?_ | refine Boxes.alloc ?_ _)); exact BX.out))⟩
            · rw [if_neg hs0] at A3
              have hs := hS false (Bool.eq_false_iff.mpr hs0)
              have A4 : Aside0 (impl_TermsFault.l (l0.take (kk + 1)) (l0.drop (kk + 1)) = some r) := ⟨by rw [← hT]; exact A3⟩
              have hSn : (fun x => (l0.take kk).any (eqT x) || decide (x = (rd_T34 l0 (kk : Int)))) = (fun x => (l0.take (kk + 1)).any (eqT x)) := by
                funext x
                rw [← hT, List.any_append, List.any_cons, List.any_nil, Bool.or_false, eqT_dec]
                rfl
              clear A3 hs0 hS hok
              have hu1 := Try.underlying34
              have hu2 := Try.underlying25
              have p1 : (0 ≤ (kk : Int)) = True := eq_true (by omega)
              have p2 : ((kk : Int) ≤ (c0 : Int)) = True := eq_true (by omega)
              have BX := Aside0.mk (Boxes.start wr)
              go_wp2_with (first | ((with_reducible refine gate_dst (N := 5) rfl ?_); refine box_event ?hg (N := 5) ?hd (cs := #[.int .i64 0, .int .i64 0, .int .i64 0, .int .i64 0]) (t := 34) ?hr ?_; (case hd => rfl); (case hg => rfl); (case hr => first | (go_simp; done) | (go_simp; rfl)); intro g5 hg w5_ hbox hb; have BY := Aside0.mk (Boxes.new (w0 := wr) (bs := []) (by (with_reducible repeat (first | refine Boxes.drewN ?_ _ | refine Boxes.drew ?_ | refine Boxes.alloc ?_ _)); exact BX.out) hg hbox hb); clear BX hb hbox hg; have BX := BY; clear BY; have q5_0 : World.cell? _ ⟨g5, 0, none⟩ = some (.int .i64 0) := BX.out.cell (i := 0) rfl (j := 0) rfl; have f5_0 : World.frozen? _ ⟨g5, 0, none⟩ = false := BX.out.frozen (i := 0) rfl 0; have q5_1 : World.cell? _ ⟨g5, 1, none⟩ = some (.int .i64 0) := BX.out.cell (i := 0) rfl (j := 1) rfl; have f5_1 : World.frozen? _ ⟨g5, 1, none⟩ = false := BX.out.frozen (i := 0) rfl 1; have q5_2 : World.cell? _ ⟨g5, 2, none⟩ = some (.int .i64 0) := BX.out.cell (i := 0) rfl (j := 2) rfl; have f5_2 : World.frozen? _ ⟨g5, 2, none⟩ = false := BX.out.frozen (i := 0) rfl 2; have q5_3 : World.cell? _ ⟨g5, 3, none⟩ = some (.int .i64 0) := BX.out.cell (i := 0) rfl (j := 3) rfl; have f5_3 : World.frozen? _ ⟨g5, 3, none⟩ = false := BX.out.frozen (i := 0) rfl 3) | ((with_reducible refine gate_store (t := 34) (p := 5) rfl ?_); refine boxes_store (w0 := wr) (bs := [(g5, #[.int .i64 (rd_T34 l0 (kk : Int)).f0, .int .i64 (rd_T34 l0 (kk : Int)).f1, .int .i64 (rd_T34 l0 (kk : Int)).f2, .int .i64 (rd_T34 l0 (kk : Int)).f3], 34)]) (W1 := (((World.setCell w5_ ⟨g5, 0, none⟩ (.int .i64 (rd_T34 l0 (kk : Int)).f0)).setCell ⟨g5, 1, none⟩ (.int .i64 (rd_T34 l0 (kk : Int)).f1)).setCell ⟨g5, 2, none⟩ (.int .i64 (rd_T34 l0 (kk : Int)).f2)).setCell ⟨g5, 3, none⟩ (.int .i64 (rd_T34 l0 (kk : Int)).f3)) rfl rfl rfl ?hr ((((Boxes.put (w0 := wr) (b1 := []) (b2 := []) (g := g5) (cs := #[.int .i64 0, .int .i64 0, .int .i64 0, .int .i64 0]) (t := 34) BX.out 0 (.int .i64 (rd_T34 l0 (kk : Int)).f0)).put (b1 := []) 1 (.int .i64 (rd_T34 l0 (kk : Int)).f1)).put (b1 := []) 2 (.int .i64 (rd_T34 l0 (kk : Int)).f2)).put (b1 := []) 3 (.int .i64 (rd_T34 l0 (kk : Int)).f3)) ?_; (case hr => first | (go_simp; done) | (go_simp; rfl)); intro w6_ BY; have BY := Aside0.mk BY; clear BX; have BX := BY; clear BY; clear q5_0 f5_0 q5_1 f5_1 q5_2 f5_2 q5_3 f5_3; have q5_0 : World.cell? _ ⟨g5, 0, none⟩ = some (.int .i64 (rd_T34 l0 (kk : Int)).f0) := BX.out.cell (i := 0) rfl (j := 0) rfl; have f5_0 : World.frozen? _ ⟨g5, 0, none⟩ = false := BX.out.frozen (i := 0) rfl 0; have q5_1 : World.cell? _ ⟨g5, 1, none⟩ = some (.int .i64 (rd_T34 l0 (kk : Int)).f1) := BX.out.cell (i := 0) rfl (j := 1) rfl; have f5_1 : World.frozen? _ ⟨g5, 1, none⟩ = false := BX.out.frozen (i := 0) rfl 1; have q5_2 : World.cell? _ ⟨g5, 2, none⟩ = some (.int .i64 (rd_T34 l0 (kk : Int)).f2) := BX.out.cell (i := 0) rfl (j := 2) rfl; have f5_2 : World.frozen? _ ⟨g5, 2, none⟩ = false := BX.out.frozen (i := 0) rfl 2; have q5_3 : World.cell? _ ⟨g5, 3, none⟩ = some (.int .i64 (rd_T34 l0 (kk : Int)).f3) := BX.out.cell (i := 0) rfl (j := 3) rfl; have f5_3 : World.frozen? _ ⟨g5, 3, none⟩ = false := BX.out.frozen (i := 0) rfl 3) | fail)
              refine start_ (n := 6) (S := fun w' => w'.cell? ⟨g5, 0, none⟩ = some (.int .i64 (rd_T34 l0 (kk : Int)).f0) ∧ w'.cell? ⟨g5, 1, none⟩ = some (.int .i64 (rd_T34 l0 (kk : Int)).f1) ∧ w'.cell? ⟨g5, 2, none⟩ = some (.int .i64 (rd_T34 l0 (kk : Int)).f2) ∧ w'.cell? ⟨g5, 3, none⟩ = some (.int .i64 (rd_T34 l0 (kk : Int)).f3)) (ds := [4]) #[false, false, false, false, false, false] (by kernel_rfl) rfl rfl ⟨q5_0, q5_1, q5_2, q5_3⟩ (fun hHeld => ?_)
              refine pure_ (i := 1) (N := some 19) (v := ?_) (a' := ?_) #[false, true, false, false, false, false] rfl rfl (by kernel_rfl) (fun _ _ _ h => h) (Or.inl ⟨by rfl, ?_⟩) ?_ ?_
              rotate_left
              · intro w'
                go_simp
                with_reducible rfl
              rotate_left
              · simp only [Act.put, List.setIfInBounds_toArray, List.set_cons_zero, List.set_cons_succ, i64_w, i32_w]
                rfl
              refine pure_ (i := 2) (N := some 20) (v := ?_) (a' := ?_) #[false, true, true, false, false, false] rfl rfl (by kernel_rfl) (fun _ _ _ h => h) (Or.inl ⟨by rfl, ?_⟩) ?_ ?_
              rotate_left
              · intro w'
                go_simp
                with_reducible rfl
              rotate_left
              · simp only [Act.put, List.setIfInBounds_toArray, List.set_cons_zero, List.set_cons_succ, i64_w, i32_w]
                rfl
              refine pure_ (i := 3) (N := some 21) (v := ?_) (a' := ?_) #[false, true, true, true, false, false] rfl rfl (by kernel_rfl) (fun _ _ _ h => h) (Or.inl ⟨by rfl, ?_⟩) ?_ ?_
              rotate_left
              · intro w'
                go_simp
                with_reducible rfl
              rotate_left
              · simp only [Act.put, List.setIfInBounds_toArray, List.set_cons_zero, List.set_cons_succ, i64_w, i32_w]
                rfl
              refine take_ (i := 0) (N := some 18) (v := ?_) (a' := ?_) #[true, true, true, true, false, false] rfl rfl (by kernel_rfl) (fun _ _ _ h => h) (Or.inl ⟨by rfl, ?_⟩) hHeld ?_ ?_
              rotate_left
              · rintro w' ⟨s0, s1, s2, s3⟩
                go_simp
                with_reducible rfl
              rotate_left
              · simp only [Act.put, List.setIfInBounds_toArray, List.set_cons_zero, List.set_cons_succ, i64_w, i32_w]
                rfl
              refine last_ (i := 4) (N := some 22) #[true, true, true, true, true, false] rfl rfl (by kernel_rfl) (by decide) (fun K hK => ?_)
              refine goes_ Try.func32 (by kernel_rfl) rfl #[.agg #[.int .i64 (rd_T34 l0 (kk : Int)).f0, .int .i64 (rd_T34 l0 (kk : Int)).f1, .int .i64 (rd_T34 l0 (kk : Int)).f2, .int .i64 (rd_T34 l0 (kk : Int)).f3], .slice (some ad) kk c0] (by rfl) rfl rfl (by simp only [List.map_toArray, List.map_cons, List.map_nil]; rfl) ?_
              with_reducible refine (HF.out _ (Boxes.low (w0 := wr) (bs := [(g5, #[.int .i64 (rd_T34 l0 (kk : Int)).f0, .int .i64 (rd_T34 l0 (kk : Int)).f1, .int .i64 (rd_T34 l0 (kk : Int)).f2, .int .i64 (rd_T34 l0 (kk : Int)).f3], 34)]) (Boxes.drew BX.out))).mono ?_
              rintro e w7_ ⟨rfl, hb⟩
              refine ⟨_, rfl, ?_⟩
              have BY := Aside0.mk (Boxes.below (w0 := wr) (bs := [(g5, #[.int .i64 (rd_T34 l0 (kk : Int)).f0, .int .i64 (rd_T34 l0 (kk : Int)).f1, .int .i64 (rd_T34 l0 (kk : Int)).f2, .int .i64 (rd_T34 l0 (kk : Int)).f3], 34)]) (Boxes.drew BX.out) hb)
              clear BX hb
              have BX := BY
              clear BY
              clear q5_0 f5_0 q5_1 f5_1 q5_2 f5_2 q5_3 f5_3
              have q5_0 : World.cell? _ ⟨g5, 0, none⟩ = some (.int .i64 (rd_T34 l0 (kk : Int)).f0) := BX.out.cell (i := 0) rfl (j := 0) rfl
              have f5_0 : World.frozen? _ ⟨g5, 0, none⟩ = false := BX.out.frozen (i := 0) rfl 0
              have q5_1 : World.cell? _ ⟨g5, 1, none⟩ = some (.int .i64 (rd_T34 l0 (kk : Int)).f1) := BX.out.cell (i := 0) rfl (j := 1) rfl
              have f5_1 : World.frozen? _ ⟨g5, 1, none⟩ = false := BX.out.frozen (i := 0) rfl 1
              have q5_2 : World.cell? _ ⟨g5, 2, none⟩ = some (.int .i64 (rd_T34 l0 (kk : Int)).f2) := BX.out.cell (i := 0) rfl (j := 2) rfl
              have f5_2 : World.frozen? _ ⟨g5, 2, none⟩ = false := BX.out.frozen (i := 0) rfl 2
              have q5_3 : World.cell? _ ⟨g5, 3, none⟩ = some (.int .i64 (rd_T34 l0 (kk : Int)).f3) := BX.out.cell (i := 0) rfl (j := 3) rfl
              have f5_3 : World.frozen? _ ⟨g5, 3, none⟩ = false := BX.out.frozen (i := 0) rfl 3
              refine hK.out _ _ ?_
              clear hK K
              refine norm_ (a' := ?_) ?_ ?_
              rotate_left
              · show Act.put _ (some 22) _ = _
                simp only [Act.put, List.setIfInBounds_toArray, List.set_cons_zero, List.set_cons_succ, i64_w, i32_w]
                rfl
              refine pure_ (i := 5) (N := some 6) (v := ?_) (a' := ?_) #[true, true, true, true, true, true] rfl rfl (by kernel_rfl) (fun _ _ _ h => h) (Or.inl ⟨by rfl, ?_⟩) ?_ ?_
              rotate_left
              · intro w'
                go_simp
                with_reducible rfl
              rotate_left
              · simp only [Act.put, List.setIfInBounds_toArray, List.set_cons_zero, List.set_cons_succ, i64_w, i32_w]
                rfl
              refine done_ (by kernel_rfl) ?_
              go_wp2_with (first | (at_lookup; refine wpList_lookup_set rfl _ _ 61 rfl 34 4 keyedT Try.underlying61 Try.underlying4 (zeroB_ _) (HS.out.below (Boxes.low (w0 := wr) (bs := [(g5, #[.int .i64 (rd_T34 l0 (kk : Int)).f0, .int .i64 (rd_T34 l0 (kk : Int)).f1, .int .i64 (rd_T34 l0 (kk : Int)).f2, .int .i64 (rd_T34 l0 (kk : Int)).f3], 34)]) (by (with_reducible repeat (first | refine Boxes.drewN ?_ _ | refine Boxes.drew ?_ | refine Boxes.alloc ?_ _)); exact BX.out))) rfl (rd_T34 l0 (kk : Int)) rfl hkey (s := false) hs ?_) | (at_mapUpdate; refine wpList_update_set rfl _ _ _ 61 rfl 34 4 keyedT Try.underlying61 Try.underlying4 encT_inj (HS.out.below (Boxes.low (w0 := wr) (bs := [(g5, #[.int .i64 (rd_T34 l0 (kk : Int)).f0, .int .i64 (rd_T34 l0 (kk : Int)).f1, .int .i64 (rd_T34 l0 (kk : Int)).f2, .int .i64 (rd_T34 l0 (kk : Int)).f3], 34)]) (by (with_reducible repeat (first | refine Boxes.drewN ?_ _ | refine Boxes.drew ?_ | refine Boxes.alloc ?_ _)); exact BX.out))) (by unfold maxLen; omega) rfl (rd_T34 l0 (kk : Int)) rfl rfl hkey ?_; intro w8_ hown_ hgr_; have HS8 := Aside0.mk hown_; have HB8 := Aside0.mk (pw_below_grown (below_step BW.out (Boxes.low (w0 := wr) (bs := [(g5, #[.int .i64 (rd_T34 l0 (kk : Int)).f0, .int .i64 (rd_T34 l0 (kk : Int)).f1, .int .i64 (rd_T34 l0 (kk : Int)).f2, .int .i64 (rd_T34 l0 (kk : Int)).f3], 34)]) (by (with_reducible repeat (first | refine Boxes.drewN ?_ _ | refine Boxes.drew ?_ | refine Boxes.alloc ?_ _)); exact BX.out))) _ (Nat.le_trans BW.out.size (Boxes.low (w0 := wr) (bs := [(g5, #[.int .i64 (rd_T34 l0 (kk : Int)).f0, .int .i64 (rd_T34 l0 (kk : Int)).f1, .int .i64 (rd_T34 l0 (kk : Int)).f2, .int .i64 (rd_T34 l0 (kk : Int)).f3], 34)]) (by (with_reducible repeat (first | refine Boxes.drewN ?_ _ | refine Boxes.drew ?_ | refine Boxes.alloc ?_ _)); exact BX.out)).size) hgr_ (fun k hk => by cases hk; exact Nat.le_refl _)); clear hown_ hgr_ HS) | fail)
              go_roundg (l0.length - (kk + 1))
              case measure => omega
              case rel => exact ⟨kk + 1, by omega, by omega, by go_num, ⟨HB8.out⟩, ⟨by rw [← hSn]; exact HS8.out⟩, ⟨A4.out⟩⟩
          · rw [if_neg hok] at A3
            exact absurd A3 (by simp)
        · rw [if_neg hc] at A3
          obtain rfl := Option.some.inj A3
          have hcb : (c != 0) = true := by simpa using hc
          clear A3 hS hc HS
          have hu1 := Try.underlying34
          have hu2 := Try.underlying25
          have p1 : (0 ≤ (kk : Int)) = True := eq_true (by omega)
          have p2 : ((kk : Int) ≤ (c0 : Int)) = True := eq_true (by omega)
          have BX := Aside0.mk (Boxes.start wr)
          go_wp2_with (first | ((with_reducible refine gate_dst (N := 5) rfl ?_); refine box_event ?hg (N := 5) ?hd (cs := #[.int .i64 0, .int .i64 0, .int .i64 0, .int .i64 0]) (t := 34) ?hr ?_; (case hd => rfl); (case hg => rfl); (case hr => first | (go_simp; done) | (go_simp; rfl)); intro g5 hg w5_ hbox hb; have BY := Aside0.mk (Boxes.new (w0 := wr) (bs := []) (by (with_reducible repeat (first | refine Boxes.drewN ?_ _ | refine Boxes.drew ?_ | refine Boxes.alloc ?_ _)); exact BX.out) hg hbox hb); clear BX hb hbox hg; have BX := BY; clear BY; have q5_0 : World.cell? _ ⟨g5, 0, none⟩ = some (.int .i64 0) := BX.out.cell (i := 0) rfl (j := 0) rfl; have f5_0 : World.frozen? _ ⟨g5, 0, none⟩ = false := BX.out.frozen (i := 0) rfl 0; have q5_1 : World.cell? _ ⟨g5, 1, none⟩ = some (.int .i64 0) := BX.out.cell (i := 0) rfl (j := 1) rfl; have f5_1 : World.frozen? _ ⟨g5, 1, none⟩ = false := BX.out.frozen (i := 0) rfl 1; have q5_2 : World.cell? _ ⟨g5, 2, none⟩ = some (.int .i64 0) := BX.out.cell (i := 0) rfl (j := 2) rfl; have f5_2 : World.frozen? _ ⟨g5, 2, none⟩ = false := BX.out.frozen (i := 0) rfl 2; have q5_3 : World.cell? _ ⟨g5, 3, none⟩ = some (.int .i64 0) := BX.out.cell (i := 0) rfl (j := 3) rfl; have f5_3 : World.frozen? _ ⟨g5, 3, none⟩ = false := BX.out.frozen (i := 0) rfl 3) | ((with_reducible refine gate_store (t := 34) (p := 5) rfl ?_); refine boxes_store (w0 := wr) (bs := [(g5, #[.int .i64 (rd_T34 l0 (kk : Int)).f0, .int .i64 (rd_T34 l0 (kk : Int)).f1, .int .i64 (rd_T34 l0 (kk : Int)).f2, .int .i64 (rd_T34 l0 (kk : Int)).f3], 34)]) (W1 := (((World.setCell w5_ ⟨g5, 0, none⟩ (.int .i64 (rd_T34 l0 (kk : Int)).f0)).setCell ⟨g5, 1, none⟩ (.int .i64 (rd_T34 l0 (kk : Int)).f1)).setCell ⟨g5, 2, none⟩ (.int .i64 (rd_T34 l0 (kk : Int)).f2)).setCell ⟨g5, 3, none⟩ (.int .i64 (rd_T34 l0 (kk : Int)).f3)) rfl rfl rfl ?hr ((((Boxes.put (w0 := wr) (b1 := []) (b2 := []) (g := g5) (cs := #[.int .i64 0, .int .i64 0, .int .i64 0, .int .i64 0]) (t := 34) BX.out 0 (.int .i64 (rd_T34 l0 (kk : Int)).f0)).put (b1 := []) 1 (.int .i64 (rd_T34 l0 (kk : Int)).f1)).put (b1 := []) 2 (.int .i64 (rd_T34 l0 (kk : Int)).f2)).put (b1 := []) 3 (.int .i64 (rd_T34 l0 (kk : Int)).f3)) ?_; (case hr => first | (go_simp; done) | (go_simp; rfl)); intro w6_ BY; have BY := Aside0.mk BY; clear BX; have BX := BY; clear BY; clear q5_0 f5_0 q5_1 f5_1 q5_2 f5_2 q5_3 f5_3; have q5_0 : World.cell? _ ⟨g5, 0, none⟩ = some (.int .i64 (rd_T34 l0 (kk : Int)).f0) := BX.out.cell (i := 0) rfl (j := 0) rfl; have f5_0 : World.frozen? _ ⟨g5, 0, none⟩ = false := BX.out.frozen (i := 0) rfl 0; have q5_1 : World.cell? _ ⟨g5, 1, none⟩ = some (.int .i64 (rd_T34 l0 (kk : Int)).f1) := BX.out.cell (i := 0) rfl (j := 1) rfl; have f5_1 : World.frozen? _ ⟨g5, 1, none⟩ = false := BX.out.frozen (i := 0) rfl 1; have q5_2 : World.cell? _ ⟨g5, 2, none⟩ = some (.int .i64 (rd_T34 l0 (kk : Int)).f2) := BX.out.cell (i := 0) rfl (j := 2) rfl; have f5_2 : World.frozen? _ ⟨g5, 2, none⟩ = false := BX.out.frozen (i := 0) rfl 2; have q5_3 : World.cell? _ ⟨g5, 3, none⟩ = some (.int .i64 (rd_T34 l0 (kk : Int)).f3) := BX.out.cell (i := 0) rfl (j := 3) rfl; have f5_3 : World.frozen? _ ⟨g5, 3, none⟩ = false := BX.out.frozen (i := 0) rfl 3) | fail)
          refine start_ (n := 6) (S := fun w' => w'.cell? ⟨g5, 0, none⟩ = some (.int .i64 (rd_T34 l0 (kk : Int)).f0) ∧ w'.cell? ⟨g5, 1, none⟩ = some (.int .i64 (rd_T34 l0 (kk : Int)).f1) ∧ w'.cell? ⟨g5, 2, none⟩ = some (.int .i64 (rd_T34 l0 (kk : Int)).f2) ∧ w'.cell? ⟨g5, 3, none⟩ = some (.int .i64 (rd_T34 l0 (kk : Int)).f3)) (ds := [4]) #[false, false, false, false, false, false] (by kernel_rfl) rfl rfl ⟨q5_0, q5_1, q5_2, q5_3⟩ (fun hHeld => ?_)
          refine pure_ (i := 1) (N := some 19) (v := ?_) (a' := ?_) #[false, true, false, false, false, false] rfl rfl (by kernel_rfl) (fun _ _ _ h => h) (Or.inl ⟨by rfl, ?_⟩) ?_ ?_
          rotate_left
          · intro w'
            go_simp
            with_reducible rfl
          rotate_left
          · simp only [Act.put, List.setIfInBounds_toArray, List.set_cons_zero, List.set_cons_succ, i64_w, i32_w]
            rfl
          refine pure_ (i := 2) (N := some 20) (v := ?_) (a' := ?_) #[false, true, true, false, false, false] rfl rfl (by kernel_rfl) (fun _ _ _ h => h) (Or.inl ⟨by rfl, ?_⟩) ?_ ?_
          rotate_left
          · intro w'
            go_simp
            with_reducible rfl
          rotate_left
          · simp only [Act.put, List.setIfInBounds_toArray, List.set_cons_zero, List.set_cons_succ, i64_w, i32_w]
            rfl
          refine pure_ (i := 3) (N := some 21) (v := ?_) (a' := ?_) #[false, true, true, true, false, false] rfl rfl (by kernel_rfl) (fun _ _ _ h => h) (Or.inl ⟨by rfl, ?_⟩) ?_ ?_
          rotate_left
          · intro w'
            go_simp
            with_reducible rfl
          rotate_left
          · simp only [Act.put, List.setIfInBounds_toArray, List.set_cons_zero, List.set_cons_succ, i64_w, i32_w]
            rfl
          refine take_ (i := 0) (N := some 18) (v := ?_) (a' := ?_) #[true, true, true, true, false, false] rfl rfl (by kernel_rfl) (fun _ _ _ h => h) (Or.inl ⟨by rfl, ?_⟩) hHeld ?_ ?_
          rotate_left
          · rintro w' ⟨s0, s1, s2, s3⟩
            go_simp
            with_reducible rfl
          rotate_left
          · simp only [Act.put, List.setIfInBounds_toArray, List.set_cons_zero, List.set_cons_succ, i64_w, i32_w]
            rfl
          refine last_ (i := 4) (N := some 22) #[true, true, true, true, true, false] rfl rfl (by kernel_rfl) (by decide) (fun K hK => ?_)
          refine goes_ Try.func32 (by kernel_rfl) rfl #[.agg #[.int .i64 (rd_T34 l0 (kk : Int)).f0, .int .i64 (rd_T34 l0 (kk : Int)).f1, .int .i64 (rd_T34 l0 (kk : Int)).f2, .int .i64 (rd_T34 l0 (kk : Int)).f3], .slice (some ad) kk c0] (by rfl) rfl rfl (by simp only [List.map_toArray, List.map_cons, List.map_nil]; rfl) ?_
          with_reducible refine (HF.out _ (Boxes.low (w0 := wr) (bs := [(g5, #[.int .i64 (rd_T34 l0 (kk : Int)).f0, .int .i64 (rd_T34 l0 (kk : Int)).f1, .int .i64 (rd_T34 l0 (kk : Int)).f2, .int .i64 (rd_T34 l0 (kk : Int)).f3], 34)]) (Boxes.drew BX.out))).mono ?_
          rintro e w7_ ⟨rfl, hb⟩
          refine ⟨_, rfl, ?_⟩
          have BY := Aside0.mk (Boxes.below (w0 := wr) (bs := [(g5, #[.int .i64 (rd_T34 l0 (kk : Int)).f0, .int .i64 (rd_T34 l0 (kk : Int)).f1, .int .i64 (rd_T34 l0 (kk : Int)).f2, .int .i64 (rd_T34 l0 (kk : Int)).f3], 34)]) (Boxes.drew BX.out) hb)
          clear BX hb
          have BX := BY
          clear BY
          clear q5_0 f5_0 q5_1 f5_1 q5_2 f5_2 q5_3 f5_3
          have q5_0 : World.cell? _ ⟨g5, 0, none⟩ = some (.int .i64 (rd_T34 l0 (kk : Int)).f0) := BX.out.cell (i := 0) rfl (j := 0) rfl
          have f5_0 : World.frozen? _ ⟨g5, 0, none⟩ = false := BX.out.frozen (i := 0) rfl 0
          have q5_1 : World.cell? _ ⟨g5, 1, none⟩ = some (.int .i64 (rd_T34 l0 (kk : Int)).f1) := BX.out.cell (i := 0) rfl (j := 1) rfl
          have f5_1 : World.frozen? _ ⟨g5, 1, none⟩ = false := BX.out.frozen (i := 0) rfl 1
          have q5_2 : World.cell? _ ⟨g5, 2, none⟩ = some (.int .i64 (rd_T34 l0 (kk : Int)).f2) := BX.out.cell (i := 0) rfl (j := 2) rfl
          have f5_2 : World.frozen? _ ⟨g5, 2, none⟩ = false := BX.out.frozen (i := 0) rfl 2
          have q5_3 : World.cell? _ ⟨g5, 3, none⟩ = some (.int .i64 (rd_T34 l0 (kk : Int)).f3) := BX.out.cell (i := 0) rfl (j := 3) rfl
          have f5_3 : World.frozen? _ ⟨g5, 3, none⟩ = false := BX.out.frozen (i := 0) rfl 3
          refine hK.out _ _ ?_
          clear hK K
          refine norm_ (a' := ?_) ?_ ?_
          rotate_left
          · show Act.put _ (some 22) _ = _
            simp only [Act.put, List.setIfInBounds_toArray, List.set_cons_zero, List.set_cons_succ, i64_w, i32_w]
            rfl
          refine pure_ (i := 5) (N := some 6) (v := ?_) (a' := ?_) #[true, true, true, true, true, true] rfl rfl (by kernel_rfl) (fun _ _ _ h => h) (Or.inl ⟨by rfl, ?_⟩) ?_ ?_
          rotate_left
          · intro w'
            go_simp
            with_reducible rfl
          rotate_left
          · simp only [Act.put, List.setIfInBounds_toArray, List.set_cons_zero, List.set_cons_succ, i64_w, i32_w]
            rfl
          refine done_ (by kernel_rfl) ?_
          go_wp2
          go_ret
          exact ⟨rfl, below_step BW.out (Boxes.low (w0 := wr) (bs := [(g5, #[.int .i64 (rd_T34 l0 (kk : Int)).f0, .int .i64 (rd_T34 l0 (kk : Int)).f1, .int .i64 (rd_T34 l0 (kk : Int)).f2, .int .i64 (rd_T34 l0 (kk : Int)).f3], 34)]) (by (with_reducible repeat (first | refine Boxes.drewN ?_ _ | refine Boxes.drew ?_ | refine Boxes.alloc ?_ _)); exact BX.out))⟩
      · have hltz : ¬ (kk : Int) < (l0.length : Int) := by omega
        have hke : kk = l0.length := by omega
        subst hke
        have A4 := Aside0.mk (Option.some.inj ((by rw [List.drop_length, impl_TermsFault.l] : impl_TermsFault.l _ (l0.drop l0.length) = some 0).symm.trans A.out))
        clear A HS
        go_wp2
        go_ret
        exact ⟨congrArg (fun z => Ending.returned (Value.int .i64 z)) A4.out, BW.out⟩

/-! ### impl_placesFault: function 12 (my own text) -/
def impl_placesFault.p (l1 : List S34) (at_ : Int) : Option Bool := (impl_isPlace.f l1 at_).bind fun b => some (!b)
def impl_placesFault.f (l0 : List S34) (l1 : List Int) : Option Int :=
  (impl_TermsFault.f l0).bind fun c => if c = 0 then (idxO (impl_placesFault.p l0) l1 0).bind fun i => some (if 0 ≤ i then 3 else 0) else some c
set_option maxHeartbeats 4000000 in
set_option maxRecDepth 100000 in
theorem impl_placesFault_lit.calls (A1 : Option Addr) (c1 : Nat) (l1 : List S34) (x : Int) (b : Bool) (pb : Nat) (w W : World) (hpb : pb < w.heap.size) (e0 : w.cell? ⟨pb, 0, none⟩ = some (.slice A1 l1.length c1))
    (hr : Kd.C k34 w A1 l1.length l1) (hc : l1.length ≤ c1) (hb : Below w.heap.size w W) (h : impl_placesFault.p l1 x = some b) :
    Calls Try.prog 24 #[.int .i64 x, .pointer (some ⟨pb, 0, none⟩)] W fun e w' => e = .returned (.bool b) ∧ Below w.heap.size w w' := by
  replace e0 := (hb.cell (p := ⟨pb, 0, none⟩) hpb).trans e0
  obtain ⟨b', h1, h⟩ := Option.bind_eq_some_iff.mp h
  obtain rfl := Option.some.inj h
  have HH := Aside0.mk (impl_isPlace.calls A1 c1 l1 x b' W (Kd.C_below hr hb) hc h1)
  have HB := Aside0.mk hb
  clear hr hc h h1 hb hpb
  go_enter Try.func24, Try.ntmps24
  go_wp2_with (go_at_call 25; refine HH.out.mono ?_; rintro e w' ⟨rfl, ⟨nd, rfl⟩⟩)
  go_ret
  exact ⟨rfl, pw_below_drewN HB.out nd⟩
set_option maxHeartbeats 8000000 in
set_option maxRecDepth 100000 in
theorem impl_placesFault.calls (A0 : Option Addr) (c0 : Nat) (l0 : List S34) (A1 : Option Addr) (c1 : Nat) (l1 : List Int) (r : Int) (w : World) (hr0 : Kd.C k34 w A0 l0.length l0) (hc0 : l0.length ≤ c0) (hr1 : Kd.C (Kd.int .i64) w A1 l1.length l1) (hc1 : l1.length ≤ c1) (h : impl_placesFault.f l0 l1 = some r) :
    Calls Try.prog 12 #[.slice A0 l0.length c0, .slice A1 l1.length c1] w fun e w' => e = .returned (.int .i64 r) ∧ Below w.heap.size w w' := by
  have eg : ∀ args w, (callFunc 24 args).run Try.prog w = .ok (.enter 24 args) w := Go.Proofs.enters_of Try.func24 (by kernel_rfl) rfl
  unfold impl_placesFault.f at h
  obtain ⟨c_, h1, h⟩ := Option.bind_eq_some_iff.mp h
  have HT := Aside0.mk (fun (W : World) (hb : Below w.heap.size w W) => impl_TermsFault.calls A0 c0 l0 c_ W (Kd.C_below hr0 hb) hc0 h1)
  have HR0 := Aside0.mk hr0
  have HR1 := Aside0.mk hr1
  have BX := Aside0.mk (Boxes.start w)
  clear hr0 hr1 h1
  have hu2 := Try.underlying25
  by_cases hc : c_ = 0
  · subst hc
    rw [if_pos rfl] at h
    obtain ⟨i_, hi, h⟩ := Option.bind_eq_some_iff.mp h
    have HI := Aside0.mk hi
    have HV := Aside0.mk (Option.some.inj h)
    clear hi h
    go_enter Try.func12, Try.ntmps12
    rcases Bool.eq_false_or_eq_true (decide (0 ≤ i_)) with ci | ci
    · go_wp2_with (first | ((with_reducible refine gate_dst (N := 2) rfl ?_); refine box_event ?hg (N := 2) ?hd (cs := #[.slice A0 l0.length c0]) (t := 25) ?hr ?_; (case hd => rfl); (case hg => rfl); (case hr => first | (go_simp; done) | (go_simp; rfl)); intro g2 hg w2_ hbox hb; have BY := Aside0.mk (Boxes.new (w0 := w) (bs := []) (by (with_reducible repeat (first | refine Boxes.drewN ?_ _ | refine Boxes.drew ?_ | refine Boxes.alloc ?_ _)); exact BX.out) hg hbox hb); clear BX hb hbox hg; have BX := BY; clear BY; have q2_0 : World.cell? _ ⟨g2, 0, none⟩ = some (.slice A0 l0.length c0) := BX.out.cell (i := 0) rfl (j := 0) rfl; have f2_0 : World.frozen? _ ⟨g2, 0, none⟩ = false := BX.out.frozen (i := 0) rfl 0) | (go_at_call 22; (with_reducible refine (HT.out _ (Boxes.low (w0 := w) (bs := [(g2, #[.slice A0 l0.length c0], 25)]) (by (with_reducible repeat (first | refine Boxes.drewN ?_ _ | refine Boxes.drew ?_ | refine Boxes.alloc ?_ _)); exact BX.out))).mono ?_); rintro e w7_ ⟨rfl, hb⟩; have BY := Aside0.mk (Boxes.below (w0 := w) (bs := [(g2, #[.slice A0 l0.length c0], 25)]) (by (with_reducible repeat (first | refine Boxes.drewN ?_ _ | refine Boxes.drew ?_ | refine Boxes.alloc ?_ _)); exact BX.out) hb); clear BX hb; have BX := BY; clear BY; clear q2_0 f2_0; have q2_0 : World.cell? _ ⟨g2, 0, none⟩ = some (.slice A0 l0.length c0) := BX.out.cell (i := 0) rfl (j := 0) rfl; have f2_0 : World.frozen? _ ⟨g2, 0, none⟩ = false := BX.out.frozen (i := 0) rfl 0) | (go_at_call 23; (refine (ContainsFuncI.calls A1 c1 l1 24 #[.pointer (some ⟨g2, 0, none⟩)] (impl_placesFault.p l0) i_ _ eg (Kd.C_below HR1.out BX.out.low) (fun x b W hx hb2 => impl_placesFault_lit.calls A0 c0 l0 x b g2 _ W (BX.out.lt (i := 0) rfl) (BX.out.cell (i := 0) rfl (j := 0) rfl) (Kd.C_below HR0.out BX.out.low) hc0 hb2 hx) HI.out).mono ?_); rintro e w9_ ⟨rfl, hb⟩; have BY := Aside0.mk (Boxes.below (w0 := w) (bs := [(g2, #[.slice A0 l0.length c0], 25)]) (by (with_reducible repeat (first | refine Boxes.drewN ?_ _ | refine Boxes.drew ?_ | refine Boxes.alloc ?_ _)); exact BX.out) hb); clear BX hb; have BX := BY; clear BY; clear q2_0 f2_0; have q2_0 : World.cell? _ ⟨g2, 0, none⟩ = some (.slice A0 l0.length c0) := BX.out.cell (i := 0) rfl (j := 0) rfl; have f2_0 : World.frozen? _ ⟨g2, 0, none⟩ = false := BX.out.frozen (i := 0) rfl 0) | fail)
      go_ret
      exact ⟨congrArg (fun z => Ending.returned (Value.int .i64 z)) ((if_pos (of_decide_eq_true ci)).symm.trans HV.out), (Boxes.low (w0 := w) (bs := [(g2, #[.slice A0 l0.length c0], 25)]) (by (with_reducible repeat (first | refine Boxes.drewN ?_ _ | refine Boxes.drew ?_ | refine Boxes.alloc ?_ _)); exact BX.out))⟩
    · go_wp2_with (first | ((with_reducible refine gate_dst (N := 2) rfl ?_); refine box_event ?hg (N := 2) ?hd (cs := #[.slice A0 l0.length c0]) (t := 25) ?hr ?_; (case hd => rfl); (case hg => rfl); (case hr => first | (go_simp; done) | (go_simp; rfl)); intro g2 hg w2_ hbox hb; have BY := Aside0.mk (Boxes.new (w0 := w) (bs := []) (by (with_reducible repeat (first | refine Boxes.drewN ?_ _ | refine Boxes.drew ?_ | refine Boxes.alloc ?_ _)); exact BX.out) hg hbox hb); clear BX hb hbox hg; have BX := BY; clear BY; have q2_0 : World.cell? _ ⟨g2, 0, none⟩ = some (.slice A0 l0.length c0) := BX.out.cell (i := 0) rfl (j := 0) rfl; have f2_0 : World.frozen? _ ⟨g2, 0, none⟩ = false := BX.out.frozen (i := 0) rfl 0) | (go_at_call 22; (with_reducible refine (HT.out _ (Boxes.low (w0 := w) (bs := [(g2, #[.slice A0 l0.length c0], 25)]) (by (with_reducible repeat (first | refine Boxes.drewN ?_ _ | refine Boxes.drew ?_ | refine Boxes.alloc ?_ _)); exact BX.out))).mono ?_); rintro e w7_ ⟨rfl, hb⟩; have BY := Aside0.mk (Boxes.below (w0 := w) (bs := [(g2, #[.slice A0 l0.length c0], 25)]) (by (with_reducible repeat (first | refine Boxes.drewN ?_ _ | refine Boxes.drew ?_ | refine Boxes.alloc ?_ _)); exact BX.out) hb); clear BX hb; have BX := BY; clear BY; clear q2_0 f2_0; have q2_0 : World.cell? _ ⟨g2, 0, none⟩ = some (.slice A0 l0.length c0) := BX.out.cell (i := 0) rfl (j := 0) rfl; have f2_0 : World.frozen? _ ⟨g2, 0, none⟩ = false := BX.out.frozen (i := 0) rfl 0) | (go_at_call 23; (refine (ContainsFuncI.calls A1 c1 l1 24 #[.pointer (some ⟨g2, 0, none⟩)] (impl_placesFault.p l0) i_ _ eg (Kd.C_below HR1.out BX.out.low) (fun x b W hx hb2 => impl_placesFault_lit.calls A0 c0 l0 x b g2 _ W (BX.out.lt (i := 0) rfl) (BX.out.cell (i := 0) rfl (j := 0) rfl) (Kd.C_below HR0.out BX.out.low) hc0 hb2 hx) HI.out).mono ?_); rintro e w9_ ⟨rfl, hb⟩; have BY := Aside0.mk (Boxes.below (w0 := w) (bs := [(g2, #[.slice A0 l0.length c0], 25)]) (by (with_reducible repeat (first | refine Boxes.drewN ?_ _ | refine Boxes.drew ?_ | refine Boxes.alloc ?_ _)); exact BX.out) hb); clear BX hb; have BX := BY; clear BY; clear q2_0 f2_0; have q2_0 : World.cell? _ ⟨g2, 0, none⟩ = some (.slice A0 l0.length c0) := BX.out.cell (i := 0) rfl (j := 0) rfl; have f2_0 : World.frozen? _ ⟨g2, 0, none⟩ = false := BX.out.frozen (i := 0) rfl 0) | fail)
      go_ret
      exact ⟨congrArg (fun z => Ending.returned (Value.int .i64 z)) ((if_neg (of_decide_eq_false ci)).symm.trans HV.out), (Boxes.low (w0 := w) (bs := [(g2, #[.slice A0 l0.length c0], 25)]) (by (with_reducible repeat (first | refine Boxes.drewN ?_ _ | refine Boxes.drew ?_ | refine Boxes.alloc ?_ _)); exact BX.out))⟩
  · rw [if_neg hc] at h
    have HV := Aside0.mk (Option.some.inj h)
    have hcb : (c_ != 0) = true := by simpa using hc
    clear h hc
    go_enter Try.func12, Try.ntmps12
    go_wp2_with (first | ((with_reducible refine gate_dst (N := 2) rfl ?_); refine box_event ?hg (N := 2) ?hd (cs := #[.slice A0 l0.length c0]) (t := 25) ?hr ?_; (case hd => rfl); (case hg => rfl); (case hr => first | (go_simp; done) | (go_simp; rfl)); intro g2 hg w2_ hbox hb; have BY := Aside0.mk (Boxes.new (w0 := w) (bs := []) (by (with_reducible repeat (first | refine Boxes.drewN ?_ _ | refine Boxes.drew ?_ | refine Boxes.alloc ?_ _)); exact BX.out) hg hbox hb); clear BX hb hbox hg; have BX := BY; clear BY; have q2_0 : World.cell? _ ⟨g2, 0, none⟩ = some (.slice A0 l0.length c0) := BX.out.cell (i := 0) rfl (j := 0) rfl; have f2_0 : World.frozen? _ ⟨g2, 0, none⟩ = false := BX.out.frozen (i := 0) rfl 0) | (go_at_call 22; (with_reducible refine (HT.out _ (Boxes.low (w0 := w) (bs := [(g2, #[.slice A0 l0.length c0], 25)]) (by (with_reducible repeat (first | refine Boxes.drewN ?_ _ | refine Boxes.drew ?_ | refine Boxes.alloc ?_ _)); exact BX.out))).mono ?_); rintro e w7_ ⟨rfl, hb⟩; have BY := Aside0.mk (Boxes.below (w0 := w) (bs := [(g2, #[.slice A0 l0.length c0], 25)]) (by (with_reducible repeat (first | refine Boxes.drewN ?_ _ | refine Boxes.drew ?_ | refine Boxes.alloc ?_ _)); exact BX.out) hb); clear BX hb; have BX := BY; clear BY; clear q2_0 f2_0; have q2_0 : World.cell? _ ⟨g2, 0, none⟩ = some (.slice A0 l0.length c0) := BX.out.cell (i := 0) rfl (j := 0) rfl; have f2_0 : World.frozen? _ ⟨g2, 0, none⟩ = false := BX.out.frozen (i := 0) rfl 0) | (go_at_call 23; (refine (ContainsFuncI.calls A1 c1 l1 24 #[.pointer (some ⟨g2, 0, none⟩)] (impl_placesFault.p l0) i_ _ eg (Kd.C_below HR1.out BX.out.low) (fun x b W hx hb2 => impl_placesFault_lit.calls A0 c0 l0 x b g2 _ W (BX.out.lt (i := 0) rfl) (BX.out.cell (i := 0) rfl (j := 0) rfl) (Kd.C_below HR0.out BX.out.low) hc0 hb2 hx) HI.out).mono ?_); rintro e w9_ ⟨rfl, hb⟩; have BY := Aside0.mk (Boxes.below (w0 := w) (bs := [(g2, #[.slice A0 l0.length c0], 25)]) (by (with_reducible repeat (first | refine Boxes.drewN ?_ _ | refine Boxes.drew ?_ | refine Boxes.alloc ?_ _)); exact BX.out) hb); clear BX hb; have BX := BY; clear BY; clear q2_0 f2_0; have q2_0 : World.cell? _ ⟨g2, 0, none⟩ = some (.slice A0 l0.length c0) := BX.out.cell (i := 0) rfl (j := 0) rfl; have f2_0 : World.frozen? _ ⟨g2, 0, none⟩ = false := BX.out.frozen (i := 0) rfl 0) | fail)
    go_ret
    exact ⟨congrArg (fun z => Ending.returned (Value.int .i64 z)) HV.out, (Boxes.low (w0 := w) (bs := [(g2, #[.slice A0 l0.length c0], 25)]) (by (with_reducible repeat (first | refine Boxes.drewN ?_ _ | refine Boxes.drew ?_ | refine Boxes.alloc ?_ _)); exact BX.out))⟩

end Go.Proofs.Ytofaojdkpbheoaa.PFnExactSameTerms
