-- Written by wip/tools/myprint.py of this claim's session, over the kit's print, round texts of its own: own text.
import Derived.Test.YtcelgjhhmkgnhaaPFnTrimsx0
import Derived.Test.YtcelgjhhmkgnhaaPFnTrimsx2
import Derived.Test.YtcelgjhhmkgnhaaPFnTrimsx3
import Derived.Test.YtcelgjhhmkgnhaaPFnTrimsx11
import Derived.Test.YtcelgjhhmkgnhaaPFnTrimsx12
import Derived.Test.YtcelgjhhmkgnhaaPFnTrimsx13
import Derived.Test.YtcelgjhhmkgnhaaPFnTrimsx14
namespace Go.Proofs.Ytcelgjhhmkgnhaa.PFnTrims
open Go.RowKit Go.Proofs.YtcelgjhhmkgnhaaW.PrintWords Go.Proofs.YtcelgjhhmkgnhaaW.PrintLast Go.Proofs.YtcelgjhhmkgnhaaW.PrintMore
attribute [local go_sem] max2_int min2_int max_two min_two max_three min_three max_four min_four   -- for this text's walks alone
set_option linter.unusedVariables false
set_option linter.unusedSimpArgs false

/-! ### spec_SampleOf: function 101 (my own text) -/
def spec_SampleOf.p (b : Bool) (a0_0 a0_1 a0_2 a0_3 a0_4 a0_5 a0_6 a0_7 a0_8 p : Int) : Int × Int × Int × Int × Int × Int × Int × List Int := if b = true then (0, a0_0, a0_2, p, 64, a0_4, a0_6, []) else (0, a0_0, a0_2, p, 64, 0, 0, [])
def spec_SampleOf.f (k : Nat) (a0_0 a0_1 a0_2 a0_3 a0_4 a0_5 a0_6 a0_7 a0_8 : Int) : Option (Int × Int × Int × Int × Int × Int × Int × List Int) := (spec_SelFault.f k a0_0 a0_1 a0_2 a0_3 a0_4 a0_5 a0_6 a0_7 a0_8).bind fun c => if c = 0 then (if a0_8 = 0 then ((spec_HasPorts.f 6).bind fun b => some (spec_SampleOf.p b a0_0 a0_1 a0_2 a0_3 a0_4 a0_5 a0_6 a0_7 a0_8 6)) else ((spec_HasPorts.f a0_8).bind fun b => some (spec_SampleOf.p b a0_0 a0_1 a0_2 a0_3 a0_4 a0_5 a0_6 a0_7 a0_8 a0_8))) else ((spec_l2Bad.f c).bind fun b => some b)
theorem spec_SampleOf.mono : ∀ a0_0 a0_1 a0_2 a0_3 a0_4 a0_5 a0_6 a0_7 a0_8 k, LeO (spec_SampleOf.f k a0_0 a0_1 a0_2 a0_3 a0_4 a0_5 a0_6 a0_7 a0_8) (spec_SampleOf.f (k + 1) a0_0 a0_1 a0_2 a0_3 a0_4 a0_5 a0_6 a0_7 a0_8) := by
  intro a0_0 a0_1 a0_2 a0_3 a0_4 a0_5 a0_6 a0_7 a0_8 k
  unfold spec_SampleOf.f
  exact LeO.bind (spec_SelFault.mono _ _ _ _ _ _ _ _ _ _) (fun _ => LeO.refl _)
set_option maxHeartbeats 4000000 in
set_option maxRecDepth 100000 in
theorem spec_SampleOf.calls (k : Nat) (a0_0 : Int) (a0_1 : Int) (a0_2 : Int) (a0_3 : Int) (a0_4 : Int) (a0_5 : Int) (a0_6 : Int) (a0_7 : Int) (a0_8 : Int) (r1 : Int) (r2 : Int) (r3 : Int) (r4 : Int) (r5 : Int) (r6 : Int) (r7 : Int) (r8 : List Int) (w : World) (h : spec_SampleOf.f k a0_0 a0_1 a0_2 a0_3 a0_4 a0_5 a0_6 a0_7 a0_8 = some (r1, r2, r3, r4, r5, r6, r7, r8)) :
    Calls Try.prog 101 #[.agg #[.int .i64 a0_0, .int .i64 a0_1, .int .i64 a0_2, .int .i64 a0_3, .int .i64 a0_4, .int .i64 a0_5, .int .i64 a0_6, .int .i64 a0_7, .int .i64 a0_8]] w fun e w' => ∃ v7_ : Value, e = .returned (.agg #[.int .i64 r1, .int .i64 r2, .int .i64 r3, .int .i64 r4, .int .i64 r5, .int .i64 r6, .int .i64 r7, v7_]) ∧ Kd.R (Kd.int .u8) 5 w' w.heap.size (fun _ => True) v7_ r8 ∧ Below w.heap.size w w' := by
  have D := Aside0.mk (CS.startB w)
  have H := h
  clear h
  unfold spec_SampleOf.f at H
  (repeat' with_reducible first
    | (have H1 := bindS (x := spec_SelFault.f _ _ _ _ _ _ _ _ _ _) H; clear H; obtain ⟨_, _, H⟩ := H1; try dsimp only at H)
    | (have H1 := bindS (x := spec_HasPorts.f _) H; clear H; obtain ⟨_, _, H⟩ := H1; try dsimp only at H)
    | (have H1 := bindS (x := spec_l2Bad.f _) H; clear H; obtain ⟨⟨_, _, _, _, _, _, _, _⟩, _, H⟩ := H1; try dsimp only at H)
    | (have H1 := ifE H; clear H; rcases H1 with ⟨_, _, H⟩ | ⟨_, _, H⟩)
    | (have H1 := ifB H; clear H; rcases H1 with ⟨rfl, H⟩ | ⟨rfl, H⟩)
    | (have H1 := ifB H; clear H; rcases H1 with ⟨_, H⟩ | ⟨_, H⟩)
    | (have H1 := ifD H; clear H; rcases H1 with ⟨_, H⟩ | ⟨_, H⟩)
    | (unfold spec_SampleOf.p at H)
    | (have H1 := someB H; clear H; rcases H1 with ⟨rfl, H⟩ | ⟨rfl, H⟩)
    | (exact noneE H))
  all_goals
    simp only [Option.some.injEq, Prod.mk.injEq] at H
    obtain ⟨rfl, rfl, rfl, rfl, rfl, rfl, rfl, rfl⟩ := H
    go_enter Try.func101, Try.ntmps101
    go_wp2_with (first
      | ((with_reducible refine gate_al rfl ?_); refine ev_box ?_; intro _ _ hD; clear D; have D := Aside0.mk hD; clear hD; (try clear q0 f0); (try clear q1 f1); (try clear q2 f2); (try (have q0 := D.out.c 0 rfl; have f0 := D.out.f 0 rfl)); (try (have q1 := D.out.c 1 rfl; have f1 := D.out.f 1 rfl)); (try (have q2 := D.out.c 2 rfl; have f2 := D.out.f 2 rfl)))
      | ((with_reducible refine gate_bx rfl ?_); refine ev_box ?_; intro _ _ hD; clear D; have D := Aside0.mk hD; clear hD; (try clear q0 f0); (try clear q1 f1); (try clear q2 f2); (try (have q0 := D.out.c 0 rfl; have f0 := D.out.f 0 rfl)); (try (have q1 := D.out.c 1 rfl; have f1 := D.out.f 1 rfl)); (try (have q2 := D.out.c 2 rfl; have f2 := D.out.f 2 rfl)))
      | ((with_reducible refine gate_st rfl ?_); refine ev_store ?_; intro w1 hD; clear D; simp only [List.set_cons_zero, List.set_cons_succ, List.setIfInBounds_toArray] at hD; have D := Aside0.mk hD; clear hD; (try clear q0 f0); (try clear q1 f1); (try clear q2 f2); (try (have q0 := D.out.c 0 rfl; have f0 := D.out.f 0 rfl)); (try (have q1 := D.out.c 1 rfl; have f1 := D.out.f 1 rfl)); (try (have q2 := D.out.c 2 rfl; have f2 := D.out.f 2 rfl)))
      | (go_at_call 44; with_reducible refine Calls.mono (CS.via D.out (spec_SelFault.calls _ _ _ _ _ _ _ _ _ _ _ _ (Aside0.out (by with_reducible assumption)))) ?_; rintro e w1 ⟨rfl, hD⟩; clear D; have D := Aside0.mk hD; clear hD; (try clear q0 f0); (try clear q1 f1); (try clear q2 f2); (try (have q0 := D.out.c 0 rfl; have f0 := D.out.f 0 rfl)); (try (have q1 := D.out.c 1 rfl; have f1 := D.out.f 1 rfl)); (try (have q2 := D.out.c 2 rfl; have f2 := D.out.f 2 rfl)))
      | (go_at_call 97; with_reducible refine Calls.mono (CS.viaQ D.out (spec_HasPorts.calls _ _ _ (Aside0.out (by with_reducible assumption)))) ?_; rintro e w1 ⟨rfl, hD⟩; clear D; have D := Aside0.mk hD; clear hD; (try clear q0 f0); (try clear q1 f1); (try clear q2 f2); (try (have q0 := D.out.c 0 rfl; have f0 := D.out.f 0 rfl)); (try (have q1 := D.out.c 1 rfl; have f1 := D.out.f 1 rfl)); (try (have q2 := D.out.c 2 rfl; have f2 := D.out.f 2 rfl)))
      | (go_at_call 131; with_reducible refine Calls.mono (CS.viaR D.out (spec_l2Bad.calls _ _ _ _ _ _ _ _ _ _ (Aside0.out (by with_reducible assumption)))) ?_; rintro e w1 ⟨_, _, rfl, hD⟩; clear D; have D := Aside0.mk hD; clear hD; (try clear q0 f0); (try clear q1 f1); (try clear q2 f2); (try (have q0 := D.out.c 0 rfl; have f0 := D.out.f 0 rfl)); (try (have q1 := D.out.c 1 rfl; have f1 := D.out.f 1 rfl)); (try (have q2 := D.out.c 2 rfl; have f2 := D.out.f 2 rfl))))
    first | (refine bodyPost_ret (results_cell_row rfl _ _ _ 79 _ (0, 0) _ rfl (D.out.at_ 1 rfl) Try.underlying79 rfl (by kernel_rfl)) rfl ?_) | (refine bodyPost_ret (results_cell_row rfl _ _ _ 79 _ (0, 0) _ rfl (D.out.at_ 0 rfl) Try.underlying79 rfl (by kernel_rfl)) rfl ?_)
    first | exact ⟨_, rfl, D.out.row 0 rfl, D.out.g⟩ | exact ⟨_, rfl, D.out.row 1 rfl, D.out.g⟩ | exact ⟨_, rfl, Kd.R_nil _ _ _ _ _, D.out.g⟩

/-! ### spec_l3Addresses: function 145 -/
def spec_l3Addresses.f (s0_0 : List Int) (s0_1 : Int) : Option (Int × Int × Int) := (spec_l1Next.f s0_0 s0_1 4).bind fun bt369 => (if bt369.1 = 0 then (some (0, 4294967295, bt369.2)) else (if bt369.1 = 1 then ((spec_l1Next.f s0_0 bt369.2 6).bind fun bt371 => (some (wrap64 (167772160 + bt371.1), wrap64 (167772160 + bt371.1), bt371.2))) else ((spec_l1Next.f s0_0 bt369.2 6).bind fun bt373 => ((spec_l1Next.f s0_0 bt373.2 5).bind fun bt375 => (some (wrap64 (167772160 + bt373.1), wrap64 ((wrap64 (167772160 + bt373.1)) + bt375.1), bt375.2))))))
set_option maxHeartbeats 4000000 in
set_option maxRecDepth 100000 in
theorem spec_l3Addresses.calls (g : Nat) (s0_0 : List Int) (s0_1 : Int) (r1 : Int) (r2 : Int) (r3 : Int) (w0 w : World) (hI : IsS151 w0 w g s0_0 s0_1) (hB : Below w0.heap.size w0 w) (h : spec_l3Addresses.f s0_0 s0_1 = some (r1, r2, r3)) :
  Calls Try.prog 145 #[.pointer (some ⟨g, 0, none⟩)] w fun e w' => e = .returned (.agg #[.int .i64 r1, .int .i64 r2]) ∧ IsS151 w0 w' g s0_0 r3 ∧ Below w0.heap.size w0 w' ∧ KeepBut w w' g none := by
  have hu63 := Try.underlying63
  have D := Aside0.mk (CS.startS hI hB)
  clear hI hB
  have H := h
  clear h
  unfold spec_l3Addresses.f at H
  (repeat' with_reducible first
    | (have H1 := bindS (x := spec_l1Next.f _ _ _) H; clear H; obtain ⟨⟨_, _⟩, _, H⟩ := H1; try dsimp only at H)
    | (have H1 := ifE H; clear H; rcases H1 with ⟨_, _, H⟩ | ⟨_, _, H⟩)
    | (have H1 := ifB H; clear H; rcases H1 with ⟨rfl, H⟩ | ⟨rfl, H⟩)
    | (have H1 := ifB H; clear H; rcases H1 with ⟨_, H⟩ | ⟨_, H⟩)
    | (have H1 := ifD H; clear H; rcases H1 with ⟨_, H⟩ | ⟨_, H⟩)
    | (exact noneE H))
  all_goals
    simp only [Option.some.injEq, Prod.mk.injEq] at H
    obtain ⟨rfl, rfl, rfl⟩ := H
    go_enter Try.func145, Try.ntmps145
    go_wp2_with (first
      | ((with_reducible refine gate_al rfl ?_); refine ev_box ?_; intro _ _ hD; clear D; have D := Aside0.mk hD; clear hD; (try clear q0 f0); (try (have q0 := D.out.c 0 rfl; have f0 := D.out.f 0 rfl)))
      | ((with_reducible refine gate_st rfl ?_); refine ev_store ?_; intro w1 hD; clear D; simp only [List.set_cons_zero, List.set_cons_succ, List.setIfInBounds_toArray] at hD; have D := Aside0.mk hD; clear hD; (try clear q0 f0); (try (have q0 := D.out.c 0 rfl; have f0 := D.out.f 0 rfl)))
      | (go_at_call 74; with_reducible refine Calls.mono (CS.viaS D.out (spec_l1Next.calls _ _ _ _ _ _ _ _ D.out.is D.out.lo (Aside0.out (by with_reducible assumption)))) ?_; rintro e w1 ⟨rfl, hD⟩; clear D; have D := Aside0.mk hD; clear hD; (try clear q0 f0); (try (have q0 := D.out.c 0 rfl; have f0 := D.out.f 0 rfl))))
    refine bodyPost_ret (results_cell_row rfl _ _ _ 63 _ (0, 0) _ rfl (D.out.at_ 0 rfl) Try.underlying63 rfl (by kernel_rfl)) rfl ?_
    exact ⟨rfl, D.out.is, D.out.lo, D.out.ke⟩

/-! ### spec_l3Ports: function 146 -/
def spec_l3Ports.f (s0_0 : List Int) (s0_1 : Int) : Option (Int × Int × Int) := (spec_l1Next.f s0_0 s0_1 3).bind fun bt378 => (if bt378.1 = 0 then ((spec_l1Pick.f s0_0 bt378.2 (([80, 443, 22] : List Int))).bind fun bt383 => (some (bt383.1, bt383.1, bt383.2))) else (if bt378.1 = 1 then (some (22, 1024, bt378.2)) else ((spec_l3All.f).bind fun bt385 => (some (bt385.1, bt385.2, bt378.2)))))
set_option maxHeartbeats 4000000 in
set_option maxRecDepth 100000 in
theorem spec_l3Ports.calls (g : Nat) (s0_0 : List Int) (s0_1 : Int) (r1 : Int) (r2 : Int) (r3 : Int) (w0 w : World) (hI : IsS151 w0 w g s0_0 s0_1) (hB : Below w0.heap.size w0 w) (h : spec_l3Ports.f s0_0 s0_1 = some (r1, r2, r3)) :
  Calls Try.prog 146 #[.pointer (some ⟨g, 0, none⟩)] w fun e w' => e = .returned (.agg #[.int .i64 r1, .int .i64 r2]) ∧ IsS151 w0 w' g s0_0 r3 ∧ Below w0.heap.size w0 w' ∧ KeepBut w w' g none := by
  have hu63 := Try.underlying63
  have D := Aside0.mk (CS.startS hI hB)
  clear hI hB
  have H := h
  clear h
  unfold spec_l3Ports.f at H
  (repeat' with_reducible first
    | (have H1 := bindS (x := spec_l1Next.f _ _ _) H; clear H; obtain ⟨⟨_, _⟩, _, H⟩ := H1; try dsimp only at H)
    | (have H1 := bindS (x := spec_l1Pick.f _ _ _) H; clear H; obtain ⟨⟨_, _⟩, _, H⟩ := H1; try dsimp only at H)
    | (have H1 := bindS (x := spec_l3All.f) H; clear H; obtain ⟨⟨_, _⟩, _, H⟩ := H1; try dsimp only at H)
    | (have H1 := ifE H; clear H; rcases H1 with ⟨_, _, H⟩ | ⟨_, _, H⟩)
    | (have H1 := ifB H; clear H; rcases H1 with ⟨rfl, H⟩ | ⟨rfl, H⟩)
    | (have H1 := ifB H; clear H; rcases H1 with ⟨_, H⟩ | ⟨_, H⟩)
    | (have H1 := ifD H; clear H; rcases H1 with ⟨_, H⟩ | ⟨_, H⟩)
    | (exact noneE H))
  all_goals
    simp only [Option.some.injEq, Prod.mk.injEq] at H
    obtain ⟨rfl, rfl, rfl⟩ := H
    go_enter Try.func146, Try.ntmps146
    go_wp2_with (first
      | ((with_reducible refine gate_al rfl ?_); refine ev_box ?_; intro _ _ hD; clear D; have D := Aside0.mk hD; clear hD; (try clear q0 f0); (try (have q0 := D.out.c 0 rfl; have f0 := D.out.f 0 rfl)))
      | ((with_reducible refine gate_st rfl ?_); refine ev_store ?_; intro w1 hD; clear D; simp only [List.set_cons_zero, List.set_cons_succ, List.setIfInBounds_toArray] at hD; have D := Aside0.mk hD; clear hD; (try clear q0 f0); (try (have q0 := D.out.c 0 rfl; have f0 := D.out.f 0 rfl)))
      | (go_at_call 74; with_reducible refine Calls.mono (CS.viaS D.out (spec_l1Next.calls _ _ _ _ _ _ _ _ D.out.is D.out.lo (Aside0.out (by with_reducible assumption)))) ?_; rintro e w1 ⟨rfl, hD⟩; clear D; have D := Aside0.mk hD; clear hD; (try clear q0 f0); (try (have q0 := D.out.c 0 rfl; have f0 := D.out.f 0 rfl)))
      | ((with_reducible refine gate_lit rfl ?_); refine ev_lit ?_; intro _ _ hD; clear D; have D := Aside0.mk hD; clear hD; (try clear q0 f0); (try (have q0 := D.out.c 0 rfl; have f0 := D.out.f 0 rfl)))
      | (go_at_call 76; with_reducible refine Calls.mono (CS.pick D.out (by with_reducible assumption) rfl rfl (by decide)) ?_; rintro e w1 ⟨rfl, hD⟩; clear D; have D := Aside0.mk hD; clear hD; (try clear q0 f0); (try (have q0 := D.out.c 0 rfl; have f0 := D.out.f 0 rfl)))
      | (go_at_call 98; with_reducible refine Calls.mono (CS.via D.out (spec_l3All.calls _ _ _ (Aside0.out (by with_reducible assumption)))) ?_; rintro e w1 ⟨rfl, hD⟩; clear D; have D := Aside0.mk hD; clear hD; (try clear q0 f0); (try (have q0 := D.out.c 0 rfl; have f0 := D.out.f 0 rfl))))
    refine bodyPost_ret (results_cell_row rfl _ _ _ 63 _ (0, 0) _ rfl (D.out.at_ 0 rfl) Try.underlying63 rfl (by kernel_rfl)) rfl ?_
    exact ⟨rfl, D.out.is, D.out.lo, D.out.ke⟩

end Go.Proofs.Ytcelgjhhmkgnhaa.PFnTrims
