-- Written by wip/tools/myprint.py of this claim's session, over the kit's print, round texts of its own: own text.
import Derived.Test.YtcelgjhhmkgnhaaPFnMeetsx0
import Derived.Test.YtcelgjhhmkgnhaaPFnMeetsx2
import Derived.Test.YtcelgjhhmkgnhaaPFnMeetsx6
import Derived.Test.YtcelgjhhmkgnhaaPFnMeetsx7
import Derived.Test.YtcelgjhhmkgnhaaPFnMeetsx9
import Derived.Test.YtcelgjhhmkgnhaaPFnMeetsx10
namespace Go.Proofs.Ytcelgjhhmkgnhaa.PFnMeets
open Go.RowKit Go.Proofs.YtcelgjhhmkgnhaaW.PrintWords Go.Proofs.YtcelgjhhmkgnhaaW.PrintLast Go.Proofs.YtcelgjhhmkgnhaaW.PrintMore
attribute [local go_sem] max2_int min2_int max_two min_two max_three min_three max_four min_four   -- for this text's walks alone
set_option linter.unusedVariables false
set_option linter.unusedSimpArgs false

/-! ### spec_DrawHolds: function 46 -/
def spec_DrawHolds.f (k : Nat) (l0 : List Int) : Option (Int × Int × Int × Int × Int × Int × Int × Int × Int × Int × Int × Int × Int × Int × Int × List Int) := (spec_l1Source.f l0).bind fun bt346 => ((spec_l3Bent.f k bt346.1 bt346.2).bind fun bt349 => ((spec_l2Bent.f k bt346.1 bt349.2.2.2.2.2.2.2.2.2).bind fun bt360 => ((spec_l1Chance.f bt346.1 bt360.2.2.2.2.2.2.2 2).bind fun bt371 => (if bt371.1 = true then ((spec_SampleOf.f k bt349.1 bt349.2.1 bt349.2.2.1 bt349.2.2.2.1 bt349.2.2.2.2.1 bt349.2.2.2.2.2.1 bt349.2.2.2.2.2.2.1 bt349.2.2.2.2.2.2.2.1 bt349.2.2.2.2.2.2.2.2.1).bind fun bt373 => (if bt373.1 = 0 then (some (bt349.1, bt349.2.1, bt349.2.2.1, bt349.2.2.2.1, bt349.2.2.2.2.1, bt349.2.2.2.2.2.1, bt349.2.2.2.2.2.2.1, bt349.2.2.2.2.2.2.2.1, bt349.2.2.2.2.2.2.2.2.1, bt373.2.1, bt373.2.2.1, bt373.2.2.2.1, bt373.2.2.2.2.1, bt373.2.2.2.2.2.1, bt373.2.2.2.2.2.2.1, bt373.2.2.2.2.2.2.2)) else (some (bt349.1, bt349.2.1, bt349.2.2.1, bt349.2.2.2.1, bt349.2.2.2.2.1, bt349.2.2.2.2.2.1, bt349.2.2.2.2.2.2.1, bt349.2.2.2.2.2.2.2.1, bt349.2.2.2.2.2.2.2.2.1, bt360.1, bt360.2.1, bt360.2.2.1, bt360.2.2.2.1, bt360.2.2.2.2.1, bt360.2.2.2.2.2.1, bt360.2.2.2.2.2.2.1)))) else (some (bt349.1, bt349.2.1, bt349.2.2.1, bt349.2.2.2.1, bt349.2.2.2.2.1, bt349.2.2.2.2.2.1, bt349.2.2.2.2.2.2.1, bt349.2.2.2.2.2.2.2.1, bt349.2.2.2.2.2.2.2.2.1, bt360.1, bt360.2.1, bt360.2.2.1, bt360.2.2.2.1, bt360.2.2.2.2.1, bt360.2.2.2.2.2.1, bt360.2.2.2.2.2.2.1))))))
theorem spec_DrawHolds.mono : ∀ a0 k, LeO (spec_DrawHolds.f k a0) (spec_DrawHolds.f (k + 1) a0) := by
 intro a0 k
 unfold spec_DrawHolds.f
 repeat' first
   | (with_reducible exact spec_SampleOf.mono _ _ _ _ _ _ _ _ _ _)
   | (with_reducible exact spec_l2Bent.mono _ _ _)
   | (with_reducible exact spec_l3Bent.mono _ _ _)
   | (with_reducible exact LeO.refl _)
   | (with_reducible exact LeO.none _)
   | (with_reducible refine LeO.ite ?_ ?_)
   | (with_reducible refine LeO.bind ?_ (fun _ => ?_))
   | exact spec_SampleOf.mono _ _ _ _ _ _ _ _ _ _
   | exact spec_l2Bent.mono _ _ _
   | exact spec_l3Bent.mono _ _ _
   | exact LeO.none _
   | refine LeO.ite ?_ ?_
   | refine LeO.bind ?_ (fun _ => ?_)
set_option maxHeartbeats 4000000 in
set_option maxRecDepth 100000 in
theorem spec_DrawHolds.calls (k : Nat) (A0 : Option Addr) (c0 : Nat) (l0 : List Int) (r1 : Int) (r2 : Int) (r3 : Int) (r4 : Int) (r5 : Int) (r6 : Int) (r7 : Int) (r8 : Int) (r9 : Int) (r10 : Int) (r11 : Int) (r12 : Int) (r13 : Int) (r14 : Int) (r15 : Int) (r16 : List Int) (w : World) (hr0 : Kd.C (Kd.int .u8) w A0 l0.length l0) (hc0 : l0.length ≤ c0) (h : spec_DrawHolds.f k l0 = some (r1, r2, r3, r4, r5, r6, r7, r8, r9, r10, r11, r12, r13, r14, r15, r16)) :
  Calls Try.prog 46 #[.slice A0 l0.length c0] w fun e w' => ∃ v15_ : Value, e = .returned (.tuple #[.agg #[.int .i64 r1, .int .i64 r2, .int .i64 r3, .int .i64 r4, .int .i64 r5, .int .i64 r6, .int .i64 r7, .int .i64 r8, .int .i64 r9], .agg #[.int .i64 r10, .int .i64 r11, .int .i64 r12, .int .i64 r13, .int .i64 r14, .int .i64 r15, v15_]]) ∧ Kd.R (Kd.int .u8) 5 w' w.heap.size (fun _ => True) v15_ r16 ∧ Below w.heap.size w w' := by
  have hu65 := Try.underlying65
  have hu71 := Try.underlying71
  have hu79 := Try.underlying79
  have D := Aside0.mk (CS.startB w)
  have HR := Aside0.mk hr0
  have HC := Aside0.mk hc0
  clear hr0 hc0
  have H := h
  clear h
  unfold spec_DrawHolds.f at H
  (repeat' with_reducible first
    | (have H1 := bindS (x := spec_l1Source.f _) H; clear H; obtain ⟨⟨_, _⟩, _, H⟩ := H1; try dsimp only at H)
    | (have H1 := bindS (x := spec_l3Bent.f _ _ _) H; clear H; obtain ⟨⟨_, _, _, _, _, _, _, _, _, _⟩, _, H⟩ := H1; try dsimp only at H)
    | (have H1 := bindS (x := spec_l2Bent.f _ _ _) H; clear H; obtain ⟨⟨_, _, _, _, _, _, _, _⟩, _, H⟩ := H1; try dsimp only at H)
    | (have H1 := bindS (x := spec_l1Chance.f _ _ _) H; clear H; obtain ⟨⟨_, _⟩, _, H⟩ := H1; try dsimp only at H)
    | (have H1 := bindS (x := spec_SampleOf.f _ _ _ _ _ _ _ _ _ _) H; clear H; obtain ⟨⟨_, _, _, _, _, _, _, _⟩, _, H⟩ := H1; try dsimp only at H)
    | (have H1 := ifE H; clear H; rcases H1 with ⟨_, _, H⟩ | ⟨_, _, H⟩)
    | (have H1 := ifB H; clear H; rcases H1 with ⟨rfl, H⟩ | ⟨rfl, H⟩)
    | (have H1 := ifB H; clear H; rcases H1 with ⟨_, H⟩ | ⟨_, H⟩)
    | (have H1 := ifD H; clear H; rcases H1 with ⟨_, H⟩ | ⟨_, H⟩)
    | (exact noneE H))
  all_goals
    simp only [Option.some.injEq, Prod.mk.injEq] at H
    obtain ⟨rfl, rfl, rfl, rfl, rfl, rfl, rfl, rfl, rfl, rfl, rfl, rfl, rfl, rfl, rfl, rfl⟩ := H
    go_enter Try.func46, Try.ntmps46
    go_wp2_with (first
      | ((with_reducible refine gate_al rfl ?_); refine ev_box ?_; intro _ _ hD; clear D; have D := Aside0.mk hD; clear hD; (try clear q0 f0); (try clear q1 f1); (try clear q2 f2); (try clear q3 f3); (try clear q4 f4); (try (have q0 := D.out.c 0 rfl; have f0 := D.out.f 0 rfl)); (try (have q1 := D.out.c 1 rfl; have f1 := D.out.f 1 rfl)); (try (have q2 := D.out.c 2 rfl; have f2 := D.out.f 2 rfl)); (try (have q3 := D.out.c 3 rfl; have f3 := D.out.f 3 rfl)); (try (have q4 := D.out.c 4 rfl; have f4 := D.out.f 4 rfl)))
      | ((with_reducible refine gate_st rfl ?_); refine ev_store ?_; intro w1 hD; clear D; simp only [List.set_cons_zero, List.set_cons_succ, List.setIfInBounds_toArray] at hD; have D := Aside0.mk hD; clear hD; (try clear q0 f0); (try clear q1 f1); (try clear q2 f2); (try clear q3 f3); (try clear q4 f4); (try (have q0 := D.out.c 0 rfl; have f0 := D.out.f 0 rfl)); (try (have q1 := D.out.c 1 rfl; have f1 := D.out.f 1 rfl)); (try (have q2 := D.out.c 2 rfl; have f2 := D.out.f 2 rfl)); (try (have q3 := D.out.c 3 rfl; have f3 := D.out.f 3 rfl)); (try (have q4 := D.out.c 4 rfl; have f4 := D.out.f 4 rfl)))
      | (go_at_call 69; with_reducible refine Calls.mono (CS.srcIn D.out (by simp) (spec_l1Source.calls _ _ _ _ _ w _ D.out.bel HR.out HC.out (Aside0.out (by with_reducible assumption)))) ?_; rintro e w1 ⟨_, rfl, hD⟩; clear D; have D := Aside0.mk hD; clear hD; (try clear q0 f0); (try clear q1 f1); (try clear q2 f2); (try clear q3 f3); (try clear q4 f4); (try (have q0 := D.out.c 0 rfl; have f0 := D.out.f 0 rfl)); (try (have q1 := D.out.c 1 rfl; have f1 := D.out.f 1 rfl)); (try (have q2 := D.out.c 2 rfl; have f2 := D.out.f 2 rfl)); (try (have q3 := D.out.c 3 rfl; have f3 := D.out.f 3 rfl)); (try (have q4 := D.out.c 4 rfl; have f4 := D.out.f 4 rfl)))
      | (go_at_call 99; with_reducible refine Calls.mono (CS.viaS D.out (spec_l3Bent.calls _ _ _ _ _ _ _ _ _ _ _ _ _ _ _ _ D.out.is D.out.lo (Aside0.out (by with_reducible assumption)))) ?_; rintro e w1 ⟨rfl, hD⟩; clear D; have D := Aside0.mk hD; clear hD; (try clear q0 f0); (try clear q1 f1); (try clear q2 f2); (try clear q3 f3); (try clear q4 f4); (try (have q0 := D.out.c 0 rfl; have f0 := D.out.f 0 rfl)); (try (have q1 := D.out.c 1 rfl; have f1 := D.out.f 1 rfl)); (try (have q2 := D.out.c 2 rfl; have f2 := D.out.f 2 rfl)); (try (have q3 := D.out.c 3 rfl; have f3 := D.out.f 3 rfl)); (try (have q4 := D.out.c 4 rfl; have f4 := D.out.f 4 rfl)))
      | (go_at_call 100; with_reducible refine Calls.mono (CS.viaSR D.out (spec_l2Bent.calls _ _ _ _ _ _ _ _ _ _ _ _ _ _ D.out.is D.out.lo (Aside0.out (by with_reducible assumption)))) ?_; rintro e w1 ⟨_, _, rfl, hD⟩; clear D; have D := Aside0.mk hD; clear hD; (try clear q0 f0); (try clear q1 f1); (try clear q2 f2); (try clear q3 f3); (try clear q4 f4); (try (have q0 := D.out.c 0 rfl; have f0 := D.out.f 0 rfl)); (try (have q1 := D.out.c 1 rfl; have f1 := D.out.f 1 rfl)); (try (have q2 := D.out.c 2 rfl; have f2 := D.out.f 2 rfl)); (try (have q3 := D.out.c 3 rfl; have f3 := D.out.f 3 rfl)); (try (have q4 := D.out.c 4 rfl; have f4 := D.out.f 4 rfl)))
      | (go_at_call 73; with_reducible refine Calls.mono (CS.viaS D.out (spec_l1Chance.calls _ _ _ _ _ _ _ _ D.out.is D.out.lo (Aside0.out (by with_reducible assumption)))) ?_; rintro e w1 ⟨rfl, hD⟩; clear D; have D := Aside0.mk hD; clear hD; (try clear q0 f0); (try clear q1 f1); (try clear q2 f2); (try clear q3 f3); (try clear q4 f4); (try (have q0 := D.out.c 0 rfl; have f0 := D.out.f 0 rfl)); (try (have q1 := D.out.c 1 rfl; have f1 := D.out.f 1 rfl)); (try (have q2 := D.out.c 2 rfl; have f2 := D.out.f 2 rfl)); (try (have q3 := D.out.c 3 rfl; have f3 := D.out.f 3 rfl)); (try (have q4 := D.out.c 4 rfl; have f4 := D.out.f 4 rfl)))
      | (go_at_call 101; with_reducible refine Calls.mono (CS.viaR D.out (spec_SampleOf.calls _ _ _ _ _ _ _ _ _ _ _ _ _ _ _ _ _ _ _ (Aside0.out (by with_reducible assumption)))) ?_; rintro e w1 ⟨_, _, rfl, hD⟩; clear D; have D := Aside0.mk hD; clear hD; (try clear q0 f0); (try clear q1 f1); (try clear q2 f2); (try clear q3 f3); (try clear q4 f4); (try (have q0 := D.out.c 0 rfl; have f0 := D.out.f 0 rfl)); (try (have q1 := D.out.c 1 rfl; have f1 := D.out.f 1 rfl)); (try (have q2 := D.out.c 2 rfl; have f2 := D.out.f 2 rfl)); (try (have q3 := D.out.c 3 rfl; have f3 := D.out.f 3 rfl)); (try (have q4 := D.out.c 4 rfl; have f4 := D.out.f 4 rfl)))
      | (refine CS.rg (n := 4) 2 1 #[false, false, false, false] D.out rfl rfl rfl rfl ?_; intro w1 hD; clear D; have D := Aside0.mk hD; clear hD; (try clear q0 f0); (try clear q1 f1); (try clear q2 f2); (try clear q3 f3); (try clear q4 f4); (try (have q0 := D.out.c 0 rfl; have f0 := D.out.f 0 rfl)); (try (have q1 := D.out.c 1 rfl; have f1 := D.out.f 1 rfl)); (try (have q2 := D.out.c 2 rfl; have f2 := D.out.f 2 rfl)); (try (have q3 := D.out.c 3 rfl; have f3 := D.out.f 3 rfl)); (try (have q4 := D.out.c 4 rfl; have f4 := D.out.f 4 rfl)); refine tk 0 (some 23) #[true, false, false, false] ⟨D.out.c 2 rfl, D.out.c 1 rfl⟩ ?_; refine tk 1 (some 24) #[true, true, false, false] ⟨D.out.c 2 rfl, D.out.c 1 rfl⟩ ?_; refine one_ (i := 2) (N := none) #[true, true, true, false] rfl rfl (by kernel_rfl) (by decide) (fun K hK => ?_); refine skC ?_; intro w1 hD; clear D; simp only [List.set_cons_zero, List.set_cons_succ, List.setIfInBounds_toArray] at hD; have D := Aside0.mk hD; clear hD; (try clear q0 f0); (try clear q1 f1); (try clear q2 f2); (try clear q3 f3); (try clear q4 f4); (try (have q0 := D.out.c 0 rfl; have f0 := D.out.f 0 rfl)); (try (have q1 := D.out.c 1 rfl; have f1 := D.out.f 1 rfl)); (try (have q2 := D.out.c 2 rfl; have f2 := D.out.f 2 rfl)); (try (have q3 := D.out.c 3 rfl; have f3 := D.out.f 3 rfl)); (try (have q4 := D.out.c 4 rfl; have f4 := D.out.f 4 rfl)); refine hK.out _ _ ⟨D.out.c 2 rfl, D.out.c 1 rfl⟩ (fun _ => ?_); clear hK K; refine one_ (i := 3) (N := none) #[true, true, true, true] rfl rfl (by kernel_rfl) (by decide) (fun K hK => ?_); refine skC ?_; intro w1 hD; clear D; simp only [List.set_cons_zero, List.set_cons_succ, List.setIfInBounds_toArray] at hD; have D := Aside0.mk hD; clear hD; (try clear q0 f0); (try clear q1 f1); (try clear q2 f2); (try clear q3 f3); (try clear q4 f4); (try (have q0 := D.out.c 0 rfl; have f0 := D.out.f 0 rfl)); (try (have q1 := D.out.c 1 rfl; have f1 := D.out.f 1 rfl)); (try (have q2 := D.out.c 2 rfl; have f2 := D.out.f 2 rfl)); (try (have q3 := D.out.c 3 rfl; have f3 := D.out.f 3 rfl)); (try (have q4 := D.out.c 4 rfl; have f4 := D.out.f 4 rfl)); refine hK.out _ _ ⟨D.out.c 2 rfl, D.out.c 1 rfl⟩ (fun _ => ?_); clear hK K; refine done_ (by kernel_rfl) ?_)
      | (refine CS.rg (n := 4) 1 0 #[false, false, false, false] D.out rfl rfl rfl rfl ?_; intro w1 hD; clear D; have D := Aside0.mk hD; clear hD; (try clear q0 f0); (try clear q1 f1); (try clear q2 f2); (try clear q3 f3); (try clear q4 f4); (try (have q0 := D.out.c 0 rfl; have f0 := D.out.f 0 rfl)); (try (have q1 := D.out.c 1 rfl; have f1 := D.out.f 1 rfl)); (try (have q2 := D.out.c 2 rfl; have f2 := D.out.f 2 rfl)); (try (have q3 := D.out.c 3 rfl; have f3 := D.out.f 3 rfl)); (try (have q4 := D.out.c 4 rfl; have f4 := D.out.f 4 rfl)); refine tk 0 (some 23) #[true, false, false, false] ⟨D.out.c 1 rfl, D.out.c 0 rfl⟩ ?_; refine tk 1 (some 24) #[true, true, false, false] ⟨D.out.c 1 rfl, D.out.c 0 rfl⟩ ?_; refine one_ (i := 2) (N := none) #[true, true, true, false] rfl rfl (by kernel_rfl) (by decide) (fun K hK => ?_); refine skC ?_; intro w1 hD; clear D; simp only [List.set_cons_zero, List.set_cons_succ, List.setIfInBounds_toArray] at hD; have D := Aside0.mk hD; clear hD; (try clear q0 f0); (try clear q1 f1); (try clear q2 f2); (try clear q3 f3); (try clear q4 f4); (try (have q0 := D.out.c 0 rfl; have f0 := D.out.f 0 rfl)); (try (have q1 := D.out.c 1 rfl; have f1 := D.out.f 1 rfl)); (try (have q2 := D.out.c 2 rfl; have f2 := D.out.f 2 rfl)); (try (have q3 := D.out.c 3 rfl; have f3 := D.out.f 3 rfl)); (try (have q4 := D.out.c 4 rfl; have f4 := D.out.f 4 rfl)); refine hK.out _ _ ⟨D.out.c 1 rfl, D.out.c 0 rfl⟩ (fun _ => ?_); clear hK K; refine one_ (i := 3) (N := none) #[true, true, true, true] rfl rfl (by kernel_rfl) (by decide) (fun K hK => ?_); refine skC ?_; intro w1 hD; clear D; simp only [List.set_cons_zero, List.set_cons_succ, List.setIfInBounds_toArray] at hD; have D := Aside0.mk hD; clear hD; (try clear q0 f0); (try clear q1 f1); (try clear q2 f2); (try clear q3 f3); (try clear q4 f4); (try (have q0 := D.out.c 0 rfl; have f0 := D.out.f 0 rfl)); (try (have q1 := D.out.c 1 rfl; have f1 := D.out.f 1 rfl)); (try (have q2 := D.out.c 2 rfl; have f2 := D.out.f 2 rfl)); (try (have q3 := D.out.c 3 rfl; have f3 := D.out.f 3 rfl)); (try (have q4 := D.out.c 4 rfl; have f4 := D.out.f 4 rfl)); refine hK.out _ _ ⟨D.out.c 1 rfl, D.out.c 0 rfl⟩ (fun _ => ?_); clear hK K; refine done_ (by kernel_rfl) ?_))
    first | (refine bodyPost_ret (results_cc rfl _ _ _ _ 65 71 _ _ (0, 0) (0, 0) _ _ rfl (D.out.at_ 3 rfl) Try.underlying65 rfl (by kernel_rfl) rfl (D.out.at_ 2 rfl) Try.underlying71 rfl (by kernel_rfl)) rfl ?_) | (refine bodyPost_ret (results_cc rfl _ _ _ _ 65 71 _ _ (0, 0) (0, 0) _ _ rfl (D.out.at_ 4 rfl) Try.underlying65 rfl (by kernel_rfl) rfl (D.out.at_ 3 rfl) Try.underlying71 rfl (by kernel_rfl)) rfl ?_)
    first | exact ⟨_, rfl, D.out.row 0 rfl, D.out.lo⟩ | exact ⟨_, rfl, D.out.row 1 rfl, D.out.lo⟩ | exact ⟨_, rfl, Kd.R_nil _ _ _ _ _, D.out.lo⟩

end Go.Proofs.Ytcelgjhhmkgnhaa.PFnMeets
