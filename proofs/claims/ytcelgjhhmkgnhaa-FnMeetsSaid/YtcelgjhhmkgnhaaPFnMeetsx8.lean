-- Written by wip/tools/myprint.py of this claim's session, over the kit's print, round texts of its own: own text.
import Derived.Test.YtcelgjhhmkgnhaaPFnMeetsx0
import Derived.Test.YtcelgjhhmkgnhaaPFnMeetsx2
import Derived.Test.YtcelgjhhmkgnhaaPFnMeetsx6
import Derived.Test.YtcelgjhhmkgnhaaPFnMeetsx7
namespace Go.Proofs.Ytcelgjhhmkgnhaa.PFnMeets
open Go.RowKit Go.Proofs.YtcelgjhhmkgnhaaW.PrintWords Go.Proofs.YtcelgjhhmkgnhaaW.PrintLast Go.Proofs.YtcelgjhhmkgnhaaW.PrintMore
attribute [local go_sem] max2_int min2_int max_two min_two max_three min_three max_four min_four   -- for this text's walks alone
set_option linter.unusedVariables false
set_option linter.unusedSimpArgs false

/-! ### spec_l2Packet: function 130 -/
def spec_l2Packet.f (k : Nat) (s0_0 : List Int) (s0_1 : Int) : Option (Int × Int × Int × Int × Int × Int × List Int × Int) := (spec_l2DrawAddress.f s0_0 s0_1).bind fun bt258 => ((spec_l2DrawAddress.f s0_0 bt258.2).bind fun bt260 => ((spec_l1Pick.f s0_0 bt260.2 (([6, 17, 6, 17, 1, 50] : List Int))).bind fun bt265 => ((spec_l1Pick.f s0_0 bt265.2 (([64, 1, 2, 255] : List Int))).bind fun bt270 => ((spec_l1Next.f s0_0 bt270.2 9).bind fun bt272 => ((spec_l1Some.f k s0_0 bt272.2 bt272.1).bind fun bt274 => ((spec_HasPorts.f bt265.1).bind fun t279 => (if t279 = true then ((spec_l1Next.f s0_0 bt274.2 65536).bind fun bt280 => ((spec_l1Pick.f s0_0 bt280.2 (([80, 443, bt280.1, 0] : List Int))).bind fun bt285 => ((spec_l1Next.f s0_0 bt285.2 65536).bind fun bt287 => ((spec_l1Pick.f s0_0 bt287.2 (([80, 443, bt287.1, 22] : List Int))).bind fun bt292 => (some (bt258.1, bt260.1, bt265.1, bt270.1, bt285.1, bt292.1, bt274.1, bt292.2)))))) else (some (bt258.1, bt260.1, bt265.1, bt270.1, 0, 0, bt274.1, bt274.2)))))))))
theorem spec_l2Packet.mono : ∀ a0 a1 k, LeO (spec_l2Packet.f k a0 a1) (spec_l2Packet.f (k + 1) a0 a1) := by
 intro a0 a1 k
 unfold spec_l2Packet.f
 repeat' first
   | (with_reducible exact spec_l1Some.mono _ _ _ _)
   | (with_reducible exact LeO.refl _)
   | (with_reducible exact LeO.none _)
   | (with_reducible refine LeO.ite ?_ ?_)
   | (with_reducible refine LeO.bind ?_ (fun _ => ?_))
   | exact spec_l1Some.mono _ _ _ _
   | exact LeO.none _
   | refine LeO.ite ?_ ?_
   | refine LeO.bind ?_ (fun _ => ?_)
set_option maxHeartbeats 4000000 in
set_option maxRecDepth 100000 in
theorem spec_l2Packet.calls (k : Nat) (g : Nat) (s0_0 : List Int) (s0_1 : Int) (r1 : Int) (r2 : Int) (r3 : Int) (r4 : Int) (r5 : Int) (r6 : Int) (r7 : List Int) (r8 : Int) (w0 w : World) (hI : IsS151 w0 w g s0_0 s0_1) (hB : Below w0.heap.size w0 w) (h : spec_l2Packet.f k s0_0 s0_1 = some (r1, r2, r3, r4, r5, r6, r7, r8)) :
  Calls Try.prog 130 #[.pointer (some ⟨g, 0, none⟩)] w fun e w' => ∃ v6_ : Value, e = .returned (.agg #[.int .i64 r1, .int .i64 r2, .int .i64 r3, .int .i64 r4, .int .i64 r5, .int .i64 r6, v6_]) ∧ Kd.R (Kd.int .u8) 5 w' w.heap.size (fun _ => True) v6_ r7 ∧ IsS151 w0 w' g s0_0 r8 ∧ Below w0.heap.size w0 w' ∧ KeepBut w w' g none := by
  have hu71 := Try.underlying71
  have D := Aside0.mk (CS.startS hI hB)
  clear hI hB
  have H := h
  clear h
  unfold spec_l2Packet.f at H
  (repeat' with_reducible first
    | (have H1 := bindS (x := spec_l2DrawAddress.f _ _) H; clear H; obtain ⟨⟨_, _⟩, _, H⟩ := H1; try dsimp only at H)
    | (have H1 := bindS (x := spec_l1Pick.f _ _ _) H; clear H; obtain ⟨⟨_, _⟩, _, H⟩ := H1; try dsimp only at H)
    | (have H1 := bindS (x := spec_l1Next.f _ _ _) H; clear H; obtain ⟨⟨_, _⟩, _, H⟩ := H1; try dsimp only at H)
    | (have H1 := bindS (x := spec_l1Some.f _ _ _ _) H; clear H; obtain ⟨⟨_, _⟩, _, H⟩ := H1; try dsimp only at H)
    | (have H1 := bindS (x := spec_HasPorts.f _) H; clear H; obtain ⟨_, _, H⟩ := H1; try dsimp only at H)
    | (have H1 := ifE H; clear H; rcases H1 with ⟨_, _, H⟩ | ⟨_, _, H⟩)
    | (have H1 := ifB H; clear H; rcases H1 with ⟨rfl, H⟩ | ⟨rfl, H⟩)
    | (have H1 := ifB H; clear H; rcases H1 with ⟨_, H⟩ | ⟨_, H⟩)
    | (have H1 := ifD H; clear H; rcases H1 with ⟨_, H⟩ | ⟨_, H⟩)
    | (exact noneE H))
  all_goals
    simp only [Option.some.injEq, Prod.mk.injEq] at H
    obtain ⟨rfl, rfl, rfl, rfl, rfl, rfl, rfl, rfl⟩ := H
    go_enter Try.func130, Try.ntmps130
    go_wp2_with (first
      | ((with_reducible refine gate_al rfl ?_); refine ev_box ?_; intro _ _ hD; clear D; have D := Aside0.mk hD; clear hD; (try clear q0 f0); (try clear q1 f1); (try (have q0 := D.out.c 0 rfl; have f0 := D.out.f 0 rfl)); (try (have q1 := D.out.c 1 rfl; have f1 := D.out.f 1 rfl)))
      | ((with_reducible refine gate_st rfl ?_); refine ev_store ?_; intro w1 hD; clear D; simp only [List.set_cons_zero, List.set_cons_succ, List.setIfInBounds_toArray] at hD; have D := Aside0.mk hD; clear hD; (try clear q0 f0); (try clear q1 f1); (try (have q0 := D.out.c 0 rfl; have f0 := D.out.f 0 rfl)); (try (have q1 := D.out.c 1 rfl; have f1 := D.out.f 1 rfl)))
      | (go_at_call 147; with_reducible refine Calls.mono (CS.viaS D.out (spec_l2DrawAddress.calls _ _ _ _ _ _ _ D.out.is D.out.lo (Aside0.out (by with_reducible assumption)))) ?_; rintro e w1 ⟨rfl, hD⟩; clear D; have D := Aside0.mk hD; clear hD; (try clear q0 f0); (try clear q1 f1); (try (have q0 := D.out.c 0 rfl; have f0 := D.out.f 0 rfl)); (try (have q1 := D.out.c 1 rfl; have f1 := D.out.f 1 rfl)))
      | ((with_reducible refine gate_lit rfl ?_); refine ev_lit ?_; intro _ _ hD; clear D; have D := Aside0.mk hD; clear hD; (try clear q0 f0); (try clear q1 f1); (try (have q0 := D.out.c 0 rfl; have f0 := D.out.f 0 rfl)); (try (have q1 := D.out.c 1 rfl; have f1 := D.out.f 1 rfl)))
      | (go_at_call 76; with_reducible refine Calls.mono (CS.pick D.out (by with_reducible assumption) rfl rfl (by decide)) ?_; rintro e w1 ⟨rfl, hD⟩; clear D; have D := Aside0.mk hD; clear hD; (try clear q0 f0); (try clear q1 f1); (try (have q0 := D.out.c 0 rfl; have f0 := D.out.f 0 rfl)); (try (have q1 := D.out.c 1 rfl; have f1 := D.out.f 1 rfl)))
      | (go_at_call 74; with_reducible refine Calls.mono (CS.viaS D.out (spec_l1Next.calls _ _ _ _ _ _ _ _ D.out.is D.out.lo (Aside0.out (by with_reducible assumption)))) ?_; rintro e w1 ⟨rfl, hD⟩; clear D; have D := Aside0.mk hD; clear hD; (try clear q0 f0); (try clear q1 f1); (try (have q0 := D.out.c 0 rfl; have f0 := D.out.f 0 rfl)); (try (have q1 := D.out.c 1 rfl; have f1 := D.out.f 1 rfl)))
      | (go_at_call 77; with_reducible refine Calls.mono (CS.viaSR D.out (spec_l1Some.calls _ _ _ _ _ _ _ _ _ D.out.is D.out.lo (Aside0.out (by with_reducible assumption)))) ?_; rintro e w1 ⟨_, _, rfl, hD⟩; clear D; have D := Aside0.mk hD; clear hD; (try clear q0 f0); (try clear q1 f1); (try (have q0 := D.out.c 0 rfl; have f0 := D.out.f 0 rfl)); (try (have q1 := D.out.c 1 rfl; have f1 := D.out.f 1 rfl)))
      | (go_at_call 97; with_reducible refine Calls.mono (CS.viaQ D.out (spec_HasPorts.calls _ _ _ (Aside0.out (by with_reducible assumption)))) ?_; rintro e w1 ⟨rfl, hD⟩; clear D; have D := Aside0.mk hD; clear hD; (try clear q0 f0); (try clear q1 f1); (try (have q0 := D.out.c 0 rfl; have f0 := D.out.f 0 rfl)); (try (have q1 := D.out.c 1 rfl; have f1 := D.out.f 1 rfl))))
    refine bodyPost_ret (results_cell_row rfl _ _ _ 71 _ (0, 0) _ rfl (D.out.at_ 1 rfl) Try.underlying71 rfl (by kernel_rfl)) rfl ?_
    first | exact ⟨_, rfl, D.out.row 0 rfl, D.out.is, D.out.lo, D.out.ke⟩ | exact ⟨_, rfl, D.out.row 1 rfl, D.out.is, D.out.lo, D.out.ke⟩ | exact ⟨_, rfl, Kd.R_nil _ _ _ _ _, D.out.is, D.out.lo, D.out.ke⟩

end Go.Proofs.Ytcelgjhhmkgnhaa.PFnMeets
