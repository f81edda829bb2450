-- Written by wip/tools/myprint.py of this claim's session, over the kit's print, round texts of its own: own text.
import Derived.Test.YtcelgjhhmkgnhaaPFnTrimsx0
import Derived.Test.YtcelgjhhmkgnhaaPFnTrimsx2
import Derived.Test.YtcelgjhhmkgnhaaPFnTrimsx11
import Derived.Test.YtcelgjhhmkgnhaaPFnTrimsx12
import Derived.Test.YtcelgjhhmkgnhaaPFnTrimsx13
namespace Go.Proofs.Ytcelgjhhmkgnhaa.PFnTrims
open Go.RowKit Go.Proofs.YtcelgjhhmkgnhaaW.PrintWords Go.Proofs.YtcelgjhhmkgnhaaW.PrintLast Go.Proofs.YtcelgjhhmkgnhaaW.PrintMore
attribute [local go_sem] max2_int min2_int max_two min_two max_three min_three max_four min_four   -- for this text's walks alone
set_option linter.unusedVariables false
set_option linter.unusedSimpArgs false

/-! ### spec_l2Bent: function 100 -/
def spec_l2Bent.f (k : Nat) (s0_0 : List Int) (s0_1 : Int) : Option (Int × Int × Int × Int × Int × Int × List Int × Int) := (spec_l2Packet.f k s0_0 s0_1).bind fun bt319 => ((spec_l1Next.f s0_0 bt319.2.2.2.2.2.2.2 20).bind fun bt330 => (if bt330.1 = 0 then ((spec_l1Pick.f s0_0 bt330.2 (([(-1), 4294967296] : List Int))).bind fun bt335 => (some (bt335.1, bt319.2.1, bt319.2.2.1, bt319.2.2.2.1, bt319.2.2.2.2.1, bt319.2.2.2.2.2.1, bt319.2.2.2.2.2.2.1, bt335.2))) else (if bt330.1 = 1 then ((spec_l1Pick.f s0_0 bt330.2 (([(-1), 4294967296] : List Int))).bind fun bt340 => (some (bt319.1, bt340.1, bt319.2.2.1, bt319.2.2.2.1, bt319.2.2.2.2.1, bt319.2.2.2.2.2.1, bt319.2.2.2.2.2.2.1, bt340.2))) else (if bt330.1 = 2 then ((spec_l1Pick.f s0_0 bt330.2 (([0, 256, 255, (-1)] : List Int))).bind fun bt345 => (some (bt319.1, bt319.2.1, bt345.1, bt319.2.2.2.1, bt319.2.2.2.2.1, bt319.2.2.2.2.2.1, bt319.2.2.2.2.2.2.1, bt345.2))) else (if bt330.1 = 3 then ((spec_l1Pick.f s0_0 bt330.2 (([0, 256, (-1)] : List Int))).bind fun bt350 => (some (bt319.1, bt319.2.1, bt319.2.2.1, bt350.1, bt319.2.2.2.2.1, bt319.2.2.2.2.2.1, bt319.2.2.2.2.2.2.1, bt350.2))) else (if bt330.1 = 4 then ((spec_l1Pick.f s0_0 bt330.2 (([(-1), 65536, 5] : List Int))).bind fun bt355 => (some (bt319.1, bt319.2.1, bt319.2.2.1, bt319.2.2.2.1, bt355.1, bt319.2.2.2.2.2.1, bt319.2.2.2.2.2.2.1, bt355.2))) else (if bt330.1 = 5 then ((spec_l1Pick.f s0_0 bt330.2 (([(-1), 65536, 5] : List Int))).bind fun bt360 => (some (bt319.1, bt319.2.1, bt319.2.2.1, bt319.2.2.2.1, bt319.2.2.2.2.1, bt360.1, bt319.2.2.2.2.2.2.1, bt360.2))) else (if bt330.1 = 6 then ((spec_l1Next.f s0_0 bt330.2 2).bind fun bt362 => (if 0 ≤ (wrap64 (200 + bt362.1)) then (if (wrap64 (200 + bt362.1) : Int).toNat ≤ 281474976710656 then (some (bt319.1, bt319.2.1, bt319.2.2.1, bt319.2.2.2.1, bt319.2.2.2.2.1, bt319.2.2.2.2.2.1, (List.replicate (wrap64 (200 + bt362.1) : Int).toNat 0), bt362.2)) else (none)) else (none))) else (some (bt319.1, bt319.2.1, bt319.2.2.1, bt319.2.2.2.1, bt319.2.2.2.2.1, bt319.2.2.2.2.2.1, bt319.2.2.2.2.2.2.1, bt330.2))))))))))
theorem spec_l2Bent.mono : ∀ a0 a1 k, LeO (spec_l2Bent.f k a0 a1) (spec_l2Bent.f (k + 1) a0 a1) := by
 intro a0 a1 k
 unfold spec_l2Bent.f
 repeat' first
   | (with_reducible exact spec_l2Packet.mono _ _ _)
   | (with_reducible exact LeO.refl _)
   | (with_reducible exact LeO.none _)
   | (with_reducible refine LeO.ite ?_ ?_)
   | (with_reducible refine LeO.bind ?_ (fun _ => ?_))
   | exact spec_l2Packet.mono _ _ _
   | exact LeO.none _
   | refine LeO.ite ?_ ?_
   | refine LeO.bind ?_ (fun _ => ?_)
set_option maxHeartbeats 4000000 in
set_option maxRecDepth 100000 in
theorem spec_l2Bent.calls (k : Nat) (g : Nat) (s0_0 : List Int) (s0_1 : Int) (r1 : Int) (r2 : Int) (r3 : Int) (r4 : Int) (r5 : Int) (r6 : Int) (r7 : List Int) (r8 : Int) (w0 w : World) (hI : IsS151 w0 w g s0_0 s0_1) (hB : Below w0.heap.size w0 w) (h : spec_l2Bent.f k s0_0 s0_1 = some (r1, r2, r3, r4, r5, r6, r7, r8)) :
  Calls Try.prog 100 #[.pointer (some ⟨g, 0, none⟩)] w fun e w' => ∃ v6_ : Value, e = .returned (.agg #[.int .i64 r1, .int .i64 r2, .int .i64 r3, .int .i64 r4, .int .i64 r5, .int .i64 r6, v6_]) ∧ Kd.R (Kd.int .u8) 5 w' w.heap.size (fun _ => True) v6_ r7 ∧ IsS151 w0 w' g s0_0 r8 ∧ Below w0.heap.size w0 w' ∧ KeepBut w w' g none := by
  have hu71 := Try.underlying71
  have D := Aside0.mk (CS.startS hI hB)
  clear hI hB
  have H := h
  clear h
  unfold spec_l2Bent.f at H
  (repeat' with_reducible first
    | (have H1 := bindS (x := spec_l2Packet.f _ _ _) H; clear H; obtain ⟨⟨_, _, _, _, _, _, _, _⟩, _, H⟩ := H1; try dsimp only at H)
    | (have H1 := bindS (x := spec_l1Next.f _ _ _) H; clear H; obtain ⟨⟨_, _⟩, _, H⟩ := H1; try dsimp only at H)
    | (have H1 := bindS (x := spec_l1Pick.f _ _ _) H; clear H; obtain ⟨⟨_, _⟩, _, H⟩ := H1; try dsimp only at H)
    | (have H1 := ifE H; clear H; rcases H1 with ⟨_, _, H⟩ | ⟨_, _, H⟩)
    | (have H1 := ifB H; clear H; rcases H1 with ⟨rfl, H⟩ | ⟨rfl, H⟩)
    | (have H1 := ifB H; clear H; rcases H1 with ⟨_, H⟩ | ⟨_, H⟩)
    | (have H1 := ifD H; clear H; rcases H1 with ⟨_, H⟩ | ⟨_, H⟩)
    | (exact noneE H))
  all_goals
    simp only [Option.some.injEq, Prod.mk.injEq] at H
    obtain ⟨rfl, rfl, rfl, rfl, rfl, rfl, rfl, rfl⟩ := H
    go_enter Try.func100, Try.ntmps100
    go_wp2_with (first
      | ((with_reducible refine gate_al rfl ?_); refine ev_box ?_; intro _ _ hD; clear D; have D := Aside0.mk hD; clear hD; (try clear q0 f0); (try clear q1 f1); (try (have q0 := D.out.c 0 rfl; have f0 := D.out.f 0 rfl)); (try (have q1 := D.out.c 1 rfl; have f1 := D.out.f 1 rfl)))
      | ((with_reducible refine gate_st rfl ?_); refine ev_store ?_; intro w1 hD; clear D; simp only [List.set_cons_zero, List.set_cons_succ, List.setIfInBounds_toArray] at hD; have D := Aside0.mk hD; clear hD; (try clear q0 f0); (try clear q1 f1); (try (have q0 := D.out.c 0 rfl; have f0 := D.out.f 0 rfl)); (try (have q1 := D.out.c 1 rfl; have f1 := D.out.f 1 rfl)))
      | (go_at_call 130; with_reducible refine Calls.mono (CS.viaSR D.out (spec_l2Packet.calls _ _ _ _ _ _ _ _ _ _ _ _ _ _ D.out.is D.out.lo (Aside0.out (by with_reducible assumption)))) ?_; rintro e w1 ⟨_, _, rfl, hD⟩; clear D; have D := Aside0.mk hD; clear hD; (try clear q0 f0); (try clear q1 f1); (try (have q0 := D.out.c 0 rfl; have f0 := D.out.f 0 rfl)); (try (have q1 := D.out.c 1 rfl; have f1 := D.out.f 1 rfl)))
      | (go_at_call 74; with_reducible refine Calls.mono (CS.viaS D.out (spec_l1Next.calls _ _ _ _ _ _ _ _ D.out.is D.out.lo (Aside0.out (by with_reducible assumption)))) ?_; rintro e w1 ⟨rfl, hD⟩; clear D; have D := Aside0.mk hD; clear hD; (try clear q0 f0); (try clear q1 f1); (try (have q0 := D.out.c 0 rfl; have f0 := D.out.f 0 rfl)); (try (have q1 := D.out.c 1 rfl; have f1 := D.out.f 1 rfl)))
      | ((with_reducible refine gate_lit rfl ?_); refine ev_lit ?_; intro _ _ hD; clear D; have D := Aside0.mk hD; clear hD; (try clear q0 f0); (try clear q1 f1); (try (have q0 := D.out.c 0 rfl; have f0 := D.out.f 0 rfl)); (try (have q1 := D.out.c 1 rfl; have f1 := D.out.f 1 rfl)))
      | (go_at_call 76; with_reducible refine Calls.mono (CS.pick D.out (by with_reducible assumption) rfl rfl (by decide)) ?_; rintro e w1 ⟨rfl, hD⟩; clear D; have D := Aside0.mk hD; clear hD; (try clear q0 f0); (try clear q1 f1); (try (have q0 := D.out.c 0 rfl; have f0 := D.out.f 0 rfl)); (try (have q1 := D.out.c 1 rfl; have f1 := D.out.f 1 rfl)))
      | ((with_reducible refine gate_mk rfl ?_); refine ev_make (Kd.int .u8) _ 22 5 1 (.int .u8 0) ?_ (of_decide_eq_true (by assumption)) (by have h_ := of_decide_eq_true (by assumption : decide (_ ≤ 281474976710656) = true); omega); intro _ _ w1 hD; clear D; have D := Aside0.mk hD; clear hD; (try clear q0 f0); (try clear q1 f1); (try (have q0 := D.out.c 0 rfl; have f0 := D.out.f 0 rfl)); (try (have q1 := D.out.c 1 rfl; have f1 := D.out.f 1 rfl))))
    refine bodyPost_ret (results_cell_row rfl _ _ _ 71 _ (0, 0) _ rfl (D.out.at_ 1 rfl) Try.underlying71 rfl (by kernel_rfl)) rfl ?_
    first | exact ⟨_, rfl, D.out.row 0 rfl, D.out.is, D.out.lo, D.out.ke⟩ | exact ⟨_, rfl, D.out.row 1 rfl, D.out.is, D.out.lo, D.out.ke⟩ | exact ⟨_, rfl, Kd.R_nil _ _ _ _ _, D.out.is, D.out.lo, D.out.ke⟩

/-! ### spec_l2Bad: function 131 -/
def spec_l2Bad.f (a0 : Int) : Option (Int × Int × Int × Int × Int × Int × Int × List Int) := some (a0, 0, 0, 0, 0, 0, 0, ([] : List Int))
set_option maxHeartbeats 8000000 in
set_option maxRecDepth 100000 in
theorem spec_l2Bad.calls (a0 : Int) (r1 : Int) (r2 : Int) (r3 : Int) (r4 : Int) (r5 : Int) (r6 : Int) (r7 : Int) (r8 : List Int) (w : World) (h : spec_l2Bad.f a0 = some (r1, r2, r3, r4, r5, r6, r7, r8)) :
  Calls Try.prog 131 #[.int .i64 a0] w fun e w' => ∃ v7_ : Value, e = .returned (.agg #[.int .i64 r1, .int .i64 r2, .int .i64 r3, .int .i64 r4, .int .i64 r5, .int .i64 r6, .int .i64 r7, v7_]) ∧ Kd.R (Kd.int .u8) 5 w' w.heap.size (fun _ => True) v7_ r8 ∧ Below w.heap.size w w' := by
 have hu79 := Try.underlying79; have HB := A_ (Below.refl w.heap.size w); have H : (some (a0, 0, 0, 0, 0, 0, 0, ([] : List Int))) = some (r1, r2, r3, r4, r5, r6, r7, r8) := h; clear h; simp only [Option.some.injEq, Prod.mk.injEq] at H; obtain ⟨rfl, rfl, rfl, rfl, rfl, rfl, rfl, rfl⟩ := H; go_enter Try.func131, Try.ntmps131; go_wp2_with (first | ((with_reducible refine gate_dst (N := 2) rfl ?_); refine box_event ?hg (N := 2) ?hd (cs := #[.int .i64 0, .int .i64 0, .int .i64 0, .int .i64 0, .int .i64 0, .int .i64 0, .int .i64 0, .slice none 0 0]) (t := 79) ?hr ?_; (case hd => rfl); (case hg => rfl); (case hr => go_simp <;> rfl); intro gb367 hg w2 hbox hb; have n0_ := A_ (below_step (lowU HB.out) hb); have n1_ := A_ (hbox); have n2_ := A_ ((by rw [hg]; exact (below_size (lowU HB.out)) : w.heap.size ≤ gb367)); have n3_ := A_ ((by rw [hg]; exact (below_size (lowU HB.out)) : w.heap.size ≤ gb367)); clear HB; have HB := n0_; have BK367 := n1_; have GW367 := n2_; have GE367 := n3_; clear n0_ n1_ n2_ n3_; clear hb hbox hg; obtain ⟨hcz3_0, hcz3_1, hcz3_2, hcz3_3, hcz3_4, hcz3_5, hcz3_6, hcz3_7⟩ := blk_c8 BK367.out; obtain ⟨hfz3_0, hfz3_1, hfz3_2, hfz3_3, hfz3_4, hfz3_5, hfz3_6, hfz3_7⟩ := blk_f8 BK367.out)); refine bodyPost_ret (results_cell_row rfl _ _ gb367 79 #[.int .i64 a0, .int .i64 0, .int .i64 0, .int .i64 0, .int .i64 0, .int .i64 0, .int .i64 0, .slice none 0 0] (0, 0) _ rfl (by have hB := BK367; exact bT) Try.underlying79 rfl (by kernel_rfl)) rfl ?_; exact ⟨_, by first | rfl | (simp [errW_none, errW_some] <;> rfl) | (simp [*, errW_none, errW_some] <;> rfl), by first | exact Kd.R_nil _ _ _ _ _ | exact Kd.N_nil _ _ _ _ _ | exact Kd.V_nil _ _ _ _ _ | exact Kd.Q_nil _ _ _ _ _ | exact Kd.S_nil _ _ _ _ _, bq⟩

end Go.Proofs.Ytcelgjhhmkgnhaa.PFnTrims
