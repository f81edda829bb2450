-- Written by wip/tools/myprint.py of this claim's session, over the kit's print, round texts of its own: own text.
import Derived.Test.YtcelgjhhmkgnhaaPFnTrimsx0
import Derived.Test.YtcelgjhhmkgnhaaPFnTrimsx2
import Derived.Test.YtcelgjhhmkgnhaaPFnTrimsx4
import Derived.Test.YtcelgjhhmkgnhaaPFnTrimsx10
import Derived.Test.YtcelgjhhmkgnhaaPFnTrimsx11
import Derived.Test.YtcelgjhhmkgnhaaPFnTrimsx12
import Derived.Test.YtcelgjhhmkgnhaaPFnTrimsx13
import Derived.Test.YtcelgjhhmkgnhaaPFnTrimsx17
import Derived.Test.YtcelgjhhmkgnhaaPFnTrimsx18
import Derived.Test.YtcelgjhhmkgnhaaPFnTrimsx19
namespace Go.Proofs.Ytcelgjhhmkgnhaa.PFnTrims
open Go.RowKit Go.Proofs.YtcelgjhhmkgnhaaW.PrintWords Go.Proofs.YtcelgjhhmkgnhaaW.PrintLast Go.Proofs.YtcelgjhhmkgnhaaW.PrintMore
attribute [local go_sem] max2_int min2_int max_two min_two max_three min_three max_four min_four   -- for this text's walks alone
set_option linter.unusedVariables false
set_option linter.unusedSimpArgs false

/-! ### impl_ActionFor: function 58 -/
def impl_ActionFor.f (k : Nat) (l0 : List (S87)) (a1_0 : Int) (a1_1 : Int) (a1_2 : Int) (a1_3 : Int) (a1_4 : Int) (a1_5 : Int) (l1_6 : List Int) : Option (Int × Int) := (impl_PolicyFault.f k l0).bind fun t587 => ((impl_PacketFault.f k a1_0 a1_1 a1_2 a1_3 a1_4 a1_5 l1_6).bind fun t588 => ((impl_faultOf.f k (([t587, t588] : List Int))).bind fun t592 => (if t592 = 0 then ((impl_actionFor.f l0 a1_0 a1_1 a1_2 a1_3 a1_4 a1_5 l1_6).bind fun t593 => (some (0, t593))) else (some (t592, 0)))))
theorem impl_ActionFor.mono : ∀ a0 a1 a2 a3 a4 a5 a6 a7 k, LeO (impl_ActionFor.f k a0 a1 a2 a3 a4 a5 a6 a7) (impl_ActionFor.f (k + 1) a0 a1 a2 a3 a4 a5 a6 a7) := by
 intro a0 a1 a2 a3 a4 a5 a6 a7 k
 unfold impl_ActionFor.f
 repeat' first
   | (with_reducible exact impl_PacketFault.mono _ _ _ _ _ _ _ _)
   | (with_reducible exact impl_PolicyFault.mono _ _)
   | (with_reducible exact impl_faultOf.mono _ _)
   | (with_reducible exact LeO.refl _)
   | (with_reducible exact LeO.none _)
   | (with_reducible refine LeO.ite ?_ ?_)
   | (with_reducible refine LeO.bind ?_ (fun _ => ?_))
   | exact impl_PacketFault.mono _ _ _ _ _ _ _ _
   | exact impl_PolicyFault.mono _ _
   | exact impl_faultOf.mono _ _
   | exact LeO.none _
   | refine LeO.ite ?_ ?_
   | refine LeO.bind ?_ (fun _ => ?_)
set_option maxHeartbeats 4000000 in
set_option maxRecDepth 100000 in
theorem impl_ActionFor.calls (k : Nat) (A0 : Option Addr) (c0 : Nat) (l0 : List (S87)) (a1_0 : Int) (a1_1 : Int) (a1_2 : Int) (a1_3 : Int) (a1_4 : Int) (a1_5 : Int) (A1_6 : Option Addr) (c1_6 : Nat) (l1_6 : List Int) (r1 : Int) (r2 : Int) (w : World) (hr0 : Kd.C k87 w A0 l0.length l0) (hc0 : l0.length ≤ c0) (hr1_6 : Kd.C (Kd.int .u8) w A1_6 l1_6.length l1_6) (hc1_6 : l1_6.length ≤ c1_6) (h : impl_ActionFor.f k l0 a1_0 a1_1 a1_2 a1_3 a1_4 a1_5 l1_6 = some (r1, r2)) :
  Calls Try.prog 58 #[.slice A0 l0.length c0, .agg #[.int .i64 a1_0, .int .i64 a1_1, .int .i64 a1_2, .int .i64 a1_3, .int .i64 a1_4, .int .i64 a1_5, .slice A1_6 l1_6.length c1_6]] w fun e w' => e = .returned (.agg #[.int .i64 r1, .int .i64 r2]) ∧ Below w.heap.size w w' := by
  have hm0 : l0.length ≤ 9223372036854775807 := hr0.2.1
  have HR0 := Aside0.mk hr0
  have HC0 := Aside0.mk hc0
  have HR1 := Aside0.mk hr1_6
  have HC1 := Aside0.mk hc1_6
  have D := Aside0.mk (CS.startB w)
  have H := h
  clear hr0 hc0 hr1_6 hc1_6 h
  unfold impl_ActionFor.f at H
  have hu27 := Try.underlying27
  have hu71 := Try.underlying71
  obtain ⟨e1, he1, H⟩ := Option.bind_eq_some_iff.mp H
  obtain ⟨e2, he2, H⟩ := Option.bind_eq_some_iff.mp H
  obtain ⟨e3, he3, H⟩ := Option.bind_eq_some_iff.mp H
  have HE1 := Aside0.mk he1
  have HE2 := Aside0.mk he2
  have HE3 := Aside0.mk he3
  clear he1 he2 he3
  rcases ifE H with ⟨_, _, H⟩ | ⟨_, _, H⟩
  case' inl =>
    obtain ⟨ix, hi, H⟩ := Option.bind_eq_some_iff.mp H
    have HI := Aside0.mk hi
    clear hi
  all_goals
    simp only [Option.some.injEq, Prod.mk.injEq] at H
    obtain ⟨rfl, rfl⟩ := H
    go_enter Try.func58, Try.ntmps58
    go_wp2_with (first
      | ((with_reducible refine gate_bx rfl ?_); refine ev_box ?_; intro _ _ hD; clear D; have D := Aside0.mk hD; clear hD; (try clear q0 f0); (try clear q1 f1); (try clear q2 f2); (try (have q0 := D.out.c 0 rfl; have f0 := D.out.f 0 rfl)); (try (have q1 := D.out.c 1 rfl; have f1 := D.out.f 1 rfl)); (try (have q2 := D.out.c 2 rfl; have f2 := D.out.f 2 rfl)))
      | ((with_reducible refine gate_al rfl ?_); refine ev_box ?_; intro _ _ hD; clear D; have D := Aside0.mk hD; clear hD; (try clear q0 f0); (try clear q1 f1); (try clear q2 f2); (try (have q0 := D.out.c 0 rfl; have f0 := D.out.f 0 rfl)); (try (have q1 := D.out.c 1 rfl; have f1 := D.out.f 1 rfl)); (try (have q2 := D.out.c 2 rfl; have f2 := D.out.f 2 rfl)))
      | ((with_reducible refine gate_st rfl ?_); refine ev_store ?_; intro wq hD; clear D; simp only [List.set_cons_zero, List.set_cons_succ, List.setIfInBounds_toArray] at hD; have D := Aside0.mk hD; clear hD; (try clear q0 f0); (try clear q1 f1); (try clear q2 f2); (try (have q0 := D.out.c 0 rfl; have f0 := D.out.f 0 rfl)); (try (have q1 := D.out.c 1 rfl; have f1 := D.out.f 1 rfl)); (try (have q2 := D.out.c 2 rfl; have f2 := D.out.f 2 rfl)))
      | ((with_reducible refine gate_rg 1 (by with_reducible rfl) ?_); refine CS.rg (n := 7) 1 1 #[false, false, false, false, false, false, false] D.out rfl rfl rfl rfl ?_; intro wa hD; clear D; have D := Aside0.mk hD; clear hD; (try clear q0 f0); (try clear q1 f1); (try clear q2 f2); (try (have q0 := D.out.c 0 rfl; have f0 := D.out.f 0 rfl)); (try (have q1 := D.out.c 1 rfl; have f1 := D.out.f 1 rfl)); (try (have q2 := D.out.c 2 rfl; have f2 := D.out.f 2 rfl)); refine tk 0 (some 6) #[true, false, false, false, false, false, false] ⟨D.out.c 1 rfl, D.out.c 1 rfl⟩ ?_; refine tk 2 (some 8) #[true, false, true, false, false, false, false] ⟨D.out.c 1 rfl, D.out.c 1 rfl⟩ ?_; refine one_ (i := 1) (N := some 7) #[true, true, true, false, false, false, false] rfl rfl (by kernel_rfl) (by decide) (fun K hK => ?_); refine goes_ Try.func67 (by kernel_rfl) rfl #[.slice A0 l0.length c0] rfl rfl rfl (by (try simp only [List.map_toArray, List.map_cons, List.map_nil]); first | done | (go_simp; done) | rfl | (go_simp; rfl)) ?_; refine (impl_PolicyFault.calls k _ _ l0 e1 _ (Kd.C_below HR0.out D.out.bel) HC0.out HE1.out).mono ?_; rintro e wq ⟨rfl, hb⟩; refine ⟨_, rfl, ?_⟩; have hD := D.out.below hb; clear D; have D := Aside0.mk hD; clear hD; (try clear q0 f0); (try clear q1 f1); (try clear q2 f2); (try (have q0 := D.out.c 0 rfl; have f0 := D.out.f 0 rfl)); (try (have q1 := D.out.c 1 rfl; have f1 := D.out.f 1 rfl)); (try (have q2 := D.out.c 2 rfl; have f2 := D.out.f 2 rfl)); clear hb; refine hK.out _ _ ⟨D.out.c 1 rfl, D.out.c 1 rfl⟩ (fun _ => ?_); clear hK K; refine norm_ (by simp only [putAll, Act.put, List.setIfInBounds_toArray, List.set_cons_zero, List.set_cons_succ, i64_w, i32_w]; rfl) ?_; refine one_ (i := 3) (N := some 9) #[true, true, true, true, false, false, false] rfl rfl (by kernel_rfl) (by decide) (fun K hK => ?_); refine goes_ Try.func102 (by kernel_rfl) rfl #[.agg #[.int .i64 a1_0, .int .i64 a1_1, .int .i64 a1_2, .int .i64 a1_3, .int .i64 a1_4, .int .i64 a1_5, .slice A1_6 l1_6.length c1_6]] rfl rfl rfl (by (try simp only [List.map_toArray, List.map_cons, List.map_nil]); first | done | (go_simp; done) | rfl | (go_simp; rfl)) ?_; refine (impl_PacketFault.calls k _ _ _ _ _ _ _ _ _ e2 _ (Kd.C_below HR1.out D.out.bel) HC1.out HE2.out).mono ?_; rintro e wq ⟨rfl, hb⟩; refine ⟨_, rfl, ?_⟩; have hD := D.out.below hb; clear D; have D := Aside0.mk hD; clear hD; (try clear q0 f0); (try clear q1 f1); (try clear q2 f2); (try (have q0 := D.out.c 0 rfl; have f0 := D.out.f 0 rfl)); (try (have q1 := D.out.c 1 rfl; have f1 := D.out.f 1 rfl)); (try (have q2 := D.out.c 2 rfl; have f2 := D.out.f 2 rfl)); clear hb; refine hK.out _ _ ⟨D.out.c 1 rfl, D.out.c 1 rfl⟩ (fun _ => ?_); clear hK K; refine norm_ (by simp only [putAll, Act.put, List.setIfInBounds_toArray, List.set_cons_zero, List.set_cons_succ, i64_w, i32_w]; rfl) ?_; refine one_ (i := 4) (N := some 10) #[true, true, true, true, true, false, false] rfl rfl (by kernel_rfl) (by decide) (fun K hK => ?_); refine alS ?_ D.out; intro bq wq hD; clear D; have D := Aside0.mk hD; clear hD; (try clear q0 f0); (try clear q1 f1); (try clear q2 f2); (try (have q0 := D.out.c 0 rfl; have f0 := D.out.f 0 rfl)); (try (have q1 := D.out.c 1 rfl; have f1 := D.out.f 1 rfl)); (try (have q2 := D.out.c 2 rfl; have f2 := D.out.f 2 rfl)); refine hK.out _ _ ⟨D.out.c 2 rfl, D.out.c 2 rfl⟩ (fun _ => ?_); clear hK K; refine norm_ (by simp only [putAll, Act.put, List.setIfInBounds_toArray, List.set_cons_zero, List.set_cons_succ, i64_w, i32_w]; rfl) ?_; refine one_ (i := 5) (N := some 11) #[true, true, true, true, true, true, false] rfl rfl (by kernel_rfl) (by decide) (fun K hK => ?_); refine goes_ Try.func81 (by kernel_rfl) rfl #[.slice (some ⟨bq, 0, none⟩) 2 2] rfl rfl rfl (by (try simp only [List.map_toArray, List.map_cons, List.map_nil]); first | done | (go_simp; done) | rfl | (go_simp; rfl)) ?_; refine (impl_faultOf.calls k _ _ [e1, e2] e3 _ (D.out.litC rfl (by simp)) (by simp) HE3.out).mono ?_; rintro e wq ⟨rfl, m, rfl⟩; refine ⟨_, rfl, ?_⟩; have hD := (D.out.drewN m).tail; clear D; have D := Aside0.mk hD; clear hD; (try clear q0 f0); (try clear q1 f1); (try clear q2 f2); (try (have q0 := D.out.c 0 rfl; have f0 := D.out.f 0 rfl)); (try (have q1 := D.out.c 1 rfl; have f1 := D.out.f 1 rfl)); (try (have q2 := D.out.c 2 rfl; have f2 := D.out.f 2 rfl)); refine hK.out _ _ ⟨D.out.c 1 rfl, D.out.c 1 rfl⟩ (fun _ => ?_); clear hK K; refine norm_ (by simp only [putAll, Act.put, List.setIfInBounds_toArray, List.set_cons_zero, List.set_cons_succ, i64_w, i32_w]; rfl) ?_; refine tk 6 (some 5) #[true, true, true, true, true, true, true] ⟨D.out.c 1 rfl, D.out.c 1 rfl⟩ ?_; refine done_ (by kernel_rfl) ?_)
      | (go_at_call 112; with_reducible refine Calls.mono (CS.via D.out (impl_actionFor.calls _ _ l0 _ _ _ _ _ _ _ _ _ ix _ (Kd.C_below HR0.out D.out.bel) HC0.out (Kd.C_below HR1.out D.out.bel) HC1.out HI.out)) ?_; rintro e wq ⟨rfl, hD⟩; clear D; have D := Aside0.mk hD; clear hD; (try clear q0 f0); (try clear q1 f1); (try clear q2 f2); (try (have q0 := D.out.c 0 rfl; have f0 := D.out.f 0 rfl)); (try (have q1 := D.out.c 1 rfl; have f1 := D.out.f 1 rfl)); (try (have q2 := D.out.c 2 rfl; have f2 := D.out.f 2 rfl))))
    refine bodyPost_ret (results_cell_row rfl _ _ _ 27 _ (0, 0) _ rfl (D.out.at_ 0 rfl) Try.underlying27 rfl (by kernel_rfl)) rfl ?_
    exact ⟨rfl, D.out.bel⟩

/-! ### spec_DrawSwapRules: function 63 -/
def spec_DrawSwapRules.f (k : Nat) (l0 : List Int) : Option ((List (S87)) × Int) := (spec_l1Source.f l0).bind fun bt594 => ((spec_l4Bent.f k bt594.1 bt594.2).bind fun bt597 => ((spec_l1Max.f 1 (bt597.1.length : Int)).bind fun t601 => ((spec_l1Next.f bt594.1 bt597.2 t601).bind fun bt602 => ((spec_l1Pick.f bt594.1 bt602.2 (([bt602.1, 0, 1, (-1)] : List Int))).bind fun bt607 => (some (bt597.1, bt607.1))))))
theorem spec_DrawSwapRules.mono : ∀ a0 k, LeO (spec_DrawSwapRules.f k a0) (spec_DrawSwapRules.f (k + 1) a0) := by
 intro a0 k; unfold spec_DrawSwapRules.f; (repeat' first | (with_reducible first | exact spec_l4Bent.mono _ _ _ | exact LeO.refl _ | exact LeO.none _ | refine LeO.ite ?_ ?_ | refine LeO.bind ?_ (fun _ => ?_)) | exact LeO.none _ | refine LeO.ite ?_ ?_ | refine LeO.bind ?_ (fun _ => ?_))
set_option maxHeartbeats 8000000 in
set_option maxRecDepth 100000 in
theorem spec_DrawSwapRules.calls (k : Nat) (A0 : Option Addr) (c0 : Nat) (l0 : List Int) (r1 : List (S87)) (r2 : Int) (w : World) (hr0 : Kd.C (Kd.int .u8) w A0 l0.length l0) (hc0 : l0.length ≤ c0) (h : spec_DrawSwapRules.f k l0 = some (r1, r2)) :
  Calls Try.prog 63 #[.slice A0 l0.length c0] w fun e w' => ∃ v0_ : Value, e = .returned (.tuple #[v0_, .int .i64 r2]) ∧ Kd.R k87 87 w' w.heap.size (fun _ => True) v0_ r1 ∧ Below w.heap.size w w' := by
 have HR0 := A_ hr0; have HC0 := A_ hc0; clear hr0 hc0; have HB := A_ (Below.refl w.heap.size w); have H : ((spec_l1Source.f l0).bind fun bt594 => ((spec_l4Bent.f k bt594.1 bt594.2).bind fun bt597 => ((spec_l1Max.f 1 (bt597.1.length : Int)).bind fun t601 => ((spec_l1Next.f bt594.1 bt597.2 t601).bind fun bt602 => ((spec_l1Pick.f bt594.1 bt602.2 (([bt602.1, 0, 1, (-1)] : List Int))).bind fun bt607 => (some (bt597.1, bt607.1))))))) = some (r1, r2) := h; clear h; replace H := Option.bind_eq_some_iff.mp H; obtain ⟨⟨t594, t595⟩, A20, H⟩ := H; (try dsimp only at H); have A2 := A_ A20; clear A20; replace H := Option.bind_eq_some_iff.mp H; obtain ⟨⟨t597, t600⟩, A30, H⟩ := H; (try dsimp only at H); have A3 := A_ A30; clear A30; replace H := Option.bind_eq_some_iff.mp H; obtain ⟨t601, A40, H⟩ := H; (try dsimp only at H); have A4 := A_ A40; clear A40; replace H := Option.bind_eq_some_iff.mp H; obtain ⟨⟨t602, t603⟩, A50, H⟩ := H; (try dsimp only at H); have A5 := A_ A50; clear A50; obtain ⟨y604, hy604⟩ : ∃ y_ : List Int, y_ = (([t602, 0, 1, (-1)] : List Int)) := ⟨_, rfl⟩; rewrite [← hy604] at H; have Ny604 := A_ hy604; clear hy604; replace H := Option.bind_eq_some_iff.mp H; obtain ⟨⟨t607, t608⟩, A60, H⟩ := H; (try dsimp only at H); have A6 := A_ A60; clear A60; simp only [Option.some.injEq, Prod.mk.injEq] at H; obtain ⟨rfl, rfl⟩ := H; go_enter Try.func63, Try.ntmps63; go_wp2_with (first | ((with_reducible refine gate_callee (f := 69) rfl ?_); refine gL_ (some 7) Try.func69 #[.slice A0 l0.length c0] ?_; (with_reducible refine (spec_l1Source.calls _ _ l0 t594 t595 w _ ?side1 ?side2 ?side3 A2.out).mono ?_); (case side1 => exact lowU HB.out); (case side2 => exact HR0.out); (case side3 => exact HC0.out); rintro e w7 ⟨g596, rfl, hi, hb, hb2⟩; refine ⟨_, rfl, ?_⟩; have n0_ := A_ (hb); have n1_ := A_ (hi); clear HB; have HB := n0_; have HI596 := n1_; clear n0_ n1_; (try clear hb); (try clear hb2); (try clear hk); (try clear hi)) | ((with_reducible refine gate_callee (f := 117) rfl ?_); refine gL_ (some 9) Try.func117 #[.pointer (some ⟨g596, 0, none⟩)] ?_; (with_reducible refine (spec_l4Bent.calls k g596 t594 t595 t597 t600 w _ ?side1 ?side2 A3.out).mono ?_); (case side1 => exact IsS151.u HI596.out); (case side2 => exact lowU HB.out); rintro e w8 ⟨v598, rfl, ho0, hi, hb, hk⟩; refine ⟨_, rfl, ?_⟩; have n0_ := A_ (Kd.R_lower ho0 (below_size (lowU HB.out))); have n1_ := A_ (hb); have n2_ := A_ (hi); clear HB; clear HI596; have HO599 := n0_; have HB := n1_; have HI596 := n2_; clear n0_ n1_ n2_; (try clear hb); (try clear hb2); (try clear hk); (try clear hi); (try clear ho0); obtain ⟨Ao9, co9, eo9⟩ := Kd.R_slice HO599.out; subst eo9) | ((with_reducible refine gate_callee (f := 118) rfl ?_); refine gL_ (some 15) Try.func118 #[.int .i64 1, .int .i64 (t597.length : Int)] ?_; (with_reducible refine (spec_l1Max.calls 1 (t597.length : Int) t601 _ A4.out).mono ?_); rintro e w' ⟨rfl, ⟨nd, rfl⟩⟩; refine ⟨_, rfl, ?_⟩) | ((with_reducible refine gate_callee (f := 74) rfl ?_); refine gL_ (some 16) Try.func74 #[.pointer (some ⟨g596, 0, none⟩), .int .i64 t601] ?_; (with_reducible refine (spec_l1Next.calls g596 t594 t600 t601 t602 t603 w _ ?side1 ?side2 A5.out).mono ?_); (case side1 => exact IsS151.u HI596.out); (case side2 => exact lowU HB.out); rintro e w10 ⟨rfl, hi, hb, hk⟩; refine ⟨_, rfl, ?_⟩; have n0_ := A_ (Kd.R_mono (Kd.R_keep (IsS151.apart (show IsS151 w _ g596 t594 t600 from IsS151.u HI596.out) (rU HO599.out) (by decide)) hk (fun _ h => h.2)) (fun _ h => h.1)); have n1_ := A_ (hb); have n2_ := A_ (hi); clear HO599; clear HB; clear HI596; have HO599 := n0_; have HB := n1_; have HI596 := n2_; clear n0_ n1_ n2_; (try clear hb); (try clear hb2); (try clear hk); (try clear hi)) | ((with_reducible refine gate_dst (N := 17) rfl ?_); refine Kd.R_lit (Kd.int .i64) _ 2 ?hg (N := 17) ?hd (xs := ([t602, 0, 1, (-1)] : List Int)) (inner := [.int .i64 t602, .int .i64 0, .int .i64 1, .int .i64 (-1)]) (ok := fun _ => True) (okp := fun _ => True) ?hr ?hp (fun _ hk => hk) trivial (Below.refl _ _) (Nat.le_refl _) (by simp) ?_; (case hd => rfl); (case hg => rfl); (case hr => go_simp <;> rfl); (case hp => exact (Reps.one (show Kd.M (Kd.int .i64) _ _ _ t602 [.int .i64 t602] from rfl) (Reps.one (show Kd.M (Kd.int .i64) _ _ _ 0 [.int .i64 0] from rfl) (Reps.one (show Kd.M (Kd.int .i64) _ _ _ 1 [.int .i64 1] from rfl) (Reps.one (show Kd.M (Kd.int .i64) _ _ _ (-1) [.int .i64 (-1)] from rfl) (Reps.none _ _)))))); intro v605 w11 ho12 hb hg_ hnew_; clear hg_ hnew_; (first | rw [← Ny604.out] at ho12 | (simp only [Int.reduceToNat] at ho12; rw [← Ny604.out] at ho12)); have n0_ := A_ (Kd.R_below (rU HO599.out) hb); have n1_ := A_ (Kd.R_lower ho12 (below_size (lowU HB.out))); have n2_ := A_ (IsS151.below (IsS151.u HI596.out) hb); have n3_ := A_ (below_step (lowU HB.out) hb); clear HO599; clear HI596; clear HB; have HO599 := n0_; have HO606 := n1_; have HI596 := n2_; have HB := n3_; clear n0_ n1_ n2_ n3_; clear hb ho12; obtain ⟨Ao13, co13, eo13⟩ := Kd.R_slice HO606.out; subst eo13) | ((with_reducible refine gate_callee (f := 76) rfl ?_); refine gL_ (some 18) Try.func76 #[.pointer (some ⟨g596, 0, none⟩), .slice Ao13 y604.length co13] ?_; (with_reducible refine (spec_l1Pick.calls g596 t594 t603 _ _ y604 t607 t608 w _ ?side1 ?side2 ?side3 ?side4 ?side5 A6.out).mono ?_); (case side1 => exact IsS151.u HI596.out); (case side2 => exact lowU HB.out); (case side3 => exact cu (Kd.R_reads' HO606.out).2.2); (case side4 => exact (Kd.R_reads' HO606.out).2.1); (case side5 => exact far_slice (IsS151.own_ne HI596.out HO606.out (by decide))); rintro e w14 ⟨rfl, hi, hb, hk⟩; refine ⟨_, rfl, ?_⟩; have n0_ := A_ (Kd.R_mono (Kd.R_keep (IsS151.apart (show IsS151 w _ g596 t594 t603 from IsS151.u HI596.out) (rU HO599.out) (by decide)) hk (fun _ h => h.2)) (fun _ h => h.1)); have n1_ := A_ (Kd.R_mono (Kd.R_keep (IsS151.apart (show IsS151 w _ g596 t594 t603 from IsS151.u HI596.out) (rU HO606.out) (by decide)) hk (fun _ h => h.2)) (fun _ h => h.1)); have n2_ := A_ (hb); have n3_ := A_ (hi); clear HO599; clear HO606; clear HB; clear HI596; have HO599 := n0_; have HO606 := n1_; have HB := n2_; have HI596 := n3_; clear n0_ n1_ n2_ n3_; (try clear hb); (try clear hb2); (try clear hk); (try clear hi))); go_ret2; exact ⟨_, by first | rfl | (simp [errW_none, errW_some] <;> rfl) | (simp [*, errW_none, errW_some] <;> rfl), rU HO599.out, lowU HB.out⟩

/-! ### impl_Range_within: function 127 -/
def impl_Range_within.f (a0_0 : Int) (a0_1 : Int) (a1_0 : Int) (a1_1 : Int) : Option (Bool) := if a1_0 ≤ a0_0 then (some (decide (a0_1 ≤ a1_1))) else (some false)
set_option maxHeartbeats 8000000 in
set_option maxRecDepth 100000 in
theorem impl_Range_within.calls (a0_0 : Int) (a0_1 : Int) (a1_0 : Int) (a1_1 : Int) (r : Bool) (w : World) (h : impl_Range_within.f a0_0 a0_1 a1_0 a1_1 = some r) :
  Calls Try.prog 127 #[.agg #[.int .i64 a0_0, .int .i64 a0_1], .agg #[.int .i64 a1_0, .int .i64 a1_1]] w fun e w' => e = .returned (.bool r) ∧ Below w.heap.size w w' := by
 have hu63 := Try.underlying63; have HB := A_ (Below.refl w.heap.size w); have H : (if a1_0 ≤ a0_0 then (some (decide (a0_1 ≤ a1_1))) else (some false)) = some r := h; clear h; by_cases c3 : a1_0 ≤ a0_0
 · rw [if_pos c3] at H; have c3b0 := decide_eq_true c3; clear c3; obtain rfl := Option.some.inj H; go_enter Try.func127, Try.ntmps127; go_wp2_with (first | ((with_reducible refine gate_dst (N := 2) rfl ?_); refine box_event ?hg (N := 2) ?hd (cs := #[.int .i64 a0_0, .int .i64 a0_1]) (t := 63) ?hr ?_; (case hd => rfl); (case hg => rfl); (case hr => go_simp <;> rfl); intro gb609 hg w4 hbox hb; have n0_ := A_ (below_step (lowU HB.out) hb); have n1_ := A_ (hbox); have n2_ := A_ ((by rw [hg]; exact (below_size (lowU HB.out)) : w.heap.size ≤ gb609)); have n3_ := A_ ((by rw [hg]; exact (below_size (lowU HB.out)) : w.heap.size ≤ gb609)); clear HB; have HB := n0_; have BK609 := n1_; have GW609 := n2_; have GE609 := n3_; clear n0_ n1_ n2_ n3_; clear hb hbox hg) | ((with_reducible refine gate_dst (N := 3) rfl ?_); refine box_event ?hg (N := 3) ?hd (cs := #[.int .i64 a1_0, .int .i64 a1_1]) (t := 63) ?hr ?_; (case hd => rfl); (case hg => rfl); (case hr => go_simp <;> rfl); intro gb610 hg w5 hbox hb; have n0_ := A_ (blk_below_u BK609.out hb); have n1_ := A_ (below_step bq hb); have n2_ := A_ (hbox); have n3_ := A_ ((by rw [hg]; exact (below_size bq) : w.heap.size ≤ gb610)); have n4_ := A_ ((by rw [hg]; exact (below_size bq) : w.heap.size ≤ gb610)); have n5_ := A_ ((by rw [hg]; exact Nat.ne_of_lt (blk_lt_u BK609.out) : gb609 ≠ gb610)); have n6_ := A_ ((by rw [hg]; exact Nat.ne_of_gt (blk_lt_u BK609.out) : gb610 ≠ gb609)); clear BK609 HB; have BK609 := n0_; have HB := n1_; have BK610 := n2_; have GW610 := n3_; have GE610 := n4_; have NB609_610 := n5_; have NB610_609 := n6_; clear n0_ n1_ n2_ n3_ n4_ n5_ n6_; clear hb hbox hg; have hnb6 := NB610_609.out; have hnc6 := NB609_610.out; have hcz7_0 : w5.cell? ⟨gb610, 0, none⟩ = some (.int .i64 a1_0) := (blk_cell BK610.out 0).trans rfl; have hcz7_1 : w5.cell? ⟨gb610, 1, none⟩ = some (.int .i64 a1_1) := (blk_cell BK610.out 1).trans rfl; have hfz7_0 := blk_frozen BK610.out 0; have hfz7_1 := blk_frozen BK610.out 1; have hcz8_0 : w5.cell? ⟨gb609, 0, none⟩ = some (.int .i64 a0_0) := (blk_cell BK609.out 0).trans rfl; have hcz8_1 : w5.cell? ⟨gb609, 1, none⟩ = some (.int .i64 a0_1) := (blk_cell BK609.out 1).trans rfl; have hfz8_0 := blk_frozen BK609.out 0; have hfz8_1 := blk_frozen BK609.out 1)); go_ret; exact ⟨eW, bq⟩
 · rw [if_neg c3] at H; have c3b0 := decide_eq_false c3; clear c3; obtain rfl := Option.some.inj H; go_enter Try.func127, Try.ntmps127; go_wp2_with (first | ((with_reducible refine gate_dst (N := 2) rfl ?_); refine box_event ?hg (N := 2) ?hd (cs := #[.int .i64 a0_0, .int .i64 a0_1]) (t := 63) ?hr ?_; (case hd => rfl); (case hg => rfl); (case hr => go_simp <;> rfl); intro gb609 hg w9 hbox hb; have n0_ := A_ (below_step (lowU HB.out) hb); have n1_ := A_ (hbox); have n2_ := A_ ((by rw [hg]; exact (below_size (lowU HB.out)) : w.heap.size ≤ gb609)); have n3_ := A_ ((by rw [hg]; exact (below_size (lowU HB.out)) : w.heap.size ≤ gb609)); clear HB; have HB := n0_; have BK609 := n1_; have GW609 := n2_; have GE609 := n3_; clear n0_ n1_ n2_ n3_; clear hb hbox hg) | ((with_reducible refine gate_dst (N := 3) rfl ?_); refine box_event ?hg (N := 3) ?hd (cs := #[.int .i64 a1_0, .int .i64 a1_1]) (t := 63) ?hr ?_; (case hd => rfl); (case hg => rfl); (case hr => go_simp <;> rfl); intro gb610 hg w10 hbox hb; have n0_ := A_ (blk_below_u BK609.out hb); have n1_ := A_ (below_step bq hb); have n2_ := A_ (hbox); have n3_ := A_ ((by rw [hg]; exact (below_size bq) : w.heap.size ≤ gb610)); have n4_ := A_ ((by rw [hg]; exact (below_size bq) : w.heap.size ≤ gb610)); have n5_ := A_ ((by rw [hg]; exact Nat.ne_of_lt (blk_lt_u BK609.out) : gb609 ≠ gb610)); have n6_ := A_ ((by rw [hg]; exact Nat.ne_of_gt (blk_lt_u BK609.out) : gb610 ≠ gb609)); clear BK609 HB; have BK609 := n0_; have HB := n1_; have BK610 := n2_; have GW610 := n3_; have GE610 := n4_; have NB609_610 := n5_; have NB610_609 := n6_; clear n0_ n1_ n2_ n3_ n4_ n5_ n6_; clear hb hbox hg; have hnb11 := NB610_609.out; have hnc11 := NB609_610.out; have hcz12_0 : w10.cell? ⟨gb610, 0, none⟩ = some (.int .i64 a1_0) := (blk_cell BK610.out 0).trans rfl; have hcz12_1 : w10.cell? ⟨gb610, 1, none⟩ = some (.int .i64 a1_1) := (blk_cell BK610.out 1).trans rfl; have hfz12_0 := blk_frozen BK610.out 0; have hfz12_1 := blk_frozen BK610.out 1; have hcz13_0 : w10.cell? ⟨gb609, 0, none⟩ = some (.int .i64 a0_0) := (blk_cell BK609.out 0).trans rfl; have hcz13_1 : w10.cell? ⟨gb609, 1, none⟩ = some (.int .i64 a0_1) := (blk_cell BK609.out 1).trans rfl; have hfz13_0 := blk_frozen BK609.out 0; have hfz13_1 := blk_frozen BK609.out 1)); go_ret; exact ⟨eW, bq⟩

/-! ### impl_withinSel: function 86 -/
def impl_withinSel.f (a0_0 : Int) (a0_1 : Int) (a0_2 : Int) (a0_3 : Int) (a0_4 : Int) (a0_5 : Int) (a0_6 : Int) (a0_7 : Int) (a0_8 : Int) (a1_0 : Int) (a1_1 : Int) (a1_2 : Int) (a1_3 : Int) (a1_4 : Int) (a1_5 : Int) (a1_6 : Int) (a1_7 : Int) (a1_8 : Int) : Option (Bool) := (impl_Range_within.f a0_0 a0_1 a1_0 a1_1).bind fun t613 => (if t613 = true then ((impl_Range_within.f a0_2 a0_3 a1_2 a1_3).bind fun t614 => (if t614 = true then ((impl_Range_within.f a0_4 a0_5 a1_4 a1_5).bind fun t615 => (if t615 = true then ((impl_Range_within.f a0_6 a0_7 a1_6 a1_7).bind fun t616 => (if t616 = true then (if a1_8 = 0 then (some true) else (some (a0_8 == a1_8))) else (some false))) else (some false))) else (some false))) else (some false))
set_option maxHeartbeats 4000000 in
set_option maxRecDepth 100000 in
theorem impl_withinSel.calls (a0_0 : Int) (a0_1 : Int) (a0_2 : Int) (a0_3 : Int) (a0_4 : Int) (a0_5 : Int) (a0_6 : Int) (a0_7 : Int) (a0_8 : Int) (a1_0 : Int) (a1_1 : Int) (a1_2 : Int) (a1_3 : Int) (a1_4 : Int) (a1_5 : Int) (a1_6 : Int) (a1_7 : Int) (a1_8 : Int) (r : Bool) (w : World) (h : impl_withinSel.f a0_0 a0_1 a0_2 a0_3 a0_4 a0_5 a0_6 a0_7 a0_8 a1_0 a1_1 a1_2 a1_3 a1_4 a1_5 a1_6 a1_7 a1_8 = some r) :
  Calls Try.prog 86 #[.agg #[.int .i64 a0_0, .int .i64 a0_1, .int .i64 a0_2, .int .i64 a0_3, .int .i64 a0_4, .int .i64 a0_5, .int .i64 a0_6, .int .i64 a0_7, .int .i64 a0_8], .agg #[.int .i64 a1_0, .int .i64 a1_1, .int .i64 a1_2, .int .i64 a1_3, .int .i64 a1_4, .int .i64 a1_5, .int .i64 a1_6, .int .i64 a1_7, .int .i64 a1_8]] w fun e w' => e = .returned (.bool r) ∧ Below w.heap.size w w' := by
  have hu65 := Try.underlying65
  have hu63 := Try.underlying63
  have D := Aside0.mk (CS.startB w)
  have H := h
  clear h
  unfold impl_withinSel.f at H
  (repeat' with_reducible first
    | (have H1 := bindS (x := impl_Range_within.f _ _ _ _) H; clear H; obtain ⟨_, _, H⟩ := H1; try dsimp only at H)
    | (have H1 := ifE H; clear H; rcases H1 with ⟨_, _, H⟩ | ⟨_, _, H⟩)
    | (have H1 := ifB H; clear H; rcases H1 with ⟨rfl, H⟩ | ⟨rfl, H⟩)
    | (have H1 := ifB H; clear H; rcases H1 with ⟨_, H⟩ | ⟨_, H⟩)
    | (have H1 := ifD H; clear H; rcases H1 with ⟨_, H⟩ | ⟨_, H⟩)
    | (exact noneE H))
  all_goals
    obtain rfl := Option.some.inj H
    go_enter Try.func86, Try.ntmps86
    go_wp2_with (first
      | ((with_reducible refine gate_al rfl ?_); refine ev_box ?_; intro _ _ hD; clear D; have D := Aside0.mk hD; clear hD; (try clear q0 f0); (try clear q1 f1); (try (have q0 := D.out.c 0 rfl; have f0 := D.out.f 0 rfl)); (try (have q1 := D.out.c 1 rfl; have f1 := D.out.f 1 rfl)))
      | ((with_reducible refine gate_bx rfl ?_); refine ev_box ?_; intro _ _ hD; clear D; have D := Aside0.mk hD; clear hD; (try clear q0 f0); (try clear q1 f1); (try (have q0 := D.out.c 0 rfl; have f0 := D.out.f 0 rfl)); (try (have q1 := D.out.c 1 rfl; have f1 := D.out.f 1 rfl)))
      | ((with_reducible refine gate_st rfl ?_); refine ev_store ?_; intro w1 hD; clear D; simp only [List.set_cons_zero, List.set_cons_succ, List.setIfInBounds_toArray] at hD; have D := Aside0.mk hD; clear hD; (try clear q0 f0); (try clear q1 f1); (try (have q0 := D.out.c 0 rfl; have f0 := D.out.f 0 rfl)); (try (have q1 := D.out.c 1 rfl; have f1 := D.out.f 1 rfl)))
      | (go_at_call 127; with_reducible refine Calls.mono (CS.via D.out (impl_Range_within.calls _ _ _ _ _ _ (Aside0.out (by with_reducible assumption)))) ?_; rintro e w1 ⟨rfl, hD⟩; clear D; have D := Aside0.mk hD; clear hD; (try clear q0 f0); (try clear q1 f1); (try (have q0 := D.out.c 0 rfl; have f0 := D.out.f 0 rfl)); (try (have q1 := D.out.c 1 rfl; have f1 := D.out.f 1 rfl))))
    go_ret
    exact ⟨rfl, D.out.g⟩

/-! ### (my own text) ContainsFunc{impl.Rule} -/
set_option maxHeartbeats 4000000 in
set_option maxRecDepth 100000 in
theorem ContainsFunc_87.calls (A0 : Option Addr) (c0 : Nat) (l0 : List S87) (g : Nat) (lb : Array Value) (p : S87 → Option Bool) (r : Int) (w : World)
    (eg : ∀ args w, (callFunc g args).run Try.prog w = .ok (.enter g args) w) (hr0 : Kd.C k87 w A0 l0.length l0)
    (hp : ∀ (x : S87) (b : Bool) (W : World), p x = some b → Below w.heap.size w W → Calls Try.prog g (#[.agg #[.int .i64 x.f0.f0.f0, .int .i64 x.f0.f0.f1, .int .i64 x.f0.f1.f0, .int .i64 x.f0.f1.f1, .int .i64 x.f0.f2.f0, .int .i64 x.f0.f2.f1, .int .i64 x.f0.f3.f0, .int .i64 x.f0.f3.f1, .int .i64 x.f0.f4, .int .i64 x.f1, .int .i64 x.f2]] ++ lb) W fun e w' => e = .returned (.bool b) ∧ Below w.heap.size w w')
    (h : idxO p l0 0 = some r) :
    Calls Try.prog 143 #[.slice A0 l0.length c0, .func (.func g) #[] lb] w fun e w' => e = .returned (.bool (decide (0 ≤ r))) ∧ Below w.heap.size w w' := by
  have H := IndexFunc_87.calls A0 c0 l0 g lb p r w eg hr0 hp h
  clear hp h hr0
  go_enter Try.func143, Try.ntmps143
  go_wp2_with (go_at_call 138; refine H.mono ?_; rintro e w' ⟨rfl, hb'⟩)
  go_ret
  exact ⟨rfl, hb'⟩

/-! ### impl_shadowed: function 119 (my own text) -/
def impl_shadowed.p (l0 : List S87) (a1 : Int) (x : S87) : Option Bool :=
  impl_withinSel.f (rd_T87 l0 a1).f0.f0.f0 (rd_T87 l0 a1).f0.f0.f1 (rd_T87 l0 a1).f0.f1.f0 (rd_T87 l0 a1).f0.f1.f1 (rd_T87 l0 a1).f0.f2.f0 (rd_T87 l0 a1).f0.f2.f1 (rd_T87 l0 a1).f0.f3.f0 (rd_T87 l0 a1).f0.f3.f1 (rd_T87 l0 a1).f0.f4 x.f0.f0.f0 x.f0.f0.f1 x.f0.f1.f0 x.f0.f1.f1 x.f0.f2.f0 x.f0.f2.f1 x.f0.f3.f0 x.f0.f3.f1 x.f0.f4
def impl_shadowed.f (l0 : List S87) (a1 : Int) : Option Bool :=
  if 0 ≤ a1 then (if a1 < (l0.length : Int) then (idxO (impl_shadowed.p l0 a1) (l0.take a1.toNat) 0).bind fun i => some (decide (0 ≤ i)) else none) else none
set_option maxHeartbeats 4000000 in
set_option maxRecDepth 100000 in
theorem impl_shadowed_lit.calls (x : S87) (b : Bool) (A0 : Option Addr) (c0 : Nat) (l0 : List S87) (a1 : Int) (h0 : 0 ≤ a1) (h1 : a1 < (l0.length : Int)) (pb qb : Nat) (w W : World) (hpb : pb < w.heap.size) (hqb : qb < w.heap.size)
    (e0 : w.cell? ⟨pb, 0, none⟩ = some (.slice A0 l0.length c0)) (e1 : w.cell? ⟨qb, 0, none⟩ = some (.int .i64 a1))
    (hr : Kd.C k87 w A0 l0.length l0) (hb : Below w.heap.size w W) (h : impl_shadowed.p l0 a1 x = some b) :
    Calls Try.prog 144 #[.agg #[.int .i64 x.f0.f0.f0, .int .i64 x.f0.f0.f1, .int .i64 x.f0.f1.f0, .int .i64 x.f0.f1.f1, .int .i64 x.f0.f2.f0, .int .i64 x.f0.f2.f1, .int .i64 x.f0.f3.f0, .int .i64 x.f0.f3.f1, .int .i64 x.f0.f4, .int .i64 x.f1, .int .i64 x.f2], .pointer (some ⟨pb, 0, none⟩), .pointer (some ⟨qb, 0, none⟩)] W fun e w' => e = .returned (.bool b) ∧ Below w.heap.size w w' := by
  have HR0 := A_ (Kd.C_below hr hb); have HE0 := A_ ((hb.cell (p := ⟨pb, 0, none⟩) hpb).trans e0); have HE1 := A_ ((hb.cell (p := ⟨qb, 0, none⟩) hqb).trans e1); have HP0 := A_ (Nat.lt_of_lt_of_le hpb hb.size); have HQ0 := A_ (Nat.lt_of_lt_of_le hqb hb.size); have HB := A_ hb; unfold impl_shadowed.p at h; have HH := A_ h; clear hr e0 e1 hpb hqb hb h; have p1 : (0 ≤ a1) = True := eq_true h0; have q1 : (a1 < (l0.length : Int)) = True := eq_true h1; have hu := Try.underlying87; have hu2 := Try.underlying65; have hu3 := Try.underlying52; have hu4 := Try.underlying63; go_enter Try.func144, Try.ntmps144; go_wp2_with (first | ((with_reducible refine gate_dst (N := 3) rfl ?_); refine box_event ?hg (N := 3) ?hd (cs := #[.int .i64 x.f0.f0.f0, .int .i64 x.f0.f0.f1, .int .i64 x.f0.f1.f0, .int .i64 x.f0.f1.f1, .int .i64 x.f0.f2.f0, .int .i64 x.f0.f2.f1, .int .i64 x.f0.f3.f0, .int .i64 x.f0.f3.f1, .int .i64 x.f0.f4, .int .i64 x.f1, .int .i64 x.f2]) (t := 87) ?hr ?_; (case hd => rfl); (case hg => rfl); (case hr => go_simp <;> rfl); intro gb hg w7 hbox hb2; have e0 := (hb2.cell (p := ⟨pb, 0, none⟩) HP0.out).trans HE0.out; have e1 := (hb2.cell (p := ⟨qb, 0, none⟩) HQ0.out).trans HE1.out; obtain ⟨ad, e, hx0, hx1, hx2, hx3, hx4, hx5, hx6, hx7, hx8, hx9, hx10⟩ := at_T87 (Kd.C_below HR0.out hb2) a1 h0 h1; subst e; have hz0 : w7.cell? ⟨gb, 0, none⟩ = _ := (blk_cell hbox 0).trans rfl; have hz1 : w7.cell? ⟨gb, 1, none⟩ = _ := (blk_cell hbox 1).trans rfl; have hz2 : w7.cell? ⟨gb, 2, none⟩ = _ := (blk_cell hbox 2).trans rfl; have hz3 : w7.cell? ⟨gb, 3, none⟩ = _ := (blk_cell hbox 3).trans rfl; have hz4 : w7.cell? ⟨gb, 4, none⟩ = _ := (blk_cell hbox 4).trans rfl; have hz5 : w7.cell? ⟨gb, 5, none⟩ = _ := (blk_cell hbox 5).trans rfl; have hz6 : w7.cell? ⟨gb, 6, none⟩ = _ := (blk_cell hbox 6).trans rfl; have hz7 : w7.cell? ⟨gb, 7, none⟩ = _ := (blk_cell hbox 7).trans rfl; have hz8 : w7.cell? ⟨gb, 8, none⟩ = _ := (blk_cell hbox 8).trans rfl; have hz9 : w7.cell? ⟨gb, 9, none⟩ = _ := (blk_cell hbox 9).trans rfl; have hz10 : w7.cell? ⟨gb, 10, none⟩ = _ := (blk_cell hbox 10).trans rfl; have HB7 := A_ (below_step HB.out hb2); clear HB HR0 HE0 HE1 hb2 hbox hg)); have HB8 := A_ (below_drew1 HB7.out)
  -- region of impl.shadowed$1
  refine start_ (n := 9) (S := fun w' => w'.cell? ⟨pb, 0, none⟩ = some (.slice (some ad) l0.length c0) ∧ w'.cell? ⟨qb, 0, none⟩ = some (.int .i64 a1) ∧ w'.cell? (ad.add (a1.toNat * 11)) = some (.int .i64 (rd_T87 l0 a1).f0.f0.f0) ∧ w'.cell? ⟨(ad.add (a1.toNat * 11)).block, (ad.add (a1.toNat * 11)).off + 1, none⟩ = some (.int .i64 (rd_T87 l0 a1).f0.f0.f1) ∧ w'.cell? ⟨(ad.add (a1.toNat * 11)).block, (ad.add (a1.toNat * 11)).off + 2, none⟩ = some (.int .i64 (rd_T87 l0 a1).f0.f1.f0) ∧ w'.cell? ⟨(ad.add (a1.toNat * 11)).block, (ad.add (a1.toNat * 11)).off + 3, none⟩ = some (.int .i64 (rd_T87 l0 a1).f0.f1.f1) ∧ w'.cell? ⟨(ad.add (a1.toNat * 11)).block, (ad.add (a1.toNat * 11)).off + 4, none⟩ = some (.int .i64 (rd_T87 l0 a1).f0.f2.f0) ∧ w'.cell? ⟨(ad.add (a1.toNat * 11)).block, (ad.add (a1.toNat * 11)).off + 5, none⟩ = some (.int .i64 (rd_T87 l0 a1).f0.f2.f1) ∧ w'.cell? ⟨(ad.add (a1.toNat * 11)).block, (ad.add (a1.toNat * 11)).off + 6, none⟩ = some (.int .i64 (rd_T87 l0 a1).f0.f3.f0) ∧ w'.cell? ⟨(ad.add (a1.toNat * 11)).block, (ad.add (a1.toNat * 11)).off + 7, none⟩ = some (.int .i64 (rd_T87 l0 a1).f0.f3.f1) ∧ w'.cell? ⟨(ad.add (a1.toNat * 11)).block, (ad.add (a1.toNat * 11)).off + 8, none⟩ = some (.int .i64 (rd_T87 l0 a1).f0.f4) ∧ w'.cell? ⟨gb, 0, none⟩ = some (.int .i64 x.f0.f0.f0) ∧ w'.cell? ⟨gb, 1, none⟩ = some (.int .i64 x.f0.f0.f1) ∧ w'.cell? ⟨gb, 2, none⟩ = some (.int .i64 x.f0.f1.f0) ∧ w'.cell? ⟨gb, 3, none⟩ = some (.int .i64 x.f0.f1.f1) ∧ w'.cell? ⟨gb, 4, none⟩ = some (.int .i64 x.f0.f2.f0) ∧ w'.cell? ⟨gb, 5, none⟩ = some (.int .i64 x.f0.f2.f1) ∧ w'.cell? ⟨gb, 6, none⟩ = some (.int .i64 x.f0.f3.f0) ∧ w'.cell? ⟨gb, 7, none⟩ = some (.int .i64 x.f0.f3.f1) ∧ w'.cell? ⟨gb, 8, none⟩ = some (.int .i64 x.f0.f4)) (ds := [7]) #[false, false, false, false, false, false, false, false, false] (by kernel_rfl) rfl rfl ⟨e0, e1, hx0, hx1, hx2, hx3, hx4, hx5, hx6, hx7, hx8, hz0, hz1, hz2, hz3, hz4, hz5, hz6, hz7, hz8⟩ (fun hHeld => ?_); refine pure_ (i := 5) (N := some 10) (v := ?_) (a' := ?_) (bv 9 32) rfl rfl (by kernel_rfl) (fun _ _ _ h => h) (Or.inl ⟨by rfl, ?_⟩) ?_ ?_; rotate_left
  · intro w'
    go_simp; (with_reducible rfl)
  rotate_left
  · simp only [Act.put, p_1, p_2, p_3, i64_w, i32_w]
    rfl
  refine take_ (i := 0) (N := some 5) (v := ?_) (a' := ?_) (bv 9 33) rfl rfl (by kernel_rfl) (fun _ _ _ h => h) (Or.inl ⟨by rfl, ?_⟩) hHeld ?_ ?_; rotate_left
  · rintro w' ⟨s0, s1, s2, s3, s4, s5, s6, s7, s8, s9, s10, s11, s12, s13, s14, s15, s16, s17, s18, s19⟩
    go_simp; (with_reducible rfl)
  rotate_left
  · simp only [Act.put, p_1, p_2, p_3, i64_w, i32_w]
    rfl
  refine take_ (i := 1) (N := some 6) (v := ?_) (a' := ?_) (bv 9 35) rfl rfl (by kernel_rfl) (fun _ _ _ h => h) (Or.inl ⟨by rfl, ?_⟩) hHeld ?_ ?_; rotate_left
  · rintro w' ⟨s0, s1, s2, s3, s4, s5, s6, s7, s8, s9, s10, s11, s12, s13, s14, s15, s16, s17, s18, s19⟩
    go_simp; (with_reducible rfl)
  rotate_left
  · simp only [Act.put, p_1, p_2, p_3, i64_w, i32_w]
    rfl
  refine pure_ (i := 2) (N := some 7) (v := ?_) (a' := ?_) (bv 9 39) rfl rfl (by kernel_rfl) (fun _ _ _ h => h) (Or.inl ⟨by rfl, ?_⟩) ?_ ?_; rotate_left
  · intro w'
    go_simp; (with_reducible rfl)
  rotate_left
  · simp only [Act.put, p_1, p_2, p_3, i64_w, i32_w]
    rfl
  refine pure_ (i := 3) (N := some 8) (v := ?_) (a' := ?_) (bv 9 47) rfl rfl (by kernel_rfl) (fun _ _ _ h => h) (Or.inl ⟨by rfl, ?_⟩) ?_ ?_; rotate_left
  · intro w'
    go_simp; (with_reducible rfl)
  rotate_left
  · simp only [Act.put, p_1, p_2, p_3, i64_w, i32_w]
    rfl
  refine take_ (i := 4) (N := some 9) (v := ?_) (a' := ?_) (bv 9 63) rfl rfl (by kernel_rfl) (fun _ _ _ h => h) (Or.inl ⟨by rfl, ?_⟩) hHeld ?_ ?_; rotate_left
  · rintro w' ⟨s0, s1, s2, s3, s4, s5, s6, s7, s8, s9, s10, s11, s12, s13, s14, s15, s16, s17, s18, s19⟩
    go_simp; (with_reducible rfl)
  rotate_left
  · simp only [Act.put, p_1, p_2, p_3, i64_w, i32_w]
    rfl
  refine take_ (i := 6) (N := some 11) (v := ?_) (a' := ?_) (bv 9 127) rfl rfl (by kernel_rfl) (fun _ _ _ h => h) (Or.inl ⟨by rfl, ?_⟩) hHeld ?_ ?_; rotate_left
  · rintro w' ⟨s0, s1, s2, s3, s4, s5, s6, s7, s8, s9, s10, s11, s12, s13, s14, s15, s16, s17, s18, s19⟩
    go_simp; (with_reducible rfl)
  rotate_left
  · simp only [Act.put, p_1, p_2, p_3, i64_w, i32_w]
    rfl
  refine last_ (i := 7) (N := some 12) #[true, true, true, true, true, true, true, true, false] rfl rfl (by kernel_rfl) (by decide) (fun K hK => ?_); refine goes_ Try.func86 (by kernel_rfl) rfl #[.agg #[.int .i64 (rd_T87 l0 a1).f0.f0.f0, .int .i64 (rd_T87 l0 a1).f0.f0.f1, .int .i64 (rd_T87 l0 a1).f0.f1.f0, .int .i64 (rd_T87 l0 a1).f0.f1.f1, .int .i64 (rd_T87 l0 a1).f0.f2.f0, .int .i64 (rd_T87 l0 a1).f0.f2.f1, .int .i64 (rd_T87 l0 a1).f0.f3.f0, .int .i64 (rd_T87 l0 a1).f0.f3.f1, .int .i64 (rd_T87 l0 a1).f0.f4], .agg #[.int .i64 x.f0.f0.f0, .int .i64 x.f0.f0.f1, .int .i64 x.f0.f1.f0, .int .i64 x.f0.f1.f1, .int .i64 x.f0.f2.f0, .int .i64 x.f0.f2.f1, .int .i64 x.f0.f3.f0, .int .i64 x.f0.f3.f1, .int .i64 x.f0.f4]] (by rfl) rfl rfl (by simp only [List.map_toArray, List.map_cons, List.map_nil]; rfl) ?_; (with_reducible refine (impl_withinSel.calls (rd_T87 l0 a1).f0.f0.f0 (rd_T87 l0 a1).f0.f0.f1 (rd_T87 l0 a1).f0.f1.f0 (rd_T87 l0 a1).f0.f1.f1 (rd_T87 l0 a1).f0.f2.f0 (rd_T87 l0 a1).f0.f2.f1 (rd_T87 l0 a1).f0.f3.f0 (rd_T87 l0 a1).f0.f3.f1 (rd_T87 l0 a1).f0.f4 x.f0.f0.f0 x.f0.f0.f1 x.f0.f1.f0 x.f0.f1.f1 x.f0.f2.f0 x.f0.f2.f1 x.f0.f3.f0 x.f0.f3.f1 x.f0.f4 b _ HH.out).mono ?_); rintro e w3 ⟨rfl, hb⟩; refine ⟨_, rfl, ?_⟩; have HB9 := A_ (below_step HB8.out hb); refine hK.out _ _ ?_; clear hK K; refine norm_ (a' := ?_) ?_ ?_; rotate_left
  · show Act.put _ (some 12) _ = _
    simp only [Act.put, p_1, p_2, p_3, i64_w, i32_w]; rfl
  refine pure_ (i := 8) (N := some 4) (v := ?_) (a' := ?_) (bv 9 511) rfl rfl (by kernel_rfl) (fun _ _ _ h => h) (Or.inl ⟨by rfl, ?_⟩) ?_ ?_; rotate_left
  · intro w'
    go_simp; (with_reducible rfl)
  rotate_left
  · simp only [Act.put, p_1, p_2, p_3, i64_w, i32_w]
    rfl
  refine done_ (by kernel_rfl) ?_
  -- end of the region
  go_wp2; go_ret; exact ⟨rfl, HB9.out⟩
set_option maxHeartbeats 4000000 in
set_option maxRecDepth 100000 in
theorem impl_shadowed.calls (A0 : Option Addr) (c0 : Nat) (l0 : List S87) (a1 : Int) (r : Bool) (w : World) (hr0 : Kd.C k87 w A0 l0.length l0) (hc0 : l0.length ≤ c0) (h : impl_shadowed.f l0 a1 = some r) :
    Calls Try.prog 119 #[.slice A0 l0.length c0, .int .i64 a1] w fun e w' => e = .returned (.bool r) ∧ Below w.heap.size w w' := by
  have eg : ∀ args w, (callFunc 144 args).run Try.prog w = .ok (.enter 144 args) w := Go.Proofs.enters_of Try.func144 (by kernel_rfl) rfl; unfold impl_shadowed.f at h; by_cases h0 : 0 ≤ a1
  · rw [if_pos h0] at h
    by_cases h1 : a1 < (l0.length : Int)
    · rw [if_pos h1] at h
      obtain ⟨i, h2, h⟩ := Option.bind_eq_some_iff.mp h; obtain rfl := Option.some.inj h; (have hlen : (l0.take a1.toNat).length = a1.toNat := by rw [List.length_take]; omega)
      have hcon := fun (W : World) (hb : Below w.heap.size w W) (pb qb : Nat) (hpb : pb < W.heap.size) (hqb : qb < W.heap.size) (e0 : W.cell? ⟨pb, 0, none⟩ = some (.slice A0 l0.length c0)) (e1 : W.cell? ⟨qb, 0, none⟩ = some (.int .i64 a1)) =>
        ContainsFunc_87.calls A0 c0 (l0.take a1.toNat) 144 #[.pointer (some ⟨pb, 0, none⟩), .pointer (some ⟨qb, 0, none⟩)] (impl_shadowed.p l0 a1) i W eg (Kd.C_take (Kd.C_below hr0 hb) (by omega)) (fun x b W' hx hb2 => impl_shadowed_lit.calls x b A0 c0 l0 a1 h0 h1 pb qb W W' hpb hqb e0 e1 (Kd.C_below hr0 hb) hb2 hx) h2
      simp only [hlen] at hcon; have HC := A_ hcon; clear hcon hr0 h2 h eg; have p1 : (0 ≤ a1) = True := eq_true h0; have q1 : (a1 ≤ (c0 : Int)) = True := eq_true (by omega); have hu3 := Try.underlying52; go_enter Try.func119, Try.ntmps119; go_wp2_with (first | ((with_reducible refine gate_dst (N := 2) rfl ?_); refine box_event ?hg (N := 2) ?hd (cs := #[.slice A0 l0.length c0]) (t := 52) ?hr ?_; (case hd => rfl); (case hg => rfl); (case hr => go_simp <;> rfl); intro gb hg w7 hbox hb2; have e0 : w7.cell? ⟨gb, 0, none⟩ = some (.slice A0 l0.length c0) := (blk_cell hbox 0).trans rfl; have HL7 := A_ (blk_lt hbox); have HB7 := A_ hb2; clear hb2 hbox hg) | ((with_reducible refine gate_dst (N := 3) rfl ?_); refine box_event ?hg (N := 3) ?hd (cs := #[.int .i64 a1]) (t := 3) ?hr ?_; (case hd => rfl); (case hg => rfl); (case hr => go_simp <;> rfl); intro gc hg w8 hbox hb3; replace e0 := (hb3.cell (p := ⟨gb, 0, none⟩) HL7.out).trans e0; have e1 : w8.cell? ⟨gc, 0, none⟩ = some (.int .i64 a1) := (blk_cell hbox 0).trans rfl; have HL8 := A_ (blk_lt hbox); have HL9 := A_ (Nat.lt_of_lt_of_le HL7.out hb3.size); have HB8 := A_ (below_step HB7.out hb3); clear hb3 hbox hg HB7 HL7) | (go_at_call 143; refine (HC.out _ HB8.out gb gc HL9.out HL8.out e0 e1).mono ?_; rintro e w2 ⟨rfl, hb2⟩)); go_ret; exact ⟨rfl, below_step HB8.out hb2⟩
    · rw [if_neg h1] at h
      exact absurd h (by simp)
  · rw [if_neg h0] at h
    exact absurd h (by simp)

end Go.Proofs.Ytcelgjhhmkgnhaa.PFnTrims
