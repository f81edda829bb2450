-- Written by wip/tools/myprint.py of this claim's session, over the kit's print, round texts of its own: own text.
import Derived.Test.YtcelgjhhmkgnhaaPFnTrimsx0
import Derived.Test.YtcelgjhhmkgnhaaPFnTrimsx2
import Derived.Test.YtcelgjhhmkgnhaaPFnTrimsx10
import Derived.Test.YtcelgjhhmkgnhaaPFnTrimsx11
import Derived.Test.YtcelgjhhmkgnhaaPFnTrimsx18
namespace Go.Proofs.Ytcelgjhhmkgnhaa.PFnTrims
open Go.RowKit Go.Proofs.YtcelgjhhmkgnhaaW.PrintWords Go.Proofs.YtcelgjhhmkgnhaaW.PrintLast Go.Proofs.YtcelgjhhmkgnhaaW.PrintMore
attribute [local go_sem] max2_int min2_int max_two min_two max_three min_three max_four min_four   -- for this text's walks alone
set_option linter.unusedVariables false
set_option linter.unusedSimpArgs false

/-! ### impl_FirstRule: function 57 -/
def impl_FirstRule.f (k : Nat) (l0 : List (S87)) (a1_0 : Int) (a1_1 : Int) (a1_2 : Int) (a1_3 : Int) (a1_4 : Int) (a1_5 : Int) (l1_6 : List Int) : Option (Int × Int × Int × Int × Int × Int × Int × Int × Int × Int × Int × Int × Int) := (impl_PolicyFault.f k l0).bind fun t574 => ((impl_PacketFault.f k a1_0 a1_1 a1_2 a1_3 a1_4 a1_5 l1_6).bind fun t575 => ((impl_faultOf.f k (([t574, t575] : List Int))).bind fun t579 => (if t579 = 0 then ((impl_firstRule.f l0 a1_0 a1_1 a1_2 a1_3 a1_4 a1_5 l1_6).bind fun t580 => (if t580 < 0 then (some (4, 0, 0, 0, 0, 0, 0, 0, 0, 0, 0, 0, 0)) else (if 0 ≤ t580 then (if t580 < (l0.length : Int) then (some (0, t580, (rd_T87 l0 t580).f0.f0.f0, (rd_T87 l0 t580).f0.f0.f1, (rd_T87 l0 t580).f0.f1.f0, (rd_T87 l0 t580).f0.f1.f1, (rd_T87 l0 t580).f0.f2.f0, (rd_T87 l0 t580).f0.f2.f1, (rd_T87 l0 t580).f0.f3.f0, (rd_T87 l0 t580).f0.f3.f1, (rd_T87 l0 t580).f0.f4, (rd_T87 l0 t580).f1, (rd_T87 l0 t580).f2)) else (none)) else (none)))) else (some (t579, 0, 0, 0, 0, 0, 0, 0, 0, 0, 0, 0, 0)))))
theorem impl_FirstRule.mono : ∀ a0 a1 a2 a3 a4 a5 a6 a7 k, LeO (impl_FirstRule.f k a0 a1 a2 a3 a4 a5 a6 a7) (impl_FirstRule.f (k + 1) a0 a1 a2 a3 a4 a5 a6 a7) := by
 intro a0 a1 a2 a3 a4 a5 a6 a7 k
 unfold impl_FirstRule.f
 repeat' first
   | (with_reducible exact impl_PacketFault.mono _ _ _ _ _ _ _ _)
   | (with_reducible exact impl_PolicyFault.mono _ _)
   | (with_reducible exact impl_faultOf.mono _ _)
   | (with_reducible exact LeO.refl _)
   | (with_reducible exact LeO.none _)
   | (with_reducible refine LeO.ite ?_ ?_)
   | (with_reducible refine LeO.bind ?_ (fun _ => ?_))
   | exact impl_PacketFault.mono _ _ _ _ _ _ _ _
   | exact impl_PolicyFault.mono _ _
   | exact impl_faultOf.mono _ _
   | exact LeO.none _
   | refine LeO.ite ?_ ?_
   | refine LeO.bind ?_ (fun _ => ?_)
set_option maxHeartbeats 4000000 in
set_option maxRecDepth 100000 in
theorem impl_FirstRule.calls (k : Nat) (A0 : Option Addr) (c0 : Nat) (l0 : List (S87)) (a1_0 : Int) (a1_1 : Int) (a1_2 : Int) (a1_3 : Int) (a1_4 : Int) (a1_5 : Int) (A1_6 : Option Addr) (c1_6 : Nat) (l1_6 : List Int) (r1 : Int) (r2 : Int) (r3 : Int) (r4 : Int) (r5 : Int) (r6 : Int) (r7 : Int) (r8 : Int) (r9 : Int) (r10 : Int) (r11 : Int) (r12 : Int) (r13 : Int) (w : World) (hr0 : Kd.C k87 w A0 l0.length l0) (hc0 : l0.length ≤ c0) (hr1_6 : Kd.C (Kd.int .u8) w A1_6 l1_6.length l1_6) (hc1_6 : l1_6.length ≤ c1_6) (h : impl_FirstRule.f k l0 a1_0 a1_1 a1_2 a1_3 a1_4 a1_5 l1_6 = some (r1, r2, r3, r4, r5, r6, r7, r8, r9, r10, r11, r12, r13)) :
  Calls Try.prog 57 #[.slice A0 l0.length c0, .agg #[.int .i64 a1_0, .int .i64 a1_1, .int .i64 a1_2, .int .i64 a1_3, .int .i64 a1_4, .int .i64 a1_5, .slice A1_6 l1_6.length c1_6]] w fun e w' => e = .returned (.agg #[.int .i64 r1, .int .i64 r2, .int .i64 r3, .int .i64 r4, .int .i64 r5, .int .i64 r6, .int .i64 r7, .int .i64 r8, .int .i64 r9, .int .i64 r10, .int .i64 r11, .int .i64 r12, .int .i64 r13]) ∧ Below w.heap.size w w' := by
  have hm0 : l0.length ≤ 9223372036854775807 := hr0.2.1
  have HR0 := Aside0.mk hr0
  have HC0 := Aside0.mk hc0
  have HR1 := Aside0.mk hr1_6
  have HC1 := Aside0.mk hc1_6
  have D := Aside0.mk (CS.startB w)
  have H := h
  clear hr0 hc0 hr1_6 hc1_6 h
  unfold impl_FirstRule.f at H
  have hu89 := Try.underlying89
  have hu71 := Try.underlying71
  have hu87 := Try.underlying87
  obtain ⟨e1, he1, H⟩ := Option.bind_eq_some_iff.mp H
  obtain ⟨e2, he2, H⟩ := Option.bind_eq_some_iff.mp H
  obtain ⟨e3, he3, H⟩ := Option.bind_eq_some_iff.mp H
  have HE1 := Aside0.mk he1
  have HE2 := Aside0.mk he2
  have HE3 := Aside0.mk he3
  clear he1 he2 he3
  rcases ifE H with ⟨_, _, H⟩ | ⟨_, _, H⟩
  case' inl =>
    obtain ⟨ix, hi, H⟩ := Option.bind_eq_some_iff.mp H
    have HI := Aside0.mk hi
    clear hi
    rcases ifD H with ⟨g, H⟩ | ⟨g, H⟩
    case' inl => have t1 := eq_true (of_decide_eq_true g)
    case' inr =>
      have t0 := eq_false (of_decide_eq_false g)
      rcases ifD H with ⟨g1, H⟩ | ⟨_, H⟩
      case inr => exact noneE H
      rcases ifD H with ⟨g2, H⟩ | ⟨_, H⟩
      case inr => exact noneE H
      have p1 := of_decide_eq_true g1
      have p2 := of_decide_eq_true g2
      have t1 := eq_true p1
      have t2 := eq_true p2
      clear g1 g2
      obtain ⟨ad, eA, hx0, hx1, hx2, hx3, hx4, hx5, hx6, hx7, hx8, hx9, hx10⟩ := at_T87 HR0.out ix p1 p2
      have gx0 := fun W' (h : Below w.heap.size w W') => (h.cell (World.block_lt_of_cell? w _ hx0)).trans hx0
      have gx1 := fun W' (h : Below w.heap.size w W') => (h.cell (World.block_lt_of_cell? w _ hx1)).trans hx1
      have gx2 := fun W' (h : Below w.heap.size w W') => (h.cell (World.block_lt_of_cell? w _ hx2)).trans hx2
      have gx3 := fun W' (h : Below w.heap.size w W') => (h.cell (World.block_lt_of_cell? w _ hx3)).trans hx3
      have gx4 := fun W' (h : Below w.heap.size w W') => (h.cell (World.block_lt_of_cell? w _ hx4)).trans hx4
      have gx5 := fun W' (h : Below w.heap.size w W') => (h.cell (World.block_lt_of_cell? w _ hx5)).trans hx5
      have gx6 := fun W' (h : Below w.heap.size w W') => (h.cell (World.block_lt_of_cell? w _ hx6)).trans hx6
      have gx7 := fun W' (h : Below w.heap.size w W') => (h.cell (World.block_lt_of_cell? w _ hx7)).trans hx7
      have gx8 := fun W' (h : Below w.heap.size w W') => (h.cell (World.block_lt_of_cell? w _ hx8)).trans hx8
      have gx9 := fun W' (h : Below w.heap.size w W') => (h.cell (World.block_lt_of_cell? w _ hx9)).trans hx9
      have gx10 := fun W' (h : Below w.heap.size w W') => (h.cell (World.block_lt_of_cell? w _ hx10)).trans hx10
      clear hx0 hx1 hx2 hx3 hx4 hx5 hx6 hx7 hx8 hx9 hx10
  all_goals
    (try clear g)
    simp only [Option.some.injEq, Prod.mk.injEq] at H
    obtain ⟨rfl, rfl, rfl, rfl, rfl, rfl, rfl, rfl, rfl, rfl, rfl, rfl, rfl⟩ := H
    go_enter Try.func57, Try.ntmps57
    go_wp2_with (first
      | ((with_reducible refine gate_bx rfl ?_); refine ev_box ?_; intro _ _ hD; clear D; have D := Aside0.mk hD; clear hD; (try clear q0 f0); (try clear q1 f1); (try clear q2 f2); (try (have q0 := D.out.c 0 rfl; have f0 := D.out.f 0 rfl)); (try (have q1 := D.out.c 1 rfl; have f1 := D.out.f 1 rfl)); (try (have q2 := D.out.c 2 rfl; have f2 := D.out.f 2 rfl)))
      | ((with_reducible refine gate_al rfl ?_); refine ev_box ?_; intro _ _ hD; clear D; have D := Aside0.mk hD; clear hD; (try clear q0 f0); (try clear q1 f1); (try clear q2 f2); (try (have q0 := D.out.c 0 rfl; have f0 := D.out.f 0 rfl)); (try (have q1 := D.out.c 1 rfl; have f1 := D.out.f 1 rfl)); (try (have q2 := D.out.c 2 rfl; have f2 := D.out.f 2 rfl)))
      | ((with_reducible refine gate_st rfl ?_); refine ev_store ?_; intro wq hD; clear D; simp only [List.set_cons_zero, List.set_cons_succ, List.setIfInBounds_toArray] at hD; have D := Aside0.mk hD; clear hD; (try clear q0 f0); (try clear q1 f1); (try clear q2 f2); (try (have q0 := D.out.c 0 rfl; have f0 := D.out.f 0 rfl)); (try (have q1 := D.out.c 1 rfl; have f1 := D.out.f 1 rfl)); (try (have q2 := D.out.c 2 rfl; have f2 := D.out.f 2 rfl)))
      | ((with_reducible refine gate_rg 1 (by with_reducible rfl) ?_); refine CS.rg (n := 7) 1 1 #[false, false, false, false, false, false, false] D.out rfl rfl rfl rfl ?_; intro wa hD; clear D; have D := Aside0.mk hD; clear hD; (try clear q0 f0); (try clear q1 f1); (try clear q2 f2); (try (have q0 := D.out.c 0 rfl; have f0 := D.out.f 0 rfl)); (try (have q1 := D.out.c 1 rfl; have f1 := D.out.f 1 rfl)); (try (have q2 := D.out.c 2 rfl; have f2 := D.out.f 2 rfl)); refine tk 0 (some 7) #[true, false, false, false, false, false, false] ⟨D.out.c 1 rfl, D.out.c 1 rfl⟩ ?_; refine tk 2 (some 9) #[true, false, true, false, false, false, false] ⟨D.out.c 1 rfl, D.out.c 1 rfl⟩ ?_; refine one_ (i := 1) (N := some 8) #[true, true, true, false, false, false, false] rfl rfl (by kernel_rfl) (by decide) (fun K hK => ?_); refine goes_ Try.func67 (by kernel_rfl) rfl #[.slice A0 l0.length c0] rfl rfl rfl (by (try simp only [List.map_toArray, List.map_cons, List.map_nil]); first | done | (go_simp; done) | rfl | (go_simp; rfl)) ?_; refine (impl_PolicyFault.calls k _ _ l0 e1 _ (Kd.C_below HR0.out D.out.bel) HC0.out HE1.out).mono ?_; rintro e wq ⟨rfl, hb⟩; refine ⟨_, rfl, ?_⟩; have hD := D.out.below hb; clear D; have D := Aside0.mk hD; clear hD; (try clear q0 f0); (try clear q1 f1); (try clear q2 f2); (try (have q0 := D.out.c 0 rfl; have f0 := D.out.f 0 rfl)); (try (have q1 := D.out.c 1 rfl; have f1 := D.out.f 1 rfl)); (try (have q2 := D.out.c 2 rfl; have f2 := D.out.f 2 rfl)); clear hb; refine hK.out _ _ ⟨D.out.c 1 rfl, D.out.c 1 rfl⟩ (fun _ => ?_); clear hK K; refine norm_ (by simp only [putAll, Act.put, List.setIfInBounds_toArray, List.set_cons_zero, List.set_cons_succ, i64_w, i32_w]; rfl) ?_; refine one_ (i := 3) (N := some 10) #[true, true, true, true, false, false, false] rfl rfl (by kernel_rfl) (by decide) (fun K hK => ?_); refine goes_ Try.func102 (by kernel_rfl) rfl #[.agg #[.int .i64 a1_0, .int .i64 a1_1, .int .i64 a1_2, .int .i64 a1_3, .int .i64 a1_4, .int .i64 a1_5, .slice A1_6 l1_6.length c1_6]] rfl rfl rfl (by (try simp only [List.map_toArray, List.map_cons, List.map_nil]); first | done | (go_simp; done) | rfl | (go_simp; rfl)) ?_; refine (impl_PacketFault.calls k _ _ _ _ _ _ _ _ _ e2 _ (Kd.C_below HR1.out D.out.bel) HC1.out HE2.out).mono ?_; rintro e wq ⟨rfl, hb⟩; refine ⟨_, rfl, ?_⟩; have hD := D.out.below hb; clear D; have D := Aside0.mk hD; clear hD; (try clear q0 f0); (try clear q1 f1); (try clear q2 f2); (try (have q0 := D.out.c 0 rfl; have f0 := D.out.f 0 rfl)); (try (have q1 := D.out.c 1 rfl; have f1 := D.out.f 1 rfl)); (try (have q2 := D.out.c 2 rfl; have f2 := D.out.f 2 rfl)); clear hb; refine hK.out _ _ ⟨D.out.c 1 rfl, D.out.c 1 rfl⟩ (fun _ => ?_); clear hK K; refine norm_ (by simp only [putAll, Act.put, List.setIfInBounds_toArray, List.set_cons_zero, List.set_cons_succ, i64_w, i32_w]; rfl) ?_; refine one_ (i := 4) (N := some 11) #[true, true, true, true, true, false, false] rfl rfl (by kernel_rfl) (by decide) (fun K hK => ?_); refine alS ?_ D.out; intro bq wq hD; clear D; have D := Aside0.mk hD; clear hD; (try clear q0 f0); (try clear q1 f1); (try clear q2 f2); (try (have q0 := D.out.c 0 rfl; have f0 := D.out.f 0 rfl)); (try (have q1 := D.out.c 1 rfl; have f1 := D.out.f 1 rfl)); (try (have q2 := D.out.c 2 rfl; have f2 := D.out.f 2 rfl)); refine hK.out _ _ ⟨D.out.c 2 rfl, D.out.c 2 rfl⟩ (fun _ => ?_); clear hK K; refine norm_ (by simp only [putAll, Act.put, List.setIfInBounds_toArray, List.set_cons_zero, List.set_cons_succ, i64_w, i32_w]; rfl) ?_; refine one_ (i := 5) (N := some 12) #[true, true, true, true, true, true, false] rfl rfl (by kernel_rfl) (by decide) (fun K hK => ?_); refine goes_ Try.func81 (by kernel_rfl) rfl #[.slice (some ⟨bq, 0, none⟩) 2 2] rfl rfl rfl (by (try simp only [List.map_toArray, List.map_cons, List.map_nil]); first | done | (go_simp; done) | rfl | (go_simp; rfl)) ?_; refine (impl_faultOf.calls k _ _ [e1, e2] e3 _ (D.out.litC rfl (by simp)) (by simp) HE3.out).mono ?_; rintro e wq ⟨rfl, m, rfl⟩; refine ⟨_, rfl, ?_⟩; have hD := (D.out.drewN m).tail; clear D; have D := Aside0.mk hD; clear hD; (try clear q0 f0); (try clear q1 f1); (try clear q2 f2); (try (have q0 := D.out.c 0 rfl; have f0 := D.out.f 0 rfl)); (try (have q1 := D.out.c 1 rfl; have f1 := D.out.f 1 rfl)); (try (have q2 := D.out.c 2 rfl; have f2 := D.out.f 2 rfl)); refine hK.out _ _ ⟨D.out.c 1 rfl, D.out.c 1 rfl⟩ (fun _ => ?_); clear hK K; refine norm_ (by simp only [putAll, Act.put, List.setIfInBounds_toArray, List.set_cons_zero, List.set_cons_succ, i64_w, i32_w]; rfl) ?_; refine tk 6 (some 5) #[true, true, true, true, true, true, true] ⟨D.out.c 1 rfl, D.out.c 1 rfl⟩ ?_; refine done_ (by kernel_rfl) ?_)
      | (go_at_call 111; (try subst eA); with_reducible refine Calls.mono (CS.via D.out (impl_firstRule.calls _ _ l0 _ _ _ _ _ _ _ _ _ ix _ (Kd.C_below HR0.out D.out.bel) HC0.out (Kd.C_below HR1.out D.out.bel) HC1.out HI.out)) ?_; rintro e wq ⟨rfl, hD⟩; clear D; have D := Aside0.mk hD; clear hD; (try clear q0 f0); (try clear q1 f1); (try clear q2 f2); (try (have q0 := D.out.c 0 rfl; have f0 := D.out.f 0 rfl)); (try (have q1 := D.out.c 1 rfl; have f1 := D.out.f 1 rfl)); (try (have q2 := D.out.c 2 rfl; have f2 := D.out.f 2 rfl)); (try have y0 := gx0 _ D.out.bel); (try have y1 := gx1 _ D.out.bel); (try have y2 := gx2 _ D.out.bel); (try have y3 := gx3 _ D.out.bel); (try have y4 := gx4 _ D.out.bel); (try have y5 := gx5 _ D.out.bel); (try have y6 := gx6 _ D.out.bel); (try have y7 := gx7 _ D.out.bel); (try have y8 := gx8 _ D.out.bel); (try have y9 := gx9 _ D.out.bel); (try have y10 := gx10 _ D.out.bel)))
    refine bodyPost_ret (results_cell_row rfl _ _ _ 89 _ (0, 0) _ rfl (D.out.at_ 0 rfl) Try.underlying89 rfl (by kernel_rfl)) rfl ?_
    exact ⟨rfl, D.out.bel⟩

/-! ### impl_actionFor: function 112 -/
def impl_actionFor.f (l0 : List (S87)) (a1_0 : Int) (a1_1 : Int) (a1_2 : Int) (a1_3 : Int) (a1_4 : Int) (a1_5 : Int) (l1_6 : List Int) : Option (Int) := (impl_firstRule.f l0 a1_0 a1_1 a1_2 a1_3 a1_4 a1_5 l1_6).bind fun t583 => (if t583 ≥ 0 then (if 0 ≤ t583 then (if t583 < (l0.length : Int) then (some ((rd_T87 l0 t583).f1)) else (none)) else (none)) else (some 1))
set_option maxHeartbeats 8000000 in
set_option maxRecDepth 100000 in
theorem impl_actionFor.calls (A0 : Option Addr) (c0 : Nat) (l0 : List (S87)) (a1_0 : Int) (a1_1 : Int) (a1_2 : Int) (a1_3 : Int) (a1_4 : Int) (a1_5 : Int) (A1_6 : Option Addr) (c1_6 : Nat) (l1_6 : List Int) (r : Int) (w : World) (hr0 : Kd.C k87 w A0 l0.length l0) (hc0 : l0.length ≤ c0) (hr1_6 : Kd.C (Kd.int .u8) w A1_6 l1_6.length l1_6) (hc1_6 : l1_6.length ≤ c1_6) (h : impl_actionFor.f l0 a1_0 a1_1 a1_2 a1_3 a1_4 a1_5 l1_6 = some r) :
  Calls Try.prog 112 #[.slice A0 l0.length c0, .agg #[.int .i64 a1_0, .int .i64 a1_1, .int .i64 a1_2, .int .i64 a1_3, .int .i64 a1_4, .int .i64 a1_5, .slice A1_6 l1_6.length c1_6]] w fun e w' => e = .returned (.int .i64 r) ∧ Below w.heap.size w w' := by
 have hu71 := Try.underlying71; have HR0 := A_ hr0; have HC0 := A_ hc0; clear hr0 hc0; have HR1_6 := A_ hr1_6; have HC1_6 := A_ hc1_6; clear hr1_6 hc1_6; have HB := A_ (Below.refl w.heap.size w); have H : ((impl_firstRule.f l0 a1_0 a1_1 a1_2 a1_3 a1_4 a1_5 l1_6).bind fun t583 => (if t583 ≥ 0 then (if 0 ≤ t583 then (if t583 < (l0.length : Int) then (some ((rd_T87 l0 t583).f1)) else (none)) else (none)) else (some 1))) = some r := h; clear h; replace H := Option.bind_eq_some_iff.mp H; obtain ⟨t583, A30, H⟩ := H; (try dsimp only at H); have A3 := A_ A30; clear A30; by_cases c4 : t583 ≥ 0
 · rw [if_pos c4] at H; have c4b0 := decide_eq_true c4; clear c4; have H1 := ifS H; clear H; obtain ⟨c5b0, H⟩ := H1; have H1 := ifS H; clear H; obtain ⟨c6b0, H⟩ := H1; obtain rfl := Option.some.inj H; go_enter Try.func112, Try.ntmps112; go_wp2_with (first | ((with_reducible refine gate_dst (N := 3) rfl ?_); refine box_event ?hg (N := 3) ?hd (cs := #[.int .i64 a1_0, .int .i64 a1_1, .int .i64 a1_2, .int .i64 a1_3, .int .i64 a1_4, .int .i64 a1_5, .slice A1_6 l1_6.length c1_6]) (t := 71) ?hr ?_; (case hd => rfl); (case hg => rfl); (case hr => go_simp <;> rfl); intro gb582 hg w7 hbox hb; have n0_ := A_ (below_step (lowU HB.out) hb); have n1_ := A_ (hbox); have n2_ := A_ ((by rw [hg]; exact (below_size (lowU HB.out)) : w.heap.size ≤ gb582)); have n3_ := A_ ((by rw [hg]; exact (below_size (lowU HB.out)) : w.heap.size ≤ gb582)); clear HB; have HB := n0_; have BK582 := n1_; have GW582 := n2_; have GE582 := n3_; clear n0_ n1_ n2_ n3_; clear hb hbox hg; obtain ⟨hcz8_0, hcz8_1, hcz8_2, hcz8_3, hcz8_4, hcz8_5, hcz8_6⟩ := blk_c7 BK582.out; obtain ⟨hfz8_0, hfz8_1, hfz8_2, hfz8_3, hfz8_4, hfz8_5, hfz8_6⟩ := blk_f7 BK582.out) | ((with_reducible refine gate_callee (f := 111) rfl ?_); refine gL_ (some 8) Try.func111 #[.slice A0 l0.length c0, .agg #[.int .i64 a1_0, .int .i64 a1_1, .int .i64 a1_2, .int .i64 a1_3, .int .i64 a1_4, .int .i64 a1_5, .slice A1_6 l1_6.length c1_6]] ?_; (with_reducible refine (impl_firstRule.calls _ _ l0 a1_0 a1_1 a1_2 a1_3 a1_4 a1_5 _ _ l1_6 t583 _ ?side1 ?side2 ?side3 ?side4 A3.out).mono ?_); (case side1 => exact cU HR0.out HB.out); (case side2 => exact HC0.out); (case side3 => exact cU HR1_6.out HB.out); (case side4 => exact HC1_6.out); rintro e w9 ⟨rfl, hb⟩; refine ⟨_, rfl, ?_⟩; have n0_ := A_ (blk_below_u BK582.out hb); have n1_ := A_ (below_step bq hb); clear BK582; clear HB; have BK582 := n0_; have HB := n1_; clear n0_ n1_; (try clear hb); (try clear hb2); (try clear hk); (try clear hi); have p584 : 0 ≤ (t583 : Int) := dq; have q584 : t583 < (l0.length : Int) := dq; obtain ⟨ad584, e584, hx584_0, hx584_1, hx584_2, hx584_3, hx584_4, hx584_5, hx584_6, hx584_7, hx584_8, hx584_9, hx584_10⟩ := at_T87 HR0.out t583 p584 q584; cases e584; replace hx584_0 := cellB HB.out hx584_0; replace hx584_1 := cellB HB.out hx584_1; replace hx584_2 := cellB HB.out hx584_2; replace hx584_3 := cellB HB.out hx584_3; replace hx584_4 := cellB HB.out hx584_4; replace hx584_5 := cellB HB.out hx584_5; replace hx584_6 := cellB HB.out hx584_6; replace hx584_7 := cellB HB.out hx584_7; replace hx584_8 := cellB HB.out hx584_8; replace hx584_9 := cellB HB.out hx584_9; replace hx584_10 := cellB HB.out hx584_10; replace p584 := eq_true p584; replace q584 := eq_true q584)); go_ret; exact ⟨eW, bq⟩
 · rw [if_neg c4] at H; have c4b0 := decide_eq_false c4; clear c4; obtain rfl := Option.some.inj H; go_enter Try.func112, Try.ntmps112; go_wp2_with (first | ((with_reducible refine gate_dst (N := 3) rfl ?_); refine box_event ?hg (N := 3) ?hd (cs := #[.int .i64 a1_0, .int .i64 a1_1, .int .i64 a1_2, .int .i64 a1_3, .int .i64 a1_4, .int .i64 a1_5, .slice A1_6 l1_6.length c1_6]) (t := 71) ?hr ?_; (case hd => rfl); (case hg => rfl); (case hr => go_simp <;> rfl); intro gb582 hg w10 hbox hb; have n0_ := A_ (below_step (lowU HB.out) hb); have n1_ := A_ (hbox); have n2_ := A_ ((by rw [hg]; exact (below_size (lowU HB.out)) : w.heap.size ≤ gb582)); have n3_ := A_ ((by rw [hg]; exact (below_size (lowU HB.out)) : w.heap.size ≤ gb582)); clear HB; have HB := n0_; have BK582 := n1_; have GW582 := n2_; have GE582 := n3_; clear n0_ n1_ n2_ n3_; clear hb hbox hg; obtain ⟨hcz11_0, hcz11_1, hcz11_2, hcz11_3, hcz11_4, hcz11_5, hcz11_6⟩ := blk_c7 BK582.out; obtain ⟨hfz11_0, hfz11_1, hfz11_2, hfz11_3, hfz11_4, hfz11_5, hfz11_6⟩ := blk_f7 BK582.out) | ((with_reducible refine gate_callee (f := 111) rfl ?_); refine gL_ (some 8) Try.func111 #[.slice A0 l0.length c0, .agg #[.int .i64 a1_0, .int .i64 a1_1, .int .i64 a1_2, .int .i64 a1_3, .int .i64 a1_4, .int .i64 a1_5, .slice A1_6 l1_6.length c1_6]] ?_; (with_reducible refine (impl_firstRule.calls _ _ l0 a1_0 a1_1 a1_2 a1_3 a1_4 a1_5 _ _ l1_6 t583 _ ?side1 ?side2 ?side3 ?side4 A3.out).mono ?_); (case side1 => exact cU HR0.out HB.out); (case side2 => exact HC0.out); (case side3 => exact cU HR1_6.out HB.out); (case side4 => exact HC1_6.out); rintro e w12 ⟨rfl, hb⟩; refine ⟨_, rfl, ?_⟩; have n0_ := A_ (blk_below_u BK582.out hb); have n1_ := A_ (below_step bq hb); clear BK582; clear HB; have BK582 := n0_; have HB := n1_; clear n0_ n1_; (try clear hb); (try clear hb2); (try clear hk); (try clear hi))); go_ret; exact ⟨eW, bq⟩

end Go.Proofs.Ytcelgjhhmkgnhaa.PFnTrims
