-- Written by wip/tools/myprint.py of this claim's session, over the kit's print, round texts of its own: own text.
import Derived.Test.YtofaojdkpbheoaaPFnExactSameTermsx0
import Derived.Test.YtofaojdkpbheoaaPFnExactSameTermsx1
import Derived.Test.YtofaojdkpbheoaaPFnExactSameTermsx2
namespace Go.Proofs.Ytofaojdkpbheoaa.PFnExactSameTerms
open Go.RowKit Go.Proofs.YtofaojdkpbheoaaW.PrintWords Go.Proofs.YtofaojdkpbheoaaW.PrintLast Go.Proofs.YtofaojdkpbheoaaW.PrintMore
attribute [local go_sem] max2_int min2_int max_two min_two max_three min_three max_four min_four   -- for this text's walks alone
set_option linter.unusedVariables false
set_option linter.unusedSimpArgs false

attribute [local go_sem high] eqA34
/-! ### spec_l5Term: function 27 -/
mutual
def spec_l5Term.j0 : Nat → List (S34) → Int → Bool → Int → Int → Int → Int → Option (Int)
 | 0, _, _, _, _, _, _, _ => none
 | k + 1, x0, x5, x38, x102000, x102001, x102002, x102003 => if x38 = true then (some 1) else ((spec_l1In.f x102003 0 9999).bind fun t104 => (if t104 = true then (if x5 > 0 then ((spec_l1In.f x102001 0 (wrap64 ((x0.length : Int) - 1))).bind fun t105 => (if t105 = true then (if x5 > 1 then ((spec_l1In.f x102002 0 (wrap64 ((x0.length : Int) - 1))).bind fun t106 => (spec_l5Term.j1 k x0 x5 (!t106) x102000 x102001 x102002 x102003)) else (spec_l5Term.j1 k x0 x5 false x102000 x102001 x102002 x102003)) else (spec_l5Term.j1 k x0 x5 true x102000 x102001 x102002 x102003))) else (if x5 > 1 then ((spec_l1In.f x102002 0 (wrap64 ((x0.length : Int) - 1))).bind fun t107 => (spec_l5Term.j1 k x0 x5 (!t107) x102000 x102001 x102002 x102003)) else (spec_l5Term.j1 k x0 x5 false x102000 x102001 x102002 x102003))) else (spec_l5Term.j1 k x0 x5 true x102000 x102001 x102002 x102003)))
def spec_l5Term.j1 : Nat → List (S34) → Int → Bool → Int → Int → Int → Int → Option (Int)
 | 0, _, _, _, _, _, _, _ => none
 | k + 1, x0, x5, x68, x102000, x102001, x102002, x102003 => if x68 = true then (some 3) else (if x102000 = 6 then (spec_l5Term.j2 k x0 x5 true x102000 x102001 x102002 x102003) else (spec_l5Term.j2 k x0 x5 (x102000 == 7) x102000 x102001 x102002 x102003))
def spec_l5Term.j2 : Nat → List (S34) → Int → Bool → Int → Int → Int → Int → Option (Int)
 | 0, _, _, _, _, _, _, _ => none
 | k + 1, x0, x5, x76, x102000, x102001, x102002, x102003 => if x76 = true then (if 0 ≤ x102001 then (if x102001 < (x0.length : Int) then (if ((rd_T34 x0 x102001).f0) = 2 then (if x5 > 1 then (if 0 ≤ x102002 then (if x102002 < (x0.length : Int) then (if ((rd_T34 x0 x102002).f0) = 2 then (if x102001 > x102002 then (some 1) else (some 0)) else (some 1)) else (none)) else (none)) else (some 0)) else (some 1)) else (none)) else (none)) else (some 0)
end
def spec_l5Term.f (k : Nat) (l0 : List (S34)) (a1_0 : Int) (a1_1 : Int) (a1_2 : Int) (a1_3 : Int) : Option (Int) := (spec_l1In.f a1_0 1 7).bind fun t102 => (if t102 = true then ((spec_l5Kids.f k a1_0).bind fun t103 => (if t103 > 0 then (if a1_3 = 0 then (if t103 < 1 then (if a1_1 = 0 then (if t103 < 2 then (spec_l5Term.j0 k l0 t103 (a1_2 != 0) a1_0 a1_1 a1_2 a1_3) else (spec_l5Term.j0 k l0 t103 false a1_0 a1_1 a1_2 a1_3)) else (spec_l5Term.j0 k l0 t103 true a1_0 a1_1 a1_2 a1_3)) else (if t103 < 2 then (spec_l5Term.j0 k l0 t103 (a1_2 != 0) a1_0 a1_1 a1_2 a1_3) else (spec_l5Term.j0 k l0 t103 false a1_0 a1_1 a1_2 a1_3))) else (spec_l5Term.j0 k l0 t103 true a1_0 a1_1 a1_2 a1_3)) else (if t103 < 1 then (if a1_1 = 0 then (if t103 < 2 then (spec_l5Term.j0 k l0 t103 (a1_2 != 0) a1_0 a1_1 a1_2 a1_3) else (spec_l5Term.j0 k l0 t103 false a1_0 a1_1 a1_2 a1_3)) else (spec_l5Term.j0 k l0 t103 true a1_0 a1_1 a1_2 a1_3)) else (if t103 < 2 then (spec_l5Term.j0 k l0 t103 (a1_2 != 0) a1_0 a1_1 a1_2 a1_3) else (spec_l5Term.j0 k l0 t103 false a1_0 a1_1 a1_2 a1_3))))) else (some 5))
theorem spec_l5Term.mono_l : ∀ k, (∀ y0 y1 y2 y3 y4 y5 y6, LeO (spec_l5Term.j0 k y0 y1 y2 y3 y4 y5 y6) (spec_l5Term.j0 (k + 1) y0 y1 y2 y3 y4 y5 y6)) ∧ (∀ y0 y1 y2 y3 y4 y5 y6, LeO (spec_l5Term.j1 k y0 y1 y2 y3 y4 y5 y6) (spec_l5Term.j1 (k + 1) y0 y1 y2 y3 y4 y5 y6)) ∧ (∀ y0 y1 y2 y3 y4 y5 y6, LeO (spec_l5Term.j2 k y0 y1 y2 y3 y4 y5 y6) (spec_l5Term.j2 (k + 1) y0 y1 y2 y3 y4 y5 y6))
 | 0 => ⟨fun _ _ _ _ _ _ _ r h => by simp [spec_l5Term.j0] at h, fun _ _ _ _ _ _ _ r h => by simp [spec_l5Term.j1] at h, fun _ _ _ _ _ _ _ r h => by simp [spec_l5Term.j2] at h⟩
 | k + 1 => by
  obtain ⟨ih0, ih1, ih2⟩ := spec_l5Term.mono_l k
  refine ⟨?_, ?_, ?_⟩
  ·
   intro y0 y1 y2 y3 y4 y5 y6
   unfold spec_l5Term.j0
   repeat' first
   | (with_reducible exact ih0 _ _ _ _ _ _ _)
   | (with_reducible exact ih1 _ _ _ _ _ _ _)
   | (with_reducible exact ih2 _ _ _ _ _ _ _)
   | (with_reducible exact spec_l5Kids.mono _ _)
   | (with_reducible exact LeO.refl _)
   | (with_reducible exact LeO.none _)
   | (with_reducible refine LeO.ite ?_ ?_)
   | (with_reducible refine LeO.bind ?_ (fun _ => ?_))
   | exact ih0 _ _ _ _ _ _ _
   | exact ih1 _ _ _ _ _ _ _
   | exact ih2 _ _ _ _ _ _ _
   | exact spec_l5Kids.mono _ _
   | exact LeO.none _
   | refine LeO.ite ?_ ?_
   | refine LeO.bind ?_ (fun _ => ?_)
  ·
   intro y0 y1 y2 y3 y4 y5 y6
   unfold spec_l5Term.j1
   repeat' first
   | (with_reducible exact ih0 _ _ _ _ _ _ _)
   | (with_reducible exact ih1 _ _ _ _ _ _ _)
   | (with_reducible exact ih2 _ _ _ _ _ _ _)
   | (with_reducible exact spec_l5Kids.mono _ _)
   | (with_reducible exact LeO.refl _)
   | (with_reducible exact LeO.none _)
   | (with_reducible refine LeO.ite ?_ ?_)
   | (with_reducible refine LeO.bind ?_ (fun _ => ?_))
   | exact ih0 _ _ _ _ _ _ _
   | exact ih1 _ _ _ _ _ _ _
   | exact ih2 _ _ _ _ _ _ _
   | exact spec_l5Kids.mono _ _
   | exact LeO.none _
   | refine LeO.ite ?_ ?_
   | refine LeO.bind ?_ (fun _ => ?_)
  ·
   intro y0 y1 y2 y3 y4 y5 y6
   unfold spec_l5Term.j2
   repeat' first
   | (with_reducible exact ih0 _ _ _ _ _ _ _)
   | (with_reducible exact ih1 _ _ _ _ _ _ _)
   | (with_reducible exact ih2 _ _ _ _ _ _ _)
   | (with_reducible exact spec_l5Kids.mono _ _)
   | (with_reducible exact LeO.refl _)
   | (with_reducible exact LeO.none _)
   | (with_reducible refine LeO.ite ?_ ?_)
   | (with_reducible refine LeO.bind ?_ (fun _ => ?_))
   | exact ih0 _ _ _ _ _ _ _
   | exact ih1 _ _ _ _ _ _ _
   | exact ih2 _ _ _ _ _ _ _
   | exact spec_l5Kids.mono _ _
   | exact LeO.none _
   | refine LeO.ite ?_ ?_
   | refine LeO.bind ?_ (fun _ => ?_)
theorem spec_l5Term.mono : ∀ a0 a1 a2 a3 a4 k, LeO (spec_l5Term.f k a0 a1 a2 a3 a4) (spec_l5Term.f (k + 1) a0 a1 a2 a3 a4) := by
 intro a0 a1 a2 a3 a4 k
 obtain ⟨ih0, ih1, ih2⟩ := spec_l5Term.mono_l k
 unfold spec_l5Term.f
 repeat' first
   | (with_reducible exact ih0 _ _ _ _ _ _ _)
   | (with_reducible exact ih1 _ _ _ _ _ _ _)
   | (with_reducible exact ih2 _ _ _ _ _ _ _)
   | (with_reducible exact spec_l5Kids.mono _ _)
   | (with_reducible exact LeO.refl _)
   | (with_reducible exact LeO.none _)
   | (with_reducible refine LeO.ite ?_ ?_)
   | (with_reducible refine LeO.bind ?_ (fun _ => ?_))
   | exact ih0 _ _ _ _ _ _ _
   | exact ih1 _ _ _ _ _ _ _
   | exact ih2 _ _ _ _ _ _ _
   | exact spec_l5Kids.mono _ _
   | exact LeO.none _
   | refine LeO.ite ?_ ?_
   | refine LeO.bind ?_ (fun _ => ?_)
set_option maxHeartbeats 8000000 in
set_option maxRecDepth 100000 in
theorem spec_l5Term.calls (k : Nat) (A0 : Option Addr) (c0 : Nat) (l0 : List (S34)) (a1_0 : Int) (a1_1 : Int) (a1_2 : Int) (a1_3 : Int) (r : Int) (w : World) (hr0 : Kd.C k34 w A0 l0.length l0) (hc0 : l0.length ≤ c0) (h : spec_l5Term.f k l0 a1_0 a1_1 a1_2 a1_3 = some r) :
  Calls Try.prog 27 #[.slice A0 l0.length c0, .agg #[.int .i64 a1_0, .int .i64 a1_1, .int .i64 a1_2, .int .i64 a1_3]] w fun e w' => e = .returned (.int .i64 r) ∧ Below w.heap.size w w' := by
 have hu34 := Try.underlying34
 have HR0 := Aside0.mk hr0
 have HC0 := Aside0.mk hc0
 clear hr0 hc0
 have HB := Aside0.mk (Below.refl w.heap.size w)
 have H : ((spec_l1In.f a1_0 1 7).bind fun t102 => (if t102 = true then ((spec_l5Kids.f k a1_0).bind fun t103 => (if t103 > 0 then (if a1_3 = 0 then (if t103 < 1 then (if a1_1 = 0 then (if t103 < 2 then (spec_l5Term.j0 k l0 t103 (a1_2 != 0) a1_0 a1_1 a1_2 a1_3) else (spec_l5Term.j0 k l0 t103 false a1_0 a1_1 a1_2 a1_3)) else (spec_l5Term.j0 k l0 t103 true a1_0 a1_1 a1_2 a1_3)) else (if t103 < 2 then (spec_l5Term.j0 k l0 t103 (a1_2 != 0) a1_0 a1_1 a1_2 a1_3) else (spec_l5Term.j0 k l0 t103 false a1_0 a1_1 a1_2 a1_3))) else (spec_l5Term.j0 k l0 t103 true a1_0 a1_1 a1_2 a1_3)) else (if t103 < 1 then (if a1_1 = 0 then (if t103 < 2 then (spec_l5Term.j0 k l0 t103 (a1_2 != 0) a1_0 a1_1 a1_2 a1_3) else (spec_l5Term.j0 k l0 t103 false a1_0 a1_1 a1_2 a1_3)) else (spec_l5Term.j0 k l0 t103 true a1_0 a1_1 a1_2 a1_3)) else (if t103 < 2 then (spec_l5Term.j0 k l0 t103 (a1_2 != 0) a1_0 a1_1 a1_2 a1_3) else (spec_l5Term.j0 k l0 t103 false a1_0 a1_1 a1_2 a1_3))))) else (some 5))) = some r := h
 clear h
 replace H := Option.bind_eq_some_iff.mp H
 obtain ⟨t102, A30, H⟩ := H
 replace H : (if t102 = true then ((spec_l5Kids.f k a1_0).bind fun t103 => (if t103 > 0 then (if a1_3 = 0 then (if t103 < 1 then (if a1_1 = 0 then (if t103 < 2 then (spec_l5Term.j0 k l0 t103 (a1_2 != 0) a1_0 a1_1 a1_2 a1_3) else (spec_l5Term.j0 k l0 t103 false a1_0 a1_1 a1_2 a1_3)) else (spec_l5Term.j0 k l0 t103 true a1_0 a1_1 a1_2 a1_3)) else (if t103 < 2 then (spec_l5Term.j0 k l0 t103 (a1_2 != 0) a1_0 a1_1 a1_2 a1_3) else (spec_l5Term.j0 k l0 t103 false a1_0 a1_1 a1_2 a1_3))) else (spec_l5Term.j0 k l0 t103 true a1_0 a1_1 a1_2 a1_3)) else (if t103 < 1 then (if a1_1 = 0 then (if t103 < 2 then (spec_l5Term.j0 k l0 t103 (a1_2 != 0) a1_0 a1_1 a1_2 a1_3) else (spec_l5Term.j0 k l0 t103 false a1_0 a1_1 a1_2 a1_3)) else (spec_l5Term.j0 k l0 t103 true a1_0 a1_1 a1_2 a1_3)) else (if t103 < 2 then (spec_l5Term.j0 k l0 t103 (a1_2 != 0) a1_0 a1_1 a1_2 a1_3) else (spec_l5Term.j0 k l0 t103 false a1_0 a1_1 a1_2 a1_3))))) else (some 5)) = some r := H
 have A3 := Aside0.mk A30
 clear A30
 by_cases c4 : t102 = true
 ·
  subst c4
  have H1 : ((spec_l5Kids.f k a1_0).bind fun t103 => (if t103 > 0 then (if a1_3 = 0 then (if t103 < 1 then (if a1_1 = 0 then (if t103 < 2 then (spec_l5Term.j0 k l0 t103 (a1_2 != 0) a1_0 a1_1 a1_2 a1_3) else (spec_l5Term.j0 k l0 t103 false a1_0 a1_1 a1_2 a1_3)) else (spec_l5Term.j0 k l0 t103 true a1_0 a1_1 a1_2 a1_3)) else (if t103 < 2 then (spec_l5Term.j0 k l0 t103 (a1_2 != 0) a1_0 a1_1 a1_2 a1_3) else (spec_l5Term.j0 k l0 t103 false a1_0 a1_1 a1_2 a1_3))) else (spec_l5Term.j0 k l0 t103 true a1_0 a1_1 a1_2 a1_3)) else (if t103 < 1 then (if a1_1 = 0 then (if t103 < 2 then (spec_l5Term.j0 k l0 t103 (a1_2 != 0) a1_0 a1_1 a1_2 a1_3) else (spec_l5Term.j0 k l0 t103 false a1_0 a1_1 a1_2 a1_3)) else (spec_l5Term.j0 k l0 t103 true a1_0 a1_1 a1_2 a1_3)) else (if t103 < 2 then (spec_l5Term.j0 k l0 t103 (a1_2 != 0) a1_0 a1_1 a1_2 a1_3) else (spec_l5Term.j0 k l0 t103 false a1_0 a1_1 a1_2 a1_3))))) = some r := by rw [if_pos rfl] at H; exact H
  clear H
  have H := H1
  clear H1
  replace H := Option.bind_eq_some_iff.mp H
  obtain ⟨t103, A50, H⟩ := H
  replace H : (if t103 > 0 then (if a1_3 = 0 then (if t103 < 1 then (if a1_1 = 0 then (if t103 < 2 then (spec_l5Term.j0 k l0 t103 (a1_2 != 0) a1_0 a1_1 a1_2 a1_3) else (spec_l5Term.j0 k l0 t103 false a1_0 a1_1 a1_2 a1_3)) else (spec_l5Term.j0 k l0 t103 true a1_0 a1_1 a1_2 a1_3)) else (if t103 < 2 then (spec_l5Term.j0 k l0 t103 (a1_2 != 0) a1_0 a1_1 a1_2 a1_3) else (spec_l5Term.j0 k l0 t103 false a1_0 a1_1 a1_2 a1_3))) else (spec_l5Term.j0 k l0 t103 true a1_0 a1_1 a1_2 a1_3)) else (if t103 < 1 then (if a1_1 = 0 then (if t103 < 2 then (spec_l5Term.j0 k l0 t103 (a1_2 != 0) a1_0 a1_1 a1_2 a1_3) else (spec_l5Term.j0 k l0 t103 false a1_0 a1_1 a1_2 a1_3)) else (spec_l5Term.j0 k l0 t103 true a1_0 a1_1 a1_2 a1_3)) else (if t103 < 2 then (spec_l5Term.j0 k l0 t103 (a1_2 != 0) a1_0 a1_1 a1_2 a1_3) else (spec_l5Term.j0 k l0 t103 false a1_0 a1_1 a1_2 a1_3)))) = some r := H
  have A5 := Aside0.mk A50
  clear A50
  have HC6 := Aside0.mk H
  clear H
  go_enter Try.func27, Try.ntmps27
  go_upto_region 4 with (first | ((with_reducible refine gate_dst (N := 3) rfl ?_); refine box_event ?hg (N := 3) ?hd (cs := #[.int .i64 a1_0, .int .i64 a1_1, .int .i64 a1_2, .int .i64 a1_3]) (t := 34) ?hr ?_; (case hd => rfl); (case hg => rfl); (case hr => first | (go_simp; done) | (go_simp; rfl)); intro gb101 hg w7 hbox hb; have n0_ := Aside0.mk (below_step (by repeat (first | (with_reducible first | exact HB.out | apply below_alloc | apply pw_below_drewN | apply below_drew1) | exact HB.out)) hb); have n1_ := Aside0.mk (hbox); have n2_ := Aside0.mk ((by rw [hg]; exact (below_size (by repeat (first | (with_reducible first | exact HB.out | apply below_alloc | apply pw_below_drewN | apply below_drew1) | exact HB.out))) : w.heap.size ≤ gb101)); have n3_ := Aside0.mk ((by rw [hg]; exact (below_size (by repeat (first | (with_reducible first | exact HB.out | apply below_alloc | apply pw_below_drewN | apply below_drew1) | exact HB.out))) : w.heap.size ≤ gb101)); clear HB; have HB := n0_; have BK101 := n1_; have GW101 := n2_; have GE101 := n3_; clear n0_ n1_ n2_ n3_; clear hb hbox hg; obtain ⟨hcz8_0, hcz8_1, hcz8_2, hcz8_3⟩ := blk_c4 BK101.out; obtain ⟨hfz8_0, hfz8_1, hfz8_2, hfz8_3⟩ := blk_f4 BK101.out) | ((with_reducible refine gate_callee (f := 29) rfl ?_); refine goesL_ (some 9) rfl rfl Try.func29 (by kernel_rfl) rfl #[.int .i64 a1_0, .int .i64 1, .int .i64 7] rfl (by (try simp only [List.map_toArray, List.map_cons, List.map_nil]); first | done | rfl | (simp only [List.length_drop, List.length_take]; rfl)) ?_; (with_reducible refine (spec_l1In.calls a1_0 1 7 true _ A3.out).mono ?_); rintro e w' ⟨rfl, ⟨nd, rfl⟩⟩; refine ⟨_, rfl, ?_⟩) | ((with_reducible refine gate_callee (f := 19) rfl ?_); refine goesL_ (some 13) rfl rfl Try.func19 (by kernel_rfl) rfl #[.int .i64 a1_0] rfl (by (try simp only [List.map_toArray, List.map_cons, List.map_nil]); first | done | rfl | (simp only [List.length_drop, List.length_take]; rfl)) ?_; (with_reducible refine (spec_l5Kids.calls k a1_0 t103 _ A5.out).mono ?_); rintro e w' ⟨rfl, ⟨nd, rfl⟩⟩; refine ⟨_, rfl, ?_⟩))
  (try simp only [Act.put, List.setIfInBounds_toArray, List.set_cons_zero, List.set_cons_succ])
  go_cut [38] (fun v38 wc => ∃ (kq : Nat) (x38_5 : Bool), v38 = .bool x38_5 ∧ Aside0 (spec_l5Term.j0 kq l0 t103 x38_5 a1_0 a1_1 a1_2 a1_3 = some r) ∧ Aside0 (kq ≤ k) ∧ Aside0 (wc.heap[gb101]? = some (.cells #[.int .i64 a1_0, .int .i64 a1_1, .int .i64 a1_2, .int .i64 a1_3] 34 (0, 0))) ∧ Aside0 (Below w.heap.size w wc))
  case first =>
   have H := HC6.out
   clear HC6
   by_cases c9 : t103 > 0
   ·
    rw [if_pos c9] at H
    have c9b0 : decide (0 < t103) = true := decide_eq_true c9
    clear c9
    (first | rw [c9b0] | (simp only [i64_w, i32_w]; rw [c9b0]) | skip)
    by_cases c10 : a1_3 = 0
    ·
     rw [if_pos c10] at H
     have c10b0 : (a1_3 == 0) = true := beq_iff_eq.mpr c10
     have c10b1 : (a1_3 != 0) = false := bne_eq_false_iff_eq.mpr c10
     clear c10
     by_cases c11 : t103 < 1
     ·
      rw [if_pos c11] at H
      have c11b0 : decide (t103 < 1) = true := decide_eq_true c11
      clear c11
      by_cases c12 : a1_1 = 0
      ·
       rw [if_pos c12] at H
       have c12b0 : (a1_1 == 0) = true := beq_iff_eq.mpr c12
       have c12b1 : (a1_1 != 0) = false := bne_eq_false_iff_eq.mpr c12
       clear c12
       by_cases c13 : t103 < 2
       ·
        rw [if_pos c13] at H
        have c13b0 : decide (t103 < 2) = true := decide_eq_true c13
        clear c13
        have H' := Aside0.mk H
        clear H
        obtain ⟨hcz14_0, hcz14_1, hcz14_2, hcz14_3⟩ := blk_c4 BK101.out
        obtain ⟨hfz14_0, hfz14_1, hfz14_2, hfz14_3⟩ := blk_f4 BK101.out
        go_wp2
        go_meet
        case rel => exact ⟨_, ((a1_2 != 0)), (by first | rfl | (simp; done) | (simp [*]; done)), H', ⟨by first | omega | exact Nat.le_refl _⟩, ⟨by (with_reducible repeat (first | refine blk_drewN ?_ _ | refine blk_drew ?_ | refine blk_alloc ?_ _)); exact BK101.out⟩, ⟨by repeat (first | (with_reducible first | exact HB.out | apply below_alloc | apply pw_below_drewN | apply below_drew1 | refine below_set ?_ GE101.out) | exact HB.out)⟩⟩
       ·
        rw [if_neg c13] at H
        have c13b0 : decide (t103 < 2) = false := decide_eq_false c13
        clear c13
        have H' := Aside0.mk H
        clear H
        obtain ⟨hcz15_0, hcz15_1, hcz15_2, hcz15_3⟩ := blk_c4 BK101.out
        obtain ⟨hfz15_0, hfz15_1, hfz15_2, hfz15_3⟩ := blk_f4 BK101.out
        go_wp2
        go_meet
        case rel => exact ⟨_, (false), (by first | rfl | (simp; done) | (simp [*]; done)), H', ⟨by first | omega | exact Nat.le_refl _⟩, ⟨by (with_reducible repeat (first | refine blk_drewN ?_ _ | refine blk_drew ?_ | refine blk_alloc ?_ _)); exact BK101.out⟩, ⟨by repeat (first | (with_reducible first | exact HB.out | apply below_alloc | apply pw_below_drewN | apply below_drew1 | refine below_set ?_ GE101.out) | exact HB.out)⟩⟩
      ·
       rw [if_neg c12] at H
       have c12b0 : (a1_1 == 0) = false := beq_eq_false_iff_ne.mpr c12
       have c12b1 : (a1_1 != 0) = true := bne_iff_ne.mpr c12
       have H' := Aside0.mk H
       clear H
       obtain ⟨hcz16_0, hcz16_1, hcz16_2, hcz16_3⟩ := blk_c4 BK101.out
       obtain ⟨hfz16_0, hfz16_1, hfz16_2, hfz16_3⟩ := blk_f4 BK101.out
       go_wp2
       go_meet
       case rel => exact ⟨_, (true), (by first | rfl | (simp; done) | (simp [*]; done)), H', ⟨by first | omega | exact Nat.le_refl _⟩, ⟨by (with_reducible repeat (first | refine blk_drewN ?_ _ | refine blk_drew ?_ | refine blk_alloc ?_ _)); exact BK101.out⟩, ⟨by repeat (first | (with_reducible first | exact HB.out | apply below_alloc | apply pw_below_drewN | apply below_drew1 | refine below_set ?_ GE101.out) | exact HB.out)⟩⟩
     ·
      rw [if_neg c11] at H
      have c11b0 : decide (t103 < 1) = false := decide_eq_false c11
      clear c11
      by_cases c17 : t103 < 2
      ·
       rw [if_pos c17] at H
       have c17b0 : decide (t103 < 2) = true := decide_eq_true c17
       clear c17
       have H' := Aside0.mk H
       clear H
       obtain ⟨hcz18_0, hcz18_1, hcz18_2, hcz18_3⟩ := blk_c4 BK101.out
       obtain ⟨hfz18_0, hfz18_1, hfz18_2, hfz18_3⟩ := blk_f4 BK101.out
       go_wp2
       go_meet
       case rel => exact ⟨_, ((a1_2 != 0)), (by first | rfl | (simp; done) | (simp [*]; done)), H', ⟨by first | omega | exact Nat.le_refl _⟩, ⟨by (with_reducible repeat (first | refine blk_drewN ?_ _ | refine blk_drew ?_ | refine blk_alloc ?_ _)); exact BK101.out⟩, ⟨by repeat (first | (with_reducible first | exact HB.out | apply below_alloc | apply pw_below_drewN | apply below_drew1 | refine below_set ?_ GE101.out) | exact HB.out)⟩⟩
      ·
       rw [if_neg c17] at H
       have c17b0 : decide (t103 < 2) = false := decide_eq_false c17
       clear c17
       have H' := Aside0.mk H
       clear H
       obtain ⟨hcz19_0, hcz19_1, hcz19_2, hcz19_3⟩ := blk_c4 BK101.out
       obtain ⟨hfz19_0, hfz19_1, hfz19_2, hfz19_3⟩ := blk_f4 BK101.out
       go_wp2
       go_meet
       case rel => exact ⟨_, (false), (by first | rfl | (simp; done) | (simp [*]; done)), H', ⟨by first | omega | exact Nat.le_refl _⟩, ⟨by (with_reducible repeat (first | refine blk_drewN ?_ _ | refine blk_drew ?_ | refine blk_alloc ?_ _)); exact BK101.out⟩, ⟨by repeat (first | (with_reducible first | exact HB.out | apply below_alloc | apply pw_below_drewN | apply below_drew1 | refine below_set ?_ GE101.out) | exact HB.out)⟩⟩
    ·
     rw [if_neg c10] at H
     have c10b0 : (a1_3 == 0) = false := beq_eq_false_iff_ne.mpr c10
     have c10b1 : (a1_3 != 0) = true := bne_iff_ne.mpr c10
     have H' := Aside0.mk H
     clear H
     obtain ⟨hcz20_0, hcz20_1, hcz20_2, hcz20_3⟩ := blk_c4 BK101.out
     obtain ⟨hfz20_0, hfz20_1, hfz20_2, hfz20_3⟩ := blk_f4 BK101.out
     go_wp2
     go_meet
     case rel => exact ⟨_, (true), (by first | rfl | (simp; done) | (simp [*]; done)), H', ⟨by first | omega | exact Nat.le_refl _⟩, ⟨by (with_reducible repeat (first | refine blk_drewN ?_ _ | refine blk_drew ?_ | refine blk_alloc ?_ _)); exact BK101.out⟩, ⟨by repeat (first | (with_reducible first | exact HB.out | apply below_alloc | apply pw_below_drewN | apply below_drew1 | refine below_set ?_ GE101.out) | exact HB.out)⟩⟩
   ·
    rw [if_neg c9] at H
    have c9b0 : decide (0 < t103) = false := decide_eq_false c9
    clear c9
    (first | rw [c9b0] | (simp only [i64_w, i32_w]; rw [c9b0]) | skip)
    by_cases c21 : t103 < 1
    ·
     rw [if_pos c21] at H
     have c21b0 : decide (t103 < 1) = true := decide_eq_true c21
     clear c21
     by_cases c22 : a1_1 = 0
     ·
      rw [if_pos c22] at H
      have c22b0 : (a1_1 == 0) = true := beq_iff_eq.mpr c22
      have c22b1 : (a1_1 != 0) = false := bne_eq_false_iff_eq.mpr c22
      clear c22
      by_cases c23 : t103 < 2
      ·
       rw [if_pos c23] at H
       have c23b0 : decide (t103 < 2) = true := decide_eq_true c23
       clear c23
       have H' := Aside0.mk H
       clear H
       obtain ⟨hcz24_0, hcz24_1, hcz24_2, hcz24_3⟩ := blk_c4 BK101.out
       obtain ⟨hfz24_0, hfz24_1, hfz24_2, hfz24_3⟩ := blk_f4 BK101.out
       go_wp2
       go_meet
       case rel => exact ⟨_, ((a1_2 != 0)), (by first | rfl | (simp; done) | (simp [*]; done)), H', ⟨by first | omega | exact Nat.le_refl _⟩, ⟨by (with_reducible repeat (first | refine blk_drewN ?_ _ | refine blk_drew ?_ | refine blk_alloc ?_ _)); exact BK101.out⟩, ⟨by repeat (first | (with_reducible first | exact HB.out | apply below_alloc | apply pw_below_drewN | apply below_drew1 | refine below_set ?_ GE101.out) | exact HB.out)⟩⟩
      ·
       rw [if_neg c23] at H
       have c23b0 : decide (t103 < 2) = false := decide_eq_false c23
       clear c23
       have H' := Aside0.mk H
       clear H
       obtain ⟨hcz25_0, hcz25_1, hcz25_2, hcz25_3⟩ := blk_c4 BK101.out
       obtain ⟨hfz25_0, hfz25_1, hfz25_2, hfz25_3⟩ := blk_f4 BK101.out
       go_wp2
       go_meet
       case rel => exact ⟨_, (false), (by first | rfl | (simp; done) | (simp [*]; done)), H', ⟨by first | omega | exact Nat.le_refl _⟩, ⟨by (with_reducible repeat (first | refine blk_drewN ?_ _ | refine blk_drew ?_ | refine blk_alloc ?_ _)); exact BK101.out⟩, ⟨by repeat (first | (with_reducible first | exact HB.out | apply below_alloc | apply pw_below_drewN | apply below_drew1 | refine below_set ?_ GE101.out) | exact HB.out)⟩⟩
     ·
      rw [if_neg c22] at H
      have c22b0 : (a1_1 == 0) = false := beq_eq_false_iff_ne.mpr c22
      have c22b1 : (a1_1 != 0) = true := bne_iff_ne.mpr c22
      have H' := Aside0.mk H
      clear H
      obtain ⟨hcz26_0, hcz26_1, hcz26_2, hcz26_3⟩ := blk_c4 BK101.out
      obtain ⟨hfz26_0, hfz26_1, hfz26_2, hfz26_3⟩ := blk_f4 BK101.out
      go_wp2
      go_meet
      case rel => exact ⟨_, (true), (by first | rfl | (simp; done) | (simp [*]; done)), H', ⟨by first | omega | exact Nat.le_refl _⟩, ⟨by (with_reducible repeat (first | refine blk_drewN ?_ _ | refine blk_drew ?_ | refine blk_alloc ?_ _)); exact BK101.out⟩, ⟨by repeat (first | (with_reducible first | exact HB.out | apply below_alloc | apply pw_below_drewN | apply below_drew1 | refine below_set ?_ GE101.out) | exact HB.out)⟩⟩
    ·
     rw [if_neg c21] at H
     have c21b0 : decide (t103 < 1) = false := decide_eq_false c21
     clear c21
     by_cases c27 : t103 < 2
     ·
      rw [if_pos c27] at H
      have c27b0 : decide (t103 < 2) = true := decide_eq_true c27
      clear c27
      have H' := Aside0.mk H
      clear H
      obtain ⟨hcz28_0, hcz28_1, hcz28_2, hcz28_3⟩ := blk_c4 BK101.out
      obtain ⟨hfz28_0, hfz28_1, hfz28_2, hfz28_3⟩ := blk_f4 BK101.out
      go_wp2
      go_meet
      case rel => exact ⟨_, ((a1_2 != 0)), (by first | rfl | (simp; done) | (simp [*]; done)), H', ⟨by first | omega | exact Nat.le_refl _⟩, ⟨by (with_reducible repeat (first | refine blk_drewN ?_ _ | refine blk_drew ?_ | refine blk_alloc ?_ _)); exact BK101.out⟩, ⟨by repeat (first | (with_reducible first | exact HB.out | apply below_alloc | apply pw_below_drewN | apply below_drew1 | refine below_set ?_ GE101.out) | exact HB.out)⟩⟩
     ·
      rw [if_neg c27] at H
      have c27b0 : decide (t103 < 2) = false := decide_eq_false c27
      clear c27
      have H' := Aside0.mk H
      clear H
      go_wp2
      go_meet
      case rel => exact ⟨_, (false), (by first | rfl | (simp; done) | (simp [*]; done)), H', ⟨by first | omega | exact Nat.le_refl _⟩, ⟨by (with_reducible repeat (first | refine blk_drewN ?_ _ | refine blk_drew ?_ | refine blk_alloc ?_ _)); exact BK101.out⟩, ⟨by repeat (first | (with_reducible first | exact HB.out | apply below_alloc | apply pw_below_drewN | apply below_drew1 | refine below_set ?_ GE101.out) | exact HB.out)⟩⟩
  case rest =>
   clear HC6
   try clear c1; try clear c2; try clear p2; try clear c4; try clear c9; try clear c9b0; try clear c10; try clear c10b0; try clear c10b1; try clear c11; try clear c11b0; try clear c12; try clear c12b0; try clear c12b1; try clear c13; try clear c13b0; try clear c17; try clear c17b0; try clear c19; try clear c21; try clear c21b0; try clear c22; try clear c22b0; try clear c22b1; try clear c23; try clear c23b0; try clear c27; try clear c27b0; try clear hcz14_0; try clear hcz14_1; try clear hcz14_2; try clear hcz14_3; try clear hcz15_0; try clear hcz15_1; try clear hcz15_2; try clear hcz15_3; try clear hcz16_0; try clear hcz16_1; try clear hcz16_2; try clear hcz16_3; try clear hcz18_0; try clear hcz18_1; try clear hcz18_2; try clear hcz18_3; try clear hcz19_0; try clear hcz19_1; try clear hcz19_2; try clear hcz19_3; try clear hcz20_0; try clear hcz20_1; try clear hcz20_2; try clear hcz20_3; try clear hcz24_0; try clear hcz24_1; try clear hcz24_2; try clear hcz24_3; try clear hcz25_0; try clear hcz25_1; try clear hcz25_2; try clear hcz25_3; try clear hcz26_0; try clear hcz26_1; try clear hcz26_2; try clear hcz26_3; try clear hcz28_0; try clear hcz28_1; try clear hcz28_2; try clear hcz28_3; try clear hcz8_0; try clear hcz8_1; try clear hcz8_2; try clear hcz8_3; try clear hfz14_0; try clear hfz14_1; try clear hfz14_2; try clear hfz14_3; try clear hfz15_0; try clear hfz15_1; try clear hfz15_2; try clear hfz15_3; try clear hfz16_0; try clear hfz16_1; try clear hfz16_2; try clear hfz16_3; try clear hfz18_0; try clear hfz18_1; try clear hfz18_2; try clear hfz18_3; try clear hfz19_0; try clear hfz19_1; try clear hfz19_2; try clear hfz19_3; try clear hfz20_0; try clear hfz20_1; try clear hfz20_2; try clear hfz20_3; try clear hfz24_0; try clear hfz24_1; try clear hfz24_2; try clear hfz24_3; try clear hfz25_0; try clear hfz25_1; try clear hfz25_2; try clear hfz25_3; try clear hfz26_0; try clear hfz26_1; try clear hfz26_2; try clear hfz26_3; try clear hfz28_0; try clear hfz28_1; try clear hfz28_2; try clear hfz28_3; try clear hfz8_0; try clear hfz8_1; try clear hfz8_2; try clear hfz8_3
   obtain ⟨kq, x38_5, rfl, HA, HJ5, BK101, HB⟩ := hcut
   cases kq with
   | zero => exact absurd HA.out (by simp [spec_l5Term.j0])
   | succ kj5 =>
    have H := HA.out
    clear HA
    simp only [spec_l5Term.j0] at H
    by_cases c29 : x38_5 = true
    ·
     subst c29
     have H1 : (some 1) = some r := by rw [if_pos rfl] at H; exact H
     clear H
     have H := H1
     clear H1
     obtain rfl := Option.some.inj H
     go_wp2
     go_ret
     exact ⟨by first | rfl | (simp [errW_none, errW_some] <;> rfl) | (simp [*, errW_none, errW_some] <;> rfl), by repeat (first | (with_reducible first | exact HB.out | apply below_alloc | apply pw_below_drewN | apply below_drew1 | refine below_set ?_ GE101.out) | exact HB.out)⟩
    ·
     replace c29 := Bool.eq_false_iff.mpr c29
     subst c29
     have H1 : ((spec_l1In.f a1_3 0 9999).bind fun t104 => (if t104 = true then (if t103 > 0 then ((spec_l1In.f a1_1 0 (wrap64 ((l0.length : Int) - 1))).bind fun t105 => (if t105 = true then (if t103 > 1 then ((spec_l1In.f a1_2 0 (wrap64 ((l0.length : Int) - 1))).bind fun t106 => (spec_l5Term.j1 kj5 l0 t103 (!t106) a1_0 a1_1 a1_2 a1_3)) else (spec_l5Term.j1 kj5 l0 t103 false a1_0 a1_1 a1_2 a1_3)) else (spec_l5Term.j1 kj5 l0 t103 true a1_0 a1_1 a1_2 a1_3))) else (if t103 > 1 then ((spec_l1In.f a1_2 0 (wrap64 ((l0.length : Int) - 1))).bind fun t107 => (spec_l5Term.j1 kj5 l0 t103 (!t107) a1_0 a1_1 a1_2 a1_3)) else (spec_l5Term.j1 kj5 l0 t103 false a1_0 a1_1 a1_2 a1_3))) else (spec_l5Term.j1 kj5 l0 t103 true a1_0 a1_1 a1_2 a1_3))) = some r := by rw [if_neg (show ¬ (false = true) by decide)] at H; exact H
     clear H
     have H := H1
     clear H1
     have HC30 := Aside0.mk H
     clear H
     go_upto_region 7 with (fail)
     go_cut [68] (fun v68 wc => ∃ (kq : Nat) (x68_29 : Bool), v68 = .bool x68_29 ∧ Aside0 (spec_l5Term.j1 kq l0 t103 x68_29 a1_0 a1_1 a1_2 a1_3 = some r) ∧ Aside0 (kq ≤ kj5) ∧ Aside0 (wc.heap[gb101]? = some (.cells #[.int .i64 a1_0, .int .i64 a1_1, .int .i64 a1_2, .int .i64 a1_3] 34 (0, 0))) ∧ Aside0 (Below w.heap.size w wc))
     case first =>
      have H := HC30.out
      clear HC30
      replace H := Option.bind_eq_some_iff.mp H
      obtain ⟨t104, A310, H⟩ := H
      replace H : (if t104 = true then (if t103 > 0 then ((spec_l1In.f a1_1 0 (wrap64 ((l0.length : Int) - 1))).bind fun t105 => (if t105 = true then (if t103 > 1 then ((spec_l1In.f a1_2 0 (wrap64 ((l0.length : Int) - 1))).bind fun t106 => (spec_l5Term.j1 kj5 l0 t103 (!t106) a1_0 a1_1 a1_2 a1_3)) else (spec_l5Term.j1 kj5 l0 t103 false a1_0 a1_1 a1_2 a1_3)) else (spec_l5Term.j1 kj5 l0 t103 true a1_0 a1_1 a1_2 a1_3))) else (if t103 > 1 then ((spec_l1In.f a1_2 0 (wrap64 ((l0.length : Int) - 1))).bind fun t107 => (spec_l5Term.j1 kj5 l0 t103 (!t107) a1_0 a1_1 a1_2 a1_3)) else (spec_l5Term.j1 kj5 l0 t103 false a1_0 a1_1 a1_2 a1_3))) else (spec_l5Term.j1 kj5 l0 t103 true a1_0 a1_1 a1_2 a1_3)) = some r := H
      have A31 := Aside0.mk A310
      clear A310
      by_cases c32 : t104 = true
      ·
       subst c32
       have H1 : (if t103 > 0 then ((spec_l1In.f a1_1 0 (wrap64 ((l0.length : Int) - 1))).bind fun t105 => (if t105 = true then (if t103 > 1 then ((spec_l1In.f a1_2 0 (wrap64 ((l0.length : Int) - 1))).bind fun t106 => (spec_l5Term.j1 kj5 l0 t103 (!t106) a1_0 a1_1 a1_2 a1_3)) else (spec_l5Term.j1 kj5 l0 t103 false a1_0 a1_1 a1_2 a1_3)) else (spec_l5Term.j1 kj5 l0 t103 true a1_0 a1_1 a1_2 a1_3))) else (if t103 > 1 then ((spec_l1In.f a1_2 0 (wrap64 ((l0.length : Int) - 1))).bind fun t107 => (spec_l5Term.j1 kj5 l0 t103 (!t107) a1_0 a1_1 a1_2 a1_3)) else (spec_l5Term.j1 kj5 l0 t103 false a1_0 a1_1 a1_2 a1_3))) = some r := by rw [if_pos rfl] at H; exact H
       clear H
       have H := H1
       clear H1
       by_cases c33 : t103 > 0
       ·
        rw [if_pos c33] at H
        have c33b0 : decide (0 < t103) = true := decide_eq_true c33
        clear c33
        (first | rw [c33b0] | (simp only [i64_w, i32_w]; rw [c33b0]) | skip)
        replace H := Option.bind_eq_some_iff.mp H
        obtain ⟨t105, A340, H⟩ := H
        replace H : (if t105 = true then (if t103 > 1 then ((spec_l1In.f a1_2 0 (wrap64 ((l0.length : Int) - 1))).bind fun t106 => (spec_l5Term.j1 kj5 l0 t103 (!t106) a1_0 a1_1 a1_2 a1_3)) else (spec_l5Term.j1 kj5 l0 t103 false a1_0 a1_1 a1_2 a1_3)) else (spec_l5Term.j1 kj5 l0 t103 true a1_0 a1_1 a1_2 a1_3)) = some r := H
        have A34 := Aside0.mk A340
        clear A340
        by_cases c35 : t105 = true
        ·
         subst c35
         have H1 : (if t103 > 1 then ((spec_l1In.f a1_2 0 (wrap64 ((l0.length : Int) - 1))).bind fun t106 => (spec_l5Term.j1 kj5 l0 t103 (!t106) a1_0 a1_1 a1_2 a1_3)) else (spec_l5Term.j1 kj5 l0 t103 false a1_0 a1_1 a1_2 a1_3)) = some r := by rw [if_pos rfl] at H; exact H
         clear H
         have H := H1
         clear H1
         by_cases c36 : t103 > 1
         ·
          rw [if_pos c36] at H
          have c36b0 : decide (1 < t103) = true := decide_eq_true c36
          clear c36
          replace H := Option.bind_eq_some_iff.mp H
          obtain ⟨t106, A370, H⟩ := H
          replace H : (spec_l5Term.j1 kj5 l0 t103 (!t106) a1_0 a1_1 a1_2 a1_3) = some r := H
          have A37 := Aside0.mk A370
          clear A370
          have H' := Aside0.mk H
          clear H
          obtain ⟨hcz38_0, hcz38_1, hcz38_2, hcz38_3⟩ := blk_c4 BK101.out
          obtain ⟨hfz38_0, hfz38_1, hfz38_2, hfz38_3⟩ := blk_f4 BK101.out
          go_wp2_with (first | ((with_reducible refine gate_callee (f := 29) rfl ?_); refine goesL_ (some 43) rfl rfl Try.func29 (by kernel_rfl) rfl #[.int .i64 a1_3, .int .i64 0, .int .i64 9999] rfl (by (try simp only [List.map_toArray, List.map_cons, List.map_nil]); first | done | rfl | (simp only [List.length_drop, List.length_take]; rfl)) ?_; (with_reducible refine (spec_l1In.calls a1_3 0 9999 true _ A31.out).mono ?_); rintro e w' ⟨rfl, ⟨nd, rfl⟩⟩; refine ⟨_, rfl, ?_⟩) | (go_at_call 29; (with_reducible refine (spec_l1In.calls a1_1 0 (wrap64 ((l0.length : Int) - 1)) true _ A34.out).mono ?_); rintro e w' ⟨rfl, ⟨nd, rfl⟩⟩) | (go_at_call 29; (with_reducible refine (spec_l1In.calls a1_2 0 (wrap64 ((l0.length : Int) - 1)) t106 _ A37.out).mono ?_); rintro e w' ⟨rfl, ⟨nd, rfl⟩⟩))
          go_meet
          case rel => exact ⟨_, (!t106), (by first | rfl | (simp; done) | (simp [*]; done)), H', ⟨by have := HJ5.out; first | omega | exact Nat.le_refl _⟩, ⟨by (with_reducible repeat (first | refine blk_drewN ?_ _ | refine blk_drew ?_ | refine blk_alloc ?_ _)); exact BK101.out⟩, ⟨by repeat (first | (with_reducible first | exact HB.out | apply below_alloc | apply pw_below_drewN | apply below_drew1 | refine below_set ?_ GE101.out) | exact HB.out)⟩⟩
         ·
          rw [if_neg c36] at H
          have c36b0 : decide (1 < t103) = false := decide_eq_false c36
          clear c36
          have H' := Aside0.mk H
          clear H
          obtain ⟨hcz39_0, hcz39_1, hcz39_2, hcz39_3⟩ := blk_c4 BK101.out
          obtain ⟨hfz39_0, hfz39_1, hfz39_2, hfz39_3⟩ := blk_f4 BK101.out
          go_wp2_with (first | ((with_reducible refine gate_callee (f := 29) rfl ?_); refine goesL_ (some 43) rfl rfl Try.func29 (by kernel_rfl) rfl #[.int .i64 a1_3, .int .i64 0, .int .i64 9999] rfl (by (try simp only [List.map_toArray, List.map_cons, List.map_nil]); first | done | rfl | (simp only [List.length_drop, List.length_take]; rfl)) ?_; (with_reducible refine (spec_l1In.calls a1_3 0 9999 true _ A31.out).mono ?_); rintro e w' ⟨rfl, ⟨nd, rfl⟩⟩; refine ⟨_, rfl, ?_⟩) | (go_at_call 29; (with_reducible refine (spec_l1In.calls a1_1 0 (wrap64 ((l0.length : Int) - 1)) true _ A34.out).mono ?_); rintro e w' ⟨rfl, ⟨nd, rfl⟩⟩))
          go_meet
          case rel => exact ⟨_, (false), (by first | rfl | (simp; done) | (simp [*]; done)), H', ⟨by have := HJ5.out; first | omega | exact Nat.le_refl _⟩, ⟨by (with_reducible repeat (first | refine blk_drewN ?_ _ | refine blk_drew ?_ | refine blk_alloc ?_ _)); exact BK101.out⟩, ⟨by repeat (first | (with_reducible first | exact HB.out | apply below_alloc | apply pw_below_drewN | apply below_drew1 | refine below_set ?_ GE101.out) | exact HB.out)⟩⟩
        ·
         replace c35 := Bool.eq_false_iff.mpr c35
         subst c35
         have H1 : (spec_l5Term.j1 kj5 l0 t103 true a1_0 a1_1 a1_2 a1_3) = some r := by rw [if_neg (show ¬ (false = true) by decide)] at H; exact H
         clear H
         have H := H1
         clear H1
         have H' := Aside0.mk H
         clear H
         obtain ⟨hcz40_0, hcz40_1, hcz40_2, hcz40_3⟩ := blk_c4 BK101.out
         obtain ⟨hfz40_0, hfz40_1, hfz40_2, hfz40_3⟩ := blk_f4 BK101.out
         go_wp2_with (first | ((with_reducible refine gate_callee (f := 29) rfl ?_); refine goesL_ (some 43) rfl rfl Try.func29 (by kernel_rfl) rfl #[.int .i64 a1_3, .int .i64 0, .int .i64 9999] rfl (by (try simp only [List.map_toArray, List.map_cons, List.map_nil]); first | done | rfl | (simp only [List.length_drop, List.length_take]; rfl)) ?_; (with_reducible refine (spec_l1In.calls a1_3 0 9999 true _ A31.out).mono ?_); rintro e w' ⟨rfl, ⟨nd, rfl⟩⟩; refine ⟨_, rfl, ?_⟩) | (go_at_call 29; (with_reducible refine (spec_l1In.calls a1_1 0 (wrap64 ((l0.length : Int) - 1)) false _ A34.out).mono ?_); rintro e w' ⟨rfl, ⟨nd, rfl⟩⟩))
         go_meet
         case rel => exact ⟨_, (true), (by first | rfl | (simp; done) | (simp [*]; done)), H', ⟨by have := HJ5.out; first | omega | exact Nat.le_refl _⟩, ⟨by (with_reducible repeat (first | refine blk_drewN ?_ _ | refine blk_drew ?_ | refine blk_alloc ?_ _)); exact BK101.out⟩, ⟨by repeat (first | (with_reducible first | exact HB.out | apply below_alloc | apply pw_below_drewN | apply below_drew1 | refine below_set ?_ GE101.out) | exact HB.out)⟩⟩
       ·
        rw [if_neg c33] at H
        have c33b0 : decide (0 < t103) = false := decide_eq_false c33
        clear c33
        (first | rw [c33b0] | (simp only [i64_w, i32_w]; rw [c33b0]) | skip)
        by_cases c41 : t103 > 1
        ·
         rw [if_pos c41] at H
         have c41b0 : decide (1 < t103) = true := decide_eq_true c41
         clear c41
         replace H := Option.bind_eq_some_iff.mp H
         obtain ⟨t107, A420, H⟩ := H
         replace H : (spec_l5Term.j1 kj5 l0 t103 (!t107) a1_0 a1_1 a1_2 a1_3) = some r := H
         have A42 := Aside0.mk A420
         clear A420
         have H' := Aside0.mk H
         clear H
         obtain ⟨hcz43_0, hcz43_1, hcz43_2, hcz43_3⟩ := blk_c4 BK101.out
         obtain ⟨hfz43_0, hfz43_1, hfz43_2, hfz43_3⟩ := blk_f4 BK101.out
         go_wp2_with (first | ((with_reducible refine gate_callee (f := 29) rfl ?_); refine goesL_ (some 43) rfl rfl Try.func29 (by kernel_rfl) rfl #[.int .i64 a1_3, .int .i64 0, .int .i64 9999] rfl (by (try simp only [List.map_toArray, List.map_cons, List.map_nil]); first | done | rfl | (simp only [List.length_drop, List.length_take]; rfl)) ?_; (with_reducible refine (spec_l1In.calls a1_3 0 9999 true _ A31.out).mono ?_); rintro e w' ⟨rfl, ⟨nd, rfl⟩⟩; refine ⟨_, rfl, ?_⟩) | (go_at_call 29; (with_reducible refine (spec_l1In.calls a1_2 0 (wrap64 ((l0.length : Int) - 1)) t107 _ A42.out).mono ?_); rintro e w' ⟨rfl, ⟨nd, rfl⟩⟩))
         go_meet
         case rel => exact ⟨_, (!t107), (by first | rfl | (simp; done) | (simp [*]; done)), H', ⟨by have := HJ5.out; first | omega | exact Nat.le_refl _⟩, ⟨by (with_reducible repeat (first | refine blk_drewN ?_ _ | refine blk_drew ?_ | refine blk_alloc ?_ _)); exact BK101.out⟩, ⟨by repeat (first | (with_reducible first | exact HB.out | apply below_alloc | apply pw_below_drewN | apply below_drew1 | refine below_set ?_ GE101.out) | exact HB.out)⟩⟩
        ·
         rw [if_neg c41] at H
         have c41b0 : decide (1 < t103) = false := decide_eq_false c41
         clear c41
         have H' := Aside0.mk H
         clear H
         obtain ⟨hcz44_0, hcz44_1, hcz44_2, hcz44_3⟩ := blk_c4 BK101.out
         obtain ⟨hfz44_0, hfz44_1, hfz44_2, hfz44_3⟩ := blk_f4 BK101.out
         go_wp2_with (first | ((with_reducible refine gate_callee (f := 29) rfl ?_); refine goesL_ (some 43) rfl rfl Try.func29 (by kernel_rfl) rfl #[.int .i64 a1_3, .int .i64 0, .int .i64 9999] rfl (by (try simp only [List.map_toArray, List.map_cons, List.map_nil]); first | done | rfl | (simp only [List.length_drop, List.length_take]; rfl)) ?_; (with_reducible refine (spec_l1In.calls a1_3 0 9999 true _ A31.out).mono ?_); rintro e w' ⟨rfl, ⟨nd, rfl⟩⟩; refine ⟨_, rfl, ?_⟩))
         go_meet
         case rel => exact ⟨_, (false), (by first | rfl | (simp; done) | (simp [*]; done)), H', ⟨by have := HJ5.out; first | omega | exact Nat.le_refl _⟩, ⟨by (with_reducible repeat (first | refine blk_drewN ?_ _ | refine blk_drew ?_ | refine blk_alloc ?_ _)); exact BK101.out⟩, ⟨by repeat (first | (with_reducible first | exact HB.out | apply below_alloc | apply pw_below_drewN | apply below_drew1 | refine below_set ?_ GE101.out) | exact HB.out)⟩⟩
      ·
       replace c32 := Bool.eq_false_iff.mpr c32
       subst c32
       have H1 : (spec_l5Term.j1 kj5 l0 t103 true a1_0 a1_1 a1_2 a1_3) = some r := by rw [if_neg (show ¬ (false = true) by decide)] at H; exact H
       clear H
       have H := H1
       clear H1
       have H' := Aside0.mk H
       clear H
       obtain ⟨hcz45_0, hcz45_1, hcz45_2, hcz45_3⟩ := blk_c4 BK101.out
       obtain ⟨hfz45_0, hfz45_1, hfz45_2, hfz45_3⟩ := blk_f4 BK101.out
       go_wp2_with (first | ((with_reducible refine gate_callee (f := 29) rfl ?_); refine goesL_ (some 43) rfl rfl Try.func29 (by kernel_rfl) rfl #[.int .i64 a1_3, .int .i64 0, .int .i64 9999] rfl (by (try simp only [List.map_toArray, List.map_cons, List.map_nil]); first | done | rfl | (simp only [List.length_drop, List.length_take]; rfl)) ?_; (with_reducible refine (spec_l1In.calls a1_3 0 9999 false _ A31.out).mono ?_); rintro e w' ⟨rfl, ⟨nd, rfl⟩⟩; refine ⟨_, rfl, ?_⟩))
       go_meet
       case rel => exact ⟨_, (true), (by first | rfl | (simp; done) | (simp [*]; done)), H', ⟨by have := HJ5.out; first | omega | exact Nat.le_refl _⟩, ⟨by (with_reducible repeat (first | refine blk_drewN ?_ _ | refine blk_drew ?_ | refine blk_alloc ?_ _)); exact BK101.out⟩, ⟨by repeat (first | (with_reducible first | exact HB.out | apply below_alloc | apply pw_below_drewN | apply below_drew1 | refine below_set ?_ GE101.out) | exact HB.out)⟩⟩
     case rest =>
      clear HC30
      try clear c1; try clear c2; try clear p2; try clear c3; try clear c4; try clear p6; try clear c9; try clear c9b0; try clear c10; try clear c10b0; try clear c10b1; try clear c11; try clear c11b0; try clear c12; try clear c12b0; try clear c12b1; try clear c13; try clear c13b0; try clear c17; try clear c17b0; try clear c19; try clear c21; try clear c21b0; try clear c22; try clear c22b0; try clear c22b1; try clear c23; try clear c23b0; try clear c27; try clear c27b0; try clear c29; try clear c32; try clear c33; try clear c33b0; try clear c35; try clear c36; try clear c36b0; try clear c41; try clear c41b0; try clear hcz14_0; try clear hcz14_1; try clear hcz14_2; try clear hcz14_3; try clear hcz15_0; try clear hcz15_1; try clear hcz15_2; try clear hcz15_3; try clear hcz16_0; try clear hcz16_1; try clear hcz16_2; try clear hcz16_3; try clear hcz18_0; try clear hcz18_1; try clear hcz18_2; try clear hcz18_3; try clear hcz19_0; try clear hcz19_1; try clear hcz19_2; try clear hcz19_3; try clear hcz20_0; try clear hcz20_1; try clear hcz20_2; try clear hcz20_3; try clear hcz24_0; try clear hcz24_1; try clear hcz24_2; try clear hcz24_3; try clear hcz25_0; try clear hcz25_1; try clear hcz25_2; try clear hcz25_3; try clear hcz26_0; try clear hcz26_1; try clear hcz26_2; try clear hcz26_3; try clear hcz28_0; try clear hcz28_1; try clear hcz28_2; try clear hcz28_3; try clear hcz38_0; try clear hcz38_1; try clear hcz38_2; try clear hcz38_3; try clear hcz39_0; try clear hcz39_1; try clear hcz39_2; try clear hcz39_3; try clear hcz40_0; try clear hcz40_1; try clear hcz40_2; try clear hcz40_3; try clear hcz43_0; try clear hcz43_1; try clear hcz43_2; try clear hcz43_3; try clear hcz44_0; try clear hcz44_1; try clear hcz44_2; try clear hcz44_3; try clear hcz45_0; try clear hcz45_1; try clear hcz45_2; try clear hcz45_3; try clear hcz8_0; try clear hcz8_1; try clear hcz8_2; try clear hcz8_3; try clear hfz14_0; try clear hfz14_1; try clear hfz14_2; try clear hfz14_3; try clear hfz15_0; try clear hfz15_1; try clear hfz15_2; try clear hfz15_3; try clear hfz16_0; try clear hfz16_1; try clear hfz16_2; try clear hfz16_3; try clear hfz18_0; try clear hfz18_1; try clear hfz18_2; try clear hfz18_3; try clear hfz19_0; try clear hfz19_1; try clear hfz19_2; try clear hfz19_3; try clear hfz20_0; try clear hfz20_1; try clear hfz20_2; try clear hfz20_3; try clear hfz24_0; try clear hfz24_1; try clear hfz24_2; try clear hfz24_3; try clear hfz25_0; try clear hfz25_1; try clear hfz25_2; try clear hfz25_3; try clear hfz26_0; try clear hfz26_1; try clear hfz26_2; try clear hfz26_3; try clear hfz28_0; try clear hfz28_1; try clear hfz28_2; try clear hfz28_3; try clear hfz38_0; try clear hfz38_1; try clear hfz38_2; try clear hfz38_3; try clear hfz39_0; try clear hfz39_1; try clear hfz39_2; try clear hfz39_3; try clear hfz40_0; try clear hfz40_1; try clear hfz40_2; try clear hfz40_3; try clear hfz43_0; try clear hfz43_1; try clear hfz43_2; try clear hfz43_3; try clear hfz44_0; try clear hfz44_1; try clear hfz44_2; try clear hfz44_3; try clear hfz45_0; try clear hfz45_1; try clear hfz45_2; try clear hfz45_3; try clear hfz8_0; try clear hfz8_1; try clear hfz8_2; try clear hfz8_3; try clear p2
      obtain ⟨kq, x68_29, rfl, HA, HJ29, BK101, HB⟩ := hcut
      cases kq with
      | zero => exact absurd HA.out (by simp [spec_l5Term.j1])
      | succ kj29 =>
       have H := HA.out
       clear HA
       simp only [spec_l5Term.j1] at H
       by_cases c46 : x68_29 = true
       ·
        subst c46
        have H1 : (some 3) = some r := by rw [if_pos rfl] at H; exact H
        clear H
        have H := H1
        clear H1
        obtain rfl := Option.some.inj H
        go_wp2
        go_ret
        exact ⟨by first | rfl | (simp [errW_none, errW_some] <;> rfl) | (simp [*, errW_none, errW_some] <;> rfl), by repeat (first | (with_reducible first | exact HB.out | apply below_alloc | apply pw_below_drewN | apply below_drew1 | refine below_set ?_ GE101.out) | exact HB.out)⟩
       ·
        replace c46 := Bool.eq_false_iff.mpr c46
        subst c46
        have H1 : (if a1_0 = 6 then (spec_l5Term.j2 kj29 l0 t103 true a1_0 a1_1 a1_2 a1_3) else (spec_l5Term.j2 kj29 l0 t103 (a1_0 == 7) a1_0 a1_1 a1_2 a1_3)) = some r := by rw [if_neg (show ¬ (false = true) by decide)] at H; exact H
        clear H
        have H := H1
        clear H1
        have HC47 := Aside0.mk H
        clear H
        go_upto_region 9 with (fail)
        go_cut [76] (fun v76 wc => ∃ (kq : Nat) (x76_46 : Bool), v76 = .bool x76_46 ∧ Aside0 (spec_l5Term.j2 kq l0 t103 x76_46 a1_0 a1_1 a1_2 a1_3 = some r) ∧ Aside0 (kq ≤ kj29) ∧ Aside0 (wc.heap[gb101]? = some (.cells #[.int .i64 a1_0, .int .i64 a1_1, .int .i64 a1_2, .int .i64 a1_3] 34 (0, 0))) ∧ Aside0 (Below w.heap.size w wc))
        case first =>
         have H := HC47.out
         clear HC47
         by_cases c48 : a1_0 = 6
         ·
          rw [if_pos c48] at H
          have c48b0 : (a1_0 == 6) = true := beq_iff_eq.mpr c48
          have c48b1 : (a1_0 != 6) = false := bne_eq_false_iff_eq.mpr c48
          clear c48
          (first | rw [c48b0] | (simp only [i64_w, i32_w]; rw [c48b0]) | skip)
          have H' := Aside0.mk H
          clear H
          obtain ⟨hcz49_0, hcz49_1, hcz49_2, hcz49_3⟩ := blk_c4 BK101.out
          obtain ⟨hfz49_0, hfz49_1, hfz49_2, hfz49_3⟩ := blk_f4 BK101.out
          go_wp2
          go_meet
          case rel => exact ⟨_, (true), (by first | rfl | (simp; done) | (simp [*]; done)), H', ⟨by have := HJ5.out; have := HJ29.out; first | omega | exact Nat.le_refl _⟩, ⟨by (with_reducible repeat (first | refine blk_drewN ?_ _ | refine blk_drew ?_ | refine blk_alloc ?_ _)); exact BK101.out⟩, ⟨by repeat (first | (with_reducible first | exact HB.out | apply below_alloc | apply pw_below_drewN | apply below_drew1 | refine below_set ?_ GE101.out) | exact HB.out)⟩⟩
         ·
          rw [if_neg c48] at H
          have c48b0 : (a1_0 == 6) = false := beq_eq_false_iff_ne.mpr c48
          have c48b1 : (a1_0 != 6) = true := bne_iff_ne.mpr c48
          (first | rw [c48b0] | (simp only [i64_w, i32_w]; rw [c48b0]) | skip)
          have H' := Aside0.mk H
          clear H
          obtain ⟨hcz50_0, hcz50_1, hcz50_2, hcz50_3⟩ := blk_c4 BK101.out
          obtain ⟨hfz50_0, hfz50_1, hfz50_2, hfz50_3⟩ := blk_f4 BK101.out
          go_wp2
          go_meet
          case rel => exact ⟨_, ((a1_0 == 7)), (by first | rfl | (simp; done) | (simp [*]; done)), H', ⟨by have := HJ5.out; have := HJ29.out; first | omega | exact Nat.le_refl _⟩, ⟨by (with_reducible repeat (first | refine blk_drewN ?_ _ | refine blk_drew ?_ | refine blk_alloc ?_ _)); exact BK101.out⟩, ⟨by repeat (first | (with_reducible first | exact HB.out | apply below_alloc | apply pw_below_drewN | apply below_drew1 | refine below_set ?_ GE101.out) | exact HB.out)⟩⟩
        case rest =>
         clear HC47
         try clear c1; try clear c2; try clear p2; try clear c3; try clear c4; try clear p6; try clear c9; try clear c9b0; try clear c10; try clear c10b0; try clear c10b1; try clear c11; try clear c11b0; try clear c12; try clear c12b0; try clear c12b1; try clear c13; try clear c13b0; try clear c17; try clear c17b0; try clear c19; try clear c21; try clear c21b0; try clear c22; try clear c22b0; try clear c22b1; try clear c23; try clear c23b0; try clear c27; try clear c27b0; try clear c29; try clear c32; try clear c33; try clear c33b0; try clear c35; try clear c36; try clear c36b0; try clear c41; try clear c41b0; try clear c46; try clear c48; try clear c48b0; try clear c48b1; try clear hcz14_0; try clear hcz14_1; try clear hcz14_2; try clear hcz14_3; try clear hcz15_0; try clear hcz15_1; try clear hcz15_2; try clear hcz15_3; try clear hcz16_0; try clear hcz16_1; try clear hcz16_2; try clear hcz16_3; try clear hcz18_0; try clear hcz18_1; try clear hcz18_2; try clear hcz18_3; try clear hcz19_0; try clear hcz19_1; try clear hcz19_2; try clear hcz19_3; try clear hcz20_0; try clear hcz20_1; try clear hcz20_2; try clear hcz20_3; try clear hcz24_0; try clear hcz24_1; try clear hcz24_2; try clear hcz24_3; try clear hcz25_0; try clear hcz25_1; try clear hcz25_2; try clear hcz25_3; try clear hcz26_0; try clear hcz26_1; try clear hcz26_2; try clear hcz26_3; try clear hcz28_0; try clear hcz28_1; try clear hcz28_2; try clear hcz28_3; try clear hcz38_0; try clear hcz38_1; try clear hcz38_2; try clear hcz38_3; try clear hcz39_0; try clear hcz39_1; try clear hcz39_2; try clear hcz39_3; try clear hcz40_0; try clear hcz40_1; try clear hcz40_2; try clear hcz40_3; try clear hcz43_0; try clear hcz43_1; try clear hcz43_2; try clear hcz43_3; try clear hcz44_0; try clear hcz44_1; try clear hcz44_2; try clear hcz44_3; try clear hcz45_0; try clear hcz45_1; try clear hcz45_2; try clear hcz45_3; try clear hcz49_0; try clear hcz49_1; try clear hcz49_2; try clear hcz49_3; try clear hcz50_0; try clear hcz50_1; try clear hcz50_2; try clear hcz50_3; try clear hcz8_0; try clear hcz8_1; try clear hcz8_2; try clear hcz8_3; try clear hfz14_0; try clear hfz14_1; try clear hfz14_2; try clear hfz14_3; try clear hfz15_0; try clear hfz15_1; try clear hfz15_2; try clear hfz15_3; try clear hfz16_0; try clear hfz16_1; try clear hfz16_2; try clear hfz16_3; try clear hfz18_0; try clear hfz18_1; try clear hfz18_2; try clear hfz18_3; try clear hfz19_0; try clear hfz19_1; try clear hfz19_2; try clear hfz19_3; try clear hfz20_0; try clear hfz20_1; try clear hfz20_2; try clear hfz20_3; try clear hfz24_0; try clear hfz24_1; try clear hfz24_2; try clear hfz24_3; try clear hfz25_0; try clear hfz25_1; try clear hfz25_2; try clear hfz25_3; try clear hfz26_0; try clear hfz26_1; try clear hfz26_2; try clear hfz26_3; try clear hfz28_0; try clear hfz28_1; try clear hfz28_2; try clear hfz28_3; try clear hfz38_0; try clear hfz38_1; try clear hfz38_2; try clear hfz38_3; try clear hfz39_0; try clear hfz39_1; try clear hfz39_2; try clear hfz39_3; try clear hfz40_0; try clear hfz40_1; try clear hfz40_2; try clear hfz40_3; try clear hfz43_0; try clear hfz43_1; try clear hfz43_2; try clear hfz43_3; try clear hfz44_0; try clear hfz44_1; try clear hfz44_2; try clear hfz44_3; try clear hfz45_0; try clear hfz45_1; try clear hfz45_2; try clear hfz45_3; try clear hfz49_0; try clear hfz49_1; try clear hfz49_2; try clear hfz49_3; try clear hfz50_0; try clear hfz50_1; try clear hfz50_2; try clear hfz50_3; try clear hfz8_0; try clear hfz8_1; try clear hfz8_2; try clear hfz8_3; try clear p2; try clear p6
         obtain ⟨kq, x76_46, rfl, HA, HJ46, BK101, HB⟩ := hcut
         cases kq with
         | zero => exact absurd HA.out (by simp [spec_l5Term.j2])
         | succ kj46 =>
          have H := HA.out
          clear HA
          simp only [spec_l5Term.j2] at H
          by_cases c51 : x76_46 = true
          ·
           subst c51
           have H1 : (if 0 ≤ a1_1 then (if a1_1 < (l0.length : Int) then (if ((rd_T34 l0 a1_1).f0) = 2 then (if t103 > 1 then (if 0 ≤ a1_2 then (if a1_2 < (l0.length : Int) then (if ((rd_T34 l0 a1_2).f0) = 2 then (if a1_1 > a1_2 then (some 1) else (some 0)) else (some 1)) else (none)) else (none)) else (some 0)) else (some 1)) else (none)) else (none)) = some r := by rw [if_pos rfl] at H; exact H
           clear H
           have H := H1
           clear H1
           by_cases c52 : 0 ≤ a1_1
           ·
            rw [if_pos c52] at H
            have c52b0 : decide (0 ≤ a1_1) = true := decide_eq_true c52
            clear c52
            by_cases c53 : a1_1 < (l0.length : Int)
            ·
             rw [if_pos c53] at H
             have c53b0 : decide (a1_1 < (l0.length : Int)) = true := decide_eq_true c53
             clear c53
             by_cases c54 : ((rd_T34 l0 a1_1).f0) = 2
             ·
              rw [if_pos c54] at H
              have c54b0 : (((rd_T34 l0 a1_1).f0) == 2) = true := beq_iff_eq.mpr c54
              have c54b1 : (((rd_T34 l0 a1_1).f0) != 2) = false := bne_eq_false_iff_eq.mpr c54
              clear c54
              by_cases c55 : t103 > 1
              ·
               rw [if_pos c55] at H
               have c55b0 : decide (1 < t103) = true := decide_eq_true c55
               clear c55
               by_cases c56 : 0 ≤ a1_2
               ·
                rw [if_pos c56] at H
                have c56b0 : decide (0 ≤ a1_2) = true := decide_eq_true c56
                clear c56
                by_cases c57 : a1_2 < (l0.length : Int)
                ·
                 rw [if_pos c57] at H
                 have c57b0 : decide (a1_2 < (l0.length : Int)) = true := decide_eq_true c57
                 clear c57
                 by_cases c58 : ((rd_T34 l0 a1_2).f0) = 2
                 ·
                  rw [if_pos c58] at H
                  have c58b0 : (((rd_T34 l0 a1_2).f0) == 2) = true := beq_iff_eq.mpr c58
                  have c58b1 : (((rd_T34 l0 a1_2).f0) != 2) = false := bne_eq_false_iff_eq.mpr c58
                  clear c58
                  by_cases c59 : a1_1 > a1_2
                  ·
                   rw [if_pos c59] at H
                   have c59b0 : decide (a1_2 < a1_1) = true := decide_eq_true c59
                   clear c59
                   obtain rfl := Option.some.inj H
                   obtain ⟨hcz60_0, hcz60_1, hcz60_2, hcz60_3⟩ := blk_c4 BK101.out
                   obtain ⟨hfz60_0, hfz60_1, hfz60_2, hfz60_3⟩ := blk_f4 BK101.out
                   have p108 : 0 ≤ (a1_1 : Int) := of_decide_eq_true (by first | (with_reducible assumption) | assumption)
                   have q108 : a1_1 < (l0.length : Int) := of_decide_eq_true (by first | (with_reducible assumption) | assumption)
                   obtain ⟨ad108, e108, hx108_0, hx108_1, hx108_2, hx108_3⟩ := at_T34 HR0.out a1_1 p108 q108
                   cases e108
                   replace hx108_0 := (HB.out.cell (World.block_lt_of_cell? w _ hx108_0)).trans hx108_0
                   replace hx108_1 := (HB.out.cell (World.block_lt_of_cell? w _ hx108_1)).trans hx108_1
                   replace hx108_2 := (HB.out.cell (World.block_lt_of_cell? w _ hx108_2)).trans hx108_2
                   replace hx108_3 := (HB.out.cell (World.block_lt_of_cell? w _ hx108_3)).trans hx108_3
                   replace p108 := eq_true p108
                   replace q108 := eq_true q108
                   have p109 : 0 ≤ (a1_2 : Int) := of_decide_eq_true (by first | (with_reducible assumption) | assumption)
                   have q109 : a1_2 < (l0.length : Int) := of_decide_eq_true (by first | (with_reducible assumption) | assumption)
                   obtain ⟨ad109, e109, hx109_0, hx109_1, hx109_2, hx109_3⟩ := at_T34 HR0.out a1_2 p109 q109
                   obtain rfl : ad108 = ad109 := (by injection e109)
                   replace hx109_0 := (HB.out.cell (World.block_lt_of_cell? w _ hx109_0)).trans hx109_0
                   replace hx109_1 := (HB.out.cell (World.block_lt_of_cell? w _ hx109_1)).trans hx109_1
                   replace hx109_2 := (HB.out.cell (World.block_lt_of_cell? w _ hx109_2)).trans hx109_2
                   replace hx109_3 := (HB.out.cell (World.block_lt_of_cell? w _ hx109_3)).trans hx109_3
                   replace p109 := eq_true p109
                   replace q109 := eq_true q109
                   go_wp2
                   go_ret
                   exact ⟨by first | rfl | (simp [errW_none, errW_some] <;> rfl) | (simp [*, errW_none, errW_some] <;> rfl), by repeat (first | (with_reducible first | exact HB.out | apply below_alloc | apply pw_below_drewN | apply below_drew1 | refine below_set ?_ GE101.out) | exact HB.out)⟩
                  ·
                   rw [if_neg c59] at H
                   have c59b0 : decide (a1_2 < a1_1) = false := decide_eq_false c59
                   clear c59
                   obtain rfl := Option.some.inj H
                   obtain ⟨hcz61_0, hcz61_1, hcz61_2, hcz61_3⟩ := blk_c4 BK101.out
                   obtain ⟨hfz61_0, hfz61_1, hfz61_2, hfz61_3⟩ := blk_f4 BK101.out
                   have p108 : 0 ≤ (a1_1 : Int) := of_decide_eq_true (by first | (with_reducible assumption) | assumption)
                   have q108 : a1_1 < (l0.length : Int) := of_decide_eq_true (by first | (with_reducible assumption) | assumption)
                   obtain ⟨ad108, e108, hx108_0, hx108_1, hx108_2, hx108_3⟩ := at_T34 HR0.out a1_1 p108 q108
                   cases e108
                   replace hx108_0 := (HB.out.cell (World.block_lt_of_cell? w _ hx108_0)).trans hx108_0
                   replace hx108_1 := (HB.out.cell (World.block_lt_of_cell? w _ hx108_1)).trans hx108_1
                   replace hx108_2 := (HB.out.cell (World.block_lt_of_cell? w _ hx108_2)).trans hx108_2
                   replace hx108_3 := (HB.out.cell (World.block_lt_of_cell? w _ hx108_3)).trans hx108_3
                   replace p108 := eq_true p108
                   replace q108 := eq_true q108
                   have p109 : 0 ≤ (a1_2 : Int) := of_decide_eq_true (by first | (with_reducible assumption) | assumption)
                   have q109 : a1_2 < (l0.length : Int) := of_decide_eq_true (by first | (with_reducible assumption) | assumption)
                   obtain ⟨ad109, e109, hx109_0, hx109_1, hx109_2, hx109_3⟩ := at_T34 HR0.out a1_2 p109 q109
                   obtain rfl : ad108 = ad109 := (by injection e109)
                   replace hx109_0 := (HB.out.cell (World.block_lt_of_cell? w _ hx109_0)).trans hx109_0
                   replace hx109_1 := (HB.out.cell (World.block_lt_of_cell? w _ hx109_1)).trans hx109_1
                   replace hx109_2 := (HB.out.cell (World.block_lt_of_cell? w _ hx109_2)).trans hx109_2
                   replace hx109_3 := (HB.out.cell (World.block_lt_of_cell? w _ hx109_3)).trans hx109_3
                   replace p109 := eq_true p109
                   replace q109 := eq_true q109
                   go_wp2
                   go_ret
                   exact ⟨by first | rfl | (simp [errW_none, errW_some] <;> rfl) | (simp [*, errW_none, errW_some] <;> rfl), by repeat (first | (with_reducible first | exact HB.out | apply below_alloc | apply pw_below_drewN | apply below_drew1 | refine below_set ?_ GE101.out) | exact HB.out)⟩
                 ·
                  rw [if_neg c58] at H
                  have c58b0 : (((rd_T34 l0 a1_2).f0) == 2) = false := beq_eq_false_iff_ne.mpr c58
                  have c58b1 : (((rd_T34 l0 a1_2).f0) != 2) = true := bne_iff_ne.mpr c58
                  obtain rfl := Option.some.inj H
                  obtain ⟨hcz62_0, hcz62_1, hcz62_2, hcz62_3⟩ := blk_c4 BK101.out
                  obtain ⟨hfz62_0, hfz62_1, hfz62_2, hfz62_3⟩ := blk_f4 BK101.out
                  have p108 : 0 ≤ (a1_1 : Int) := of_decide_eq_true (by first | (with_reducible assumption) | assumption)
                  have q108 : a1_1 < (l0.length : Int) := of_decide_eq_true (by first | (with_reducible assumption) | assumption)
                  obtain ⟨ad108, e108, hx108_0, hx108_1, hx108_2, hx108_3⟩ := at_T34 HR0.out a1_1 p108 q108
                  cases e108
                  replace hx108_0 := (HB.out.cell (World.block_lt_of_cell? w _ hx108_0)).trans hx108_0
                  replace hx108_1 := (HB.out.cell (World.block_lt_of_cell? w _ hx108_1)).trans hx108_1
                  replace hx108_2 := (HB.out.cell (World.block_lt_of_cell? w _ hx108_2)).trans hx108_2
                  replace hx108_3 := (HB.out.cell (World.block_lt_of_cell? w _ hx108_3)).trans hx108_3
                  replace p108 := eq_true p108
                  replace q108 := eq_true q108
                  have p109 : 0 ≤ (a1_2 : Int) := of_decide_eq_true (by first | (with_reducible assumption) | assumption)
                  have q109 : a1_2 < (l0.length : Int) := of_decide_eq_true (by first | (with_reducible assumption) | assumption)
                  obtain ⟨ad109, e109, hx109_0, hx109_1, hx109_2, hx109_3⟩ := at_T34 HR0.out a1_2 p109 q109
                  obtain rfl : ad108 = ad109 := (by injection e109)
                  replace hx109_0 := (HB.out.cell (World.block_lt_of_cell? w _ hx109_0)).trans hx109_0
                  replace hx109_1 := (HB.out.cell (World.block_lt_of_cell? w _ hx109_1)).trans hx109_1
                  replace hx109_2 := (HB.out.cell (World.block_lt_of_cell? w _ hx109_2)).trans hx109_2
                  replace hx109_3 := (HB.out.cell (World.block_lt_of_cell? w _ hx109_3)).trans hx109_3
                  replace p109 := eq_true p109
                  replace q109 := eq_true q109
                  go_wp2
                  go_ret
                  exact ⟨by first | rfl | (simp [errW_none, errW_some] <;> rfl) | (simp [*, errW_none, errW_some] <;> rfl), by repeat (first | (with_reducible first | exact HB.out | apply below_alloc | apply pw_below_drewN | apply below_drew1 | refine below_set ?_ GE101.out) | exact HB.out)⟩
                ·
                 rw [if_neg c57] at H
                 exact absurd H (by simp)
               ·
                rw [if_neg c56] at H
                exact absurd H (by simp)
              ·
               rw [if_neg c55] at H
               have c55b0 : decide (1 < t103) = false := decide_eq_false c55
               clear c55
               obtain rfl := Option.some.inj H
               obtain ⟨hcz63_0, hcz63_1, hcz63_2, hcz63_3⟩ := blk_c4 BK101.out
               obtain ⟨hfz63_0, hfz63_1, hfz63_2, hfz63_3⟩ := blk_f4 BK101.out
               have p108 : 0 ≤ (a1_1 : Int) := of_decide_eq_true (by first | (with_reducible assumption) | assumption)
               have q108 : a1_1 < (l0.length : Int) := of_decide_eq_true (by first | (with_reducible assumption) | assumption)
               obtain ⟨ad108, e108, hx108_0, hx108_1, hx108_2, hx108_3⟩ := at_T34 HR0.out a1_1 p108 q108
               cases e108
               replace hx108_0 := (HB.out.cell (World.block_lt_of_cell? w _ hx108_0)).trans hx108_0
               replace hx108_1 := (HB.out.cell (World.block_lt_of_cell? w _ hx108_1)).trans hx108_1
               replace hx108_2 := (HB.out.cell (World.block_lt_of_cell? w _ hx108_2)).trans hx108_2
               replace hx108_3 := (HB.out.cell (World.block_lt_of_cell? w _ hx108_3)).trans hx108_3
               replace p108 := eq_true p108
               replace q108 := eq_true q108
               go_wp2
               go_ret
               exact ⟨by first | rfl | (simp [errW_none, errW_some] <;> rfl) | (simp [*, errW_none, errW_some] <;> rfl), by repeat (first | (with_reducible first | exact HB.out | apply below_alloc | apply pw_below_drewN | apply below_drew1 | refine below_set ?_ GE101.out) | exact HB.out)⟩
             ·
              rw [if_neg c54] at H
              have c54b0 : (((rd_T34 l0 a1_1).f0) == 2) = false := beq_eq_false_iff_ne.mpr c54
              have c54b1 : (((rd_T34 l0 a1_1).f0) != 2) = true := bne_iff_ne.mpr c54
              obtain rfl := Option.some.inj H
              obtain ⟨hcz64_0, hcz64_1, hcz64_2, hcz64_3⟩ := blk_c4 BK101.out
              obtain ⟨hfz64_0, hfz64_1, hfz64_2, hfz64_3⟩ := blk_f4 BK101.out
              have p108 : 0 ≤ (a1_1 : Int) := of_decide_eq_true (by first | (with_reducible assumption) | assumption)
              have q108 : a1_1 < (l0.length : Int) := of_decide_eq_true (by first | (with_reducible assumption) | assumption)
              obtain ⟨ad108, e108, hx108_0, hx108_1, hx108_2, hx108_3⟩ := at_T34 HR0.out a1_1 p108 q108
              cases e108
              replace hx108_0 := (HB.out.cell (World.block_lt_of_cell? w _ hx108_0)).trans hx108_0
              replace hx108_1 := (HB.out.cell (World.block_lt_of_cell? w _ hx108_1)).trans hx108_1
              replace hx108_2 := (HB.out.cell (World.block_lt_of_cell? w _ hx108_2)).trans hx108_2
              replace hx108_3 := (HB.out.cell (World.block_lt_of_cell? w _ hx108_3)).trans hx108_3
              replace p108 := eq_true p108
              replace q108 := eq_true q108
              go_wp2
              go_ret
              exact ⟨by first | rfl | (simp [errW_none, errW_some] <;> rfl) | (simp [*, errW_none, errW_some] <;> rfl), by repeat (first | (with_reducible first | exact HB.out | apply below_alloc | apply pw_below_drewN | apply below_drew1 | refine below_set ?_ GE101.out) | exact HB.out)⟩
            ·
             rw [if_neg c53] at H
             exact absurd H (by simp)
           ·
            rw [if_neg c52] at H
            exact absurd H (by simp)
          ·
           replace c51 := Bool.eq_false_iff.mpr c51
           subst c51
           have H1 : (some 0) = some r := by rw [if_neg (show ¬ (false = true) by decide)] at H; exact H
           clear H
           have H := H1
           clear H1
           obtain rfl := Option.some.inj H
           go_wp2
           go_ret
           exact ⟨by first | rfl | (simp [errW_none, errW_some] <;> rfl) | (simp [*, errW_none, errW_some] <;> rfl), by repeat (first | (with_reducible first | exact HB.out | apply below_alloc | apply pw_below_drewN | apply below_drew1 | refine below_set ?_ GE101.out) | exact HB.out)⟩
 ·
  replace c4 := Bool.eq_false_iff.mpr c4
  subst c4
  have H1 : (some 5) = some r := by rw [if_neg (show ¬ (false = true) by decide)] at H; exact H
  clear H
  have H := H1
  clear H1
  obtain rfl := Option.some.inj H
  go_enter Try.func27, Try.ntmps27
  go_wp2_with (first | ((with_reducible refine gate_dst (N := 3) rfl ?_); refine box_event ?hg (N := 3) ?hd (cs := #[.int .i64 a1_0, .int .i64 a1_1, .int .i64 a1_2, .int .i64 a1_3]) (t := 34) ?hr ?_; (case hd => rfl); (case hg => rfl); (case hr => first | (go_simp; done) | (go_simp; rfl)); intro gb101 hg w65 hbox hb; have n0_ := Aside0.mk (below_step (by repeat (first | (with_reducible first | exact HB.out | apply below_alloc | apply pw_below_drewN | apply below_drew1) | exact HB.out)) hb); have n1_ := Aside0.mk (hbox); have n2_ := Aside0.mk ((by rw [hg]; exact (below_size (by repeat (first | (with_reducible first | exact HB.out | apply below_alloc | apply pw_below_drewN | apply below_drew1) | exact HB.out))) : w.heap.size ≤ gb101)); have n3_ := Aside0.mk ((by rw [hg]; exact (below_size (by repeat (first | (with_reducible first | exact HB.out | apply below_alloc | apply pw_below_drewN | apply below_drew1) | exact HB.out))) : w.heap.size ≤ gb101)); clear HB; have HB := n0_; have BK101 := n1_; have GW101 := n2_; have GE101 := n3_; clear n0_ n1_ n2_ n3_; clear hb hbox hg; obtain ⟨hcz66_0, hcz66_1, hcz66_2, hcz66_3⟩ := blk_c4 BK101.out; obtain ⟨hfz66_0, hfz66_1, hfz66_2, hfz66_3⟩ := blk_f4 BK101.out) | ((with_reducible refine gate_callee (f := 29) rfl ?_); refine goesL_ (some 9) rfl rfl Try.func29 (by kernel_rfl) rfl #[.int .i64 a1_0, .int .i64 1, .int .i64 7] rfl (by (try simp only [List.map_toArray, List.map_cons, List.map_nil]); first | done | rfl | (simp only [List.length_drop, List.length_take]; rfl)) ?_; (with_reducible refine (spec_l1In.calls a1_0 1 7 false _ A3.out).mono ?_); rintro e w' ⟨rfl, ⟨nd, rfl⟩⟩; refine ⟨_, rfl, ?_⟩))
  go_ret
  exact ⟨by first | rfl | (simp [errW_none, errW_some] <;> rfl) | (simp [*, errW_none, errW_some] <;> rfl), by repeat (first | (with_reducible first | exact HB.out | apply below_alloc | apply pw_below_drewN | apply below_drew1 | refine below_set ?_ GE101.out) | exact HB.out)⟩

/-! ### spec_l5Find: function 28 -/
def spec_l5Find.l0 : Nat → List (S34) → Int → Int → Int → Int → Int → Option (Int)
 | 0, _, _, _, _, _, _ => none
 | k + 1, x0, x5, x111000, x111001, x111002, x111003 => if x5 < (x0.length : Int) then (if 0 ≤ x5 then (if (((rd_T34 x0 x5).f0) == x111000 && (((rd_T34 x0 x5).f1) == x111001 && (((rd_T34 x0 x5).f2) == x111002 && (((rd_T34 x0 x5).f3) == x111003)))) = true then (some x5) else (spec_l5Find.l0 k x0 (wrap64 (x5 + 1)) x111000 x111001 x111002 x111003)) else (none)) else (some (-1))
def spec_l5Find.f (k : Nat) (l0 : List (S34)) (a1_0 : Int) (a1_1 : Int) (a1_2 : Int) (a1_3 : Int) : Option (Int) := spec_l5Find.l0 k l0 0 a1_0 a1_1 a1_2 a1_3
theorem spec_l5Find.mono_l : ∀ k, (∀ y0 y1 y2 y3 y4 y5, LeO (spec_l5Find.l0 k y0 y1 y2 y3 y4 y5) (spec_l5Find.l0 (k + 1) y0 y1 y2 y3 y4 y5))
 | 0 => fun _ _ _ _ _ _ r h => by simp [spec_l5Find.l0] at h
 | k + 1 => by
  have ih0 := spec_l5Find.mono_l k
  ·
   intro y0 y1 y2 y3 y4 y5
   unfold spec_l5Find.l0
   repeat' first
   | (with_reducible exact ih0 _ _ _ _ _ _)
   | (with_reducible exact LeO.refl _)
   | (with_reducible exact LeO.none _)
   | (with_reducible refine LeO.ite ?_ ?_)
   | (with_reducible refine LeO.bind ?_ (fun _ => ?_))
   | exact ih0 _ _ _ _ _ _
   | exact LeO.none _
   | refine LeO.ite ?_ ?_
   | refine LeO.bind ?_ (fun _ => ?_)
theorem spec_l5Find.mono : ∀ a0 a1 a2 a3 a4 k, LeO (spec_l5Find.f k a0 a1 a2 a3 a4) (spec_l5Find.f (k + 1) a0 a1 a2 a3 a4) := by
 intro a0 a1 a2 a3 a4 k
 have ih0 := spec_l5Find.mono_l k
 unfold spec_l5Find.f
 repeat' first
   | (with_reducible exact ih0 _ _ _ _ _ _)
   | (with_reducible exact LeO.refl _)
   | (with_reducible exact LeO.none _)
   | (with_reducible refine LeO.ite ?_ ?_)
   | (with_reducible refine LeO.bind ?_ (fun _ => ?_))
   | exact ih0 _ _ _ _ _ _
   | exact LeO.none _
   | refine LeO.ite ?_ ?_
   | refine LeO.bind ?_ (fun _ => ?_)
set_option maxHeartbeats 8000000 in
set_option maxRecDepth 100000 in
theorem spec_l5Find.calls (k : Nat) (A0 : Option Addr) (c0 : Nat) (l0 : List (S34)) (a1_0 : Int) (a1_1 : Int) (a1_2 : Int) (a1_3 : Int) (r : Int) (w : World) (hr0 : Kd.C k34 w A0 l0.length l0) (hc0 : l0.length ≤ c0) (h : spec_l5Find.f k l0 a1_0 a1_1 a1_2 a1_3 = some r) :
  Calls Try.prog 28 #[.slice A0 l0.length c0, .agg #[.int .i64 a1_0, .int .i64 a1_1, .int .i64 a1_2, .int .i64 a1_3]] w fun e w' => e = .returned (.int .i64 r) ∧ Below w.heap.size w w' := by
 have hu34 := Try.underlying34
 have HR0 := Aside0.mk hr0
 have HC0 := Aside0.mk hc0
 clear hr0 hc0
 have HB := Aside0.mk (Below.refl w.heap.size w)
 have H : (spec_l5Find.l0 k l0 0 a1_0 a1_1 a1_2 a1_3) = some r := h
 clear h
 have H' := Aside0.mk H
 clear H
 go_enter Try.func28, Try.ntmps28
 go_wp2_with (first | ((with_reducible refine gate_dst (N := 3) rfl ?_); refine box_event ?hg (N := 3) ?hd (cs := #[.int .i64 a1_0, .int .i64 a1_1, .int .i64 a1_2, .int .i64 a1_3]) (t := 34) ?hr ?_; (case hd => rfl); (case hg => rfl); (case hr => first | (go_simp; done) | (go_simp; rfl)); intro gb110 hg w3 hbox hb; have n0_ := Aside0.mk (below_step (by repeat (first | (with_reducible first | exact HB.out | apply below_alloc | apply pw_below_drewN | apply below_drew1) | exact HB.out)) hb); have n1_ := Aside0.mk (hbox); have n2_ := Aside0.mk ((by rw [hg]; exact (below_size (by repeat (first | (with_reducible first | exact HB.out | apply below_alloc | apply pw_below_drewN | apply below_drew1) | exact HB.out))) : w.heap.size ≤ gb110)); have n3_ := Aside0.mk ((by rw [hg]; exact (below_size (by repeat (first | (with_reducible first | exact HB.out | apply below_alloc | apply pw_below_drewN | apply below_drew1) | exact HB.out))) : w.heap.size ≤ gb110)); clear HB; have HB := n0_; have BK110 := n1_; have GW110 := n2_; have GE110 := n3_; clear n0_ n1_ n2_ n3_; clear hb hbox hg))
 repeat (go_quiet (first | ((with_reducible refine gate_dst (N := 3) rfl ?_); refine box_event ?hg (N := 3) ?hd (cs := #[.int .i64 a1_0, .int .i64 a1_1, .int .i64 a1_2, .int .i64 a1_3]) (t := 34) ?hr ?_; (case hd => rfl); (case hg => rfl); (case hr => first | (go_simp; done) | (go_simp; rfl)); intro gb110 hg w3 hbox hb; have n0_ := Aside0.mk (below_step (by repeat (first | (with_reducible first | exact HB.out | apply below_alloc | apply pw_below_drewN | apply below_drew1) | exact HB.out)) hb); have n1_ := Aside0.mk (hbox); have n2_ := Aside0.mk ((by rw [hg]; exact (below_size (by repeat (first | (with_reducible first | exact HB.out | apply below_alloc | apply pw_below_drewN | apply below_drew1) | exact HB.out))) : w.heap.size ≤ gb110)); have n3_ := Aside0.mk ((by rw [hg]; exact (below_size (by repeat (first | (with_reducible first | exact HB.out | apply below_alloc | apply pw_below_drewN | apply below_drew1) | exact HB.out))) : w.heap.size ≤ gb110)); clear HB; have HB := n0_; have BK110 := n1_; have GW110 := n2_; have GE110 := n3_; clear n0_ n1_ n2_ n3_; clear hb hbox hg)); try go_wp2_with (first | ((with_reducible refine gate_dst (N := 3) rfl ?_); refine box_event ?hg (N := 3) ?hd (cs := #[.int .i64 a1_0, .int .i64 a1_1, .int .i64 a1_2, .int .i64 a1_3]) (t := 34) ?hr ?_; (case hd => rfl); (case hg => rfl); (case hr => first | (go_simp; done) | (go_simp; rfl)); intro gb110 hg w3 hbox hb; have n0_ := Aside0.mk (below_step (by repeat (first | (with_reducible first | exact HB.out | apply below_alloc | apply pw_below_drewN | apply below_drew1) | exact HB.out)) hb); have n1_ := Aside0.mk (hbox); have n2_ := Aside0.mk ((by rw [hg]; exact (below_size (by repeat (first | (with_reducible first | exact HB.out | apply below_alloc | apply pw_below_drewN | apply below_drew1) | exact HB.out))) : w.heap.size ≤ gb110)); have n3_ := Aside0.mk ((by rw [hg]; exact (below_size (by repeat (first | (with_reducible first | exact HB.out | apply below_alloc | apply pw_below_drewN | apply below_drew1) | exact HB.out))) : w.heap.size ≤ gb110)); clear HB; have HB := n0_; have BK110 := n1_; have GW110 := n2_; have GE110 := n3_; clear n0_ n1_ n2_ n3_; clear hb hbox hg)))
 go_loopg [5] k (fun kq v5 w' => ∃ (x5_1 : Int), v5 = .int .i64 x5_1 ∧ Aside0 (spec_l5Find.l0 kq l0 x5_1 a1_0 a1_1 a1_2 a1_3 = some r) ∧ Aside0 (kq ≤ k) ∧ Aside0 (w'.heap[gb110]? = some (.cells #[.int .i64 a1_0, .int .i64 a1_1, .int .i64 a1_2, .int .i64 a1_3] 34 (0, 0))) ∧ Aside0 (Below w.heap.size w w'))
 case atStart => exact ⟨(0), (by first | rfl | (simp; done) | (simp [*]; done)), H', ⟨Nat.le_refl _⟩, ⟨by (with_reducible repeat (first | refine blk_drewN ?_ _ | refine blk_drew ?_ | refine blk_alloc ?_ _)); exact BK110.out⟩, ⟨by repeat (first | (with_reducible first | exact HB.out | apply below_alloc | apply pw_below_drewN | apply below_drew1 | refine below_set ?_ GE110.out) | exact HB.out)⟩⟩
 case round =>
  clear H'
  try clear c2; try clear p2
  obtain ⟨x5_1, rfl, HA, HK1, BK110, HB⟩ := hrel
  cases gk with
  | zero => exact absurd HA.out (by simp [spec_l5Find.l0])
  | succ k1 =>
   have H := HA.out
   clear HA
   simp only [spec_l5Find.l0] at H
   by_cases c4 : x5_1 < (l0.length : Int)
   ·
    rw [if_pos c4] at H
    have c4b0 : decide (x5_1 < (l0.length : Int)) = true := decide_eq_true c4
    clear c4
    by_cases c5 : 0 ≤ x5_1
    ·
     rw [if_pos c5] at H
     have c5b0 : decide (0 ≤ x5_1) = true := decide_eq_true c5
     clear c5
     by_cases c6 : (((rd_T34 l0 x5_1).f0) == a1_0 && (((rd_T34 l0 x5_1).f1) == a1_1 && (((rd_T34 l0 x5_1).f2) == a1_2 && (((rd_T34 l0 x5_1).f3) == a1_3)))) = true
     ·
      rw [if_pos c6] at H
      have c6b0 : (((rd_T34 l0 x5_1).f0) == a1_0 && (((rd_T34 l0 x5_1).f1) == a1_1 && (((rd_T34 l0 x5_1).f2) == a1_2 && (((rd_T34 l0 x5_1).f3) == a1_3)))) = true := c6
      (try (have c6b1 : decide (((rd_T34 l0 x5_1).f0) = a1_0 && (((rd_T34 l0 x5_1).f1) == a1_1 && (((rd_T34 l0 x5_1).f2) == a1_2 && (((rd_T34 l0 x5_1).f3) == a1_3)))) = true := by simpa using c6))
      (try (have c6b2 : (((rd_T34 l0 x5_1).f0) == a1_0 && (((rd_T34 l0 x5_1).f1) == a1_1 && (((rd_T34 l0 x5_1).f2) == a1_2 && (((rd_T34 l0 x5_1).f3) == a1_3)))) = true := by simpa using c6))
      clear c6
      obtain rfl := Option.some.inj H
      have p111 : 0 ≤ (x5_1 : Int) := of_decide_eq_true (by first | (with_reducible assumption) | assumption)
      have q111 : x5_1 < (l0.length : Int) := of_decide_eq_true (by first | (with_reducible assumption) | assumption)
      obtain ⟨ad111, e111, hx111_0, hx111_1, hx111_2, hx111_3⟩ := at_T34 HR0.out x5_1 p111 q111
      cases e111
      replace hx111_0 := (HB.out.cell (World.block_lt_of_cell? w _ hx111_0)).trans hx111_0
      replace hx111_1 := (HB.out.cell (World.block_lt_of_cell? w _ hx111_1)).trans hx111_1
      replace hx111_2 := (HB.out.cell (World.block_lt_of_cell? w _ hx111_2)).trans hx111_2
      replace hx111_3 := (HB.out.cell (World.block_lt_of_cell? w _ hx111_3)).trans hx111_3
      replace p111 := eq_true p111
      replace q111 := eq_true q111
      obtain ⟨hcz7_0, hcz7_1, hcz7_2, hcz7_3⟩ := blk_c4 BK110.out
      obtain ⟨hfz7_0, hfz7_1, hfz7_2, hfz7_3⟩ := blk_f4 BK110.out
      go_wp2
      repeat (go_quiet (fail); try go_wp2)
      go_ret
      exact ⟨by first | rfl | (simp [errW_none, errW_some] <;> rfl) | (simp [*, errW_none, errW_some] <;> rfl), by repeat (first | (with_reducible first | exact HB.out | apply below_alloc | apply pw_below_drewN | apply below_drew1 | refine below_set ?_ GE110.out) | exact HB.out)⟩
     ·
      rw [if_neg c6] at H
      have c6b0 : (((rd_T34 l0 x5_1).f0) == a1_0 && (((rd_T34 l0 x5_1).f1) == a1_1 && (((rd_T34 l0 x5_1).f2) == a1_2 && (((rd_T34 l0 x5_1).f3) == a1_3)))) = false := by simpa using c6
      (try (have c6b1 : decide (((rd_T34 l0 x5_1).f0) = a1_0 && (((rd_T34 l0 x5_1).f1) == a1_1 && (((rd_T34 l0 x5_1).f2) == a1_2 && (((rd_T34 l0 x5_1).f3) == a1_3)))) = false := by simpa using c6))
      (try (have c6b2 : (((rd_T34 l0 x5_1).f0) == a1_0 && (((rd_T34 l0 x5_1).f1) == a1_1 && (((rd_T34 l0 x5_1).f2) == a1_2 && (((rd_T34 l0 x5_1).f3) == a1_3)))) = false := by simpa using c6))
      (try (have c6b3 : ¬ (((rd_T34 l0 x5_1).f0) = a1_0 && (((rd_T34 l0 x5_1).f1) == a1_1 && (((rd_T34 l0 x5_1).f2) == a1_2 && (((rd_T34 l0 x5_1).f3) == a1_3)))) := by simpa using c6))
      clear c6
      have H' := Aside0.mk H
      clear H
      have p111 : 0 ≤ (x5_1 : Int) := of_decide_eq_true (by first | (with_reducible assumption) | assumption)
      have q111 : x5_1 < (l0.length : Int) := of_decide_eq_true (by first | (with_reducible assumption) | assumption)
      obtain ⟨ad111, e111, hx111_0, hx111_1, hx111_2, hx111_3⟩ := at_T34 HR0.out x5_1 p111 q111
      cases e111
      replace hx111_0 := (HB.out.cell (World.block_lt_of_cell? w _ hx111_0)).trans hx111_0
      replace hx111_1 := (HB.out.cell (World.block_lt_of_cell? w _ hx111_1)).trans hx111_1
      replace hx111_2 := (HB.out.cell (World.block_lt_of_cell? w _ hx111_2)).trans hx111_2
      replace hx111_3 := (HB.out.cell (World.block_lt_of_cell? w _ hx111_3)).trans hx111_3
      replace p111 := eq_true p111
      replace q111 := eq_true q111
      obtain ⟨hcz8_0, hcz8_1, hcz8_2, hcz8_3⟩ := blk_c4 BK110.out
      obtain ⟨hfz8_0, hfz8_1, hfz8_2, hfz8_3⟩ := blk_f4 BK110.out
      go_wp2
      repeat (go_quiet (fail); try go_wp2)
      go_roundg k1
      case measure => have := HK1.out; omega
      case rel => exact ⟨(wrap64 (x5_1 + 1)), (by first | rfl | (simp; done) | (simp [*]; done)), H', ⟨by have := HK1.out; omega⟩, ⟨by (with_reducible repeat (first | refine blk_drewN ?_ _ | refine blk_drew ?_ | refine blk_alloc ?_ _)); exact BK110.out⟩, ⟨by repeat (first | (with_reducible first | exact HB.out | apply below_alloc | apply pw_below_drewN | apply below_drew1 | refine below_set ?_ GE110.out) | exact HB.out)⟩⟩
    ·
     rw [if_neg c5] at H
     exact absurd H (by simp)
   ·
    rw [if_neg c4] at H
    have c4b0 : decide (x5_1 < (l0.length : Int)) = false := decide_eq_false c4
    clear c4
    obtain rfl := Option.some.inj H
    go_wp2
    repeat (go_quiet (fail); try go_wp2)
    go_ret
    exact ⟨by first | rfl | (simp [errW_none, errW_some] <;> rfl) | (simp [*, errW_none, errW_some] <;> rfl), by repeat (first | (with_reducible first | exact HB.out | apply below_alloc | apply pw_below_drewN | apply below_drew1 | refine below_set ?_ GE110.out) | exact HB.out)⟩

end Go.Proofs.Ytofaojdkpbheoaa.PFnExactSameTerms
