-- Written by wip/tools/myprint.py of this claim's session, over the kit's print, round texts of its own: own text.
import Derived.Test.YtbficbiignpnoaaDoorPFnExactTermTextx0
import Derived.Test.YtbficbiignpnoaaDoorPFnExactTermTextx2
import Derived.Test.YtbficbiignpnoaaDoorPFnExactTermTextx6
namespace Go.Proofs.YtbficbiignpnoaaDoor.PFnExactTermText
open Go.RowKit Go.Proofs.YtbficbiignpnoaaDoorW.PrintWords Go.Proofs.YtbficbiignpnoaaDoorW.PrintLast Go.Proofs.YtbficbiignpnoaaDoorW.PrintMore
attribute [local go_sem] max2_int min2_int max_two min_two max_three min_three max_four min_four   -- for this text's walks alone
set_option linter.unusedVariables false
set_option linter.unusedSimpArgs false

/-! ### impl_namesOf: function 78 -/
def impl_namesOf.j0 : Nat → Int → Bool → Option (Bool × Bool × Bool)
 | 0, _, _ => none
 | k + 1, x3, x4 => if x4 = true then (some (false, false, true)) else (if x3 = 6 then (some (true, false, false)) else (some (true, true, false)))
def impl_namesOf.f (k : Nat) (a0 : Int) : Option (Bool × Bool × Bool) := if a0 = 1 then (impl_namesOf.j0 k a0 (a0 == 1)) else (impl_namesOf.j0 k a0 (a0 == 2))
theorem impl_namesOf.mono_l : ∀ k, (∀ y0 y1, LeO (impl_namesOf.j0 k y0 y1) (impl_namesOf.j0 (k + 1) y0 y1))
 | 0 => fun _ _ r h => by simp [impl_namesOf.j0] at h
 | k + 1 => by
  have ih0 := impl_namesOf.mono_l k
  ·
   intro y0 y1
   unfold impl_namesOf.j0
   repeat' first
   | (with_reducible exact ih0 _ _)
   | (with_reducible exact LeO.refl _)
   | (with_reducible exact LeO.none _)
   | (with_reducible refine LeO.ite ?_ ?_)
   | (with_reducible refine LeO.bind ?_ (fun _ => ?_))
   | exact ih0 _ _
   | exact LeO.none _
   | refine LeO.ite ?_ ?_
   | refine LeO.bind ?_ (fun _ => ?_)
theorem impl_namesOf.mono : ∀ a0 k, LeO (impl_namesOf.f k a0) (impl_namesOf.f (k + 1) a0) := by
 intro a0 k
 have ih0 := impl_namesOf.mono_l k
 unfold impl_namesOf.f
 repeat' first
   | (with_reducible exact ih0 _ _)
   | (with_reducible exact LeO.refl _)
   | (with_reducible exact LeO.none _)
   | (with_reducible refine LeO.ite ?_ ?_)
   | (with_reducible refine LeO.bind ?_ (fun _ => ?_))
   | exact ih0 _ _
   | exact LeO.none _
   | refine LeO.ite ?_ ?_
   | refine LeO.bind ?_ (fun _ => ?_)
set_option maxHeartbeats 8000000 in
set_option maxRecDepth 100000 in
theorem impl_namesOf.calls (k : Nat) (a0 : Int) (r1 : Bool) (r2 : Bool) (r3 : Bool) (w : World) (h : impl_namesOf.f k a0 = some (r1, r2, r3)) :
  Calls Tryd.prog 78 #[.int .i64 a0] w fun e w' => e = .returned (.agg #[.bool r1, .bool r2, .bool r3]) ∧ Below w.heap.size w w' := by
 have hu106 := Tryd.underlying106
 have HB := Aside0.mk (Below.refl w.heap.size w)
 have H : (if a0 = 1 then (impl_namesOf.j0 k a0 (a0 == 1)) else (impl_namesOf.j0 k a0 (a0 == 2))) = some (r1, r2, r3) := h
 clear h
 have HC2 := Aside0.mk H
 clear H
 go_enter Tryd.func78, Tryd.ntmps78
 go_upto_if 4 with (first | ((with_reducible refine gate_dst (N := 2) rfl ?_); refine box_event ?hg (N := 2) ?hd (cs := #[.bool false, .bool false, .bool false]) (t := 106) ?hr ?_; (case hd => rfl); (case hg => rfl); (case hr => first | (go_simp; done) | (go_simp; rfl)); intro gb184 hg w3 hbox hb; have n0_ := Aside0.mk (below_step (by repeat (first | (with_reducible first | exact HB.out | apply below_alloc | apply pw_below_drewN | apply below_drew1) | exact HB.out)) hb); have n1_ := Aside0.mk (hbox); have n2_ := Aside0.mk ((by rw [hg]; exact (below_size (by repeat (first | (with_reducible first | exact HB.out | apply below_alloc | apply pw_below_drewN | apply below_drew1) | exact HB.out))) : w.heap.size ≤ gb184)); have n3_ := Aside0.mk ((by rw [hg]; exact (below_size (by repeat (first | (with_reducible first | exact HB.out | apply below_alloc | apply pw_below_drewN | apply below_drew1) | exact HB.out))) : w.heap.size ≤ gb184)); clear HB; have HB := n0_; have BK184 := n1_; have GW184 := n2_; have GE184 := n3_; clear n0_ n1_ n2_ n3_; clear hb hbox hg))
 (try simp only [Act.put, List.setIfInBounds_toArray, List.set_cons_zero, List.set_cons_succ])
 go_cut [4] (fun v4 wc => ∃ (kq : Nat) (x4_1 : Bool), v4 = .bool x4_1 ∧ Aside0 (impl_namesOf.j0 kq a0 x4_1 = some (r1, r2, r3)) ∧ Aside0 (kq ≤ k) ∧ Aside0 (wc.heap[gb184]? = some (.cells #[.bool false, .bool false, .bool false] 106 (0, 0))) ∧ Aside0 (Below w.heap.size w wc))
 case first =>
  have H := HC2.out
  clear HC2
  by_cases c4 : a0 = 1
  ·
   rw [if_pos c4] at H
   have c4b0 : (a0 == 1) = true := beq_iff_eq.mpr c4
   have c4b1 : (a0 != 1) = false := bne_eq_false_iff_eq.mpr c4
   clear c4
   (first | rw [c4b0] | (simp only [i64_w, i32_w]; rw [c4b0]) | skip)
   have H' := Aside0.mk H
   clear H
   go_wp2
   go_meet
   case rel => exact ⟨_, ((a0 == 1)), (by first | rfl | (simp; done) | (simp [*]; done)), H', ⟨by first | omega | exact Nat.le_refl _⟩, ⟨by (with_reducible repeat (first | refine blk_drewN ?_ _ | refine blk_drew ?_ | refine blk_alloc ?_ _)); exact BK184.out⟩, ⟨by repeat (first | (with_reducible first | exact HB.out | apply below_alloc | apply pw_below_drewN | apply below_drew1 | refine below_set ?_ GE184.out) | exact HB.out)⟩⟩
  ·
   rw [if_neg c4] at H
   have c4b0 : (a0 == 1) = false := beq_eq_false_iff_ne.mpr c4
   have c4b1 : (a0 != 1) = true := bne_iff_ne.mpr c4
   (first | rw [c4b0] | (simp only [i64_w, i32_w]; rw [c4b0]) | skip)
   have H' := Aside0.mk H
   clear H
   go_wp2
   go_meet
   case rel => exact ⟨_, ((a0 == 2)), (by first | rfl | (simp; done) | (simp [*]; done)), H', ⟨by first | omega | exact Nat.le_refl _⟩, ⟨by (with_reducible repeat (first | refine blk_drewN ?_ _ | refine blk_drew ?_ | refine blk_alloc ?_ _)); exact BK184.out⟩, ⟨by repeat (first | (with_reducible first | exact HB.out | apply below_alloc | apply pw_below_drewN | apply below_drew1 | refine below_set ?_ GE184.out) | exact HB.out)⟩⟩
 case rest =>
  clear HC2
  try clear p2; try clear c4; try clear c4b0; try clear c4b1
  obtain ⟨kq, x4_1, rfl, HA, HJ1, BK184, HB⟩ := hcut
  cases kq with
  | zero => exact absurd HA.out (by simp [impl_namesOf.j0])
  | succ kj1 =>
   have H := HA.out
   clear HA
   simp only [impl_namesOf.j0] at H
   by_cases c5 : x4_1 = true
   ·
    subst c5
    have H1 : (some (false, false, true)) = some (r1, r2, r3) := by rw [if_pos rfl] at H; exact H
    clear H
    have H := H1
    clear H1
    simp only [Option.some.injEq, Prod.mk.injEq] at H
    obtain ⟨rfl, rfl, rfl⟩ := H
    obtain ⟨hcz6_0, hcz6_1, hcz6_2⟩ := blk_c3 BK184.out
    obtain ⟨hfz6_0, hfz6_1, hfz6_2⟩ := blk_f3 BK184.out
    go_wp2
    refine bodyPost_ret (results_cell_row rfl _ _ gb184 106 #[.bool false, .bool false, .bool true] (0, 0) _ rfl (by (with_reducible repeat (first | refine blk_drewN ?_ _ | refine blk_drew ?_ | refine blk_alloc ?_ _)); refine blk_put (cs := #[.bool false, .bool false, .bool false]) ?_ 2 _ rfl; (with_reducible repeat (first | refine blk_drewN ?_ _ | refine blk_drew ?_ | refine blk_alloc ?_ _)); refine blk_put (cs := #[.bool false, .bool false, .bool false]) ?_ 1 _ rfl; (with_reducible repeat (first | refine blk_drewN ?_ _ | refine blk_drew ?_ | refine blk_alloc ?_ _)); refine blk_put (cs := #[.bool false, .bool false, .bool false]) ?_ 0 _ rfl; (with_reducible repeat (first | refine blk_drewN ?_ _ | refine blk_drew ?_ | refine blk_alloc ?_ _)); exact BK184.out) Tryd.underlying106 rfl (by kernel_rfl)) rfl ?_
    exact ⟨by first | rfl | (simp [errW_none, errW_some] <;> rfl) | (simp [*, errW_none, errW_some] <;> rfl), by repeat (first | (with_reducible first | exact HB.out | apply below_alloc | apply pw_below_drewN | apply below_drew1 | refine below_set ?_ GE184.out) | exact HB.out)⟩
   ·
    replace c5 := Bool.eq_false_iff.mpr c5
    subst c5
    have H1 : (if a0 = 6 then (some (true, false, false)) else (some (true, true, false))) = some (r1, r2, r3) := by rw [if_neg (show ¬ (false = true) by decide)] at H; exact H
    clear H
    have H := H1
    clear H1
    by_cases c7 : a0 = 6
    ·
     rw [if_pos c7] at H
     have c7b0 : (a0 == 6) = true := beq_iff_eq.mpr c7
     have c7b1 : (a0 != 6) = false := bne_eq_false_iff_eq.mpr c7
     clear c7
     simp only [Option.some.injEq, Prod.mk.injEq] at H
     obtain ⟨rfl, rfl, rfl⟩ := H
     obtain ⟨hcz8_0, hcz8_1, hcz8_2⟩ := blk_c3 BK184.out
     obtain ⟨hfz8_0, hfz8_1, hfz8_2⟩ := blk_f3 BK184.out
     go_wp2
     refine bodyPost_ret (results_cell_row rfl _ _ gb184 106 #[.bool true, .bool false, .bool false] (0, 0) _ rfl (by (with_reducible repeat (first | refine blk_drewN ?_ _ | refine blk_drew ?_ | refine blk_alloc ?_ _)); refine blk_put (cs := #[.bool true, .bool false, .bool false]) ?_ 2 _ rfl; (with_reducible repeat (first | refine blk_drewN ?_ _ | refine blk_drew ?_ | refine blk_alloc ?_ _)); refine blk_put (cs := #[.bool true, .bool false, .bool false]) ?_ 1 _ rfl; (with_reducible repeat (first | refine blk_drewN ?_ _ | refine blk_drew ?_ | refine blk_alloc ?_ _)); refine blk_put (cs := #[.bool false, .bool false, .bool false]) ?_ 0 _ rfl; (with_reducible repeat (first | refine blk_drewN ?_ _ | refine blk_drew ?_ | refine blk_alloc ?_ _)); exact BK184.out) Tryd.underlying106 rfl (by kernel_rfl)) rfl ?_
     exact ⟨by first | rfl | (simp [errW_none, errW_some] <;> rfl) | (simp [*, errW_none, errW_some] <;> rfl), by repeat (first | (with_reducible first | exact HB.out | apply below_alloc | apply pw_below_drewN | apply below_drew1 | refine below_set ?_ GE184.out) | exact HB.out)⟩
    ·
     rw [if_neg c7] at H
     have c7b0 : (a0 == 6) = false := beq_eq_false_iff_ne.mpr c7
     have c7b1 : (a0 != 6) = true := bne_iff_ne.mpr c7
     simp only [Option.some.injEq, Prod.mk.injEq] at H
     obtain ⟨rfl, rfl, rfl⟩ := H
     obtain ⟨hcz9_0, hcz9_1, hcz9_2⟩ := blk_c3 BK184.out
     obtain ⟨hfz9_0, hfz9_1, hfz9_2⟩ := blk_f3 BK184.out
     go_wp2
     refine bodyPost_ret (results_cell_row rfl _ _ gb184 106 #[.bool true, .bool true, .bool false] (0, 0) _ rfl (by (with_reducible repeat (first | refine blk_drewN ?_ _ | refine blk_drew ?_ | refine blk_alloc ?_ _)); refine blk_put (cs := #[.bool true, .bool true, .bool false]) ?_ 2 _ rfl; (with_reducible repeat (first | refine blk_drewN ?_ _ | refine blk_drew ?_ | refine blk_alloc ?_ _)); refine blk_put (cs := #[.bool true, .bool false, .bool false]) ?_ 1 _ rfl; (with_reducible repeat (first | refine blk_drewN ?_ _ | refine blk_drew ?_ | refine blk_alloc ?_ _)); refine blk_put (cs := #[.bool false, .bool false, .bool false]) ?_ 0 _ rfl; (with_reducible repeat (first | refine blk_drewN ?_ _ | refine blk_drew ?_ | refine blk_alloc ?_ _)); exact BK184.out) Tryd.underlying106 rfl (by kernel_rfl)) rfl ?_
     exact ⟨by first | rfl | (simp [errW_none, errW_some] <;> rfl) | (simp [*, errW_none, errW_some] <;> rfl), by repeat (first | (with_reducible first | exact HB.out | apply below_alloc | apply pw_below_drewN | apply below_drew1 | refine below_set ?_ GE184.out) | exact HB.out)⟩

/-! ### impl_Term_parts: function 59 -/
def impl_Term_parts.f (k : Nat) (a0_0 : Int) (a0_1 : Int) (a0_2 : Int) (a0_3 : Int) : Option (List Int) := (impl_namesOf.f k a0_0).bind fun bt186 => (if bt186.2.2 = true then (some ([] : List Int)) else (if bt186.2.1 = true then (some (([a0_1, a0_2] : List Int))) else (some (([a0_1] : List Int)))))
theorem impl_Term_parts.mono : ∀ a0 a1 a2 a3 k, LeO (impl_Term_parts.f k a0 a1 a2 a3) (impl_Term_parts.f (k + 1) a0 a1 a2 a3) := by
 intro a0 a1 a2 a3 k
 unfold impl_Term_parts.f
 repeat' first
   | (with_reducible exact impl_namesOf.mono _ _)
   | (with_reducible exact LeO.refl _)
   | (with_reducible exact LeO.none _)
   | (with_reducible refine LeO.ite ?_ ?_)
   | (with_reducible refine LeO.bind ?_ (fun _ => ?_))
   | exact impl_namesOf.mono _ _
   | exact LeO.none _
   | refine LeO.ite ?_ ?_
   | refine LeO.bind ?_ (fun _ => ?_)
set_option maxHeartbeats 8000000 in
set_option maxRecDepth 100000 in
theorem impl_Term_parts.calls (k : Nat) (a0_0 : Int) (a0_1 : Int) (a0_2 : Int) (a0_3 : Int) (r : List Int) (w : World) (h : impl_Term_parts.f k a0_0 a0_1 a0_2 a0_3 = some r) :
  Calls Tryd.prog 59 #[.agg #[.int .i64 a0_0, .int .i64 a0_1, .int .i64 a0_2, .int .i64 a0_3]] w fun e w' => ∃ v0_ : Value, e = .returned (v0_) ∧ Kd.R (Kd.int .i64) 2 w' w.heap.size (fun _ => True) v0_ r ∧ Below w.heap.size w w' := by
 have hu66 := Tryd.underlying66
 have hu106 := Tryd.underlying106
 have HB := Aside0.mk (Below.refl w.heap.size w)
 have H : ((impl_namesOf.f k a0_0).bind fun bt186 => (if bt186.2.2 = true then (some ([] : List Int)) else (if bt186.2.1 = true then (some (([a0_1, a0_2] : List Int))) else (some (([a0_1] : List Int)))))) = some r := h
 clear h
 replace H := Option.bind_eq_some_iff.mp H
 obtain ⟨⟨t186, t187, t188⟩, A20, H⟩ := H
 replace H : (if t188 = true then (some ([] : List Int)) else (if t187 = true then (some (([a0_1, a0_2] : List Int))) else (some (([a0_1] : List Int))))) = some r := H
 have A2 := Aside0.mk A20
 clear A20
 by_cases c3 : t188 = true
 ·
  subst c3
  have H1 : (some ([] : List Int)) = some r := by rw [if_pos rfl] at H; exact H
  clear H
  have H := H1
  clear H1
  obtain rfl := Option.some.inj H
  go_enter Tryd.func59, Tryd.ntmps59
  go_wp2_with (first | ((with_reducible refine gate_dst (N := 1) rfl ?_); refine box_event ?hg (N := 1) ?hd (cs := #[.int .i64 a0_0, .int .i64 a0_1, .int .i64 a0_2, .int .i64 a0_3]) (t := 66) ?hr ?_; (case hd => rfl); (case hg => rfl); (case hr => first | (go_simp; done) | (go_simp; rfl)); intro gb185 hg w4 hbox hb; have n0_ := Aside0.mk (below_step (by repeat (first | (with_reducible first | exact HB.out | apply below_alloc | apply pw_below_drewN | apply below_drew1) | exact HB.out)) hb); have n1_ := Aside0.mk (hbox); have n2_ := Aside0.mk ((by rw [hg]; exact (below_size (by repeat (first | (with_reducible first | exact HB.out | apply below_alloc | apply pw_below_drewN | apply below_drew1) | exact HB.out))) : w.heap.size ≤ gb185)); have n3_ := Aside0.mk ((by rw [hg]; exact (below_size (by repeat (first | (with_reducible first | exact HB.out | apply below_alloc | apply pw_below_drewN | apply below_drew1) | exact HB.out))) : w.heap.size ≤ gb185)); clear HB; have HB := n0_; have BK185 := n1_; have GW185 := n2_; have GE185 := n3_; clear n0_ n1_ n2_ n3_; clear hb hbox hg; obtain ⟨hcz5_0, hcz5_1, hcz5_2, hcz5_3⟩ := blk_c4 BK185.out; obtain ⟨hfz5_0, hfz5_1, hfz5_2, hfz5_3⟩ := blk_f4 BK185.out) | ((with_reducible refine gate_callee (f := 78) rfl ?_); refine goesL_ (some 6) rfl rfl Tryd.func78 (by kernel_rfl) rfl #[.int .i64 a0_0] rfl (by (try simp only [List.map_toArray, List.map_cons, List.map_nil]); first | done | rfl | (simp only [List.length_drop, List.length_take]; rfl)) ?_; (with_reducible refine (impl_namesOf.calls k a0_0 t186 t187 true _ A2.out).mono ?_); rintro e w6 ⟨rfl, hb⟩; refine ⟨_, rfl, ?_⟩; have n0_ := Aside0.mk (blk_below_u BK185.out hb); have n1_ := Aside0.mk (below_step (by repeat (first | (with_reducible first | exact HB.out | apply below_alloc | apply pw_below_drewN | apply below_drew1 | refine below_set ?_ GE185.out) | exact HB.out)) hb); clear BK185; clear HB; have BK185 := n0_; have HB := n1_; clear n0_ n1_; (try clear hb); (try clear hb2); (try clear hk); (try clear hi)) | ((with_reducible refine gate_dst (N := 3) rfl ?_); refine box_event ?hg (N := 3) ?hd (cs := #[.bool false, .bool false, .bool false]) (t := 106) ?hr ?_; (case hd => rfl); (case hg => rfl); (case hr => first | (go_simp; done) | (go_simp; rfl)); intro gb189 hg w7 hbox hb; have n0_ := Aside0.mk (blk_below_u BK185.out hb); have n1_ := Aside0.mk (below_step (by repeat (first | (with_reducible first | exact HB.out | apply below_alloc | apply pw_below_drewN | apply below_drew1 | refine below_set ?_ GE185.out) | exact HB.out)) hb); have n2_ := Aside0.mk (hbox); have n3_ := Aside0.mk ((by rw [hg]; exact (below_size (by repeat (first | (with_reducible first | exact HB.out | apply below_alloc | apply pw_below_drewN | apply below_drew1 | refine below_set ?_ GE185.out) | exact HB.out))) : w.heap.size ≤ gb189)); have n4_ := Aside0.mk ((by rw [hg]; exact (below_size (by repeat (first | (with_reducible first | exact HB.out | apply below_alloc | apply pw_below_drewN | apply below_drew1 | refine below_set ?_ GE185.out) | exact HB.out))) : w.heap.size ≤ gb189)); have n5_ := Aside0.mk ((by rw [hg]; exact Nat.ne_of_lt (blk_lt_u BK185.out) : gb185 ≠ gb189)); have n6_ := Aside0.mk ((by rw [hg]; exact Nat.ne_of_gt (blk_lt_u BK185.out) : gb189 ≠ gb185)); clear BK185; clear HB; have BK185 := n0_; have HB := n1_; have BK189 := n2_; have GW189 := n3_; have GE189 := n4_; have NB185_189 := n5_; have NB189_185 := n6_; clear n0_ n1_ n2_ n3_ n4_ n5_ n6_; clear hb hbox hg; have hnb8 := NB189_185.out; have hnc8 := NB185_189.out; obtain ⟨hcz9_0, hcz9_1, hcz9_2⟩ := blk_c3 BK189.out; obtain ⟨hfz9_0, hfz9_1, hfz9_2⟩ := blk_f3 BK189.out))
  go_ret
  exact ⟨_, by first | rfl | (simp [errW_none, errW_some] <;> rfl) | (simp [*, errW_none, errW_some] <;> rfl), by first | exact Kd.R_nil _ _ _ _ _ | exact Kd.N_nil _ _ _ _ _ | exact Kd.V_nil _ _ _ _ _ | exact Kd.Q_nil _ _ _ _ _ | exact Kd.S_nil _ _ _ _ _, by repeat (first | (with_reducible first | exact HB.out | apply below_alloc | apply pw_below_drewN | apply below_drew1 | refine below_set ?_ GE185.out | refine below_set ?_ GE189.out) | exact HB.out)⟩
 ·
  replace c3 := Bool.eq_false_iff.mpr c3
  subst c3
  have H1 : (if t187 = true then (some (([a0_1, a0_2] : List Int))) else (some (([a0_1] : List Int)))) = some r := by rw [if_neg (show ¬ (false = true) by decide)] at H; exact H
  clear H
  have H := H1
  clear H1
  by_cases c10 : t187 = true
  ·
   subst c10
   have H1 : (some (([a0_1, a0_2] : List Int))) = some r := by rw [if_pos rfl] at H; exact H
   clear H
   have H := H1
   clear H1
   obtain ⟨y190, hy190⟩ : ∃ y_ : List Int, y_ = (([a0_1, a0_2] : List Int)) := ⟨_, rfl⟩
   replace H : (some y190) = some r := by first | (rw [hy190]; with_reducible exact H) | (have H2_ := (Option.bind_some _ _).symm.trans H; rw [hy190]; with_reducible exact H2_) | (have H2_ := (Option.bind_some _ _).symm.trans H; with_reducible exact H2_) | with_reducible exact H | (rw [hy190]; exact H) | exact H
   have Ny190 := Aside0.mk hy190
   clear hy190
   obtain rfl := Option.some.inj H
   go_enter Tryd.func59, Tryd.ntmps59
   go_wp2_with (first | ((with_reducible refine gate_dst (N := 1) rfl ?_); refine box_event ?hg (N := 1) ?hd (cs := #[.int .i64 a0_0, .int .i64 a0_1, .int .i64 a0_2, .int .i64 a0_3]) (t := 66) ?hr ?_; (case hd => rfl); (case hg => rfl); (case hr => first | (go_simp; done) | (go_simp; rfl)); intro gb185 hg w11 hbox hb; have n0_ := Aside0.mk (below_step (by repeat (first | (with_reducible first | exact HB.out | apply below_alloc | apply pw_below_drewN | apply below_drew1) | exact HB.out)) hb); have n1_ := Aside0.mk (hbox); have n2_ := Aside0.mk ((by rw [hg]; exact (below_size (by repeat (first | (with_reducible first | exact HB.out | apply below_alloc | apply pw_below_drewN | apply below_drew1) | exact HB.out))) : w.heap.size ≤ gb185)); have n3_ := Aside0.mk ((by rw [hg]; exact (below_size (by repeat (first | (with_reducible first | exact HB.out | apply below_alloc | apply pw_below_drewN | apply below_drew1) | exact HB.out))) : w.heap.size ≤ gb185)); clear HB; have HB := n0_; have BK185 := n1_; have GW185 := n2_; have GE185 := n3_; clear n0_ n1_ n2_ n3_; clear hb hbox hg; obtain ⟨hcz12_0, hcz12_1, hcz12_2, hcz12_3⟩ := blk_c4 BK185.out; obtain ⟨hfz12_0, hfz12_1, hfz12_2, hfz12_3⟩ := blk_f4 BK185.out) | ((with_reducible refine gate_callee (f := 78) rfl ?_); refine goesL_ (some 6) rfl rfl Tryd.func78 (by kernel_rfl) rfl #[.int .i64 a0_0] rfl (by (try simp only [List.map_toArray, List.map_cons, List.map_nil]); first | done | rfl | (simp only [List.length_drop, List.length_take]; rfl)) ?_; (with_reducible refine (impl_namesOf.calls k a0_0 t186 true false _ A2.out).mono ?_); rintro e w13 ⟨rfl, hb⟩; refine ⟨_, rfl, ?_⟩; have n0_ := Aside0.mk (blk_below_u BK185.out hb); have n1_ := Aside0.mk (below_step (by repeat (first | (with_reducible first | exact HB.out | apply below_alloc | apply pw_below_drewN | apply below_drew1 | refine below_set ?_ GE185.out) | exact HB.out)) hb); clear BK185; clear HB; have BK185 := n0_; have HB := n1_; clear n0_ n1_; (try clear hb); (try clear hb2); (try clear hk); (try clear hi)) | ((with_reducible refine gate_dst (N := 3) rfl ?_); refine box_event ?hg (N := 3) ?hd (cs := #[.bool false, .bool false, .bool false]) (t := 106) ?hr ?_; (case hd => rfl); (case hg => rfl); (case hr => first | (go_simp; done) | (go_simp; rfl)); intro gb189 hg w14 hbox hb; have n0_ := Aside0.mk (blk_below_u BK185.out hb); have n1_ := Aside0.mk (below_step (by repeat (first | (with_reducible first | exact HB.out | apply below_alloc | apply pw_below_drewN | apply below_drew1 | refine below_set ?_ GE185.out) | exact HB.out)) hb); have n2_ := Aside0.mk (hbox); have n3_ := Aside0.mk ((by rw [hg]; exact (below_size (by repeat (first | (with_reducible first | exact HB.out | apply below_alloc | apply pw_below_drewN | apply below_drew1 | refine below_set ?_ GE185.out) | exact HB.out))) : w.heap.size ≤ gb189)); have n4_ := Aside0.mk ((by rw [hg]; exact (below_size (by repeat (first | (with_reducible first | exact HB.out | apply below_alloc | apply pw_below_drewN | apply below_drew1 | refine below_set ?_ GE185.out) | exact HB.out))) : w.heap.size ≤ gb189)); have n5_ := Aside0.mk ((by rw [hg]; exact Nat.ne_of_lt (blk_lt_u BK185.out) : gb185 ≠ gb189)); have n6_ := Aside0.mk ((by rw [hg]; exact Nat.ne_of_gt (blk_lt_u BK185.out) : gb189 ≠ gb185)); clear BK185; clear HB; have BK185 := n0_; have HB := n1_; have BK189 := n2_; have GW189 := n3_; have GE189 := n4_; have NB185_189 := n5_; have NB189_185 := n6_; clear n0_ n1_ n2_ n3_ n4_ n5_ n6_; clear hb hbox hg; have hnb15 := NB189_185.out; have hnc15 := NB185_189.out; obtain ⟨hcz16_0, hcz16_1, hcz16_2⟩ := blk_c3 BK189.out; obtain ⟨hfz16_0, hfz16_1, hfz16_2⟩ := blk_f3 BK189.out; obtain ⟨hcz17_0, hcz17_1, hcz17_2, hcz17_3⟩ := blk_c4 BK185.out; obtain ⟨hfz17_0, hfz17_1, hfz17_2, hfz17_3⟩ := blk_f4 BK185.out) | ((with_reducible refine gate_dst (N := 21) rfl ?_); refine Kd.R_lit (Kd.int .i64) _ 2 ?hg (N := 21) ?hd (xs := ([a0_1, a0_2] : List Int)) (inner := [.int .i64 a0_1, .int .i64 a0_2]) (ok := fun _ => True) (okp := fun _ => True) ?hr ?hp (fun _ hk => hk) trivial (Below.refl _ _) (Nat.le_refl _) (by simp) ?_; (case hd => rfl); (case hg => rfl); (case hr => first | (go_simp; done) | (go_simp; rfl)); (case hp => exact (Reps.one (show Kd.M (Kd.int .i64) _ _ _ a0_1 [.int .i64 a0_1] from rfl) (Reps.one (show Kd.M (Kd.int .i64) _ _ _ a0_2 [.int .i64 a0_2] from rfl) (Reps.none _ _)))); intro v191 w18 ho19 hb hg_ hnew_; clear hg_ hnew_; (first | rw [← Ny190.out] at ho19 | (simp only [Int.reduceToNat] at ho19; rw [← Ny190.out] at ho19)); have n0_ := Aside0.mk (Kd.R_lower ho19 (below_size (by repeat (first | (with_reducible first | exact HB.out | apply below_alloc | apply pw_below_drewN | apply below_drew1 | refine below_set ?_ GE185.out | refine below_set ?_ GE189.out) | exact HB.out)))); have n1_ := Aside0.mk (blk_below (g := gb185) (o := .cells #[.int .i64 a0_0, .int .i64 a0_1, .int .i64 a0_2, .int .i64 a0_3] 66 (0, 0)) (by (with_reducible repeat (first | refine blk_drewN ?_ _ | refine blk_drew ?_ | refine blk_alloc ?_ _)); refine blk_far ?_ NB185_189.out _; (with_reducible repeat (first | refine blk_drewN ?_ _ | refine blk_drew ?_ | refine blk_alloc ?_ _)); refine blk_far ?_ NB185_189.out _; (with_reducible repeat (first | refine blk_drewN ?_ _ | refine blk_drew ?_ | refine blk_alloc ?_ _)); refine blk_far ?_ NB185_189.out _; (with_reducible repeat (first | refine blk_drewN ?_ _ | refine blk_drew ?_ | refine blk_alloc ?_ _)); exact BK185.out) hb); have n2_ := Aside0.mk (blk_below (g := gb189) (o := .cells #[.bool t186, .bool true, .bool false] 106 (0, 0)) (by (with_reducible repeat (first | refine blk_drewN ?_ _ | refine blk_drew ?_ | refine blk_alloc ?_ _)); refine blk_put (cs := #[.bool t186, .bool true, .bool false]) ?_ 2 _ rfl; (with_reducible repeat (first | refine blk_drewN ?_ _ | refine blk_drew ?_ | refine blk_alloc ?_ _)); refine blk_put (cs := #[.bool t186, .bool false, .bool false]) ?_ 1 _ rfl; (with_reducible repeat (first | refine blk_drewN ?_ _ | refine blk_drew ?_ | refine blk_alloc ?_ _)); refine blk_put (cs := #[.bool false, .bool false, .bool false]) ?_ 0 _ rfl; (with_reducible repeat (first | refine blk_drewN ?_ _ | refine blk_drew ?_ | refine blk_alloc ?_ _)); exact BK189.out) hb); have n3_ := Aside0.mk (below_step (by repeat (first | (with_reducible first | exact HB.out | apply below_alloc | apply pw_below_drewN | apply below_drew1 | refine below_set ?_ GE185.out | refine below_set ?_ GE189.out) | exact HB.out)) hb); clear BK185; clear BK189; clear HB; have HO192 := n0_; have BK185 := n1_; have BK189 := n2_; have HB := n3_; clear n0_ n1_ n2_ n3_; clear hb ho19))
   go_ret
   exact ⟨_, by first | rfl | (simp [errW_none, errW_some] <;> rfl) | (simp [*, errW_none, errW_some] <;> rfl), by (with_reducible repeat (first | apply Kd.R_alloc | apply Kd.R_drewN | apply Kd.R_drew)); exact HO192.out, by repeat (first | (with_reducible first | exact HB.out | apply below_alloc | apply pw_below_drewN | apply below_drew1 | refine below_set ?_ GE185.out | refine below_set ?_ GE189.out) | exact HB.out)⟩
  ·
   replace c10 := Bool.eq_false_iff.mpr c10
   subst c10
   have H1 : (some (([a0_1] : List Int))) = some r := by rw [if_neg (show ¬ (false = true) by decide)] at H; exact H
   clear H
   have H := H1
   clear H1
   obtain ⟨y193, hy193⟩ : ∃ y_ : List Int, y_ = (([a0_1] : List Int)) := ⟨_, rfl⟩
   replace H : (some y193) = some r := by first | (rw [hy193]; with_reducible exact H) | (have H2_ := (Option.bind_some _ _).symm.trans H; rw [hy193]; with_reducible exact H2_) | (have H2_ := (Option.bind_some _ _).symm.trans H; with_reducible exact H2_) | with_reducible exact H | (rw [hy193]; exact H) | exact H
   have Ny193 := Aside0.mk hy193
   clear hy193
   obtain rfl := Option.some.inj H
   go_enter Tryd.func59, Tryd.ntmps59
   go_wp2_with (first | ((with_reducible refine gate_dst (N := 1) rfl ?_); refine box_event ?hg (N := 1) ?hd (cs := #[.int .i64 a0_0, .int .i64 a0_1, .int .i64 a0_2, .int .i64 a0_3]) (t := 66) ?hr ?_; (case hd => rfl); (case hg => rfl); (case hr => first | (go_simp; done) | (go_simp; rfl)); intro gb185 hg w20 hbox hb; have n0_ := Aside0.mk (below_step (by repeat (first | (with_reducible first | exact HB.out | apply below_alloc | apply pw_below_drewN | apply below_drew1) | exact HB.out)) hb); have n1_ := Aside0.mk (hbox); have n2_ := Aside0.mk ((by rw [hg]; exact (below_size (by repeat (first | (with_reducible first | exact HB.out | apply below_alloc | apply pw_below_drewN | apply below_drew1) | exact HB.out))) : w.heap.size ≤ gb185)); have n3_ := Aside0.mk ((by rw [hg]; exact (below_size (by repeat (first | (with_reducible first | exact HB.out | apply below_alloc | apply pw_below_drewN | apply below_drew1) | exact HB.out))) : w.heap.size ≤ gb185)); clear HB; have HB := n0_; have BK185 := n1_; have GW185 := n2_; have GE185 := n3_; clear n0_ n1_ n2_ n3_; clear hb hbox hg; obtain ⟨hcz21_0, hcz21_1, hcz21_2, hcz21_3⟩ := blk_c4 BK185.out; obtain ⟨hfz21_0, hfz21_1, hfz21_2, hfz21_3⟩ := blk_f4 BK185.out) | ((with_reducible refine gate_callee (f := 78) rfl ?_); refine goesL_ (some 6) rfl rfl Tryd.func78 (by kernel_rfl) rfl #[.int .i64 a0_0] rfl (by (try simp only [List.map_toArray, List.map_cons, List.map_nil]); first | done | rfl | (simp only [List.length_drop, List.length_take]; rfl)) ?_; (with_reducible refine (impl_namesOf.calls k a0_0 t186 false false _ A2.out).mono ?_); rintro e w22 ⟨rfl, hb⟩; refine ⟨_, rfl, ?_⟩; have n0_ := Aside0.mk (blk_below_u BK185.out hb); have n1_ := Aside0.mk (below_step (by repeat (first | (with_reducible first | exact HB.out | apply below_alloc | apply pw_below_drewN | apply below_drew1 | refine below_set ?_ GE185.out) | exact HB.out)) hb); clear BK185; clear HB; have BK185 := n0_; have HB := n1_; clear n0_ n1_; (try clear hb); (try clear hb2); (try clear hk); (try clear hi)) | ((with_reducible refine gate_dst (N := 3) rfl ?_); refine box_event ?hg (N := 3) ?hd (cs := #[.bool false, .bool false, .bool false]) (t := 106) ?hr ?_; (case hd => rfl); (case hg => rfl); (case hr => first | (go_simp; done) | (go_simp; rfl)); intro gb189 hg w23 hbox hb; have n0_ := Aside0.mk (blk_below_u BK185.out hb); have n1_ := Aside0.mk (below_step (by repeat (first | (with_reducible first | exact HB.out | apply below_alloc | apply pw_below_drewN | apply below_drew1 | refine below_set ?_ GE185.out) | exact HB.out)) hb); have n2_ := Aside0.mk (hbox); have n3_ := Aside0.mk ((by rw [hg]; exact (below_size (by repeat (first | (with_reducible first | exact HB.out | apply below_alloc | apply pw_below_drewN | apply below_drew1 | refine below_set ?_ GE185.out) | exact HB.out))) : w.heap.size ≤ gb189)); have n4_ := Aside0.mk ((by rw [hg]; exact (below_size (by repeat (first | (with_reducible first | exact HB.out | apply below_alloc | apply pw_below_drewN | apply below_drew1 | refine below_set ?_ GE185.out) | exact HB.out))) : w.heap.size ≤ gb189)); have n5_ := Aside0.mk ((by rw [hg]; exact Nat.ne_of_lt (blk_lt_u BK185.out) : gb185 ≠ gb189)); have n6_ := Aside0.mk ((by rw [hg]; exact Nat.ne_of_gt (blk_lt_u BK185.out) : gb189 ≠ gb185)); clear BK185; clear HB; have BK185 := n0_; have HB := n1_; have BK189 := n2_; have GW189 := n3_; have GE189 := n4_; have NB185_189 := n5_; have NB189_185 := n6_; clear n0_ n1_ n2_ n3_ n4_ n5_ n6_; clear hb hbox hg; have hnb24 := NB189_185.out; have hnc24 := NB185_189.out; obtain ⟨hcz25_0, hcz25_1, hcz25_2⟩ := blk_c3 BK189.out; obtain ⟨hfz25_0, hfz25_1, hfz25_2⟩ := blk_f3 BK189.out; obtain ⟨hcz26_0, hcz26_1, hcz26_2, hcz26_3⟩ := blk_c4 BK185.out; obtain ⟨hfz26_0, hfz26_1, hfz26_2, hfz26_3⟩ := blk_f4 BK185.out) | ((with_reducible refine gate_dst (N := 16) rfl ?_); refine Kd.R_lit (Kd.int .i64) _ 2 ?hg (N := 16) ?hd (xs := ([a0_1] : List Int)) (inner := [.int .i64 a0_1]) (ok := fun _ => True) (okp := fun _ => True) ?hr ?hp (fun _ hk => hk) trivial (Below.refl _ _) (Nat.le_refl _) (by simp) ?_; (case hd => rfl); (case hg => rfl); (case hr => first | (go_simp; done) | (go_simp; rfl)); (case hp => exact (Reps.one (show Kd.M (Kd.int .i64) _ _ _ a0_1 [.int .i64 a0_1] from rfl) (Reps.none _ _))); intro v194 w27 ho28 hb hg_ hnew_; clear hg_ hnew_; (first | rw [← Ny193.out] at ho28 | (simp only [Int.reduceToNat] at ho28; rw [← Ny193.out] at ho28)); have n0_ := Aside0.mk (Kd.R_lower ho28 (below_size (by repeat (first | (with_reducible first | exact HB.out | apply below_alloc | apply pw_below_drewN | apply below_drew1 | refine below_set ?_ GE185.out | refine below_set ?_ GE189.out) | exact HB.out)))); have n1_ := Aside0.mk (blk_below (g := gb185) (o := .cells #[.int .i64 a0_0, .int .i64 a0_1, .int .i64 a0_2, .int .i64 a0_3] 66 (0, 0)) (by (with_reducible repeat (first | refine blk_drewN ?_ _ | refine blk_drew ?_ | refine blk_alloc ?_ _)); refine blk_far ?_ NB185_189.out _; (with_reducible repeat (first | refine blk_drewN ?_ _ | refine blk_drew ?_ | refine blk_alloc ?_ _)); refine blk_far ?_ NB185_189.out _; (with_reducible repeat (first | refine blk_drewN ?_ _ | refine blk_drew ?_ | refine blk_alloc ?_ _)); refine blk_far ?_ NB185_189.out _; (with_reducible repeat (first | refine blk_drewN ?_ _ | refine blk_drew ?_ | refine blk_alloc ?_ _)); exact BK185.out) hb); have n2_ := Aside0.mk (blk_below (g := gb189) (o := .cells #[.bool t186, .bool false, .bool false] 106 (0, 0)) (by (with_reducible repeat (first | refine blk_drewN ?_ _ | refine blk_drew ?_ | refine blk_alloc ?_ _)); refine blk_put (cs := #[.bool t186, .bool false, .bool false]) ?_ 2 _ rfl; (with_reducible repeat (first | refine blk_drewN ?_ _ | refine blk_drew ?_ | refine blk_alloc ?_ _)); refine blk_put (cs := #[.bool t186, .bool false, .bool false]) ?_ 1 _ rfl; (with_reducible repeat (first | refine blk_drewN ?_ _ | refine blk_drew ?_ | refine blk_alloc ?_ _)); refine blk_put (cs := #[.bool false, .bool false, .bool false]) ?_ 0 _ rfl; (with_reducible repeat (first | refine blk_drewN ?_ _ | refine blk_drew ?_ | refine blk_alloc ?_ _)); exact BK189.out) hb); have n3_ := Aside0.mk (below_step (by repeat (first | (with_reducible first | exact HB.out | apply below_alloc | apply pw_below_drewN | apply below_drew1 | refine below_set ?_ GE185.out | refine below_set ?_ GE189.out) | exact HB.out)) hb); clear BK185; clear BK189; clear HB; have HO195 := n0_; have BK185 := n1_; have BK189 := n2_; have HB := n3_; clear n0_ n1_ n2_ n3_; clear hb ho28))
   go_ret
   exact ⟨_, by first | rfl | (simp [errW_none, errW_some] <;> rfl) | (simp [*, errW_none, errW_some] <;> rfl), by (with_reducible repeat (first | apply Kd.R_alloc | apply Kd.R_drewN | apply Kd.R_drew)); exact HO195.out, by repeat (first | (with_reducible first | exact HB.out | apply below_alloc | apply pw_below_drewN | apply below_drew1 | refine below_set ?_ GE185.out | refine below_set ?_ GE189.out) | exact HB.out)⟩

/-! ### (my own text) idxO -/
def idxO {α : Type} (p : α → Option Bool) : List α → Int → Option Int
  | [], _ => some (-1)
  | x :: xs, i => (p x).bind fun b => if b = true then some i else idxO p xs (i + 1)
theorem idxO_mono {α : Type} {p q : α → Option Bool} (h : ∀ x, LeO (p x) (q x)) : ∀ (l : List α) (i : Int), LeO (idxO p l i) (idxO q l i)
  | [], _ => LeO.refl _
  | x :: xs, i => LeO.bind (h x) (fun b => LeO.ite (LeO.refl _) (idxO_mono h xs (i + 1)))
theorem getD_at {α : Type} (l : List α) (z : α) (i : Nat) (h : i < l.length) : l.getD (i : Int).toNat z = l[i] := by
  simp [List.getD_eq_getElem?_getD, h]

/-! ### (my own text) IndexFuncI -/
set_option maxHeartbeats 4000000 in
set_option maxRecDepth 100000 in
theorem IndexFuncI.calls (A0 : Option Addr) (c0 : Nat) (l0 : List Int) (g : Nat) (lb : Array Value) (p : Int → Option Bool) (r : Int) (w : World)
    (eg : ∀ args w, (callFunc g args).run Tryd.prog w = .ok (.enter g args) w) (hr0 : Kd.C (Kd.int .i64) w A0 l0.length l0)
    (hp : ∀ (x : Int) (b : Bool) (W : World), p x = some b → Below w.heap.size w W → Calls Tryd.prog g (#[.int .i64 x] ++ lb) W fun e w' => e = .returned (.bool b) ∧ Below w.heap.size w w')
    (h : idxO p l0 0 = some r) :
    Calls Tryd.prog 77 #[.slice A0 l0.length c0, .func (.func g) #[] lb] w fun e w' => e = .returned (.int .i64 r) ∧ Below w.heap.size w w' := by
  have hm : l0.length ≤ 9223372036854775807 := hr0.2.1
  have HR0 := Aside0.mk hr0
  clear hr0
  have HP := Aside0.mk hp
  clear hp
  have H0 := Aside0.mk h
  clear h
  go_enter Tryd.func77, Tryd.ntmps77
  go_wp2
  go_loopg [5, 8] l0.length (fun gg _ s8 wr => ∃ kk : Nat, kk ≤ l0.length ∧ l0.length - kk ≤ gg ∧ s8 = .int .i64 kk ∧ Aside0 (Below w.heap.size w wr) ∧ Aside0 (idxO p (l0.drop kk) kk = some r))
  case atStart => exact ⟨0, Nat.zero_le _, by omega, rfl, ⟨Below.refl _ w⟩, ⟨by rw [List.drop_zero]; exact H0.out⟩⟩
  case round =>
    obtain ⟨kk, hkk, hg, rfl, BW, A⟩ := hrel
    by_cases hlt : kk < l0.length
    · have hltz : (kk : Int) < (l0.length : Int) := by omega
      obtain ⟨ad, e, hx0⟩ := Kd.at_int HR0.out (kk : Int) (by omega) hltz
      have A2 := A.out
      rw [List.drop_eq_getElem_cons hlt, idxO, ← getD_at l0 0 kk hlt] at A2
      change (p (rd l0 (kk : Int))).bind _ = some r at A2
      obtain ⟨b, hpb, A3⟩ := Option.bind_eq_some_iff.mp A2
      have hcall := HP.out _ _ wr hpb BW.out
      clear A A2 HP HR0 H0 hpb
      cases e
      replace hx0 := (BW.out.cell (World.block_lt_of_cell? w _ hx0)).trans hx0
      simp only [Int.toNat_natCast] at hx0
      cases b with
      | true =>
        have A4 := Aside0.mk (Option.some.inj ((if_pos rfl).symm.trans A3))
        clear A3
        go_wp2_with (go_at_fn g; refine hcall.mono ?_; rintro e w' ⟨rfl, hb'⟩)
        go_ret
        exact ⟨congrArg (fun z => Ending.returned (Value.int .i64 z)) A4.out, hb'⟩
      | false =>
        have A4 := Aside0.mk ((if_neg (by simp)).symm.trans A3)
        clear A3
        go_wp2_with (go_at_fn g; refine hcall.mono ?_; rintro e w' ⟨rfl, hb'⟩)
        go_roundg (l0.length - (kk + 1))
        case measure => omega
        case rel => exact ⟨kk + 1, by omega, by omega, by go_num, ⟨hb'⟩, ⟨A4.out⟩⟩
    · have hltz : ¬ (kk : Int) < (l0.length : Int) := by omega
      have hke : kk = l0.length := by omega
      subst hke
      have A4 := Aside0.mk (Option.some.inj ((by rw [List.drop_length, idxO] : idxO p (l0.drop l0.length) _ = some (-1)).symm.trans A.out))
      clear A
      go_wp2
      go_ret
      exact ⟨congrArg (fun z => Ending.returned (Value.int .i64 z)) A4.out, BW.out⟩

/-! ### (my own text) ContainsFuncI -/
set_option maxHeartbeats 4000000 in
set_option maxRecDepth 100000 in
theorem ContainsFuncI.calls (A0 : Option Addr) (c0 : Nat) (l0 : List Int) (g : Nat) (lb : Array Value) (p : Int → Option Bool) (r : Int) (w : World)
    (eg : ∀ args w, (callFunc g args).run Tryd.prog w = .ok (.enter g args) w) (hr0 : Kd.C (Kd.int .i64) w A0 l0.length l0)
    (hp : ∀ (x : Int) (b : Bool) (W : World), p x = some b → Below w.heap.size w W → Calls Tryd.prog g (#[.int .i64 x] ++ lb) W fun e w' => e = .returned (.bool b) ∧ Below w.heap.size w w')
    (h : idxO p l0 0 = some r) :
    Calls Tryd.prog 56 #[.slice A0 l0.length c0, .func (.func g) #[] lb] w fun e w' => e = .returned (.bool (decide (0 ≤ r))) ∧ Below w.heap.size w w' := by
  have H := IndexFuncI.calls A0 c0 l0 g lb p r w eg hr0 hp h
  clear hp h hr0
  go_enter Tryd.func56, Tryd.ntmps56
  go_wp2_with (go_at_call 77; refine H.mono ?_; rintro e w' ⟨rfl, hb'⟩)
  go_ret
  exact ⟨rfl, hb'⟩

/-! ### (my own text) boxWords -/
-- the call's own boxes (blocks of cells), beside what was there when it began
structure Boxes (w0 W : World) (bs : List (Nat × Array Value × TypeId)) : Prop where
  low : Below w0.heap.size w0 W
  blk : ∀ x ∈ bs, W.heap[x.1]? = some (.cells x.2.1 x.2.2 (0, 0))
  ge : ∀ x ∈ bs, w0.heap.size ≤ x.1
  ne : bs.Pairwise (fun x y => x.1 ≠ y.1)
theorem Boxes.start (w : World) : Boxes w w [] := ⟨Below.refl _ _, by simp, by simp, List.Pairwise.nil⟩
theorem Boxes.drewN {w0 W : World} {bs : List (Nat × Array Value × TypeId)} (h : Boxes w0 W bs) (n : Nat) : Boxes w0 (W.drewN n) bs := ⟨pw_below_drewN h.low n, h.blk, h.ge, h.ne⟩
theorem Boxes.drew {w0 W : World} {bs : List (Nat × Array Value × TypeId)} (h : Boxes w0 W bs) : Boxes w0 W.drew bs := ⟨below_drew1 h.low, h.blk, h.ge, h.ne⟩
theorem Boxes.below {w0 W W1 : World} {bs : List (Nat × Array Value × TypeId)} (h : Boxes w0 W bs) (hb : Below W.heap.size W W1) : Boxes w0 W1 bs :=
  ⟨below_step h.low hb, fun x hx => blk_below (h.blk x hx) hb, h.ge, h.ne⟩
theorem Boxes.alloc {w0 W : World} {bs : List (Nat × Array Value × TypeId)} (h : Boxes w0 W bs) (o : Obj) : Boxes w0 (W.alloc o) bs := h.below (below_alloc (Below.refl _ _) o)
theorem Boxes.new {w0 W W1 : World} {bs : List (Nat × Array Value × TypeId)} (h : Boxes w0 W bs) {g : Nat} {cs : Array Value} {t : TypeId} (hg : g = W.heap.size) (hbox : W1.heap[g]? = some (.cells cs t (0, 0))) (hb : Below W.heap.size W W1) :
    Boxes w0 W1 ((g, cs, t) :: bs) := by
  have h1 := h.below hb
  refine ⟨h1.low, fun x hx => ?_, fun x hx => ?_, List.pairwise_cons.2 ⟨fun y hy => ?_, h.ne⟩⟩
  · rcases List.mem_cons.1 hx with rfl | hx
    · exact hbox
    · exact h1.blk x hx
  · rcases List.mem_cons.1 hx with rfl | hx
    · rw [hg]
      exact h.low.size
    · exact h.ge x hx
  · rw [hg]
    exact Nat.ne_of_gt (blk_lt (h.blk y hy))
theorem Boxes.at_ {w0 W : World} {bs : List (Nat × Array Value × TypeId)} (h : Boxes w0 W bs) {i g : Nat} {cs : Array Value} {t : TypeId} (hi : bs[i]? = some (g, cs, t)) : W.heap[g]? = some (.cells cs t (0, 0)) := h.blk (g, cs, t) (List.mem_of_getElem? hi)
theorem Boxes.cell {w0 W : World} {bs : List (Nat × Array Value × TypeId)} (h : Boxes w0 W bs) {i g : Nat} {cs : Array Value} {t : TypeId} (hi : bs[i]? = some (g, cs, t)) {j : Nat} {v : Value} (hj : cs[j]? = some v) : W.cell? ⟨g, j, none⟩ = some v := (blk_cell (h.at_ hi) j).trans hj
theorem Boxes.frozen {w0 W : World} {bs : List (Nat × Array Value × TypeId)} (h : Boxes w0 W bs) {i g : Nat} {cs : Array Value} {t : TypeId} (hi : bs[i]? = some (g, cs, t)) (j : Nat) : W.frozen? ⟨g, j, none⟩ = false := blk_frozen (h.at_ hi) j
theorem Boxes.lt {w0 W : World} {bs : List (Nat × Array Value × TypeId)} (h : Boxes w0 W bs) {i g : Nat} {cs : Array Value} {t : TypeId} (hi : bs[i]? = some (g, cs, t)) : g < W.heap.size := blk_lt (h.at_ hi)
theorem Boxes.put {w0 W : World} {b1 b2 : List (Nat × Array Value × TypeId)} {g : Nat} {cs : Array Value} {t : TypeId} (h : Boxes w0 W (b1 ++ (g, cs, t) :: b2)) (i : Nat) (u : Value) :
    Boxes w0 (W.setCell ⟨g, i, none⟩ u) (b1 ++ (g, cs.setIfInBounds i u, t) :: b2) := by
  have hg : w0.heap.size ≤ g := h.ge (g, cs, t) (by simp)
  have hne : ∀ x, x ∈ b1 ∨ x ∈ b2 → x.1 ≠ g := by
    intro x hx
    have h1 := List.pairwise_append.1 h.ne
    rcases hx with hx | hx
    · exact h1.2.2 x hx (g, cs, t) (by simp)
    · exact ((List.pairwise_cons.1 h1.2.1).1 x hx).symm
  refine ⟨below_set h.low hg, fun x hx => ?_, fun x hx => ?_, ?_⟩
  · rw [List.mem_append, List.mem_cons] at hx
    rcases hx with hx | rfl | hx
    · exact blk_far (h.blk x (by simp [hx])) (hne x (.inl hx)) _
    · exact blk_set (h.blk (g, cs, t) (by simp)) i u
    · exact blk_far (h.blk x (by simp [hx])) (hne x (.inr hx)) _
  · rw [List.mem_append, List.mem_cons] at hx
    rcases hx with hx | rfl | hx
    · exact h.ge x (by simp [hx])
    · exact hg
    · exact h.ge x (by simp [hx])
  · have h1 := h.ne
    rw [List.pairwise_append, List.pairwise_cons] at h1 ⊢
    refine ⟨h1.1, ⟨h1.2.1.1, h1.2.1.2⟩, fun a ha b hb => ?_⟩
    rcases List.mem_cons.1 hb with rfl | hb
    · exact hne a (.inl ha)
    · exact h1.2.2 a ha b (by simp [hb])
theorem boxes_store {P : Program} {ops : Array Oper} {rest : List Oper} {o : Oper} {a : Act} {Q : Exit → Act → World → Prop} {w0 W W1 : World} {bs : List (Nat × Array Value × TypeId)} {t : TypeId} {p : Tmp} {v : Operand} (hgd : o.guard = none) (ho : o.op = .store t (.tmp p) v) (hN : o.dst = none)
    (hr : (execOp a.eval o).run P W = .ok .skip W1) (hB : Boxes w0 W1 bs) (h : ∀ w', Boxes w0 w' bs → wpList P ops Q rest a w') : wpList P ops Q (o :: rest) a W := by
  refine store_event hgd ho hN hr ?_
  rintro w' rfl
  exact h _ hB

/-! ### impl_Term_fault: function 76 (my own text) -/
def impl_Term_fault.p1 (l1 : List S66) (at_ : Int) : Option Bool := (impl_isPlace.f l1 at_).bind fun b => some (!b)
def impl_Term_fault.p2 (l1 : List S66) (at_ : Int) : Option Bool := if 0 ≤ at_ then (if at_ < (l1.length : Int) then some ((rd_T66 l1 at_).f0 != 2) else none) else none
def impl_Term_fault.r (a0_0 a0_1 a0_2 a0_3 : Int) (b1 xa xb xn b2 : Bool) (i j : Int) : Int :=
  if b1 = true then (if (xa = false ∧ a0_1 ≠ 0) ∨ (xb = false ∧ a0_2 ≠ 0) ∨ (xn = false ∧ a0_3 ≠ 0) then 1 else if b2 = true then (if 0 ≤ i then 3 else if a0_0 = 6 ∨ a0_0 = 7 then (if 0 ≤ j then 1 else if a0_0 = 7 ∧ a0_1 > a0_2 then 1 else 0) else 0) else 3) else 5
def impl_Term_fault.f (a0_0 : Int) (a0_1 : Int) (a0_2 : Int) (a0_3 : Int) (l1 : List S66) : Option Int :=
  (impl_in.f a0_0 1 7).bind fun b1 => (impl_namesOf.f 9 a0_0).bind fun x => (impl_in.f a0_3 0 9999).bind fun b2 => (impl_Term_parts.f 9 a0_0 a0_1 a0_2 a0_3).bind fun ps => (idxO (impl_Term_fault.p1 l1) ps 0).bind fun i =>
    (if 0 ≤ i then some 0 else idxO (impl_Term_fault.p2 l1) ps 0).bind fun j => some (impl_Term_fault.r a0_0 a0_1 a0_2 a0_3 b1 x.1 x.2.1 x.2.2 b2 i j)
set_option maxHeartbeats 4000000 in
set_option maxRecDepth 100000 in
theorem impl_Term_fault_lit1.calls (A1 : Option Addr) (c1 : Nat) (l1 : List S66) (x : Int) (b : Bool) (pb : Nat) (w W : World) (hpb : pb < w.heap.size) (e0 : w.cell? ⟨pb, 0, none⟩ = some (.slice A1 l1.length c1))
    (hr : Kd.C k66 w A1 l1.length l1) (hc : l1.length ≤ c1) (hb : Below w.heap.size w W) (h : impl_Term_fault.p1 l1 x = some b) :
    Calls Tryd.prog 82 #[.int .i64 x, .pointer (some ⟨pb, 0, none⟩)] W fun e w' => e = .returned (.bool b) ∧ Below w.heap.size w w' := by
  replace e0 := (hb.cell (p := ⟨pb, 0, none⟩) hpb).trans e0
  obtain ⟨b', h1, h⟩ := Option.bind_eq_some_iff.mp h
  obtain rfl := Option.some.inj h
  have HH := Aside0.mk (impl_isPlace.calls A1 c1 l1 x b' W (Kd.C_below hr hb) hc h1)
  have HB := Aside0.mk hb
  clear hr hc h h1 hb hpb
  go_enter Tryd.func82, Tryd.ntmps82
  go_wp2_with (go_at_call 58; refine HH.out.mono ?_; rintro e w' ⟨rfl, ⟨nd, rfl⟩⟩)
  go_ret
  exact ⟨rfl, pw_below_drewN HB.out nd⟩
set_option maxHeartbeats 4000000 in
set_option maxRecDepth 100000 in
theorem impl_Term_fault_lit2.calls (A1 : Option Addr) (c1 : Nat) (l1 : List S66) (x : Int) (b : Bool) (pb : Nat) (w W : World) (hpb : pb < w.heap.size) (e0 : w.cell? ⟨pb, 0, none⟩ = some (.slice A1 l1.length c1))
    (hr : Kd.C k66 w A1 l1.length l1) (hc : l1.length ≤ c1) (hb : Below w.heap.size w W) (h : impl_Term_fault.p2 l1 x = some b) :
    Calls Tryd.prog 83 #[.int .i64 x, .pointer (some ⟨pb, 0, none⟩)] W fun e w' => e = .returned (.bool b) ∧ Below w.heap.size w w' := by
  replace e0 := (hb.cell (p := ⟨pb, 0, none⟩) hpb).trans e0
  unfold impl_Term_fault.p2 at h
  by_cases h0 : 0 ≤ x
  · rw [if_pos h0] at h
    by_cases h1 : x < (l1.length : Int)
    · rw [if_pos h1] at h
      obtain rfl := Option.some.inj h
      obtain ⟨ad, e, hx0, hx1, hx2, hx3⟩ := at_T66 (Kd.C_below hr hb) x h0 h1
      cases e
      have HB := Aside0.mk hb
      clear hr hc h hb hpb
      have p1 : (0 ≤ x) = True := eq_true h0
      have q1 : (x < (l1.length : Int)) = True := eq_true h1
      have hu := Tryd.underlying37
      have hu2 := Tryd.underlying66
      go_enter Tryd.func83, Tryd.ntmps83
      go_wp2
      go_ret
      exact ⟨rfl, HB.out⟩
    · rw [if_neg h1] at h
      exact absurd h (by simp)
  · rw [if_neg h0] at h
    exact absurd h (by simp)
set_option maxHeartbeats 16000000 in
set_option maxRecDepth 100000 in
theorem impl_Term_fault_b (a0_0 : Int) (a0_1 : Int) (a0_2 : Int) (a0_3 : Int) (A1 : Option Addr) (c1 : Nat) (l1 : List S66) (xa_ xb_ xn_ b1_ b2_ : Bool) (ps_ : List Int) (i_ j_ r_ : Int) (w : World) (hc1 : l1.length ≤ c1) (HR1 : Aside0 (Kd.C k66 w A1 l1.length l1)) (eg1 : ∀ args w, (callFunc 82 args).run Tryd.prog w = .ok (.enter 82 args) w) (eg2 : ∀ args w, (callFunc 83 args).run Tryd.prog w = .ok (.enter 83 args) w) (H1 : Aside0 (impl_in.f a0_0 1 7 = some b1_)) (H2 : Aside0 (impl_namesOf.f 9 a0_0 = some (xa_, xb_, xn_))) (H3 : Aside0 (impl_in.f a0_3 0 9999 = some b2_))
    (H4 : Aside0 (impl_Term_parts.f 9 a0_0 a0_1 a0_2 a0_3 = some ps_)) (H5 : Aside0 (idxO (impl_Term_fault.p1 l1) ps_ 0 = some i_)) (H6 : Aside0 (i_ < 0 → idxO (impl_Term_fault.p2 l1) ps_ 0 = some j_)) (HV : Aside0 (impl_Term_fault.r a0_0 a0_1 a0_2 a0_3 b1_ xa_ xb_ xn_ b2_ i_ j_ = r_)) (vb1 : b1_ = false) :
    Calls Tryd.prog 76 #[.agg #[.int .i64 a0_0, .int .i64 a0_1, .int .i64 a0_2, .int .i64 a0_3], .slice A1 l1.length c1] w fun e w' => e = .returned (.int .i64 r_) ∧ Below w.heap.size w w' := by
  skip
  all_goals (
    have BX := Aside0.mk (Boxes.start w)
    have hu1 := Tryd.underlying66
    have hu2 := Tryd.underlying37
    have hu3 := Tryd.underlying106
    go_enter Tryd.func76, Tryd.ntmps76
    go_wp2_with (first | ((with_reducible refine gate_dst (N := 2) rfl ?_); refine box_event ?hg (N := 2) ?hd (cs := #[.int .i64 a0_0, .int .i64 a0_1, .int .i64 a0_2, .int .i64 a0_3]) (t := 66) ?hr ?_; (case hd => rfl); (case hg => rfl); (case hr => first | (go_simp; done) | (go_simp; rfl)); intro g2 hg w2_ hbox hb; have BY := Aside0.mk (Boxes.new (w0 := w) (bs := []) (by (with_reducible repeat (first | refine Boxes.drewN ?_ _ | refine Boxes.drew ?_ | refine Boxes.alloc ?_ _)); exact BX.out) hg hbox hb); clear BX hb hbox hg; have BX := BY; clear BY; have q2_0 : World.cell? _ ⟨g2, 0, none⟩ = some (.int .i64 a0_0) := BX.out.cell (i := 0) rfl (j := 0) rfl; have f2_0 : World.frozen? _ ⟨g2, 0, none⟩ = false := BX.out.frozen (i := 0) rfl 0; have q2_1 : World.cell? _ ⟨g2, 1, none⟩ = some (.int .i64 a0_1) := BX.out.cell (i := 0) rfl (j := 1) rfl; have f2_1 : World.frozen? _ ⟨g2, 1, none⟩ = false := BX.out.frozen (i := 0) rfl 1; have q2_2 : World.cell? _ ⟨g2, 2, none⟩ = some (.int .i64 a0_2) := BX.out.cell (i := 0) rfl (j := 2) rfl; have f2_2 : World.frozen? _ ⟨g2, 2, none⟩ = false := BX.out.frozen (i := 0) rfl 2; have q2_3 : World.cell? _ ⟨g2, 3, none⟩ = some (.int .i64 a0_3) := BX.out.cell (i := 0) rfl (j := 3) rfl; have f2_3 : World.frozen? _ ⟨g2, 3, none⟩ = false := BX.out.frozen (i := 0) rfl 3) | ((with_reducible refine gate_dst (N := 3) rfl ?_); refine box_event ?hg (N := 3) ?hd (cs := #[.slice A1 l1.length c1]) (t := 37) ?hr ?_; (case hd => rfl); (case hg => rfl); (case hr => first | (go_simp; done) | (go_simp; rfl)); intro g3 hg w3_ hbox hb; have BY := Aside0.mk (Boxes.new (w0 := w) (bs := [(g2, #[.int .i64 a0_0, .int .i64 a0_1, .int .i64 a0_2, .int .i64 a0_3], 66)]) (by (with_reducible repeat (first | refine Boxes.drewN ?_ _ | refine Boxes.drew ?_ | refine Boxes.alloc ?_ _)); exact BX.out) hg hbox hb); clear BX hb hbox hg; have BX := BY; clear BY; clear q2_0 f2_0 q2_1 f2_1 q2_2 f2_2 q2_3 f2_3; have q3_0 : World.cell? _ ⟨g3, 0, none⟩ = some (.slice A1 l1.length c1) := BX.out.cell (i := 0) rfl (j := 0) rfl; have f3_0 : World.frozen? _ ⟨g3, 0, none⟩ = false := BX.out.frozen (i := 0) rfl 0; have q2_0 : World.cell? _ ⟨g2, 0, none⟩ = some (.int .i64 a0_0) := BX.out.cell (i := 1) rfl (j := 0) rfl; have f2_0 : World.frozen? _ ⟨g2, 0, none⟩ = false := BX.out.frozen (i := 1) rfl 0; have q2_1 : World.cell? _ ⟨g2, 1, none⟩ = some (.int .i64 a0_1) := BX.out.cell (i := 1) rfl (j := 1) rfl; have f2_1 : World.frozen? _ ⟨g2, 1, none⟩ = false := BX.out.frozen (i := 1) rfl 1; have q2_2 : World.cell? _ ⟨g2, 2, none⟩ = some (.int .i64 a0_2) := BX.out.cell (i := 1) rfl (j := 2) rfl; have f2_2 : World.frozen? _ ⟨g2, 2, none⟩ = false := BX.out.frozen (i := 1) rfl 2; have q2_3 : World.cell? _ ⟨g2, 3, none⟩ = some (.int .i64 a0_3) := BX.out.cell (i := 1) rfl (j := 3) rfl; have f2_3 : World.frozen? _ ⟨g2, 3, none⟩ = false := BX.out.frozen (i := 1) rfl 3) | ((with_reducible refine gate_dst (N := 5) rfl ?_); refine box_event ?hg (N := 5) ?hd (cs := #[.bool false, .bool false, .bool false]) (t := 106) ?hr ?_; (case hd => rfl); (case hg => rfl); (case hr => first | (go_simp; done) | (go_simp; rfl)); intro g5 hg w5_ hbox hb; have BY := Aside0.mk (Boxes.new (w0 := w) (bs := [(g3, #[.slice A1 l1.length c1], 37), (g2, #[.int .i64 a0_0, .int .i64 a0_1, .int .i64 a0_2, .int .i64 a0_3], 66)]) (by (with_reducible repeat (first | refine Boxes.drewN ?_ _ | refine Boxes.drew ?_ | refine Boxes.alloc ?_ _)); exact BX.out) hg hbox hb); clear BX hb hbox hg; have BX := BY; clear BY; clear q3_0 f3_0 q2_0 f2_0 q2_1 f2_1 q2_2 f2_2 q2_3 f2_3; have q5_0 : World.cell? _ ⟨g5, 0, none⟩ = some (.bool false) := BX.out.cell (i := 0) rfl (j := 0) rfl; have f5_0 : World.frozen? _ ⟨g5, 0, none⟩ = false := BX.out.frozen (i := 0) rfl 0; have q5_1 : World.cell? _ ⟨g5, 1, none⟩ = some (.bool false) := BX.out.cell (i := 0) rfl (j := 1) rfl; have f5_1 : World.frozen? _ ⟨g5, 1, none⟩ = false := BX.out.frozen (i := 0) rfl 1; have q5_2 : World.cell? _ ⟨g5, 2, none⟩ = some (.bool false) := BX.out.cell (i := 0) rfl (j := 2) rfl; have f5_2 : World.frozen? _ ⟨g5, 2, none⟩ = false := BX.out.frozen (i := 0) rfl 2; have q3_0 : World.cell? _ ⟨g3, 0, none⟩ = some (.slice A1 l1.length c1) := BX.out.cell (i := 1) rfl (j := 0) rfl; have f3_0 : World.frozen? _ ⟨g3, 0, none⟩ = false := BX.out.frozen (i := 1) rfl 0; have q2_0 : World.cell? _ ⟨g2, 0, none⟩ = some (.int .i64 a0_0) := BX.out.cell (i := 2) rfl (j := 0) rfl; have f2_0 : World.frozen? _ ⟨g2, 0, none⟩ = false := BX.out.frozen (i := 2) rfl 0; have q2_1 : World.cell? _ ⟨g2, 1, none⟩ = some (.int .i64 a0_1) := BX.out.cell (i := 2) rfl (j := 1) rfl; have f2_1 : World.frozen? _ ⟨g2, 1, none⟩ = false := BX.out.frozen (i := 2) rfl 1; have q2_2 : World.cell? _ ⟨g2, 2, none⟩ = some (.int .i64 a0_2) := BX.out.cell (i := 2) rfl (j := 2) rfl; have f2_2 : World.frozen? _ ⟨g2, 2, none⟩ = false := BX.out.frozen (i := 2) rfl 2; have q2_3 : World.cell? _ ⟨g2, 3, none⟩ = some (.int .i64 a0_3) := BX.out.cell (i := 2) rfl (j := 3) rfl; have f2_3 : World.frozen? _ ⟨g2, 3, none⟩ = false := BX.out.frozen (i := 2) rfl 3) | (go_at_call 39; first | ((with_reducible refine (impl_in.calls a0_0 1 7 _ _ H1.out).mono ?_); rintro e w' ⟨rfl, ⟨nd, rfl⟩⟩) | ((with_reducible refine (impl_in.calls a0_3 0 9999 _ _ H3.out).mono ?_); rintro e w' ⟨rfl, ⟨nd2, rfl⟩⟩)) | (go_at_call 78; refine (impl_namesOf.calls 9 a0_0 _ _ _ _ H2.out).mono ?_; rintro e w12_ ⟨rfl, hb⟩; have BY := Aside0.mk (Boxes.below (w0 := w) (bs := [(g3, #[.slice A1 l1.length c1], 37), (g2, #[.int .i64 a0_0, .int .i64 a0_1, .int .i64 a0_2, .int .i64 a0_3], 66)]) (by (with_reducible repeat (first | refine Boxes.drewN ?_ _ | refine Boxes.drew ?_ | refine Boxes.alloc ?_ _)); exact BX.out) hb); clear BX hb; have BX := BY; clear BY; clear q3_0 f3_0 q2_0 f2_0 q2_1 f2_1 q2_2 f2_2 q2_3 f2_3; have q3_0 : World.cell? _ ⟨g3, 0, none⟩ = some (.slice A1 l1.length c1) := BX.out.cell (i := 0) rfl (j := 0) rfl; have f3_0 : World.frozen? _ ⟨g3, 0, none⟩ = false := BX.out.frozen (i := 0) rfl 0; have q2_0 : World.cell? _ ⟨g2, 0, none⟩ = some (.int .i64 a0_0) := BX.out.cell (i := 1) rfl (j := 0) rfl; have f2_0 : World.frozen? _ ⟨g2, 0, none⟩ = false := BX.out.frozen (i := 1) rfl 0; have q2_1 : World.cell? _ ⟨g2, 1, none⟩ = some (.int .i64 a0_1) := BX.out.cell (i := 1) rfl (j := 1) rfl; have f2_1 : World.frozen? _ ⟨g2, 1, none⟩ = false := BX.out.frozen (i := 1) rfl 1; have q2_2 : World.cell? _ ⟨g2, 2, none⟩ = some (.int .i64 a0_2) := BX.out.cell (i := 1) rfl (j := 2) rfl; have f2_2 : World.frozen? _ ⟨g2, 2, none⟩ = false := BX.out.frozen (i := 1) rfl 2; have q2_3 : World.cell? _ ⟨g2, 3, none⟩ = some (.int .i64 a0_3) := BX.out.cell (i := 1) rfl (j := 3) rfl; have f2_3 : World.frozen? _ ⟨g2, 3, none⟩ = false := BX.out.frozen (i := 1) rfl 3) | ((with_reducible refine gate_store (t := 106) (p := 5) rfl ?_); refine boxes_store (w0 := w) (bs := [(g5, #[.bool xa_, .bool xb_, .bool xn_], 106), (g3, #[.slice A1 l1.length c1], 37), (g2, #[.int .i64 a0_0, .int .i64 a0_1, .int .i64 a0_2, .int .i64 a0_3], 66)]) (W1 := ((World.setCell w5_ ⟨g5, 0, none⟩ (.bool xa_)).setCell ⟨g5, 1, none⟩ (.bool xb_)).setCell ⟨g5, 2, none⟩ (.bool xn_)) rfl rfl rfl ?hr (((Boxes.put (w0 := w) (b1 := []) (b2 := [(g3, #[.slice A1 l1.length c1], 37), (g2, #[.int .i64 a0_0, .int .i64 a0_1, .int .i64 a0_2, .int .i64 a0_3], 66)]) (g := g5) (cs := #[.bool false, .bool false, .bool false]) (t := 106) BX.out 0 (.bool xa_)).put (b1 := []) 1 (.bool xb_)).put (b1 := []) 2 (.bool xn_)) ?_; (case hr => first | (go_simp; done) | (go_simp; rfl)); intro w13_ BY; have BY := Aside0.mk BY; clear BX; have BX := BY; clear BY; clear q5_0 f5_0 q5_1 f5_1 q5_2 f5_2 q3_0 f3_0 q2_0 f2_0 q2_1 f2_1 q2_2 f2_2 q2_3 f2_3; have q5_0 : World.cell? _ ⟨g5, 0, none⟩ = some (.bool xa_) := BX.out.cell (i := 0) rfl (j := 0) rfl; have f5_0 : World.frozen? _ ⟨g5, 0, none⟩ = false := BX.out.frozen (i := 0) rfl 0; have q5_1 : World.cell? _ ⟨g5, 1, none⟩ = some (.bool xb_) := BX.out.cell (i := 0) rfl (j := 1) rfl; have f5_1 : World.frozen? _ ⟨g5, 1, none⟩ = false := BX.out.frozen (i := 0) rfl 1; have q5_2 : World.cell? _ ⟨g5, 2, none⟩ = some (.bool xn_) := BX.out.cell (i := 0) rfl (j := 2) rfl; have f5_2 : World.frozen? _ ⟨g5, 2, none⟩ = false := BX.out.frozen (i := 0) rfl 2; have q3_0 : World.cell? _ ⟨g3, 0, none⟩ = some (.slice A1 l1.length c1) := BX.out.cell (i := 1) rfl (j := 0) rfl; have f3_0 : World.frozen? _ ⟨g3, 0, none⟩ = false := BX.out.frozen (i := 1) rfl 0; have q2_0 : World.cell? _ ⟨g2, 0, none⟩ = some (.int .i64 a0_0) := BX.out.cell (i := 2) rfl (j := 0) rfl; have f2_0 : World.frozen? _ ⟨g2, 0, none⟩ = false := BX.out.frozen (i := 2) rfl 0; have q2_1 : World.cell? _ ⟨g2, 1, none⟩ = some (.int .i64 a0_1) := BX.out.cell (i := 2) rfl (j := 1) rfl; have f2_1 : World.frozen? _ ⟨g2, 1, none⟩ = false := BX.out.frozen (i := 2) rfl 1; have q2_2 : World.cell? _ ⟨g2, 2, none⟩ = some (.int .i64 a0_2) := BX.out.cell (i := 2) rfl (j := 2) rfl; have f2_2 : World.frozen? _ ⟨g2, 2, none⟩ = false := BX.out.frozen (i := 2) rfl 2; have q2_3 : World.cell? _ ⟨g2, 3, none⟩ = some (.int .i64 a0_3) := BX.out.cell (i := 2) rfl (j := 3) rfl; have f2_3 : World.frozen? _ ⟨g2, 3, none⟩ = false := BX.out.frozen (i := 2) rfl 3) | (go_at_call 59; refine (impl_Term_parts.calls 9 a0_0 a0_1 a0_2 a0_3 _ _ H4.out).mono ?_; rintro e w47_ ⟨pv, rfl, hR, hb⟩; obtain ⟨pA, pc, rfl, _, hC⟩ := Kd.R_reads hR; have HC := Aside0.mk hC; clear hC hR; have BY := Aside0.mk (Boxes.below (w0 := w) (bs := [(g5, #[.bool xa_, .bool xb_, .bool xn_], 106), (g3, #[.slice A1 l1.length c1], 37), (g2, #[.int .i64 a0_0, .int .i64 a0_1, .int .i64 a0_2, .int .i64 a0_3], 66)]) (by (with_reducible repeat (first | refine Boxes.drewN ?_ _ | refine Boxes.drew ?_ | refine Boxes.alloc ?_ _)); exact BX.out) hb); clear BX hb; have BX := BY; clear BY; clear q5_0 f5_0 q5_1 f5_1 q5_2 f5_2 q3_0 f3_0 q2_0 f2_0 q2_1 f2_1 q2_2 f2_2 q2_3 f2_3; have q5_0 : World.cell? _ ⟨g5, 0, none⟩ = some (.bool xa_) := BX.out.cell (i := 0) rfl (j := 0) rfl; have f5_0 : World.frozen? _ ⟨g5, 0, none⟩ = false := BX.out.frozen (i := 0) rfl 0; have q5_1 : World.cell? _ ⟨g5, 1, none⟩ = some (.bool xb_) := BX.out.cell (i := 0) rfl (j := 1) rfl; have f5_1 : World.frozen? _ ⟨g5, 1, none⟩ = false := BX.out.frozen (i := 0) rfl 1; have q5_2 : World.cell? _ ⟨g5, 2, none⟩ = some (.bool xn_) := BX.out.cell (i := 0) rfl (j := 2) rfl; have f5_2 : World.frozen? _ ⟨g5, 2, none⟩ = false := BX.out.frozen (i := 0) rfl 2; have q3_0 : World.cell? _ ⟨g3, 0, none⟩ = some (.slice A1 l1.length c1) := BX.out.cell (i := 1) rfl (j := 0) rfl; have f3_0 : World.frozen? _ ⟨g3, 0, none⟩ = false := BX.out.frozen (i := 1) rfl 0; have q2_0 : World.cell? _ ⟨g2, 0, none⟩ = some (.int .i64 a0_0) := BX.out.cell (i := 2) rfl (j := 0) rfl; have f2_0 : World.frozen? _ ⟨g2, 0, none⟩ = false := BX.out.frozen (i := 2) rfl 0; have q2_1 : World.cell? _ ⟨g2, 1, none⟩ = some (.int .i64 a0_1) := BX.out.cell (i := 2) rfl (j := 1) rfl; have f2_1 : World.frozen? _ ⟨g2, 1, none⟩ = false := BX.out.frozen (i := 2) rfl 1; have q2_2 : World.cell? _ ⟨g2, 2, none⟩ = some (.int .i64 a0_2) := BX.out.cell (i := 2) rfl (j := 2) rfl; have f2_2 : World.frozen? _ ⟨g2, 2, none⟩ = false := BX.out.frozen (i := 2) rfl 2; have q2_3 : World.cell? _ ⟨g2, 3, none⟩ = some (.int .i64 a0_3) := BX.out.cell (i := 2) rfl (j := 3) rfl; have f2_3 : World.frozen? _ ⟨g2, 3, none⟩ = false := BX.out.frozen (i := 2) rfl 3) | (go_at_call 56; refine (ContainsFuncI.calls pA pc ps_ 82 #[.pointer (some ⟨g3, 0, none⟩)] (impl_Term_fault.p1 l1) _ _ eg1 HC.out (fun x b W hx hb2 => impl_Term_fault_lit1.calls A1 c1 l1 x b g3 _ W (BX.out.lt (i := 1) rfl) (BX.out.cell (i := 1) rfl (j := 0) rfl) (Kd.C_below HR1.out BX.out.low) hc1 hb2 hx) H5.out).mono ?_; rintro e w49_ ⟨rfl, hb⟩; clear HC; have BY := Aside0.mk (Boxes.below (w0 := w) (bs := [(g5, #[.bool xa_, .bool xb_, .bool xn_], 106), (g3, #[.slice A1 l1.length c1], 37), (g2, #[.int .i64 a0_0, .int .i64 a0_1, .int .i64 a0_2, .int .i64 a0_3], 66)]) (by (with_reducible repeat (first | refine Boxes.drewN ?_ _ | refine Boxes.drew ?_ | refine Boxes.alloc ?_ _)); exact BX.out) hb); clear BX hb; have BX := BY; clear BY; clear q5_0 f5_0 q5_1 f5_1 q5_2 f5_2 q3_0 f3_0 q2_0 f2_0 q2_1 f2_1 q2_2 f2_2 q2_3 f2_3; have q5_0 : World.cell? _ ⟨g5, 0, none⟩ = some (.bool xa_) := BX.out.cell (i := 0) rfl (j := 0) rfl; have f5_0 : World.frozen? _ ⟨g5, 0, none⟩ = false := BX.out.frozen (i := 0) rfl 0; have q5_1 : World.cell? _ ⟨g5, 1, none⟩ = some (.bool xb_) := BX.out.cell (i := 0) rfl (j := 1) rfl; have f5_1 : World.frozen? _ ⟨g5, 1, none⟩ = false := BX.out.frozen (i := 0) rfl 1; have q5_2 : World.cell? _ ⟨g5, 2, none⟩ = some (.bool xn_) := BX.out.cell (i := 0) rfl (j := 2) rfl; have f5_2 : World.frozen? _ ⟨g5, 2, none⟩ = false := BX.out.frozen (i := 0) rfl 2; have q3_0 : World.cell? _ ⟨g3, 0, none⟩ = some (.slice A1 l1.length c1) := BX.out.cell (i := 1) rfl (j := 0) rfl; have f3_0 : World.frozen? _ ⟨g3, 0, none⟩ = false := BX.out.frozen (i := 1) rfl 0; have q2_0 : World.cell? _ ⟨g2, 0, none⟩ = some (.int .i64 a0_0) := BX.out.cell (i := 2) rfl (j := 0) rfl; have f2_0 : World.frozen? _ ⟨g2, 0, none⟩ = false := BX.out.frozen (i := 2) rfl 0; have q2_1 : World.cell? _ ⟨g2, 1, none⟩ = some (.int .i64 a0_1) := BX.out.cell (i := 2) rfl (j := 1) rfl; have f2_1 : World.frozen? _ ⟨g2, 1, none⟩ = false := BX.out.frozen (i := 2) rfl 1; have q2_2 : World.cell? _ ⟨g2, 2, none⟩ = some (.int .i64 a0_2) := BX.out.cell (i := 2) rfl (j := 2) rfl; have f2_2 : World.frozen? _ ⟨g2, 2, none⟩ = false := BX.out.frozen (i := 2) rfl 2; have q2_3 : World.cell? _ ⟨g2, 3, none⟩ = some (.int .i64 a0_3) := BX.out.cell (i := 2) rfl (j := 3) rfl; have f2_3 : World.frozen? _ ⟨g2, 3, none⟩ = false := BX.out.frozen (i := 2) rfl 3) | (go_at_call 56; refine (ContainsFuncI.calls pA pc ps_ 83 #[.pointer (some ⟨g3, 0, none⟩)] (impl_Term_fault.p2 l1) _ _ eg2 HC.out (fun x b W hx hb2 => impl_Term_fault_lit2.calls A1 c1 l1 x b g3 _ W (BX.out.lt (i := 1) rfl) (BX.out.cell (i := 1) rfl (j := 0) rfl) (Kd.C_below HR1.out BX.out.low) hc1 hb2 hx) (H6.out (Int.not_le.mp (of_decide_eq_false ci)))).mono ?_; rintro e w49_ ⟨rfl, hb⟩; clear HC; have BY := Aside0.mk (Boxes.below (w0 := w) (bs := [(g5, #[.bool xa_, .bool xb_, .bool xn_], 106), (g3, #[.slice A1 l1.length c1], 37), (g2, #[.int .i64 a0_0, .int .i64 a0_1, .int .i64 a0_2, .int .i64 a0_3], 66)]) (by (with_reducible repeat (first | refine Boxes.drewN ?_ _ | refine Boxes.drew ?_ | refine Boxes.alloc ?_ _)); exact BX.out) hb); clear BX hb; have BX := BY; clear BY; clear q5_0 f5_0 q5_1 f5_1 q5_2 f5_2 q3_0 f3_0 q2_0 f2_0 q2_1 f2_1 q2_2 f2_2 q2_3 f2_3; have q5_0 : World.cell? _ ⟨g5, 0, none⟩ = some (.bool xa_) := BX.out.cell (i := 0) rfl (j := 0) rfl; have f5_0 : World.frozen? _ ⟨g5, 0, none⟩ = false := BX.out.frozen (i := 0) rfl 0; have q5_1 : World.cell? _ ⟨g5, 1, none⟩ = some (.bool xb_) := BX.out.cell (i := 0) rfl (j := 1) rfl; have f5_1 : World.frozen? _ ⟨g5, 1, none⟩ = false := BX.out.frozen (i := 0) rfl 1; have q5_2 : World.cell? _ ⟨g5, 2, none⟩ = some (.bool xn_) := BX.out.cell (i := 0) rfl (j := 2) rfl; have f5_2 : World.frozen? _ ⟨g5, 2, none⟩ = false := BX.out.frozen (i := 0) rfl 2; have q3_0 : World.cell? _ ⟨g3, 0, none⟩ = some (.slice A1 l1.length c1) := BX.out.cell (i := 1) rfl (j := 0) rfl; have f3_0 : World.frozen? _ ⟨g3, 0, none⟩ = false := BX.out.frozen (i := 1) rfl 0; have q2_0 : World.cell? _ ⟨g2, 0, none⟩ = some (.int .i64 a0_0) := BX.out.cell (i := 2) rfl (j := 0) rfl; have f2_0 : World.frozen? _ ⟨g2, 0, none⟩ = false := BX.out.frozen (i := 2) rfl 0; have q2_1 : World.cell? _ ⟨g2, 1, none⟩ = some (.int .i64 a0_1) := BX.out.cell (i := 2) rfl (j := 1) rfl; have f2_1 : World.frozen? _ ⟨g2, 1, none⟩ = false := BX.out.frozen (i := 2) rfl 1; have q2_2 : World.cell? _ ⟨g2, 2, none⟩ = some (.int .i64 a0_2) := BX.out.cell (i := 2) rfl (j := 2) rfl; have f2_2 : World.frozen? _ ⟨g2, 2, none⟩ = false := BX.out.frozen (i := 2) rfl 2; have q2_3 : World.cell? _ ⟨g2, 3, none⟩ = some (.int .i64 a0_3) := BX.out.cell (i := 2) rfl (j := 3) rfl; have f2_3 : World.frozen? _ ⟨g2, 3, none⟩ = false := BX.out.frozen (i := 2) rfl 3) | fail)
    go_ret
    refine ⟨congrArg (fun z => Ending.returned (Value.int .i64 z)) ?_, (Boxes.low (w0 := w) (bs := [(g3, #[.slice A1 l1.length c1], 37), (g2, #[.int .i64 a0_0, .int .i64 a0_1, .int .i64 a0_2, .int .i64 a0_3], 66)]) (by (with_reducible repeat (first | refine Boxes.drewN ?_ _ | refine Boxes.drew ?_ | refine Boxes.alloc ?_ _)); exact BX.out))⟩
    rw [← HV.out]
    simp only [impl_Term_fault.r]
    clear HV BX HR1 H1 H2 H3 H4 H5 eg1 eg2 hu1 hu2 hu3
    simp_all
    try ((repeat' split) <;> omega))
set_option maxHeartbeats 16000000 in
set_option maxRecDepth 100000 in
theorem impl_Term_fault_n (a0_0 : Int) (a0_1 : Int) (a0_2 : Int) (a0_3 : Int) (A1 : Option Addr) (c1 : Nat) (l1 : List S66) (xa_ xb_ xn_ b1_ b2_ : Bool) (ps_ : List Int) (i_ j_ r_ : Int) (w : World) (hc1 : l1.length ≤ c1) (HR1 : Aside0 (Kd.C k66 w A1 l1.length l1)) (eg1 : ∀ args w, (callFunc 82 args).run Tryd.prog w = .ok (.enter 82 args) w) (eg2 : ∀ args w, (callFunc 83 args).run Tryd.prog w = .ok (.enter 83 args) w) (H1 : Aside0 (impl_in.f a0_0 1 7 = some b1_)) (H2 : Aside0 (impl_namesOf.f 9 a0_0 = some (xa_, xb_, xn_))) (H3 : Aside0 (impl_in.f a0_3 0 9999 = some b2_))
    (H4 : Aside0 (impl_Term_parts.f 9 a0_0 a0_1 a0_2 a0_3 = some ps_)) (H5 : Aside0 (idxO (impl_Term_fault.p1 l1) ps_ 0 = some i_)) (H6 : Aside0 (i_ < 0 → idxO (impl_Term_fault.p2 l1) ps_ 0 = some j_)) (HV : Aside0 (impl_Term_fault.r a0_0 a0_1 a0_2 a0_3 b1_ xa_ xb_ xn_ b2_ i_ j_ = r_)) (vb1 : b1_ = true) (ea : xa_ = false) (eb : xb_ = false) (en : xn_ = true) (o6 : (a0_0 != 6) = true) (o7 : (a0_0 != 7) = true) :
    Calls Tryd.prog 76 #[.agg #[.int .i64 a0_0, .int .i64 a0_1, .int .i64 a0_2, .int .i64 a0_3], .slice A1 l1.length c1] w fun e w' => e = .returned (.int .i64 r_) ∧ Below w.heap.size w w' := by
  have hp : ((a0_1 != 0) = true) ∨ ((a0_1 != 0) = false ∧ (a0_2 != 0) = true) ∨ ((a0_1 != 0) = false ∧ (a0_2 != 0) = false ∧ b2_ = true ∧ decide (0 ≤ i_) = true) ∨ ((a0_1 != 0) = false ∧ (a0_2 != 0) = false ∧ b2_ = true ∧ decide (0 ≤ i_) = false) ∨ ((a0_1 != 0) = false ∧ (a0_2 != 0) = false ∧ b2_ = false) := by
    rcases Bool.eq_false_or_eq_true ((a0_1 != 0)) with z0 | z0
    · exact .inl z0
    · rcases Bool.eq_false_or_eq_true ((a0_2 != 0)) with z1 | z1
      · exact .inr (.inl ⟨z0, z1⟩)
      · rcases Bool.eq_false_or_eq_true (b2_) with vb | vb
        · rcases Bool.eq_false_or_eq_true (decide (0 ≤ i_)) with ci | ci
          · exact .inr (.inr (.inl ⟨z0, z1, vb, ci⟩))
          · exact .inr (.inr (.inr (.inl ⟨z0, z1, vb, ci⟩)))
        · exact .inr (.inr (.inr (.inr ⟨z0, z1, vb⟩)))
  rcases hp with z0 | ⟨z0, z1⟩ | ⟨z0, z1, vb, ci⟩ | ⟨z0, z1, vb, ci⟩ | ⟨z0, z1, vb⟩
  all_goals (
    have BX := Aside0.mk (Boxes.start w)
    have hu1 := Tryd.underlying66
    have hu2 := Tryd.underlying37
    have hu3 := Tryd.underlying106
    go_enter Tryd.func76, Tryd.ntmps76
    go_wp2_with (first | ((with_reducible refine gate_dst (N := 2) rfl ?_); refine box_event ?hg (N := 2) ?hd (cs := #[.int .i64 a0_0, .int .i64 a0_1, .int .i64 a0_2, .int .i64 a0_3]) (t := 66) ?hr ?_; (case hd => rfl); (case hg => rfl); (case hr => first | (go_simp; done) | (go_simp; rfl)); intro g2 hg w2_ hbox hb; have BY := Aside0.mk (Boxes.new (w0 := w) (bs := []) (by (with_reducible repeat (first | refine Boxes.drewN ?_ _ | refine Boxes.drew ?_ | refine Boxes.alloc ?_ _)); exact BX.out) hg hbox hb); clear BX hb hbox hg; have BX := BY; clear BY; have q2_0 : World.cell? _ ⟨g2, 0, none⟩ = some (.int .i64 a0_0) := BX.out.cell (i := 0) rfl (j := 0) rfl; have f2_0 : World.frozen? _ ⟨g2, 0, none⟩ = false := BX.out.frozen (i := 0) rfl 0; have q2_1 : World.cell? _ ⟨g2, 1, none⟩ = some (.int .i64 a0_1) := BX.out.cell (i := 0) rfl (j := 1) rfl; have f2_1 : World.frozen? _ ⟨g2, 1, none⟩ = false := BX.out.frozen (i := 0) rfl 1; have q2_2 : World.cell? _ ⟨g2, 2, none⟩ = some (.int .i64 a0_2) := BX.out.cell (i := 0) rfl (j := 2) rfl; have f2_2 : World.frozen? _ ⟨g2, 2, none⟩ = false := BX.out.frozen (i := 0) rfl 2; have q2_3 : World.cell? _ ⟨g2, 3, none⟩ = some (.int .i64 a0_3) := BX.out.cell (i := 0) rfl (j := 3) rfl; have f2_3 : World.frozen? _ ⟨g2, 3, none⟩ = false := BX.out.frozen (i := 0) rfl 3) | ((with_reducible refine gate_dst (N := 3) rfl ?_); refine box_event ?hg (N := 3) ?hd (cs := #[.slice A1 l1.length c1]) (t := 37) ?hr ?_; (case hd => rfl); (case hg => rfl); (case hr => first | (go_simp; done) | (go_simp; rfl)); intro g3 hg w3_ hbox hb; have BY := Aside0.mk (Boxes.new (w0 := w) (bs := [(g2, #[.int .i64 a0_0, .int .i64 a0_1, .int .i64 a0_2, .int .i64 a0_3], 66)]) (by (with_reducible repeat (first | refine Boxes.drewN ?_ _ | refine Boxes.drew ?_ | refine Boxes.alloc ?_ _)); exact BX.out) hg hbox hb); clear BX hb hbox hg; have BX := BY; clear BY; clear q2_0 f2_0 q2_1 f2_1 q2_2 f2_2 q2_3 f2_3; have q3_0 : World.cell? _ ⟨g3, 0, none⟩ = some (.slice A1 l1.length c1) := BX.out.cell (i := 0) rfl (j := 0) rfl; have f3_0 : World.frozen? _ ⟨g3, 0, none⟩ = false := BX.out.frozen (i := 0) rfl 0; have q2_0 : World.cell? _ ⟨g2, 0, none⟩ = some (.int .i64 a0_0) := BX.out.cell (i := 1) rfl (j := 0) rfl; have f2_0 : World.frozen? _ ⟨g2, 0, none⟩ = false := BX.out.frozen (i := 1) rfl 0; have q2_1 : World.cell? _ ⟨g2, 1, none⟩ = some (.int .i64 a0_1) := BX.out.cell (i := 1) rfl (j := 1) rfl; have f2_1 : World.frozen? _ ⟨g2, 1, none⟩ = false := BX.out.frozen (i := 1) rfl 1; have q2_2 : World.cell? _ ⟨g2, 2, none⟩ = some (.int .i64 a0_2) := BX.out.cell (i := 1) rfl (j := 2) rfl; have f2_2 : World.frozen? _ ⟨g2, 2, none⟩ = false := BX.out.frozen (i := 1) rfl 2; have q2_3 : World.cell? _ ⟨g2, 3, none⟩ = some (.int .i64 a0_3) := BX.out.cell (i := 1) rfl (j := 3) rfl; have f2_3 : World.frozen? _ ⟨g2, 3, none⟩ = false := BX.out.frozen (i := 1) rfl 3) | ((with_reducible refine gate_dst (N := 5) rfl ?_); refine box_event ?hg (N := 5) ?hd (cs := #[.bool false, .bool false, .bool false]) (t := 106) ?hr ?_; (case hd => rfl); (case hg => rfl); (case hr => first | (go_simp; done) | (go_simp; rfl)); intro g5 hg w5_ hbox hb; have BY := Aside0.mk (Boxes.new (w0 := w) (bs := [(g3, #[.slice A1 l1.length c1], 37), (g2, #[.int .i64 a0_0, .int .i64 a0_1, .int .i64 a0_2, .int .i64 a0_3], 66)]) (by (with_reducible repeat (first | refine Boxes.drewN ?_ _ | refine Boxes.drew ?_ | refine Boxes.alloc ?_ _)); exact BX.out) hg hbox hb); clear BX hb hbox hg; have BX := BY; clear BY; clear q3_0 f3_0 q2_0 f2_0 q2_1 f2_1 q2_2 f2_2 q2_3 f2_3; have q5_0 : World.cell? _ ⟨g5, 0, none⟩ = some (.bool false) := BX.out.cell (i := 0) rfl (j := 0) rfl; have f5_0 : World.frozen? _ ⟨g5, 0, none⟩ = false := BX.out.frozen (i := 0) rfl 0; have q5_1 : World.cell? _ ⟨g5, 1, none⟩ = some (.bool false) := BX.out.cell (i := 0) rfl (j := 1) rfl; have f5_1 : World.frozen? _ ⟨g5, 1, none⟩ = false := BX.out.frozen (i := 0) rfl 1; have q5_2 : World.cell? _ ⟨g5, 2, none⟩ = some (.bool false) := BX.out.cell (i := 0) rfl (j := 2) rfl; have f5_2 : World.frozen? _ ⟨g5, 2, none⟩ = false := BX.out.frozen (i := 0) rfl 2; have q3_0 : World.cell? _ ⟨g3, 0, none⟩ = some (.slice A1 l1.length c1) := BX.out.cell (i := 1) rfl (j := 0) rfl; have f3_0 : World.frozen? _ ⟨g3, 0, none⟩ = false := BX.out.frozen (i := 1) rfl 0; have q2_0 : World.cell? _ ⟨g2, 0, none⟩ = some (.int .i64 a0_0) := BX.out.cell (i := 2) rfl (j := 0) rfl; have f2_0 : World.frozen? _ ⟨g2, 0, none⟩ = false := BX.out.frozen (i := 2) rfl 0; have q2_1 : World.cell? _ ⟨g2, 1, none⟩ = some (.int .i64 a0_1) := BX.out.cell (i := 2) rfl (j := 1) rfl; have f2_1 : World.frozen? _ ⟨g2, 1, none⟩ = false := BX.out.frozen (i := 2) rfl 1; have q2_2 : World.cell? _ ⟨g2, 2, none⟩ = some (.int .i64 a0_2) := BX.out.cell (i := 2) rfl (j := 2) rfl; have f2_2 : World.frozen? _ ⟨g2, 2, none⟩ = false := BX.out.frozen (i := 2) rfl 2; have q2_3 : World.cell? _ ⟨g2, 3, none⟩ = some (.int .i64 a0_3) := BX.out.cell (i := 2) rfl (j := 3) rfl; have f2_3 : World.frozen? _ ⟨g2, 3, none⟩ = false := BX.out.frozen (i := 2) rfl 3) | (go_at_call 39; first | ((with_reducible refine (impl_in.calls a0_0 1 7 _ _ H1.out).mono ?_); rintro e w' ⟨rfl, ⟨nd, rfl⟩⟩) | ((with_reducible refine (impl_in.calls a0_3 0 9999 _ _ H3.out).mono ?_); rintro e w' ⟨rfl, ⟨nd2, rfl⟩⟩)) | (go_at_call 78; refine (impl_namesOf.calls 9 a0_0 _ _ _ _ H2.out).mono ?_; rintro e w12_ ⟨rfl, hb⟩; have BY := Aside0.mk (Boxes.below (w0 := w) (bs := [(g3, #[.slice A1 l1.length c1], 37), (g2, #[.int .i64 a0_0, .int .i64 a0_1, .int .i64 a0_2, .int .i64 a0_3], 66)]) (by (with_reducible repeat (first | refine Boxes.drewN ?_ _ | refine Boxes.drew ?_ | refine Boxes.alloc ?_ _)); exact BX.out) hb); clear BX hb; have BX := BY; clear BY; clear q3_0 f3_0 q2_0 f2_0 q2_1 f2_1 q2_2 f2_2 q2_3 f2_3; have q3_0 : World.cell? _ ⟨g3, 0, none⟩ = some (.slice A1 l1.length c1) := BX.out.cell (i := 0) rfl (j := 0) rfl; have f3_0 : World.frozen? _ ⟨g3, 0, none⟩ = false := BX.out.frozen (i := 0) rfl 0; have q2_0 : World.cell? _ ⟨g2, 0, none⟩ = some (.int .i64 a0_0) := BX.out.cell (i := 1) rfl (j := 0) rfl; have f2_0 : World.frozen? _ ⟨g2, 0, none⟩ = false := BX.out.frozen (i := 1) rfl 0; have q2_1 : World.cell? _ ⟨g2, 1, none⟩ = some (.int .i64 a0_1) := BX.out.cell (i := 1) rfl (j := 1) rfl; have f2_1 : World.frozen? _ ⟨g2, 1, none⟩ = false := BX.out.frozen (i := 1) rfl 1; have q2_2 : World.cell? _ ⟨g2, 2, none⟩ = some (.int .i64 a0_2) := BX.out.cell (i := 1) rfl (j := 2) rfl; have f2_2 : World.frozen? _ ⟨g2, 2, none⟩ = false := BX.out.frozen (i := 1) rfl 2; have q2_3 : World.cell? _ ⟨g2, 3, none⟩ = some (.int .i64 a0_3) := BX.out.cell (i := 1) rfl (j := 3) rfl; have f2_3 : World.frozen? _ ⟨g2, 3, none⟩ = false := BX.out.frozen (i := 1) rfl 3) | ((with_reducible refine gate_store (t := 106) (p := 5) rfl ?_); refine boxes_store (w0 := w) (bs := [(g5, #[.bool xa_, .bool xb_, .bool xn_], 106), (g3, #[.slice A1 l1.length c1], 37), (g2, #[.int .i64 a0_0, .int .i64 a0_1, .int .i64 a0_2, .int .i64 a0_3], 66)]) (W1 := ((World.setCell w5_ ⟨g5, 0, none⟩ (.bool xa_)).setCell ⟨g5, 1, none⟩ (.bool xb_)).setCell ⟨g5, 2, none⟩ (.bool xn_)) rfl rfl rfl ?hr (((Boxes.put (w0 := w) (b1 := []) (b2 := [(g3, #[.slice A1 l1.length c1], 37), (g2, #[.int .i64 a0_0, .int .i64 a0_1, .int .i64 a0_2, .int .i64 a0_3], 66)]) (g := g5) (cs := #[.bool false, .bool false, .bool false]) (t := 106) BX.out 0 (.bool xa_)).put (b1 := []) 1 (.bool xb_)).put (b1 := []) 2 (.bool xn_)) ?_; (case hr => first | (go_simp; done) | (go_simp; rfl)); intro w13_ BY; have BY := Aside0.mk BY; clear BX; have BX := BY; clear BY; clear q5_0 f5_0 q5_1 f5_1 q5_2 f5_2 q3_0 f3_0 q2_0 f2_0 q2_1 f2_1 q2_2 f2_2 q2_3 f2_3; have q5_0 : World.cell? _ ⟨g5, 0, none⟩ = some (.bool xa_) := BX.out.cell (i := 0) rfl (j := 0) rfl; have f5_0 : World.frozen? _ ⟨g5, 0, none⟩ = false := BX.out.frozen (i := 0) rfl 0; have q5_1 : World.cell? _ ⟨g5, 1, none⟩ = some (.bool xb_) := BX.out.cell (i := 0) rfl (j := 1) rfl; have f5_1 : World.frozen? _ ⟨g5, 1, none⟩ = false := BX.out.frozen (i := 0) rfl 1; have q5_2 : World.cell? _ ⟨g5, 2, none⟩ = some (.bool xn_) := BX.out.cell (i := 0) rfl (j := 2) rfl; have f5_2 : World.frozen? _ ⟨g5, 2, none⟩ = false := BX.out.frozen (i := 0) rfl 2; have q3_0 : World.cell? _ ⟨g3, 0, none⟩ = some (.slice A1 l1.length c1) := BX.out.cell (i := 1) rfl (j := 0) rfl; have f3_0 : World.frozen? _ ⟨g3, 0, none⟩ = false := BX.out.frozen (i := 1) rfl 0; have q2_0 : World.cell? _ ⟨g2, 0, none⟩ = some (.int .i64 a0_0) := BX.out.cell (i := 2) rfl (j := 0) rfl; have f2_0 : World.frozen? _ ⟨g2, 0, none⟩ = false := BX.out.frozen (i := 2) rfl 0; have q2_1 : World.cell? _ ⟨g2, 1, none⟩ = some (.int .i64 a0_1) := BX.out.cell (i := 2) rfl (j := 1) rfl; have f2_1 : World.frozen? _ ⟨g2, 1, none⟩ = false := BX.out.frozen (i := 2) rfl 1; have q2_2 : World.cell? _ ⟨g2, 2, none⟩ = some (.int .i64 a0_2) := BX.out.cell (i := 2) rfl (j := 2) rfl; have f2_2 : World.frozen? _ ⟨g2, 2, none⟩ = false := BX.out.frozen (i := 2) rfl 2; have q2_3 : World.cell? _ ⟨g2, 3, none⟩ = some (.int .i64 a0_3) := BX.out.cell (i := 2) rfl (j := 3) rfl; have f2_3 : World.frozen? _ ⟨g2, 3, none⟩ = false := BX.out.frozen (i := 2) rfl 3) | (go_at_call 59; refine (impl_Term_parts.calls 9 a0_0 a0_1 a0_2 a0_3 _ _ H4.out).mono ?_; rintro e w47_ ⟨pv, rfl, hR, hb⟩; obtain ⟨pA, pc, rfl, _, hC⟩ := Kd.R_reads hR; have HC := Aside0.mk hC; clear hC hR; have BY := Aside0.mk (Boxes.below (w0 := w) (bs := [(g5, #[.bool xa_, .bool xb_, .bool xn_], 106), (g3, #[.slice A1 l1.length c1], 37), (g2, #[.int .i64 a0_0, .int .i64 a0_1, .int .i64 a0_2, .int .i64 a0_3], 66)]) (by (with_reducible repeat (first | refine Boxes.drewN ?_ _ | refine Boxes.drew ?_ | refine Boxes.alloc ?_ _)); exact BX.out) hb); clear BX hb; have BX := BY; clear BY; clear q5_0 f5_0 q5_1 f5_1 q5_2 f5_2 q3_0 f3_0 q2_0 f2_0 q2_1 f2_1 q2_2 f2_2 q2_3 f2_3; have q5_0 : World.cell? _ ⟨g5, 0, none⟩ = some (.bool xa_) := BX.out.cell (i := 0) rfl (j := 0) rfl; have f5_0 : World.frozen? _ ⟨g5, 0, none⟩ = false := BX.out.frozen (i := 0) rfl 0; have q5_1 : World.cell? _ ⟨g5, 1, none⟩ = some (.bool xb_) := BX.out.cell (i := 0) rfl (j := 1) rfl; have f5_1 : World.frozen? _ ⟨g5, 1, none⟩ = false := BX.out.frozen (i := 0) rfl 1; have q5_2 : World.cell? _ ⟨g5, 2, none⟩ = some (.bool xn_) := BX.out.cell (i := 0) rfl (j := 2) rfl; have f5_2 : World.frozen? _ ⟨g5, 2, none⟩ = false := BX.out.frozen (i := 0) rfl 2; have q3_0 : World.cell? _ ⟨g3, 0, none⟩ = some (.slice A1 l1.length c1) := BX.out.cell (i := 1) rfl (j := 0) rfl; have f3_0 : World.frozen? _ ⟨g3, 0, none⟩ = false := BX.out.frozen (i := 1) rfl 0; have q2_0 : World.cell? _ ⟨g2, 0, none⟩ = some (.int .i64 a0_0) := BX.out.cell (i := 2) rfl (j := 0) rfl; have f2_0 : World.frozen? _ ⟨g2, 0, none⟩ = false := BX.out.frozen (i := 2) rfl 0; have q2_1 : World.cell? _ ⟨g2, 1, none⟩ = some (.int .i64 a0_1) := BX.out.cell (i := 2) rfl (j := 1) rfl; have f2_1 : World.frozen? _ ⟨g2, 1, none⟩ = false := BX.out.frozen (i := 2) rfl 1; have q2_2 : World.cell? _ ⟨g2, 2, none⟩ = some (.int .i64 a0_2) := BX.out.cell (i := 2) rfl (j := 2) rfl; have f2_2 : World.frozen? _ ⟨g2, 2, none⟩ = false := BX.out.frozen (i := 2) rfl 2; have q2_3 : World.cell? _ ⟨g2, 3, none⟩ = some (.int .i64 a0_3) := BX.out.cell (i := 2) rfl (j := 3) rfl; have f2_3 : World.frozen? _ ⟨g2, 3, none⟩ = false := BX.out.frozen (i := 2) rfl 3) | (go_at_call 56; refine (ContainsFuncI.calls pA pc ps_ 82 #[.pointer (some ⟨g3, 0, none⟩)] (impl_Term_fault.p1 l1) _ _ eg1 HC.out (fun x b W hx hb2 => impl_Term_fault_lit1.calls A1 c1 l1 x b g3 _ W (BX.out.lt (i := 1) rfl) (BX.out.cell (i := 1) rfl (j := 0) rfl) (Kd.C_below HR1.out BX.out.low) hc1 hb2 hx) H5.out).mono ?_; rintro e w49_ ⟨rfl, hb⟩; clear HC; have BY := Aside0.mk (Boxes.below (w0 := w) (bs := [(g5, #[.bool xa_, .bool xb_, .bool xn_], 106), (g3, #[.slice A1 l1.length c1], 37), (g2, #[.int .i64 a0_0, .int .i64 a0_1, .int .i64 a0_2, .int .i64 a0_3], 66)]) (by (with_reducible repeat (first | refine Boxes.drewN ?_ _ | refine Boxes.drew ?_ | refine Boxes.alloc ?_ _)); exact BX.out) hb); clear BX hb; have BX := BY; clear BY; clear q5_0 f5_0 q5_1 f5_1 q5_2 f5_2 q3_0 f3_0 q2_0 f2_0 q2_1 f2_1 q2_2 f2_2 q2_3 f2_3; have q5_0 : World.cell? _ ⟨g5, 0, none⟩ = some (.bool xa_) := BX.out.cell (i := 0) rfl (j := 0) rfl; have f5_0 : World.frozen? _ ⟨g5, 0, none⟩ = false := BX.out.frozen (i := 0) rfl 0; have q5_1 : World.cell? _ ⟨g5, 1, none⟩ = some (.bool xb_) := BX.out.cell (i := 0) rfl (j := 1) rfl; have f5_1 : World.frozen? _ ⟨g5, 1, none⟩ = false := BX.out.frozen (i := 0) rfl 1; have q5_2 : World.cell? _ ⟨g5, 2, none⟩ = some (.bool xn_) := BX.out.cell (i := 0) rfl (j := 2) rfl; have f5_2 : World.frozen? _ ⟨g5, 2, none⟩ = false := BX.out.frozen (i := 0) rfl 2; have q3_0 : World.cell? _ ⟨g3, 0, none⟩ = some (.slice A1 l1.length c1) := BX.out.cell (i := 1) rfl (j := 0) rfl; have f3_0 : World.frozen? _ ⟨g3, 0, none⟩ = false := BX.out.frozen (i := 1) rfl 0; have q2_0 : World.cell? _ ⟨g2, 0, none⟩ = some (.int .i64 a0_0) := BX.out.cell (i := 2) rfl (j := 0) rfl; have f2_0 : World.frozen? _ ⟨g2, 0, none⟩ = false := BX.out.frozen (i := 2) rfl 0; have q2_1 : World.cell? _ ⟨g2, 1, none⟩ = some (.int .i64 a0_1) := BX.out.cell (i := 2) rfl (j := 1) rfl; have f2_1 : World.frozen? _ ⟨g2, 1, none⟩ = false := BX.out.frozen (i := 2) rfl 1; have q2_2 : World.cell? _ ⟨g2, 2, none⟩ = some (.int .i64 a0_2) := BX.out.cell (i := 2) rfl (j := 2) rfl; have f2_2 : World.frozen? _ ⟨g2, 2, none⟩ = false := BX.out.frozen (i := 2) rfl 2; have q2_3 : World.cell? _ ⟨g2, 3, none⟩ = some (.int .i64 a0_3) := BX.out.cell (i := 2) rfl (j := 3) rfl; have f2_3 : World.frozen? _ ⟨g2, 3, none⟩ = false := BX.out.frozen (i := 2) rfl 3) | (go_at_call 56; refine (ContainsFuncI.calls pA pc ps_ 83 #[.pointer (some ⟨g3, 0, none⟩)] (impl_Term_fault.p2 l1) _ _ eg2 HC.out (fun x b W hx hb2 => impl_Term_fault_lit2.calls A1 c1 l1 x b g3 _ W (BX.out.lt (i := 1) rfl) (BX.out.cell (i := 1) rfl (j := 0) rfl) (Kd.C_below HR1.out BX.out.low) hc1 hb2 hx) (H6.out (Int.not_le.mp (of_decide_eq_false ci)))).mono ?_; rintro e w49_ ⟨rfl, hb⟩; clear HC; have BY := Aside0.mk (Boxes.below (w0 := w) (bs := [(g5, #[.bool xa_, .bool xb_, .bool xn_], 106), (g3, #[.slice A1 l1.length c1], 37), (g2, #[.int .i64 a0_0, .int .i64 a0_1, .int .i64 a0_2, .int .i64 a0_3], 66)]) (by (with_reducible repeat (first | refine Boxes.drewN ?_ _ | refine Boxes.drew ?_ | refine Boxes.alloc ?_ _)); exact BX.out) hb); clear BX hb; have BX := BY; clear BY; clear q5_0 f5_0 q5_1 f5_1 q5_2 f5_2 q3_0 f3_0 q2_0 f2_0 q2_1 f2_1 q2_2 f2_2 q2_3 f2_3; have q5_0 : World.cell? _ ⟨g5, 0, none⟩ = some (.bool xa_) := BX.out.cell (i := 0) rfl (j := 0) rfl; have f5_0 : World.frozen? _ ⟨g5, 0, none⟩ = false := BX.out.frozen (i := 0) rfl 0; have q5_1 : World.cell? _ ⟨g5, 1, none⟩ = some (.bool xb_) := BX.out.cell (i := 0) rfl (j := 1) rfl; have f5_1 : World.frozen? _ ⟨g5, 1, none⟩ = false := BX.out.frozen (i := 0) rfl 1; have q5_2 : World.cell? _ ⟨g5, 2, none⟩ = some (.bool xn_) := BX.out.cell (i := 0) rfl (j := 2) rfl; have f5_2 : World.frozen? _ ⟨g5, 2, none⟩ = false := BX.out.frozen (i := 0) rfl 2; have q3_0 : World.cell? _ ⟨g3, 0, none⟩ = some (.slice A1 l1.length c1) := BX.out.cell (i := 1) rfl (j := 0) rfl; have f3_0 : World.frozen? _ ⟨g3, 0, none⟩ = false := BX.out.frozen (i := 1) rfl 0; have q2_0 : World.cell? _ ⟨g2, 0, none⟩ = some (.int .i64 a0_0) := BX.out.cell (i := 2) rfl (j := 0) rfl; have f2_0 : World.frozen? _ ⟨g2, 0, none⟩ = false := BX.out.frozen (i := 2) rfl 0; have q2_1 : World.cell? _ ⟨g2, 1, none⟩ = some (.int .i64 a0_1) := BX.out.cell (i := 2) rfl (j := 1) rfl; have f2_1 : World.frozen? _ ⟨g2, 1, none⟩ = false := BX.out.frozen (i := 2) rfl 1; have q2_2 : World.cell? _ ⟨g2, 2, none⟩ = some (.int .i64 a0_2) := BX.out.cell (i := 2) rfl (j := 2) rfl; have f2_2 : World.frozen? _ ⟨g2, 2, none⟩ = false := BX.out.frozen (i := 2) rfl 2; have q2_3 : World.cell? _ ⟨g2, 3, none⟩ = some (.int .i64 a0_3) := BX.out.cell (i := 2) rfl (j := 3) rfl; have f2_3 : World.frozen? _ ⟨g2, 3, none⟩ = false := BX.out.frozen (i := 2) rfl 3) | fail)
    go_ret
    refine ⟨congrArg (fun z => Ending.returned (Value.int .i64 z)) ?_, (Boxes.low (w0 := w) (bs := [(g5, #[.bool xa_, .bool xb_, .bool xn_], 106), (g3, #[.slice A1 l1.length c1], 37), (g2, #[.int .i64 a0_0, .int .i64 a0_1, .int .i64 a0_2, .int .i64 a0_3], 66)]) (by (with_reducible repeat (first | refine Boxes.drewN ?_ _ | refine Boxes.drew ?_ | refine Boxes.alloc ?_ _)); exact BX.out))⟩
    rw [← HV.out]
    simp only [impl_Term_fault.r]
    clear HV BX HR1 H1 H2 H3 H4 H5 eg1 eg2 hu1 hu2 hu3
    simp_all
    try ((repeat' split) <;> omega))
set_option maxHeartbeats 16000000 in
set_option maxRecDepth 100000 in
theorem impl_Term_fault_h (a0_0 : Int) (a0_1 : Int) (a0_2 : Int) (a0_3 : Int) (A1 : Option Addr) (c1 : Nat) (l1 : List S66) (xa_ xb_ xn_ b1_ b2_ : Bool) (ps_ : List Int) (i_ j_ r_ : Int) (w : World) (hc1 : l1.length ≤ c1) (HR1 : Aside0 (Kd.C k66 w A1 l1.length l1)) (eg1 : ∀ args w, (callFunc 82 args).run Tryd.prog w = .ok (.enter 82 args) w) (eg2 : ∀ args w, (callFunc 83 args).run Tryd.prog w = .ok (.enter 83 args) w) (H1 : Aside0 (impl_in.f a0_0 1 7 = some b1_)) (H2 : Aside0 (impl_namesOf.f 9 a0_0 = some (xa_, xb_, xn_))) (H3 : Aside0 (impl_in.f a0_3 0 9999 = some b2_))
    (H4 : Aside0 (impl_Term_parts.f 9 a0_0 a0_1 a0_2 a0_3 = some ps_)) (H5 : Aside0 (idxO (impl_Term_fault.p1 l1) ps_ 0 = some i_)) (H6 : Aside0 (i_ < 0 → idxO (impl_Term_fault.p2 l1) ps_ 0 = some j_)) (HV : Aside0 (impl_Term_fault.r a0_0 a0_1 a0_2 a0_3 b1_ xa_ xb_ xn_ b2_ i_ j_ = r_)) (vb1 : b1_ = true) (ea : xa_ = true) (eb : xb_ = false) (en : xn_ = false) (o6 : (a0_0 != 6) = false) (e7 : (a0_0 == 7) = false) :
    Calls Tryd.prog 76 #[.agg #[.int .i64 a0_0, .int .i64 a0_1, .int .i64 a0_2, .int .i64 a0_3], .slice A1 l1.length c1] w fun e w' => e = .returned (.int .i64 r_) ∧ Below w.heap.size w w' := by
  have hp : ((a0_2 != 0) = true) ∨ ((a0_2 != 0) = false ∧ (a0_3 != 0) = true) ∨ ((a0_2 != 0) = false ∧ (a0_3 != 0) = false ∧ b2_ = true ∧ decide (0 ≤ i_) = true) ∨ ((a0_2 != 0) = false ∧ (a0_3 != 0) = false ∧ b2_ = true ∧ decide (0 ≤ i_) = false ∧ decide (0 ≤ j_) = true) ∨ ((a0_2 != 0) = false ∧ (a0_3 != 0) = false ∧ b2_ = true ∧ decide (0 ≤ i_) = false ∧ decide (0 ≤ j_) = false) ∨ ((a0_2 != 0) = false ∧ (a0_3 != 0) = false ∧ b2_ = false) := by
    rcases Bool.eq_false_or_eq_true ((a0_2 != 0)) with z1 | z1
    · exact .inl z1
    · rcases Bool.eq_false_or_eq_true ((a0_3 != 0)) with z2 | z2
      · exact .inr (.inl ⟨z1, z2⟩)
      · rcases Bool.eq_false_or_eq_true (b2_) with vb | vb
        · rcases Bool.eq_false_or_eq_true (decide (0 ≤ i_)) with ci | ci
          · exact .inr (.inr (.inl ⟨z1, z2, vb, ci⟩))
          · rcases Bool.eq_false_or_eq_true (decide (0 ≤ j_)) with cj | cj
            · exact .inr (.inr (.inr (.inl ⟨z1, z2, vb, ci, cj⟩)))
            · exact .inr (.inr (.inr (.inr (.inl ⟨z1, z2, vb, ci, cj⟩))))
        · exact .inr (.inr (.inr (.inr (.inr ⟨z1, z2, vb⟩))))
  rcases hp with z1 | ⟨z1, z2⟩ | ⟨z1, z2, vb, ci⟩ | ⟨z1, z2, vb, ci, cj⟩ | ⟨z1, z2, vb, ci, cj⟩ | ⟨z1, z2, vb⟩
  all_goals (
    have BX := Aside0.mk (Boxes.start w)
    have hu1 := Tryd.underlying66
    have hu2 := Tryd.underlying37
    have hu3 := Tryd.underlying106
    go_enter Tryd.func76, Tryd.ntmps76
    go_wp2_with (first | ((with_reducible refine gate_dst (N := 2) rfl ?_); refine box_event ?hg (N := 2) ?hd (cs := #[.int .i64 a0_0, .int .i64 a0_1, .int .i64 a0_2, .int .i64 a0_3]) (t := 66) ?hr ?_; (case hd => rfl); (case hg => rfl); (case hr => first | (go_simp; done) | (go_simp; rfl)); intro g2 hg w2_ hbox hb; have BY := Aside0.mk (Boxes.new (w0 := w) (bs := []) (by (with_reducible repeat (first | refine Boxes.drewN ?_ _ | refine Boxes.drew ?_ | refine Boxes.alloc ?_ _)); exact BX.out) hg hbox hb); clear BX hb hbox hg; have BX := BY; clear BY; have q2_0 : World.cell? _ ⟨g2, 0, none⟩ = some (.int .i64 a0_0) := BX.out.cell (i := 0) rfl (j := 0) rfl; have f2_0 : World.frozen? _ ⟨g2, 0, none⟩ = false := BX.out.frozen (i := 0) rfl 0; have q2_1 : World.cell? _ ⟨g2, 1, none⟩ = some (.int .i64 a0_1) := BX.out.cell (i := 0) rfl (j := 1) rfl; have f2_1 : World.frozen? _ ⟨g2, 1, none⟩ = false := BX.out.frozen (i := 0) rfl 1; have q2_2 : World.cell? _ ⟨g2, 2, none⟩ = some (.int .i64 a0_2) := BX.out.cell (i := 0) rfl (j := 2) rfl; have f2_2 : World.frozen? _ ⟨g2, 2, none⟩ = false := BX.out.frozen (i := 0) rfl 2; have q2_3 : World.cell? _ ⟨g2, 3, none⟩ = some (.int .i64 a0_3) := BX.out.cell (i := 0) rfl (j := 3) rfl; have f2_3 : World.frozen? _ ⟨g2, 3, none⟩ = false := BX.out.frozen (i := 0) rfl 3) | ((with_reducible refine gate_dst (N := 3) rfl ?_); refine box_event ?hg (N := 3) ?hd (cs := #[.slice A1 l1.length c1]) (t := 37) ?hr ?_; (case hd => rfl); (case hg => rfl); (case hr => first | (go_simp; done) | (go_simp; rfl)); intro g3 hg w3_ hbox hb; have BY := Aside0.mk (Boxes.new (w0 := w) (bs := [(g2, #[.int .i64 a0_0, .int .i64 a0_1, .int .i64 a0_2, .int .i64 a0_3], 66)]) (by (with_reducible repeat (first | refine Boxes.drewN ?_ _ | refine Boxes.drew ?_ | refine Boxes.alloc ?_ _)); exact BX.out) hg hbox hb); clear BX hb hbox hg; have BX := BY; clear BY; clear q2_0 f2_0 q2_1 f2_1 q2_2 f2_2 q2_3 f2_3; have q3_0 : World.cell? _ ⟨g3, 0, none⟩ = some (.slice A1 l1.length c1) := BX.out.cell (i := 0) rfl (j := 0) rfl; have f3_0 : World.frozen? _ ⟨g3, 0, none⟩ = false := BX.out.frozen (i := 0) rfl 0; have q2_0 : World.cell? _ ⟨g2, 0, none⟩ = some (.int .i64 a0_0) := BX.out.cell (i := 1) rfl (j := 0) rfl; have f2_0 : World.frozen? _ ⟨g2, 0, none⟩ = false := BX.out.frozen (i := 1) rfl 0; have q2_1 : World.cell? _ ⟨g2, 1, none⟩ = some (.int .i64 a0_1) := BX.out.cell (i := 1) rfl (j := 1) rfl; have f2_1 : World.frozen? _ ⟨g2, 1, none⟩ = false := BX.out.frozen (i := 1) rfl 1; have q2_2 : World.cell? _ ⟨g2, 2, none⟩ = some (.int .i64 a0_2) := BX.out.cell (i := 1) rfl (j := 2) rfl; have f2_2 : World.frozen? _ ⟨g2, 2, none⟩ = false := BX.out.frozen (i := 1) rfl 2; have q2_3 : World.cell? _ ⟨g2, 3, none⟩ = some (.int .i64 a0_3) := BX.out.cell (i := 1) rfl (j := 3) rfl; have f2_3 : World.frozen? _ ⟨g2, 3, none⟩ = false := BX.out.frozen (i := 1) rfl 3) | ((with_reducible refine gate_dst (N := 5) rfl ?_); refine box_event ?hg (N := 5) ?hd (cs := #[.bool false, .bool false, .bool false]) (t := 106) ?hr ?_; (case hd => rfl); (case hg => rfl); (case hr => first | (go_simp; done) | (go_simp; rfl)); intro g5 hg w5_ hbox hb; have BY := Aside0.mk (Boxes.new (w0 := w) (bs := [(g3, #[.slice A1 l1.length c1], 37), (g2, #[.int .i64 a0_0, .int .i64 a0_1, .int .i64 a0_2, .int .i64 a0_3], 66)]) (by (with_reducible repeat (first | refine Boxes.drewN ?_ _ | refine Boxes.drew ?_ | refine Boxes.alloc ?_ _)); exact BX.out) hg hbox hb); clear BX hb hbox hg; have BX := BY; clear BY; clear q3_0 f3_0 q2_0 f2_0 q2_1 f2_1 q2_2 f2_2 q2_3 f2_3; have q5_0 : World.cell? _ ⟨g5, 0, none⟩ = some (.bool false) := BX.out.cell (i := 0) rfl (j := 0) rfl; have f5_0 : World.frozen? _ ⟨g5, 0, none⟩ = false := BX.out.frozen (i := 0) rfl 0; have q5_1 : World.cell? _ ⟨g5, 1, none⟩ = some (.bool false) := BX.out.cell (i := 0) rfl (j := 1) rfl; have f5_1 : World.frozen? _ ⟨g5, 1, none⟩ = false := BX.out.frozen (i := 0) rfl 1; have q5_2 : World.cell? _ ⟨g5, 2, none⟩ = some (.bool false) := BX.out.cell (i := 0) rfl (j := 2) rfl; have f5_2 : World.frozen? _ ⟨g5, 2, none⟩ = false := BX.out.frozen (i := 0) rfl 2; have q3_0 : World.cell? _ ⟨g3, 0, none⟩ = some (.slice A1 l1.length c1) := BX.out.cell (i := 1) rfl (j := 0) rfl; have f3_0 : World.frozen? _ ⟨g3, 0, none⟩ = false := BX.out.frozen (i := 1) rfl 0; have q2_0 : World.cell? _ ⟨g2, 0, none⟩ = some (.int .i64 a0_0) := BX.out.cell (i := 2) rfl (j := 0) rfl; have f2_0 : World.frozen? _ ⟨g2, 0, none⟩ = false := BX.out.frozen (i := 2) rfl 0; have q2_1 : World.cell? _ ⟨g2, 1, none⟩ = some (.int .i64 a0_1) := BX.out.cell (i := 2) rfl (j := 1) rfl; have f2_1 : World.frozen? _ ⟨g2, 1, none⟩ = false := BX.out.frozen (i := 2) rfl 1; have q2_2 : World.cell? _ ⟨g2, 2, none⟩ = some (.int .i64 a0_2) := BX.out.cell (i := 2) rfl (j := 2) rfl; have f2_2 : World.frozen? _ ⟨g2, 2, none⟩ = false := BX.out.frozen (i := 2) rfl 2; have q2_3 : World.cell? _ ⟨g2, 3, none⟩ = some (.int .i64 a0_3) := BX.out.cell (i := 2) rfl (j := 3) rfl; have f2_3 : World.frozen? _ ⟨g2, 3, none⟩ = false := BX.out.frozen (i := 2) rfl 3) | (go_at_call 39; first | ((with_reducible refine (impl_in.calls a0_0 1 7 _ _ H1.out).mono ?_); rintro e w' ⟨rfl, ⟨nd, rfl⟩⟩) | ((with_reducible refine (impl_in.calls a0_3 0 9999 _ _ H3.out).mono ?_); rintro e w' ⟨rfl, ⟨nd2, rfl⟩⟩)) | (go_at_call 78; refine (impl_namesOf.calls 9 a0_0 _ _ _ _ H2.out).mono ?_; rintro e w12_ ⟨rfl, hb⟩; have BY := Aside0.mk (Boxes.below (w0 := w) (bs := [(g3, #[.slice A1 l1.length c1], 37), (g2, #[.int .i64 a0_0, .int .i64 a0_1, .int .i64 a0_2, .int .i64 a0_3], 66)]) (by (with_reducible repeat (first | refine Boxes.drewN ?_ _ | refine Boxes.drew ?_ | refine Boxes.alloc ?_ _)); exact BX.out) hb); clear BX hb; have BX := BY; clear BY; clear q3_0 f3_0 q2_0 f2_0 q2_1 f2_1 q2_2 f2_2 q2_3 f2_3; have q3_0 : World.cell? _ ⟨g3, 0, none⟩ = some (.slice A1 l1.length c1) := BX.out.cell (i := 0) rfl (j := 0) rfl; have f3_0 : World.frozen? _ ⟨g3, 0, none⟩ = false := BX.out.frozen (i := 0) rfl 0; have q2_0 : World.cell? _ ⟨g2, 0, none⟩ = some (.int .i64 a0_0) := BX.out.cell (i := 1) rfl (j := 0) rfl; have f2_0 : World.frozen? _ ⟨g2, 0, none⟩ = false := BX.out.frozen (i := 1) rfl 0; have q2_1 : World.cell? _ ⟨g2, 1, none⟩ = some (.int .i64 a0_1) := BX.out.cell (i := 1) rfl (j := 1) rfl; have f2_1 : World.frozen? _ ⟨g2, 1, none⟩ = false := BX.out.frozen (i := 1) rfl 1; have q2_2 : World.cell? _ ⟨g2, 2, none⟩ = some (.int .i64 a0_2) := BX.out.cell (i := 1) rfl (j := 2) rfl; have f2_2 : World.frozen? _ ⟨g2, 2, none⟩ = false := BX.out.frozen (i := 1) rfl 2; have q2_3 : World.cell? _ ⟨g2, 3, none⟩ = some (.int .i64 a0_3) := BX.out.cell (i := 1) rfl (j := 3) rfl; have f2_3 : World.frozen? _ ⟨g2, 3, none⟩ = false := BX.out.frozen (i := 1) rfl 3) | ((with_reducible refine gate_store (t := 106) (p := 5) rfl ?_); refine boxes_store (w0 := w) (bs := [(g5, #[.bool xa_, .bool xb_, .bool xn_], 106), (g3, #[.slice A1 l1.length c1], 37), (g2, #[.int .i64 a0_0, .int .i64 a0_1, .int .i64 a0_2, .int .i64 a0_3], 66)]) (W1 := ((World.setCell w5_ ⟨g5, 0, none⟩ (.bool xa_)).setCell ⟨g5, 1, none⟩ (.bool xb_)).setCell ⟨g5, 2, none⟩ (.bool xn_)) rfl rfl rfl ?hr (((Boxes.put (w0 := w) (b1 := []) (b2 := [(g3, #[.slice A1 l1.length c1], 37), (g2, #[.int .i64 a0_0, .int .i64 a0_1, .int .i64 a0_2, .int .i64 a0_3], 66)]) (g := g5) (cs := #[.bool false, .bool false, .bool false]) (t := 106) BX.out 0 (.bool xa_)).put (b1 := []) 1 (.bool xb_)).put (b1 := []) 2 (.bool xn_)) ?_; (case hr => first | (go_simp; done) | (go_simp; rfl)); intro w13_ BY; have BY := Aside0.mk BY; clear BX; have BX := BY; clear BY; clear q5_0 f5_0 q5_1 f5_1 q5_2 f5_2 q3_0 f3_0 q2_0 f2_0 q2_1 f2_1 q2_2 f2_2 q2_3 f2_3; have q5_0 : World.cell? _ ⟨g5, 0, none⟩ = some (.bool xa_) := BX.out.cell (i := 0) rfl (j := 0) rfl; have f5_0 : World.frozen? _ ⟨g5, 0, none⟩ = false := BX.out.frozen (i := 0) rfl 0; have q5_1 : World.cell? _ ⟨g5, 1, none⟩ = some (.bool xb_) := BX.out.cell (i := 0) rfl (j := 1) rfl; have f5_1 : World.frozen? _ ⟨g5, 1, none⟩ = false := BX.out.frozen (i := 0) rfl 1; have q5_2 : World.cell? _ ⟨g5, 2, none⟩ = some (.bool xn_) := BX.out.cell (i := 0) rfl (j := 2) rfl; have f5_2 : World.frozen? _ ⟨g5, 2, none⟩ = false := BX.out.frozen (i := 0) rfl 2; have q3_0 : World.cell? _ ⟨g3, 0, none⟩ = some (.slice A1 l1.length c1) := BX.out.cell (i := 1) rfl (j := 0) rfl; have f3_0 : World.frozen? _ ⟨g3, 0, none⟩ = false := BX.out.frozen (i := 1) rfl 0; have q2_0 : World.cell? _ ⟨g2, 0, none⟩ = some (.int .i64 a0_0) := BX.out.cell (i := 2) rfl (j := 0) rfl; have f2_0 : World.frozen? _ ⟨g2, 0, none⟩ = false := BX.out.frozen (i := 2) rfl 0; have q2_1 : World.cell? _ ⟨g2, 1, none⟩ = some (.int .i64 a0_1) := BX.out.cell (i := 2) rfl (j := 1) rfl; have f2_1 : World.frozen? _ ⟨g2, 1, none⟩ = false := BX.out.frozen (i := 2) rfl 1; have q2_2 : World.cell? _ ⟨g2, 2, none⟩ = some (.int .i64 a0_2) := BX.out.cell (i := 2) rfl (j := 2) rfl; have f2_2 : World.frozen? _ ⟨g2, 2, none⟩ = false := BX.out.frozen (i := 2) rfl 2; have q2_3 : World.cell? _ ⟨g2, 3, none⟩ = some (.int .i64 a0_3) := BX.out.cell (i := 2) rfl (j := 3) rfl; have f2_3 : World.frozen? _ ⟨g2, 3, none⟩ = false := BX.out.frozen (i := 2) rfl 3) | (go_at_call 59; refine (impl_Term_parts.calls 9 a0_0 a0_1 a0_2 a0_3 _ _ H4.out).mono ?_; rintro e w47_ ⟨pv, rfl, hR, hb⟩; obtain ⟨pA, pc, rfl, _, hC⟩ := Kd.R_reads hR; have HC := Aside0.mk hC; clear hC hR; have BY := Aside0.mk (Boxes.below (w0 := w) (bs := [(g5, #[.bool xa_, .bool xb_, .bool xn_], 106), (g3, #[.slice A1 l1.length c1], 37), (g2, #[.int .i64 a0_0, .int .i64 a0_1, .int .i64 a0_2, .int .i64 a0_3], 66)]) (by (with_reducible repeat (first | refine Boxes.drewN ?_ _ | refine Boxes.drew ?_ | refine Boxes.alloc ?_ _)); exact BX.out) hb); clear BX hb; have BX := BY; clear BY; clear q5_0 f5_0 q5_1 f5_1 q5_2 f5_2 q3_0 f3_0 q2_0 f2_0 q2_1 f2_1 q2_2 f2_2 q2_3 f2_3; have q5_0 : World.cell? _ ⟨g5, 0, none⟩ = some (.bool xa_) := BX.out.cell (i := 0) rfl (j := 0) rfl; have f5_0 : World.frozen? _ ⟨g5, 0, none⟩ = false := BX.out.frozen (i := 0) rfl 0; have q5_1 : World.cell? _ ⟨g5, 1, none⟩ = some (.bool xb_) := BX.out.cell (i := 0) rfl (j := 1) rfl; have f5_1 : World.frozen? _ ⟨g5, 1, none⟩ = false := BX.out.frozen (i := 0) rfl 1; have q5_2 : World.cell? _ ⟨g5, 2, none⟩ = some (.bool xn_) := BX.out.cell (i := 0) rfl (j := 2) rfl; have f5_2 : World.frozen? _ ⟨g5, 2, none⟩ = false := BX.out.frozen (i := 0) rfl 2; have q3_0 : World.cell? _ ⟨g3, 0, none⟩ = some (.slice A1 l1.length c1) := BX.out.cell (i := 1) rfl (j := 0) rfl; have f3_0 : World.frozen? _ ⟨g3, 0, none⟩ = false := BX.out.frozen (i := 1) rfl 0; have q2_0 : World.cell? _ ⟨g2, 0, none⟩ = some (.int .i64 a0_0) := BX.out.cell (i := 2) rfl (j := 0) rfl; have f2_0 : World.frozen? _ ⟨g2, 0, none⟩ = false := BX.out.frozen (i := 2) rfl 0; have q2_1 : World.cell? _ ⟨g2, 1, none⟩ = some (.int .i64 a0_1) := BX.out.cell (i := 2) rfl (j := 1) rfl; have f2_1 : World.frozen? _ ⟨g2, 1, none⟩ = false := BX.out.frozen (i := 2) rfl 1; have q2_2 : World.cell? _ ⟨g2, 2, none⟩ = some (.int .i64 a0_2) := BX.out.cell (i := 2) rfl (j := 2) rfl; have f2_2 : World.frozen? _ ⟨g2, 2, none⟩ = false := BX.out.frozen (i := 2) rfl 2; have q2_3 : World.cell? _ ⟨g2, 3, none⟩ = some (.int .i64 a0_3) := BX.out.cell (i := 2) rfl (j := 3) rfl; have f2_3 : World.frozen? _ ⟨g2, 3, none⟩ = false := BX.out.frozen (i := 2) rfl 3) | (go_at_call 56; refine (ContainsFuncI.calls pA pc ps_ 82 #[.pointer (some ⟨g3, 0, none⟩)] (impl_Term_fault.p1 l1) _ _ eg1 HC.out (fun x b W hx hb2 => impl_Term_fault_lit1.calls A1 c1 l1 x b g3 _ W (BX.out.lt (i := 1) rfl) (BX.out.cell (i := 1) rfl (j := 0) rfl) (Kd.C_below HR1.out BX.out.low) hc1 hb2 hx) H5.out).mono ?_; rintro e w49_ ⟨rfl, hb⟩; clear HC; have BY := Aside0.mk (Boxes.below (w0 := w) (bs := [(g5, #[.bool xa_, .bool xb_, .bool xn_], 106), (g3, #[.slice A1 l1.length c1], 37), (g2, #[.int .i64 a0_0, .int .i64 a0_1, .int .i64 a0_2, .int .i64 a0_3], 66)]) (by (with_reducible repeat (first | refine Boxes.drewN ?_ _ | refine Boxes.drew ?_ | refine Boxes.alloc ?_ _)); exact BX.out) hb); clear BX hb; have BX := BY; clear BY; clear q5_0 f5_0 q5_1 f5_1 q5_2 f5_2 q3_0 f3_0 q2_0 f2_0 q2_1 f2_1 q2_2 f2_2 q2_3 f2_3; have q5_0 : World.cell? _ ⟨g5, 0, none⟩ = some (.bool xa_) := BX.out.cell (i := 0) rfl (j := 0) rfl; have f5_0 : World.frozen? _ ⟨g5, 0, none⟩ = false := BX.out.frozen (i := 0) rfl 0; have q5_1 : World.cell? _ ⟨g5, 1, none⟩ = some (.bool xb_) := BX.out.cell (i := 0) rfl (j := 1) rfl; have f5_1 : World.frozen? _ ⟨g5, 1, none⟩ = false := BX.out.frozen (i := 0) rfl 1; have q5_2 : World.cell? _ ⟨g5, 2, none⟩ = some (.bool xn_) := BX.out.cell (i := 0) rfl (j := 2) rfl; have f5_2 : World.frozen? _ ⟨g5, 2, none⟩ = false := BX.out.frozen (i := 0) rfl 2; have q3_0 : World.cell? _ ⟨g3, 0, none⟩ = some (.slice A1 l1.length c1) := BX.out.cell (i := 1) rfl (j := 0) rfl; have f3_0 : World.frozen? _ ⟨g3, 0, none⟩ = false := BX.out.frozen (i := 1) rfl 0; have q2_0 : World.cell? _ ⟨g2, 0, none⟩ = some (.int .i64 a0_0) := BX.out.cell (i := 2) rfl (j := 0) rfl; have f2_0 : World.frozen? _ ⟨g2, 0, none⟩ = false := BX.out.frozen (i := 2) rfl 0; have q2_1 : World.cell? _ ⟨g2, 1, none⟩ = some (.int .i64 a0_1) := BX.out.cell (i := 2) rfl (j := 1) rfl; have f2_1 : World.frozen? _ ⟨g2, 1, none⟩ = false := BX.out.frozen (i := 2) rfl 1; have q2_2 : World.cell? _ ⟨g2, 2, none⟩ = some (.int .i64 a0_2) := BX.out.cell (i := 2) rfl (j := 2) rfl; have f2_2 : World.frozen? _ ⟨g2, 2, none⟩ = false := BX.out.frozen (i := 2) rfl 2; have q2_3 : World.cell? _ ⟨g2, 3, none⟩ = some (.int .i64 a0_3) := BX.out.cell (i := 2) rfl (j := 3) rfl; have f2_3 : World.frozen? _ ⟨g2, 3, none⟩ = false := BX.out.frozen (i := 2) rfl 3) | (go_at_call 56; refine (ContainsFuncI.calls pA pc ps_ 83 #[.pointer (some ⟨g3, 0, none⟩)] (impl_Term_fault.p2 l1) _ _ eg2 HC.out (fun x b W hx hb2 => impl_Term_fault_lit2.calls A1 c1 l1 x b g3 _ W (BX.out.lt (i := 1) rfl) (BX.out.cell (i := 1) rfl (j := 0) rfl) (Kd.C_below HR1.out BX.out.low) hc1 hb2 hx) (H6.out (Int.not_le.mp (of_decide_eq_false ci)))).mono ?_; rintro e w49_ ⟨rfl, hb⟩; clear HC; have BY := Aside0.mk (Boxes.below (w0 := w) (bs := [(g5, #[.bool xa_, .bool xb_, .bool xn_], 106), (g3, #[.slice A1 l1.length c1], 37), (g2, #[.int .i64 a0_0, .int .i64 a0_1, .int .i64 a0_2, .int .i64 a0_3], 66)]) (by (with_reducible repeat (first | refine Boxes.drewN ?_ _ | refine Boxes.drew ?_ | refine Boxes.alloc ?_ _)); exact BX.out) hb); clear BX hb; have BX := BY; clear BY; clear q5_0 f5_0 q5_1 f5_1 q5_2 f5_2 q3_0 f3_0 q2_0 f2_0 q2_1 f2_1 q2_2 f2_2 q2_3 f2_3; have q5_0 : World.cell? _ ⟨g5, 0, none⟩ = some (.bool xa_) := BX.out.cell (i := 0) rfl (j := 0) rfl; have f5_0 : World.frozen? _ ⟨g5, 0, none⟩ = false := BX.out.frozen (i := 0) rfl 0; have q5_1 : World.cell? _ ⟨g5, 1, none⟩ = some (.bool xb_) := BX.out.cell (i := 0) rfl (j := 1) rfl; have f5_1 : World.frozen? _ ⟨g5, 1, none⟩ = false := BX.out.frozen (i := 0) rfl 1; have q5_2 : World.cell? _ ⟨g5, 2, none⟩ = some (.bool xn_) := BX.out.cell (i := 0) rfl (j := 2) rfl; have f5_2 : World.frozen? _ ⟨g5, 2, none⟩ = false := BX.out.frozen (i := 0) rfl 2; have q3_0 : World.cell? _ ⟨g3, 0, none⟩ = some (.slice A1 l1.length c1) := BX.out.cell (i := 1) rfl (j := 0) rfl; have f3_0 : World.frozen? _ ⟨g3, 0, none⟩ = false := BX.out.frozen (i := 1) rfl 0; have q2_0 : World.cell? _ ⟨g2, 0, none⟩ = some (.int .i64 a0_0) := BX.out.cell (i := 2) rfl (j := 0) rfl; have f2_0 : World.frozen? _ ⟨g2, 0, none⟩ = false := BX.out.frozen (i := 2) rfl 0; have q2_1 : World.cell? _ ⟨g2, 1, none⟩ = some (.int .i64 a0_1) := BX.out.cell (i := 2) rfl (j := 1) rfl; have f2_1 : World.frozen? _ ⟨g2, 1, none⟩ = false := BX.out.frozen (i := 2) rfl 1; have q2_2 : World.cell? _ ⟨g2, 2, none⟩ = some (.int .i64 a0_2) := BX.out.cell (i := 2) rfl (j := 2) rfl; have f2_2 : World.frozen? _ ⟨g2, 2, none⟩ = false := BX.out.frozen (i := 2) rfl 2; have q2_3 : World.cell? _ ⟨g2, 3, none⟩ = some (.int .i64 a0_3) := BX.out.cell (i := 2) rfl (j := 3) rfl; have f2_3 : World.frozen? _ ⟨g2, 3, none⟩ = false := BX.out.frozen (i := 2) rfl 3) | fail)
    go_ret
    refine ⟨congrArg (fun z => Ending.returned (Value.int .i64 z)) ?_, (Boxes.low (w0 := w) (bs := [(g5, #[.bool xa_, .bool xb_, .bool xn_], 106), (g3, #[.slice A1 l1.length c1], 37), (g2, #[.int .i64 a0_0, .int .i64 a0_1, .int .i64 a0_2, .int .i64 a0_3], 66)]) (by (with_reducible repeat (first | refine Boxes.drewN ?_ _ | refine Boxes.drew ?_ | refine Boxes.alloc ?_ _)); exact BX.out))⟩
    rw [← HV.out]
    simp only [impl_Term_fault.r]
    clear HV BX HR1 H1 H2 H3 H4 H5 eg1 eg2 hu1 hu2 hu3
    simp_all
    try ((repeat' split) <;> omega))
set_option maxHeartbeats 16000000 in
set_option maxRecDepth 100000 in
theorem impl_Term_fault_p (a0_0 : Int) (a0_1 : Int) (a0_2 : Int) (a0_3 : Int) (A1 : Option Addr) (c1 : Nat) (l1 : List S66) (xa_ xb_ xn_ b1_ b2_ : Bool) (ps_ : List Int) (i_ j_ r_ : Int) (w : World) (hc1 : l1.length ≤ c1) (HR1 : Aside0 (Kd.C k66 w A1 l1.length l1)) (eg1 : ∀ args w, (callFunc 82 args).run Tryd.prog w = .ok (.enter 82 args) w) (eg2 : ∀ args w, (callFunc 83 args).run Tryd.prog w = .ok (.enter 83 args) w) (H1 : Aside0 (impl_in.f a0_0 1 7 = some b1_)) (H2 : Aside0 (impl_namesOf.f 9 a0_0 = some (xa_, xb_, xn_))) (H3 : Aside0 (impl_in.f a0_3 0 9999 = some b2_))
    (H4 : Aside0 (impl_Term_parts.f 9 a0_0 a0_1 a0_2 a0_3 = some ps_)) (H5 : Aside0 (idxO (impl_Term_fault.p1 l1) ps_ 0 = some i_)) (H6 : Aside0 (i_ < 0 → idxO (impl_Term_fault.p2 l1) ps_ 0 = some j_)) (HV : Aside0 (impl_Term_fault.r a0_0 a0_1 a0_2 a0_3 b1_ xa_ xb_ xn_ b2_ i_ j_ = r_)) (vb1 : b1_ = true) (ea : xa_ = true) (eb : xb_ = true) (en : xn_ = false) (o6 : (a0_0 != 6) = true) (e7 : (a0_0 == 7) = !(a0_0 != 7)) :
    Calls Tryd.prog 76 #[.agg #[.int .i64 a0_0, .int .i64 a0_1, .int .i64 a0_2, .int .i64 a0_3], .slice A1 l1.length c1] w fun e w' => e = .returned (.int .i64 r_) ∧ Below w.heap.size w w' := by
  have hp : ((a0_3 != 0) = true) ∨ ((a0_3 != 0) = false ∧ b2_ = true ∧ decide (0 ≤ i_) = true) ∨ ((a0_3 != 0) = false ∧ b2_ = true ∧ decide (0 ≤ i_) = false ∧ (a0_0 != 7) = true) ∨ ((a0_3 != 0) = false ∧ b2_ = true ∧ decide (0 ≤ i_) = false ∧ (a0_0 != 7) = false ∧ decide (0 ≤ j_) = true) ∨ ((a0_3 != 0) = false ∧ b2_ = true ∧ decide (0 ≤ i_) = false ∧ (a0_0 != 7) = false ∧ decide (0 ≤ j_) = false ∧ decide (a0_1 > a0_2) = true) ∨ ((a0_3 != 0) = false ∧ b2_ = true ∧ decide (0 ≤ i_) = false ∧ (a0_0 != 7) = false ∧ decide (0 ≤ j_) = false ∧ decide (a0_1 > a0_2) = false) ∨ ((a0_3 != 0) = false ∧ b2_ = false) := by
    rcases Bool.eq_false_or_eq_true ((a0_3 != 0)) with z2 | z2
    · exact .inl z2
    · rcases Bool.eq_false_or_eq_true (b2_) with vb | vb
      · rcases Bool.eq_false_or_eq_true (decide (0 ≤ i_)) with ci | ci
        · exact .inr (.inl ⟨z2, vb, ci⟩)
        · rcases Bool.eq_false_or_eq_true ((a0_0 != 7)) with o7 | o7
          · exact .inr (.inr (.inl ⟨z2, vb, ci, o7⟩))
          · rcases Bool.eq_false_or_eq_true (decide (0 ≤ j_)) with cj | cj
            · exact .inr (.inr (.inr (.inl ⟨z2, vb, ci, o7, cj⟩)))
            · rcases Bool.eq_false_or_eq_true (decide (a0_1 > a0_2)) with cg | cg
              · exact .inr (.inr (.inr (.inr (.inl ⟨z2, vb, ci, o7, cj, cg⟩))))
              · exact .inr (.inr (.inr (.inr (.inr (.inl ⟨z2, vb, ci, o7, cj, cg⟩)))))
      · exact .inr (.inr (.inr (.inr (.inr (.inr ⟨z2, vb⟩)))))
  rcases hp with z2 | ⟨z2, vb, ci⟩ | ⟨z2, vb, ci, o7⟩ | ⟨z2, vb, ci, o7, cj⟩ | ⟨z2, vb, ci, o7, cj, cg⟩ | ⟨z2, vb, ci, o7, cj, cg⟩ | ⟨z2, vb⟩
  all_goals (
    have BX := Aside0.mk (Boxes.start w)
    have hu1 := Tryd.underlying66
    have hu2 := Tryd.underlying37
    have hu3 := Tryd.underlying106
    go_enter Tryd.func76, Tryd.ntmps76
    go_wp2_with (first | ((with_reducible refine gate_dst (N := 2) rfl ?_); refine box_event ?hg (N := 2) ?hd (cs := #[.int .i64 a0_0, .int .i64 a0_1, .int .i64 a0_2, .int .i64 a0_3]) (t := 66) ?hr ?_; (case hd => rfl); (case hg => rfl); (case hr => first | (go_simp; done) | (go_simp; rfl)); intro g2 hg w2_ hbox hb; have BY := Aside0.mk (Boxes.new (w0 := w) (bs := []) (by (with_reducible repeat (first | refine Boxes.drewN ?_ _ | refine Boxes.drew ?_ | refine Boxes.alloc ?_ _)); exact BX.out) hg hbox hb); clear BX hb hbox hg; have BX := BY; clear BY; have q2_0 : World.cell? _ ⟨g2, 0, none⟩ = some (.int .i64 a0_0) := BX.out.cell (i := 0) rfl (j := 0) rfl; have f2_0 : World.frozen? _ ⟨g2, 0, none⟩ = false := BX.out.frozen (i := 0) rfl 0; have q2_1 : World.cell? _ ⟨g2, 1, none⟩ = some (.int .i64 a0_1) := BX.out.cell (i := 0) rfl (j := 1) rfl; have f2_1 : World.frozen? _ ⟨g2, 1, none⟩ = false := BX.out.frozen (i := 0) rfl 1; have q2_2 : World.cell? _ ⟨g2, 2, none⟩ = some (.int .i64 a0_2) := BX.out.cell (i := 0) rfl (j := 2) rfl; have f2_2 : World.frozen? _ ⟨g2, 2, none⟩ = false := BX.out.frozen (i := 0) rfl 2; have q2_3 : World.cell? _ ⟨g2, 3, none⟩ = some (.int .i64 a0_3) := BX.out.cell (i := 0) rfl (j := 3) rfl; have f2_3 : World.frozen? _ ⟨g2, 3, none⟩ = false := BX.out.frozen (i := 0) rfl 3) | ((with_reducible refine gate_dst (N := 3) rfl ?_); refine box_event ?hg (N := 3) ?hd (cs := #[.slice A1 l1.length c1]) (t := 37) ?hr ?_; (case hd => rfl); (case hg => rfl); (case hr => first | (go_simp; done) | (go_simp; rfl)); intro g3 hg w3_ hbox hb; have BY := Aside0.mk (Boxes.new (w0 := w) (bs := [(g2, #[.int .i64 a0_0, .int .i64 a0_1, .int .i64 a0_2, .int .i64 a0_3], 66)]) (by (with_reducible repeat (first | refine Boxes.drewN ?_ _ | refine Boxes.drew ?_ | refine Boxes.alloc ?_ _)); exact BX.out) hg hbox hb); clear BX hb hbox hg; have BX := BY; clear BY; clear q2_0 f2_0 q2_1 f2_1 q2_2 f2_2 q2_3 f2_3; have q3_0 : World.cell? _ ⟨g3, 0, none⟩ = some (.slice A1 l1.length c1) := BX.out.cell (i := 0) rfl (j := 0) rfl; have f3_0 : World.frozen? _ ⟨g3, 0, none⟩ = false := BX.out.frozen (i := 0) rfl 0; have q2_0 : World.cell? _ ⟨g2, 0, none⟩ = some (.int .i64 a0_0) := BX.out.cell (i := 1) rfl (j := 0) rfl; have f2_0 : World.frozen? _ ⟨g2, 0, none⟩ = false := BX.out.frozen (i := 1) rfl 0; have q2_1 : World.cell? _ ⟨g2, 1, none⟩ = some (.int .i64 a0_1) := BX.out.cell (i := 1) rfl (j := 1) rfl; have f2_1 : World.frozen? _ ⟨g2, 1, none⟩ = false := BX.out.frozen (i := 1) rfl 1; have q2_2 : World.cell? _ ⟨g2, 2, none⟩ = some (.int .i64 a0_2) := BX.out.cell (i := 1) rfl (j := 2) rfl; have f2_2 : World.frozen? _ ⟨g2, 2, none⟩ = false := BX.out.frozen (i := 1) rfl 2; have q2_3 : World.cell? _ ⟨g2, 3, none⟩ = some (.int .i64 a0_3) := BX.out.cell (i := 1) rfl (j := 3) rfl; have f2_3 : World.frozen? _ ⟨g2, 3, none⟩ = false := BX.out.frozen (i := 1) rfl 3) | ((with_reducible refine gate_dst (N := 5) rfl ?_); refine box_event ?hg (N := 5) ?hd (cs := #[.bool false, .bool false, .bool false]) (t := 106) ?hr ?_; (case hd => rfl); (case hg => rfl); (case hr => first | (go_simp; done) | (go_simp; rfl)); intro g5 hg w5_ hbox hb; have BY := Aside0.mk (Boxes.new (w0 := w) (bs := [(g3, #[.slice A1 l1.length c1], 37), (g2, #[.int .i64 a0_0, .int .i64 a0_1, .int .i64 a0_2, .int .i64 a0_3], 66)]) (by (with_reducible repeat (first | refine Boxes.drewN ?_ _ | refine Boxes.drew ?_ | refine Boxes.alloc ?_ _)); exact BX.out) hg hbox hb); clear BX hb hbox hg; have BX := BY; clear BY; clear q3_0 f3_0 q2_0 f2_0 q2_1 f2_1 q2_2 f2_2 q2_3 f2_3; have q5_0 : World.cell? _ ⟨g5, 0, none⟩ = some (.bool false) := BX.out.cell (i := 0) rfl (j := 0) rfl; have f5_0 : World.frozen? _ ⟨g5, 0, none⟩ = false := BX.out.frozen (i := 0) rfl 0; have q5_1 : World.cell? _ ⟨g5, 1, none⟩ = some (.bool false) := BX.out.cell (i := 0) rfl (j := 1) rfl; have f5_1 : World.frozen? _ ⟨g5, 1, none⟩ = false := BX.out.frozen (i := 0) rfl 1; have q5_2 : World.cell? _ ⟨g5, 2, none⟩ = some (.bool false) := BX.out.cell (i := 0) rfl (j := 2) rfl; have f5_2 : World.frozen? _ ⟨g5, 2, none⟩ = false := BX.out.frozen (i := 0) rfl 2; have q3_0 : World.cell? _ ⟨g3, 0, none⟩ = some (.slice A1 l1.length c1) := BX.out.cell (i := 1) rfl (j := 0) rfl; have f3_0 : World.frozen? _ ⟨g3, 0, none⟩ = false := BX.out.frozen (i := 1) rfl 0; have q2_0 : World.cell? _ ⟨g2, 0, none⟩ = some (.int .i64 a0_0) := BX.out.cell (i := 2) rfl (j := 0) rfl; have f2_0 : World.frozen? _ ⟨g2, 0, none⟩ = false := BX.out.frozen (i := 2) rfl 0; have q2_1 : World.cell? _ ⟨g2, 1, none⟩ = some (.int .i64 a0_1) := BX.out.cell (i := 2) rfl (j := 1) rfl; have f2_1 : World.frozen? _ ⟨g2, 1, none⟩ = false := BX.out.frozen (i := 2) rfl 1; have q2_2 : World.cell? _ ⟨g2, 2, none⟩ = some (.int .i64 a0_2) := BX.out.cell (i := 2) rfl (j := 2) rfl; have f2_2 : World.frozen? _ ⟨g2, 2, none⟩ = false := BX.out.frozen (i := 2) rfl 2; have q2_3 : World.cell? _ ⟨g2, 3, none⟩ = some (.int .i64 a0_3) := BX.out.cell (i := 2) rfl (j := 3) rfl; have f2_3 : World.frozen? _ ⟨g2, 3, none⟩ = false := BX.out.frozen (i := 2) rfl 3) | (go_at_call 39; first | ((with_reducible refine (impl_in.calls a0_0 1 7 _ _ H1.out).mono ?_); rintro e w' ⟨rfl, ⟨nd, rfl⟩⟩) | ((with_reducible refine (impl_in.calls a0_3 0 9999 _ _ H3.out).mono ?_); rintro e w' ⟨rfl, ⟨nd2, rfl⟩⟩)) | (go_at_call 78; refine (impl_namesOf.calls 9 a0_0 _ _ _ _ H2.out).mono ?_; rintro e w12_ ⟨rfl, hb⟩; have BY := Aside0.mk (Boxes.below (w0 := w) (bs := [(g3, #[.slice A1 l1.length c1], 37), (g2, #[.int .i64 a0_0, .int .i64 a0_1, .int .i64 a0_2, .int .i64 a0_3], 66)]) (by (with_reducible repeat (first | refine Boxes.drewN ?_ _ | refine Boxes.drew ?_ | refine Boxes.alloc ?_ _)); exact BX.out) hb); clear BX hb; have BX := BY; clear BY; clear q3_0 f3_0 q2_0 f2_0 q2_1 f2_1 q2_2 f2_2 q2_3 f2_3; have q3_0 : World.cell? _ ⟨g3, 0, none⟩ = some (.slice A1 l1.length c1) := BX.out.cell (i := 0) rfl (j := 0) rfl; have f3_0 : World.frozen? _ ⟨g3, 0, none⟩ = false := BX.out.frozen (i := 0) rfl 0; have q2_0 : World.cell? _ ⟨g2, 0, none⟩ = some (.int .i64 a0_0) := BX.out.cell (i := 1) rfl (j := 0) rfl; have f2_0 : World.frozen? _ ⟨g2, 0, none⟩ = false := BX.out.frozen (i := 1) rfl 0; have q2_1 : World.cell? _ ⟨g2, 1, none⟩ = some (.int .i64 a0_1) := BX.out.cell (i := 1) rfl (j := 1) rfl; have f2_1 : World.frozen? _ ⟨g2, 1, none⟩ = false := BX.out.frozen (i := 1) rfl 1; have q2_2 : World.cell? _ ⟨g2, 2, none⟩ = some (.int .i64 a0_2) := BX.out.cell (i := 1) rfl (j := 2) rfl; have f2_2 : World.frozen? _ ⟨g2, 2, none⟩ = false := BX.out.frozen (i := 1) rfl 2; have q2_3 : World.cell? _ ⟨g2, 3, none⟩ = some (.int .i64 a0_3) := BX.out.cell (i := 1) rfl (j := 3) rfl; have f2_3 : World.frozen? _ ⟨g2, 3, none⟩ = false := BX.out.frozen (i := 1) rfl 3) | ((with_reducible refine gate_store (t := 106) (p := 5) rfl ?_); refine boxes_store (w0 := w) (bs := [(g5, #[.bool xa_, .bool xb_, .bool xn_], 106), (g3, #[.slice A1 l1.length c1], 37), (g2, #[.int .i64 a0_0, .int .i64 a0_1, .int .i64 a0_2, .int .i64 a0_3], 66)]) (W1 := ((World.setCell w5_ ⟨g5, 0, none⟩ (.bool xa_)).setCell ⟨g5, 1, none⟩ (.bool xb_)).setCell ⟨g5, 2, none⟩ (.bool xn_)) rfl rfl rfl ?hr (((Boxes.put (w0 := w) (b1 := []) (b2 := [(g3, #[.slice A1 l1.length c1], 37), (g2, #[.int .i64 a0_0, .int .i64 a0_1, .int .i64 a0_2, .int .i64 a0_3], 66)]) (g := g5) (cs := #[.bool false, .bool false, .bool false]) (t := 106) BX.out 0 (.bool xa_)).put (b1 := []) 1 (.bool xb_)).put (b1 := []) 2 (.bool xn_)) ?_; (case hr => first | (go_simp; done) | (go_simp; rfl)); intro w13_ BY; have BY := Aside0.mk BY; clear BX; have BX := BY; clear BY; clear q5_0 f5_0 q5_1 f5_1 q5_2 f5_2 q3_0 f3_0 q2_0 f2_0 q2_1 f2_1 q2_2 f2_2 q2_3 f2_3; have q5_0 : World.cell? _ ⟨g5, 0, none⟩ = some (.bool xa_) := BX.out.cell (i := 0) rfl (j := 0) rfl; have f5_0 : World.frozen? _ ⟨g5, 0, none⟩ = false := BX.out.frozen (i := 0) rfl 0; have q5_1 : World.cell? _ ⟨g5, 1, none⟩ = some (.bool xb_) := BX.out.cell (i := 0) rfl (j := 1) rfl; have f5_1 : World.frozen? _ ⟨g5, 1, none⟩ = false := BX.out.frozen (i := 0) rfl 1; have q5_2 : World.cell? _ ⟨g5, 2, none⟩ = some (.bool xn_) := BX.out.cell (i := 0) rfl (j := 2) rfl; have f5_2 : World.frozen? _ ⟨g5, 2, none⟩ = false := BX.out.frozen (i := 0) rfl 2; have q3_0 : World.cell? _ ⟨g3, 0, none⟩ = some (.slice A1 l1.length c1) := BX.out.cell (i := 1) rfl (j := 0) rfl; have f3_0 : World.frozen? _ ⟨g3, 0, none⟩ = false := BX.out.frozen (i := 1) rfl 0; have q2_0 : World.cell? _ ⟨g2, 0, none⟩ = some (.int .i64 a0_0) := BX.out.cell (i := 2) rfl (j := 0) rfl; have f2_0 : World.frozen? _ ⟨g2, 0, none⟩ = false := BX.out.frozen (i := 2) rfl 0; have q2_1 : World.cell? _ ⟨g2, 1, none⟩ = some (.int .i64 a0_1) := BX.out.cell (i := 2) rfl (j := 1) rfl; have f2_1 : World.frozen? _ ⟨g2, 1, none⟩ = false := BX.out.frozen (i := 2) rfl 1; have q2_2 : World.cell? _ ⟨g2, 2, none⟩ = some (.int .i64 a0_2) := BX.out.cell (i := 2) rfl (j := 2) rfl; have f2_2 : World.frozen? _ ⟨g2, 2, none⟩ = false := BX.out.frozen (i := 2) rfl 2; have q2_3 : World.cell? _ ⟨g2, 3, none⟩ = some (.int .i64 a0_3) := BX.out.cell (i := 2) rfl (j := 3) rfl; have f2_3 : World.frozen? _ ⟨g2, 3, none⟩ = false := BX.out.frozen (i := 2) rfl 3) | (go_at_call 59; refine (impl_Term_parts.calls 9 a0_0 a0_1 a0_2 a0_3 _ _ H4.out).mono ?_; rintro e w47_ ⟨pv, rfl, hR, hb⟩; obtain ⟨pA, pc, rfl, _, hC⟩ := Kd.R_reads hR; have HC := Aside0.mk hC; clear hC hR; have BY := Aside0.mk (Boxes.below (w0 := w) (bs := [(g5, #[.bool xa_, .bool xb_, .bool xn_], 106), (g3, #[.slice A1 l1.length c1], 37), (g2, #[.int .i64 a0_0, .int .i64 a0_1, .int .i64 a0_2, .int .i64 a0_3], 66)]) (by (with_reducible repeat (first | refine Boxes.drewN ?_ _ | refine Boxes.drew ?_ | refine Boxes.alloc ?_ _)); exact BX.out) hb); clear BX hb; have BX := BY; clear BY; clear q5_0 f5_0 q5_1 f5_1 q5_2 f5_2 q3_0 f3_0 q2_0 f2_0 q2_1 f2_1 q2_2 f2_2 q2_3 f2_3; have q5_0 : World.cell? _ ⟨g5, 0, none⟩ = some (.bool xa_) := BX.out.cell (i := 0) rfl (j := 0) rfl; have f5_0 : World.frozen? _ ⟨g5, 0, none⟩ = false := BX.out.frozen (i := 0) rfl 0; have q5_1 : World.cell? _ ⟨g5, 1, none⟩ = some (.bool xb_) := BX.out.cell (i := 0) rfl (j := 1) rfl; have f5_1 : World.frozen? _ ⟨g5, 1, none⟩ = false := BX.out.frozen (i := 0) rfl 1; have q5_2 : World.cell? _ ⟨g5, 2, none⟩ = some (.bool xn_) := BX.out.cell (i := 0) rfl (j := 2) rfl; have f5_2 : World.frozen? _ ⟨g5, 2, none⟩ = false := BX.out.frozen (i := 0) rfl 2; have q3_0 : World.cell? _ ⟨g3, 0, none⟩ = some (.slice A1 l1.length c1) := BX.out.cell (i := 1) rfl (j := 0) rfl; have f3_0 : World.frozen? _ ⟨g3, 0, none⟩ = false := BX.out.frozen (i := 1) rfl 0; have q2_0 : World.cell? _ ⟨g2, 0, none⟩ = some (.int .i64 a0_0) := BX.out.cell (i := 2) rfl (j := 0) rfl; have f2_0 : World.frozen? _ ⟨g2, 0, none⟩ = false := BX.out.frozen (i := 2) rfl 0; have q2_1 : World.cell? _ ⟨g2, 1, none⟩ = some (.int .i64 a0_1) := BX.out.cell (i := 2) rfl (j := 1) rfl; have f2_1 : World.frozen? _ ⟨g2, 1, none⟩ = false := BX.out.frozen (i := 2) rfl 1; have q2_2 : World.cell? _ ⟨g2, 2, none⟩ = some (.int .i64 a0_2) := BX.out.cell (i := 2) rfl (j := 2) rfl; have f2_2 : World.frozen? _ ⟨g2, 2, none⟩ = false := BX.out.frozen (i := 2) rfl 2; have q2_3 : World.cell? _ ⟨g2, 3, none⟩ = some (.int .i64 a0_3) := BX.out.cell (i := 2) rfl (j := 3) rfl; have f2_3 : World.frozen? _ ⟨g2, 3, none⟩ = false := BX.out.frozen (i := 2) rfl 3) | (go_at_call 56; refine (ContainsFuncI.calls pA pc ps_ 82 #[.pointer (some ⟨g3, 0, none⟩)] (impl_Term_fault.p1 l1) _ _ eg1 HC.out (fun x b W hx hb2 => impl_Term_fault_lit1.calls A1 c1 l1 x b g3 _ W (BX.out.lt (i := 1) rfl) (BX.out.cell (i := 1) rfl (j := 0) rfl) (Kd.C_below HR1.out BX.out.low) hc1 hb2 hx) H5.out).mono ?_; rintro e w49_ ⟨rfl, hb⟩; clear HC; have BY := Aside0.mk (Boxes.below (w0 := w) (bs := [(g5, #[.bool xa_, .bool xb_, .bool xn_], 106), (g3, #[.slice A1 l1.length c1], 37), (g2, #[.int .i64 a0_0, .int .i64 a0_1, .int .i64 a0_2, .int .i64 a0_3], 66)]) (by (with_reducible repeat (first | refine Boxes.drewN ?_ _ | refine Boxes.drew ?_ | refine Boxes.alloc ?_ _)); exact BX.out) hb); clear BX hb; have BX := BY; clear BY; clear q5_0 f5_0 q5_1 f5_1 q5_2 f5_2 q3_0 f3_0 q2_0 f2_0 q2_1 f2_1 q2_2 f2_2 q2_3 f2_3; have q5_0 : World.cell? _ ⟨g5, 0, none⟩ = some (.bool xa_) := BX.out.cell (i := 0) rfl (j := 0) rfl; have f5_0 : World.frozen? _ ⟨g5, 0, none⟩ = false := BX.out.frozen (i := 0) rfl 0; have q5_1 : World.cell? _ ⟨g5, 1, none⟩ = some (.bool xb_) := BX.out.cell (i := 0) rfl (j := 1) rfl; have f5_1 : World.frozen? _ ⟨g5, 1, none⟩ = false := BX.out.frozen (i := 0) rfl 1; have q5_2 : World.cell? _ ⟨g5, 2, none⟩ = some (.bool xn_) := BX.out.cell (i := 0) rfl (j := 2) rfl; have f5_2 : World.frozen? _ ⟨g5, 2, none⟩ = false := BX.out.frozen (i := 0) rfl 2; have q3_0 : World.cell? _ ⟨g3, 0, none⟩ = some (.slice A1 l1.length c1) := BX.out.cell (i := 1) rfl (j := 0) rfl; have f3_0 : World.frozen? _ ⟨g3, 0, none⟩ = false := BX.out.frozen (i := 1) rfl 0; have q2_0 : World.cell? _ ⟨g2, 0, none⟩ = some (.int .i64 a0_0) := BX.out.cell (i := 2) rfl (j := 0) rfl; have f2_0 : World.frozen? _ ⟨g2, 0, none⟩ = false := BX.out.frozen (i := 2) rfl 0; have q2_1 : World.cell? _ ⟨g2, 1, none⟩ = some (.int .i64 a0_1) := BX.out.cell (i := 2) rfl (j := 1) rfl; have f2_1 : World.frozen? _ ⟨g2, 1, none⟩ = false := BX.out.frozen (i := 2) rfl 1; have q2_2 : World.cell? _ ⟨g2, 2, none⟩ = some (.int .i64 a0_2) := BX.out.cell (i := 2) rfl (j := 2) rfl; have f2_2 : World.frozen? _ ⟨g2, 2, none⟩ = false := BX.out.frozen (i := 2) rfl 2; have q2_3 : World.cell? _ ⟨g2, 3, none⟩ = some (.int .i64 a0_3) := BX.out.cell (i := 2) rfl (j := 3) rfl; have f2_3 : World.frozen? _ ⟨g2, 3, none⟩ = false := BX.out.frozen (i := 2) rfl 3) | (go_at_call 56; refine (ContainsFuncI.calls pA pc ps_ 83 #[.pointer (some ⟨g3, 0, none⟩)] (impl_Term_fault.p2 l1) _ _ eg2 HC.out (fun x b W hx hb2 => impl_Term_fault_lit2.calls A1 c1 l1 x b g3 _ W (BX.out.lt (i := 1) rfl) (BX.out.cell (i := 1) rfl (j := 0) rfl) (Kd.C_below HR1.out BX.out.low) hc1 hb2 hx) (H6.out (Int.not_le.mp (of_decide_eq_false ci)))).mono ?_; rintro e w49_ ⟨rfl, hb⟩; clear HC; have BY := Aside0.mk (Boxes.below (w0 := w) (bs := [(g5, #[.bool xa_, .bool xb_, .bool xn_], 106), (g3, #[.slice A1 l1.length c1], 37), (g2, #[.int .i64 a0_0, .int .i64 a0_1, .int .i64 a0_2, .int .i64 a0_3], 66)]) (by (with_reducible repeat (first | refine Boxes.drewN ?_ _ | refine Boxes.drew ?_ | refine Boxes.alloc ?_ _)); exact BX.out) hb); clear BX hb; have BX := BY; clear BY; clear q5_0 f5_0 q5_1 f5_1 q5_2 f5_2 q3_0 f3_0 q2_0 f2_0 q2_1 f2_1 q2_2 f2_2 q2_3 f2_3; have q5_0 : World.cell? _ ⟨g5, 0, none⟩ = some (.bool xa_) := BX.out.cell (i := 0) rfl (j := 0) rfl; have f5_0 : World.frozen? _ ⟨g5, 0, none⟩ = false := BX.out.frozen (i := 0) rfl 0; have q5_1 : World.cell? _ ⟨g5, 1, none⟩ = some (.bool xb_) := BX.out.cell (i := 0) rfl (j := 1) rfl; have f5_1 : World.frozen? _ ⟨g5, 1, none⟩ = false := BX.out.frozen (i := 0) rfl 1; have q5_2 : World.cell? _ ⟨g5, 2, none⟩ = some (.bool xn_) := BX.out.cell (i := 0) rfl (j := 2) rfl; have f5_2 : World.frozen? _ ⟨g5, 2, none⟩ = false := BX.out.frozen (i := 0) rfl 2; have q3_0 : World.cell? _ ⟨g3, 0, none⟩ = some (.slice A1 l1.length c1) := BX.out.cell (i := 1) rfl (j := 0) rfl; have f3_0 : World.frozen? _ ⟨g3, 0, none⟩ = false := BX.out.frozen (i := 1) rfl 0; have q2_0 : World.cell? _ ⟨g2, 0, none⟩ = some (.int .i64 a0_0) := BX.out.cell (i := 2) rfl (j := 0) rfl; have f2_0 : World.frozen? _ ⟨g2, 0, none⟩ = false := BX.out.frozen (i := 2) rfl 0; have q2_1 : World.cell? _ ⟨g2, 1, none⟩ = some (.int .i64 a0_1) := BX.out.cell (i := 2) rfl (j := 1) rfl; have f2_1 : World.frozen? _ ⟨g2, 1, none⟩ = false := BX.out.frozen (i := 2) rfl 1; have q2_2 : World.cell? _ ⟨g2, 2, none⟩ = some (.int .i64 a0_2) := BX.out.cell (i := 2) rfl (j := 2) rfl; have f2_2 : World.frozen? _ ⟨g2, 2, none⟩ = false := BX.out.frozen (i := 2) rfl 2; have q2_3 : World.cell? _ ⟨g2, 3, none⟩ = some (.int .i64 a0_3) := BX.out.cell (i := 2) rfl (j := 3) rfl; have f2_3 : World.frozen? _ ⟨g2, 3, none⟩ = false := BX.out.frozen (i := 2) rfl 3) | fail)
    go_ret
    refine ⟨congrArg (fun z => Ending.returned (Value.int .i64 z)) ?_, (Boxes.low (w0 := w) (bs := [(g5, #[.bool xa_, .bool xb_, .bool xn_], 106), (g3, #[.slice A1 l1.length c1], 37), (g2, #[.int .i64 a0_0, .int .i64 a0_1, .int .i64 a0_2, .int .i64 a0_3], 66)]) (by (with_reducible repeat (first | refine Boxes.drewN ?_ _ | refine Boxes.drew ?_ | refine Boxes.alloc ?_ _)); exact BX.out))⟩
    rw [← HV.out]
    simp only [impl_Term_fault.r]
    clear HV BX HR1 H1 H2 H3 H4 H5 eg1 eg2 hu1 hu2 hu3
    simp_all
    try ((repeat' split) <;> omega))
set_option maxRecDepth 100000 in
theorem impl_Term_fault.calls (a0_0 : Int) (a0_1 : Int) (a0_2 : Int) (a0_3 : Int) (A1 : Option Addr) (c1 : Nat) (l1 : List S66) (r : Int) (w : World) (hr1 : Kd.C k66 w A1 l1.length l1) (hc1 : l1.length ≤ c1) (h : impl_Term_fault.f a0_0 a0_1 a0_2 a0_3 l1 = some r) :
    Calls Tryd.prog 76 #[.agg #[.int .i64 a0_0, .int .i64 a0_1, .int .i64 a0_2, .int .i64 a0_3], .slice A1 l1.length c1] w fun e w' => e = .returned (.int .i64 r) ∧ Below w.heap.size w w' := by
  have eg1 : ∀ args w, (callFunc 82 args).run Tryd.prog w = .ok (.enter 82 args) w := Go.Proofs.enters_of Tryd.func82 (by kernel_rfl) rfl
  have eg2 : ∀ args w, (callFunc 83 args).run Tryd.prog w = .ok (.enter 83 args) w := Go.Proofs.enters_of Tryd.func83 (by kernel_rfl) rfl
  unfold impl_Term_fault.f at h
  obtain ⟨b1_, h1, h⟩ := Option.bind_eq_some_iff.mp h
  obtain ⟨⟨xa_, xb_, xn_⟩, h2, h⟩ := Option.bind_eq_some_iff.mp h
  obtain ⟨b2_, h3, h⟩ := Option.bind_eq_some_iff.mp h
  obtain ⟨ps_, h4, h⟩ := Option.bind_eq_some_iff.mp h
  obtain ⟨i_, h5, h⟩ := Option.bind_eq_some_iff.mp h
  obtain ⟨j_, h6, h⟩ := Option.bind_eq_some_iff.mp h
  have HV := Aside0.mk (Option.some.inj h)
  have H1 := Aside0.mk h1
  have H2 := Aside0.mk h2
  have H3 := Aside0.mk h3
  have H4 := Aside0.mk h4
  have H5 := Aside0.mk h5
  have H6 : Aside0 (i_ < 0 → idxO (impl_Term_fault.p2 l1) ps_ 0 = some j_) := ⟨fun hi => by rw [if_neg (by omega)] at h6; exact h6⟩
  have HR1 := Aside0.mk hr1
  rcases Bool.eq_false_or_eq_true b1_ with vb1 | vb1
  · have hn : ((xa_ = false ∧ xb_ = false ∧ xn_ = true) ∧ (a0_0 != 6) = true ∧ (a0_0 != 7) = true) ∨ ((xa_ = true ∧ xb_ = false ∧ xn_ = false) ∧ (a0_0 != 6) = false ∧ (a0_0 == 7) = false) ∨ ((xa_ = true ∧ xb_ = true ∧ xn_ = false) ∧ (a0_0 != 6) = true ∧ (a0_0 == 7) = !(a0_0 != 7)) := by
      have h := h2
      unfold impl_namesOf.f at h
      by_cases q1 : a0_0 = 1
      · rw [if_pos q1, impl_namesOf.j0, if_pos (by simp [q1])] at h
        simp only [Option.some.injEq, Prod.mk.injEq] at h
        exact .inl ⟨⟨h.1.symm, h.2.1.symm, h.2.2.symm⟩, by simp [q1], by simp [q1]⟩
      · rw [if_neg q1] at h
        by_cases q2 : a0_0 = 2
        · rw [impl_namesOf.j0, if_pos (by simp [q2])] at h
          simp only [Option.some.injEq, Prod.mk.injEq] at h
          exact .inl ⟨⟨h.1.symm, h.2.1.symm, h.2.2.symm⟩, by simp [q2], by simp [q2]⟩
        · rw [impl_namesOf.j0, if_neg (by simp [q2])] at h
          by_cases q6 : a0_0 = 6
          · rw [if_pos q6] at h
            simp only [Option.some.injEq, Prod.mk.injEq] at h
            exact .inr (.inl ⟨⟨h.1.symm, h.2.1.symm, h.2.2.symm⟩, by simp [q6], by simp [q6]⟩)
          · rw [if_neg q6] at h
            simp only [Option.some.injEq, Prod.mk.injEq] at h
            exact .inr (.inr ⟨⟨h.1.symm, h.2.1.symm, h.2.2.symm⟩, by simp [q6], by simp [bne]⟩)
    rcases hn with ⟨⟨ea, eb, en⟩, o6, o7⟩ | ⟨⟨ea, eb, en⟩, o6, e7⟩ | ⟨⟨ea, eb, en⟩, o6, e7⟩
    · exact impl_Term_fault_n a0_0 a0_1 a0_2 a0_3 A1 c1 l1 xa_ xb_ xn_ b1_ b2_ ps_ i_ j_ r w hc1 HR1 eg1 eg2 H1 H2 H3 H4 H5 H6 HV vb1 ea eb en o6 o7
    · exact impl_Term_fault_h a0_0 a0_1 a0_2 a0_3 A1 c1 l1 xa_ xb_ xn_ b1_ b2_ ps_ i_ j_ r w hc1 HR1 eg1 eg2 H1 H2 H3 H4 H5 H6 HV vb1 ea eb en o6 e7
    · exact impl_Term_fault_p a0_0 a0_1 a0_2 a0_3 A1 c1 l1 xa_ xb_ xn_ b1_ b2_ ps_ i_ j_ r w hc1 HR1 eg1 eg2 H1 H2 H3 H4 H5 H6 HV vb1 ea eb en o6 e7
  · exact impl_Term_fault_b a0_0 a0_1 a0_2 a0_3 A1 c1 l1 xa_ xb_ xn_ b1_ b2_ ps_ i_ j_ r w hc1 HR1 eg1 eg2 H1 H2 H3 H4 H5 H6 HV vb1

/-! ### (my own text) mapWords -/
-- a map of bools that the call itself made and in which only 'true' is stored: which keys are in it (S, over the keys' own type; enc: a key as a Go value)
def ownsSet {α : Type} (P : Program) (w : World) (k e : TypeId) (enc : α → Value) (b n : Nat) (S : α → Bool) : Prop :=
  ∃ D : DataW Unit, w.ownsMap P k (plainElem P e) b n D ∧ Go.Maps.IsMap D ∧ ∀ x kl, keyOf P k (enc x) = some kl → D.atKey kl (.lit (.bool false)) = .lit (.bool (S x))
theorem ownsSet_made {α : Type} (P : Program) (w : World) (k e : TypeId) (enc : α → Value) : ownsSet P (w.alloc (.map #[] 0)) k e enc w.heap.size 0 (fun _ => false) :=
  ⟨.map [], World.ownsMap_made w P k _, ⟨[], rfl⟩, fun _ _ _ => rfl⟩
theorem ownsSet.lt {α : Type} {P : Program} {w : World} {k e : TypeId} {enc : α → Value} {b n : Nat} {S : α → Bool} (h : ownsSet P w k e enc b n S) : b < w.heap.size := by
  obtain ⟨D, h1, _⟩ := h
  exact h1.lt
theorem ownsSet.grown {α : Type} {P : Program} {w w' : World} {k e : TypeId} {enc : α → Value} {b n : Nat} {S : α → Bool} {row : Option Nat} (h : ownsSet P w k e enc b n S) (hg : w.grownBy w' row) (hne : some b ≠ row) : ownsSet P w' k e enc b n S := by
  obtain ⟨D, h1, h2, h3⟩ := h
  exact ⟨D, h1.kept hg hne, h2, h3⟩
theorem ownsSet.below {α : Type} {P : Program} {w w' : World} {k e : TypeId} {enc : α → Value} {b n : Nat} {S : α → Bool} (h : ownsSet P w k e enc b n S) (hb : Below w.heap.size w w') : ownsSet P w' k e enc b n S :=
  h.grown (grown_of_below hb none) (by simp)
theorem ownsSet.alloc {α : Type} {P : Program} {w : World} {k e : TypeId} {enc : α → Value} {b n : Nat} {S : α → Bool} (h : ownsSet P w k e enc b n S) (o : Obj) : ownsSet P (w.alloc o) k e enc b n S :=
  h.grown (World.grownBy_alloc w o none) (by simp)
theorem plainElem_bool_inv {H : Type} {P : Program} {e : TypeId} (he : P.underlying e = some .bool) {v : Value} {z : DataW H × List MemPlace} (h : plainElem P e v = some z) : ∃ x, v = .bool x ∧ z = (.lit (.bool x), []) := by
  unfold plainElem at h
  rw [he] at h
  cases v <;> simp at h
  exact ⟨_, rfl, h.symm⟩
theorem ownsSet.look {α : Type} {P : Program} {w : World} {t k e : TypeId} {enc : α → Value} {b n : Nat} {S : α → Bool} (h : ownsSet P w k e enc b n S) (K : Go.Maps.Keyed P k) (ht : P.underlying t = some (.map k e)) (he : P.underlying e = some .bool)
    (hz : (zeroValue e).run P w = .ok (.bool false) w) {x : α} {kl : Lit} (hkey : keyOf P k (enc x) = some kl) : (Instr.lookup t (.map (some b)) (enc x) false).run P w = .ok (.bool (S x)) w := by
  obtain ⟨D, h1, _, h3⟩ := h
  obtain ⟨v, ps, hrun, hv⟩ := h1.lookup K ht hz (plainElem_bool he false) hkey
  obtain ⟨y, rfl, hy⟩ := plainElem_bool_inv he hv
  have := h3 x kl hkey
  rw [this] at hy
  simp only [Prod.mk.injEq, DataW.lit.injEq, Lit.bool.injEq] at hy
  rw [hrun, hy.1]
theorem wpList_lookup_set {α : Type} {P : Program} {w : World} {ops : Array Oper} {rest : List Oper} {o : Oper} {a : Act} {Q : Exit → Act → World → Prop}
    (hg : o.guard = none) (m x : Operand) (t : TypeId) (hop : o.op = Op.lookup t m x false)
    (k e : TypeId) (K : Go.Maps.Keyed P k) (ht : P.underlying t = some (.map k e)) (he : P.underlying e = some .bool) (hz : (zeroValue e).run P w = .ok (.bool false) w) {enc : α → Value} {b n : Nat} {S : α → Bool}
    (hown : ownsSet P w k e enc b n S) (hm : a.eval m = .map (some b)) (key : α) {kl : Lit} (hx : a.eval x = enc key) (hkey : keyOf P k (enc key) = some kl) {s : Bool} (hS : S key = s)
    (hK : wpList P ops Q rest (a.put o.dst (.bool s)) w) :
    wpList P ops Q (o :: rest) a w := by
  refine wpList_plain hg fun K' hK' => ?_
  have hrun := hown.look K ht he hz hkey
  rw [hS] at hrun
  unfold Oper.wp
  simp [execOp, hop, hm, hx, hrun, Result.andThen]
  exact hK' _ _ hK
theorem ownsSet.put {α : Type} [DecidableEq α] {P : Program} {w' : World} {k e : TypeId} {enc : α → Value} (hinj : ∀ x y, enc x = enc y → x = y) {b n : Nat} {S : α → Bool} {D : DataW Unit} (K : Go.Maps.Keyed P k) (h2 : Go.Maps.IsMap D)
    (h3 : ∀ x kl, keyOf P k (enc x) = some kl → D.atKey kl (.lit (.bool false)) = .lit (.bool (S x))) {key : α} {kl : Lit} (hkey : keyOf P k (enc key) = some kl) (hw : w'.ownsMap P k (plainElem P e) b (n + 1) (D.put kl (.lit (.bool true)))) :
    ownsSet P w' k e enc b (n + 1) (fun x => S x || decide (x = key)) := by
  refine ⟨_, hw, ?_, fun x kx hx => ?_⟩
  · obtain ⟨es, rfl⟩ := h2
    exact ⟨_, rfl⟩
  · by_cases hk : kx = kl
    · subst hk
      have := hinj _ _ (K.inj hx hkey)
      subst this
      rw [Go.Maps.atKey_put_same h2 (K.key hkey)]
      simp
    · have hne : x ≠ key := fun e1 => hk (by rw [e1, hkey] at hx; exact (Option.some.inj hx).symm)
      rw [Go.Maps.atKey_put_other hk, h3 x kx hx]
      simp [hne]
theorem wpList_update_set {α : Type} [DecidableEq α] {P : Program} {w : World} {ops : Array Oper} {rest : List Oper} {o : Oper} {a : Act} {Q : Exit → Act → World → Prop}
    (hg : o.guard = none) (m x v : Operand) (t : TypeId) (hop : o.op = Op.mapUpdate t m x v)
    (k e : TypeId) (K : Go.Maps.Keyed P k) (ht : P.underlying t = some (.map k e)) (he : P.underlying e = some .bool) {enc : α → Value} (hinj : ∀ x y, enc x = enc y → x = y) {b n : Nat} {S : α → Bool}
    (hown : ownsSet P w k e enc b n S) (hn : n < maxLen) (hm : a.eval m = .map (some b)) (key : α) {kl : Lit} (hx : a.eval x = enc key) (hv : a.eval v = .bool true) (hkey : keyOf P k (enc key) = some kl)
    (hK : ∀ w', ownsSet P w' k e enc b (n + 1) (fun x => S x || decide (x = key)) → w.grownBy w' (some b) → wpList P ops Q rest (a.put o.dst undef) w') :
    wpList P ops Q (o :: rest) a w := by
  obtain ⟨D, h1, h2, h3⟩ := hown
  exact wpList_mapUpdate_own w hg m x v t hop k e K ht _ b n D hm h1 hn (enc key) (.bool true) kl hx hv hkey (.lit (.bool true)) [] (plainElem_bool he true) (fun w' r1 r2 => hK w' (ownsSet.put hinj K h2 h3 hkey r1) r2)

/-! ### (my own text) termKey -/
def encT (x : S66) : Value := .agg #[.int .i64 x.f0, .int .i64 x.f1, .int .i64 x.f2, .int .i64 x.f3]
def eqT (x y : S66) : Bool := decide (x.f0 = y.f0 ∧ x.f1 = y.f1 ∧ x.f2 = y.f2 ∧ x.f3 = y.f3)
def okI (x : Int) : Bool := decide (-9223372036854775808 ≤ x ∧ x ≤ 9223372036854775807)
def okT (x : S66) : Bool := okI x.f0 && (okI x.f1 && (okI x.f2 && okI x.f3))
theorem okI_wf {x : Int} (h : okI x = true) : (Lit.int .i64 x).wf = true := by
  have h := of_decide_eq_true h
  simp [Lit.wf, IntKind.min, IntKind.max, IntKind.signed, IntKind.bits]
  omega
theorem encT_inj (x y : S66) (h : encT x = encT y) : x = y := by
  cases x
  cases y
  simpa [encT] using h
instance decT : DecidableEq S66 := fun x y => decidable_of_iff (x.f0 = y.f0 ∧ x.f1 = y.f1 ∧ x.f2 = y.f2 ∧ x.f3 = y.f3) (by cases x; cases y; simp)
theorem eqT_dec (x y : S66) : eqT x y = decide (x = y) := by
  cases x
  cases y
  simp [eqT]
theorem laidOut_ : laidOutB Tryd.prog = true := by kernel_rfl
theorem rowT : 66 < Tryd.prog.types.size := by decide +kernel
theorem wideT : (match Tryd.prog.underlying 66 with | some (.array _ _) | some (.struct _) => true | _ => false) = true := by kernel_rfl
theorem keyTT : Tryd.prog.keyTypeAt 2 66 = true := by kernel_rfl
set_option maxRecDepth 100000 in
theorem keyTT' : Tryd.prog.keyType 66 = true := by kernel_rfl
set_option maxRecDepth 100000 in
theorem keyedT : Go.Maps.Keyed Tryd.prog 66 := Go.Maps.Keyed.of_law (deep_law_laid laidOut_ (m := 2) (by omega) rowT keyTT wideT)
theorem keyOfT (x : S66) (h : okT x = true) : ∃ kl, keyOf Tryd.prog 66 (encT x) = some kl := by
  unfold okT at h
  simp only [Bool.and_eq_true] at h
  obtain ⟨h0, h1, h2, h3⟩ := h
  have w0 := okI_wf h0
  have w1 := okI_wf h1
  have w2 := okI_wf h2
  have w3 := okI_wf h3
  have hk := keyTT'
  have hu := Tryd.underlying66
  have hu2 := Tryd.underlying2
  have hc : Tryd.prog.cellsOf 66 = 4 := by kernel_rfl
  have hc2 : Tryd.prog.cellsOf 2 = 1 := by kernel_rfl
  obtain ⟨m, hm⟩ : ∃ m, Tryd.prog.types.size + 1 = m + 2 := ⟨Tryd.prog.types.size - 1, by have := rowT; omega⟩
  have one : ∀ a : Int, (Lit.int .i64 a).wf = true → Tryd.prog.keyLits (m + 1) 2 [.int .i64 a] = some [.int .i64 a] := by
    intro a ha
    unfold Program.keyLits
    rw [hu2]
    simp [ha]
  have hl : Tryd.prog.keyLits (m + 2) 66 [.int .i64 x.f0, .int .i64 x.f1, .int .i64 x.f2, .int .i64 x.f3] = some [.int .i64 x.f0, .int .i64 x.f1, .int .i64 x.f2, .int .i64 x.f3] := by
    unfold Program.keyLits
    rw [hu]
    dsimp only
    rw [if_pos ⟨by rw [hc]; rfl, by simp⟩]
    simp [hc2, List.mapM_cons, one _ w0, one _ w1, one _ w2, one _ w3]
  unfold keyOf
  simp only [hu]
  rw [if_pos (by simp [hk, Value.formed, hu, hc, encT]), hm]
  have he : (encT x).cells.toList = [.int .i64 x.f0, .int .i64 x.f1, .int .i64 x.f2, .int .i64 x.f3] := rfl
  rw [he, hl]
  exact ⟨_, rfl⟩

end Go.Proofs.YtbficbiignpnoaaDoor.PFnExactTermText
