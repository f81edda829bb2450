-- Written by wip/tools/myprint.py of this claim's session, over the kit's print, round texts of its own: own text.
import Derived.Test.YteelmjkoncomiaaPFnExactTrimPolicyx0
import Derived.Test.YteelmjkoncomiaaPFnExactTrimPolicyx2
namespace Go.Proofs.Yteelmjkoncomiaa.PFnExactTrimPolicy
open Go.RowKit Go.Proofs.YteelmjkoncomiaaW.PrintWords Go.Proofs.YteelmjkoncomiaaW.PrintLast Go.Proofs.YteelmjkoncomiaaW.PrintMore
attribute [local go_sem] max2_int min2_int max_two min_two max_three min_three max_four min_four   -- for this text's walks alone
set_option linter.unusedVariables false
set_option linter.unusedSimpArgs false

/-! ### laws_eqRuleS: function 47 -/
def laws_eqRuleS.l0 : Nat → List (S96) → List (S96) → Int → Option (Bool)
 | 0, _, _, _ => none
 | k + 1, x0, x1, x5 => if x5 < (x0.length : Int) then (if 0 ≤ x5 then (if x5 < (x1.length : Int) then ((laws_eqRule.f ((rd_T96 x0 x5).f0.f0.f0) ((rd_T96 x0 x5).f0.f0.f1) ((rd_T96 x0 x5).f0.f1.f0) ((rd_T96 x0 x5).f0.f1.f1) ((rd_T96 x0 x5).f0.f2.f0) ((rd_T96 x0 x5).f0.f2.f1) ((rd_T96 x0 x5).f0.f3.f0) ((rd_T96 x0 x5).f0.f3.f1) ((rd_T96 x0 x5).f0.f4) ((rd_T96 x0 x5).f1) ((rd_T96 x0 x5).f2) ((rd_T96 x1 x5).f0.f0.f0) ((rd_T96 x1 x5).f0.f0.f1) ((rd_T96 x1 x5).f0.f1.f0) ((rd_T96 x1 x5).f0.f1.f1) ((rd_T96 x1 x5).f0.f2.f0) ((rd_T96 x1 x5).f0.f2.f1) ((rd_T96 x1 x5).f0.f3.f0) ((rd_T96 x1 x5).f0.f3.f1) ((rd_T96 x1 x5).f0.f4) ((rd_T96 x1 x5).f1) ((rd_T96 x1 x5).f2)).bind fun t156 => (if t156 = true then (laws_eqRuleS.l0 k x0 x1 (wrap64 (x5 + 1))) else (some false))) else (none)) else (none)) else (some true)
def laws_eqRuleS.f (k : Nat) (l0 : List (S96)) (l1 : List (S96)) : Option (Bool) := if (l0.length : Int) = (l1.length : Int) then (laws_eqRuleS.l0 k l0 l1 0) else (some false)
theorem laws_eqRuleS.mono_l : ∀ k, (∀ y0 y1 y2, LeO (laws_eqRuleS.l0 k y0 y1 y2) (laws_eqRuleS.l0 (k + 1) y0 y1 y2))
 | 0 => fun _ _ _ r h => by simp [laws_eqRuleS.l0] at h
 | k + 1 => by
  have ih0 := laws_eqRuleS.mono_l k
  ·
   intro y0 y1 y2
   unfold laws_eqRuleS.l0
   repeat' first
   | (with_reducible exact ih0 _ _ _)
   | (with_reducible exact LeO.refl _)
   | (with_reducible exact LeO.none _)
   | (with_reducible refine LeO.ite ?_ ?_)
   | (with_reducible refine LeO.bind ?_ (fun _ => ?_))
   | exact ih0 _ _ _
   | exact LeO.none _
   | refine LeO.ite ?_ ?_
   | refine LeO.bind ?_ (fun _ => ?_)
theorem laws_eqRuleS.mono : ∀ a0 a1 k, LeO (laws_eqRuleS.f k a0 a1) (laws_eqRuleS.f (k + 1) a0 a1) := by
 intro a0 a1 k
 have ih0 := laws_eqRuleS.mono_l k
 unfold laws_eqRuleS.f
 repeat' first
   | (with_reducible exact ih0 _ _ _)
   | (with_reducible exact LeO.refl _)
   | (with_reducible exact LeO.none _)
   | (with_reducible refine LeO.ite ?_ ?_)
   | (with_reducible refine LeO.bind ?_ (fun _ => ?_))
   | exact ih0 _ _ _
   | exact LeO.none _
   | refine LeO.ite ?_ ?_
   | refine LeO.bind ?_ (fun _ => ?_)
def laws_eqRuleS.T6 : Bool × List (List Nat × List Nat) := (true, [([], []), ([], []), ([0, 1], [0, 1]), ([2], [2]), ([], []), ([], []), ([4, 5], [4, 5]), ([6], [6]), ([3, 7], [3, 7]), ([8], [8])])
def laws_eqRuleS.B6 : List Nat := [0, 0, 3, 7, 0, 0, 48, 112, 255, 511]
theorem laws_eqRuleS.tab6 : rtab .any (opsOf Try.f47 6) = laws_eqRuleS.T6 := by kernel_rfl
theorem laws_eqRuleS.bits6 : waitsOk laws_eqRuleS.T6.2 laws_eqRuleS.B6 = true := by kernel_rfl
set_option maxHeartbeats 8000000 in
set_option maxRecDepth 100000 in
theorem laws_eqRuleS.calls (k : Nat) (A0 : Option Addr) (c0 : Nat) (l0 : List (S96)) (A1 : Option Addr) (c1 : Nat) (l1 : List (S96)) (r : Bool) (w : World) (hr0 : Kd.C k96 w A0 l0.length l0) (hc0 : l0.length ≤ c0) (hr1 : Kd.C k96 w A1 l1.length l1) (hc1 : l1.length ≤ c1) (h : laws_eqRuleS.f k l0 l1 = some r) :
  Calls Try.prog 47 #[.slice A0 l0.length c0, .slice A1 l1.length c1] w fun e w' => e = .returned (.bool r) ∧ Below w.heap.size w w' := by
 have hu96 := Try.underlying96
 have HR0 := Aside0.mk hr0
 have HC0 := Aside0.mk hc0
 clear hr0 hc0
 have HR1 := Aside0.mk hr1
 have HC1 := Aside0.mk hc1
 clear hr1 hc1
 have HB := Aside0.mk (Below.refl w.heap.size w)
 have H : (if (l0.length : Int) = (l1.length : Int) then (laws_eqRuleS.l0 k l0 l1 0) else (some false)) = some r := h
 clear h
 by_cases c3 : (l0.length : Int) = (l1.length : Int)
 ·
  rw [if_pos c3] at H
  have c3b0 : ((l0.length : Int) == (l1.length : Int)) = true := beq_iff_eq.mpr c3
  have c3b1 : ((l0.length : Int) != (l1.length : Int)) = false := bne_eq_false_iff_eq.mpr c3
  have c3b2 : (l0.length == l1.length) = true := by first | simpa using c3 | (simp at c3 ⊢; omega)
  clear c3
  have H' := Aside0.mk H
  clear H
  go_enter Try.func47, Try.ntmps47
  go_wp2
  go_loopg [5] k (fun kq v5 w' => ∃ (x5_1 : Int), v5 = .int .i64 x5_1 ∧ Aside0 (laws_eqRuleS.l0 kq l0 l1 x5_1 = some r) ∧ Aside0 (kq ≤ k) ∧ Aside0 (Below w.heap.size w w'))
  case atStart => exact ⟨(0), (by first | rfl | (simp; done) | (simp [*]; done)), H', ⟨Nat.le_refl _⟩, ⟨by repeat (first | (with_reducible first | exact HB.out | apply below_alloc | apply pw_below_drewN | apply below_drew1) | exact HB.out)⟩⟩
  case round =>
   clear H'
   try clear c1; try clear p2; try clear c3; try clear c3b0; try clear c3b1; try clear c3b2
   obtain ⟨x5_1, rfl, HA, HK1, HB⟩ := hrel
   cases gk with
   | zero => exact absurd HA.out (by simp [laws_eqRuleS.l0])
   | succ k1 =>
    have H := HA.out
    clear HA
    simp only [laws_eqRuleS.l0] at H
    by_cases c4 : x5_1 < (l0.length : Int)
    ·
     rw [if_pos c4] at H
     have c4b0 : decide (x5_1 < (l0.length : Int)) = true := decide_eq_true c4
     clear c4
     by_cases c5 : 0 ≤ x5_1
     ·
      rw [if_pos c5] at H
      have c5b0 : decide (0 ≤ x5_1) = true := decide_eq_true c5
      clear c5
      by_cases c6 : x5_1 < (l1.length : Int)
      ·
       rw [if_pos c6] at H
       have c6b0 : decide (x5_1 < (l1.length : Int)) = true := decide_eq_true c6
       clear c6
       replace H := Option.bind_eq_some_iff.mp H
       obtain ⟨t156, A70, H⟩ := H
       replace H : (if t156 = true then (laws_eqRuleS.l0 k1 l0 l1 (wrap64 (x5_1 + 1))) else (some false)) = some r := H
       have A7 := Aside0.mk A70
       clear A70
       by_cases c8 : t156 = true
       ·
        subst c8
        have H1 : (laws_eqRuleS.l0 k1 l0 l1 (wrap64 (x5_1 + 1))) = some r := by rw [if_pos rfl] at H; exact H
        clear H
        have H := H1
        clear H1
        have H' := Aside0.mk H
        clear H
        try go_wp2
        have n0_ := Aside0.mk (below_drew1 HB.out)
        clear HB
        have HB := n0_
        clear n0_
        have p154 : 0 ≤ (x5_1 : Int) := of_decide_eq_true (by first | (with_reducible assumption) | assumption)
        have q154 : x5_1 < (l0.length : Int) := of_decide_eq_true (by first | (with_reducible assumption) | assumption)
        obtain ⟨ad154, e154, hx154_0, hx154_1, hx154_2, hx154_3, hx154_4, hx154_5, hx154_6, hx154_7, hx154_8, hx154_9, hx154_10⟩ := at_T96 HR0.out x5_1 p154 q154
        have hw154_10 := hx154_10
        have hw154_9 := hx154_9
        have hw154_8 := hx154_8
        have hw154_7 := hx154_7
        have hw154_6 := hx154_6
        have hw154_5 := hx154_5
        have hw154_4 := hx154_4
        have hw154_3 := hx154_3
        have hw154_2 := hx154_2
        have hw154_1 := hx154_1
        have hw154_0 := hx154_0
        cases e154
        replace hx154_0 := (HB.out.cell (World.block_lt_of_cell? w _ hx154_0)).trans hx154_0
        replace hx154_1 := (HB.out.cell (World.block_lt_of_cell? w _ hx154_1)).trans hx154_1
        replace hx154_2 := (HB.out.cell (World.block_lt_of_cell? w _ hx154_2)).trans hx154_2
        replace hx154_3 := (HB.out.cell (World.block_lt_of_cell? w _ hx154_3)).trans hx154_3
        replace hx154_4 := (HB.out.cell (World.block_lt_of_cell? w _ hx154_4)).trans hx154_4
        replace hx154_5 := (HB.out.cell (World.block_lt_of_cell? w _ hx154_5)).trans hx154_5
        replace hx154_6 := (HB.out.cell (World.block_lt_of_cell? w _ hx154_6)).trans hx154_6
        replace hx154_7 := (HB.out.cell (World.block_lt_of_cell? w _ hx154_7)).trans hx154_7
        replace hx154_8 := (HB.out.cell (World.block_lt_of_cell? w _ hx154_8)).trans hx154_8
        replace hx154_9 := (HB.out.cell (World.block_lt_of_cell? w _ hx154_9)).trans hx154_9
        replace hx154_10 := (HB.out.cell (World.block_lt_of_cell? w _ hx154_10)).trans hx154_10
        replace p154 := eq_true p154
        replace q154 := eq_true q154
        have p155 : 0 ≤ (x5_1 : Int) := of_decide_eq_true (by first | (with_reducible assumption) | assumption)
        have q155 : x5_1 < (l1.length : Int) := of_decide_eq_true (by first | (with_reducible assumption) | assumption)
        obtain ⟨ad155, e155, hx155_0, hx155_1, hx155_2, hx155_3, hx155_4, hx155_5, hx155_6, hx155_7, hx155_8, hx155_9, hx155_10⟩ := at_T96 HR1.out x5_1 p155 q155
        have hw155_10 := hx155_10
        have hw155_9 := hx155_9
        have hw155_8 := hx155_8
        have hw155_7 := hx155_7
        have hw155_6 := hx155_6
        have hw155_5 := hx155_5
        have hw155_4 := hx155_4
        have hw155_3 := hx155_3
        have hw155_2 := hx155_2
        have hw155_1 := hx155_1
        have hw155_0 := hx155_0
        cases e155
        replace hx155_0 := (HB.out.cell (World.block_lt_of_cell? w _ hx155_0)).trans hx155_0
        replace hx155_1 := (HB.out.cell (World.block_lt_of_cell? w _ hx155_1)).trans hx155_1
        replace hx155_2 := (HB.out.cell (World.block_lt_of_cell? w _ hx155_2)).trans hx155_2
        replace hx155_3 := (HB.out.cell (World.block_lt_of_cell? w _ hx155_3)).trans hx155_3
        replace hx155_4 := (HB.out.cell (World.block_lt_of_cell? w _ hx155_4)).trans hx155_4
        replace hx155_5 := (HB.out.cell (World.block_lt_of_cell? w _ hx155_5)).trans hx155_5
        replace hx155_6 := (HB.out.cell (World.block_lt_of_cell? w _ hx155_6)).trans hx155_6
        replace hx155_7 := (HB.out.cell (World.block_lt_of_cell? w _ hx155_7)).trans hx155_7
        replace hx155_8 := (HB.out.cell (World.block_lt_of_cell? w _ hx155_8)).trans hx155_8
        replace hx155_9 := (HB.out.cell (World.block_lt_of_cell? w _ hx155_9)).trans hx155_9
        replace hx155_10 := (HB.out.cell (World.block_lt_of_cell? w _ hx155_10)).trans hx155_10
        replace p155 := eq_true p155
        replace q155 := eq_true q155
        refine start_ (n := 10) (S := fun w' => w'.cell? (ad154.add ((x5_1).toNat * 11)) = some (.int .i64 ((rd_T96 l0 x5_1).f0.f0.f0)) ∧ w'.cell? ⟨(ad154.add ((x5_1).toNat * 11)).block, (ad154.add ((x5_1).toNat * 11)).off + 1, none⟩ = some (.int .i64 ((rd_T96 l0 x5_1).f0.f0.f1)) ∧ w'.cell? ⟨(ad154.add ((x5_1).toNat * 11)).block, (ad154.add ((x5_1).toNat * 11)).off + 2, none⟩ = some (.int .i64 ((rd_T96 l0 x5_1).f0.f1.f0)) ∧ w'.cell? ⟨(ad154.add ((x5_1).toNat * 11)).block, (ad154.add ((x5_1).toNat * 11)).off + 3, none⟩ = some (.int .i64 ((rd_T96 l0 x5_1).f0.f1.f1)) ∧ w'.cell? ⟨(ad154.add ((x5_1).toNat * 11)).block, (ad154.add ((x5_1).toNat * 11)).off + 4, none⟩ = some (.int .i64 ((rd_T96 l0 x5_1).f0.f2.f0)) ∧ w'.cell? ⟨(ad154.add ((x5_1).toNat * 11)).block, (ad154.add ((x5_1).toNat * 11)).off + 5, none⟩ = some (.int .i64 ((rd_T96 l0 x5_1).f0.f2.f1)) ∧ w'.cell? ⟨(ad154.add ((x5_1).toNat * 11)).block, (ad154.add ((x5_1).toNat * 11)).off + 6, none⟩ = some (.int .i64 ((rd_T96 l0 x5_1).f0.f3.f0)) ∧ w'.cell? ⟨(ad154.add ((x5_1).toNat * 11)).block, (ad154.add ((x5_1).toNat * 11)).off + 7, none⟩ = some (.int .i64 ((rd_T96 l0 x5_1).f0.f3.f1)) ∧ w'.cell? ⟨(ad154.add ((x5_1).toNat * 11)).block, (ad154.add ((x5_1).toNat * 11)).off + 8, none⟩ = some (.int .i64 ((rd_T96 l0 x5_1).f0.f4)) ∧ w'.cell? ⟨(ad154.add ((x5_1).toNat * 11)).block, (ad154.add ((x5_1).toNat * 11)).off + 9, none⟩ = some (.int .i64 ((rd_T96 l0 x5_1).f1)) ∧ w'.cell? ⟨(ad154.add ((x5_1).toNat * 11)).block, (ad154.add ((x5_1).toNat * 11)).off + 10, none⟩ = some (.int .i64 ((rd_T96 l0 x5_1).f2)) ∧ w'.cell? (ad155.add ((x5_1).toNat * 11)) = some (.int .i64 ((rd_T96 l1 x5_1).f0.f0.f0)) ∧ w'.cell? ⟨(ad155.add ((x5_1).toNat * 11)).block, (ad155.add ((x5_1).toNat * 11)).off + 1, none⟩ = some (.int .i64 ((rd_T96 l1 x5_1).f0.f0.f1)) ∧ w'.cell? ⟨(ad155.add ((x5_1).toNat * 11)).block, (ad155.add ((x5_1).toNat * 11)).off + 2, none⟩ = some (.int .i64 ((rd_T96 l1 x5_1).f0.f1.f0)) ∧ w'.cell? ⟨(ad155.add ((x5_1).toNat * 11)).block, (ad155.add ((x5_1).toNat * 11)).off + 3, none⟩ = some (.int .i64 ((rd_T96 l1 x5_1).f0.f1.f1)) ∧ w'.cell? ⟨(ad155.add ((x5_1).toNat * 11)).block, (ad155.add ((x5_1).toNat * 11)).off + 4, none⟩ = some (.int .i64 ((rd_T96 l1 x5_1).f0.f2.f0)) ∧ w'.cell? ⟨(ad155.add ((x5_1).toNat * 11)).block, (ad155.add ((x5_1).toNat * 11)).off + 5, none⟩ = some (.int .i64 ((rd_T96 l1 x5_1).f0.f2.f1)) ∧ w'.cell? ⟨(ad155.add ((x5_1).toNat * 11)).block, (ad155.add ((x5_1).toNat * 11)).off + 6, none⟩ = some (.int .i64 ((rd_T96 l1 x5_1).f0.f3.f0)) ∧ w'.cell? ⟨(ad155.add ((x5_1).toNat * 11)).block, (ad155.add ((x5_1).toNat * 11)).off + 7, none⟩ = some (.int .i64 ((rd_T96 l1 x5_1).f0.f3.f1)) ∧ w'.cell? ⟨(ad155.add ((x5_1).toNat * 11)).block, (ad155.add ((x5_1).toNat * 11)).off + 8, none⟩ = some (.int .i64 ((rd_T96 l1 x5_1).f0.f4)) ∧ w'.cell? ⟨(ad155.add ((x5_1).toNat * 11)).block, (ad155.add ((x5_1).toNat * 11)).off + 9, none⟩ = some (.int .i64 ((rd_T96 l1 x5_1).f1)) ∧ w'.cell? ⟨(ad155.add ((x5_1).toNat * 11)).block, (ad155.add ((x5_1).toNat * 11)).off + 10, none⟩ = some (.int .i64 ((rd_T96 l1 x5_1).f2))) (ds := []) #[false, false, false, false, false, false, false, false, false, false] (by kernel_rfl) rfl rfl ⟨((HB.out.cell (World.block_lt_of_cell? w _ hw154_0)).trans hw154_0), ((HB.out.cell (World.block_lt_of_cell? w _ hw154_1)).trans hw154_1), ((HB.out.cell (World.block_lt_of_cell? w _ hw154_2)).trans hw154_2), ((HB.out.cell (World.block_lt_of_cell? w _ hw154_3)).trans hw154_3), ((HB.out.cell (World.block_lt_of_cell? w _ hw154_4)).trans hw154_4), ((HB.out.cell (World.block_lt_of_cell? w _ hw154_5)).trans hw154_5), ((HB.out.cell (World.block_lt_of_cell? w _ hw154_6)).trans hw154_6), ((HB.out.cell (World.block_lt_of_cell? w _ hw154_7)).trans hw154_7), ((HB.out.cell (World.block_lt_of_cell? w _ hw154_8)).trans hw154_8), ((HB.out.cell (World.block_lt_of_cell? w _ hw154_9)).trans hw154_9), ((HB.out.cell (World.block_lt_of_cell? w _ hw154_10)).trans hw154_10), ((HB.out.cell (World.block_lt_of_cell? w _ hw155_0)).trans hw155_0), ((HB.out.cell (World.block_lt_of_cell? w _ hw155_1)).trans hw155_1), ((HB.out.cell (World.block_lt_of_cell? w _ hw155_2)).trans hw155_2), ((HB.out.cell (World.block_lt_of_cell? w _ hw155_3)).trans hw155_3), ((HB.out.cell (World.block_lt_of_cell? w _ hw155_4)).trans hw155_4), ((HB.out.cell (World.block_lt_of_cell? w _ hw155_5)).trans hw155_5), ((HB.out.cell (World.block_lt_of_cell? w _ hw155_6)).trans hw155_6), ((HB.out.cell (World.block_lt_of_cell? w _ hw155_7)).trans hw155_7), ((HB.out.cell (World.block_lt_of_cell? w _ hw155_8)).trans hw155_8), ((HB.out.cell (World.block_lt_of_cell? w _ hw155_9)).trans hw155_9), ((HB.out.cell (World.block_lt_of_cell? w _ hw155_10)).trans hw155_10)⟩ (fun hHeld => ?_); refine with_tabW laws_eqRuleS.tab6 laws_eqRuleS.bits6 (fun HT_ HW_ => ?_)
        generalize wr.drew = w9 at HB hx154_0 hx154_1 hx154_10 hx154_2 hx154_3 hx154_4 hx154_5 hx154_6 hx154_7 hx154_8 hx154_9 hx155_0 hx155_1 hx155_10 hx155_2 hx155_3 hx155_4 hx155_5 hx155_6 hx155_7 hx155_8 hx155_9 hHeld ⊢
        refine pure_ (i := 0) (N := some 17) (v := ?_) (a' := ?_) #[true, false, false, false, false, false, false, false, false, false] rfl rfl (any_of HT_.out (by kernel_rfl)) (fun _ _ _ h => h) (Or.inl ⟨by rfl, ?_⟩) ?_ ?_
        rotate_left
        ·
         intro w'
         go_simp
         with_reducible rfl
        rotate_left
        ·
         simp only [Act.put, List.setIfInBounds_toArray, List.set_cons_zero, List.set_cons_succ, i64_w, i32_w]
         rfl
        refine pure_ (i := 1) (N := some 18) (v := ?_) (a' := ?_) #[true, true, false, false, false, false, false, false, false, false] rfl rfl (any_of HT_.out (by kernel_rfl)) (fun _ _ _ h => h) (Or.inl ⟨by rfl, ?_⟩) ?_ ?_
        rotate_left
        ·
         intro w'
         go_simp
         with_reducible rfl
        rotate_left
        ·
         simp only [Act.put, List.setIfInBounds_toArray, List.set_cons_zero, List.set_cons_succ, i64_w, i32_w]
         rfl
        refine pure_ (i := 2) (N := some 19) (v := ?_) (a' := ?_) #[true, true, true, false, false, false, false, false, false, false] rfl rfl (any_of HT_.out (by kernel_rfl)) (fun _ _ _ h => h) (Or.inl ⟨by rfl, ?_⟩) ?_ ?_
        rotate_left
        ·
         intro w'
         go_simp
         with_reducible rfl
        rotate_left
        ·
         simp only [Act.put, List.setIfInBounds_toArray, List.set_cons_zero, List.set_cons_succ, i64_w, i32_w]
         rfl
        refine pure_ (i := 4) (N := some 21) (v := ?_) (a' := ?_) #[true, true, true, false, true, false, false, false, false, false] rfl rfl (any_of HT_.out (by kernel_rfl)) (fun _ _ _ h => h) (Or.inl ⟨by rfl, ?_⟩) ?_ ?_
        rotate_left
        ·
         intro w'
         go_simp
         with_reducible rfl
        rotate_left
        ·
         simp only [Act.put, List.setIfInBounds_toArray, List.set_cons_zero, List.set_cons_succ, i64_w, i32_w]
         rfl
        refine pure_ (i := 5) (N := some 22) (v := ?_) (a' := ?_) #[true, true, true, false, true, true, false, false, false, false] rfl rfl (any_of HT_.out (by kernel_rfl)) (fun _ _ _ h => h) (Or.inl ⟨by rfl, ?_⟩) ?_ ?_
        rotate_left
        ·
         intro w'
         go_simp
         with_reducible rfl
        rotate_left
        ·
         simp only [Act.put, List.setIfInBounds_toArray, List.set_cons_zero, List.set_cons_succ, i64_w, i32_w]
         rfl
        refine pure_ (i := 6) (N := some 23) (v := ?_) (a' := ?_) #[true, true, true, false, true, true, true, false, false, false] rfl rfl (any_of HT_.out (by kernel_rfl)) (fun _ _ _ h => h) (Or.inl ⟨by rfl, ?_⟩) ?_ ?_
        rotate_left
        ·
         intro w'
         go_simp
         with_reducible rfl
        rotate_left
        ·
         simp only [Act.put, List.setIfInBounds_toArray, List.set_cons_zero, List.set_cons_succ, i64_w, i32_w]
         rfl
        refine take_ (i := 3) (N := some 20) (v := ?_) (a' := ?_) #[true, true, true, true, true, true, true, false, false, false] rfl rfl (take_ofW HT_.out HW_.out (by kernel_rfl)) (fun _ _ _ h => h) (Or.inl ⟨by rfl, ?_⟩) hHeld ?_ ?_
        rotate_left
        ·
         rintro w' ⟨s0, s1, s2, s3, s4, s5, s6, s7, s8, s9, s10, s11, s12, s13, s14, s15, s16, s17, s18, s19, s20, s21⟩
         go_simp
         with_reducible rfl
        rotate_left
        ·
         simp only [Act.put, List.setIfInBounds_toArray, List.set_cons_zero, List.set_cons_succ, i64_w, i32_w]
         rfl
        refine take_ (i := 7) (N := some 24) (v := ?_) (a' := ?_) #[true, true, true, true, true, true, true, true, false, false] rfl rfl (take_ofW HT_.out HW_.out (by kernel_rfl)) (fun _ _ _ h => h) (Or.inl ⟨by rfl, ?_⟩) hHeld ?_ ?_
        rotate_left
        ·
         rintro w' ⟨s0, s1, s2, s3, s4, s5, s6, s7, s8, s9, s10, s11, s12, s13, s14, s15, s16, s17, s18, s19, s20, s21⟩
         go_simp
         with_reducible rfl
        rotate_left
        ·
         simp only [Act.put, List.setIfInBounds_toArray, List.set_cons_zero, List.set_cons_succ, i64_w, i32_w]
         rfl
        refine one_ (i := 8) (N := some 25) #[true, true, true, true, true, true, true, true, true, false] rfl rfl (one_of HT_.out (by kernel_rfl)) (by decide) (fun K hK => ?_)
        refine goes_ Try.func113 (by kernel_rfl) rfl #[.agg #[.int .i64 ((rd_T96 l0 x5_1).f0.f0.f0), .int .i64 ((rd_T96 l0 x5_1).f0.f0.f1), .int .i64 ((rd_T96 l0 x5_1).f0.f1.f0), .int .i64 ((rd_T96 l0 x5_1).f0.f1.f1), .int .i64 ((rd_T96 l0 x5_1).f0.f2.f0), .int .i64 ((rd_T96 l0 x5_1).f0.f2.f1), .int .i64 ((rd_T96 l0 x5_1).f0.f3.f0), .int .i64 ((rd_T96 l0 x5_1).f0.f3.f1), .int .i64 ((rd_T96 l0 x5_1).f0.f4), .int .i64 ((rd_T96 l0 x5_1).f1), .int .i64 ((rd_T96 l0 x5_1).f2)], .agg #[.int .i64 ((rd_T96 l1 x5_1).f0.f0.f0), .int .i64 ((rd_T96 l1 x5_1).f0.f0.f1), .int .i64 ((rd_T96 l1 x5_1).f0.f1.f0), .int .i64 ((rd_T96 l1 x5_1).f0.f1.f1), .int .i64 ((rd_T96 l1 x5_1).f0.f2.f0), .int .i64 ((rd_T96 l1 x5_1).f0.f2.f1), .int .i64 ((rd_T96 l1 x5_1).f0.f3.f0), .int .i64 ((rd_T96 l1 x5_1).f0.f3.f1), .int .i64 ((rd_T96 l1 x5_1).f0.f4), .int .i64 ((rd_T96 l1 x5_1).f1), .int .i64 ((rd_T96 l1 x5_1).f2)]] (by rfl) rfl rfl (by (try simp only [List.map_toArray, List.map_cons, List.map_nil]); first | done | rfl | (simp only [List.length_drop, List.length_take]; rfl)) ?_
        with_reducible refine (laws_eqRule.calls ((rd_T96 l0 x5_1).f0.f0.f0) ((rd_T96 l0 x5_1).f0.f0.f1) ((rd_T96 l0 x5_1).f0.f1.f0) ((rd_T96 l0 x5_1).f0.f1.f1) ((rd_T96 l0 x5_1).f0.f2.f0) ((rd_T96 l0 x5_1).f0.f2.f1) ((rd_T96 l0 x5_1).f0.f3.f0) ((rd_T96 l0 x5_1).f0.f3.f1) ((rd_T96 l0 x5_1).f0.f4) ((rd_T96 l0 x5_1).f1) ((rd_T96 l0 x5_1).f2) ((rd_T96 l1 x5_1).f0.f0.f0) ((rd_T96 l1 x5_1).f0.f0.f1) ((rd_T96 l1 x5_1).f0.f1.f0) ((rd_T96 l1 x5_1).f0.f1.f1) ((rd_T96 l1 x5_1).f0.f2.f0) ((rd_T96 l1 x5_1).f0.f2.f1) ((rd_T96 l1 x5_1).f0.f3.f0) ((rd_T96 l1 x5_1).f0.f3.f1) ((rd_T96 l1 x5_1).f0.f4) ((rd_T96 l1 x5_1).f1) ((rd_T96 l1 x5_1).f2) true _ A7.out).mono ?_
        rintro e w10 ⟨rfl, hb⟩
        refine ⟨_, rfl, ?_⟩
        have n0_ := Aside0.mk (below_step (by repeat (first | (with_reducible first | exact HB.out | apply below_alloc | apply pw_below_drewN | apply below_drew1) | exact HB.out)) hb)
        clear HB
        have HB := n0_
        clear n0_
        (try clear hb)
        (try clear hb2)
        (try clear hk)
        (try clear hi)
        refine hK.out _ _ ⟨((HB.out.cell (World.block_lt_of_cell? w _ hw154_0)).trans hw154_0), ((HB.out.cell (World.block_lt_of_cell? w _ hw154_1)).trans hw154_1), ((HB.out.cell (World.block_lt_of_cell? w _ hw154_2)).trans hw154_2), ((HB.out.cell (World.block_lt_of_cell? w _ hw154_3)).trans hw154_3), ((HB.out.cell (World.block_lt_of_cell? w _ hw154_4)).trans hw154_4), ((HB.out.cell (World.block_lt_of_cell? w _ hw154_5)).trans hw154_5), ((HB.out.cell (World.block_lt_of_cell? w _ hw154_6)).trans hw154_6), ((HB.out.cell (World.block_lt_of_cell? w _ hw154_7)).trans hw154_7), ((HB.out.cell (World.block_lt_of_cell? w _ hw154_8)).trans hw154_8), ((HB.out.cell (World.block_lt_of_cell? w _ hw154_9)).trans hw154_9), ((HB.out.cell (World.block_lt_of_cell? w _ hw154_10)).trans hw154_10), ((HB.out.cell (World.block_lt_of_cell? w _ hw155_0)).trans hw155_0), ((HB.out.cell (World.block_lt_of_cell? w _ hw155_1)).trans hw155_1), ((HB.out.cell (World.block_lt_of_cell? w _ hw155_2)).trans hw155_2), ((HB.out.cell (World.block_lt_of_cell? w _ hw155_3)).trans hw155_3), ((HB.out.cell (World.block_lt_of_cell? w _ hw155_4)).trans hw155_4), ((HB.out.cell (World.block_lt_of_cell? w _ hw155_5)).trans hw155_5), ((HB.out.cell (World.block_lt_of_cell? w _ hw155_6)).trans hw155_6), ((HB.out.cell (World.block_lt_of_cell? w _ hw155_7)).trans hw155_7), ((HB.out.cell (World.block_lt_of_cell? w _ hw155_8)).trans hw155_8), ((HB.out.cell (World.block_lt_of_cell? w _ hw155_9)).trans hw155_9), ((HB.out.cell (World.block_lt_of_cell? w _ hw155_10)).trans hw155_10)⟩ (fun hHeld => ?_)
        clear hK K
        refine norm_ (a' := ?_) ?_ ?_
        rotate_left
        ·
         show Act.put _ (some 25) _ = _
         simp only [Act.put, List.setIfInBounds_toArray, List.set_cons_zero, List.set_cons_succ, i64_w, i32_w]
         rfl
        refine pure_ (i := 9) (N := some 26) (v := ?_) (a' := ?_) #[true, true, true, true, true, true, true, true, true, true] rfl rfl (any_of HT_.out (by kernel_rfl)) (fun _ _ _ h => h) (Or.inl ⟨by rfl, ?_⟩) ?_ ?_
        rotate_left
        ·
         intro w'
         go_simp
         with_reducible rfl
        rotate_left
        ·
         simp only [Act.put, List.setIfInBounds_toArray, List.set_cons_zero, List.set_cons_succ, i64_w, i32_w]
         rfl
        refine done_ (done_of HT_.out (by kernel_rfl)) ?_
        try go_wp2
        go_roundg k1
        case measure => have := HK1.out; omega
        case rel => exact ⟨(wrap64 (x5_1 + 1)), (by first | rfl | (simp; done) | (simp [*]; done)), H', ⟨by have := HK1.out; omega⟩, ⟨by repeat (first | (with_reducible first | exact HB.out | apply below_alloc | apply pw_below_drewN | apply below_drew1) | exact HB.out)⟩⟩
       ·
        replace c8 := Bool.eq_false_iff.mpr c8
        subst c8
        have H1 : (some false) = some r := by rw [if_neg (show ¬ (false = true) by decide)] at H; exact H
        clear H
        have H := H1
        clear H1
        obtain rfl := Option.some.inj H
        try go_wp2
        have n0_ := Aside0.mk (below_drew1 HB.out)
        clear HB
        have HB := n0_
        clear n0_
        have p154 : 0 ≤ (x5_1 : Int) := of_decide_eq_true (by first | (with_reducible assumption) | assumption)
        have q154 : x5_1 < (l0.length : Int) := of_decide_eq_true (by first | (with_reducible assumption) | assumption)
        obtain ⟨ad154, e154, hx154_0, hx154_1, hx154_2, hx154_3, hx154_4, hx154_5, hx154_6, hx154_7, hx154_8, hx154_9, hx154_10⟩ := at_T96 HR0.out x5_1 p154 q154
        have hw154_10 := hx154_10
        have hw154_9 := hx154_9
        have hw154_8 := hx154_8
        have hw154_7 := hx154_7
        have hw154_6 := hx154_6
        have hw154_5 := hx154_5
        have hw154_4 := hx154_4
        have hw154_3 := hx154_3
        have hw154_2 := hx154_2
        have hw154_1 := hx154_1
        have hw154_0 := hx154_0
        cases e154
        replace hx154_0 := (HB.out.cell (World.block_lt_of_cell? w _ hx154_0)).trans hx154_0
        replace hx154_1 := (HB.out.cell (World.block_lt_of_cell? w _ hx154_1)).trans hx154_1
        replace hx154_2 := (HB.out.cell (World.block_lt_of_cell? w _ hx154_2)).trans hx154_2
        replace hx154_3 := (HB.out.cell (World.block_lt_of_cell? w _ hx154_3)).trans hx154_3
        replace hx154_4 := (HB.out.cell (World.block_lt_of_cell? w _ hx154_4)).trans hx154_4
        replace hx154_5 := (HB.out.cell (World.block_lt_of_cell? w _ hx154_5)).trans hx154_5
        replace hx154_6 := (HB.out.cell (World.block_lt_of_cell? w _ hx154_6)).trans hx154_6
        replace hx154_7 := (HB.out.cell (World.block_lt_of_cell? w _ hx154_7)).trans hx154_7
        replace hx154_8 := (HB.out.cell (World.block_lt_of_cell? w _ hx154_8)).trans hx154_8
        replace hx154_9 := (HB.out.cell (World.block_lt_of_cell? w _ hx154_9)).trans hx154_9
        replace hx154_10 := (HB.out.cell (World.block_lt_of_cell? w _ hx154_10)).trans hx154_10
        replace p154 := eq_true p154
        replace q154 := eq_true q154
        have p155 : 0 ≤ (x5_1 : Int) := of_decide_eq_true (by first | (with_reducible assumption) | assumption)
        have q155 : x5_1 < (l1.length : Int) := of_decide_eq_true (by first | (with_reducible assumption) | assumption)
        obtain ⟨ad155, e155, hx155_0, hx155_1, hx155_2, hx155_3, hx155_4, hx155_5, hx155_6, hx155_7, hx155_8, hx155_9, hx155_10⟩ := at_T96 HR1.out x5_1 p155 q155
        have hw155_10 := hx155_10
        have hw155_9 := hx155_9
        have hw155_8 := hx155_8
        have hw155_7 := hx155_7
        have hw155_6 := hx155_6
        have hw155_5 := hx155_5
        have hw155_4 := hx155_4
        have hw155_3 := hx155_3
        have hw155_2 := hx155_2
        have hw155_1 := hx155_1
        have hw155_0 := hx155_0
        cases e155
        replace hx155_0 := (HB.out.cell (World.block_lt_of_cell? w _ hx155_0)).trans hx155_0
        replace hx155_1 := (HB.out.cell (World.block_lt_of_cell? w _ hx155_1)).trans hx155_1
        replace hx155_2 := (HB.out.cell (World.block_lt_of_cell? w _ hx155_2)).trans hx155_2
        replace hx155_3 := (HB.out.cell (World.block_lt_of_cell? w _ hx155_3)).trans hx155_3
        replace hx155_4 := (HB.out.cell (World.block_lt_of_cell? w _ hx155_4)).trans hx155_4
        replace hx155_5 := (HB.out.cell (World.block_lt_of_cell? w _ hx155_5)).trans hx155_5
        replace hx155_6 := (HB.out.cell (World.block_lt_of_cell? w _ hx155_6)).trans hx155_6
        replace hx155_7 := (HB.out.cell (World.block_lt_of_cell? w _ hx155_7)).trans hx155_7
        replace hx155_8 := (HB.out.cell (World.block_lt_of_cell? w _ hx155_8)).trans hx155_8
        replace hx155_9 := (HB.out.cell (World.block_lt_of_cell? w _ hx155_9)).trans hx155_9
        replace hx155_10 := (HB.out.cell (World.block_lt_of_cell? w _ hx155_10)).trans hx155_10
        replace p155 := eq_true p155
        replace q155 := eq_true q155
        refine start_ (n := 10) (S := fun w' => w'.cell? (ad154.add ((x5_1).toNat * 11)) = some (.int .i64 ((rd_T96 l0 x5_1).f0.f0.f0)) ∧ w'.cell? ⟨(ad154.add ((x5_1).toNat * 11)).block, (ad154.add ((x5_1).toNat * 11)).off + 1, none⟩ = some (.int .i64 ((rd_T96 l0 x5_1).f0.f0.f1)) ∧ w'.cell? ⟨(ad154.add ((x5_1).toNat * 11)).block, (ad154.add ((x5_1).toNat * 11)).off + 2, none⟩ = some (.int .i64 ((rd_T96 l0 x5_1).f0.f1.f0)) ∧ w'.cell? ⟨(ad154.add ((x5_1).toNat * 11)).block, (ad154.add ((x5_1).toNat * 11)).off + 3, none⟩ = some (.int .i64 ((rd_T96 l0 x5_1).f0.f1.f1)) ∧ w'.cell? ⟨(ad154.add ((x5_1).toNat * 11)).block, (ad154.add ((x5_1).toNat * 11)).off + 4, none⟩ = some (.int .i64 ((rd_T96 l0 x5_1).f0.f2.f0)) ∧ w'.cell? ⟨(ad154.add ((x5_1).toNat * 11)).block, (ad154.add ((x5_1).toNat * 11)).off + 5, none⟩ = some (.int .i64 ((rd_T96 l0 x5_1).f0.f2.f1)) ∧ w'.cell? ⟨(ad154.add ((x5_1).toNat * 11)).block, (ad154.add ((x5_1).toNat * 11)).off + 6, none⟩ = some (.int .i64 ((rd_T96 l0 x5_1).f0.f3.f0)) ∧ w'.cell? ⟨(ad154.add ((x5_1).toNat * 11)).block, (ad154.add ((x5_1).toNat * 11)).off + 7, none⟩ = some (.int .i64 ((rd_T96 l0 x5_1).f0.f3.f1)) ∧ w'.cell? ⟨(ad154.add ((x5_1).toNat * 11)).block, (ad154.add ((x5_1).toNat * 11)).off + 8, none⟩ = some (.int .i64 ((rd_T96 l0 x5_1).f0.f4)) ∧ w'.cell? ⟨(ad154.add ((x5_1).toNat * 11)).block, (ad154.add ((x5_1).toNat * 11)).off + 9, none⟩ = some (.int .i64 ((rd_T96 l0 x5_1).f1)) ∧ w'.cell? ⟨(ad154.add ((x5_1).toNat * 11)).block, (ad154.add ((x5_1).toNat * 11)).off + 10, none⟩ = some (.int .i64 ((rd_T96 l0 x5_1).f2)) ∧ w'.cell? (ad155.add ((x5_1).toNat * 11)) = some (.int .i64 ((rd_T96 l1 x5_1).f0.f0.f0)) ∧ w'.cell? ⟨(ad155.add ((x5_1).toNat * 11)).block, (ad155.add ((x5_1).toNat * 11)).off + 1, none⟩ = some (.int .i64 ((rd_T96 l1 x5_1).f0.f0.f1)) ∧ w'.cell? ⟨(ad155.add ((x5_1).toNat * 11)).block, (ad155.add ((x5_1).toNat * 11)).off + 2, none⟩ = some (.int .i64 ((rd_T96 l1 x5_1).f0.f1.f0)) ∧ w'.cell? ⟨(ad155.add ((x5_1).toNat * 11)).block, (ad155.add ((x5_1).toNat * 11)).off + 3, none⟩ = some (.int .i64 ((rd_T96 l1 x5_1).f0.f1.f1)) ∧ w'.cell? ⟨(ad155.add ((x5_1).toNat * 11)).block, (ad155.add ((x5_1).toNat * 11)).off + 4, none⟩ = some (.int .i64 ((rd_T96 l1 x5_1).f0.f2.f0)) ∧ w'.cell? ⟨(ad155.add ((x5_1).toNat * 11)).block, (ad155.add ((x5_1).toNat * 11)).off + 5, none⟩ = some (.int .i64 ((rd_T96 l1 x5_1).f0.f2.f1)) ∧ w'.cell? ⟨(ad155.add ((x5_1).toNat * 11)).block, (ad155.add ((x5_1).toNat * 11)).off + 6, none⟩ = some (.int .i64 ((rd_T96 l1 x5_1).f0.f3.f0)) ∧ w'.cell? ⟨(ad155.add ((x5_1).toNat * 11)).block, (ad155.add ((x5_1).toNat * 11)).off + 7, none⟩ = some (.int .i64 ((rd_T96 l1 x5_1).f0.f3.f1)) ∧ w'.cell? ⟨(ad155.add ((x5_1).toNat * 11)).block, (ad155.add ((x5_1).toNat * 11)).off + 8, none⟩ = some (.int .i64 ((rd_T96 l1 x5_1).f0.f4)) ∧ w'.cell? ⟨(ad155.add ((x5_1).toNat * 11)).block, (ad155.add ((x5_1).toNat * 11)).off + 9, none⟩ = some (.int .i64 ((rd_T96 l1 x5_1).f1)) ∧ w'.cell? ⟨(ad155.add ((x5_1).toNat * 11)).block, (ad155.add ((x5_1).toNat * 11)).off + 10, none⟩ = some (.int .i64 ((rd_T96 l1 x5_1).f2))) (ds := []) #[false, false, false, false, false, false, false, false, false, false] (by kernel_rfl) rfl rfl ⟨((HB.out.cell (World.block_lt_of_cell? w _ hw154_0)).trans hw154_0), ((HB.out.cell (World.block_lt_of_cell? w _ hw154_1)).trans hw154_1), ((HB.out.cell (World.block_lt_of_cell? w _ hw154_2)).trans hw154_2), ((HB.out.cell (World.block_lt_of_cell? w _ hw154_3)).trans hw154_3), ((HB.out.cell (World.block_lt_of_cell? w _ hw154_4)).trans hw154_4), ((HB.out.cell (World.block_lt_of_cell? w _ hw154_5)).trans hw154_5), ((HB.out.cell (World.block_lt_of_cell? w _ hw154_6)).trans hw154_6), ((HB.out.cell (World.block_lt_of_cell? w _ hw154_7)).trans hw154_7), ((HB.out.cell (World.block_lt_of_cell? w _ hw154_8)).trans hw154_8), ((HB.out.cell (World.block_lt_of_cell? w _ hw154_9)).trans hw154_9), ((HB.out.cell (World.block_lt_of_cell? w _ hw154_10)).trans hw154_10), ((HB.out.cell (World.block_lt_of_cell? w _ hw155_0)).trans hw155_0), ((HB.out.cell (World.block_lt_of_cell? w _ hw155_1)).trans hw155_1), ((HB.out.cell (World.block_lt_of_cell? w _ hw155_2)).trans hw155_2), ((HB.out.cell (World.block_lt_of_cell? w _ hw155_3)).trans hw155_3), ((HB.out.cell (World.block_lt_of_cell? w _ hw155_4)).trans hw155_4), ((HB.out.cell (World.block_lt_of_cell? w _ hw155_5)).trans hw155_5), ((HB.out.cell (World.block_lt_of_cell? w _ hw155_6)).trans hw155_6), ((HB.out.cell (World.block_lt_of_cell? w _ hw155_7)).trans hw155_7), ((HB.out.cell (World.block_lt_of_cell? w _ hw155_8)).trans hw155_8), ((HB.out.cell (World.block_lt_of_cell? w _ hw155_9)).trans hw155_9), ((HB.out.cell (World.block_lt_of_cell? w _ hw155_10)).trans hw155_10)⟩ (fun hHeld => ?_); refine with_tabW laws_eqRuleS.tab6 laws_eqRuleS.bits6 (fun HT_ HW_ => ?_)
        generalize wr.drew = w11 at HB hx154_0 hx154_1 hx154_10 hx154_2 hx154_3 hx154_4 hx154_5 hx154_6 hx154_7 hx154_8 hx154_9 hx155_0 hx155_1 hx155_10 hx155_2 hx155_3 hx155_4 hx155_5 hx155_6 hx155_7 hx155_8 hx155_9 hHeld ⊢
        refine pure_ (i := 0) (N := some 17) (v := ?_) (a' := ?_) #[true, false, false, false, false, false, false, false, false, false] rfl rfl (any_of HT_.out (by kernel_rfl)) (fun _ _ _ h => h) (Or.inl ⟨by rfl, ?_⟩) ?_ ?_
        rotate_left
        ·
         intro w'
         go_simp
         with_reducible rfl
        rotate_left
        ·
         simp only [Act.put, List.setIfInBounds_toArray, List.set_cons_zero, List.set_cons_succ, i64_w, i32_w]
         rfl
        refine pure_ (i := 1) (N := some 18) (v := ?_) (a' := ?_) #[true, true, false, false, false, false, false, false, false, false] rfl rfl (any_of HT_.out (by kernel_rfl)) (fun _ _ _ h => h) (Or.inl ⟨by rfl, ?_⟩) ?_ ?_
        rotate_left
        ·
         intro w'
         go_simp
         with_reducible rfl
        rotate_left
        ·
         simp only [Act.put, List.setIfInBounds_toArray, List.set_cons_zero, List.set_cons_succ, i64_w, i32_w]
         rfl
        refine pure_ (i := 2) (N := some 19) (v := ?_) (a' := ?_) #[true, true, true, false, false, false, false, false, false, false] rfl rfl (any_of HT_.out (by kernel_rfl)) (fun _ _ _ h => h) (Or.inl ⟨by rfl, ?_⟩) ?_ ?_
        rotate_left
        ·
         intro w'
         go_simp
         with_reducible rfl
        rotate_left
        ·
         simp only [Act.put, List.setIfInBounds_toArray, List.set_cons_zero, List.set_cons_succ, i64_w, i32_w]
         rfl
        refine pure_ (i := 4) (N := some 21) (v := ?_) (a' := ?_) #[true, true, true, false, true, false, false, false, false, false] rfl rfl (any_of HT_.out (by kernel_rfl)) (fun _ _ _ h => h) (Or.inl ⟨by rfl, ?_⟩) ?_ ?_
        rotate_left
        ·
         intro w'
         go_simp
         with_reducible rfl
        rotate_left
        ·
         simp only [Act.put, List.setIfInBounds_toArray, List.set_cons_zero, List.set_cons_succ, i64_w, i32_w]
         rfl
        refine pure_ (i := 5) (N := some 22) (v := ?_) (a' := ?_) #[true, true, true, false, true, true, false, false, false, false] rfl rfl (any_of HT_.out (by kernel_rfl)) (fun _ _ _ h => h) (Or.inl ⟨by rfl, ?_⟩) ?_ ?_
        rotate_left
        ·
         intro w'
         go_simp
         with_reducible rfl
        rotate_left
        ·
         simp only [Act.put, List.setIfInBounds_toArray, List.set_cons_zero, List.set_cons_succ, i64_w, i32_w]
         rfl
        refine pure_ (i := 6) (N := some 23) (v := ?_) (a' := ?_) #[true, true, true, false, true, true, true, false, false, false] rfl rfl (any_of HT_.out (by kernel_rfl)) (fun _ _ _ h => h) (Or.inl ⟨by rfl, ?_⟩) ?_ ?_
        rotate_left
        ·
         intro w'
         go_simp
         with_reducible rfl
        rotate_left
        ·
         simp only [Act.put, List.setIfInBounds_toArray, List.set_cons_zero, List.set_cons_succ, i64_w, i32_w]
         rfl
        refine take_ (i := 3) (N := some 20) (v := ?_) (a' := ?_) #[true, true, true, true, true, true, true, false, false, false] rfl rfl (take_ofW HT_.out HW_.out (by kernel_rfl)) (fun _ _ _ h => h) (Or.inl ⟨by rfl, ?_⟩) hHeld ?_ ?_
        rotate_left
        ·
         rintro w' ⟨s0, s1, s2, s3, s4, s5, s6, s7, s8, s9, s10, s11, s12, s13, s14, s15, s16, s17, s18, s19, s20, s21⟩
         go_simp
         with_reducible rfl
        rotate_left
        ·
         simp only [Act.put, List.setIfInBounds_toArray, List.set_cons_zero, List.set_cons_succ, i64_w, i32_w]
         rfl
        refine take_ (i := 7) (N := some 24) (v := ?_) (a' := ?_) #[true, true, true, true, true, true, true, true, false, false] rfl rfl (take_ofW HT_.out HW_.out (by kernel_rfl)) (fun _ _ _ h => h) (Or.inl ⟨by rfl, ?_⟩) hHeld ?_ ?_
        rotate_left
        ·
         rintro w' ⟨s0, s1, s2, s3, s4, s5, s6, s7, s8, s9, s10, s11, s12, s13, s14, s15, s16, s17, s18, s19, s20, s21⟩
         go_simp
         with_reducible rfl
        rotate_left
        ·
         simp only [Act.put, List.setIfInBounds_toArray, List.set_cons_zero, List.set_cons_succ, i64_w, i32_w]
         rfl
        refine one_ (i := 8) (N := some 25) #[true, true, true, true, true, true, true, true, true, false] rfl rfl (one_of HT_.out (by kernel_rfl)) (by decide) (fun K hK => ?_)
        refine goes_ Try.func113 (by kernel_rfl) rfl #[.agg #[.int .i64 ((rd_T96 l0 x5_1).f0.f0.f0), .int .i64 ((rd_T96 l0 x5_1).f0.f0.f1), .int .i64 ((rd_T96 l0 x5_1).f0.f1.f0), .int .i64 ((rd_T96 l0 x5_1).f0.f1.f1), .int .i64 ((rd_T96 l0 x5_1).f0.f2.f0), .int .i64 ((rd_T96 l0 x5_1).f0.f2.f1), .int .i64 ((rd_T96 l0 x5_1).f0.f3.f0), .int .i64 ((rd_T96 l0 x5_1).f0.f3.f1), .int .i64 ((rd_T96 l0 x5_1).f0.f4), .int .i64 ((rd_T96 l0 x5_1).f1), .int .i64 ((rd_T96 l0 x5_1).f2)], .agg #[.int .i64 ((rd_T96 l1 x5_1).f0.f0.f0), .int .i64 ((rd_T96 l1 x5_1).f0.f0.f1), .int .i64 ((rd_T96 l1 x5_1).f0.f1.f0), .int .i64 ((rd_T96 l1 x5_1).f0.f1.f1), .int .i64 ((rd_T96 l1 x5_1).f0.f2.f0), .int .i64 ((rd_T96 l1 x5_1).f0.f2.f1), .int .i64 ((rd_T96 l1 x5_1).f0.f3.f0), .int .i64 ((rd_T96 l1 x5_1).f0.f3.f1), .int .i64 ((rd_T96 l1 x5_1).f0.f4), .int .i64 ((rd_T96 l1 x5_1).f1), .int .i64 ((rd_T96 l1 x5_1).f2)]] (by rfl) rfl rfl (by (try simp only [List.map_toArray, List.map_cons, List.map_nil]); first | done | rfl | (simp only [List.length_drop, List.length_take]; rfl)) ?_
        with_reducible refine (laws_eqRule.calls ((rd_T96 l0 x5_1).f0.f0.f0) ((rd_T96 l0 x5_1).f0.f0.f1) ((rd_T96 l0 x5_1).f0.f1.f0) ((rd_T96 l0 x5_1).f0.f1.f1) ((rd_T96 l0 x5_1).f0.f2.f0) ((rd_T96 l0 x5_1).f0.f2.f1) ((rd_T96 l0 x5_1).f0.f3.f0) ((rd_T96 l0 x5_1).f0.f3.f1) ((rd_T96 l0 x5_1).f0.f4) ((rd_T96 l0 x5_1).f1) ((rd_T96 l0 x5_1).f2) ((rd_T96 l1 x5_1).f0.f0.f0) ((rd_T96 l1 x5_1).f0.f0.f1) ((rd_T96 l1 x5_1).f0.f1.f0) ((rd_T96 l1 x5_1).f0.f1.f1) ((rd_T96 l1 x5_1).f0.f2.f0) ((rd_T96 l1 x5_1).f0.f2.f1) ((rd_T96 l1 x5_1).f0.f3.f0) ((rd_T96 l1 x5_1).f0.f3.f1) ((rd_T96 l1 x5_1).f0.f4) ((rd_T96 l1 x5_1).f1) ((rd_T96 l1 x5_1).f2) false _ A7.out).mono ?_
        rintro e w12 ⟨rfl, hb⟩
        refine ⟨_, rfl, ?_⟩
        have n0_ := Aside0.mk (below_step (by repeat (first | (with_reducible first | exact HB.out | apply below_alloc | apply pw_below_drewN | apply below_drew1) | exact HB.out)) hb)
        clear HB
        have HB := n0_
        clear n0_
        (try clear hb)
        (try clear hb2)
        (try clear hk)
        (try clear hi)
        refine hK.out _ _ ⟨((HB.out.cell (World.block_lt_of_cell? w _ hw154_0)).trans hw154_0), ((HB.out.cell (World.block_lt_of_cell? w _ hw154_1)).trans hw154_1), ((HB.out.cell (World.block_lt_of_cell? w _ hw154_2)).trans hw154_2), ((HB.out.cell (World.block_lt_of_cell? w _ hw154_3)).trans hw154_3), ((HB.out.cell (World.block_lt_of_cell? w _ hw154_4)).trans hw154_4), ((HB.out.cell (World.block_lt_of_cell? w _ hw154_5)).trans hw154_5), ((HB.out.cell (World.block_lt_of_cell? w _ hw154_6)).trans hw154_6), ((HB.out.cell (World.block_lt_of_cell? w _ hw154_7)).trans hw154_7), ((HB.out.cell (World.block_lt_of_cell? w _ hw154_8)).trans hw154_8), ((HB.out.cell (World.block_lt_of_cell? w _ hw154_9)).trans hw154_9), ((HB.out.cell (World.block_lt_of_cell? w _ hw154_10)).trans hw154_10), ((HB.out.cell (World.block_lt_of_cell? w _ hw155_0)).trans hw155_0), ((HB.out.cell (World.block_lt_of_cell? w _ hw155_1)).trans hw155_1), ((HB.out.cell (World.block_lt_of_cell? w _ hw155_2)).trans hw155_2), ((HB.out.cell (World.block_lt_of_cell? w _ hw155_3)).trans hw155_3), ((HB.out.cell (World.block_lt_of_cell? w _ hw155_4)).trans hw155_4), ((HB.out.cell (World.block_lt_of_cell? w _ hw155_5)).trans hw155_5), ((HB.out.cell (World.block_lt_of_cell? w _ hw155_6)).trans hw155_6), ((HB.out.cell (World.block_lt_of_cell? w _ hw155_7)).trans hw155_7), ((HB.out.cell (World.block_lt_of_cell? w _ hw155_8)).trans hw155_8), ((HB.out.cell (World.block_lt_of_cell? w _ hw155_9)).trans hw155_9), ((HB.out.cell (World.block_lt_of_cell? w _ hw155_10)).trans hw155_10)⟩ (fun hHeld => ?_)
        clear hK K
        refine norm_ (a' := ?_) ?_ ?_
        rotate_left
        ·
         show Act.put _ (some 25) _ = _
         simp only [Act.put, List.setIfInBounds_toArray, List.set_cons_zero, List.set_cons_succ, i64_w, i32_w]
         rfl
        refine pure_ (i := 9) (N := some 26) (v := ?_) (a' := ?_) #[true, true, true, true, true, true, true, true, true, true] rfl rfl (any_of HT_.out (by kernel_rfl)) (fun _ _ _ h => h) (Or.inl ⟨by rfl, ?_⟩) ?_ ?_
        rotate_left
        ·
         intro w'
         go_simp
         with_reducible rfl
        rotate_left
        ·
         simp only [Act.put, List.setIfInBounds_toArray, List.set_cons_zero, List.set_cons_succ, i64_w, i32_w]
         rfl
        refine done_ (done_of HT_.out (by kernel_rfl)) ?_
        try go_wp2
        go_ret
        exact ⟨by first | rfl | (simp [errW_none, errW_some] <;> rfl) | (simp [*, errW_none, errW_some] <;> rfl), by repeat (first | (with_reducible first | exact HB.out | apply below_alloc | apply pw_below_drewN | apply below_drew1) | exact HB.out)⟩
      ·
       rw [if_neg c6] at H
       exact absurd H (by simp)
     ·
      rw [if_neg c5] at H
      exact absurd H (by simp)
    ·
     rw [if_neg c4] at H
     have c4b0 : decide (x5_1 < (l0.length : Int)) = false := decide_eq_false c4
     clear c4
     obtain rfl := Option.some.inj H
     go_wp2
     go_ret
     exact ⟨by first | rfl | (simp [errW_none, errW_some] <;> rfl) | (simp [*, errW_none, errW_some] <;> rfl), by repeat (first | (with_reducible first | exact HB.out | apply below_alloc | apply pw_below_drewN | apply below_drew1) | exact HB.out)⟩
 ·
  rw [if_neg c3] at H
  have c3b0 : ((l0.length : Int) == (l1.length : Int)) = false := beq_eq_false_iff_ne.mpr c3
  have c3b1 : ((l0.length : Int) != (l1.length : Int)) = true := bne_iff_ne.mpr c3
  have c3b2 : (l0.length == l1.length) = false := by first | simpa using c3 | (simp at c3 ⊢; omega)
  obtain rfl := Option.some.inj H
  go_enter Try.func47, Try.ntmps47
  go_wp2
  go_ret
  exact ⟨by first | rfl | (simp [errW_none, errW_some] <;> rfl) | (simp [*, errW_none, errW_some] <;> rfl), by repeat (first | (with_reducible first | exact HB.out | apply below_alloc | apply pw_below_drewN | apply below_drew1) | exact HB.out)⟩

/-! ### (my own text) markWords -/
theorem own_stored_at {w : World} {base : Nat} {e : TypeId} {size n cap g : Nat} {xs : List Value} (h : w.ownsRow base e size (.slice (some ⟨g, 0, none⟩) n cap) n xs) (i : Nat) (u : Value) :
    (w.setCell ⟨g, i, none⟩ u).ownsRow base e size (.slice (some ⟨g, 0, none⟩) n cap) n (xs.set i u) := by
  obtain ⟨h1, h2⟩ := h
  refine ⟨by rw [List.length_set]; exact h1, ?_⟩
  rcases h2 with ⟨h2, _⟩ | ⟨g', cap', cur, hv, hg, hh, hnc, hc, hs, ht⟩
  · simp at h2
  · injection hv with ha hn hcap
    injection ha with ha
    injection ha with ha
    subst ha
    subst hcap
    refine .inr ⟨g, cap, cur.setIfInBounds i u, rfl, hg, by simp [World.setCell, Array.getElem?_modify, hh], hnc, hc, by simpa using hs, ?_⟩
    rw [Array.toList_setIfInBounds, List.take_set, ht]
theorem reps_field {α : Type} {R : α → List Value → Prop} {size : Nat} {ps : List α} {cs : List Value} (flat : α → List Value) (ho : ∀ x c, R x c → c = flat x) (hm : ∀ x, R x (flat x))
    (h : Reps R size ps cs) (i : Nat) (hi : i < ps.length) (x' : α) (j : Nat) (hj : j < size) (u : Value) (hx : flat x' = (flat ps[i]).set j u) : Reps R size (ps.set i x') (cs.set (i * size + j) u) := by
  refine ⟨by rw [List.length_set, List.length_set]; exact h.1, fun k p hp => ?_⟩
  by_cases e : i = k
  · subst e
    rw [List.getElem?_set_self hi] at hp
    obtain rfl := Option.some.inj hp
    have h2 := ho _ _ (h.2 i ps[i] (List.getElem?_eq_getElem hi))
    have : ((cs.set (i * size + j) u).drop (i * size)).take size = flat x' := by
      rw [hx, ← h2, List.drop_set, if_neg (by omega), List.take_set]
      rw [show i * size + j - i * size = j by omega]
    rw [this]
    exact hm x'
  · rw [List.getElem?_set_ne e] at hp
    have h2 := h.2 k p hp
    have : ((cs.set (i * size + j) u).drop (k * size)).take size = (cs.drop (k * size)).take size := by
      apply List.ext_getElem?
      intro m
      simp only [List.getElem?_take, List.getElem?_drop, List.getElem?_set]
      by_cases hms : m < size
      · rw [if_pos hms, if_pos hms]
        have : ¬ (i * size + j = k * size + m) := by
          intro hh
          apply e
          have a1 : (i * size + j) / size = i := by
            rw [Nat.mul_comm, Nat.mul_add_div (by omega), Nat.div_eq_of_lt hj]
            rfl
          have a2 : (k * size + m) / size = k := by
            rw [Nat.mul_comm, Nat.mul_add_div (by omega), Nat.div_eq_of_lt hms]
            rfl
          rw [← a1, hh, a2]
        rw [if_neg this]
      · rw [if_neg hms, if_neg hms]
    rw [this]
    exact h2
theorem R_field {α : Type} {d : Kd α} {e base g n cap : Nat} {ok : Nat → Prop} {W : World} {xs : List α} (flat : α → List Value) (ho : ∀ w base ok x c, d.M w base ok x c → c = flat x) (hm : ∀ w base ok x, d.M w base ok x (flat x))
    (h : d.R e W base ok (.slice (some ⟨g, 0, none⟩) n cap) xs) (i : Nat) (hi : i < xs.length) (x' : α) (j : Nat) (hj : j < d.sz) (u : Value) (hx : flat x' = (flat xs[i]).set j u) :
    d.R e (W.setCell ⟨g, i * d.sz + j, none⟩ u) base ok (.slice (some ⟨g, 0, none⟩) n cap) (xs.set i x') ∧ W.grownBy (W.setCell ⟨g, i * d.sz + j, none⟩ u) (some g) := by
  obtain ⟨h0, inner, hown, hr⟩ := h
  have hn : n = xs.length := by
    rcases hown.2 with ⟨h2, _⟩ | ⟨_, _, _, hv, _⟩
    · simp at h2
    · injection hv with _ hn _
  subst hn
  refine ⟨⟨h0, inner.set (i * d.sz + j) u, ?_, ?_⟩, ?_⟩
  · rw [List.length_set]
    exact own_stored_at hown _ u
  · exact reps_field flat (fun x c hc => ho _ _ _ x c hc) (fun x => hm _ _ _ x) (hr.imp_ (fun x c hc => (ho _ _ _ x c hc) ▸ hm _ _ _ x)) i hi x' j hj u hx
  · exact ⟨rfl, rfl, rfl, by simp [World.setCell], fun k _ hk => Below.heap_setCell W ⟨g, i * d.sz + j, none⟩ u k (fun e => hk (by rw [e]))⟩
/-- What holds while a row that came in is written: the row, what is kept of the world, and what lies below. -/
def MarkInv {α : Type} (d : Kd α) (e : Nat) (w0 w : World) (P0 : Nat → Prop) (W : World) (v : Value) (l : List α) : Prop :=
  d.R e W w0.heap.size (fun k_ => (P0 k_ ∨ w.heap.size ≤ k_)) v l ∧ Kept w W (fun k_ => P0 k_) ∧ Below w0.heap.size w0 W
theorem MarkInv.start {α : Type} {d : Kd α} {e : Nat} {w0 w : World} {P0 : Nat → Prop} {v : Value} {l : List α} (hB : Below w0.heap.size w0 w) (h : d.R e w w0.heap.size P0 v l) : MarkInv d e w0 w P0 w v l :=
  ⟨Kd.R_mono h (fun _ hk => .inl hk), Kept.refl w _, hB⟩
theorem MarkInv.len_le {α : Type} {d : Kd α} {e : Nat} {w0 w W : World} {P0 : Nat → Prop} {v : Value} {l : List α} (h : MarkInv d e w0 w P0 W v l) : l.length ≤ 9223372036854775807 := by
  obtain ⟨A, c, _, _, hC⟩ := Kd.R_reads h.1
  exact hC.2.1
theorem MarkInv.form {α : Type} {d : Kd α} {e : Nat} {w0 w W : World} {P0 : Nat → Prop} {v : Value} {dn xs : List α} {x : α} (h : MarkInv d e w0 w P0 W v (dn ++ x :: xs)) : ∃ g cap, v = .slice (some ⟨g, 0, none⟩) (dn ++ x :: xs).length cap ∧ w0.heap.size ≤ g := by
  obtain ⟨g, cap, hv, hg, _⟩ := Kd.R_form h.1 (by rw [List.length_append, List.length_cons]; omega)
  exact ⟨g, cap, hv, hg⟩
theorem mark_event {P : Program} {ops : Array Oper} {rest : List Oper} {o : Oper} {a : Act} {Q : Exit → Act → World → Prop} {α : Type} {d : Kd α} {e g n cap : Nat} {w0 w W : World} {P0 : Nat → Prop} {dn xs : List α} {t : TypeId} {p : Tmp} {v : Operand}
    (hgd : o.guard = none) (ho : o.op = .store t (.tmp p) v) (hN : o.dst = none) {x : α} (HM : MarkInv d e w0 w P0 W (.slice (some ⟨g, 0, none⟩) n cap) (dn ++ x :: xs)) (hg : w0.heap.size ≤ g)
    (flat : α → List Value) (hfo : ∀ w base ok x c, d.M w base ok x c → c = flat x) (hfm : ∀ w base ok x, d.M w base ok x (flat x)) {sz : Nat} (hsz : d.sz = sz) {x' : α} {j : Nat} (hj : j < sz) {u : Value} (hx : flat x' = (flat x).set j u)
    (hr : ∀ vx, W.cell? ⟨g, dn.length * sz + j, none⟩ = some vx → W.frozen? ⟨g, dn.length * sz + j, none⟩ = false → (execOp a.eval o).run P W = .ok .skip (W.setCell ⟨g, dn.length * sz + j, none⟩ u))
    (h : ∀ w', MarkInv d e w0 w P0 w' (.slice (some ⟨g, 0, none⟩) n cap) (dn ++ x' :: xs) → wpList P ops Q rest a w') : wpList P ops Q (o :: rest) a W := by
  subst hsz
  obtain ⟨hR, hK, hB⟩ := HM
  have hn := (Kd.R_reads' hR).1
  obtain ⟨c, hcl, hM, hcc, hfr⟩ := Kd.R_elem hR x (dn.length : Int) (by omega) (by rw [hn, List.length_append, List.length_cons]; omega)
  rw [Int.toNat_natCast] at hcc hfr
  obtain ⟨hR2, hg2⟩ := R_field flat hfo hfm hR dn.length (by simp) x' j hj u (by rw [hx]; congr 2; simp)
  refine store_event hgd ho hN (hr c[j] (hcc j c[j] (List.getElem?_eq_getElem (by omega))) (hfr j)) ?_
  rintro w' rfl
  refine h _ ⟨?_, Kept.of_grown hg2 hK (fun k hk => ?_), below_set hB hg⟩
  · have : (dn ++ x :: xs).set dn.length x' = dn ++ x' :: xs := by simp
    rw [← this]
    exact hR2
  · injection hk with hk
    subst hk
    exact hR.1 _ rfl

/-! ### laws_markRuleS: function 48 (my own text) -/
def laws_markRuleS.go : List S96 → Int → Int × List S96
  | [], kk => (kk, [])
  | _ :: xs, kk => ((laws_markRuleS.go xs (wrap64 (wrap64 (wrap64 (wrap64 (wrap64 (wrap64 (wrap64 (wrap64 (wrap64 (wrap64 (wrap64 (kk + 1) + 1) + 1) + 1) + 1) + 1) + 1) + 1) + 1) + 1) + 1))).1, (⟨⟨⟨kk, wrap64 (kk + 1)⟩, ⟨wrap64 (wrap64 (kk + 1) + 1), wrap64 (wrap64 (wrap64 (kk + 1) + 1) + 1)⟩, ⟨wrap64 (wrap64 (wrap64 (wrap64 (kk + 1) + 1) + 1) + 1), wrap64 (wrap64 (wrap64 (wrap64 (wrap64 (kk + 1) + 1) + 1) + 1) + 1)⟩, ⟨wrap64 (wrap64 (wrap64 (wrap64 (wrap64 (wrap64 (kk + 1) + 1) + 1) + 1) + 1) + 1), wrap64 (wrap64 (wrap64 (wrap64 (wrap64 (wrap64 (wrap64 (kk + 1) + 1) + 1) + 1) + 1) + 1) + 1)⟩, wrap64 (wrap64 (wrap64 (wrap64 (wrap64 (wrap64 (wrap64 (wrap64 (kk + 1) + 1) + 1) + 1) + 1) + 1) + 1) + 1)⟩, wrap64 (wrap64 (wrap64 (wrap64 (wrap64 (wrap64 (wrap64 (wrap64 (wrap64 (kk + 1) + 1) + 1) + 1) + 1) + 1) + 1) + 1) + 1), wrap64 (wrap64 (wrap64 (wrap64 (wrap64 (wrap64 (wrap64 (wrap64 (wrap64 (wrap64 (kk + 1) + 1) + 1) + 1) + 1) + 1) + 1) + 1) + 1) + 1)⟩ : S96) :: (laws_markRuleS.go xs (wrap64 (wrap64 (wrap64 (wrap64 (wrap64 (wrap64 (wrap64 (wrap64 (wrap64 (wrap64 (wrap64 (kk + 1) + 1) + 1) + 1) + 1) + 1) + 1) + 1) + 1) + 1) + 1))).2)
def laws_markRuleS.f (l0 : List S96) (kk : Int) : Option (Int × List S96) := some (laws_markRuleS.go l0 kk)
theorem laws_markRuleS.open_ : ∀ (w : World) (base : Nat) (ok : Nat → Prop) (x : S96) (c : List Value), k96.M w base ok x c → c = [.int .i64 x.f0.f0.f0, .int .i64 x.f0.f0.f1, .int .i64 x.f0.f1.f0, .int .i64 x.f0.f1.f1, .int .i64 x.f0.f2.f0, .int .i64 x.f0.f2.f1, .int .i64 x.f0.f3.f0, .int .i64 x.f0.f3.f1, .int .i64 x.f0.f4, .int .i64 x.f1, .int .i64 x.f2] := fun _ _ _ _ _ h => k96_openM h
theorem laws_markRuleS.mk_ : ∀ (w : World) (base : Nat) (ok : Nat → Prop) (x : S96), k96.M w base ok x [.int .i64 x.f0.f0.f0, .int .i64 x.f0.f0.f1, .int .i64 x.f0.f1.f0, .int .i64 x.f0.f1.f1, .int .i64 x.f0.f2.f0, .int .i64 x.f0.f2.f1, .int .i64 x.f0.f3.f0, .int .i64 x.f0.f3.f1, .int .i64 x.f0.f4, .int .i64 x.f1, .int .i64 x.f2] := fun w base ok x => k96_mkM w base ok x
set_option maxHeartbeats 8000000 in
set_option maxRecDepth 100000 in
theorem laws_markRuleS.calls (P0_ : Nat → Prop) (u9000_ : Value) (l0 : List S96) (a1 : Int) (r1 : Int) (r2 : List S96) (w0 w : World) (hB : Below w0.heap.size w0 w) (ho0 : Kd.R k96 96 w w0.heap.size P0_ u9000_ l0) (h : laws_markRuleS.f l0 a1 = some (r1, r2)) :
    Calls Try.prog 48 #[u9000_, .int .i64 a1] w fun e w' => e = .returned (.int .i64 r1) ∧ Kd.R k96 96 w' w0.heap.size (fun k_ => (P0_ k_ ∨ w.heap.size ≤ k_)) u9000_ r2 ∧ Below w0.heap.size w0 w' ∧ Kept w w' (fun k_ => P0_ k_) := by
  have HM := Aside0.mk (MarkInv.start hB ho0)
  clear ho0 hB
  replace h := Aside0.mk (Option.some.inj h)
  have hu0 := Try.underlying70
  have hu1 := Try.underlying50
  have hu2 := Try.underlying52
  have hu3 := Try.underlying96
  go_enter Try.func48, Try.ntmps48
  go_wp2
  go_loopg [1, 5] l0.length (fun gg v1 v5 w' => ∃ (dn rest : List S96) (kk : Int), rest.length ≤ gg ∧ v1 = .int .i64 kk ∧ v5 = .int .i64 (dn.length : Int) ∧ Aside0 (dn.length + rest.length = l0.length) ∧ Aside0 ((laws_markRuleS.go rest kk).1 = r1 ∧ dn ++ (laws_markRuleS.go rest kk).2 = r2) ∧ Aside0 (MarkInv k96 96 w0 w P0_ w' u9000_ (dn ++ rest)))
  case atStart => exact ⟨[], l0, a1, Nat.le_refl _, rfl, rfl, ⟨by simp⟩, ⟨by rw [h.out]; exact ⟨rfl, rfl⟩⟩, HM⟩
  case round =>
    clear HM h
    obtain ⟨dn, rest, kk, hg, rfl, rfl, HL, HF, HM⟩ := hrel
    have hl := HL.out
    have hml : l0.length ≤ 9223372036854775807 := by have := MarkInv.len_le HM.out; rw [List.length_append] at this; omega
    cases rest with
    | nil =>
      obtain ⟨Ao, co, eo⟩ := Kd.R_slice HM.out.1
      subst eo
      have hn : (dn ++ []).length = l0.length := by rw [List.length_append]; simpa using hl
      have hdl : ¬ (dn.length : Int) < (l0.length : Int) := by rw [List.length_nil] at hl; omega
      have hq : decide ((dn.length : Int) < ((dn ++ []).length : Int)) = false := decide_eq_false (by simp)
      clear hl HL
      go_wp2
      go_ret
      obtain ⟨hf1, hf2⟩ := HF.out
      exact ⟨congrArg (fun z => Ending.returned (Value.int .i64 z)) hf1, by rw [← hf2]; have hz := HM.out.1; rw [List.append_nil] at hz; have hy : dn ++ (laws_markRuleS.go [] kk).2 = dn := List.append_nil dn; rw [hy]; exact hz, HM.out.2.2, HM.out.2.1⟩
    | cons x xs =>
      obtain ⟨g, cap, eo, gb⟩ := MarkInv.form HM.out
      subst eo
      have HG := Aside0.mk gb
      clear gb
      have hn : (dn ++ x :: xs).length = l0.length := by rw [List.length_append]; exact hl
      have q0 : decide ((dn.length : Int) < ((dn ++ x :: xs).length : Int)) = true := decide_eq_true (by rw [hn]; rw [List.length_cons] at hl; omega)
      have p5 : (0 ≤ (dn.length : Int)) = True := eq_true (by omega)
      have q5 : ((dn.length : Int) < ((dn ++ x :: xs).length : Int)) = True := eq_true (of_decide_eq_true q0)
      rw [List.length_cons] at hg
      clear hl hn
      go_wp2_with (first | ((with_reducible refine gate_store (t := 2) (p := 18) rfl ?_); refine mark_event rfl rfl rfl HM.out HG.out (fun z => [.int .i64 z.f0.f0.f0, .int .i64 z.f0.f0.f1, .int .i64 z.f0.f1.f0, .int .i64 z.f0.f1.f1, .int .i64 z.f0.f2.f0, .int .i64 z.f0.f2.f1, .int .i64 z.f0.f3.f0, .int .i64 z.f0.f3.f1, .int .i64 z.f0.f4, .int .i64 z.f1, .int .i64 z.f2]) laws_markRuleS.open_ laws_markRuleS.mk_ (sz := 11) rfl (x := (⟨⟨⟨x.f0.f0.f0, x.f0.f0.f1⟩, ⟨x.f0.f1.f0, x.f0.f1.f1⟩, ⟨x.f0.f2.f0, x.f0.f2.f1⟩, ⟨x.f0.f3.f0, x.f0.f3.f1⟩, x.f0.f4⟩, x.f1, x.f2⟩ : S96)) (x' := (⟨⟨⟨kk, x.f0.f0.f1⟩, ⟨x.f0.f1.f0, x.f0.f1.f1⟩, ⟨x.f0.f2.f0, x.f0.f2.f1⟩, ⟨x.f0.f3.f0, x.f0.f3.f1⟩, x.f0.f4⟩, x.f1, x.f2⟩ : S96)) (j := 0) (by decide) (u := .int .i64 kk) rfl ?hr ?_; (case hr => intro vx hx hf; simp only [Nat.add_zero] at hx hf ⊢; (first | (go_simp; done) | (go_simp; rfl))); intro w0_ HM2; have HM3 := Aside0.mk HM2; clear HM HM2; have HM := HM3; clear HM3) | ((with_reducible refine gate_store (t := 2) (p := 27) rfl ?_); refine mark_event rfl rfl rfl HM.out HG.out (fun z => [.int .i64 z.f0.f0.f0, .int .i64 z.f0.f0.f1, .int .i64 z.f0.f1.f0, .int .i64 z.f0.f1.f1, .int .i64 z.f0.f2.f0, .int .i64 z.f0.f2.f1, .int .i64 z.f0.f3.f0, .int .i64 z.f0.f3.f1, .int .i64 z.f0.f4, .int .i64 z.f1, .int .i64 z.f2]) laws_markRuleS.open_ laws_markRuleS.mk_ (sz := 11) rfl (x := (⟨⟨⟨kk, x.f0.f0.f1⟩, ⟨x.f0.f1.f0, x.f0.f1.f1⟩, ⟨x.f0.f2.f0, x.f0.f2.f1⟩, ⟨x.f0.f3.f0, x.f0.f3.f1⟩, x.f0.f4⟩, x.f1, x.f2⟩ : S96)) (x' := (⟨⟨⟨kk, wrap64 (kk + 1)⟩, ⟨x.f0.f1.f0, x.f0.f1.f1⟩, ⟨x.f0.f2.f0, x.f0.f2.f1⟩, ⟨x.f0.f3.f0, x.f0.f3.f1⟩, x.f0.f4⟩, x.f1, x.f2⟩ : S96)) (j := 1) (by decide) (u := .int .i64 (wrap64 (kk + 1))) rfl ?hr ?_; (case hr => intro vx hx hf; (first | (go_simp; done) | (go_simp; rfl))); intro w1_ HM2; have HM3 := Aside0.mk HM2; clear HM HM2; have HM := HM3; clear HM3) | ((with_reducible refine gate_store (t := 2) (p := 36) rfl ?_); refine mark_event rfl rfl rfl HM.out HG.out (fun z => [.int .i64 z.f0.f0.f0, .int .i64 z.f0.f0.f1, .int .i64 z.f0.f1.f0, .int .i64 z.f0.f1.f1, .int .i64 z.f0.f2.f0, .int .i64 z.f0.f2.f1, .int .i64 z.f0.f3.f0, .int .i64 z.f0.f3.f1, .int .i64 z.f0.f4, .int .i64 z.f1, .int .i64 z.f2]) laws_markRuleS.open_ laws_markRuleS.mk_ (sz := 11) rfl (x := (⟨⟨⟨kk, wrap64 (kk + 1)⟩, ⟨x.f0.f1.f0, x.f0.f1.f1⟩, ⟨x.f0.f2.f0, x.f0.f2.f1⟩, ⟨x.f0.f3.f0, x.f0.f3.f1⟩, x.f0.f4⟩, x.f1, x.f2⟩ : S96)) (x' := (⟨⟨⟨kk, wrap64 (kk + 1)⟩, ⟨wrap64 (wrap64 (kk + 1) + 1), x.f0.f1.f1⟩, ⟨x.f0.f2.f0, x.f0.f2.f1⟩, ⟨x.f0.f3.f0, x.f0.f3.f1⟩, x.f0.f4⟩, x.f1, x.f2⟩ : S96)) (j := 2) (by decide) (u := .int .i64 (wrap64 (wrap64 (kk + 1) + 1))) rfl ?hr ?_; (case hr => intro vx hx hf; (first | (go_simp; done) | (go_simp; rfl))); intro w2_ HM2; have HM3 := Aside0.mk HM2; clear HM HM2; have HM := HM3; clear HM3) | ((with_reducible refine gate_store (t := 2) (p := 45) rfl ?_); refine mark_event rfl rfl rfl HM.out HG.out (fun z => [.int .i64 z.f0.f0.f0, .int .i64 z.f0.f0.f1, .int .i64 z.f0.f1.f0, .int .i64 z.f0.f1.f1, .int .i64 z.f0.f2.f0, .int .i64 z.f0.f2.f1, .int .i64 z.f0.f3.f0, .int .i64 z.f0.f3.f1, .int .i64 z.f0.f4, .int .i64 z.f1, .int .i64 z.f2]) laws_markRuleS.open_ laws_markRuleS.mk_ (sz := 11) rfl (x := (⟨⟨⟨kk, wrap64 (kk + 1)⟩, ⟨wrap64 (wrap64 (kk + 1) + 1), x.f0.f1.f1⟩, ⟨x.f0.f2.f0, x.f0.f2.f1⟩, ⟨x.f0.f3.f0, x.f0.f3.f1⟩, x.f0.f4⟩, x.f1, x.f2⟩ : S96)) (x' := (⟨⟨⟨kk, wrap64 (kk + 1)⟩, ⟨wrap64 (wrap64 (kk + 1) + 1), wrap64 (wrap64 (wrap64 (kk + 1) + 1) + 1)⟩, ⟨x.f0.f2.f0, x.f0.f2.f1⟩, ⟨x.f0.f3.f0, x.f0.f3.f1⟩, x.f0.f4⟩, x.f1, x.f2⟩ : S96)) (j := 3) (by decide) (u := .int .i64 (wrap64 (wrap64 (wrap64 (kk + 1) + 1) + 1))) rfl ?hr ?_; (case hr => intro vx hx hf; (first | (go_simp; done) | (go_simp; rfl))); intro w3_ HM2; have HM3 := Aside0.mk HM2; clear HM HM2; have HM := HM3; clear HM3) | ((with_reducible refine gate_store (t := 2) (p := 54) rfl ?_); refine mark_event rfl rfl rfl HM.out HG.out (fun z => [.int .i64 z.f0.f0.f0, .int .i64 z.f0.f0.f1, .int .i64 z.f0.f1.f0, .int .i64 z.f0.f1.f1, .int .i64 z.f0.f2.f0, .int .i64 z.f0.f2.f1, .int .i64 z.f0.f3.f0, .int .i64 z.f0.f3.f1, .int .i64 z.f0.f4, .int .i64 z.f1, .int .i64 z.f2]) laws_markRuleS.open_ laws_markRuleS.mk_ (sz := 11) rfl (x := (⟨⟨⟨kk, wrap64 (kk + 1)⟩, ⟨wrap64 (wrap64 (kk + 1) + 1), wrap64 (wrap64 (wrap64 (kk + 1) + 1) + 1)⟩, ⟨x.f0.f2.f0, x.f0.f2.f1⟩, ⟨x.f0.f3.f0, x.f0.f3.f1⟩, x.f0.f4⟩, x.f1, x.f2⟩ : S96)) (x' := (⟨⟨⟨kk, wrap64 (kk + 1)⟩, ⟨wrap64 (wrap64 (kk + 1) + 1), wrap64 (wrap64 (wrap64 (kk + 1) + 1) + 1)⟩, ⟨wrap64 (wrap64 (wrap64 (wrap64 (kk + 1) + 1) + 1) + 1), x.f0.f2.f1⟩, ⟨x.f0.f3.f0, x.f0.f3.f1⟩, x.f0.f4⟩, x.f1, x.f2⟩ : S96)) (j := 4) (by decide) (u := .int .i64 (wrap64 (wrap64 (wrap64 (wrap64 (kk + 1) + 1) + 1) + 1))) rfl ?hr ?_; (case hr => intro vx hx hf; (first | (go_simp; done) | (go_simp; rfl))); intro w4_ HM2; have HM3 := Aside0.mk HM2; clear HM HM2; have HM := HM3; clear HM3) | ((with_reducible refine gate_store (t := 2) (p := 63) rfl ?_); refine mark_event rfl rfl rfl HM.out HG.out (fun z => [.int .i64 z.f0.f0.f0, .int .i64 z.f0.f0.f1, .int .i64 z.f0.f1.f0, .int .i64 z.f0.f1.f1, .int .i64 z.f0.f2.f0, .int .i64 z.f0.f2.f1, .int .i64 z.f0.f3.f0, .int .i64 z.f0.f3.f1, .int .i64 z.f0.f4, .int .i64 z.f1, .int .i64 z.f2]) laws_markRuleS.open_ laws_markRuleS.mk_ (sz := 11) rfl (x := (⟨⟨⟨kk, wrap64 (kk + 1)⟩, ⟨wrap64 (wrap64 (kk + 1) + 1), wrap64 (wrap64 (wrap64 (kk + 1) + 1) + 1)⟩, ⟨wrap64 (wrap64 (wrap64 (wrap64 (kk + 1) + 1) + 1) + 1), x.f0.f2.f1⟩, ⟨x.f0.f3.f0, x.f0.f3.f1⟩, x.f0.f4⟩, x.f1, x.f2⟩ : S96)) (x' := (⟨⟨⟨kk, wrap64 (kk + 1)⟩, ⟨wrap64 (wrap64 (kk + 1) + 1), wrap64 (wrap64 (wrap64 (kk + 1) + 1) + 1)⟩, ⟨wrap64 (wrap64 (wrap64 (wrap64 (kk + 1) + 1) + 1) + 1), wrap64 (wrap64 (wrap64 (wrap64 (wrap64 (kk + 1) + 1) + 1) + 1) + 1)⟩, ⟨x.f0.f3.f0, x.f0.f3.f1⟩, x.f0.f4⟩, x.f1, x.f2⟩ : S96)) (j := 5) (by decide) (u := .int .i64 (wrap64 (wrap64 (wrap64 (wrap64 (wrap64 (kk + 1) + 1) + 1) + 1) + 1))) rfl ?hr ?_; (case hr => intro vx hx hf; (first | (go_simp; done) | (go_simp; rfl))); intro w5_ HM2; have HM3 := Aside0.mk HM2; clear HM HM2; have HM := HM3; clear HM3) | ((with_reducible refine gate_store (t := 2) (p := 72) rfl ?_); refine mark_event rfl rfl rfl HM.out HG.out (fun z => [.int .i64 z.f0.f0.f0, .int .i64 z.f0.f0.f1, .int .i64 z.f0.f1.f0, .int .i64 z.f0.f1.f1, .int .i64 z.f0.f2.f0, .int .i64 z.f0.f2.f1, .int .i64 z.f0.f3.f0, .int .i64 z.f0.f3.f1, .int .i64 z.f0.f4, .int .i64 z.f1, .int .i64 z.f2]) laws_markRuleS.open_ laws_markRuleS.mk_ (sz := 11) rfl (x := (⟨⟨⟨kk, wrap64 (kk + 1)⟩, ⟨wrap64 (wrap64 (kk + 1) + 1), wrap64 (wrap64 (wrap64 (kk + 1) + 1) + 1)⟩, ⟨wrap64 (wrap64 (wrap64 (wrap64 (kk + 1) + 1) + 1) + 1), wrap64 (wrap64 (wrap64 (wrap64 (wrap64 (kk + 1) + 1) + 1) + 1) + 1)⟩, ⟨x.f0.f3.f0, x.f0.f3.f1⟩, x.f0.f4⟩, x.f1, x.f2⟩ : S96)) (x' := (⟨⟨⟨kk, wrap64 (kk + 1)⟩, ⟨wrap64 (wrap64 (kk + 1) + 1), wrap64 (wrap64 (wrap64 (kk + 1) + 1) + 1)⟩, ⟨wrap64 (wrap64 (wrap64 (wrap64 (kk + 1) + 1) + 1) + 1), wrap64 (wrap64 (wrap64 (wrap64 (wrap64 (kk + 1) + 1) + 1) + 1) + 1)⟩, ⟨wrap64 (wrap64 (wrap64 (wrap64 (wrap64 (wrap64 (kk + 1) + 1) + 1) + 1) + 1) + 1), x.f0.f3.f1⟩, x.f0.f4⟩, x.f1, x.f2⟩ : S96)) (j := 6) (by decide) (u := .int .i64 (wrap64 (wrap64 (wrap64 (wrap64 (wrap64 (wrap64 (kk + 1) + 1) + 1) + 1) + 1) + 1))) rfl ?hr ?_; (case hr => intro vx hx hf; (first | (go_simp; done) | (go_simp; rfl))); intro w6_ HM2; have HM3 := Aside0.mk HM2; clear HM HM2; have HM := HM3; clear HM3) | ((with_reducible refine gate_store (t := 2) (p := 81) rfl ?_); refine mark_event rfl rfl rfl HM.out HG.out (fun z => [.int .i64 z.f0.f0.f0, .int .i64 z.f0.f0.f1, .int .i64 z.f0.f1.f0, .int .i64 z.f0.f1.f1, .int .i64 z.f0.f2.f0, .int .i64 z.f0.f2.f1, .int .i64 z.f0.f3.f0, .int .i64 z.f0.f3.f1, .int .i64 z.f0.f4, .int .i64 z.f1, .int .i64 z.f2]) laws_markRuleS.open_ laws_markRuleS.mk_ (sz := 11) rfl (x := (⟨⟨⟨kk, wrap64 (kk + 1)⟩, ⟨wrap64 (wrap64 (kk + 1) + 1), wrap64 (wrap64 (wrap64 (kk + 1) + 1) + 1)⟩, ⟨wrap64 (wrap64 (wrap64 (wrap64 (kk + 1) + 1) + 1) + 1), wrap64 (wrap64 (wrap64 (wrap64 (wrap64 (kk + 1) + 1) + 1) + 1) + 1)⟩, ⟨wrap64 (wrap64 (wrap64 (wrap64 (wrap64 (wrap64 (kk + 1) + 1) + 1) + 1) + 1) + 1), x.f0.f3.f1⟩, x.f0.f4⟩, x.f1, x.f2⟩ : S96)) (x' := (⟨⟨⟨kk, wrap64 (kk + 1)⟩, ⟨wrap64 (wrap64 (kk + 1) + 1), wrap64 (wrap64 (wrap64 (kk + 1) + 1) + 1)⟩, ⟨wrap64 (wrap64 (wrap64 (wrap64 (kk + 1) + 1) + 1) + 1), wrap64 (wrap64 (wrap64 (wrap64 (wrap64 (kk + 1) + 1) + 1) + 1) + 1)⟩, ⟨wrap64 (wrap64 (wrap64 (wrap64 (wrap64 (wrap64 (kk + 1) + 1) + 1) + 1) + 1) + 1), wrap64 (wrap64 (wrap64 (wrap64 (wrap64 (wrap64 (wrap64 (kk + 1) + 1) + 1) + 1) + 1) + 1) + 1)⟩, x.f0.f4⟩, x.f1, x.f2⟩ : S96)) (j := 7) (by decide) (u := .int .i64 (wrap64 (wrap64 (wrap64 (wrap64 (wrap64 (wrap64 (wrap64 (kk + 1) + 1) + 1) + 1) + 1) + 1) + 1))) rfl ?hr ?_; (case hr => intro vx hx hf; (first | (go_simp; done) | (go_simp; rfl))); intro w7_ HM2; have HM3 := Aside0.mk HM2; clear HM HM2; have HM := HM3; clear HM3) | ((with_reducible refine gate_store (t := 2) (p := 89) rfl ?_); refine mark_event rfl rfl rfl HM.out HG.out (fun z => [.int .i64 z.f0.f0.f0, .int .i64 z.f0.f0.f1, .int .i64 z.f0.f1.f0, .int .i64 z.f0.f1.f1, .int .i64 z.f0.f2.f0, .int .i64 z.f0.f2.f1, .int .i64 z.f0.f3.f0, .int .i64 z.f0.f3.f1, .int .i64 z.f0.f4, .int .i64 z.f1, .int .i64 z.f2]) laws_markRuleS.open_ laws_markRuleS.mk_ (sz := 11) rfl (x := (⟨⟨⟨kk, wrap64 (kk + 1)⟩, ⟨wrap64 (wrap64 (kk + 1) + 1), wrap64 (wrap64 (wrap64 (kk + 1) + 1) + 1)⟩, ⟨wrap64 (wrap64 (wrap64 (wrap64 (kk + 1) + 1) + 1) + 1), wrap64 (wrap64 (wrap64 (wrap64 (wrap64 (kk + 1) + 1) + 1) + 1) + 1)⟩, ⟨wrap64 (wrap64 (wrap64 (wrap64 (wrap64 (wrap64 (kk + 1) + 1) + 1) + 1) + 1) + 1), wrap64 (wrap64 (wrap64 (wrap64 (wrap64 (wrap64 (wrap64 (kk + 1) + 1) + 1) + 1) + 1) + 1) + 1)⟩, x.f0.f4⟩, x.f1, x.f2⟩ : S96)) (x' := (⟨⟨⟨kk, wrap64 (kk + 1)⟩, ⟨wrap64 (wrap64 (kk + 1) + 1), wrap64 (wrap64 (wrap64 (kk + 1) + 1) + 1)⟩, ⟨wrap64 (wrap64 (wrap64 (wrap64 (kk + 1) + 1) + 1) + 1), wrap64 (wrap64 (wrap64 (wrap64 (wrap64 (kk + 1) + 1) + 1) + 1) + 1)⟩, ⟨wrap64 (wrap64 (wrap64 (wrap64 (wrap64 (wrap64 (kk + 1) + 1) + 1) + 1) + 1) + 1), wrap64 (wrap64 (wrap64 (wrap64 (wrap64 (wrap64 (wrap64 (kk + 1) + 1) + 1) + 1) + 1) + 1) + 1)⟩, wrap64 (wrap64 (wrap64 (wrap64 (wrap64 (wrap64 (wrap64 (wrap64 (kk + 1) + 1) + 1) + 1) + 1) + 1) + 1) + 1)⟩, x.f1, x.f2⟩ : S96)) (j := 8) (by decide) (u := .int .i64 (wrap64 (wrap64 (wrap64 (wrap64 (wrap64 (wrap64 (wrap64 (wrap64 (kk + 1) + 1) + 1) + 1) + 1) + 1) + 1) + 1))) rfl ?hr ?_; (case hr => intro vx hx hf; (first | (go_simp; done) | (go_simp; rfl))); intro w8_ HM2; have HM3 := Aside0.mk HM2; clear HM HM2; have HM := HM3; clear HM3) | ((with_reducible refine gate_store (t := 2) (p := 96) rfl ?_); refine mark_event rfl rfl rfl HM.out HG.out (fun z => [.int .i64 z.f0.f0.f0, .int .i64 z.f0.f0.f1, .int .i64 z.f0.f1.f0, .int .i64 z.f0.f1.f1, .int .i64 z.f0.f2.f0, .int .i64 z.f0.f2.f1, .int .i64 z.f0.f3.f0, .int .i64 z.f0.f3.f1, .int .i64 z.f0.f4, .int .i64 z.f1, .int .i64 z.f2]) laws_markRuleS.open_ laws_markRuleS.mk_ (sz := 11) rfl (x := (⟨⟨⟨kk, wrap64 (kk + 1)⟩, ⟨wrap64 (wrap64 (kk + 1) + 1), wrap64 (wrap64 (wrap64 (kk + 1) + 1) + 1)⟩, ⟨wrap64 (wrap64 (wrap64 (wrap64 (kk + 1) + 1) + 1) + 1), wrap64 (wrap64 (wrap64 (wrap64 (wrap64 (kk + 1) + 1) + 1) + 1) + 1)⟩, ⟨wrap64 (wrap64 (wrap64 (wrap64 (wrap64 (wrap64 (kk + 1) + 1) + 1) + 1) + 1) + 1), wrap64 (wrap64 (wrap64 (wrap64 (wrap64 (wrap64 (wrap64 (kk + 1) + 1) + 1) + 1) + 1) + 1) + 1)⟩, wrap64 (wrap64 (wrap64 (wrap64 (wrap64 (wrap64 (wrap64 (wrap64 (kk + 1) + 1) + 1) + 1) + 1) + 1) + 1) + 1)⟩, x.f1, x.f2⟩ : S96)) (x' := (⟨⟨⟨kk, wrap64 (kk + 1)⟩, ⟨wrap64 (wrap64 (kk + 1) + 1), wrap64 (wrap64 (wrap64 (kk + 1) + 1) + 1)⟩, ⟨wrap64 (wrap64 (wrap64 (wrap64 (kk + 1) + 1) + 1) + 1), wrap64 (wrap64 (wrap64 (wrap64 (wrap64 (kk + 1) + 1) + 1) + 1) + 1)⟩, ⟨wrap64 (wrap64 (wrap64 (wrap64 (wrap64 (wrap64 (kk + 1) + 1) + 1) + 1) + 1) + 1), wrap64 (wrap64 (wrap64 (wrap64 (wrap64 (wrap64 (wrap64 (kk + 1) + 1) + 1) + 1) + 1) + 1) + 1)⟩, wrap64 (wrap64 (wrap64 (wrap64 (wrap64 (wrap64 (wrap64 (wrap64 (kk + 1) + 1) + 1) + 1) + 1) + 1) + 1) + 1)⟩, wrap64 (wrap64 (wrap64 (wrap64 (wrap64 (wrap64 (wrap64 (wrap64 (wrap64 (kk + 1) + 1) + 1) + 1) + 1) + 1) + 1) + 1) + 1), x.f2⟩ : S96)) (j := 9) (by decide) (u := .int .i64 (wrap64 (wrap64 (wrap64 (wrap64 (wrap64 (wrap64 (wrap64 (wrap64 (wrap64 (kk + 1) + 1) + 1) + 1) + 1) + 1) + 1) + 1) + 1))) rfl ?hr ?_; (case hr => intro vx hx hf; (first | (go_simp; done) | (go_simp; rfl))); intro w9_ HM2; have HM3 := Aside0.mk HM2; clear HM HM2; have HM := HM3; clear HM3) | ((with_reducible refine gate_store (t := 2) (p := 103) rfl ?_); refine mark_event rfl rfl rfl HM.out HG.out (fun z => [.int .i64 z.f0.f0.f0, .int .i64 z.f0.f0.f1, .int .i64 z.f0.f1.f0, .int .i64 z.f0.f1.f1, .int .i64 z.f0.f2.f0, .int .i64 z.f0.f2.f1, .int .i64 z.f0.f3.f0, .int .i64 z.f0.f3.f1, .int .i64 z.f0.f4, .int .i64 z.f1, .int .i64 z.f2]) laws_markRuleS.open_ laws_markRuleS.mk_ (sz := 11) rfl (x := (⟨⟨⟨kk, wrap64 (kk + 1)⟩, ⟨wrap64 (wrap64 (kk + 1) + 1), wrap64 (wrap64 (wrap64 (kk + 1) + 1) + 1)⟩, ⟨wrap64 (wrap64 (wrap64 (wrap64 (kk + 1) + 1) + 1) + 1), wrap64 (wrap64 (wrap64 (wrap64 (wrap64 (kk + 1) + 1) + 1) + 1) + 1)⟩, ⟨wrap64 (wrap64 (wrap64 (wrap64 (wrap64 (wrap64 (kk + 1) + 1) + 1) + 1) + 1) + 1), wrap64 (wrap64 (wrap64 (wrap64 (wrap64 (wrap64 (wrap64 (kk + 1) + 1) + 1) + 1) + 1) + 1) + 1)⟩, wrap64 (wrap64 (wrap64 (wrap64 (wrap64 (wrap64 (wrap64 (wrap64 (kk + 1) + 1) + 1) + 1) + 1) + 1) + 1) + 1)⟩, wrap64 (wrap64 (wrap64 (wrap64 (wrap64 (wrap64 (wrap64 (wrap64 (wrap64 (kk + 1) + 1) + 1) + 1) + 1) + 1) + 1) + 1) + 1), x.f2⟩ : S96)) (x' := (⟨⟨⟨kk, wrap64 (kk + 1)⟩, ⟨wrap64 (wrap64 (kk + 1) + 1), wrap64 (wrap64 (wrap64 (kk + 1) + 1) + 1)⟩, ⟨wrap64 (wrap64 (wrap64 (wrap64 (kk + 1) + 1) + 1) + 1), wrap64 (wrap64 (wrap64 (wrap64 (wrap64 (kk + 1) + 1) + 1) + 1) + 1)⟩, ⟨wrap64 (wrap64 (wrap64 (wrap64 (wrap64 (wrap64 (kk + 1) + 1) + 1) + 1) + 1) + 1), wrap64 (wrap64 (wrap64 (wrap64 (wrap64 (wrap64 (wrap64 (kk + 1) + 1) + 1) + 1) + 1) + 1) + 1)⟩, wrap64 (wrap64 (wrap64 (wrap64 (wrap64 (wrap64 (wrap64 (wrap64 (kk + 1) + 1) + 1) + 1) + 1) + 1) + 1) + 1)⟩, wrap64 (wrap64 (wrap64 (wrap64 (wrap64 (wrap64 (wrap64 (wrap64 (wrap64 (kk + 1) + 1) + 1) + 1) + 1) + 1) + 1) + 1) + 1), wrap64 (wrap64 (wrap64 (wrap64 (wrap64 (wrap64 (wrap64 (wrap64 (wrap64 (wrap64 (kk + 1) + 1) + 1) + 1) + 1) + 1) + 1) + 1) + 1) + 1)⟩ : S96)) (j := 10) (by decide) (u := .int .i64 (wrap64 (wrap64 (wrap64 (wrap64 (wrap64 (wrap64 (wrap64 (wrap64 (wrap64 (wrap64 (kk + 1) + 1) + 1) + 1) + 1) + 1) + 1) + 1) + 1) + 1))) rfl ?hr ?_; (case hr => intro vx hx hf; (first | (go_simp; done) | (go_simp; rfl))); intro w10_ HM2; have HM3 := Aside0.mk HM2; clear HM HM2; have HM := HM3; clear HM3))
      go_roundg (xs.length)
      case measure => omega
      case rel => exact ⟨dn ++ [(⟨⟨⟨kk, wrap64 (kk + 1)⟩, ⟨wrap64 (wrap64 (kk + 1) + 1), wrap64 (wrap64 (wrap64 (kk + 1) + 1) + 1)⟩, ⟨wrap64 (wrap64 (wrap64 (wrap64 (kk + 1) + 1) + 1) + 1), wrap64 (wrap64 (wrap64 (wrap64 (wrap64 (kk + 1) + 1) + 1) + 1) + 1)⟩, ⟨wrap64 (wrap64 (wrap64 (wrap64 (wrap64 (wrap64 (kk + 1) + 1) + 1) + 1) + 1) + 1), wrap64 (wrap64 (wrap64 (wrap64 (wrap64 (wrap64 (wrap64 (kk + 1) + 1) + 1) + 1) + 1) + 1) + 1)⟩, wrap64 (wrap64 (wrap64 (wrap64 (wrap64 (wrap64 (wrap64 (wrap64 (kk + 1) + 1) + 1) + 1) + 1) + 1) + 1) + 1)⟩, wrap64 (wrap64 (wrap64 (wrap64 (wrap64 (wrap64 (wrap64 (wrap64 (wrap64 (kk + 1) + 1) + 1) + 1) + 1) + 1) + 1) + 1) + 1), wrap64 (wrap64 (wrap64 (wrap64 (wrap64 (wrap64 (wrap64 (wrap64 (wrap64 (wrap64 (kk + 1) + 1) + 1) + 1) + 1) + 1) + 1) + 1) + 1) + 1)⟩ : S96)], xs, wrap64 (wrap64 (wrap64 (wrap64 (wrap64 (wrap64 (wrap64 (wrap64 (wrap64 (wrap64 (wrap64 (kk + 1) + 1) + 1) + 1) + 1) + 1) + 1) + 1) + 1) + 1) + 1), Nat.le_refl _, rfl, (by have hl2 := HL.out; rw [List.length_cons] at hl2; refine congrArg (Value.int .i64) ?_; rw [List.length_append, List.length_singleton]; unfold wrap64; omega), ⟨by have := HL.out; rw [List.length_cons] at this; rw [List.length_append, List.length_singleton]; omega⟩, ⟨by rw [List.append_assoc]; exact HF.out⟩, ⟨by rw [List.append_assoc]; exact HM.out⟩⟩

/-! ### spec_l3Range: function 93 -/
def spec_l3Range.f (a0_0 : Int) (a0_1 : Int) (a1 : Int) : Option (Bool) := if a0_0 ≥ 0 then (if a0_0 ≤ a0_1 then (some (decide (a0_1 ≤ a1))) else (some false)) else (some false)
set_option maxHeartbeats 8000000 in
set_option maxRecDepth 100000 in
theorem spec_l3Range.calls (a0_0 : Int) (a0_1 : Int) (a1 : Int) (r : Bool) (w : World) (h : spec_l3Range.f a0_0 a0_1 a1 = some r) :
  Calls Try.prog 93 #[.agg #[.int .i64 a0_0, .int .i64 a0_1], .int .i64 a1] w fun e w' => e = .returned (.bool r) ∧ Below w.heap.size w w' := by
 have hu50 := Try.underlying50
 have HB := Aside0.mk (Below.refl w.heap.size w)
 have H : (if a0_0 ≥ 0 then (if a0_0 ≤ a0_1 then (some (decide (a0_1 ≤ a1))) else (some false)) else (some false)) = some r := h
 clear h
 by_cases c3 : a0_0 ≥ 0
 ·
  rw [if_pos c3] at H
  have c3b0 : decide (0 ≤ a0_0) = true := decide_eq_true c3
  clear c3
  by_cases c4 : a0_0 ≤ a0_1
  ·
   rw [if_pos c4] at H
   have c4b0 : decide (a0_0 ≤ a0_1) = true := decide_eq_true c4
   clear c4
   obtain rfl := Option.some.inj H
   go_enter Try.func93, Try.ntmps93
   go_wp2_with (first | ((with_reducible refine gate_dst (N := 2) rfl ?_); refine box_event ?hg (N := 2) ?hd (cs := #[.int .i64 a0_0, .int .i64 a0_1]) (t := 50) ?hr ?_; (case hd => rfl); (case hg => rfl); (case hr => first | (go_simp; done) | (go_simp; rfl)); intro gb157 hg w5 hbox hb; have n0_ := Aside0.mk (below_step (by repeat (first | (with_reducible first | exact HB.out | apply below_alloc | apply pw_below_drewN | apply below_drew1) | exact HB.out)) hb); have n1_ := Aside0.mk (hbox); have n2_ := Aside0.mk ((by rw [hg]; exact (below_size (by repeat (first | (with_reducible first | exact HB.out | apply below_alloc | apply pw_below_drewN | apply below_drew1) | exact HB.out))) : w.heap.size ≤ gb157)); have n3_ := Aside0.mk ((by rw [hg]; exact (below_size (by repeat (first | (with_reducible first | exact HB.out | apply below_alloc | apply pw_below_drewN | apply below_drew1) | exact HB.out))) : w.heap.size ≤ gb157)); clear HB; have HB := n0_; have BK157 := n1_; have GW157 := n2_; have GE157 := n3_; clear n0_ n1_ n2_ n3_; clear hb hbox hg; have hcz6_0 : w5.cell? ⟨gb157, 0, none⟩ = some (.int .i64 a0_0) := (blk_cell BK157.out 0).trans rfl; have hcz6_1 : w5.cell? ⟨gb157, 1, none⟩ = some (.int .i64 a0_1) := (blk_cell BK157.out 1).trans rfl; have hfz6_0 := blk_frozen BK157.out 0; have hfz6_1 := blk_frozen BK157.out 1))
   go_ret
   exact ⟨by first | rfl | (simp [errW_none, errW_some] <;> rfl) | (simp [*, errW_none, errW_some] <;> rfl), by repeat (first | (with_reducible first | exact HB.out | apply below_alloc | apply pw_below_drewN | apply below_drew1 | refine below_set ?_ GE157.out) | exact HB.out)⟩
  ·
   rw [if_neg c4] at H
   have c4b0 : decide (a0_0 ≤ a0_1) = false := decide_eq_false c4
   clear c4
   obtain rfl := Option.some.inj H
   go_enter Try.func93, Try.ntmps93
   go_wp2_with (first | ((with_reducible refine gate_dst (N := 2) rfl ?_); refine box_event ?hg (N := 2) ?hd (cs := #[.int .i64 a0_0, .int .i64 a0_1]) (t := 50) ?hr ?_; (case hd => rfl); (case hg => rfl); (case hr => first | (go_simp; done) | (go_simp; rfl)); intro gb157 hg w7 hbox hb; have n0_ := Aside0.mk (below_step (by repeat (first | (with_reducible first | exact HB.out | apply below_alloc | apply pw_below_drewN | apply below_drew1) | exact HB.out)) hb); have n1_ := Aside0.mk (hbox); have n2_ := Aside0.mk ((by rw [hg]; exact (below_size (by repeat (first | (with_reducible first | exact HB.out | apply below_alloc | apply pw_below_drewN | apply below_drew1) | exact HB.out))) : w.heap.size ≤ gb157)); have n3_ := Aside0.mk ((by rw [hg]; exact (below_size (by repeat (first | (with_reducible first | exact HB.out | apply below_alloc | apply pw_below_drewN | apply below_drew1) | exact HB.out))) : w.heap.size ≤ gb157)); clear HB; have HB := n0_; have BK157 := n1_; have GW157 := n2_; have GE157 := n3_; clear n0_ n1_ n2_ n3_; clear hb hbox hg; have hcz8_0 : w7.cell? ⟨gb157, 0, none⟩ = some (.int .i64 a0_0) := (blk_cell BK157.out 0).trans rfl; have hcz8_1 : w7.cell? ⟨gb157, 1, none⟩ = some (.int .i64 a0_1) := (blk_cell BK157.out 1).trans rfl; have hfz8_0 := blk_frozen BK157.out 0; have hfz8_1 := blk_frozen BK157.out 1))
   go_ret
   exact ⟨by first | rfl | (simp [errW_none, errW_some] <;> rfl) | (simp [*, errW_none, errW_some] <;> rfl), by repeat (first | (with_reducible first | exact HB.out | apply below_alloc | apply pw_below_drewN | apply below_drew1 | refine below_set ?_ GE157.out) | exact HB.out)⟩
 ·
  rw [if_neg c3] at H
  have c3b0 : decide (0 ≤ a0_0) = false := decide_eq_false c3
  clear c3
  obtain rfl := Option.some.inj H
  go_enter Try.func93, Try.ntmps93
  go_wp2_with (first | ((with_reducible refine gate_dst (N := 2) rfl ?_); refine box_event ?hg (N := 2) ?hd (cs := #[.int .i64 a0_0, .int .i64 a0_1]) (t := 50) ?hr ?_; (case hd => rfl); (case hg => rfl); (case hr => first | (go_simp; done) | (go_simp; rfl)); intro gb157 hg w9 hbox hb; have n0_ := Aside0.mk (below_step (by repeat (first | (with_reducible first | exact HB.out | apply below_alloc | apply pw_below_drewN | apply below_drew1) | exact HB.out)) hb); have n1_ := Aside0.mk (hbox); have n2_ := Aside0.mk ((by rw [hg]; exact (below_size (by repeat (first | (with_reducible first | exact HB.out | apply below_alloc | apply pw_below_drewN | apply below_drew1) | exact HB.out))) : w.heap.size ≤ gb157)); have n3_ := Aside0.mk ((by rw [hg]; exact (below_size (by repeat (first | (with_reducible first | exact HB.out | apply below_alloc | apply pw_below_drewN | apply below_drew1) | exact HB.out))) : w.heap.size ≤ gb157)); clear HB; have HB := n0_; have BK157 := n1_; have GW157 := n2_; have GE157 := n3_; clear n0_ n1_ n2_ n3_; clear hb hbox hg; have hcz10_0 : w9.cell? ⟨gb157, 0, none⟩ = some (.int .i64 a0_0) := (blk_cell BK157.out 0).trans rfl; have hcz10_1 : w9.cell? ⟨gb157, 1, none⟩ = some (.int .i64 a0_1) := (blk_cell BK157.out 1).trans rfl; have hfz10_0 := blk_frozen BK157.out 0; have hfz10_1 := blk_frozen BK157.out 1))
  go_ret
  exact ⟨by first | rfl | (simp [errW_none, errW_some] <;> rfl) | (simp [*, errW_none, errW_some] <;> rfl), by repeat (first | (with_reducible first | exact HB.out | apply below_alloc | apply pw_below_drewN | apply below_drew1 | refine below_set ?_ GE157.out) | exact HB.out)⟩

/-! ### spec_l1In: function 94 -/
def spec_l1In.f (a0 : Int) (a1 : Int) (a2 : Int) : Option (Bool) := if a0 ≥ a1 then (some (decide (a0 ≤ a2))) else (some false)
set_option maxHeartbeats 8000000 in
set_option maxRecDepth 100000 in
theorem spec_l1In.calls (a0 : Int) (a1 : Int) (a2 : Int) (r : Bool) (w : World) (h : spec_l1In.f a0 a1 a2 = some r) :
  Calls Try.prog 94 #[.int .i64 a0, .int .i64 a1, .int .i64 a2] w fun e w' => e = .returned (.bool r) ∧ Drawn0 w w' := by
 have H : (if a0 ≥ a1 then (some (decide (a0 ≤ a2))) else (some false)) = some r := h
 clear h
 by_cases c4 : a0 ≥ a1
 ·
  rw [if_pos c4] at H
  have c4b0 : decide (a1 ≤ a0) = true := decide_eq_true c4
  clear c4
  obtain rfl := Option.some.inj H
  go_enter Try.func94, Try.ntmps94
  go_wp2
  go_ret
  exact ⟨by first | rfl | (simp; done) | (simp [*]; done), by repeat (first | exact Drawn0.refl _ | apply Drawn0.step)⟩
 ·
  rw [if_neg c4] at H
  have c4b0 : decide (a1 ≤ a0) = false := decide_eq_false c4
  clear c4
  obtain rfl := Option.some.inj H
  go_enter Try.func94, Try.ntmps94
  go_wp2
  go_ret
  exact ⟨by first | rfl | (simp; done) | (simp [*]; done), by repeat (first | exact Drawn0.refl _ | apply Drawn0.step)⟩

/-! ### spec_HasPorts: function 95 -/
def spec_HasPorts.f (a0 : Int) : Option (Bool) := if a0 = 6 then (some true) else (some (a0 == 17))
set_option maxHeartbeats 8000000 in
set_option maxRecDepth 100000 in
theorem spec_HasPorts.calls (a0 : Int) (r : Bool) (w : World) (h : spec_HasPorts.f a0 = some r) :
  Calls Try.prog 95 #[.int .i64 a0] w fun e w' => e = .returned (.bool r) ∧ Drawn0 w w' := by
 have H : (if a0 = 6 then (some true) else (some (a0 == 17))) = some r := h
 clear h
 by_cases c2 : a0 = 6
 ·
  rw [if_pos c2] at H
  have c2b0 : (a0 == 6) = true := beq_iff_eq.mpr c2
  have c2b1 : (a0 != 6) = false := bne_eq_false_iff_eq.mpr c2
  clear c2
  obtain rfl := Option.some.inj H
  go_enter Try.func95, Try.ntmps95
  go_wp2
  go_ret
  exact ⟨by first | rfl | (simp; done) | (simp [*]; done), by repeat (first | exact Drawn0.refl _ | apply Drawn0.step)⟩
 ·
  rw [if_neg c2] at H
  have c2b0 : (a0 == 6) = false := beq_eq_false_iff_ne.mpr c2
  have c2b1 : (a0 != 6) = true := bne_iff_ne.mpr c2
  obtain rfl := Option.some.inj H
  go_enter Try.func95, Try.ntmps95
  go_wp2
  go_ret
  exact ⟨by first | rfl | (simp; done) | (simp [*]; done), by repeat (first | exact Drawn0.refl _ | apply Drawn0.step)⟩

/-! ### spec_l3All: function 96 -/
def spec_l3All.f  : Option (Int × Int) := some (0, 65535)
set_option maxHeartbeats 8000000 in
set_option maxRecDepth 100000 in
theorem spec_l3All.calls  (r1 : Int) (r2 : Int) (w : World) (h : spec_l3All.f  = some (r1, r2)) :
  Calls Try.prog 96 #[] w fun e w' => e = .returned (.agg #[.int .i64 r1, .int .i64 r2]) ∧ Below w.heap.size w w' := by
 have hu50 := Try.underlying50
 have HB := Aside0.mk (Below.refl w.heap.size w)
 have H : (some (0, 65535)) = some (r1, r2) := h
 clear h
 simp only [Option.some.injEq, Prod.mk.injEq] at H
 obtain ⟨rfl, rfl⟩ := H
 go_enter Try.func96, Try.ntmps96
 go_wp2_with (first | ((with_reducible refine gate_dst (N := 0) rfl ?_); refine box_event ?hg (N := 0) ?hd (cs := #[.int .i64 0, .int .i64 0]) (t := 50) ?hr ?_; (case hd => rfl); (case hg => rfl); (case hr => first | (go_simp; done) | (go_simp; rfl)); intro gb158 hg w1 hbox hb; have n0_ := Aside0.mk (below_step (by repeat (first | (with_reducible first | exact HB.out | apply below_alloc | apply pw_below_drewN | apply below_drew1) | exact HB.out)) hb); have n1_ := Aside0.mk (hbox); have n2_ := Aside0.mk ((by rw [hg]; exact (below_size (by repeat (first | (with_reducible first | exact HB.out | apply below_alloc | apply pw_below_drewN | apply below_drew1) | exact HB.out))) : w.heap.size ≤ gb158)); have n3_ := Aside0.mk ((by rw [hg]; exact (below_size (by repeat (first | (with_reducible first | exact HB.out | apply below_alloc | apply pw_below_drewN | apply below_drew1) | exact HB.out))) : w.heap.size ≤ gb158)); clear HB; have HB := n0_; have BK158 := n1_; have GW158 := n2_; have GE158 := n3_; clear n0_ n1_ n2_ n3_; clear hb hbox hg; have hcz2_0 : w1.cell? ⟨gb158, 0, none⟩ = some (.int .i64 0) := (blk_cell BK158.out 0).trans rfl; have hcz2_1 : w1.cell? ⟨gb158, 1, none⟩ = some (.int .i64 0) := (blk_cell BK158.out 1).trans rfl; have hfz2_0 := blk_frozen BK158.out 0; have hfz2_1 := blk_frozen BK158.out 1))
 refine bodyPost_ret (results_cell_row rfl _ _ gb158 50 #[.int .i64 0, .int .i64 65535] (0, 0) _ rfl (by (with_reducible repeat (first | refine blk_drewN ?_ _ | refine blk_drew ?_ | refine blk_alloc ?_ _)); refine blk_put (cs := #[.int .i64 0, .int .i64 0]) ?_ 1 _ rfl; (with_reducible repeat (first | refine blk_drewN ?_ _ | refine blk_drew ?_ | refine blk_alloc ?_ _)); refine blk_put (cs := #[.int .i64 0, .int .i64 0]) ?_ 0 _ rfl; (with_reducible repeat (first | refine blk_drewN ?_ _ | refine blk_drew ?_ | refine blk_alloc ?_ _)); exact BK158.out) Try.underlying50 rfl (by kernel_rfl)) rfl ?_
 exact ⟨by first | rfl | (simp [errW_none, errW_some] <;> rfl) | (simp [*, errW_none, errW_some] <;> rfl), by repeat (first | (with_reducible first | exact HB.out | apply below_alloc | apply pw_below_drewN | apply below_drew1 | refine below_set ?_ GE158.out) | exact HB.out)⟩

end Go.Proofs.Yteelmjkoncomiaa.PFnExactTrimPolicy
