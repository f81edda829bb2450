-- Written by wip/tools/myprint.py of this claim's session, over the kit's print, round texts of its own: own text.
import Derived.Test.YteelmjkoncomiaaPFnExactRulesOfx0
import Derived.Test.YteelmjkoncomiaaPFnExactRulesOfx2
import Derived.Test.YteelmjkoncomiaaPFnExactRulesOfx3
namespace Go.Proofs.Yteelmjkoncomiaa.PFnExactRulesOf
open Go.RowKit Go.Proofs.YteelmjkoncomiaaW.PrintWords Go.Proofs.YteelmjkoncomiaaW.PrintLast Go.Proofs.YteelmjkoncomiaaW.PrintMore
attribute [local go_sem] max2_int min2_int max_two min_two max_three min_three max_four min_four   -- for this text's walks alone
set_option linter.unusedVariables false
set_option linter.unusedSimpArgs false

/-! ### laws_eqSelS: function 27 -/
def laws_eqSelS.l0 : Nat → List (S52) → List (S52) → Int → Option (Bool)
 | 0, _, _, _ => none
 | k + 1, x0, x1, x5 => if x5 < (x0.length : Int) then (if 0 ≤ x5 then (if x5 < (x1.length : Int) then ((laws_eqSel.f ((rd_T52 x0 x5).f0.f0) ((rd_T52 x0 x5).f0.f1) ((rd_T52 x0 x5).f1.f0) ((rd_T52 x0 x5).f1.f1) ((rd_T52 x0 x5).f2.f0) ((rd_T52 x0 x5).f2.f1) ((rd_T52 x0 x5).f3.f0) ((rd_T52 x0 x5).f3.f1) ((rd_T52 x0 x5).f4) ((rd_T52 x1 x5).f0.f0) ((rd_T52 x1 x5).f0.f1) ((rd_T52 x1 x5).f1.f0) ((rd_T52 x1 x5).f1.f1) ((rd_T52 x1 x5).f2.f0) ((rd_T52 x1 x5).f2.f1) ((rd_T52 x1 x5).f3.f0) ((rd_T52 x1 x5).f3.f1) ((rd_T52 x1 x5).f4)).bind fun t224 => (if t224 = true then (laws_eqSelS.l0 k x0 x1 (wrap64 (x5 + 1))) else (some false))) else (none)) else (none)) else (some true)
def laws_eqSelS.f (k : Nat) (l0 : List (S52)) (l1 : List (S52)) : Option (Bool) := if (l0.length : Int) = (l1.length : Int) then (laws_eqSelS.l0 k l0 l1 0) else (some false)
theorem laws_eqSelS.mono_l : ∀ k, (∀ y0 y1 y2, LeO (laws_eqSelS.l0 k y0 y1 y2) (laws_eqSelS.l0 (k + 1) y0 y1 y2))
 | 0 => fun _ _ _ r h => by simp [laws_eqSelS.l0] at h
 | k + 1 => by
  have ih0 := laws_eqSelS.mono_l k
  ·
   intro y0 y1 y2
   unfold laws_eqSelS.l0
   repeat' first
   | (with_reducible exact ih0 _ _ _)
   | (with_reducible exact LeO.refl _)
   | (with_reducible exact LeO.none _)
   | (with_reducible refine LeO.ite ?_ ?_)
   | (with_reducible refine LeO.bind ?_ (fun _ => ?_))
   | exact ih0 _ _ _
   | exact LeO.none _
   | refine LeO.ite ?_ ?_
   | refine LeO.bind ?_ (fun _ => ?_)
theorem laws_eqSelS.mono : ∀ a0 a1 k, LeO (laws_eqSelS.f k a0 a1) (laws_eqSelS.f (k + 1) a0 a1) := by
 intro a0 a1 k
 have ih0 := laws_eqSelS.mono_l k
 unfold laws_eqSelS.f
 repeat' first
   | (with_reducible exact ih0 _ _ _)
   | (with_reducible exact LeO.refl _)
   | (with_reducible exact LeO.none _)
   | (with_reducible refine LeO.ite ?_ ?_)
   | (with_reducible refine LeO.bind ?_ (fun _ => ?_))
   | exact ih0 _ _ _
   | exact LeO.none _
   | refine LeO.ite ?_ ?_
   | refine LeO.bind ?_ (fun _ => ?_)
def laws_eqSelS.T6 : Bool × List (List Nat × List Nat) := (true, [([], []), ([], []), ([0, 1], [0, 1]), ([2], [2]), ([], []), ([], []), ([4, 5], [4, 5]), ([6], [6]), ([3, 7], [3, 7]), ([8], [8])])
def laws_eqSelS.B6 : List Nat := [0, 0, 3, 7, 0, 0, 48, 112, 255, 511]
theorem laws_eqSelS.tab6 : rtab .any (opsOf Try.f27 6) = laws_eqSelS.T6 := by kernel_rfl
theorem laws_eqSelS.bits6 : waitsOk laws_eqSelS.T6.2 laws_eqSelS.B6 = true := by kernel_rfl
set_option maxHeartbeats 8000000 in
set_option maxRecDepth 100000 in
theorem laws_eqSelS.calls (k : Nat) (A0 : Option Addr) (c0 : Nat) (l0 : List (S52)) (A1 : Option Addr) (c1 : Nat) (l1 : List (S52)) (r : Bool) (w : World) (hr0 : Kd.C k52 w A0 l0.length l0) (hc0 : l0.length ≤ c0) (hr1 : Kd.C k52 w A1 l1.length l1) (hc1 : l1.length ≤ c1) (h : laws_eqSelS.f k l0 l1 = some r) :
  Calls Try.prog 27 #[.slice A0 l0.length c0, .slice A1 l1.length c1] w fun e w' => e = .returned (.bool r) ∧ Below w.heap.size w w' := by
 have hu52 := Try.underlying52
 have HR0 := Aside0.mk hr0
 have HC0 := Aside0.mk hc0
 clear hr0 hc0
 have HR1 := Aside0.mk hr1
 have HC1 := Aside0.mk hc1
 clear hr1 hc1
 have HB := Aside0.mk (Below.refl w.heap.size w)
 have H : (if (l0.length : Int) = (l1.length : Int) then (laws_eqSelS.l0 k l0 l1 0) else (some false)) = some r := h
 clear h
 by_cases c3 : (l0.length : Int) = (l1.length : Int)
 ·
  rw [if_pos c3] at H
  have c3b0 : ((l0.length : Int) == (l1.length : Int)) = true := beq_iff_eq.mpr c3
  have c3b1 : ((l0.length : Int) != (l1.length : Int)) = false := bne_eq_false_iff_eq.mpr c3
  have c3b2 : (l0.length == l1.length) = true := by first | simpa using c3 | (simp at c3 ⊢; omega)
  clear c3
  have H' := Aside0.mk H
  clear H
  go_enter Try.func27, Try.ntmps27
  go_wp2
  go_loopg [5] k (fun kq v5 w' => ∃ (x5_1 : Int), v5 = .int .i64 x5_1 ∧ Aside0 (laws_eqSelS.l0 kq l0 l1 x5_1 = some r) ∧ Aside0 (kq ≤ k) ∧ Aside0 (Below w.heap.size w w'))
  case atStart => exact ⟨(0), (by first | rfl | (simp; done) | (simp [*]; done)), H', ⟨Nat.le_refl _⟩, ⟨by repeat (first | (with_reducible first | exact HB.out | apply below_alloc | apply pw_below_drewN | apply below_drew1) | exact HB.out)⟩⟩
  case round =>
   clear H'
   try clear c1; try clear c2; try clear p2; try clear c3; try clear c3b0; try clear c3b1; try clear c3b2
   obtain ⟨x5_1, rfl, HA, HK1, HB⟩ := hrel
   cases gk with
   | zero => exact absurd HA.out (by simp [laws_eqSelS.l0])
   | succ k1 =>
    have H := HA.out
    clear HA
    simp only [laws_eqSelS.l0] at H
    by_cases c4 : x5_1 < (l0.length : Int)
    ·
     rw [if_pos c4] at H
     have c4b0 : decide (x5_1 < (l0.length : Int)) = true := decide_eq_true c4
     clear c4
     by_cases c5 : 0 ≤ x5_1
     ·
      rw [if_pos c5] at H
      have c5b0 : decide (0 ≤ x5_1) = true := decide_eq_true c5
      clear c5
      by_cases c6 : x5_1 < (l1.length : Int)
      ·
       rw [if_pos c6] at H
       have c6b0 : decide (x5_1 < (l1.length : Int)) = true := decide_eq_true c6
       clear c6
       replace H := Option.bind_eq_some_iff.mp H
       obtain ⟨t224, A70, H⟩ := H
       replace H : (if t224 = true then (laws_eqSelS.l0 k1 l0 l1 (wrap64 (x5_1 + 1))) else (some false)) = some r := H
       have A7 := Aside0.mk A70
       clear A70
       by_cases c8 : t224 = true
       ·
        subst c8
        have H1 : (laws_eqSelS.l0 k1 l0 l1 (wrap64 (x5_1 + 1))) = some r := by rw [if_pos rfl] at H; exact H
        clear H
        have H := H1
        clear H1
        have H' := Aside0.mk H
        clear H
        try go_wp2
        have n0_ := Aside0.mk (below_drew1 HB.out)
        clear HB
        have HB := n0_
        clear n0_
        have p222 : 0 ≤ (x5_1 : Int) := of_decide_eq_true (by first | (with_reducible assumption) | assumption)
        have q222 : x5_1 < (l0.length : Int) := of_decide_eq_true (by first | (with_reducible assumption) | assumption)
        obtain ⟨ad222, e222, hx222_0, hx222_1, hx222_2, hx222_3, hx222_4, hx222_5, hx222_6, hx222_7, hx222_8⟩ := at_T52 HR0.out x5_1 p222 q222
        have hw222_8 := hx222_8
        have hw222_7 := hx222_7
        have hw222_6 := hx222_6
        have hw222_5 := hx222_5
        have hw222_4 := hx222_4
        have hw222_3 := hx222_3
        have hw222_2 := hx222_2
        have hw222_1 := hx222_1
        have hw222_0 := hx222_0
        cases e222
        replace hx222_0 := (HB.out.cell (World.block_lt_of_cell? w _ hx222_0)).trans hx222_0
        replace hx222_1 := (HB.out.cell (World.block_lt_of_cell? w _ hx222_1)).trans hx222_1
        replace hx222_2 := (HB.out.cell (World.block_lt_of_cell? w _ hx222_2)).trans hx222_2
        replace hx222_3 := (HB.out.cell (World.block_lt_of_cell? w _ hx222_3)).trans hx222_3
        replace hx222_4 := (HB.out.cell (World.block_lt_of_cell? w _ hx222_4)).trans hx222_4
        replace hx222_5 := (HB.out.cell (World.block_lt_of_cell? w _ hx222_5)).trans hx222_5
        replace hx222_6 := (HB.out.cell (World.block_lt_of_cell? w _ hx222_6)).trans hx222_6
        replace hx222_7 := (HB.out.cell (World.block_lt_of_cell? w _ hx222_7)).trans hx222_7
        replace hx222_8 := (HB.out.cell (World.block_lt_of_cell? w _ hx222_8)).trans hx222_8
        replace p222 := eq_true p222
        replace q222 := eq_true q222
        have p223 : 0 ≤ (x5_1 : Int) := of_decide_eq_true (by first | (with_reducible assumption) | assumption)
        have q223 : x5_1 < (l1.length : Int) := of_decide_eq_true (by first | (with_reducible assumption) | assumption)
        obtain ⟨ad223, e223, hx223_0, hx223_1, hx223_2, hx223_3, hx223_4, hx223_5, hx223_6, hx223_7, hx223_8⟩ := at_T52 HR1.out x5_1 p223 q223
        have hw223_8 := hx223_8
        have hw223_7 := hx223_7
        have hw223_6 := hx223_6
        have hw223_5 := hx223_5
        have hw223_4 := hx223_4
        have hw223_3 := hx223_3
        have hw223_2 := hx223_2
        have hw223_1 := hx223_1
        have hw223_0 := hx223_0
        cases e223
        replace hx223_0 := (HB.out.cell (World.block_lt_of_cell? w _ hx223_0)).trans hx223_0
        replace hx223_1 := (HB.out.cell (World.block_lt_of_cell? w _ hx223_1)).trans hx223_1
        replace hx223_2 := (HB.out.cell (World.block_lt_of_cell? w _ hx223_2)).trans hx223_2
        replace hx223_3 := (HB.out.cell (World.block_lt_of_cell? w _ hx223_3)).trans hx223_3
        replace hx223_4 := (HB.out.cell (World.block_lt_of_cell? w _ hx223_4)).trans hx223_4
        replace hx223_5 := (HB.out.cell (World.block_lt_of_cell? w _ hx223_5)).trans hx223_5
        replace hx223_6 := (HB.out.cell (World.block_lt_of_cell? w _ hx223_6)).trans hx223_6
        replace hx223_7 := (HB.out.cell (World.block_lt_of_cell? w _ hx223_7)).trans hx223_7
        replace hx223_8 := (HB.out.cell (World.block_lt_of_cell? w _ hx223_8)).trans hx223_8
        replace p223 := eq_true p223
        replace q223 := eq_true q223
        refine start_ (n := 10) (S := fun w' => w'.cell? (ad222.add ((x5_1).toNat * 9)) = some (.int .i64 ((rd_T52 l0 x5_1).f0.f0)) ∧ w'.cell? ⟨(ad222.add ((x5_1).toNat * 9)).block, (ad222.add ((x5_1).toNat * 9)).off + 1, none⟩ = some (.int .i64 ((rd_T52 l0 x5_1).f0.f1)) ∧ w'.cell? ⟨(ad222.add ((x5_1).toNat * 9)).block, (ad222.add ((x5_1).toNat * 9)).off + 2, none⟩ = some (.int .i64 ((rd_T52 l0 x5_1).f1.f0)) ∧ w'.cell? ⟨(ad222.add ((x5_1).toNat * 9)).block, (ad222.add ((x5_1).toNat * 9)).off + 3, none⟩ = some (.int .i64 ((rd_T52 l0 x5_1).f1.f1)) ∧ w'.cell? ⟨(ad222.add ((x5_1).toNat * 9)).block, (ad222.add ((x5_1).toNat * 9)).off + 4, none⟩ = some (.int .i64 ((rd_T52 l0 x5_1).f2.f0)) ∧ w'.cell? ⟨(ad222.add ((x5_1).toNat * 9)).block, (ad222.add ((x5_1).toNat * 9)).off + 5, none⟩ = some (.int .i64 ((rd_T52 l0 x5_1).f2.f1)) ∧ w'.cell? ⟨(ad222.add ((x5_1).toNat * 9)).block, (ad222.add ((x5_1).toNat * 9)).off + 6, none⟩ = some (.int .i64 ((rd_T52 l0 x5_1).f3.f0)) ∧ w'.cell? ⟨(ad222.add ((x5_1).toNat * 9)).block, (ad222.add ((x5_1).toNat * 9)).off + 7, none⟩ = some (.int .i64 ((rd_T52 l0 x5_1).f3.f1)) ∧ w'.cell? ⟨(ad222.add ((x5_1).toNat * 9)).block, (ad222.add ((x5_1).toNat * 9)).off + 8, none⟩ = some (.int .i64 ((rd_T52 l0 x5_1).f4)) ∧ w'.cell? (ad223.add ((x5_1).toNat * 9)) = some (.int .i64 ((rd_T52 l1 x5_1).f0.f0)) ∧ w'.cell? ⟨(ad223.add ((x5_1).toNat * 9)).block, (ad223.add ((x5_1).toNat * 9)).off + 1, none⟩ = some (.int .i64 ((rd_T52 l1 x5_1).f0.f1)) ∧ w'.cell? ⟨(ad223.add ((x5_1).toNat * 9)).block, (ad223.add ((x5_1).toNat * 9)).off + 2, none⟩ = some (.int .i64 ((rd_T52 l1 x5_1).f1.f0)) ∧ w'.cell? ⟨(ad223.add ((x5_1).toNat * 9)).block, (ad223.add ((x5_1).toNat * 9)).off + 3, none⟩ = some (.int .i64 ((rd_T52 l1 x5_1).f1.f1)) ∧ w'.cell? ⟨(ad223.add ((x5_1).toNat * 9)).block, (ad223.add ((x5_1).toNat * 9)).off + 4, none⟩ = some (.int .i64 ((rd_T52 l1 x5_1).f2.f0)) ∧ w'.cell? ⟨(ad223.add ((x5_1).toNat * 9)).block, (ad223.add ((x5_1).toNat * 9)).off + 5, none⟩ = some (.int .i64 ((rd_T52 l1 x5_1).f2.f1)) ∧ w'.cell? ⟨(ad223.add ((x5_1).toNat * 9)).block, (ad223.add ((x5_1).toNat * 9)).off + 6, none⟩ = some (.int .i64 ((rd_T52 l1 x5_1).f3.f0)) ∧ w'.cell? ⟨(ad223.add ((x5_1).toNat * 9)).block, (ad223.add ((x5_1).toNat * 9)).off + 7, none⟩ = some (.int .i64 ((rd_T52 l1 x5_1).f3.f1)) ∧ w'.cell? ⟨(ad223.add ((x5_1).toNat * 9)).block, (ad223.add ((x5_1).toNat * 9)).off + 8, none⟩ = some (.int .i64 ((rd_T52 l1 x5_1).f4))) (ds := []) #[false, false, false, false, false, false, false, false, false, false] (by kernel_rfl) rfl rfl ⟨((HB.out.cell (World.block_lt_of_cell? w _ hw222_0)).trans hw222_0), ((HB.out.cell (World.block_lt_of_cell? w _ hw222_1)).trans hw222_1), ((HB.out.cell (World.block_lt_of_cell? w _ hw222_2)).trans hw222_2), ((HB.out.cell (World.block_lt_of_cell? w _ hw222_3)).trans hw222_3), ((HB.out.cell (World.block_lt_of_cell? w _ hw222_4)).trans hw222_4), ((HB.out.cell (World.block_lt_of_cell? w _ hw222_5)).trans hw222_5), ((HB.out.cell (World.block_lt_of_cell? w _ hw222_6)).trans hw222_6), ((HB.out.cell (World.block_lt_of_cell? w _ hw222_7)).trans hw222_7), ((HB.out.cell (World.block_lt_of_cell? w _ hw222_8)).trans hw222_8), ((HB.out.cell (World.block_lt_of_cell? w _ hw223_0)).trans hw223_0), ((HB.out.cell (World.block_lt_of_cell? w _ hw223_1)).trans hw223_1), ((HB.out.cell (World.block_lt_of_cell? w _ hw223_2)).trans hw223_2), ((HB.out.cell (World.block_lt_of_cell? w _ hw223_3)).trans hw223_3), ((HB.out.cell (World.block_lt_of_cell? w _ hw223_4)).trans hw223_4), ((HB.out.cell (World.block_lt_of_cell? w _ hw223_5)).trans hw223_5), ((HB.out.cell (World.block_lt_of_cell? w _ hw223_6)).trans hw223_6), ((HB.out.cell (World.block_lt_of_cell? w _ hw223_7)).trans hw223_7), ((HB.out.cell (World.block_lt_of_cell? w _ hw223_8)).trans hw223_8)⟩ (fun hHeld => ?_); refine with_tabW laws_eqSelS.tab6 laws_eqSelS.bits6 (fun HT_ HW_ => ?_)
        generalize wr.drew = w9 at HB hx222_0 hx222_1 hx222_2 hx222_3 hx222_4 hx222_5 hx222_6 hx222_7 hx222_8 hx223_0 hx223_1 hx223_2 hx223_3 hx223_4 hx223_5 hx223_6 hx223_7 hx223_8 hHeld ⊢
        refine pure_ (i := 0) (N := some 17) (v := ?_) (a' := ?_) #[true, false, false, false, false, false, false, false, false, false] rfl rfl (any_of HT_.out (by kernel_rfl)) (fun _ _ _ h => h) (Or.inl ⟨by rfl, ?_⟩) ?_ ?_
        rotate_left
        ·
         intro w'
         go_simp
         with_reducible rfl
        rotate_left
        ·
         simp only [Act.put, List.setIfInBounds_toArray, List.set_cons_zero, List.set_cons_succ, i64_w, i32_w]
         rfl
        refine pure_ (i := 1) (N := some 18) (v := ?_) (a' := ?_) #[true, true, false, false, false, false, false, false, false, false] rfl rfl (any_of HT_.out (by kernel_rfl)) (fun _ _ _ h => h) (Or.inl ⟨by rfl, ?_⟩) ?_ ?_
        rotate_left
        ·
         intro w'
         go_simp
         with_reducible rfl
        rotate_left
        ·
         simp only [Act.put, List.setIfInBounds_toArray, List.set_cons_zero, List.set_cons_succ, i64_w, i32_w]
         rfl
        refine pure_ (i := 2) (N := some 19) (v := ?_) (a' := ?_) #[true, true, true, false, false, false, false, false, false, false] rfl rfl (any_of HT_.out (by kernel_rfl)) (fun _ _ _ h => h) (Or.inl ⟨by rfl, ?_⟩) ?_ ?_
        rotate_left
        ·
         intro w'
         go_simp
         with_reducible rfl
        rotate_left
        ·
         simp only [Act.put, List.setIfInBounds_toArray, List.set_cons_zero, List.set_cons_succ, i64_w, i32_w]
         rfl
        refine pure_ (i := 4) (N := some 21) (v := ?_) (a' := ?_) #[true, true, true, false, true, false, false, false, false, false] rfl rfl (any_of HT_.out (by kernel_rfl)) (fun _ _ _ h => h) (Or.inl ⟨by rfl, ?_⟩) ?_ ?_
        rotate_left
        ·
         intro w'
         go_simp
         with_reducible rfl
        rotate_left
        ·
         simp only [Act.put, List.setIfInBounds_toArray, List.set_cons_zero, List.set_cons_succ, i64_w, i32_w]
         rfl
        refine pure_ (i := 5) (N := some 22) (v := ?_) (a' := ?_) #[true, true, true, false, true, true, false, false, false, false] rfl rfl (any_of HT_.out (by kernel_rfl)) (fun _ _ _ h => h) (Or.inl ⟨by rfl, ?_⟩) ?_ ?_
        rotate_left
        ·
         intro w'
         go_simp
         with_reducible rfl
        rotate_left
        ·
         simp only [Act.put, List.setIfInBounds_toArray, List.set_cons_zero, List.set_cons_succ, i64_w, i32_w]
         rfl
        refine pure_ (i := 6) (N := some 23) (v := ?_) (a' := ?_) #[true, true, true, false, true, true, true, false, false, false] rfl rfl (any_of HT_.out (by kernel_rfl)) (fun _ _ _ h => h) (Or.inl ⟨by rfl, ?_⟩) ?_ ?_
        rotate_left
        ·
         intro w'
         go_simp
         with_reducible rfl
        rotate_left
        ·
         simp only [Act.put, List.setIfInBounds_toArray, List.set_cons_zero, List.set_cons_succ, i64_w, i32_w]
         rfl
        refine take_ (i := 3) (N := some 20) (v := ?_) (a' := ?_) #[true, true, true, true, true, true, true, false, false, false] rfl rfl (take_ofW HT_.out HW_.out (by kernel_rfl)) (fun _ _ _ h => h) (Or.inl ⟨by rfl, ?_⟩) hHeld ?_ ?_
        rotate_left
        ·
         rintro w' ⟨s0, s1, s2, s3, s4, s5, s6, s7, s8, s9, s10, s11, s12, s13, s14, s15, s16, s17⟩
         go_simp
         with_reducible rfl
        rotate_left
        ·
         simp only [Act.put, List.setIfInBounds_toArray, List.set_cons_zero, List.set_cons_succ, i64_w, i32_w]
         rfl
        refine take_ (i := 7) (N := some 24) (v := ?_) (a' := ?_) #[true, true, true, true, true, true, true, true, false, false] rfl rfl (take_ofW HT_.out HW_.out (by kernel_rfl)) (fun _ _ _ h => h) (Or.inl ⟨by rfl, ?_⟩) hHeld ?_ ?_
        rotate_left
        ·
         rintro w' ⟨s0, s1, s2, s3, s4, s5, s6, s7, s8, s9, s10, s11, s12, s13, s14, s15, s16, s17⟩
         go_simp
         with_reducible rfl
        rotate_left
        ·
         simp only [Act.put, List.setIfInBounds_toArray, List.set_cons_zero, List.set_cons_succ, i64_w, i32_w]
         rfl
        refine one_ (i := 8) (N := some 25) #[true, true, true, true, true, true, true, true, true, false] rfl rfl (one_of HT_.out (by kernel_rfl)) (by decide) (fun K hK => ?_)
        refine goes_ Try.func88 (by kernel_rfl) rfl #[.agg #[.int .i64 ((rd_T52 l0 x5_1).f0.f0), .int .i64 ((rd_T52 l0 x5_1).f0.f1), .int .i64 ((rd_T52 l0 x5_1).f1.f0), .int .i64 ((rd_T52 l0 x5_1).f1.f1), .int .i64 ((rd_T52 l0 x5_1).f2.f0), .int .i64 ((rd_T52 l0 x5_1).f2.f1), .int .i64 ((rd_T52 l0 x5_1).f3.f0), .int .i64 ((rd_T52 l0 x5_1).f3.f1), .int .i64 ((rd_T52 l0 x5_1).f4)], .agg #[.int .i64 ((rd_T52 l1 x5_1).f0.f0), .int .i64 ((rd_T52 l1 x5_1).f0.f1), .int .i64 ((rd_T52 l1 x5_1).f1.f0), .int .i64 ((rd_T52 l1 x5_1).f1.f1), .int .i64 ((rd_T52 l1 x5_1).f2.f0), .int .i64 ((rd_T52 l1 x5_1).f2.f1), .int .i64 ((rd_T52 l1 x5_1).f3.f0), .int .i64 ((rd_T52 l1 x5_1).f3.f1), .int .i64 ((rd_T52 l1 x5_1).f4)]] (by rfl) rfl rfl (by (try simp only [List.map_toArray, List.map_cons, List.map_nil]); first | done | rfl | (simp only [List.length_drop, List.length_take]; rfl)) ?_
        with_reducible refine (laws_eqSel.calls ((rd_T52 l0 x5_1).f0.f0) ((rd_T52 l0 x5_1).f0.f1) ((rd_T52 l0 x5_1).f1.f0) ((rd_T52 l0 x5_1).f1.f1) ((rd_T52 l0 x5_1).f2.f0) ((rd_T52 l0 x5_1).f2.f1) ((rd_T52 l0 x5_1).f3.f0) ((rd_T52 l0 x5_1).f3.f1) ((rd_T52 l0 x5_1).f4) ((rd_T52 l1 x5_1).f0.f0) ((rd_T52 l1 x5_1).f0.f1) ((rd_T52 l1 x5_1).f1.f0) ((rd_T52 l1 x5_1).f1.f1) ((rd_T52 l1 x5_1).f2.f0) ((rd_T52 l1 x5_1).f2.f1) ((rd_T52 l1 x5_1).f3.f0) ((rd_T52 l1 x5_1).f3.f1) ((rd_T52 l1 x5_1).f4) true _ A7.out).mono ?_
        rintro e w10 ⟨rfl, hb⟩
        refine ⟨_, rfl, ?_⟩
        have n0_ := Aside0.mk (below_step (by repeat (first | (with_reducible first | exact HB.out | apply below_alloc | apply pw_below_drewN | apply below_drew1) | exact HB.out)) hb)
        clear HB
        have HB := n0_
        clear n0_
        (try clear hb)
        (try clear hb2)
        (try clear hk)
        (try clear hi)
        refine hK.out _ _ ⟨((HB.out.cell (World.block_lt_of_cell? w _ hw222_0)).trans hw222_0), ((HB.out.cell (World.block_lt_of_cell? w _ hw222_1)).trans hw222_1), ((HB.out.cell (World.block_lt_of_cell? w _ hw222_2)).trans hw222_2), ((HB.out.cell (World.block_lt_of_cell? w _ hw222_3)).trans hw222_3), ((HB.out.cell (World.block_lt_of_cell? w _ hw222_4)).trans hw222_4), ((HB.out.cell (World.block_lt_of_cell? w _ hw222_5)).trans hw222_5), ((HB.out.cell (World.block_lt_of_cell? w _ hw222_6)).trans hw222_6), ((HB.out.cell (World.block_lt_of_cell? w _ hw222_7)).trans hw222_7), ((HB.out.cell (World.block_lt_of_cell? w _ hw222_8)).trans hw222_8), ((HB.out.cell (World.block_lt_of_cell? w _ hw223_0)).trans hw223_0), ((HB.out.cell (World.block_lt_of_cell? w _ hw223_1)).trans hw223_1), ((HB.out.cell (World.block_lt_of_cell? w _ hw223_2)).trans hw223_2), ((HB.out.cell (World.block_lt_of_cell? w _ hw223_3)).trans hw223_3), ((HB.out.cell (World.block_lt_of_cell? w _ hw223_4)).trans hw223_4), ((HB.out.cell (World.block_lt_of_cell? w _ hw223_5)).trans hw223_5), ((HB.out.cell (World.block_lt_of_cell? w _ hw223_6)).trans hw223_6), ((HB.out.cell (World.block_lt_of_cell? w _ hw223_7)).trans hw223_7), ((HB.out.cell (World.block_lt_of_cell? w _ hw223_8)).trans hw223_8)⟩ (fun hHeld => ?_)
        clear hK K
        refine norm_ (a' := ?_) ?_ ?_
        rotate_left
        ·
         show Act.put _ (some 25) _ = _
         simp only [Act.put, List.setIfInBounds_toArray, List.set_cons_zero, List.set_cons_succ, i64_w, i32_w]
         rfl
        refine pure_ (i := 9) (N := some 26) (v := ?_) (a' := ?_) #[true, true, true, true, true, true, true, true, true, true] rfl rfl (any_of HT_.out (by kernel_rfl)) (fun _ _ _ h => h) (Or.inl ⟨by rfl, ?_⟩) ?_ ?_
        rotate_left
        ·
         intro w'
         go_simp
         with_reducible rfl
        rotate_left
        ·
         simp only [Act.put, List.setIfInBounds_toArray, List.set_cons_zero, List.set_cons_succ, i64_w, i32_w]
         rfl
        refine done_ (done_of HT_.out (by kernel_rfl)) ?_
        try go_wp2
        go_roundg k1
        case measure => have := HK1.out; omega
        case rel => exact ⟨(wrap64 (x5_1 + 1)), (by first | rfl | (simp; done) | (simp [*]; done)), H', ⟨by have := HK1.out; omega⟩, ⟨by repeat (first | (with_reducible first | exact HB.out | apply below_alloc | apply pw_below_drewN | apply below_drew1) | exact HB.out)⟩⟩
       ·
        replace c8 := Bool.eq_false_iff.mpr c8
        subst c8
        have H1 : (some false) = some r := by rw [if_neg (show ¬ (false = true) by decide)] at H; exact H
        clear H
        have H := H1
        clear H1
        obtain rfl := Option.some.inj H
        try go_wp2
        have n0_ := Aside0.mk (below_drew1 HB.out)
        clear HB
        have HB := n0_
        clear n0_
        have p222 : 0 ≤ (x5_1 : Int) := of_decide_eq_true (by first | (with_reducible assumption) | assumption)
        have q222 : x5_1 < (l0.length : Int) := of_decide_eq_true (by first | (with_reducible assumption) | assumption)
        obtain ⟨ad222, e222, hx222_0, hx222_1, hx222_2, hx222_3, hx222_4, hx222_5, hx222_6, hx222_7, hx222_8⟩ := at_T52 HR0.out x5_1 p222 q222
        have hw222_8 := hx222_8
        have hw222_7 := hx222_7
        have hw222_6 := hx222_6
        have hw222_5 := hx222_5
        have hw222_4 := hx222_4
        have hw222_3 := hx222_3
        have hw222_2 := hx222_2
        have hw222_1 := hx222_1
        have hw222_0 := hx222_0
        cases e222
        replace hx222_0 := (HB.out.cell (World.block_lt_of_cell? w _ hx222_0)).trans hx222_0
        replace hx222_1 := (HB.out.cell (World.block_lt_of_cell? w _ hx222_1)).trans hx222_1
        replace hx222_2 := (HB.out.cell (World.block_lt_of_cell? w _ hx222_2)).trans hx222_2
        replace hx222_3 := (HB.out.cell (World.block_lt_of_cell? w _ hx222_3)).trans hx222_3
        replace hx222_4 := (HB.out.cell (World.block_lt_of_cell? w _ hx222_4)).trans hx222_4
        replace hx222_5 := (HB.out.cell (World.block_lt_of_cell? w _ hx222_5)).trans hx222_5
        replace hx222_6 := (HB.out.cell (World.block_lt_of_cell? w _ hx222_6)).trans hx222_6
        replace hx222_7 := (HB.out.cell (World.block_lt_of_cell? w _ hx222_7)).trans hx222_7
        replace hx222_8 := (HB.out.cell (World.block_lt_of_cell? w _ hx222_8)).trans hx222_8
        replace p222 := eq_true p222
        replace q222 := eq_true q222
        have p223 : 0 ≤ (x5_1 : Int) := of_decide_eq_true (by first | (with_reducible assumption) | assumption)
        have q223 : x5_1 < (l1.length : Int) := of_decide_eq_true (by first | (with_reducible assumption) | assumption)
        obtain ⟨ad223, e223, hx223_0, hx223_1, hx223_2, hx223_3, hx223_4, hx223_5, hx223_6, hx223_7, hx223_8⟩ := at_T52 HR1.out x5_1 p223 q223
        have hw223_8 := hx223_8
        have hw223_7 := hx223_7
        have hw223_6 := hx223_6
        have hw223_5 := hx223_5
        have hw223_4 := hx223_4
        have hw223_3 := hx223_3
        have hw223_2 := hx223_2
        have hw223_1 := hx223_1
        have hw223_0 := hx223_0
        cases e223
        replace hx223_0 := (HB.out.cell (World.block_lt_of_cell? w _ hx223_0)).trans hx223_0
        replace hx223_1 := (HB.out.cell (World.block_lt_of_cell? w _ hx223_1)).trans hx223_1
        replace hx223_2 := (HB.out.cell (World.block_lt_of_cell? w _ hx223_2)).trans hx223_2
        replace hx223_3 := (HB.out.cell (World.block_lt_of_cell? w _ hx223_3)).trans hx223_3
        replace hx223_4 := (HB.out.cell (World.block_lt_of_cell? w _ hx223_4)).trans hx223_4
        replace hx223_5 := (HB.out.cell (World.block_lt_of_cell? w _ hx223_5)).trans hx223_5
        replace hx223_6 := (HB.out.cell (World.block_lt_of_cell? w _ hx223_6)).trans hx223_6
        replace hx223_7 := (HB.out.cell (World.block_lt_of_cell? w _ hx223_7)).trans hx223_7
        replace hx223_8 := (HB.out.cell (World.block_lt_of_cell? w _ hx223_8)).trans hx223_8
        replace p223 := eq_true p223
        replace q223 := eq_true q223
        refine start_ (n := 10) (S := fun w' => w'.cell? (ad222.add ((x5_1).toNat * 9)) = some (.int .i64 ((rd_T52 l0 x5_1).f0.f0)) ∧ w'.cell? ⟨(ad222.add ((x5_1).toNat * 9)).block, (ad222.add ((x5_1).toNat * 9)).off + 1, none⟩ = some (.int .i64 ((rd_T52 l0 x5_1).f0.f1)) ∧ w'.cell? ⟨(ad222.add ((x5_1).toNat * 9)).block, (ad222.add ((x5_1).toNat * 9)).off + 2, none⟩ = some (.int .i64 ((rd_T52 l0 x5_1).f1.f0)) ∧ w'.cell? ⟨(ad222.add ((x5_1).toNat * 9)).block, (ad222.add ((x5_1).toNat * 9)).off + 3, none⟩ = some (.int .i64 ((rd_T52 l0 x5_1).f1.f1)) ∧ w'.cell? ⟨(ad222.add ((x5_1).toNat * 9)).block, (ad222.add ((x5_1).toNat * 9)).off + 4, none⟩ = some (.int .i64 ((rd_T52 l0 x5_1).f2.f0)) ∧ w'.cell? ⟨(ad222.add ((x5_1).toNat * 9)).block, (ad222.add ((x5_1).toNat * 9)).off + 5, none⟩ = some (.int .i64 ((rd_T52 l0 x5_1).f2.f1)) ∧ w'.cell? ⟨(ad222.add ((x5_1).toNat * 9)).block, (ad222.add ((x5_1).toNat * 9)).off + 6, none⟩ = some (.int .i64 ((rd_T52 l0 x5_1).f3.f0)) ∧ w'.cell? ⟨(ad222.add ((x5_1).toNat * 9)).block, (ad222.add ((x5_1).toNat * 9)).off + 7, none⟩ = some (.int .i64 ((rd_T52 l0 x5_1).f3.f1)) ∧ w'.cell? ⟨(ad222.add ((x5_1).toNat * 9)).block, (ad222.add ((x5_1).toNat * 9)).off + 8, none⟩ = some (.int .i64 ((rd_T52 l0 x5_1).f4)) ∧ w'.cell? (ad223.add ((x5_1).toNat * 9)) = some (.int .i64 ((rd_T52 l1 x5_1).f0.f0)) ∧ w'.cell? ⟨(ad223.add ((x5_1).toNat * 9)).block, (ad223.add ((x5_1).toNat * 9)).off + 1, none⟩ = some (.int .i64 ((rd_T52 l1 x5_1).f0.f1)) ∧ w'.cell? ⟨(ad223.add ((x5_1).toNat * 9)).block, (ad223.add ((x5_1).toNat * 9)).off + 2, none⟩ = some (.int .i64 ((rd_T52 l1 x5_1).f1.f0)) ∧ w'.cell? ⟨(ad223.add ((x5_1).toNat * 9)).block, (ad223.add ((x5_1).toNat * 9)).off + 3, none⟩ = some (.int .i64 ((rd_T52 l1 x5_1).f1.f1)) ∧ w'.cell? ⟨(ad223.add ((x5_1).toNat * 9)).block, (ad223.add ((x5_1).toNat * 9)).off + 4, none⟩ = some (.int .i64 ((rd_T52 l1 x5_1).f2.f0)) ∧ w'.cell? ⟨(ad223.add ((x5_1).toNat * 9)).block, (ad223.add ((x5_1).toNat * 9)).off + 5, none⟩ = some (.int .i64 ((rd_T52 l1 x5_1).f2.f1)) ∧ w'.cell? ⟨(ad223.add ((x5_1).toNat * 9)).block, (ad223.add ((x5_1).toNat * 9)).off + 6, none⟩ = some (.int .i64 ((rd_T52 l1 x5_1).f3.f0)) ∧ w'.cell? ⟨(ad223.add ((x5_1).toNat * 9)).block, (ad223.add ((x5_1).toNat * 9)).off + 7, none⟩ = some (.int .i64 ((rd_T52 l1 x5_1).f3.f1)) ∧ w'.cell? ⟨(ad223.add ((x5_1).toNat * 9)).block, (ad223.add ((x5_1).toNat * 9)).off + 8, none⟩ = some (.int .i64 ((rd_T52 l1 x5_1).f4))) (ds := []) #[false, false, false, false, false, false, false, false, false, false] (by kernel_rfl) rfl rfl ⟨((HB.out.cell (World.block_lt_of_cell? w _ hw222_0)).trans hw222_0), ((HB.out.cell (World.block_lt_of_cell? w _ hw222_1)).trans hw222_1), ((HB.out.cell (World.block_lt_of_cell? w _ hw222_2)).trans hw222_2), ((HB.out.cell (World.block_lt_of_cell? w _ hw222_3)).trans hw222_3), ((HB.out.cell (World.block_lt_of_cell? w _ hw222_4)).trans hw222_4), ((HB.out.cell (World.block_lt_of_cell? w _ hw222_5)).trans hw222_5), ((HB.out.cell (World.block_lt_of_cell? w _ hw222_6)).trans hw222_6), ((HB.out.cell (World.block_lt_of_cell? w _ hw222_7)).trans hw222_7), ((HB.out.cell (World.block_lt_of_cell? w _ hw222_8)).trans hw222_8), ((HB.out.cell (World.block_lt_of_cell? w _ hw223_0)).trans hw223_0), ((HB.out.cell (World.block_lt_of_cell? w _ hw223_1)).trans hw223_1), ((HB.out.cell (World.block_lt_of_cell? w _ hw223_2)).trans hw223_2), ((HB.out.cell (World.block_lt_of_cell? w _ hw223_3)).trans hw223_3), ((HB.out.cell (World.block_lt_of_cell? w _ hw223_4)).trans hw223_4), ((HB.out.cell (World.block_lt_of_cell? w _ hw223_5)).trans hw223_5), ((HB.out.cell (World.block_lt_of_cell? w _ hw223_6)).trans hw223_6), ((HB.out.cell (World.block_lt_of_cell? w _ hw223_7)).trans hw223_7), ((HB.out.cell (World.block_lt_of_cell? w _ hw223_8)).trans hw223_8)⟩ (fun hHeld => ?_); refine with_tabW laws_eqSelS.tab6 laws_eqSelS.bits6 (fun HT_ HW_ => ?_)
        generalize wr.drew = w11 at HB hx222_0 hx222_1 hx222_2 hx222_3 hx222_4 hx222_5 hx222_6 hx222_7 hx222_8 hx223_0 hx223_1 hx223_2 hx223_3 hx223_4 hx223_5 hx223_6 hx223_7 hx223_8 hHeld ⊢
        refine pure_ (i := 0) (N := some 17) (v := ?_) (a' := ?_) #[true, false, false, false, false, false, false, false, false, false] rfl rfl (any_of HT_.out (by kernel_rfl)) (fun _ _ _ h => h) (Or.inl ⟨by rfl, ?_⟩) ?_ ?_
        rotate_left
        ·
         intro w'
         go_simp
         with_reducible rfl
        rotate_left
        ·
         simp only [Act.put, List.setIfInBounds_toArray, List.set_cons_zero, List.set_cons_succ, i64_w, i32_w]
         rfl
        refine pure_ (i := 1) (N := some 18) (v := ?_) (a' := ?_) #[true, true, false, false, false, false, false, false, false, false] rfl rfl (any_of HT_.out (by kernel_rfl)) (fun _ _ _ h => h) (Or.inl ⟨by rfl, ?_⟩) ?_ ?_
        rotate_left
        ·
         intro w'
         go_simp
         with_reducible rfl
        rotate_left
        ·
         simp only [Act.put, List.setIfInBounds_toArray, List.set_cons_zero, List.set_cons_succ, i64_w, i32_w]
         rfl
        refine pure_ (i := 2) (N := some 19) (v := ?_) (a' := ?_) #[true, true, true, false, false, false, false, false, false, false] rfl rfl (any_of HT_.out (by kernel_rfl)) (fun _ _ _ h => h) (Or.inl ⟨by rfl, ?_⟩) ?_ ?_
        rotate_left
        ·
         intro w'
         go_simp
         with_reducible rfl
        rotate_left
        ·
         simp only [Act.put, List.setIfInBounds_toArray, List.set_cons_zero, List.set_cons_succ, i64_w, i32_w]
         rfl
        refine pure_ (i := 4) (N := some 21) (v := ?_) (a' := ?_) #[true, true, true, false, true, false, false, false, false, false] rfl rfl (any_of HT_.out (by kernel_rfl)) (fun _ _ _ h => h) (Or.inl ⟨by rfl, ?_⟩) ?_ ?_
        rotate_left
        ·
         intro w'
         go_simp
         with_reducible rfl
        rotate_left
        ·
         simp only [Act.put, List.setIfInBounds_toArray, List.set_cons_zero, List.set_cons_succ, i64_w, i32_w]
         rfl
        refine pure_ (i := 5) (N := some 22) (v := ?_) (a' := ?_) #[true, true, true, false, true, true, false, false, false, false] rfl rfl (any_of HT_.out (by kernel_rfl)) (fun _ _ _ h => h) (Or.inl ⟨by rfl, ?_⟩) ?_ ?_
        rotate_left
        ·
         intro w'
         go_simp
         with_reducible rfl
        rotate_left
        ·
         simp only [Act.put, List.setIfInBounds_toArray, List.set_cons_zero, List.set_cons_succ, i64_w, i32_w]
         rfl
        refine pure_ (i := 6) (N := some 23) (v := ?_) (a' := ?_) #[true, true, true, false, true, true, true, false, false, false] rfl rfl (any_of HT_.out (by kernel_rfl)) (fun _ _ _ h => h) (Or.inl ⟨by rfl, ?_⟩) ?_ ?_
        rotate_left
        ·
         intro w'
         go_simp
         with_reducible rfl
        rotate_left
        ·
         simp only [Act.put, List.setIfInBounds_toArray, List.set_cons_zero, List.set_cons_succ, i64_w, i32_w]
         rfl
        refine take_ (i := 3) (N := some 20) (v := ?_) (a' := ?_) #[true, true, true, true, true, true, true, false, false, false] rfl rfl (take_ofW HT_.out HW_.out (by kernel_rfl)) (fun _ _ _ h => h) (Or.inl ⟨by rfl, ?_⟩) hHeld ?_ ?_
        rotate_left
        ·
         rintro w' ⟨s0, s1, s2, s3, s4, s5, s6, s7, s8, s9, s10, s11, s12, s13, s14, s15, s16, s17⟩
         go_simp
         with_reducible rfl
        rotate_left
        ·
         simp only [Act.put, List.setIfInBounds_toArray, List.set_cons_zero, List.set_cons_succ, i64_w, i32_w]
         rfl
        refine take_ (i := 7) (N := some 24) (v := ?_) (a' := ?_) #[true, true, true, true, true, true, true, true, false, false] rfl rfl (take_ofW HT_.out HW_.out (by kernel_rfl)) (fun _ _ _ h => h) (Or.inl ⟨by rfl, ?_⟩) hHeld ?_ ?_
        rotate_left
        ·
         rintro w' ⟨s0, s1, s2, s3, s4, s5, s6, s7, s8, s9, s10, s11, s12, s13, s14, s15, s16, s17⟩
         go_simp
         with_reducible rfl
        rotate_left
        ·
         simp only [Act.put, List.setIfInBounds_toArray, List.set_cons_zero, List.set_cons_succ, i64_w, i32_w]
         rfl
        refine one_ (i := 8) (N := some 25) #[true, true, true, true, true, true, true, true, true, false] rfl rfl (one_of HT_.out (by kernel_rfl)) (by decide) (fun K hK => ?_)
        refine goes_ Try.func88 (by kernel_rfl) rfl #[.agg #[.int .i64 ((rd_T52 l0 x5_1).f0.f0), .int .i64 ((rd_T52 l0 x5_1).f0.f1), .int .i64 ((rd_T52 l0 x5_1).f1.f0), .int .i64 ((rd_T52 l0 x5_1).f1.f1), .int .i64 ((rd_T52 l0 x5_1).f2.f0), .int .i64 ((rd_T52 l0 x5_1).f2.f1), .int .i64 ((rd_T52 l0 x5_1).f3.f0), .int .i64 ((rd_T52 l0 x5_1).f3.f1), .int .i64 ((rd_T52 l0 x5_1).f4)], .agg #[.int .i64 ((rd_T52 l1 x5_1).f0.f0), .int .i64 ((rd_T52 l1 x5_1).f0.f1), .int .i64 ((rd_T52 l1 x5_1).f1.f0), .int .i64 ((rd_T52 l1 x5_1).f1.f1), .int .i64 ((rd_T52 l1 x5_1).f2.f0), .int .i64 ((rd_T52 l1 x5_1).f2.f1), .int .i64 ((rd_T52 l1 x5_1).f3.f0), .int .i64 ((rd_T52 l1 x5_1).f3.f1), .int .i64 ((rd_T52 l1 x5_1).f4)]] (by rfl) rfl rfl (by (try simp only [List.map_toArray, List.map_cons, List.map_nil]); first | done | rfl | (simp only [List.length_drop, List.length_take]; rfl)) ?_
        with_reducible refine (laws_eqSel.calls ((rd_T52 l0 x5_1).f0.f0) ((rd_T52 l0 x5_1).f0.f1) ((rd_T52 l0 x5_1).f1.f0) ((rd_T52 l0 x5_1).f1.f1) ((rd_T52 l0 x5_1).f2.f0) ((rd_T52 l0 x5_1).f2.f1) ((rd_T52 l0 x5_1).f3.f0) ((rd_T52 l0 x5_1).f3.f1) ((rd_T52 l0 x5_1).f4) ((rd_T52 l1 x5_1).f0.f0) ((rd_T52 l1 x5_1).f0.f1) ((rd_T52 l1 x5_1).f1.f0) ((rd_T52 l1 x5_1).f1.f1) ((rd_T52 l1 x5_1).f2.f0) ((rd_T52 l1 x5_1).f2.f1) ((rd_T52 l1 x5_1).f3.f0) ((rd_T52 l1 x5_1).f3.f1) ((rd_T52 l1 x5_1).f4) false _ A7.out).mono ?_
        rintro e w12 ⟨rfl, hb⟩
        refine ⟨_, rfl, ?_⟩
        have n0_ := Aside0.mk (below_step (by repeat (first | (with_reducible first | exact HB.out | apply below_alloc | apply pw_below_drewN | apply below_drew1) | exact HB.out)) hb)
        clear HB
        have HB := n0_
        clear n0_
        (try clear hb)
        (try clear hb2)
        (try clear hk)
        (try clear hi)
        refine hK.out _ _ ⟨((HB.out.cell (World.block_lt_of_cell? w _ hw222_0)).trans hw222_0), ((HB.out.cell (World.block_lt_of_cell? w _ hw222_1)).trans hw222_1), ((HB.out.cell (World.block_lt_of_cell? w _ hw222_2)).trans hw222_2), ((HB.out.cell (World.block_lt_of_cell? w _ hw222_3)).trans hw222_3), ((HB.out.cell (World.block_lt_of_cell? w _ hw222_4)).trans hw222_4), ((HB.out.cell (World.block_lt_of_cell? w _ hw222_5)).trans hw222_5), ((HB.out.cell (World.block_lt_of_cell? w _ hw222_6)).trans hw222_6), ((HB.out.cell (World.block_lt_of_cell? w _ hw222_7)).trans hw222_7), ((HB.out.cell (World.block_lt_of_cell? w _ hw222_8)).trans hw222_8), ((HB.out.cell (World.block_lt_of_cell? w _ hw223_0)).trans hw223_0), ((HB.out.cell (World.block_lt_of_cell? w _ hw223_1)).trans hw223_1), ((HB.out.cell (World.block_lt_of_cell? w _ hw223_2)).trans hw223_2), ((HB.out.cell (World.block_lt_of_cell? w _ hw223_3)).trans hw223_3), ((HB.out.cell (World.block_lt_of_cell? w _ hw223_4)).trans hw223_4), ((HB.out.cell (World.block_lt_of_cell? w _ hw223_5)).trans hw223_5), ((HB.out.cell (World.block_lt_of_cell? w _ hw223_6)).trans hw223_6), ((HB.out.cell (World.block_lt_of_cell? w _ hw223_7)).trans hw223_7), ((HB.out.cell (World.block_lt_of_cell? w _ hw223_8)).trans hw223_8)⟩ (fun hHeld => ?_)
        clear hK K
        refine norm_ (a' := ?_) ?_ ?_
        rotate_left
        ·
         show Act.put _ (some 25) _ = _
         simp only [Act.put, List.setIfInBounds_toArray, List.set_cons_zero, List.set_cons_succ, i64_w, i32_w]
         rfl
        refine pure_ (i := 9) (N := some 26) (v := ?_) (a' := ?_) #[true, true, true, true, true, true, true, true, true, true] rfl rfl (any_of HT_.out (by kernel_rfl)) (fun _ _ _ h => h) (Or.inl ⟨by rfl, ?_⟩) ?_ ?_
        rotate_left
        ·
         intro w'
         go_simp
         with_reducible rfl
        rotate_left
        ·
         simp only [Act.put, List.setIfInBounds_toArray, List.set_cons_zero, List.set_cons_succ, i64_w, i32_w]
         rfl
        refine done_ (done_of HT_.out (by kernel_rfl)) ?_
        try go_wp2
        go_ret
        exact ⟨by first | rfl | (simp [errW_none, errW_some] <;> rfl) | (simp [*, errW_none, errW_some] <;> rfl), by repeat (first | (with_reducible first | exact HB.out | apply below_alloc | apply pw_below_drewN | apply below_drew1) | exact HB.out)⟩
      ·
       rw [if_neg c6] at H
       exact absurd H (by simp)
     ·
      rw [if_neg c5] at H
      exact absurd H (by simp)
    ·
     rw [if_neg c4] at H
     have c4b0 : decide (x5_1 < (l0.length : Int)) = false := decide_eq_false c4
     clear c4
     obtain rfl := Option.some.inj H
     go_wp2
     go_ret
     exact ⟨by first | rfl | (simp [errW_none, errW_some] <;> rfl) | (simp [*, errW_none, errW_some] <;> rfl), by repeat (first | (with_reducible first | exact HB.out | apply below_alloc | apply pw_below_drewN | apply below_drew1) | exact HB.out)⟩
 ·
  rw [if_neg c3] at H
  have c3b0 : ((l0.length : Int) == (l1.length : Int)) = false := beq_eq_false_iff_ne.mpr c3
  have c3b1 : ((l0.length : Int) != (l1.length : Int)) = true := bne_iff_ne.mpr c3
  have c3b2 : (l0.length == l1.length) = false := by first | simpa using c3 | (simp at c3 ⊢; omega)
  obtain rfl := Option.some.inj H
  go_enter Try.func27, Try.ntmps27
  go_wp2
  go_ret
  exact ⟨by first | rfl | (simp [errW_none, errW_some] <;> rfl) | (simp [*, errW_none, errW_some] <;> rfl), by repeat (first | (with_reducible first | exact HB.out | apply below_alloc | apply pw_below_drewN | apply below_drew1) | exact HB.out)⟩

/-! ### laws_eqSelsResult: function 57 -/
def laws_eqSelsResult.f (k : Nat) (a0_0 : Int) (l0_1 : List (S52)) (a1_0 : Int) (l1_1 : List (S52)) : Option (Bool) := if a0_0 = a1_0 then ((laws_eqSelS.f k l0_1 l1_1).bind fun t227 => (if t227 = true then (some true) else (some false))) else (some false)
theorem laws_eqSelsResult.mono : ∀ a0 a1 a2 a3 k, LeO (laws_eqSelsResult.f k a0 a1 a2 a3) (laws_eqSelsResult.f (k + 1) a0 a1 a2 a3) := by
 intro a0 a1 a2 a3 k
 unfold laws_eqSelsResult.f
 repeat' first
   | (with_reducible exact laws_eqSelS.mono _ _ _)
   | (with_reducible exact LeO.refl _)
   | (with_reducible exact LeO.none _)
   | (with_reducible refine LeO.ite ?_ ?_)
   | (with_reducible refine LeO.bind ?_ (fun _ => ?_))
   | exact laws_eqSelS.mono _ _ _
   | exact LeO.none _
   | refine LeO.ite ?_ ?_
   | refine LeO.bind ?_ (fun _ => ?_)
set_option maxHeartbeats 8000000 in
set_option maxRecDepth 100000 in
theorem laws_eqSelsResult.calls (k : Nat) (a0_0 : Int) (A0_1 : Option Addr) (c0_1 : Nat) (l0_1 : List (S52)) (a1_0 : Int) (A1_1 : Option Addr) (c1_1 : Nat) (l1_1 : List (S52)) (r : Bool) (w : World) (hr0_1 : Kd.C k52 w A0_1 l0_1.length l0_1) (hc0_1 : l0_1.length ≤ c0_1) (hr1_1 : Kd.C k52 w A1_1 l1_1.length l1_1) (hc1_1 : l1_1.length ≤ c1_1) (h : laws_eqSelsResult.f k a0_0 l0_1 a1_0 l1_1 = some r) :
  Calls Try.prog 57 #[.agg #[.int .i64 a0_0, .slice A0_1 l0_1.length c0_1], .agg #[.int .i64 a1_0, .slice A1_1 l1_1.length c1_1]] w fun e w' => e = .returned (.bool r) ∧ Below w.heap.size w w' := by
 have hu80 := Try.underlying80
 have HR0_1 := Aside0.mk hr0_1
 have HC0_1 := Aside0.mk hc0_1
 clear hr0_1 hc0_1
 have HR1_1 := Aside0.mk hr1_1
 have HC1_1 := Aside0.mk hc1_1
 clear hr1_1 hc1_1
 have HB := Aside0.mk (Below.refl w.heap.size w)
 have H : (if a0_0 = a1_0 then ((laws_eqSelS.f k l0_1 l1_1).bind fun t227 => (if t227 = true then (some true) else (some false))) else (some false)) = some r := h
 clear h
 by_cases c3 : a0_0 = a1_0
 ·
  rw [if_pos c3] at H
  have c3b0 : (a0_0 == a1_0) = true := beq_iff_eq.mpr c3
  have c3b1 : (a0_0 != a1_0) = false := bne_eq_false_iff_eq.mpr c3
  clear c3
  replace H := Option.bind_eq_some_iff.mp H
  obtain ⟨t227, A40, H⟩ := H
  replace H : (if t227 = true then (some true) else (some false)) = some r := H
  have A4 := Aside0.mk A40
  clear A40
  by_cases c5 : t227 = true
  ·
   subst c5
   have H1 : (some true) = some r := by rw [if_pos rfl] at H; exact H
   clear H
   have H := H1
   clear H1
   obtain rfl := Option.some.inj H
   go_enter Try.func57, Try.ntmps57
   go_wp2_with (first | ((with_reducible refine gate_dst (N := 2) rfl ?_); refine box_event ?hg (N := 2) ?hd (cs := #[.int .i64 a0_0, .slice A0_1 l0_1.length c0_1]) (t := 80) ?hr ?_; (case hd => rfl); (case hg => rfl); (case hr => first | (go_simp; done) | (go_simp; rfl)); intro gb225 hg w6 hbox hb; have n0_ := Aside0.mk (below_step (by repeat (first | (with_reducible first | exact HB.out | apply below_alloc | apply pw_below_drewN | apply below_drew1) | exact HB.out)) hb); have n1_ := Aside0.mk (hbox); have n2_ := Aside0.mk ((by rw [hg]; exact (below_size (by repeat (first | (with_reducible first | exact HB.out | apply below_alloc | apply pw_below_drewN | apply below_drew1) | exact HB.out))) : w.heap.size ≤ gb225)); have n3_ := Aside0.mk ((by rw [hg]; exact (below_size (by repeat (first | (with_reducible first | exact HB.out | apply below_alloc | apply pw_below_drewN | apply below_drew1) | exact HB.out))) : w.heap.size ≤ gb225)); clear HB; have HB := n0_; have BK225 := n1_; have GW225 := n2_; have GE225 := n3_; clear n0_ n1_ n2_ n3_; clear hb hbox hg) | ((with_reducible refine gate_dst (N := 3) rfl ?_); refine box_event ?hg (N := 3) ?hd (cs := #[.int .i64 a1_0, .slice A1_1 l1_1.length c1_1]) (t := 80) ?hr ?_; (case hd => rfl); (case hg => rfl); (case hr => first | (go_simp; done) | (go_simp; rfl)); intro gb226 hg w7 hbox hb; have n0_ := Aside0.mk (blk_below_u BK225.out hb); have n1_ := Aside0.mk (below_step (by repeat (first | (with_reducible first | exact HB.out | apply below_alloc | apply pw_below_drewN | apply below_drew1 | refine below_set ?_ GE225.out) | exact HB.out)) hb); have n2_ := Aside0.mk (hbox); have n3_ := Aside0.mk ((by rw [hg]; exact (below_size (by repeat (first | (with_reducible first | exact HB.out | apply below_alloc | apply pw_below_drewN | apply below_drew1 | refine below_set ?_ GE225.out) | exact HB.out))) : w.heap.size ≤ gb226)); have n4_ := Aside0.mk ((by rw [hg]; exact (below_size (by repeat (first | (with_reducible first | exact HB.out | apply below_alloc | apply pw_below_drewN | apply below_drew1 | refine below_set ?_ GE225.out) | exact HB.out))) : w.heap.size ≤ gb226)); have n5_ := Aside0.mk ((by rw [hg]; exact Nat.ne_of_lt (blk_lt_u BK225.out) : gb225 ≠ gb226)); have n6_ := Aside0.mk ((by rw [hg]; exact Nat.ne_of_gt (blk_lt_u BK225.out) : gb226 ≠ gb225)); clear BK225; clear HB; have BK225 := n0_; have HB := n1_; have BK226 := n2_; have GW226 := n3_; have GE226 := n4_; have NB225_226 := n5_; have NB226_225 := n6_; clear n0_ n1_ n2_ n3_ n4_ n5_ n6_; clear hb hbox hg; have hnb8 := NB225_226.out; have hnc8 := NB226_225.out; have hcz9_0 : w7.cell? ⟨gb225, 0, none⟩ = some (.int .i64 a0_0) := (blk_cell BK225.out 0).trans rfl; have hcz9_1 : w7.cell? ⟨gb225, 1, none⟩ = some (.slice A0_1 l0_1.length c0_1) := (blk_cell BK225.out 1).trans rfl; have hfz9_0 := blk_frozen BK225.out 0; have hfz9_1 := blk_frozen BK225.out 1; have hcz10_0 : w7.cell? ⟨gb226, 0, none⟩ = some (.int .i64 a1_0) := (blk_cell BK226.out 0).trans rfl; have hcz10_1 : w7.cell? ⟨gb226, 1, none⟩ = some (.slice A1_1 l1_1.length c1_1) := (blk_cell BK226.out 1).trans rfl; have hfz10_0 := blk_frozen BK226.out 0; have hfz10_1 := blk_frozen BK226.out 1) | ((with_reducible refine gate_callee (f := 27) rfl ?_); refine goesL_ (some 14) rfl rfl Try.func27 (by kernel_rfl) rfl #[.slice A0_1 l0_1.length c0_1, .slice A1_1 l1_1.length c1_1] rfl (by (try simp only [List.map_toArray, List.map_cons, List.map_nil]); first | done | rfl | (simp only [List.length_drop, List.length_take]; rfl)) ?_; (with_reducible refine (laws_eqSelS.calls k _ _ l0_1 _ _ l1_1 true _ ?side1 ?side2 ?side3 ?side4 A4.out).mono ?_); (case side1 => repeat (first | exact (Kd.C_below HR0_1.out HB.out) | (with_reducible refine Kd.C_alloc ?_ _) | (with_reducible refine Kd.C_drewN ?_ _) | (with_reducible refine Kd.C_drew ?_))); (case side2 => exact HC0_1.out); (case side3 => repeat (first | exact (Kd.C_below HR1_1.out HB.out) | (with_reducible refine Kd.C_alloc ?_ _) | (with_reducible refine Kd.C_drewN ?_ _) | (with_reducible refine Kd.C_drew ?_))); (case side4 => exact HC1_1.out); rintro e w11 ⟨rfl, hb⟩; refine ⟨_, rfl, ?_⟩; have n0_ := Aside0.mk (blk_below_u BK225.out hb); have n1_ := Aside0.mk (blk_below_u BK226.out hb); have n2_ := Aside0.mk (below_step (by repeat (first | (with_reducible first | exact HB.out | apply below_alloc | apply pw_below_drewN | apply below_drew1 | refine below_set ?_ GE225.out | refine below_set ?_ GE226.out) | exact HB.out)) hb); clear BK225; clear BK226; clear HB; have BK225 := n0_; have BK226 := n1_; have HB := n2_; clear n0_ n1_ n2_; (try clear hb); (try clear hb2); (try clear hk); (try clear hi)))
   go_ret
   exact ⟨by first | rfl | (simp [errW_none, errW_some] <;> rfl) | (simp [*, errW_none, errW_some] <;> rfl), by repeat (first | (with_reducible first | exact HB.out | apply below_alloc | apply pw_below_drewN | apply below_drew1 | refine below_set ?_ GE225.out | refine below_set ?_ GE226.out) | exact HB.out)⟩
  ·
   replace c5 := Bool.eq_false_iff.mpr c5
   subst c5
   have H1 : (some false) = some r := by rw [if_neg (show ¬ (false = true) by decide)] at H; exact H
   clear H
   have H := H1
   clear H1
   obtain rfl := Option.some.inj H
   go_enter Try.func57, Try.ntmps57
   go_wp2_with (first | ((with_reducible refine gate_dst (N := 2) rfl ?_); refine box_event ?hg (N := 2) ?hd (cs := #[.int .i64 a0_0, .slice A0_1 l0_1.length c0_1]) (t := 80) ?hr ?_; (case hd => rfl); (case hg => rfl); (case hr => first | (go_simp; done) | (go_simp; rfl)); intro gb225 hg w12 hbox hb; have n0_ := Aside0.mk (below_step (by repeat (first | (with_reducible first | exact HB.out | apply below_alloc | apply pw_below_drewN | apply below_drew1) | exact HB.out)) hb); have n1_ := Aside0.mk (hbox); have n2_ := Aside0.mk ((by rw [hg]; exact (below_size (by repeat (first | (with_reducible first | exact HB.out | apply below_alloc | apply pw_below_drewN | apply below_drew1) | exact HB.out))) : w.heap.size ≤ gb225)); have n3_ := Aside0.mk ((by rw [hg]; exact (below_size (by repeat (first | (with_reducible first | exact HB.out | apply below_alloc | apply pw_below_drewN | apply below_drew1) | exact HB.out))) : w.heap.size ≤ gb225)); clear HB; have HB := n0_; have BK225 := n1_; have GW225 := n2_; have GE225 := n3_; clear n0_ n1_ n2_ n3_; clear hb hbox hg) | ((with_reducible refine gate_dst (N := 3) rfl ?_); refine box_event ?hg (N := 3) ?hd (cs := #[.int .i64 a1_0, .slice A1_1 l1_1.length c1_1]) (t := 80) ?hr ?_; (case hd => rfl); (case hg => rfl); (case hr => first | (go_simp; done) | (go_simp; rfl)); intro gb226 hg w13 hbox hb; have n0_ := Aside0.mk (blk_below_u BK225.out hb); have n1_ := Aside0.mk (below_step (by repeat (first | (with_reducible first | exact HB.out | apply below_alloc | apply pw_below_drewN | apply below_drew1 | refine below_set ?_ GE225.out) | exact HB.out)) hb); have n2_ := Aside0.mk (hbox); have n3_ := Aside0.mk ((by rw [hg]; exact (below_size (by repeat (first | (with_reducible first | exact HB.out | apply below_alloc | apply pw_below_drewN | apply below_drew1 | refine below_set ?_ GE225.out) | exact HB.out))) : w.heap.size ≤ gb226)); have n4_ := Aside0.mk ((by rw [hg]; exact (below_size (by repeat (first | (with_reducible first | exact HB.out | apply below_alloc | apply pw_below_drewN | apply below_drew1 | refine below_set ?_ GE225.out) | exact HB.out))) : w.heap.size ≤ gb226)); have n5_ := Aside0.mk ((by rw [hg]; exact Nat.ne_of_lt (blk_lt_u BK225.out) : gb225 ≠ gb226)); have n6_ := Aside0.mk ((by rw [hg]; exact Nat.ne_of_gt (blk_lt_u BK225.out) : gb226 ≠ gb225)); clear BK225; clear HB; have BK225 := n0_; have HB := n1_; have BK226 := n2_; have GW226 := n3_; have GE226 := n4_; have NB225_226 := n5_; have NB226_225 := n6_; clear n0_ n1_ n2_ n3_ n4_ n5_ n6_; clear hb hbox hg; have hnb14 := NB225_226.out; have hnc14 := NB226_225.out; have hcz15_0 : w13.cell? ⟨gb225, 0, none⟩ = some (.int .i64 a0_0) := (blk_cell BK225.out 0).trans rfl; have hcz15_1 : w13.cell? ⟨gb225, 1, none⟩ = some (.slice A0_1 l0_1.length c0_1) := (blk_cell BK225.out 1).trans rfl; have hfz15_0 := blk_frozen BK225.out 0; have hfz15_1 := blk_frozen BK225.out 1; have hcz16_0 : w13.cell? ⟨gb226, 0, none⟩ = some (.int .i64 a1_0) := (blk_cell BK226.out 0).trans rfl; have hcz16_1 : w13.cell? ⟨gb226, 1, none⟩ = some (.slice A1_1 l1_1.length c1_1) := (blk_cell BK226.out 1).trans rfl; have hfz16_0 := blk_frozen BK226.out 0; have hfz16_1 := blk_frozen BK226.out 1) | ((with_reducible refine gate_callee (f := 27) rfl ?_); refine goesL_ (some 14) rfl rfl Try.func27 (by kernel_rfl) rfl #[.slice A0_1 l0_1.length c0_1, .slice A1_1 l1_1.length c1_1] rfl (by (try simp only [List.map_toArray, List.map_cons, List.map_nil]); first | done | rfl | (simp only [List.length_drop, List.length_take]; rfl)) ?_; (with_reducible refine (laws_eqSelS.calls k _ _ l0_1 _ _ l1_1 false _ ?side1 ?side2 ?side3 ?side4 A4.out).mono ?_); (case side1 => repeat (first | exact (Kd.C_below HR0_1.out HB.out) | (with_reducible refine Kd.C_alloc ?_ _) | (with_reducible refine Kd.C_drewN ?_ _) | (with_reducible refine Kd.C_drew ?_))); (case side2 => exact HC0_1.out); (case side3 => repeat (first | exact (Kd.C_below HR1_1.out HB.out) | (with_reducible refine Kd.C_alloc ?_ _) | (with_reducible refine Kd.C_drewN ?_ _) | (with_reducible refine Kd.C_drew ?_))); (case side4 => exact HC1_1.out); rintro e w17 ⟨rfl, hb⟩; refine ⟨_, rfl, ?_⟩; have n0_ := Aside0.mk (blk_below_u BK225.out hb); have n1_ := Aside0.mk (blk_below_u BK226.out hb); have n2_ := Aside0.mk (below_step (by repeat (first | (with_reducible first | exact HB.out | apply below_alloc | apply pw_below_drewN | apply below_drew1 | refine below_set ?_ GE225.out | refine below_set ?_ GE226.out) | exact HB.out)) hb); clear BK225; clear BK226; clear HB; have BK225 := n0_; have BK226 := n1_; have HB := n2_; clear n0_ n1_ n2_; (try clear hb); (try clear hb2); (try clear hk); (try clear hi)))
   go_ret
   exact ⟨by first | rfl | (simp [errW_none, errW_some] <;> rfl) | (simp [*, errW_none, errW_some] <;> rfl), by repeat (first | (with_reducible first | exact HB.out | apply below_alloc | apply pw_below_drewN | apply below_drew1 | refine below_set ?_ GE225.out | refine below_set ?_ GE226.out) | exact HB.out)⟩
 ·
  rw [if_neg c3] at H
  have c3b0 : (a0_0 == a1_0) = false := beq_eq_false_iff_ne.mpr c3
  have c3b1 : (a0_0 != a1_0) = true := bne_iff_ne.mpr c3
  obtain rfl := Option.some.inj H
  go_enter Try.func57, Try.ntmps57
  go_wp2_with (first | ((with_reducible refine gate_dst (N := 2) rfl ?_); refine box_event ?hg (N := 2) ?hd (cs := #[.int .i64 a0_0, .slice A0_1 l0_1.length c0_1]) (t := 80) ?hr ?_; (case hd => rfl); (case hg => rfl); (case hr => first | (go_simp; done) | (go_simp; rfl)); intro gb225 hg w18 hbox hb; have n0_ := Aside0.mk (below_step (by repeat (first | (with_reducible first | exact HB.out | apply below_alloc | apply pw_below_drewN | apply below_drew1) | exact HB.out)) hb); have n1_ := Aside0.mk (hbox); have n2_ := Aside0.mk ((by rw [hg]; exact (below_size (by repeat (first | (with_reducible first | exact HB.out | apply below_alloc | apply pw_below_drewN | apply below_drew1) | exact HB.out))) : w.heap.size ≤ gb225)); have n3_ := Aside0.mk ((by rw [hg]; exact (below_size (by repeat (first | (with_reducible first | exact HB.out | apply below_alloc | apply pw_below_drewN | apply below_drew1) | exact HB.out))) : w.heap.size ≤ gb225)); clear HB; have HB := n0_; have BK225 := n1_; have GW225 := n2_; have GE225 := n3_; clear n0_ n1_ n2_ n3_; clear hb hbox hg) | ((with_reducible refine gate_dst (N := 3) rfl ?_); refine box_event ?hg (N := 3) ?hd (cs := #[.int .i64 a1_0, .slice A1_1 l1_1.length c1_1]) (t := 80) ?hr ?_; (case hd => rfl); (case hg => rfl); (case hr => first | (go_simp; done) | (go_simp; rfl)); intro gb226 hg w19 hbox hb; have n0_ := Aside0.mk (blk_below_u BK225.out hb); have n1_ := Aside0.mk (below_step (by repeat (first | (with_reducible first | exact HB.out | apply below_alloc | apply pw_below_drewN | apply below_drew1 | refine below_set ?_ GE225.out) | exact HB.out)) hb); have n2_ := Aside0.mk (hbox); have n3_ := Aside0.mk ((by rw [hg]; exact (below_size (by repeat (first | (with_reducible first | exact HB.out | apply below_alloc | apply pw_below_drewN | apply below_drew1 | refine below_set ?_ GE225.out) | exact HB.out))) : w.heap.size ≤ gb226)); have n4_ := Aside0.mk ((by rw [hg]; exact (below_size (by repeat (first | (with_reducible first | exact HB.out | apply below_alloc | apply pw_below_drewN | apply below_drew1 | refine below_set ?_ GE225.out) | exact HB.out))) : w.heap.size ≤ gb226)); have n5_ := Aside0.mk ((by rw [hg]; exact Nat.ne_of_lt (blk_lt_u BK225.out) : gb225 ≠ gb226)); have n6_ := Aside0.mk ((by rw [hg]; exact Nat.ne_of_gt (blk_lt_u BK225.out) : gb226 ≠ gb225)); clear BK225; clear HB; have BK225 := n0_; have HB := n1_; have BK226 := n2_; have GW226 := n3_; have GE226 := n4_; have NB225_226 := n5_; have NB226_225 := n6_; clear n0_ n1_ n2_ n3_ n4_ n5_ n6_; clear hb hbox hg; have hnb20 := NB225_226.out; have hnc20 := NB226_225.out; have hcz21_0 : w19.cell? ⟨gb225, 0, none⟩ = some (.int .i64 a0_0) := (blk_cell BK225.out 0).trans rfl; have hcz21_1 : w19.cell? ⟨gb225, 1, none⟩ = some (.slice A0_1 l0_1.length c0_1) := (blk_cell BK225.out 1).trans rfl; have hfz21_0 := blk_frozen BK225.out 0; have hfz21_1 := blk_frozen BK225.out 1; have hcz22_0 : w19.cell? ⟨gb226, 0, none⟩ = some (.int .i64 a1_0) := (blk_cell BK226.out 0).trans rfl; have hcz22_1 : w19.cell? ⟨gb226, 1, none⟩ = some (.slice A1_1 l1_1.length c1_1) := (blk_cell BK226.out 1).trans rfl; have hfz22_0 := blk_frozen BK226.out 0; have hfz22_1 := blk_frozen BK226.out 1))
  go_ret
  exact ⟨by first | rfl | (simp [errW_none, errW_some] <;> rfl) | (simp [*, errW_none, errW_some] <;> rfl), by repeat (first | (with_reducible first | exact HB.out | apply below_alloc | apply pw_below_drewN | apply below_drew1 | refine below_set ?_ GE225.out | refine below_set ?_ GE226.out) | exact HB.out)⟩

/-! ### laws_markSelS: function 123 (my own text) -/
def laws_markSelS.go : List S52 → Int → Int × List S52
  | [], kk => (kk, [])
  | _ :: xs, kk => ((laws_markSelS.go xs (wrap64 (wrap64 (wrap64 (wrap64 (wrap64 (wrap64 (wrap64 (wrap64 (wrap64 (kk + 1) + 1) + 1) + 1) + 1) + 1) + 1) + 1) + 1))).1, (⟨⟨kk, wrap64 (kk + 1)⟩, ⟨wrap64 (wrap64 (kk + 1) + 1), wrap64 (wrap64 (wrap64 (kk + 1) + 1) + 1)⟩, ⟨wrap64 (wrap64 (wrap64 (wrap64 (kk + 1) + 1) + 1) + 1), wrap64 (wrap64 (wrap64 (wrap64 (wrap64 (kk + 1) + 1) + 1) + 1) + 1)⟩, ⟨wrap64 (wrap64 (wrap64 (wrap64 (wrap64 (wrap64 (kk + 1) + 1) + 1) + 1) + 1) + 1), wrap64 (wrap64 (wrap64 (wrap64 (wrap64 (wrap64 (wrap64 (kk + 1) + 1) + 1) + 1) + 1) + 1) + 1)⟩, wrap64 (wrap64 (wrap64 (wrap64 (wrap64 (wrap64 (wrap64 (wrap64 (kk + 1) + 1) + 1) + 1) + 1) + 1) + 1) + 1)⟩ : S52) :: (laws_markSelS.go xs (wrap64 (wrap64 (wrap64 (wrap64 (wrap64 (wrap64 (wrap64 (wrap64 (wrap64 (kk + 1) + 1) + 1) + 1) + 1) + 1) + 1) + 1) + 1))).2)
def laws_markSelS.f (l0 : List S52) (kk : Int) : Option (Int × List S52) := some (laws_markSelS.go l0 kk)
theorem laws_markSelS.open_ : ∀ (w : World) (base : Nat) (ok : Nat → Prop) (x : S52) (c : List Value), k52.M w base ok x c → c = [.int .i64 x.f0.f0, .int .i64 x.f0.f1, .int .i64 x.f1.f0, .int .i64 x.f1.f1, .int .i64 x.f2.f0, .int .i64 x.f2.f1, .int .i64 x.f3.f0, .int .i64 x.f3.f1, .int .i64 x.f4] := fun _ _ _ _ _ h => k52_openM h
theorem laws_markSelS.mk_ : ∀ (w : World) (base : Nat) (ok : Nat → Prop) (x : S52), k52.M w base ok x [.int .i64 x.f0.f0, .int .i64 x.f0.f1, .int .i64 x.f1.f0, .int .i64 x.f1.f1, .int .i64 x.f2.f0, .int .i64 x.f2.f1, .int .i64 x.f3.f0, .int .i64 x.f3.f1, .int .i64 x.f4] := fun w base ok x => k52_mkM w base ok x
set_option maxHeartbeats 8000000 in
set_option maxRecDepth 100000 in
theorem laws_markSelS.calls (P0_ : Nat → Prop) (u9000_ : Value) (l0 : List S52) (a1 : Int) (r1 : Int) (r2 : List S52) (w0 w : World) (hB : Below w0.heap.size w0 w) (ho0 : Kd.R k52 52 w w0.heap.size P0_ u9000_ l0) (h : laws_markSelS.f l0 a1 = some (r1, r2)) :
    Calls Try.prog 123 #[u9000_, .int .i64 a1] w fun e w' => e = .returned (.int .i64 r1) ∧ Kd.R k52 52 w' w0.heap.size (fun k_ => (P0_ k_ ∨ w.heap.size ≤ k_)) u9000_ r2 ∧ Below w0.heap.size w0 w' ∧ Kept w w' (fun k_ => P0_ k_) := by
  have HM := Aside0.mk (MarkInv.start hB ho0)
  clear ho0 hB
  replace h := Aside0.mk (Option.some.inj h)
  have hu0 := Try.underlying39
  have hu1 := Try.underlying50
  have hu2 := Try.underlying52
  go_enter Try.func123, Try.ntmps123
  go_wp2
  go_loopg [1, 5] l0.length (fun gg v1 v5 w' => ∃ (dn rest : List S52) (kk : Int), rest.length ≤ gg ∧ v1 = .int .i64 kk ∧ v5 = .int .i64 (dn.length : Int) ∧ Aside0 (dn.length + rest.length = l0.length) ∧ Aside0 ((laws_markSelS.go rest kk).1 = r1 ∧ dn ++ (laws_markSelS.go rest kk).2 = r2) ∧ Aside0 (MarkInv k52 52 w0 w P0_ w' u9000_ (dn ++ rest)))
  case atStart => exact ⟨[], l0, a1, Nat.le_refl _, rfl, rfl, ⟨by simp⟩, ⟨by rw [h.out]; exact ⟨rfl, rfl⟩⟩, HM⟩
  case round =>
    clear HM h
    obtain ⟨dn, rest, kk, hg, rfl, rfl, HL, HF, HM⟩ := hrel
    have hl := HL.out
    have hml : l0.length ≤ 9223372036854775807 := by have := MarkInv.len_le HM.out; rw [List.length_append] at this; omega
    cases rest with
    | nil =>
      obtain ⟨Ao, co, eo⟩ := Kd.R_slice HM.out.1
      subst eo
      have hn : (dn ++ []).length = l0.length := by rw [List.length_append]; simpa using hl
      have hdl : ¬ (dn.length : Int) < (l0.length : Int) := by rw [List.length_nil] at hl; omega
      have hq : decide ((dn.length : Int) < ((dn ++ []).length : Int)) = false := decide_eq_false (by simp)
      clear hl HL
      go_wp2
      go_ret
      obtain ⟨hf1, hf2⟩ := HF.out
      exact ⟨congrArg (fun z => Ending.returned (Value.int .i64 z)) hf1, by rw [← hf2]; have hz := HM.out.1; rw [List.append_nil] at hz; have hy : dn ++ (laws_markSelS.go [] kk).2 = dn := List.append_nil dn; rw [hy]; exact hz, HM.out.2.2, HM.out.2.1⟩
    | cons x xs =>
      obtain ⟨g, cap, eo, gb⟩ := MarkInv.form HM.out
      subst eo
      have HG := Aside0.mk gb
      clear gb
      have hn : (dn ++ x :: xs).length = l0.length := by rw [List.length_append]; exact hl
      have q0 : decide ((dn.length : Int) < ((dn ++ x :: xs).length : Int)) = true := decide_eq_true (by rw [hn]; rw [List.length_cons] at hl; omega)
      have p5 : (0 ≤ (dn.length : Int)) = True := eq_true (by omega)
      have q5 : ((dn.length : Int) < ((dn ++ x :: xs).length : Int)) = True := eq_true (of_decide_eq_true q0)
      rw [List.length_cons] at hg
      clear hl hn
      go_wp2_with (first | ((with_reducible refine gate_store (t := 2) (p := 17) rfl ?_); refine mark_event rfl rfl rfl HM.out HG.out (fun z => [.int .i64 z.f0.f0, .int .i64 z.f0.f1, .int .i64 z.f1.f0, .int .i64 z.f1.f1, .int .i64 z.f2.f0, .int .i64 z.f2.f1, .int .i64 z.f3.f0, .int .i64 z.f3.f1, .int .i64 z.f4]) laws_markSelS.open_ laws_markSelS.mk_ (sz := 9) rfl (x := (⟨⟨x.f0.f0, x.f0.f1⟩, ⟨x.f1.f0, x.f1.f1⟩, ⟨x.f2.f0, x.f2.f1⟩, ⟨x.f3.f0, x.f3.f1⟩, x.f4⟩ : S52)) (x' := (⟨⟨kk, x.f0.f1⟩, ⟨x.f1.f0, x.f1.f1⟩, ⟨x.f2.f0, x.f2.f1⟩, ⟨x.f3.f0, x.f3.f1⟩, x.f4⟩ : S52)) (j := 0) (by decide) (u := .int .i64 kk) rfl ?hr ?_; (case hr => intro vx hx hf; simp only [Nat.add_zero] at hx hf ⊢; (first | (go_simp; done) | (go_simp; rfl))); intro w0_ HM2; have HM3 := Aside0.mk HM2; clear HM HM2; have HM := HM3; clear HM3) | ((with_reducible refine gate_store (t := 2) (p := 25) rfl ?_); refine mark_event rfl rfl rfl HM.out HG.out (fun z => [.int .i64 z.f0.f0, .int .i64 z.f0.f1, .int .i64 z.f1.f0, .int .i64 z.f1.f1, .int .i64 z.f2.f0, .int .i64 z.f2.f1, .int .i64 z.f3.f0, .int .i64 z.f3.f1, .int .i64 z.f4]) laws_markSelS.open_ laws_markSelS.mk_ (sz := 9) rfl (x := (⟨⟨kk, x.f0.f1⟩, ⟨x.f1.f0, x.f1.f1⟩, ⟨x.f2.f0, x.f2.f1⟩, ⟨x.f3.f0, x.f3.f1⟩, x.f4⟩ : S52)) (x' := (⟨⟨kk, wrap64 (kk + 1)⟩, ⟨x.f1.f0, x.f1.f1⟩, ⟨x.f2.f0, x.f2.f1⟩, ⟨x.f3.f0, x.f3.f1⟩, x.f4⟩ : S52)) (j := 1) (by decide) (u := .int .i64 (wrap64 (kk + 1))) rfl ?hr ?_; (case hr => intro vx hx hf; (first | (go_simp; done) | (go_simp; rfl))); intro w1_ HM2; have HM3 := Aside0.mk HM2; clear HM HM2; have HM := HM3; clear HM3) | ((with_reducible refine gate_store (t := 2) (p := 33) rfl ?_); refine mark_event rfl rfl rfl HM.out HG.out (fun z => [.int .i64 z.f0.f0, .int .i64 z.f0.f1, .int .i64 z.f1.f0, .int .i64 z.f1.f1, .int .i64 z.f2.f0, .int .i64 z.f2.f1, .int .i64 z.f3.f0, .int .i64 z.f3.f1, .int .i64 z.f4]) laws_markSelS.open_ laws_markSelS.mk_ (sz := 9) rfl (x := (⟨⟨kk, wrap64 (kk + 1)⟩, ⟨x.f1.f0, x.f1.f1⟩, ⟨x.f2.f0, x.f2.f1⟩, ⟨x.f3.f0, x.f3.f1⟩, x.f4⟩ : S52)) (x' := (⟨⟨kk, wrap64 (kk + 1)⟩, ⟨wrap64 (wrap64 (kk + 1) + 1), x.f1.f1⟩, ⟨x.f2.f0, x.f2.f1⟩, ⟨x.f3.f0, x.f3.f1⟩, x.f4⟩ : S52)) (j := 2) (by decide) (u := .int .i64 (wrap64 (wrap64 (kk + 1) + 1))) rfl ?hr ?_; (case hr => intro vx hx hf; (first | (go_simp; done) | (go_simp; rfl))); intro w2_ HM2; have HM3 := Aside0.mk HM2; clear HM HM2; have HM := HM3; clear HM3) | ((with_reducible refine gate_store (t := 2) (p := 41) rfl ?_); refine mark_event rfl rfl rfl HM.out HG.out (fun z => [.int .i64 z.f0.f0, .int .i64 z.f0.f1, .int .i64 z.f1.f0, .int .i64 z.f1.f1, .int .i64 z.f2.f0, .int .i64 z.f2.f1, .int .i64 z.f3.f0, .int .i64 z.f3.f1, .int .i64 z.f4]) laws_markSelS.open_ laws_markSelS.mk_ (sz := 9) rfl (x := (⟨⟨kk, wrap64 (kk + 1)⟩, ⟨wrap64 (wrap64 (kk + 1) + 1), x.f1.f1⟩, ⟨x.f2.f0, x.f2.f1⟩, ⟨x.f3.f0, x.f3.f1⟩, x.f4⟩ : S52)) (x' := (⟨⟨kk, wrap64 (kk + 1)⟩, ⟨wrap64 (wrap64 (kk + 1) + 1), wrap64 (wrap64 (wrap64 (kk + 1) + 1) + 1)⟩, ⟨x.f2.f0, x.f2.f1⟩, ⟨x.f3.f0, x.f3.f1⟩, x.f4⟩ : S52)) (j := 3) (by decide) (u := .int .i64 (wrap64 (wrap64 (wrap64 (kk + 1) + 1) + 1))) rfl ?hr ?_; (case hr => intro vx hx hf; (first | (go_simp; done) | (go_simp; rfl))); intro w3_ HM2; have HM3 := Aside0.mk HM2; clear HM HM2; have HM := HM3; clear HM3) | ((with_reducible refine gate_store (t := 2) (p := 49) rfl ?_); refine mark_event rfl rfl rfl HM.out HG.out (fun z => [.int .i64 z.f0.f0, .int .i64 z.f0.f1, .int .i64 z.f1.f0, .int .i64 z.f1.f1, .int .i64 z.f2.f0, .int .i64 z.f2.f1, .int .i64 z.f3.f0, .int .i64 z.f3.f1, .int .i64 z.f4]) laws_markSelS.open_ laws_markSelS.mk_ (sz := 9) rfl (x := (⟨⟨kk, wrap64 (kk + 1)⟩, ⟨wrap64 (wrap64 (kk + 1) + 1), wrap64 (wrap64 (wrap64 (kk + 1) + 1) + 1)⟩, ⟨x.f2.f0, x.f2.f1⟩, ⟨x.f3.f0, x.f3.f1⟩, x.f4⟩ : S52)) (x' := (⟨⟨kk, wrap64 (kk + 1)⟩, ⟨wrap64 (wrap64 (kk + 1) + 1), wrap64 (wrap64 (wrap64 (kk + 1) + 1) + 1)⟩, ⟨wrap64 (wrap64 (wrap64 (wrap64 (kk + 1) + 1) + 1) + 1), x.f2.f1⟩, ⟨x.f3.f0, x.f3.f1⟩, x.f4⟩ : S52)) (j := 4) (by decide) (u := .int .i64 (wrap64 (wrap64 (wrap64 (wrap64 (kk + 1) + 1) + 1) + 1))) rfl ?hr ?_; (case hr => intro vx hx hf; (first | (go_simp; done) | (go_simp; rfl))); intro w4_ HM2; have HM3 := Aside0.mk HM2; clear HM HM2; have HM := HM3; clear HM3) | ((with_reducible refine gate_store (t := 2) (p := 57) rfl ?_); refine mark_event rfl rfl rfl HM.out HG.out (fun z => [.int .i64 z.f0.f0, .int .i64 z.f0.f1, .int .i64 z.f1.f0, .int .i64 z.f1.f1, .int .i64 z.f2.f0, .int .i64 z.f2.f1, .int .i64 z.f3.f0, .int .i64 z.f3.f1, .int .i64 z.f4]) laws_markSelS.open_ laws_markSelS.mk_ (sz := 9) rfl (x := (⟨⟨kk, wrap64 (kk + 1)⟩, ⟨wrap64 (wrap64 (kk + 1) + 1), wrap64 (wrap64 (wrap64 (kk + 1) + 1) + 1)⟩, ⟨wrap64 (wrap64 (wrap64 (wrap64 (kk + 1) + 1) + 1) + 1), x.f2.f1⟩, ⟨x.f3.f0, x.f3.f1⟩, x.f4⟩ : S52)) (x' := (⟨⟨kk, wrap64 (kk + 1)⟩, ⟨wrap64 (wrap64 (kk + 1) + 1), wrap64 (wrap64 (wrap64 (kk + 1) + 1) + 1)⟩, ⟨wrap64 (wrap64 (wrap64 (wrap64 (kk + 1) + 1) + 1) + 1), wrap64 (wrap64 (wrap64 (wrap64 (wrap64 (kk + 1) + 1) + 1) + 1) + 1)⟩, ⟨x.f3.f0, x.f3.f1⟩, x.f4⟩ : S52)) (j := 5) (by decide) (u := .int .i64 (wrap64 (wrap64 (wrap64 (wrap64 (wrap64 (kk + 1) + 1) + 1) + 1) + 1))) rfl ?hr ?_; (case hr => intro vx hx hf; (first | (go_simp; done) | (go_simp; rfl))); intro w5_ HM2; have HM3 := Aside0.mk HM2; clear HM HM2; have HM := HM3; clear HM3) | ((with_reducible refine gate_store (t := 2) (p := 65) rfl ?_); refine mark_event rfl rfl rfl HM.out HG.out (fun z => [.int .i64 z.f0.f0, .int .i64 z.f0.f1, .int .i64 z.f1.f0, .int .i64 z.f1.f1, .int .i64 z.f2.f0, .int .i64 z.f2.f1, .int .i64 z.f3.f0, .int .i64 z.f3.f1, .int .i64 z.f4]) laws_markSelS.open_ laws_markSelS.mk_ (sz := 9) rfl (x := (⟨⟨kk, wrap64 (kk + 1)⟩, ⟨wrap64 (wrap64 (kk + 1) + 1), wrap64 (wrap64 (wrap64 (kk + 1) + 1) + 1)⟩, ⟨wrap64 (wrap64 (wrap64 (wrap64 (kk + 1) + 1) + 1) + 1), wrap64 (wrap64 (wrap64 (wrap64 (wrap64 (kk + 1) + 1) + 1) + 1) + 1)⟩, ⟨x.f3.f0, x.f3.f1⟩, x.f4⟩ : S52)) (x' := (⟨⟨kk, wrap64 (kk + 1)⟩, ⟨wrap64 (wrap64 (kk + 1) + 1), wrap64 (wrap64 (wrap64 (kk + 1) + 1) + 1)⟩, ⟨wrap64 (wrap64 (wrap64 (wrap64 (kk + 1) + 1) + 1) + 1), wrap64 (wrap64 (wrap64 (wrap64 (wrap64 (kk + 1) + 1) + 1) + 1) + 1)⟩, ⟨wrap64 (wrap64 (wrap64 (wrap64 (wrap64 (wrap64 (kk + 1) + 1) + 1) + 1) + 1) + 1), x.f3.f1⟩, x.f4⟩ : S52)) (j := 6) (by decide) (u := .int .i64 (wrap64 (wrap64 (wrap64 (wrap64 (wrap64 (wrap64 (kk + 1) + 1) + 1) + 1) + 1) + 1))) rfl ?hr ?_; (case hr => intro vx hx hf; (first | (go_simp; done) | (go_simp; rfl))); intro w6_ HM2; have HM3 := Aside0.mk HM2; clear HM HM2; have HM := HM3; clear HM3) | ((with_reducible refine gate_store (t := 2) (p := 73) rfl ?_); refine mark_event rfl rfl rfl HM.out HG.out (fun z => [.int .i64 z.f0.f0, .int .i64 z.f0.f1, .int .i64 z.f1.f0, .int .i64 z.f1.f1, .int .i64 z.f2.f0, .int .i64 z.f2.f1, .int .i64 z.f3.f0, .int .i64 z.f3.f1, .int .i64 z.f4]) laws_markSelS.open_ laws_markSelS.mk_ (sz := 9) rfl (x := (⟨⟨kk, wrap64 (kk + 1)⟩, ⟨wrap64 (wrap64 (kk + 1) + 1), wrap64 (wrap64 (wrap64 (kk + 1) + 1) + 1)⟩, ⟨wrap64 (wrap64 (wrap64 (wrap64 (kk + 1) + 1) + 1) + 1), wrap64 (wrap64 (wrap64 (wrap64 (wrap64 (kk + 1) + 1) + 1) + 1) + 1)⟩, ⟨wrap64 (wrap64 (wrap64 (wrap64 (wrap64 (wrap64 (kk + 1) + 1) + 1) + 1) + 1) + 1), x.f3.f1⟩, x.f4⟩ : S52)) (x' := (⟨⟨kk, wrap64 (kk + 1)⟩, ⟨wrap64 (wrap64 (kk + 1) + 1), wrap64 (wrap64 (wrap64 (kk + 1) + 1) + 1)⟩, ⟨wrap64 (wrap64 (wrap64 (wrap64 (kk + 1) + 1) + 1) + 1), wrap64 (wrap64 (wrap64 (wrap64 (wrap64 (kk + 1) + 1) + 1) + 1) + 1)⟩, ⟨wrap64 (wrap64 (wrap64 (wrap64 (wrap64 (wrap64 (kk + 1) + 1) + 1) + 1) + 1) + 1), wrap64 (wrap64 (wrap64 (wrap64 (wrap64 (wrap64 (wrap64 (kk + 1) + 1) + 1) + 1) + 1) + 1) + 1)⟩, x.f4⟩ : S52)) (j := 7) (by decide) (u := .int .i64 (wrap64 (wrap64 (wrap64 (wrap64 (wrap64 (wrap64 (wrap64 (kk + 1) + 1) + 1) + 1) + 1) + 1) + 1))) rfl ?hr ?_; (case hr => intro vx hx hf; (first | (go_simp; done) | (go_simp; rfl))); intro w7_ HM2; have HM3 := Aside0.mk HM2; clear HM HM2; have HM := HM3; clear HM3) | ((with_reducible refine gate_store (t := 2) (p := 80) rfl ?_); refine mark_event rfl rfl rfl HM.out HG.out (fun z => [.int .i64 z.f0.f0, .int .i64 z.f0.f1, .int .i64 z.f1.f0, .int .i64 z.f1.f1, .int .i64 z.f2.f0, .int .i64 z.f2.f1, .int .i64 z.f3.f0, .int .i64 z.f3.f1, .int .i64 z.f4]) laws_markSelS.open_ laws_markSelS.mk_ (sz := 9) rfl (x := (⟨⟨kk, wrap64 (kk + 1)⟩, ⟨wrap64 (wrap64 (kk + 1) + 1), wrap64 (wrap64 (wrap64 (kk + 1) + 1) + 1)⟩, ⟨wrap64 (wrap64 (wrap64 (wrap64 (kk + 1) + 1) + 1) + 1), wrap64 (wrap64 (wrap64 (wrap64 (wrap64 (kk + 1) + 1) + 1) + 1) + 1)⟩, ⟨wrap64 (wrap64 (wrap64 (wrap64 (wrap64 (wrap64 (kk + 1) + 1) + 1) + 1) + 1) + 1), wrap64 (wrap64 (wrap64 (wrap64 (wrap64 (wrap64 (wrap64 (kk + 1) + 1) + 1) + 1) + 1) + 1) + 1)⟩, x.f4⟩ : S52)) (x' := (⟨⟨kk, wrap64 (kk + 1)⟩, ⟨wrap64 (wrap64 (kk + 1) + 1), wrap64 (wrap64 (wrap64 (kk + 1) + 1) + 1)⟩, ⟨wrap64 (wrap64 (wrap64 (wrap64 (kk + 1) + 1) + 1) + 1), wrap64 (wrap64 (wrap64 (wrap64 (wrap64 (kk + 1) + 1) + 1) + 1) + 1)⟩, ⟨wrap64 (wrap64 (wrap64 (wrap64 (wrap64 (wrap64 (kk + 1) + 1) + 1) + 1) + 1) + 1), wrap64 (wrap64 (wrap64 (wrap64 (wrap64 (wrap64 (wrap64 (kk + 1) + 1) + 1) + 1) + 1) + 1) + 1)⟩, wrap64 (wrap64 (wrap64 (wrap64 (wrap64 (wrap64 (wrap64 (wrap64 (kk + 1) + 1) + 1) + 1) + 1) + 1) + 1) + 1)⟩ : S52)) (j := 8) (by decide) (u := .int .i64 (wrap64 (wrap64 (wrap64 (wrap64 (wrap64 (wrap64 (wrap64 (wrap64 (kk + 1) + 1) + 1) + 1) + 1) + 1) + 1) + 1))) rfl ?hr ?_; (case hr => intro vx hx hf; (first | (go_simp; done) | (go_simp; rfl))); intro w8_ HM2; have HM3 := Aside0.mk HM2; clear HM HM2; have HM := HM3; clear HM3))
      go_roundg (xs.length)
      case measure => omega
      case rel => exact ⟨dn ++ [(⟨⟨kk, wrap64 (kk + 1)⟩, ⟨wrap64 (wrap64 (kk + 1) + 1), wrap64 (wrap64 (wrap64 (kk + 1) + 1) + 1)⟩, ⟨wrap64 (wrap64 (wrap64 (wrap64 (kk + 1) + 1) + 1) + 1), wrap64 (wrap64 (wrap64 (wrap64 (wrap64 (kk + 1) + 1) + 1) + 1) + 1)⟩, ⟨wrap64 (wrap64 (wrap64 (wrap64 (wrap64 (wrap64 (kk + 1) + 1) + 1) + 1) + 1) + 1), wrap64 (wrap64 (wrap64 (wrap64 (wrap64 (wrap64 (wrap64 (kk + 1) + 1) + 1) + 1) + 1) + 1) + 1)⟩, wrap64 (wrap64 (wrap64 (wrap64 (wrap64 (wrap64 (wrap64 (wrap64 (kk + 1) + 1) + 1) + 1) + 1) + 1) + 1) + 1)⟩ : S52)], xs, wrap64 (wrap64 (wrap64 (wrap64 (wrap64 (wrap64 (wrap64 (wrap64 (wrap64 (kk + 1) + 1) + 1) + 1) + 1) + 1) + 1) + 1) + 1), Nat.le_refl _, rfl, (by have hl2 := HL.out; rw [List.length_cons] at hl2; refine congrArg (Value.int .i64) ?_; rw [List.length_append, List.length_singleton]; unfold wrap64; omega), ⟨by have := HL.out; rw [List.length_cons] at this; rw [List.length_append, List.length_singleton]; omega⟩, ⟨by rw [List.append_assoc]; exact HF.out⟩, ⟨by rw [List.append_assoc]; exact HM.out⟩⟩

/-! ### laws_markSelsResult: function 58 -/
def laws_markSelsResult.f (a0_0 : Int) (l0_1 : List (S52)) (a1 : Int) : Option (Int × (List (S52))) := (laws_markSelS.f l0_1 a1).bind fun bt229 => (some (bt229.1, bt229.2))
set_option maxHeartbeats 8000000 in
set_option maxRecDepth 100000 in
theorem laws_markSelsResult.calls (a0_0 : Int) (P0_1_ : Nat → Prop) (u9000_ : Value) (l0_1 : List (S52)) (a1 : Int) (r1 : Int) (r2 : List (S52)) (w0 w : World) (hB : Below w0.heap.size w0 w) (ho0_1 : Kd.R k52 52 w w0.heap.size P0_1_ u9000_ l0_1) (h : laws_markSelsResult.f a0_0 l0_1 a1 = some (r1, r2)) :
  Calls Try.prog 58 #[.agg #[.int .i64 a0_0, u9000_], .int .i64 a1] w fun e w' => e = .returned (.int .i64 r1) ∧ Kd.R k52 52 w' w0.heap.size (fun k_ => (P0_1_ k_ ∨ w.heap.size ≤ k_)) u9000_ r2 ∧ Below w0.heap.size w0 w' ∧ Kept w w' (fun k_ => P0_1_ k_) := by
 have hu80 := Try.underlying80
 have HO0_1 := Aside0.mk (show Kd.R k52 52 w w0.heap.size (fun k_ => (P0_1_ k_ ∨ w.heap.size ≤ k_)) u9000_ l0_1 from Kd.R_mono ho0_1 (fun k_ hk => (.inl hk)))
 have HK := Aside0.mk (Kept.refl w (fun k_ => P0_1_ k_))
 have HW0 := Aside0.mk hB.size
 have HB := Aside0.mk hB
 clear hB
 have H : ((laws_markSelS.f l0_1 a1).bind fun bt229 => (some (bt229.1, bt229.2))) = some (r1, r2) := h
 clear h
 replace H := Option.bind_eq_some_iff.mp H
 obtain ⟨⟨t229, t230⟩, A30, H⟩ := H
 replace H : (some (t229, t230)) = some (r1, r2) := H
 have A3 := Aside0.mk A30
 clear A30
 simp only [Option.some.injEq, Prod.mk.injEq] at H
 obtain ⟨rfl, rfl⟩ := H
 obtain ⟨Ao4, co4, eo4⟩ := Kd.R_slice HO0_1.out
 subst eo4
 go_enter Try.func58, Try.ntmps58
 go_wp2_with (first | ((with_reducible refine gate_dst (N := 2) rfl ?_); refine box_event ?hg (N := 2) ?hd (cs := #[.int .i64 a0_0, .slice Ao4 l0_1.length co4]) (t := 80) ?hr ?_; (case hd => rfl); (case hg => rfl); (case hr => first | (go_simp; done) | (go_simp; rfl)); intro gb228 hg w5 hbox hb; have n0_ := Aside0.mk (Kd.R_below (by (with_reducible repeat (first | apply Kd.R_alloc | apply Kd.R_drewN | apply Kd.R_drew)); exact HO0_1.out) hb); have n1_ := Aside0.mk (Kept.below (S := (fun k_ => P0_1_ k_)) (by repeat (first | (with_reducible first | exact HK.out | apply Kept.alloc | apply Kept.drewN | apply Kept.drew) | exact HK.out)) hb); have n2_ := Aside0.mk (below_step (by repeat (first | (with_reducible first | exact HB.out | apply below_alloc | apply pw_below_drewN | apply below_drew1) | exact HB.out)) hb); have n3_ := Aside0.mk (hbox); have n4_ := Aside0.mk ((by rw [hg]; exact (by first | exact HK.out.1 | exact (show Kept w _ (fun k_ => P0_1_ k_) from by repeat (first | (with_reducible first | exact HK.out | apply Kept.alloc | apply Kept.drewN | apply Kept.drew) | exact HK.out)).1) : w.heap.size ≤ gb228)); have n5_ := Aside0.mk ((by rw [hg]; exact (below_size (by repeat (first | (with_reducible first | exact HB.out | apply below_alloc | apply pw_below_drewN | apply below_drew1) | exact HB.out))) : w0.heap.size ≤ gb228)); clear HO0_1; clear HK; clear HB; have HO0_1 := n0_; have HK := n1_; have HB := n2_; have BK228 := n3_; have GW228 := n4_; have GE228 := n5_; clear n0_ n1_ n2_ n3_ n4_ n5_; clear hb hbox hg; have hcz6_0 : w5.cell? ⟨gb228, 0, none⟩ = some (.int .i64 a0_0) := (blk_cell BK228.out 0).trans rfl; have hcz6_1 : w5.cell? ⟨gb228, 1, none⟩ = some (.slice Ao4 l0_1.length co4) := (blk_cell BK228.out 1).trans rfl; have hfz6_0 := blk_frozen BK228.out 0; have hfz6_1 := blk_frozen BK228.out 1) | ((with_reducible refine gate_callee (f := 123) rfl ?_); refine goesL_ (some 8) rfl rfl Try.func123 (by kernel_rfl) rfl #[.slice Ao4 l0_1.length co4, .int .i64 a1] rfl (by (try simp only [List.map_toArray, List.map_cons, List.map_nil]); first | done | rfl | (simp only [List.length_drop, List.length_take]; rfl)) ?_; (with_reducible refine (laws_markSelS.calls (fun k_ => some k_ = (.slice Ao4 l0_1.length co4 : Value).ownBlock) (.slice Ao4 l0_1.length co4) l0_1 a1 t229 t230 w0 _ ?side1 ?side2 A3.out).mono ?_); (case side1 => repeat (first | (with_reducible first | exact HB.out | apply below_alloc | apply pw_below_drewN | apply below_drew1 | refine below_set ?_ GE228.out) | exact HB.out)); (case side2 => exact Kd.R_tight rfl HO0_1.out); rintro e w7 ⟨rfl, hy0, hb, hkp⟩; refine ⟨_, rfl, ?_⟩; have n0_ := Aside0.mk (Kd.R_reok rfl hy0 (fun k_ e_ => HO0_1.out.1 k_ e_)); have n1_ := Aside0.mk (blk_kept (by (with_reducible repeat (first | refine blk_drewN ?_ _ | refine blk_drew ?_ | refine blk_alloc ?_ _)); exact BK228.out) hkp (fun hs_ => (fun e_ => (Kd.R_ne HO0_1.out BK228.out (by decide)) e_) hs_)); have n2_ := Aside0.mk (Kept.then_ (S := (fun k_ => P0_1_ k_)) (by repeat (first | (with_reducible first | exact HK.out | apply Kept.alloc | apply Kept.drewN | apply Kept.drew | refine Kept.setCell ?_ (.inr GW228.out) _) | exact HK.out)) hkp (fun k_ hs_ => (fun e_ => (HO0_1.out.1 k_ e_.symm)) hs_)); have n3_ := Aside0.mk (hb); clear HO0_1; clear BK228; clear HK; clear HB; have HO0_1 := n0_; have BK228 := n1_; have HK := n2_; have HB := n3_; clear n0_ n1_ n2_ n3_; (try clear hb); (try clear hkp); (try clear hy0)))
 go_ret
 exact ⟨by first | rfl | (simp [errW_none, errW_some] <;> rfl) | (simp [*, errW_none, errW_some] <;> rfl), by (with_reducible repeat (first | apply Kd.R_alloc | apply Kd.R_drewN | apply Kd.R_drew)); exact HO0_1.out, by repeat (first | (with_reducible first | exact HB.out | apply below_alloc | apply pw_below_drewN | apply below_drew1 | refine below_set ?_ GE228.out) | exact HB.out), by repeat (first | (with_reducible first | exact HK.out | apply Kept.alloc | apply Kept.drewN | apply Kept.drew | refine Kept.setCell ?_ (.inr GW228.out) _) | exact HK.out)⟩

end Go.Proofs.Yteelmjkoncomiaa.PFnExactRulesOf
