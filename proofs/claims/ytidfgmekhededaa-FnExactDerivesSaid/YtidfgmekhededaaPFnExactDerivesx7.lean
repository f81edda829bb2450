-- Written by wip/tools/myprint.py of this claim's session, over the kit's print, round texts of its own: own text.
import Derived.Test.YtidfgmekhededaaPFnExactDerivesx0
import Derived.Test.YtidfgmekhededaaPFnExactDerivesx2
namespace Go.Proofs.Ytidfgmekhededaa.PFnExactDerives
open Go.RowKit Go.Proofs.YtidfgmekhededaaW.PrintWords Go.Proofs.YtidfgmekhededaaW.PrintLast Go.Proofs.YtidfgmekhededaaW.PrintMore
attribute [local go_sem] max2_int min2_int max_two min_two max_three min_three max_four min_four   -- for this text's walks alone
set_option linter.unusedVariables false
set_option linter.unusedSimpArgs false

/-! ### spec_l6Make: function 64 -/
mutual
def spec_l6Make.l0 : Nat → List (S50) → List Int → List Bool → Int → Option (List Bool)
 | 0, _, _, _, _ => none
 | k + 1, x0, x1, x5, x6 => if x6 < (x1.length : Int) then (if 0 ≤ x6 then (if 0 ≤ (rd x1 x6) then (if (rd x1 x6) < (x5.length : Int) then (spec_l6Make.l0 k x0 x1 (x5.set ((rd x1 x6) : Int).toNat true) (wrap64 (x6 + 1))) else (none)) else (none)) else (none)) else (if 0 ≤ (x0.length : Int) then (if ((x0.length : Int) : Int).toNat ≤ 281474976710656 then (spec_l6Make.l1 k x0 x5 (List.replicate ((x0.length : Int) : Int).toNat false) 0) else (none)) else (none))
def spec_l6Make.l1 : Nat → List (S50) → List Bool → List Bool → Int → Option (List Bool)
 | 0, _, _, _, _ => none
 | k + 1, x0, x5, x7, x8 => if x8 < (x0.length : Int) then (if 0 ≤ x8 then (if ((rd_T50 x0 x8).f0) = 6 then (if x8 < (x5.length : Int) then (if rdOf false x5 x8 = true then (if 0 ≤ ((rd_T50 x0 x8).f1) then (if ((rd_T50 x0 x8).f1) < (x7.length : Int) then (spec_l6Make.l1 k x0 x5 (x7.set (((rd_T50 x0 x8).f1) : Int).toNat true) (wrap64 (x8 + 1))) else (none)) else (none)) else (spec_l6Make.l1 k x0 x5 x7 (wrap64 (x8 + 1)))) else (none)) else (spec_l6Make.l1 k x0 x5 x7 (wrap64 (x8 + 1)))) else (none)) else (spec_l6Make.l2 k x0 x5 x7 0)
def spec_l6Make.l2 : Nat → List (S50) → List Bool → List Bool → Int → Option (List Bool)
 | 0, _, _, _, _ => none
 | k + 1, x0, x5, x7, x9 => if x9 < (x0.length : Int) then (if 0 ≤ x9 then (if ((rd_T50 x0 x9).f0) = 1 then (if x9 < (x5.length : Int) then (spec_l6Make.l2 k x0 (x5.set (x9 : Int).toNat true) x7 (wrap64 (x9 + 1))) else (none)) else (if ((rd_T50 x0 x9).f0) = 3 then (spec_l6Make.j3 k x0 x5 x7 x9 ((rd_T50 x0 x9).f0) (((rd_T50 x0 x9).f0) == 3) ((rd_T50 x0 x9).f0) ((rd_T50 x0 x9).f1) ((rd_T50 x0 x9).f2) ((rd_T50 x0 x9).f3)) else (if ((rd_T50 x0 x9).f0) = 4 then (spec_l6Make.j3 k x0 x5 x7 x9 ((rd_T50 x0 x9).f0) (((rd_T50 x0 x9).f0) == 4) ((rd_T50 x0 x9).f0) ((rd_T50 x0 x9).f1) ((rd_T50 x0 x9).f2) ((rd_T50 x0 x9).f3)) else (spec_l6Make.j3 k x0 x5 x7 x9 ((rd_T50 x0 x9).f0) (((rd_T50 x0 x9).f0) == 5) ((rd_T50 x0 x9).f0) ((rd_T50 x0 x9).f1) ((rd_T50 x0 x9).f2) ((rd_T50 x0 x9).f3))))) else (none)) else (some x5)
def spec_l6Make.j3 : Nat → List (S50) → List Bool → List Bool → Int → Int → Bool → Int → Int → Int → Int → Option (List Bool)
 | 0, _, _, _, _, _, _, _, _, _, _ => none
 | k + 1, x0, x5, x7, x9, x67, x73, x161000, x161001, x161002, x161003 => if x73 = true then (if 0 ≤ x9 then (if x9 < (x5.length : Int) then (if rdOf false x5 x9 = true then (spec_l6Make.l2 k x0 (x5.set (x9 : Int).toNat true) x7 (wrap64 (x9 + 1))) else (if 0 ≤ x161001 then (if x161001 < (x5.length : Int) then (if rdOf false x5 x161001 = true then (if 0 ≤ x161002 then (if x161002 < (x5.length : Int) then (spec_l6Make.l2 k x0 (x5.set (x9 : Int).toNat (rdOf false x5 x161002)) x7 (wrap64 (x9 + 1))) else (none)) else (none)) else (spec_l6Make.l2 k x0 (x5.set (x9 : Int).toNat false) x7 (wrap64 (x9 + 1)))) else (none)) else (none))) else (none)) else (none)) else (if x67 = 6 then (if 0 ≤ x9 then (if x9 < (x5.length : Int) then (if rdOf false x5 x9 = true then (spec_l6Make.l2 k x0 (x5.set (x9 : Int).toNat true) x7 (wrap64 (x9 + 1))) else (if 0 ≤ x161001 then (if x161001 < (x5.length : Int) then (spec_l6Make.l2 k x0 (x5.set (x9 : Int).toNat (rdOf false x5 x161001)) x7 (wrap64 (x9 + 1))) else (none)) else (none))) else (none)) else (none)) else (if x67 = 7 then (if 0 ≤ x161001 then (if x161001 < (x5.length : Int) then (if 0 ≤ x161002 then (if x161002 < (x5.length : Int) then (if 0 ≤ x9 then (if x9 < (x5.length : Int) then (if rdOf false x5 x9 = true then (spec_l6Make.l2 k x0 (x5.set (x9 : Int).toNat true) x7 (wrap64 (x9 + 1))) else (if rdOf false x5 x161001 = true then (if rdOf false x5 x161002 = true then (spec_l6Make.l2 k x0 (x5.set (x9 : Int).toNat true) x7 (wrap64 (x9 + 1))) else (if x161002 < (x7.length : Int) then (if rdOf false x7 x161002 = true then (spec_l6Make.l2 k x0 (x5.set (x9 : Int).toNat true) x7 (wrap64 (x9 + 1))) else (spec_l6Make.l2 k x0 (x5.set (x9 : Int).toNat false) x7 (wrap64 (x9 + 1)))) else (none))) else (if rdOf false x5 x161002 = true then (if x161001 < (x7.length : Int) then (spec_l6Make.l2 k x0 (x5.set (x9 : Int).toNat (rdOf false x7 x161001)) x7 (wrap64 (x9 + 1))) else (none)) else (spec_l6Make.l2 k x0 (x5.set (x9 : Int).toNat false) x7 (wrap64 (x9 + 1)))))) else (none)) else (none)) else (none)) else (none)) else (none)) else (none)) else (spec_l6Make.l2 k x0 x5 x7 (wrap64 (x9 + 1)))))
end
def spec_l6Make.f (k : Nat) (l0 : List (S50)) (l1 : List Int) : Option (List Bool) := if 0 ≤ (l0.length : Int) then (if ((l0.length : Int) : Int).toNat ≤ 281474976710656 then (spec_l6Make.l0 k l0 l1 (List.replicate ((l0.length : Int) : Int).toNat false) 0) else (none)) else (none)
theorem spec_l6Make.mono_l : ∀ k, (∀ y0 y1 y2 y3, LeO (spec_l6Make.l0 k y0 y1 y2 y3) (spec_l6Make.l0 (k + 1) y0 y1 y2 y3)) ∧ (∀ y0 y1 y2 y3, LeO (spec_l6Make.l1 k y0 y1 y2 y3) (spec_l6Make.l1 (k + 1) y0 y1 y2 y3)) ∧ (∀ y0 y1 y2 y3, LeO (spec_l6Make.l2 k y0 y1 y2 y3) (spec_l6Make.l2 (k + 1) y0 y1 y2 y3)) ∧ (∀ y0 y1 y2 y3 y4 y5 y6 y7 y8 y9, LeO (spec_l6Make.j3 k y0 y1 y2 y3 y4 y5 y6 y7 y8 y9) (spec_l6Make.j3 (k + 1) y0 y1 y2 y3 y4 y5 y6 y7 y8 y9))
 | 0 => ⟨fun _ _ _ _ r h => by simp [spec_l6Make.l0] at h, fun _ _ _ _ r h => by simp [spec_l6Make.l1] at h, fun _ _ _ _ r h => by simp [spec_l6Make.l2] at h, fun _ _ _ _ _ _ _ _ _ _ r h => by simp [spec_l6Make.j3] at h⟩
 | k + 1 => by
  obtain ⟨ih0, ih1, ih2, ih3⟩ := spec_l6Make.mono_l k
  refine ⟨?_, ?_, ?_, ?_⟩
  ·
   intro y0 y1 y2 y3
   unfold spec_l6Make.l0
   repeat' first
   | (with_reducible exact ih0 _ _ _ _)
   | (with_reducible exact ih1 _ _ _ _)
   | (with_reducible exact ih2 _ _ _ _)
   | (with_reducible exact ih3 _ _ _ _ _ _ _ _ _ _)
   | (with_reducible exact LeO.refl _)
   | (with_reducible exact LeO.none _)
   | (with_reducible refine LeO.ite ?_ ?_)
   | (with_reducible refine LeO.bind ?_ (fun _ => ?_))
   | exact ih0 _ _ _ _
   | exact ih1 _ _ _ _
   | exact ih2 _ _ _ _
   | exact ih3 _ _ _ _ _ _ _ _ _ _
   | exact LeO.none _
   | refine LeO.ite ?_ ?_
   | refine LeO.bind ?_ (fun _ => ?_)
  ·
   intro y0 y1 y2 y3
   unfold spec_l6Make.l1
   repeat' first
   | (with_reducible exact ih0 _ _ _ _)
   | (with_reducible exact ih1 _ _ _ _)
   | (with_reducible exact ih2 _ _ _ _)
   | (with_reducible exact ih3 _ _ _ _ _ _ _ _ _ _)
   | (with_reducible exact LeO.refl _)
   | (with_reducible exact LeO.none _)
   | (with_reducible refine LeO.ite ?_ ?_)
   | (with_reducible refine LeO.bind ?_ (fun _ => ?_))
   | exact ih0 _ _ _ _
   | exact ih1 _ _ _ _
   | exact ih2 _ _ _ _
   | exact ih3 _ _ _ _ _ _ _ _ _ _
   | exact LeO.none _
   | refine LeO.ite ?_ ?_
   | refine LeO.bind ?_ (fun _ => ?_)
  ·
   intro y0 y1 y2 y3
   unfold spec_l6Make.l2
   repeat' first
   | (with_reducible exact ih0 _ _ _ _)
   | (with_reducible exact ih1 _ _ _ _)
   | (with_reducible exact ih2 _ _ _ _)
   | (with_reducible exact ih3 _ _ _ _ _ _ _ _ _ _)
   | (with_reducible exact LeO.refl _)
   | (with_reducible exact LeO.none _)
   | (with_reducible refine LeO.ite ?_ ?_)
   | (with_reducible refine LeO.bind ?_ (fun _ => ?_))
   | exact ih0 _ _ _ _
   | exact ih1 _ _ _ _
   | exact ih2 _ _ _ _
   | exact ih3 _ _ _ _ _ _ _ _ _ _
   | exact LeO.none _
   | refine LeO.ite ?_ ?_
   | refine LeO.bind ?_ (fun _ => ?_)
  ·
   intro y0 y1 y2 y3 y4 y5 y6 y7 y8 y9
   unfold spec_l6Make.j3
   repeat' first
   | (with_reducible exact ih0 _ _ _ _)
   | (with_reducible exact ih1 _ _ _ _)
   | (with_reducible exact ih2 _ _ _ _)
   | (with_reducible exact ih3 _ _ _ _ _ _ _ _ _ _)
   | (with_reducible exact LeO.refl _)
   | (with_reducible exact LeO.none _)
   | (with_reducible refine LeO.ite ?_ ?_)
   | (with_reducible refine LeO.bind ?_ (fun _ => ?_))
   | exact ih0 _ _ _ _
   | exact ih1 _ _ _ _
   | exact ih2 _ _ _ _
   | exact ih3 _ _ _ _ _ _ _ _ _ _
   | exact LeO.none _
   | refine LeO.ite ?_ ?_
   | refine LeO.bind ?_ (fun _ => ?_)
theorem spec_l6Make.mono : ∀ a0 a1 k, LeO (spec_l6Make.f k a0 a1) (spec_l6Make.f (k + 1) a0 a1) := by
 intro a0 a1 k
 obtain ⟨ih0, ih1, ih2, ih3⟩ := spec_l6Make.mono_l k
 unfold spec_l6Make.f
 repeat' first
   | (with_reducible exact ih0 _ _ _ _)
   | (with_reducible exact ih1 _ _ _ _)
   | (with_reducible exact ih2 _ _ _ _)
   | (with_reducible exact ih3 _ _ _ _ _ _ _ _ _ _)
   | (with_reducible exact LeO.refl _)
   | (with_reducible exact LeO.none _)
   | (with_reducible refine LeO.ite ?_ ?_)
   | (with_reducible refine LeO.bind ?_ (fun _ => ?_))
   | exact ih0 _ _ _ _
   | exact ih1 _ _ _ _
   | exact ih2 _ _ _ _
   | exact ih3 _ _ _ _ _ _ _ _ _ _
   | exact LeO.none _
   | refine LeO.ite ?_ ?_
   | refine LeO.bind ?_ (fun _ => ?_)
set_option maxHeartbeats 8000000 in
set_option maxRecDepth 100000 in
theorem spec_l6Make.calls (k : Nat) (A0 : Option Addr) (c0 : Nat) (l0 : List (S50)) (A1 : Option Addr) (c1 : Nat) (l1 : List Int) (r : List Bool) (w : World) (hr0 : Kd.C k50 w A0 l0.length l0) (hc0 : l0.length ≤ c0) (hr1 : Kd.C (Kd.int .i64) w A1 l1.length l1) (hc1 : l1.length ≤ c1) (h : spec_l6Make.f k l0 l1 = some r) :
  Calls Try.prog 64 #[.slice A0 l0.length c0, .slice A1 l1.length c1] w fun e w' => ∃ v0_ : Value, e = .returned (v0_) ∧ Kd.R Kd.bool 4 w' w.heap.size (fun _ => True) v0_ r ∧ Below w.heap.size w w' := by
 have hu50 := Try.underlying50
 have HR0 := Aside0.mk hr0
 have HC0 := Aside0.mk hc0
 clear hr0 hc0
 have HR1 := Aside0.mk hr1
 have HC1 := Aside0.mk hc1
 clear hr1 hc1
 have HB := Aside0.mk (Below.refl w.heap.size w)
 have H : (if 0 ≤ (l0.length : Int) then (if ((l0.length : Int) : Int).toNat ≤ 281474976710656 then (spec_l6Make.l0 k l0 l1 (List.replicate ((l0.length : Int) : Int).toNat false) 0) else (none)) else (none)) = some r := h
 clear h
 by_cases c3 : 0 ≤ (l0.length : Int)
 ·
  rw [if_pos c3] at H
  have c3b0 := eq_true c3
  have c3b1 : decide (0 ≤ (l0.length : Int)) = true := decide_eq_true c3
  clear c3
  by_cases c4 : ((l0.length : Int) : Int).toNat ≤ 281474976710656
  ·
   rw [if_pos c4] at H
   have c4b0 := eq_true c4
   have c4b1 : decide (((l0.length : Int) : Int).toNat ≤ 281474976710656) = true := decide_eq_true c4
   clear c4
   obtain ⟨y147, hy147⟩ : ∃ y_ : List Bool, y_ = (List.replicate ((l0.length : Int) : Int).toNat false) := ⟨_, rfl⟩
   replace H : (spec_l6Make.l0 k l0 l1 y147 0) = some r := by first | (rw [hy147]; with_reducible exact H) | (have H2_ := (Option.bind_some _ _).symm.trans H; rw [hy147]; with_reducible exact H2_) | (have H2_ := (Option.bind_some _ _).symm.trans H; with_reducible exact H2_) | with_reducible exact H | (rw [hy147]; exact H) | exact H
   have Ny147 := Aside0.mk hy147
   clear hy147
   have H' := Aside0.mk H
   clear H
   go_enter Try.func64, Try.ntmps64
   go_wp2_with (first | ((with_reducible refine gate_dst (N := 15) rfl ?_); refine Kd.R_make Kd.bool _ 4 rfl (N := 15) rfl 66 _ _ rfl (l0.length : Int) rfl rfl Try.underlying66 (.bool false) 1 info4 rfl (by decide) (by omega) false (ok := fun _ => True) (okp := fun _ => True) rfl (fun _ hk => hk) trivial (of_decide_eq_true (by first | (with_reducible assumption) | assumption)) (Nat.le_trans (Nat.mul_le_mul_right _ (of_decide_eq_true (by first | (with_reducible assumption) | assumption) : (l0.length : Int).toNat ≤ 281474976710656)) (by omega)) (Below.refl _ _) (Nat.le_refl _) ?_; intro v148 w5 ho6 hb hg_ hnew_; clear hg_ hnew_; (first | rw [← Ny147.out] at ho6 | (simp only [Int.reduceToNat] at ho6; rw [← Ny147.out] at ho6)); have n0_ := Aside0.mk (Kd.R_lower ho6 (below_size (by repeat (first | (with_reducible first | exact HB.out | apply below_alloc | apply pw_below_drewN | apply below_drew1) | exact HB.out)))); have n1_ := Aside0.mk (below_step (by repeat (first | (with_reducible first | exact HB.out | apply below_alloc | apply pw_below_drewN | apply below_drew1) | exact HB.out)) hb); clear HB; have HO149 := n0_; have HB := n1_; clear n0_ n1_; clear hb ho6))
   go_loopg [6] k (fun kq v6 w' => ∃ (x5_1 : List Bool) (x6_1 : Int), v6 = .int .i64 x6_1 ∧ Aside0 (spec_l6Make.l0 kq l0 l1 x5_1 x6_1 = some r) ∧ Aside0 (kq ≤ k) ∧ Aside0 (Kd.R Kd.bool 4 w' w.heap.size (fun _ => True) v148 x5_1) ∧ Aside0 (Below w.heap.size w w'))
   case atStart => exact ⟨(y147), (0), (by first | rfl | (simp; done) | (simp [*]; done)), H', ⟨Nat.le_refl _⟩, ⟨by (with_reducible repeat (first | apply Kd.R_alloc | apply Kd.R_drewN | apply Kd.R_drew)); exact HO149.out⟩, ⟨by repeat (first | (with_reducible first | exact HB.out | apply below_alloc | apply pw_below_drewN | apply below_drew1) | exact HB.out)⟩⟩
   case round =>
    clear H'
    try clear c1; try clear p2; try clear c3; try clear c3b0; try clear c3b1; try clear c4; try clear c4b0; try clear c4b1; try clear c6
    obtain ⟨x5_1, x6_1, rfl, HA, HK1, HO_5, HB⟩ := hrel
    cases gk with
    | zero => exact absurd HA.out (by simp [spec_l6Make.l0])
    | succ k1 =>
     have H := HA.out
     clear HA
     simp only [spec_l6Make.l0] at H
     by_cases c7 : x6_1 < (l1.length : Int)
     ·
      rw [if_pos c7] at H
      have c7b0 : decide (x6_1 < (l1.length : Int)) = true := decide_eq_true c7
      clear c7
      by_cases c8 : 0 ≤ x6_1
      ·
       rw [if_pos c8] at H
       have c8b0 : decide (0 ≤ x6_1) = true := decide_eq_true c8
       clear c8
       by_cases c9 : 0 ≤ (rd l1 x6_1)
       ·
        rw [if_pos c9] at H
        have c9b0 : decide (0 ≤ (rd l1 x6_1)) = true := decide_eq_true c9
        clear c9
        by_cases c10 : (rd l1 x6_1) < (x5_1.length : Int)
        ·
         rw [if_pos c10] at H
         have c10b0 : decide ((rd l1 x6_1) < (x5_1.length : Int)) = true := decide_eq_true c10
         clear c10
         obtain ⟨y151, hy151⟩ : ∃ y_ : List Bool, y_ = (x5_1.set ((rd l1 x6_1) : Int).toNat true) := ⟨_, rfl⟩
         replace H : (spec_l6Make.l0 k1 l0 l1 y151 (wrap64 (x6_1 + 1))) = some r := by first | (rw [hy151]; with_reducible exact H) | (have H2_ := (Option.bind_some _ _).symm.trans H; rw [hy151]; with_reducible exact H2_) | (have H2_ := (Option.bind_some _ _).symm.trans H; with_reducible exact H2_) | with_reducible exact H | (rw [hy151]; exact H) | exact H
         have Ny151 := Aside0.mk hy151
         clear hy151
         have H' := Aside0.mk H
         clear H
         have p150 : 0 ≤ (x6_1 : Int) := of_decide_eq_true (by first | (with_reducible assumption) | assumption)
         have q150 : x6_1 < (l1.length : Int) := of_decide_eq_true (by first | (with_reducible assumption) | assumption)
         obtain ⟨ad150, e150, hx150_0⟩ := Kd.at_int HR1.out x6_1 p150 q150
         cases e150
         replace hx150_0 := (HB.out.cell (World.block_lt_of_cell? w _ hx150_0)).trans hx150_0
         replace p150 := eq_true p150
         replace q150 := eq_true q150
         have p11 : 0 ≤ ((rd l1 x6_1) : Int) := of_decide_eq_true (by first | (with_reducible assumption) | assumption)
         have q11 : ((rd l1 x6_1) : Int) < ((x5_1.length : Int) : Int) := of_decide_eq_true (by first | (with_reducible assumption) | assumption)
         obtain ⟨go11, co11, eo11, gb11, gl11, cl11, HG11⟩ := Kd.R_form HO_5.out (by omega)
         (first | cases eo11 | (injection eo11 with ea_ en_ ec_; (first | subst ea_ | (injection ea_ with ea_; subst ea_)); subst ec_; clear en_))
         have GB11 := Aside0.mk gb11
         have GG11 := Aside0.mk HG11
         clear gb11 gl11 HG11
         obtain ⟨hx11_0, hf11_0⟩ := Kd.R_celln false HO_5.out ((rd l1 x6_1) : Int) p11 q11
         replace p11 := eq_true p11
         replace q11 := eq_true q11
         have HP12 := Kd.R_putg HO_5.out ((rd l1 x6_1) : Int) true
         go_wp2_with (first | ((with_reducible refine gate_store (t := 4) (p := 27) rfl ?_); refine store_event (t := 4) (p := 27) (v := ?vo_w13) (w1 := (wr.setCell ⟨go11, ((rd l1 x6_1) : Int).toNat, none⟩ (.bool true))) ?hg ?ho ?hn ?hr ?_; (case ho => rfl); (case hg => rfl); (case hn => rfl); (case hr => first | (go_simp; done) | (go_simp; rfl)); intro w13 hw; have hg : wr.grownBy w13 (some go11) := (by rw [hw]; exact HP12.2); have hp_ : Kd.R Kd.bool 4 w13 w.heap.size (fun _ => True) (.slice (some ⟨go11, 0, none⟩) x5_1.length co11) y151 := (by rw [hw, Ny151.out]; exact HP12.1); clear HP12; have n0_ := Aside0.mk (hp_); have n1_ := Aside0.mk ((by rw [hw]; exact below_set (HB.out) GB11.out : Below w.heap.size w w13)); clear HO_5; clear HB; have HO_5 := n0_; have HB := n1_; clear n0_ n1_; clear hg hw hp_))
         go_roundg k1
         case measure => have := HK1.out; omega
         case rel => exact ⟨(y151), (wrap64 (x6_1 + 1)), (by first | rfl | (simp; done) | (simp [*]; done)), H', ⟨by have := HK1.out; omega⟩, ⟨by (with_reducible repeat (first | apply Kd.R_alloc | apply Kd.R_drewN | apply Kd.R_drew)); exact HO_5.out⟩, ⟨by repeat (first | (with_reducible first | exact HB.out | apply below_alloc | apply pw_below_drewN | apply below_drew1) | exact HB.out)⟩⟩
        ·
         rw [if_neg c10] at H
         exact absurd H (by simp)
       ·
        rw [if_neg c9] at H
        exact absurd H (by simp)
      ·
       rw [if_neg c8] at H
       exact absurd H (by simp)
     ·
      rw [if_neg c7] at H
      have c7b0 : decide (x6_1 < (l1.length : Int)) = false := decide_eq_false c7
      clear c7
      by_cases c14 : 0 ≤ (l0.length : Int)
      ·
       rw [if_pos c14] at H
       have c14b0 := eq_true c14
       have c14b1 : decide (0 ≤ (l0.length : Int)) = true := decide_eq_true c14
       clear c14
       by_cases c15 : ((l0.length : Int) : Int).toNat ≤ 281474976710656
       ·
        rw [if_pos c15] at H
        have c15b0 := eq_true c15
        have c15b1 : decide (((l0.length : Int) : Int).toNat ≤ 281474976710656) = true := decide_eq_true c15
        clear c15
        obtain ⟨y152, hy152⟩ : ∃ y_ : List Bool, y_ = (List.replicate ((l0.length : Int) : Int).toNat false) := ⟨_, rfl⟩
        replace H : (spec_l6Make.l1 k1 l0 x5_1 y152 0) = some r := by first | (rw [hy152]; with_reducible exact H) | (have H2_ := (Option.bind_some _ _).symm.trans H; rw [hy152]; with_reducible exact H2_) | (have H2_ := (Option.bind_some _ _).symm.trans H; with_reducible exact H2_) | with_reducible exact H | (rw [hy152]; exact H) | exact H
        have Ny152 := Aside0.mk hy152
        clear hy152
        have H' := Aside0.mk H
        clear H
        go_wp2_with (first | ((with_reducible refine gate_dst (N := 30) rfl ?_); refine Kd.R_make Kd.bool _ 4 rfl (N := 30) rfl 66 _ _ rfl (l0.length : Int) rfl rfl Try.underlying66 (.bool false) 1 info4 rfl (by decide) (by omega) false (ok := fun _ => True) (okp := fun _ => True) rfl (fun _ hk => hk) trivial (of_decide_eq_true (by first | (with_reducible assumption) | assumption)) (Nat.le_trans (Nat.mul_le_mul_right _ (of_decide_eq_true (by first | (with_reducible assumption) | assumption) : (l0.length : Int).toNat ≤ 281474976710656)) (by omega)) (Below.refl _ _) (Nat.le_refl _) ?_; intro v153 w16 ho17 hb hg_ hnew_; clear hg_ hnew_; (first | rw [← Ny152.out] at ho17 | (simp only [Int.reduceToNat] at ho17; rw [← Ny152.out] at ho17)); have n0_ := Aside0.mk (Kd.R_elder' (by (with_reducible repeat (first | apply Kd.R_alloc | apply Kd.R_drewN | apply Kd.R_drew)); exact HO_5.out) (Kd.R_base ho17) hb); have n1_ := Aside0.mk (Kd.R_lower (Kd.R_new' ho17 (Kd.R_lt (by (with_reducible repeat (first | apply Kd.R_alloc | apply Kd.R_drewN | apply Kd.R_drew)); exact HO_5.out))) (below_size (by repeat (first | (with_reducible first | exact HB.out | apply below_alloc | apply pw_below_drewN | apply below_drew1) | exact HB.out)))); have n2_ := Aside0.mk (below_step (by repeat (first | (with_reducible first | exact HB.out | apply below_alloc | apply pw_below_drewN | apply below_drew1) | exact HB.out)) hb); clear HO_5; clear HB; have HO_5 := n0_; have HO154 := n1_; have HB := n2_; clear n0_ n1_ n2_; clear hb ho17))
        go_loopg [8] k1 (fun kq v8 w' => ∃ (x7_2 : List Bool) (x8_2 : Int), v8 = .int .i64 x8_2 ∧ Aside0 (spec_l6Make.l1 kq l0 x5_1 x7_2 x8_2 = some r) ∧ Aside0 (kq ≤ k1) ∧ Aside0 (Kd.R Kd.bool 4 w' w.heap.size (fun k_ => some k_ ≠ (v153 : Value).ownBlock) v148 x5_1) ∧ Aside0 (Kd.R Kd.bool 4 w' w.heap.size (fun k_ => some k_ ≠ (v148 : Value).ownBlock) v153 x7_2) ∧ Aside0 (Below w.heap.size w w'))
        case atStart => exact ⟨(y152), (0), (by first | rfl | (simp; done) | (simp [*]; done)), H', ⟨Nat.le_refl _⟩, ⟨by (with_reducible repeat (first | apply Kd.R_alloc | apply Kd.R_drewN | apply Kd.R_drew)); exact Kd.R_mono HO_5.out (fun _ hk => hk.2)⟩, ⟨by (with_reducible repeat (first | apply Kd.R_alloc | apply Kd.R_drewN | apply Kd.R_drew)); exact Kd.R_mono HO154.out (fun _ hk => hk.2)⟩, ⟨by repeat (first | (with_reducible first | exact HB.out | apply below_alloc | apply pw_below_drewN | apply below_drew1) | exact HB.out)⟩⟩
        case round =>
         clear H'
         try clear c1; try clear p1; try clear q1; try clear hx1; try clear p2; try clear c3; try clear c3b0; try clear c3b1; try clear c4; try clear c4b0; try clear c4b1; try clear c6; try clear p6; try clear c7; try clear c7b0; try clear c8; try clear c8b0; try clear c9; try clear c9b0; try clear c10; try clear c10b0; try clear p11; try clear q11; try clear hx11; try clear hf11; try clear c14; try clear c14b0; try clear c14b1; try clear c15; try clear c15b0; try clear c15b1; try clear p15; try clear q15; try clear hx15; try clear hx11_0; try clear hx150_0; try clear p11; try clear p150; try clear p2; try clear q11; try clear q150
         obtain ⟨x7_2, x8_2, rfl, HA, HK2, HO_5, HO_7, HB⟩ := hrel
         cases gk with
         | zero => exact absurd HA.out (by simp [spec_l6Make.l1])
         | succ k2 =>
          have H := HA.out
          clear HA
          simp only [spec_l6Make.l1] at H
          by_cases c18 : x8_2 < (l0.length : Int)
          ·
           rw [if_pos c18] at H
           have c18b0 : decide (x8_2 < (l0.length : Int)) = true := decide_eq_true c18
           clear c18
           by_cases c19 : 0 ≤ x8_2
           ·
            rw [if_pos c19] at H
            have c19b0 : decide (0 ≤ x8_2) = true := decide_eq_true c19
            clear c19
            by_cases c20 : ((rd_T50 l0 x8_2).f0) = 6
            ·
             rw [if_pos c20] at H
             have c20b0 : (((rd_T50 l0 x8_2).f0) == 6) = true := beq_iff_eq.mpr c20
             have c20b1 : (((rd_T50 l0 x8_2).f0) != 6) = false := bne_eq_false_iff_eq.mpr c20
             clear c20
             by_cases c21 : x8_2 < (x5_1.length : Int)
             ·
              rw [if_pos c21] at H
              have c21b0 : decide (x8_2 < (x5_1.length : Int)) = true := decide_eq_true c21
              clear c21
              obtain ⟨bq22, hbq22⟩ : ∃ b_ : Bool, b_ = (rdOf false x5_1 x8_2) := ⟨_, rfl⟩
              replace H : (if bq22 = true then (if 0 ≤ ((rd_T50 l0 x8_2).f1) then (if ((rd_T50 l0 x8_2).f1) < (x7_2.length : Int) then (spec_l6Make.l1 k2 l0 x5_1 (x7_2.set (((rd_T50 l0 x8_2).f1) : Int).toNat true) (wrap64 (x8_2 + 1))) else (none)) else (none)) else (spec_l6Make.l1 k2 l0 x5_1 x7_2 (wrap64 (x8_2 + 1)))) = some r := by rw [← hbq22] at H; exact H
              have Nbq22 := Aside0.mk hbq22
              clear hbq22
              by_cases c23 : bq22 = true
              ·
               subst c23
               have H1 : (if 0 ≤ ((rd_T50 l0 x8_2).f1) then (if ((rd_T50 l0 x8_2).f1) < (x7_2.length : Int) then (spec_l6Make.l1 k2 l0 x5_1 (x7_2.set (((rd_T50 l0 x8_2).f1) : Int).toNat true) (wrap64 (x8_2 + 1))) else (none)) else (none)) = some r := by rw [if_pos rfl] at H; exact H
               clear H
               have H := H1
               clear H1
               by_cases c24 : 0 ≤ ((rd_T50 l0 x8_2).f1)
               ·
                rw [if_pos c24] at H
                have c24b0 : decide (0 ≤ ((rd_T50 l0 x8_2).f1)) = true := decide_eq_true c24
                clear c24
                by_cases c25 : ((rd_T50 l0 x8_2).f1) < (x7_2.length : Int)
                ·
                 rw [if_pos c25] at H
                 have c25b0 : decide (((rd_T50 l0 x8_2).f1) < (x7_2.length : Int)) = true := decide_eq_true c25
                 clear c25
                 obtain ⟨y158, hy158⟩ : ∃ y_ : List Bool, y_ = (x7_2.set (((rd_T50 l0 x8_2).f1) : Int).toNat true) := ⟨_, rfl⟩
                 replace H : (spec_l6Make.l1 k2 l0 x5_1 y158 (wrap64 (x8_2 + 1))) = some r := by first | (rw [hy158]; with_reducible exact H) | (have H2_ := (Option.bind_some _ _).symm.trans H; rw [hy158]; with_reducible exact H2_) | (have H2_ := (Option.bind_some _ _).symm.trans H; with_reducible exact H2_) | with_reducible exact H | (rw [hy158]; exact H) | exact H
                 have Ny158 := Aside0.mk hy158
                 clear hy158
                 have H' := Aside0.mk H
                 clear H
                 have p155 : 0 ≤ (x8_2 : Int) := of_decide_eq_true (by first | (with_reducible assumption) | assumption)
                 have q155 : x8_2 < (l0.length : Int) := of_decide_eq_true (by first | (with_reducible assumption) | assumption)
                 obtain ⟨ad155, e155, hx155_0, hx155_1, hx155_2, hx155_3⟩ := at_T50 HR0.out x8_2 p155 q155
                 cases e155
                 replace hx155_0 := (HB.out.cell (World.block_lt_of_cell? w _ hx155_0)).trans hx155_0
                 replace hx155_1 := (HB.out.cell (World.block_lt_of_cell? w _ hx155_1)).trans hx155_1
                 replace hx155_2 := (HB.out.cell (World.block_lt_of_cell? w _ hx155_2)).trans hx155_2
                 replace hx155_3 := (HB.out.cell (World.block_lt_of_cell? w _ hx155_3)).trans hx155_3
                 replace p155 := eq_true p155
                 replace q155 := eq_true q155
                 obtain ⟨Ao27, co27, eo27⟩ := Kd.R_slice HO_5.out
                 subst eo27
                 have p156 : 0 ≤ (x8_2 : Int) := of_decide_eq_true (by first | (with_reducible assumption) | assumption)
                 have q156 : x8_2 < (x5_1.length : Int) := of_decide_eq_true (by first | (with_reducible assumption) | assumption)
                 obtain ⟨ad156, e156, hx156_0⟩ := Kd.at_bool (Kd.R_reads' HO_5.out).2.2 x8_2 p156 q156
                 (try rw [← Nbq22.out] at hx156_0)
                 cases e156
                 replace p156 := eq_true p156
                 replace q156 := eq_true q156
                 have p157 : 0 ≤ (x8_2 : Int) := of_decide_eq_true (by first | (with_reducible assumption) | assumption)
                 have q157 : x8_2 < (l0.length : Int) := of_decide_eq_true (by first | (with_reducible assumption) | assumption)
                 obtain ⟨ad157, e157, hx157_0, hx157_1, hx157_2, hx157_3⟩ := at_T50 HR0.out x8_2 p157 q157
                 obtain rfl : ad155 = ad157 := (by injection e157)
                 replace hx157_0 := (HB.out.cell (World.block_lt_of_cell? w _ hx157_0)).trans hx157_0
                 replace hx157_1 := (HB.out.cell (World.block_lt_of_cell? w _ hx157_1)).trans hx157_1
                 replace hx157_2 := (HB.out.cell (World.block_lt_of_cell? w _ hx157_2)).trans hx157_2
                 replace hx157_3 := (HB.out.cell (World.block_lt_of_cell? w _ hx157_3)).trans hx157_3
                 replace p157 := eq_true p157
                 replace q157 := eq_true q157
                 have p26 : 0 ≤ (((rd_T50 l0 x8_2).f1) : Int) := of_decide_eq_true (by first | (with_reducible assumption) | assumption)
                 have q26 : (((rd_T50 l0 x8_2).f1) : Int) < ((x7_2.length : Int) : Int) := of_decide_eq_true (by first | (with_reducible assumption) | assumption)
                 obtain ⟨go26, co26, eo26, gb26, gl26, cl26, HG26⟩ := Kd.R_form HO_7.out (by omega)
                 (first | cases eo26 | (injection eo26 with ea_ en_ ec_; (first | subst ea_ | (injection ea_ with ea_; subst ea_)); subst ec_; clear en_))
                 have GB26 := Aside0.mk gb26
                 have GG26 := Aside0.mk HG26
                 clear gb26 gl26 HG26
                 obtain ⟨hx26_0, hf26_0⟩ := Kd.R_celln false HO_7.out (((rd_T50 l0 x8_2).f1) : Int) p26 q26
                 replace p26 := eq_true p26
                 replace q26 := eq_true q26
                 have HP28 := Kd.R_putg HO_7.out (((rd_T50 l0 x8_2).f1) : Int) true
                 go_wp2_with (first | ((with_reducible refine gate_store (t := 4) (p := 55) rfl ?_); refine store_event (t := 4) (p := 55) (v := ?vo_w29) (w1 := (wr.setCell ⟨go26, (((rd_T50 l0 x8_2).f1) : Int).toNat, none⟩ (.bool true))) ?hg ?ho ?hn ?hr ?_; (case ho => rfl); (case hg => rfl); (case hn => rfl); (case hr => first | (go_simp; done) | (go_simp; rfl)); intro w29 hw; have hg : wr.grownBy w29 (some go26) := (by rw [hw]; exact HP28.2); have hp_ : Kd.R Kd.bool 4 w29 w.heap.size (fun k_ => some k_ ≠ (.slice (some ad156) x5_1.length co27 : Value).ownBlock) (.slice (some ⟨go26, 0, none⟩) x7_2.length co26) y158 := (by rw [hw, Ny158.out]; exact HP28.1); clear HP28; have n0_ := Aside0.mk (Kd.R_after (v := (.slice (some ⟨go26, 0, none⟩) x7_2.length co26)) (v1 := (.slice (some ⟨go26, 0, none⟩) x7_2.length co26)) (ok := (fun _ => True)) (by (with_reducible repeat (first | apply Kd.R_alloc | apply Kd.R_drewN | apply Kd.R_drew)); exact Kd.R_mono HO_5.out (fun _ hk => ⟨trivial, hk⟩)) hg (.inl rfl)); have n1_ := Aside0.mk (hp_); have n2_ := Aside0.mk ((by rw [hw]; exact below_set (HB.out) GB26.out : Below w.heap.size w w29)); clear HO_5; clear HO_7; clear HB; have HO_5 := n0_; have HO_7 := n1_; have HB := n2_; clear n0_ n1_ n2_; clear hg hw hp_))
                 go_roundg k2
                 case measure => have := HK1.out; have := HK2.out; omega
                 case rel => exact ⟨(y158), (wrap64 (x8_2 + 1)), (by first | rfl | (simp; done) | (simp [*]; done)), H', ⟨by have := HK1.out; have := HK2.out; omega⟩, ⟨by (with_reducible repeat (first | apply Kd.R_alloc | apply Kd.R_drewN | apply Kd.R_drew)); exact Kd.R_mono HO_5.out (fun _ hk => hk.2)⟩, ⟨by (with_reducible repeat (first | apply Kd.R_alloc | apply Kd.R_drewN | apply Kd.R_drew)); exact HO_7.out⟩, ⟨by repeat (first | (with_reducible first | exact HB.out | apply below_alloc | apply pw_below_drewN | apply below_drew1) | exact HB.out)⟩⟩
                ·
                 rw [if_neg c25] at H
                 exact absurd H (by simp)
               ·
                rw [if_neg c24] at H
                exact absurd H (by simp)
              ·
               replace c23 := Bool.eq_false_iff.mpr c23
               subst c23
               have H1 : (spec_l6Make.l1 k2 l0 x5_1 x7_2 (wrap64 (x8_2 + 1))) = some r := by rw [if_neg (show ¬ (false = true) by decide)] at H; exact H
               clear H
               have H := H1
               clear H1
               have H' := Aside0.mk H
               clear H
               have p155 : 0 ≤ (x8_2 : Int) := of_decide_eq_true (by first | (with_reducible assumption) | assumption)
               have q155 : x8_2 < (l0.length : Int) := of_decide_eq_true (by first | (with_reducible assumption) | assumption)
               obtain ⟨ad155, e155, hx155_0, hx155_1, hx155_2, hx155_3⟩ := at_T50 HR0.out x8_2 p155 q155
               cases e155
               replace hx155_0 := (HB.out.cell (World.block_lt_of_cell? w _ hx155_0)).trans hx155_0
               replace hx155_1 := (HB.out.cell (World.block_lt_of_cell? w _ hx155_1)).trans hx155_1
               replace hx155_2 := (HB.out.cell (World.block_lt_of_cell? w _ hx155_2)).trans hx155_2
               replace hx155_3 := (HB.out.cell (World.block_lt_of_cell? w _ hx155_3)).trans hx155_3
               replace p155 := eq_true p155
               replace q155 := eq_true q155
               obtain ⟨Ao30, co30, eo30⟩ := Kd.R_slice HO_5.out
               subst eo30
               have p156 : 0 ≤ (x8_2 : Int) := of_decide_eq_true (by first | (with_reducible assumption) | assumption)
               have q156 : x8_2 < (x5_1.length : Int) := of_decide_eq_true (by first | (with_reducible assumption) | assumption)
               obtain ⟨ad156, e156, hx156_0⟩ := Kd.at_bool (Kd.R_reads' HO_5.out).2.2 x8_2 p156 q156
               (try rw [← Nbq22.out] at hx156_0)
               cases e156
               replace p156 := eq_true p156
               replace q156 := eq_true q156
               go_wp2
               go_roundg k2
               case measure => have := HK1.out; have := HK2.out; omega
               case rel => exact ⟨(x7_2), (wrap64 (x8_2 + 1)), (by first | rfl | (simp; done) | (simp [*]; done)), H', ⟨by have := HK1.out; have := HK2.out; omega⟩, ⟨by (with_reducible repeat (first | apply Kd.R_alloc | apply Kd.R_drewN | apply Kd.R_drew)); exact HO_5.out⟩, ⟨by (with_reducible repeat (first | apply Kd.R_alloc | apply Kd.R_drewN | apply Kd.R_drew)); exact HO_7.out⟩, ⟨by repeat (first | (with_reducible first | exact HB.out | apply below_alloc | apply pw_below_drewN | apply below_drew1) | exact HB.out)⟩⟩
             ·
              rw [if_neg c21] at H
              exact absurd H (by simp)
            ·
             rw [if_neg c20] at H
             have c20b0 : (((rd_T50 l0 x8_2).f0) == 6) = false := beq_eq_false_iff_ne.mpr c20
             have c20b1 : (((rd_T50 l0 x8_2).f0) != 6) = true := bne_iff_ne.mpr c20
             have H' := Aside0.mk H
             clear H
             have p155 : 0 ≤ (x8_2 : Int) := of_decide_eq_true (by first | (with_reducible assumption) | assumption)
             have q155 : x8_2 < (l0.length : Int) := of_decide_eq_true (by first | (with_reducible assumption) | assumption)
             obtain ⟨ad155, e155, hx155_0, hx155_1, hx155_2, hx155_3⟩ := at_T50 HR0.out x8_2 p155 q155
             cases e155
             replace hx155_0 := (HB.out.cell (World.block_lt_of_cell? w _ hx155_0)).trans hx155_0
             replace hx155_1 := (HB.out.cell (World.block_lt_of_cell? w _ hx155_1)).trans hx155_1
             replace hx155_2 := (HB.out.cell (World.block_lt_of_cell? w _ hx155_2)).trans hx155_2
             replace hx155_3 := (HB.out.cell (World.block_lt_of_cell? w _ hx155_3)).trans hx155_3
             replace p155 := eq_true p155
             replace q155 := eq_true q155
             go_wp2
             go_roundg k2
             case measure => have := HK1.out; have := HK2.out; omega
             case rel => exact ⟨(x7_2), (wrap64 (x8_2 + 1)), (by first | rfl | (simp; done) | (simp [*]; done)), H', ⟨by have := HK1.out; have := HK2.out; omega⟩, ⟨by (with_reducible repeat (first | apply Kd.R_alloc | apply Kd.R_drewN | apply Kd.R_drew)); exact HO_5.out⟩, ⟨by (with_reducible repeat (first | apply Kd.R_alloc | apply Kd.R_drewN | apply Kd.R_drew)); exact HO_7.out⟩, ⟨by repeat (first | (with_reducible first | exact HB.out | apply below_alloc | apply pw_below_drewN | apply below_drew1) | exact HB.out)⟩⟩
           ·
            rw [if_neg c19] at H
            exact absurd H (by simp)
          ·
           rw [if_neg c18] at H
           have c18b0 : decide (x8_2 < (l0.length : Int)) = false := decide_eq_false c18
           clear c18
           have H' := Aside0.mk H
           clear H
           go_wp2
           go_loopg [9] k2 (fun kq v9 w' => ∃ (x5_3 : List Bool) (x9_3 : Int), v9 = .int .i64 x9_3 ∧ Aside0 (spec_l6Make.l2 kq l0 x5_3 x7_2 x9_3 = some r) ∧ Aside0 (kq ≤ k2) ∧ Aside0 (Kd.R Kd.bool 4 w' w.heap.size (fun k_ => some k_ ≠ (v153 : Value).ownBlock) v148 x5_3) ∧ Aside0 (Kd.R Kd.bool 4 w' w.heap.size (fun k_ => some k_ ≠ (v148 : Value).ownBlock) v153 x7_2) ∧ Aside0 (Below w.heap.size w w'))
           case atStart => exact ⟨(x5_1), (0), (by first | rfl | (simp; done) | (simp [*]; done)), H', ⟨Nat.le_refl _⟩, ⟨by (with_reducible repeat (first | apply Kd.R_alloc | apply Kd.R_drewN | apply Kd.R_drew)); exact HO_5.out⟩, ⟨by (with_reducible repeat (first | apply Kd.R_alloc | apply Kd.R_drewN | apply Kd.R_drew)); exact HO_7.out⟩, ⟨by repeat (first | (with_reducible first | exact HB.out | apply below_alloc | apply pw_below_drewN | apply below_drew1) | exact HB.out)⟩⟩
           case round =>
            clear H'
            try clear c1; try clear p1; try clear q1; try clear hx1; try clear c2; try clear p2; try clear q2; try clear hx2; try clear hf2; try clear c3; try clear c3b0; try clear c3b1; try clear c4; try clear c4b0; try clear c4b1; try clear c6; try clear p6; try clear c7; try clear c7b0; try clear c8; try clear c8b0; try clear c9; try clear c9b0; try clear c10; try clear c10b0; try clear p11; try clear q11; try clear hx11; try clear hf11; try clear c14; try clear c14b0; try clear c14b1; try clear c15; try clear c15b0; try clear c15b1; try clear p15; try clear q15; try clear hx15; try clear c18; try clear c18b0; try clear c19; try clear c19b0; try clear c20; try clear c20b0; try clear c20b1; try clear c21; try clear c21b0; try clear q22; try clear c23; try clear c24; try clear c24b0; try clear c25; try clear c25b0; try clear p26; try clear q26; try clear hx26; try clear hf26; try clear hx11_0; try clear hx150_0; try clear hx155_0; try clear hx155_1; try clear hx155_2; try clear hx155_3; try clear hx156_0; try clear hx157_0; try clear hx157_1; try clear hx157_2; try clear hx157_3; try clear hx26_0; try clear p1; try clear p11; try clear p15; try clear p150; try clear p155; try clear p156; try clear p157; try clear p2; try clear p26; try clear p6; try clear q1; try clear q11; try clear q15; try clear q150; try clear q155; try clear q156; try clear q157; try clear q26
            obtain ⟨x5_3, x9_3, rfl, HA, HK3, HO_5, HO_7, HB⟩ := hrel
            cases gk with
            | zero => exact absurd HA.out (by simp [spec_l6Make.l2])
            | succ k3 =>
             have H := HA.out
             clear HA
             simp only [spec_l6Make.l2] at H
             by_cases c31 : x9_3 < (l0.length : Int)
             ·
              rw [if_pos c31] at H
              have c31b0 : decide (x9_3 < (l0.length : Int)) = true := decide_eq_true c31
              clear c31
              by_cases c32 : 0 ≤ x9_3
              ·
               rw [if_pos c32] at H
               have c32b0 : decide (0 ≤ x9_3) = true := decide_eq_true c32
               clear c32
               by_cases c33 : ((rd_T50 l0 x9_3).f0) = 1
               ·
                rw [if_pos c33] at H
                have c33b0 : (((rd_T50 l0 x9_3).f0) == 1) = true := beq_iff_eq.mpr c33
                have c33b1 : (((rd_T50 l0 x9_3).f0) != 1) = false := bne_eq_false_iff_eq.mpr c33
                clear c33
                by_cases c34 : x9_3 < (x5_3.length : Int)
                ·
                 rw [if_pos c34] at H
                 have c34b0 : decide (x9_3 < (x5_3.length : Int)) = true := decide_eq_true c34
                 clear c34
                 obtain ⟨y161, hy161⟩ : ∃ y_ : List Bool, y_ = (x5_3.set (x9_3 : Int).toNat true) := ⟨_, rfl⟩
                 replace H : (spec_l6Make.l2 k3 l0 y161 x7_2 (wrap64 (x9_3 + 1))) = some r := by first | (rw [hy161]; with_reducible exact H) | (have H2_ := (Option.bind_some _ _).symm.trans H; rw [hy161]; with_reducible exact H2_) | (have H2_ := (Option.bind_some _ _).symm.trans H; with_reducible exact H2_) | with_reducible exact H | (rw [hy161]; exact H) | exact H
                 have Ny161 := Aside0.mk hy161
                 clear hy161
                 have H' := Aside0.mk H
                 clear H
                 have p159 : 0 ≤ (x9_3 : Int) := of_decide_eq_true (by first | (with_reducible assumption) | assumption)
                 have q159 : x9_3 < (l0.length : Int) := of_decide_eq_true (by first | (with_reducible assumption) | assumption)
                 obtain ⟨ad159, e159, hx159_0, hx159_1, hx159_2, hx159_3⟩ := at_T50 HR0.out x9_3 p159 q159
                 cases e159
                 replace hx159_0 := (HB.out.cell (World.block_lt_of_cell? w _ hx159_0)).trans hx159_0
                 replace hx159_1 := (HB.out.cell (World.block_lt_of_cell? w _ hx159_1)).trans hx159_1
                 replace hx159_2 := (HB.out.cell (World.block_lt_of_cell? w _ hx159_2)).trans hx159_2
                 replace hx159_3 := (HB.out.cell (World.block_lt_of_cell? w _ hx159_3)).trans hx159_3
                 replace p159 := eq_true p159
                 replace q159 := eq_true q159
                 go_wp2_with (first | ((with_reducible refine gate_dst (N := 10) rfl ?_); refine box_event ?hg (N := 10) ?hd (cs := #[.int .i64 0, .int .i64 0, .int .i64 0, .int .i64 0]) (t := 50) ?hr ?_; (case hd => rfl); (case hg => rfl); (case hr => first | (go_simp; done) | (go_simp; rfl)); intro gb160 hg w36 hbox hb; have n0_ := Aside0.mk (Kd.R_below (by (with_reducible repeat (first | apply Kd.R_alloc | apply Kd.R_drewN | apply Kd.R_drew)); exact HO_5.out) hb); have n1_ := Aside0.mk (Kd.R_below (by (with_reducible repeat (first | apply Kd.R_alloc | apply Kd.R_drewN | apply Kd.R_drew)); exact HO_7.out) hb); have n2_ := Aside0.mk (below_step (by repeat (first | (with_reducible first | exact HB.out | apply below_alloc | apply pw_below_drewN | apply below_drew1) | exact HB.out)) hb); have n3_ := Aside0.mk (hbox); have n4_ := Aside0.mk ((by rw [hg]; exact (below_size (by repeat (first | (with_reducible first | exact HB.out | apply below_alloc | apply pw_below_drewN | apply below_drew1) | exact HB.out))) : w.heap.size ≤ gb160)); have n5_ := Aside0.mk ((by rw [hg]; exact (below_size (by repeat (first | (with_reducible first | exact HB.out | apply below_alloc | apply pw_below_drewN | apply below_drew1) | exact HB.out))) : w.heap.size ≤ gb160)); clear HO_5; clear HO_7; clear HB; have HO_5 := n0_; have HO_7 := n1_; have HB := n2_; have BK160 := n3_; have GW160 := n4_; have GE160 := n5_; clear n0_ n1_ n2_ n3_ n4_ n5_; clear hb hbox hg; obtain ⟨hcz37_0, hcz37_1, hcz37_2, hcz37_3⟩ := blk_c4 BK160.out; obtain ⟨hfz37_0, hfz37_1, hfz37_2, hfz37_3⟩ := blk_f4 BK160.out) | ((with_reducible refine gate_store (t := 50) (p := 10) rfl ?_); refine store_event (t := 50) (p := 10) (v := ?vo_w38) (w1 := ((((w36.setCell ⟨gb160, 0, none⟩ (.int .i64 ((rd_T50 l0 x9_3).f0))).setCell ⟨gb160, 1, none⟩ (.int .i64 ((rd_T50 l0 x9_3).f1))).setCell ⟨gb160, 2, none⟩ (.int .i64 ((rd_T50 l0 x9_3).f2))).setCell ⟨gb160, 3, none⟩ (.int .i64 ((rd_T50 l0 x9_3).f3)))) ?hg ?ho ?hn ?hr ?_; (case ho => rfl); (case hg => rfl); (case hn => rfl); (case hr => first | (go_simp; done) | (go_simp; rfl)); intro w38 hw; have n0_ : Aside0 (Kd.R Kd.bool 4 w38 w.heap.size (fun k_ => some k_ ≠ (v153 : Value).ownBlock) v148 x5_3) := ⟨(by rw [hw]; exact (by (with_reducible repeat (first | apply Kd.R_alloc | apply Kd.R_drewN | apply Kd.R_drew)); exact Kd.R_mono (Kd.R_far (p := ⟨gb160, 3, none⟩) (Kd.R_far (p := ⟨gb160, 2, none⟩) (Kd.R_far (p := ⟨gb160, 1, none⟩) (Kd.R_far (p := ⟨gb160, 0, none⟩) (Kd.R_types HO_5.out BK160.out (by decide)) (fun _ hk => hk.2) (.int .i64 ((rd_T50 l0 x9_3).f0))) (fun _ hk => hk.2) (.int .i64 ((rd_T50 l0 x9_3).f1))) (fun _ hk => hk.2) (.int .i64 ((rd_T50 l0 x9_3).f2))) (fun _ hk => hk.2) (.int .i64 ((rd_T50 l0 x9_3).f3))) (fun _ hk => hk.1)))⟩; have n1_ : Aside0 (Kd.R Kd.bool 4 w38 w.heap.size (fun k_ => some k_ ≠ (v148 : Value).ownBlock) v153 x7_2) := ⟨(by rw [hw]; exact (by (with_reducible repeat (first | apply Kd.R_alloc | apply Kd.R_drewN | apply Kd.R_drew)); exact Kd.R_mono (Kd.R_far (p := ⟨gb160, 3, none⟩) (Kd.R_far (p := ⟨gb160, 2, none⟩) (Kd.R_far (p := ⟨gb160, 1, none⟩) (Kd.R_far (p := ⟨gb160, 0, none⟩) (Kd.R_types HO_7.out BK160.out (by decide)) (fun _ hk => hk.2) (.int .i64 ((rd_T50 l0 x9_3).f0))) (fun _ hk => hk.2) (.int .i64 ((rd_T50 l0 x9_3).f1))) (fun _ hk => hk.2) (.int .i64 ((rd_T50 l0 x9_3).f2))) (fun _ hk => hk.2) (.int .i64 ((rd_T50 l0 x9_3).f3))) (fun _ hk => hk.1)))⟩; have n2_ : Aside0 (w38.heap[gb160]? = some (.cells #[.int .i64 ((rd_T50 l0 x9_3).f0), .int .i64 ((rd_T50 l0 x9_3).f1), .int .i64 ((rd_T50 l0 x9_3).f2), .int .i64 ((rd_T50 l0 x9_3).f3)] 50 (0, 0))) := ⟨(by rw [hw]; exact (by (with_reducible repeat (first | refine blk_drewN ?_ _ | refine blk_drew ?_ | refine blk_alloc ?_ _)); refine blk_put (cs := #[.int .i64 ((rd_T50 l0 x9_3).f0), .int .i64 ((rd_T50 l0 x9_3).f1), .int .i64 ((rd_T50 l0 x9_3).f2), .int .i64 0]) ?_ 3 _ rfl; (with_reducible repeat (first | refine blk_drewN ?_ _ | refine blk_drew ?_ | refine blk_alloc ?_ _)); refine blk_put (cs := #[.int .i64 ((rd_T50 l0 x9_3).f0), .int .i64 ((rd_T50 l0 x9_3).f1), .int .i64 0, .int .i64 0]) ?_ 2 _ rfl; (with_reducible repeat (first | refine blk_drewN ?_ _ | refine blk_drew ?_ | refine blk_alloc ?_ _)); refine blk_put (cs := #[.int .i64 ((rd_T50 l0 x9_3).f0), .int .i64 0, .int .i64 0, .int .i64 0]) ?_ 1 _ rfl; (with_reducible repeat (first | refine blk_drewN ?_ _ | refine blk_drew ?_ | refine blk_alloc ?_ _)); refine blk_put (cs := #[.int .i64 0, .int .i64 0, .int .i64 0, .int .i64 0]) ?_ 0 _ rfl; (with_reducible repeat (first | refine blk_drewN ?_ _ | refine blk_drew ?_ | refine blk_alloc ?_ _)); exact BK160.out))⟩; have n3_ : Aside0 (Below w.heap.size w w38) := ⟨(by rw [hw]; exact (by repeat (first | (with_reducible first | exact HB.out | apply below_alloc | apply pw_below_drewN | apply below_drew1 | refine below_set ?_ GE160.out) | exact HB.out)))⟩; clear hw; clear HO_5; clear HO_7; clear BK160; clear HB; have HO_5 := n0_; have HO_7 := n1_; have BK160 := n2_; have HB := n3_; clear n0_ n1_ n2_ n3_; obtain ⟨hcz39_0, hcz39_1, hcz39_2, hcz39_3⟩ := blk_c4 BK160.out; obtain ⟨hfz39_0, hfz39_1, hfz39_2, hfz39_3⟩ := blk_f4 BK160.out; have p35 : 0 ≤ (x9_3 : Int) := of_decide_eq_true (by first | (with_reducible assumption) | assumption); have q35 : (x9_3 : Int) < ((x5_3.length : Int) : Int) := of_decide_eq_true (by first | (with_reducible assumption) | assumption); obtain ⟨go35, co35, eo35, gb35, gl35, cl35, HG35⟩ := Kd.R_form HO_5.out (by omega); (first | cases eo35 | (injection eo35 with ea_ en_ ec_; (first | subst ea_ | (injection ea_ with ea_; subst ea_)); subst ec_; clear en_)); have GB35 := Aside0.mk gb35; have GG35 := Aside0.mk HG35; clear gb35 gl35 HG35; obtain ⟨hx35_0, hf35_0⟩ := Kd.R_celln false HO_5.out (x9_3 : Int) p35 q35; replace p35 := eq_true p35; replace q35 := eq_true q35; obtain ⟨hy40_, hz40_⟩ := Kd.R_celln false HO_5.out (x9_3 : Int) (of_decide_eq_true (by first | (with_reducible assumption) | assumption)) (of_decide_eq_true (by first | (with_reducible assumption) | assumption)); have HP40 := Kd.R_putg HO_5.out (x9_3 : Int) true) | ((with_reducible refine gate_store (t := 4) (p := 72) rfl ?_); refine store_event (t := 4) (p := 72) (v := ?vo_w41) (w1 := (w38.setCell ⟨go35, (x9_3 : Int).toNat, none⟩ (.bool true))) ?hg ?ho ?hn ?hr ?_; (case ho => rfl); (case hg => rfl); (case hn => rfl); (case hr => first | (go_simp; done) | (go_simp; rfl)); intro w41 hw; have hg : w38.grownBy w41 (some go35) := (by rw [hw]; exact HP40.2); have hp_ : Kd.R Kd.bool 4 w41 w.heap.size (fun k_ => some k_ ≠ (v153 : Value).ownBlock) (.slice (some ⟨go35, 0, none⟩) x5_3.length co35) y161 := (by rw [hw, Ny161.out]; exact HP40.1); clear HP40; have n0_ := Aside0.mk (hp_); have n1_ := Aside0.mk (Kd.R_after (v := (.slice (some ⟨go35, 0, none⟩) x5_3.length co35)) (v1 := (.slice (some ⟨go35, 0, none⟩) x5_3.length co35)) (ok := (fun _ => True)) (by (with_reducible repeat (first | apply Kd.R_alloc | apply Kd.R_drewN | apply Kd.R_drew)); exact Kd.R_mono HO_7.out (fun _ hk => ⟨trivial, hk⟩)) hg (.inl rfl)); have n2_ := Aside0.mk (blk_grown (g := gb160) (o := .cells #[.int .i64 ((rd_T50 l0 x9_3).f0), .int .i64 ((rd_T50 l0 x9_3).f1), .int .i64 ((rd_T50 l0 x9_3).f2), .int .i64 ((rd_T50 l0 x9_3).f3)] 50 (0, 0)) (by (with_reducible repeat (first | refine blk_drewN ?_ _ | refine blk_drew ?_ | refine blk_alloc ?_ _)); exact BK160.out) hg (Kd.R_ne HO_5.out BK160.out (by decide))); have n3_ := Aside0.mk ((by rw [hw]; exact below_set (HB.out) GB35.out : Below w.heap.size w w41)); clear HO_5; clear HO_7; clear BK160; clear HB; have HO_5 := n0_; have HO_7 := n1_; have BK160 := n2_; have HB := n3_; clear n0_ n1_ n2_ n3_; clear hg hw hp_))
                 go_roundg k3
                 case measure => have := HK1.out; have := HK2.out; have := HK3.out; omega
                 case rel => exact ⟨(y161), (wrap64 (x9_3 + 1)), (by first | rfl | (simp; done) | (simp [*]; done)), H', ⟨by have := HK1.out; have := HK2.out; have := HK3.out; omega⟩, ⟨by (with_reducible repeat (first | apply Kd.R_alloc | apply Kd.R_drewN | apply Kd.R_drew)); exact HO_5.out⟩, ⟨by (with_reducible repeat (first | apply Kd.R_alloc | apply Kd.R_drewN | apply Kd.R_drew)); exact Kd.R_mono HO_7.out (fun _ hk => hk.2)⟩, ⟨by repeat (first | (with_reducible first | exact HB.out | apply below_alloc | apply pw_below_drewN | apply below_drew1 | refine below_set ?_ GE160.out) | exact HB.out)⟩⟩
                ·
                 rw [if_neg c34] at H
                 exact absurd H (by simp)
               ·
                rw [if_neg c33] at H
                have c33b0 : (((rd_T50 l0 x9_3).f0) == 1) = false := beq_eq_false_iff_ne.mpr c33
                have c33b1 : (((rd_T50 l0 x9_3).f0) != 1) = true := bne_iff_ne.mpr c33
                have HC42 := Aside0.mk H
                clear H
                have p159 : 0 ≤ (x9_3 : Int) := of_decide_eq_true (by first | (with_reducible assumption) | assumption)
                have q159 : x9_3 < (l0.length : Int) := of_decide_eq_true (by first | (with_reducible assumption) | assumption)
                obtain ⟨ad159, e159, hx159_0, hx159_1, hx159_2, hx159_3⟩ := at_T50 HR0.out x9_3 p159 q159
                cases e159
                replace hx159_0 := (HB.out.cell (World.block_lt_of_cell? w _ hx159_0)).trans hx159_0
                replace hx159_1 := (HB.out.cell (World.block_lt_of_cell? w _ hx159_1)).trans hx159_1
                replace hx159_2 := (HB.out.cell (World.block_lt_of_cell? w _ hx159_2)).trans hx159_2
                replace hx159_3 := (HB.out.cell (World.block_lt_of_cell? w _ hx159_3)).trans hx159_3
                replace p159 := eq_true p159
                replace q159 := eq_true q159
                go_upto_if 73 with (first | ((with_reducible refine gate_dst (N := 10) rfl ?_); refine box_event ?hg (N := 10) ?hd (cs := #[.int .i64 0, .int .i64 0, .int .i64 0, .int .i64 0]) (t := 50) ?hr ?_; (case hd => rfl); (case hg => rfl); (case hr => first | (go_simp; done) | (go_simp; rfl)); intro gb160 hg w43 hbox hb; have n0_ := Aside0.mk (Kd.R_below (by (with_reducible repeat (first | apply Kd.R_alloc | apply Kd.R_drewN | apply Kd.R_drew)); exact HO_5.out) hb); have n1_ := Aside0.mk (Kd.R_below (by (with_reducible repeat (first | apply Kd.R_alloc | apply Kd.R_drewN | apply Kd.R_drew)); exact HO_7.out) hb); have n2_ := Aside0.mk (below_step (by repeat (first | (with_reducible first | exact HB.out | apply below_alloc | apply pw_below_drewN | apply below_drew1) | exact HB.out)) hb); have n3_ := Aside0.mk (hbox); have n4_ := Aside0.mk ((by rw [hg]; exact (below_size (by repeat (first | (with_reducible first | exact HB.out | apply below_alloc | apply pw_below_drewN | apply below_drew1) | exact HB.out))) : w.heap.size ≤ gb160)); have n5_ := Aside0.mk ((by rw [hg]; exact (below_size (by repeat (first | (with_reducible first | exact HB.out | apply below_alloc | apply pw_below_drewN | apply below_drew1) | exact HB.out))) : w.heap.size ≤ gb160)); clear HO_5; clear HO_7; clear HB; have HO_5 := n0_; have HO_7 := n1_; have HB := n2_; have BK160 := n3_; have GW160 := n4_; have GE160 := n5_; clear n0_ n1_ n2_ n3_ n4_ n5_; clear hb hbox hg; obtain ⟨hcz44_0, hcz44_1, hcz44_2, hcz44_3⟩ := blk_c4 BK160.out; obtain ⟨hfz44_0, hfz44_1, hfz44_2, hfz44_3⟩ := blk_f4 BK160.out))
                (try simp only [Act.put, List.setIfInBounds_toArray, List.set_cons_zero, List.set_cons_succ])
                go_cut [73] (fun v73 wc => ∃ (kq : Nat) (x73_41 : Bool), v73 = .bool x73_41 ∧ Aside0 (spec_l6Make.j3 kq l0 x5_3 x7_2 x9_3 ((rd_T50 l0 x9_3).f0) x73_41 ((rd_T50 l0 x9_3).f0) ((rd_T50 l0 x9_3).f1) ((rd_T50 l0 x9_3).f2) ((rd_T50 l0 x9_3).f3) = some r) ∧ Aside0 (kq ≤ k3) ∧ Aside0 (Kd.R Kd.bool 4 wc w.heap.size (fun k_ => some k_ ≠ (v153 : Value).ownBlock) v148 x5_3) ∧ Aside0 (Kd.R Kd.bool 4 wc w.heap.size (fun k_ => some k_ ≠ (v148 : Value).ownBlock) v153 x7_2) ∧ Aside0 (wc.heap[gb160]? = some (.cells #[.int .i64 ((rd_T50 l0 x9_3).f0), .int .i64 ((rd_T50 l0 x9_3).f1), .int .i64 ((rd_T50 l0 x9_3).f2), .int .i64 ((rd_T50 l0 x9_3).f3)] 50 (0, 0))) ∧ Aside0 (Below w.heap.size w wc))
                case first =>
                 have H := HC42.out
                 clear HC42
                 by_cases c45 : ((rd_T50 l0 x9_3).f0) = 3
                 ·
                  rw [if_pos c45] at H
                  have c45b0 : (((rd_T50 l0 x9_3).f0) == 3) = true := beq_iff_eq.mpr c45
                  have c45b1 : (((rd_T50 l0 x9_3).f0) != 3) = false := bne_eq_false_iff_eq.mpr c45
                  clear c45
                  (first | rw [c45b0] | (simp only [i64_w, i32_w]; rw [c45b0]) | skip)
                  have H' := Aside0.mk H
                  clear H
                  go_wp2
                  go_meet
                  case rel => exact ⟨_, ((((rd_T50 l0 x9_3).f0) == 3)), (by first | rfl | (simp; done) | (simp [*]; done)), H', ⟨by have := HK1.out; have := HK2.out; have := HK3.out; first | omega | exact Nat.le_refl _⟩, ⟨by (with_reducible repeat (first | apply Kd.R_alloc | apply Kd.R_drewN | apply Kd.R_drew)); exact Kd.R_mono (Kd.R_far (p := ⟨gb160, 3, none⟩) (Kd.R_far (p := ⟨gb160, 2, none⟩) (Kd.R_far (p := ⟨gb160, 1, none⟩) (Kd.R_far (p := ⟨gb160, 0, none⟩) (Kd.R_types HO_5.out BK160.out (by decide)) (fun _ hk => hk.2) (.int .i64 ((rd_T50 l0 x9_3).f0))) (fun _ hk => hk.2) (.int .i64 ((rd_T50 l0 x9_3).f1))) (fun _ hk => hk.2) (.int .i64 ((rd_T50 l0 x9_3).f2))) (fun _ hk => hk.2) (.int .i64 ((rd_T50 l0 x9_3).f3))) (fun _ hk => hk.1)⟩, ⟨by (with_reducible repeat (first | apply Kd.R_alloc | apply Kd.R_drewN | apply Kd.R_drew)); exact Kd.R_mono (Kd.R_far (p := ⟨gb160, 3, none⟩) (Kd.R_far (p := ⟨gb160, 2, none⟩) (Kd.R_far (p := ⟨gb160, 1, none⟩) (Kd.R_far (p := ⟨gb160, 0, none⟩) (Kd.R_types HO_7.out BK160.out (by decide)) (fun _ hk => hk.2) (.int .i64 ((rd_T50 l0 x9_3).f0))) (fun _ hk => hk.2) (.int .i64 ((rd_T50 l0 x9_3).f1))) (fun _ hk => hk.2) (.int .i64 ((rd_T50 l0 x9_3).f2))) (fun _ hk => hk.2) (.int .i64 ((rd_T50 l0 x9_3).f3))) (fun _ hk => hk.1)⟩, ⟨by (with_reducible repeat (first | refine blk_drewN ?_ _ | refine blk_drew ?_ | refine blk_alloc ?_ _)); refine blk_put (cs := #[.int .i64 ((rd_T50 l0 x9_3).f0), .int .i64 ((rd_T50 l0 x9_3).f1), .int .i64 ((rd_T50 l0 x9_3).f2), .int .i64 0]) ?_ 3 _ rfl; (with_reducible repeat (first | refine blk_drewN ?_ _ | refine blk_drew ?_ | refine blk_alloc ?_ _)); refine blk_put (cs := #[.int .i64 ((rd_T50 l0 x9_3).f0), .int .i64 ((rd_T50 l0 x9_3).f1), .int .i64 0, .int .i64 0]) ?_ 2 _ rfl; (with_reducible repeat (first | refine blk_drewN ?_ _ | refine blk_drew ?_ | refine blk_alloc ?_ _)); refine blk_put (cs := #[.int .i64 ((rd_T50 l0 x9_3).f0), .int .i64 0, .int .i64 0, .int .i64 0]) ?_ 1 _ rfl; (with_reducible repeat (first | refine blk_drewN ?_ _ | refine blk_drew ?_ | refine blk_alloc ?_ _)); refine blk_put (cs := #[.int .i64 0, .int .i64 0, .int .i64 0, .int .i64 0]) ?_ 0 _ rfl; (with_reducible repeat (first | refine blk_drewN ?_ _ | refine blk_drew ?_ | refine blk_alloc ?_ _)); exact BK160.out⟩, ⟨by repeat (first | (with_reducible first | exact HB.out | apply below_alloc | apply pw_below_drewN | apply below_drew1 | refine below_set ?_ GE160.out) | exact HB.out)⟩⟩
                 ·
                  rw [if_neg c45] at H
                  have c45b0 : (((rd_T50 l0 x9_3).f0) == 3) = false := beq_eq_false_iff_ne.mpr c45
                  have c45b1 : (((rd_T50 l0 x9_3).f0) != 3) = true := bne_iff_ne.mpr c45
                  (first | rw [c45b0] | (simp only [i64_w, i32_w]; rw [c45b0]) | skip)
                  by_cases c46 : ((rd_T50 l0 x9_3).f0) = 4
                  ·
                   rw [if_pos c46] at H
                   have c46b0 : (((rd_T50 l0 x9_3).f0) == 4) = true := beq_iff_eq.mpr c46
                   have c46b1 : (((rd_T50 l0 x9_3).f0) != 4) = false := bne_eq_false_iff_eq.mpr c46
                   clear c46
                   have H' := Aside0.mk H
                   clear H
                   go_wp2
                   go_meet
                   case rel => exact ⟨_, ((((rd_T50 l0 x9_3).f0) == 4)), (by first | rfl | (simp; done) | (simp [*]; done)), H', ⟨by have := HK1.out; have := HK2.out; have := HK3.out; first | omega | exact Nat.le_refl _⟩, ⟨by (with_reducible repeat (first | apply Kd.R_alloc | apply Kd.R_drewN | apply Kd.R_drew)); exact Kd.R_mono (Kd.R_far (p := ⟨gb160, 3, none⟩) (Kd.R_far (p := ⟨gb160, 2, none⟩) (Kd.R_far (p := ⟨gb160, 1, none⟩) (Kd.R_far (p := ⟨gb160, 0, none⟩) (Kd.R_types HO_5.out BK160.out (by decide)) (fun _ hk => hk.2) (.int .i64 ((rd_T50 l0 x9_3).f0))) (fun _ hk => hk.2) (.int .i64 ((rd_T50 l0 x9_3).f1))) (fun _ hk => hk.2) (.int .i64 ((rd_T50 l0 x9_3).f2))) (fun _ hk => hk.2) (.int .i64 ((rd_T50 l0 x9_3).f3))) (fun _ hk => hk.1)⟩, ⟨by (with_reducible repeat (first | apply Kd.R_alloc | apply Kd.R_drewN | apply Kd.R_drew)); exact Kd.R_mono (Kd.R_far (p := ⟨gb160, 3, none⟩) (Kd.R_far (p := ⟨gb160, 2, none⟩) (Kd.R_far (p := ⟨gb160, 1, none⟩) (Kd.R_far (p := ⟨gb160, 0, none⟩) (Kd.R_types HO_7.out BK160.out (by decide)) (fun _ hk => hk.2) (.int .i64 ((rd_T50 l0 x9_3).f0))) (fun _ hk => hk.2) (.int .i64 ((rd_T50 l0 x9_3).f1))) (fun _ hk => hk.2) (.int .i64 ((rd_T50 l0 x9_3).f2))) (fun _ hk => hk.2) (.int .i64 ((rd_T50 l0 x9_3).f3))) (fun _ hk => hk.1)⟩, ⟨by (with_reducible repeat (first | refine blk_drewN ?_ _ | refine blk_drew ?_ | refine blk_alloc ?_ _)); refine blk_put (cs := #[.int .i64 ((rd_T50 l0 x9_3).f0), .int .i64 ((rd_T50 l0 x9_3).f1), .int .i64 ((rd_T50 l0 x9_3).f2), .int .i64 0]) ?_ 3 _ rfl; (with_reducible repeat (first | refine blk_drewN ?_ _ | refine blk_drew ?_ | refine blk_alloc ?_ _)); refine blk_put (cs := #[.int .i64 ((rd_T50 l0 x9_3).f0), .int .i64 ((rd_T50 l0 x9_3).f1), .int .i64 0, .int .i64 0]) ?_ 2 _ rfl; (with_reducible repeat (first | refine blk_drewN ?_ _ | refine blk_drew ?_ | refine blk_alloc ?_ _)); refine blk_put (cs := #[.int .i64 ((rd_T50 l0 x9_3).f0), .int .i64 0, .int .i64 0, .int .i64 0]) ?_ 1 _ rfl; (with_reducible repeat (first | refine blk_drewN ?_ _ | refine blk_drew ?_ | refine blk_alloc ?_ _)); refine blk_put (cs := #[.int .i64 0, .int .i64 0, .int .i64 0, .int .i64 0]) ?_ 0 _ rfl; (with_reducible repeat (first | refine blk_drewN ?_ _ | refine blk_drew ?_ | refine blk_alloc ?_ _)); exact BK160.out⟩, ⟨by repeat (first | (with_reducible first | exact HB.out | apply below_alloc | apply pw_below_drewN | apply below_drew1 | refine below_set ?_ GE160.out) | exact HB.out)⟩⟩
                  ·
                   rw [if_neg c46] at H
                   have c46b0 : (((rd_T50 l0 x9_3).f0) == 4) = false := beq_eq_false_iff_ne.mpr c46
                   have c46b1 : (((rd_T50 l0 x9_3).f0) != 4) = true := bne_iff_ne.mpr c46
                   have H' := Aside0.mk H
                   clear H
                   go_wp2
                   go_meet
                   case rel => exact ⟨_, ((((rd_T50 l0 x9_3).f0) == 5)), (by first | rfl | (simp; done) | (simp [*]; done)), H', ⟨by have := HK1.out; have := HK2.out; have := HK3.out; first | omega | exact Nat.le_refl _⟩, ⟨by (with_reducible repeat (first | apply Kd.R_alloc | apply Kd.R_drewN | apply Kd.R_drew)); exact Kd.R_mono (Kd.R_far (p := ⟨gb160, 3, none⟩) (Kd.R_far (p := ⟨gb160, 2, none⟩) (Kd.R_far (p := ⟨gb160, 1, none⟩) (Kd.R_far (p := ⟨gb160, 0, none⟩) (Kd.R_types HO_5.out BK160.out (by decide)) (fun _ hk => hk.2) (.int .i64 ((rd_T50 l0 x9_3).f0))) (fun _ hk => hk.2) (.int .i64 ((rd_T50 l0 x9_3).f1))) (fun _ hk => hk.2) (.int .i64 ((rd_T50 l0 x9_3).f2))) (fun _ hk => hk.2) (.int .i64 ((rd_T50 l0 x9_3).f3))) (fun _ hk => hk.1)⟩, ⟨by (with_reducible repeat (first | apply Kd.R_alloc | apply Kd.R_drewN | apply Kd.R_drew)); exact Kd.R_mono (Kd.R_far (p := ⟨gb160, 3, none⟩) (Kd.R_far (p := ⟨gb160, 2, none⟩) (Kd.R_far (p := ⟨gb160, 1, none⟩) (Kd.R_far (p := ⟨gb160, 0, none⟩) (Kd.R_types HO_7.out BK160.out (by decide)) (fun _ hk => hk.2) (.int .i64 ((rd_T50 l0 x9_3).f0))) (fun _ hk => hk.2) (.int .i64 ((rd_T50 l0 x9_3).f1))) (fun _ hk => hk.2) (.int .i64 ((rd_T50 l0 x9_3).f2))) (fun _ hk => hk.2) (.int .i64 ((rd_T50 l0 x9_3).f3))) (fun _ hk => hk.1)⟩, ⟨by (with_reducible repeat (first | refine blk_drewN ?_ _ | refine blk_drew ?_ | refine blk_alloc ?_ _)); refine blk_put (cs := #[.int .i64 ((rd_T50 l0 x9_3).f0), .int .i64 ((rd_T50 l0 x9_3).f1), .int .i64 ((rd_T50 l0 x9_3).f2), .int .i64 0]) ?_ 3 _ rfl; (with_reducible repeat (first | refine blk_drewN ?_ _ | refine blk_drew ?_ | refine blk_alloc ?_ _)); refine blk_put (cs := #[.int .i64 ((rd_T50 l0 x9_3).f0), .int .i64 ((rd_T50 l0 x9_3).f1), .int .i64 0, .int .i64 0]) ?_ 2 _ rfl; (with_reducible repeat (first | refine blk_drewN ?_ _ | refine blk_drew ?_ | refine blk_alloc ?_ _)); refine blk_put (cs := #[.int .i64 ((rd_T50 l0 x9_3).f0), .int .i64 0, .int .i64 0, .int .i64 0]) ?_ 1 _ rfl; (with_reducible repeat (first | refine blk_drewN ?_ _ | refine blk_drew ?_ | refine blk_alloc ?_ _)); refine blk_put (cs := #[.int .i64 0, .int .i64 0, .int .i64 0, .int .i64 0]) ?_ 0 _ rfl; (with_reducible repeat (first | refine blk_drewN ?_ _ | refine blk_drew ?_ | refine blk_alloc ?_ _)); exact BK160.out⟩, ⟨by repeat (first | (with_reducible first | exact HB.out | apply below_alloc | apply pw_below_drewN | apply below_drew1 | refine below_set ?_ GE160.out) | exact HB.out)⟩⟩
                case rest =>
                 clear HC42
                 try clear c1; try clear p1; try clear q1; try clear hx1; try clear c2; try clear p2; try clear q2; try clear hx2; try clear hf2; try clear c3; try clear c3b0; try clear c3b1; try clear p3; try clear q3; try clear hx3; try clear hf3; try clear c4; try clear c4b0; try clear c4b1; try clear c6; try clear p6; try clear c7; try clear c7b0; try clear c8; try clear c8b0; try clear c9; try clear c9b0; try clear c10; try clear c10b0; try clear p11; try clear q11; try clear hx11; try clear hf11; try clear c14; try clear c14b0; try clear c14b1; try clear c15; try clear c15b0; try clear c15b1; try clear p15; try clear q15; try clear hx15; try clear c18; try clear c18b0; try clear c19; try clear c19b0; try clear c20; try clear c20b0; try clear c20b1; try clear c21; try clear c21b0; try clear q22; try clear c23; try clear c24; try clear c24b0; try clear c25; try clear c25b0; try clear p26; try clear q26; try clear hx26; try clear hf26; try clear c31; try clear c31b0; try clear c32; try clear c32b0; try clear c33; try clear c33b0; try clear c33b1; try clear c34; try clear c34b0; try clear p35; try clear q35; try clear hx35; try clear hf35; try clear c45; try clear c45b0; try clear c45b1; try clear c46; try clear c46b0; try clear c46b1; try clear hcz37_0; try clear hcz37_1; try clear hcz37_2; try clear hcz37_3; try clear hcz39_0; try clear hcz39_1; try clear hcz39_2; try clear hcz39_3; try clear hcz44_0; try clear hcz44_1; try clear hcz44_2; try clear hcz44_3; try clear hfz37_0; try clear hfz37_1; try clear hfz37_2; try clear hfz37_3; try clear hfz39_0; try clear hfz39_1; try clear hfz39_2; try clear hfz39_3; try clear hfz44_0; try clear hfz44_1; try clear hfz44_2; try clear hfz44_3; try clear hx11_0; try clear hx150_0; try clear hx155_0; try clear hx155_1; try clear hx155_2; try clear hx155_3; try clear hx156_0; try clear hx157_0; try clear hx157_1; try clear hx157_2; try clear hx157_3; try clear hx159_0; try clear hx159_1; try clear hx159_2; try clear hx159_3; try clear hx26_0; try clear hx35_0; try clear p1; try clear p11; try clear p15; try clear p150; try clear p155; try clear p156; try clear p157; try clear p159; try clear p2; try clear p26; try clear p35; try clear p6; try clear q1; try clear q11; try clear q15; try clear q150; try clear q155; try clear q156; try clear q157; try clear q159; try clear q2; try clear q22; try clear q26; try clear q35
                 obtain ⟨kq, x73_41, rfl, HA, HJ41, HO_5, HO_7, BK160, HB⟩ := hcut
                 cases kq with
                 | zero => exact absurd HA.out (by simp [spec_l6Make.j3])
                 | succ kj41 =>
                  have H := HA.out
                  clear HA
                  simp only [spec_l6Make.j3] at H
                  by_cases c47 : x73_41 = true
                  ·
                   subst c47
                   have H1 : (if 0 ≤ x9_3 then (if x9_3 < (x5_3.length : Int) then (if rdOf false x5_3 x9_3 = true then (spec_l6Make.l2 kj41 l0 (x5_3.set (x9_3 : Int).toNat true) x7_2 (wrap64 (x9_3 + 1))) else (if 0 ≤ ((rd_T50 l0 x9_3).f1) then (if ((rd_T50 l0 x9_3).f1) < (x5_3.length : Int) then (if rdOf false x5_3 ((rd_T50 l0 x9_3).f1) = true then (if 0 ≤ ((rd_T50 l0 x9_3).f2) then (if ((rd_T50 l0 x9_3).f2) < (x5_3.length : Int) then (spec_l6Make.l2 kj41 l0 (x5_3.set (x9_3 : Int).toNat (rdOf false x5_3 ((rd_T50 l0 x9_3).f2))) x7_2 (wrap64 (x9_3 + 1))) else (none)) else (none)) else (spec_l6Make.l2 kj41 l0 (x5_3.set (x9_3 : Int).toNat false) x7_2 (wrap64 (x9_3 + 1)))) else (none)) else (none))) else (none)) else (none)) = some r := by rw [if_pos rfl] at H; exact H
                   clear H
                   have H := H1
                   clear H1
                   by_cases c48 : 0 ≤ x9_3
                   ·
                    rw [if_pos c48] at H
                    have c48b0 : decide (0 ≤ x9_3) = true := decide_eq_true c48
                    clear c48
                    by_cases c49 : x9_3 < (x5_3.length : Int)
                    ·
                     rw [if_pos c49] at H
                     have c49b0 : decide (x9_3 < (x5_3.length : Int)) = true := decide_eq_true c49
                     clear c49
                     obtain ⟨bq50, hbq50⟩ : ∃ b_ : Bool, b_ = (rdOf false x5_3 x9_3) := ⟨_, rfl⟩
                     replace H : (if bq50 = true then (spec_l6Make.l2 kj41 l0 (x5_3.set (x9_3 : Int).toNat true) x7_2 (wrap64 (x9_3 + 1))) else (if 0 ≤ ((rd_T50 l0 x9_3).f1) then (if ((rd_T50 l0 x9_3).f1) < (x5_3.length : Int) then (if rdOf false x5_3 ((rd_T50 l0 x9_3).f1) = true then (if 0 ≤ ((rd_T50 l0 x9_3).f2) then (if ((rd_T50 l0 x9_3).f2) < (x5_3.length : Int) then (spec_l6Make.l2 kj41 l0 (x5_3.set (x9_3 : Int).toNat (rdOf false x5_3 ((rd_T50 l0 x9_3).f2))) x7_2 (wrap64 (x9_3 + 1))) else (none)) else (none)) else (spec_l6Make.l2 kj41 l0 (x5_3.set (x9_3 : Int).toNat false) x7_2 (wrap64 (x9_3 + 1)))) else (none)) else (none))) = some r := by rw [← hbq50] at H; exact H
                     have Nbq50 := Aside0.mk hbq50
                     clear hbq50
                     by_cases c51 : bq50 = true
                     ·
                      subst c51
                      have H1 : (spec_l6Make.l2 kj41 l0 (x5_3.set (x9_3 : Int).toNat true) x7_2 (wrap64 (x9_3 + 1))) = some r := by rw [if_pos rfl] at H; exact H
                      clear H
                      have H := H1
                      clear H1
                      obtain ⟨y163, hy163⟩ : ∃ y_ : List Bool, y_ = (x5_3.set (x9_3 : Int).toNat true) := ⟨_, rfl⟩
                      replace H : (spec_l6Make.l2 kj41 l0 y163 x7_2 (wrap64 (x9_3 + 1))) = some r := by first | (rw [hy163]; with_reducible exact H) | (have H2_ := (Option.bind_some _ _).symm.trans H; rw [hy163]; with_reducible exact H2_) | (have H2_ := (Option.bind_some _ _).symm.trans H; with_reducible exact H2_) | with_reducible exact H | (rw [hy163]; exact H) | exact H
                      have Ny163 := Aside0.mk hy163
                      clear hy163
                      have H' := Aside0.mk H
                      clear H
                      obtain ⟨Ao53, co53, eo53⟩ := Kd.R_slice HO_5.out
                      subst eo53
                      have p162 : 0 ≤ (x9_3 : Int) := of_decide_eq_true (by first | (with_reducible assumption) | assumption)
                      have q162 : x9_3 < (x5_3.length : Int) := of_decide_eq_true (by first | (with_reducible assumption) | assumption)
                      obtain ⟨ad162, e162, hx162_0⟩ := Kd.at_bool (Kd.R_reads' HO_5.out).2.2 x9_3 p162 q162
                      (try rw [← Nbq50.out] at hx162_0)
                      cases e162
                      replace p162 := eq_true p162
                      replace q162 := eq_true q162
                      have p52 : 0 ≤ (x9_3 : Int) := of_decide_eq_true (by first | (with_reducible assumption) | assumption)
                      have q52 : (x9_3 : Int) < ((x5_3.length : Int) : Int) := of_decide_eq_true (by first | (with_reducible assumption) | assumption)
                      obtain ⟨go52, co52, eo52, gb52, gl52, cl52, HG52⟩ := Kd.R_form HO_5.out (by omega)
                      (first | cases eo52 | (injection eo52 with ea_ en_ ec_; (first | subst ea_ | (injection ea_ with ea_; subst ea_)); subst ec_; clear en_))
                      have GB52 := Aside0.mk gb52
                      have GG52 := Aside0.mk HG52
                      clear gb52 gl52 HG52
                      (first | simp only [add_plain] at hx162_0 | skip)
                      obtain ⟨hx52_0, hf52_0⟩ := Kd.R_celln false HO_5.out (x9_3 : Int) p52 q52
                      replace p52 := eq_true p52
                      replace q52 := eq_true q52
                      have HP54 := Kd.R_putg HO_5.out (x9_3 : Int) true
                      go_wp2_with (first | ((with_reducible refine gate_store (t := 4) (p := 97) rfl ?_); refine store_event (t := 4) (p := 97) (v := ?vo_w55) (w1 := (wc.setCell ⟨go52, (x9_3 : Int).toNat, none⟩ (.bool true))) ?hg ?ho ?hn ?hr ?_; (case ho => rfl); (case hg => rfl); (case hn => rfl); (case hr => first | (go_simp; done) | (go_simp; rfl)); intro w55 hw; have hg : wc.grownBy w55 (some go52) := (by rw [hw]; exact HP54.2); have hp_ : Kd.R Kd.bool 4 w55 w.heap.size (fun k_ => some k_ ≠ (v153 : Value).ownBlock) (.slice (some ⟨go52, 0, none⟩) x5_3.length co53) y163 := (by rw [hw, Ny163.out]; exact HP54.1); clear HP54; have n0_ := Aside0.mk (hp_); have n1_ := Aside0.mk (Kd.R_after (v := (.slice (some ⟨go52, 0, none⟩) x5_3.length co53)) (v1 := (.slice (some ⟨go52, 0, none⟩) x5_3.length co53)) (ok := (fun _ => True)) (by (with_reducible repeat (first | apply Kd.R_alloc | apply Kd.R_drewN | apply Kd.R_drew)); exact Kd.R_mono HO_7.out (fun _ hk => ⟨trivial, hk⟩)) hg (.inl rfl)); have n2_ := Aside0.mk (blk_grown (g := gb160) (o := .cells #[.int .i64 ((rd_T50 l0 x9_3).f0), .int .i64 ((rd_T50 l0 x9_3).f1), .int .i64 ((rd_T50 l0 x9_3).f2), .int .i64 ((rd_T50 l0 x9_3).f3)] 50 (0, 0)) (by (with_reducible repeat (first | refine blk_drewN ?_ _ | refine blk_drew ?_ | refine blk_alloc ?_ _)); exact BK160.out) hg (Kd.R_ne HO_5.out BK160.out (by decide))); have n3_ := Aside0.mk ((by rw [hw]; exact below_set (HB.out) GB52.out : Below w.heap.size w w55)); clear HO_5; clear HO_7; clear BK160; clear HB; have HO_5 := n0_; have HO_7 := n1_; have BK160 := n2_; have HB := n3_; clear n0_ n1_ n2_ n3_; clear hg hw hp_))
                      go_roundg kj41
                      case measure => have := HK1.out; have := HK2.out; have := HK3.out; have := HJ41.out; omega
                      case rel => exact ⟨(y163), (wrap64 (x9_3 + 1)), (by first | rfl | (simp; done) | (simp [*]; done)), H', ⟨by have := HK1.out; have := HK2.out; have := HK3.out; have := HJ41.out; omega⟩, ⟨by (with_reducible repeat (first | apply Kd.R_alloc | apply Kd.R_drewN | apply Kd.R_drew)); exact HO_5.out⟩, ⟨by (with_reducible repeat (first | apply Kd.R_alloc | apply Kd.R_drewN | apply Kd.R_drew)); exact Kd.R_mono HO_7.out (fun _ hk => hk.2)⟩, ⟨by repeat (first | (with_reducible first | exact HB.out | apply below_alloc | apply pw_below_drewN | apply below_drew1 | refine below_set ?_ GE160.out) | exact HB.out)⟩⟩
                     ·
                      replace c51 := Bool.eq_false_iff.mpr c51
                      subst c51
                      have H1 : (if 0 ≤ ((rd_T50 l0 x9_3).f1) then (if ((rd_T50 l0 x9_3).f1) < (x5_3.length : Int) then (if rdOf false x5_3 ((rd_T50 l0 x9_3).f1) = true then (if 0 ≤ ((rd_T50 l0 x9_3).f2) then (if ((rd_T50 l0 x9_3).f2) < (x5_3.length : Int) then (spec_l6Make.l2 kj41 l0 (x5_3.set (x9_3 : Int).toNat (rdOf false x5_3 ((rd_T50 l0 x9_3).f2))) x7_2 (wrap64 (x9_3 + 1))) else (none)) else (none)) else (spec_l6Make.l2 kj41 l0 (x5_3.set (x9_3 : Int).toNat false) x7_2 (wrap64 (x9_3 + 1)))) else (none)) else (none)) = some r := by rw [if_neg (show ¬ (false = true) by decide)] at H; exact H
                      clear H
                      have H := H1
                      clear H1
                      by_cases c56 : 0 ≤ ((rd_T50 l0 x9_3).f1)
                      ·
                       rw [if_pos c56] at H
                       have c56b0 : decide (0 ≤ ((rd_T50 l0 x9_3).f1)) = true := decide_eq_true c56
                       clear c56
                       by_cases c57 : ((rd_T50 l0 x9_3).f1) < (x5_3.length : Int)
                       ·
                        rw [if_pos c57] at H
                        have c57b0 : decide (((rd_T50 l0 x9_3).f1) < (x5_3.length : Int)) = true := decide_eq_true c57
                        clear c57
                        obtain ⟨bq58, hbq58⟩ : ∃ b_ : Bool, b_ = (rdOf false x5_3 ((rd_T50 l0 x9_3).f1)) := ⟨_, rfl⟩
                        replace H : (if bq58 = true then (if 0 ≤ ((rd_T50 l0 x9_3).f2) then (if ((rd_T50 l0 x9_3).f2) < (x5_3.length : Int) then (spec_l6Make.l2 kj41 l0 (x5_3.set (x9_3 : Int).toNat (rdOf false x5_3 ((rd_T50 l0 x9_3).f2))) x7_2 (wrap64 (x9_3 + 1))) else (none)) else (none)) else (spec_l6Make.l2 kj41 l0 (x5_3.set (x9_3 : Int).toNat false) x7_2 (wrap64 (x9_3 + 1)))) = some r := by rw [← hbq58] at H; exact H
                        have Nbq58 := Aside0.mk hbq58
                        clear hbq58
                        by_cases c59 : bq58 = true
                        ·
                         subst c59
                         have H1 : (if 0 ≤ ((rd_T50 l0 x9_3).f2) then (if ((rd_T50 l0 x9_3).f2) < (x5_3.length : Int) then (spec_l6Make.l2 kj41 l0 (x5_3.set (x9_3 : Int).toNat (rdOf false x5_3 ((rd_T50 l0 x9_3).f2))) x7_2 (wrap64 (x9_3 + 1))) else (none)) else (none)) = some r := by rw [if_pos rfl] at H; exact H
                         clear H
                         have H := H1
                         clear H1
                         by_cases c60 : 0 ≤ ((rd_T50 l0 x9_3).f2)
                         ·
                          rw [if_pos c60] at H
                          have c60b0 : decide (0 ≤ ((rd_T50 l0 x9_3).f2)) = true := decide_eq_true c60
                          clear c60
                          by_cases c61 : ((rd_T50 l0 x9_3).f2) < (x5_3.length : Int)
                          ·
                           rw [if_pos c61] at H
                           have c61b0 : decide (((rd_T50 l0 x9_3).f2) < (x5_3.length : Int)) = true := decide_eq_true c61
                           clear c61
                           obtain ⟨y166, hy166⟩ : ∃ y_ : List Bool, y_ = (x5_3.set (x9_3 : Int).toNat (rdOf false x5_3 ((rd_T50 l0 x9_3).f2))) := ⟨_, rfl⟩
                           replace H : (spec_l6Make.l2 kj41 l0 y166 x7_2 (wrap64 (x9_3 + 1))) = some r := by first | (rw [hy166]; with_reducible exact H) | (have H2_ := (Option.bind_some _ _).symm.trans H; rw [hy166]; with_reducible exact H2_) | (have H2_ := (Option.bind_some _ _).symm.trans H; with_reducible exact H2_) | with_reducible exact H | (rw [hy166]; exact H) | exact H
                           have Ny166 := Aside0.mk hy166
                           clear hy166
                           have H' := Aside0.mk H
                           clear H
                           obtain ⟨Ao63, co63, eo63⟩ := Kd.R_slice HO_5.out
                           subst eo63
                           have p162 : 0 ≤ (x9_3 : Int) := of_decide_eq_true (by first | (with_reducible assumption) | assumption)
                           have q162 : x9_3 < (x5_3.length : Int) := of_decide_eq_true (by first | (with_reducible assumption) | assumption)
                           obtain ⟨ad162, e162, hx162_0⟩ := Kd.at_bool (Kd.R_reads' HO_5.out).2.2 x9_3 p162 q162
                           (try rw [← Nbq50.out] at hx162_0)
                           (try rw [← Nbq58.out] at hx162_0)
                           cases e162
                           replace p162 := eq_true p162
                           replace q162 := eq_true q162
                           obtain ⟨hcz64_0, hcz64_1, hcz64_2, hcz64_3⟩ := blk_c4 BK160.out
                           obtain ⟨hfz64_0, hfz64_1, hfz64_2, hfz64_3⟩ := blk_f4 BK160.out
                           have p164 : 0 ≤ (((rd_T50 l0 x9_3).f1) : Int) := of_decide_eq_true (by first | (with_reducible assumption) | assumption)
                           have q164 : ((rd_T50 l0 x9_3).f1) < (x5_3.length : Int) := of_decide_eq_true (by first | (with_reducible assumption) | assumption)
                           obtain ⟨ad164, e164, hx164_0⟩ := Kd.at_bool (Kd.R_reads' HO_5.out).2.2 ((rd_T50 l0 x9_3).f1) p164 q164
                           (try rw [← Nbq50.out] at hx164_0)
                           (try rw [← Nbq58.out] at hx164_0)
                           obtain rfl : ad162 = ad164 := (by injection e164)
                           replace p164 := eq_true p164
                           replace q164 := eq_true q164
                           have p165 : 0 ≤ (((rd_T50 l0 x9_3).f2) : Int) := of_decide_eq_true (by first | (with_reducible assumption) | assumption)
                           have q165 : ((rd_T50 l0 x9_3).f2) < (x5_3.length : Int) := of_decide_eq_true (by first | (with_reducible assumption) | assumption)
                           obtain ⟨ad165, e165, hx165_0⟩ := Kd.at_bool (Kd.R_reads' HO_5.out).2.2 ((rd_T50 l0 x9_3).f2) p165 q165
                           (try rw [← Nbq50.out] at hx165_0)
                           (try rw [← Nbq58.out] at hx165_0)
                           obtain rfl : ad162 = ad165 := (by injection e165)
                           replace p165 := eq_true p165
                           replace q165 := eq_true q165
                           have p62 : 0 ≤ (x9_3 : Int) := of_decide_eq_true (by first | (with_reducible assumption) | assumption)
                           have q62 : (x9_3 : Int) < ((x5_3.length : Int) : Int) := of_decide_eq_true (by first | (with_reducible assumption) | assumption)
                           obtain ⟨go62, co62, eo62, gb62, gl62, cl62, HG62⟩ := Kd.R_form HO_5.out (by omega)
                           (first | cases eo62 | (injection eo62 with ea_ en_ ec_; (first | subst ea_ | (injection ea_ with ea_; subst ea_)); subst ec_; clear en_))
                           have GB62 := Aside0.mk gb62
                           have GG62 := Aside0.mk HG62
                           clear gb62 gl62 HG62
                           (first | simp only [add_plain] at hx162_0 | skip)
                           (first | simp only [add_plain] at hx164_0 | skip)
                           (first | simp only [add_plain] at hx165_0 | skip)
                           obtain ⟨hx62_0, hf62_0⟩ := Kd.R_celln false HO_5.out (x9_3 : Int) p62 q62
                           replace p62 := eq_true p62
                           replace q62 := eq_true q62
                           have HP65 := Kd.R_putg HO_5.out (x9_3 : Int) (rdOf false x5_3 ((rd_T50 l0 x9_3).f2))
                           go_wp2_with (first | ((with_reducible refine gate_store (t := 4) (p := 97) rfl ?_); refine store_event (t := 4) (p := 97) (v := ?vo_w66) (w1 := (wc.setCell ⟨go62, (x9_3 : Int).toNat, none⟩ (.bool (rdOf false x5_3 ((rd_T50 l0 x9_3).f2))))) ?hg ?ho ?hn ?hr ?_; (case ho => rfl); (case hg => rfl); (case hn => rfl); (case hr => first | (go_simp; done) | (go_simp; rfl)); intro w66 hw; have hg : wc.grownBy w66 (some go62) := (by rw [hw]; exact HP65.2); have hp_ : Kd.R Kd.bool 4 w66 w.heap.size (fun k_ => some k_ ≠ (v153 : Value).ownBlock) (.slice (some ⟨go62, 0, none⟩) x5_3.length co63) y166 := (by rw [hw, Ny166.out]; exact HP65.1); clear HP65; have n0_ := Aside0.mk (hp_); have n1_ := Aside0.mk (Kd.R_after (v := (.slice (some ⟨go62, 0, none⟩) x5_3.length co63)) (v1 := (.slice (some ⟨go62, 0, none⟩) x5_3.length co63)) (ok := (fun _ => True)) (by (with_reducible repeat (first | apply Kd.R_alloc | apply Kd.R_drewN | apply Kd.R_drew)); exact Kd.R_mono HO_7.out (fun _ hk => ⟨trivial, hk⟩)) hg (.inl rfl)); have n2_ := Aside0.mk (blk_grown (g := gb160) (o := .cells #[.int .i64 ((rd_T50 l0 x9_3).f0), .int .i64 ((rd_T50 l0 x9_3).f1), .int .i64 ((rd_T50 l0 x9_3).f2), .int .i64 ((rd_T50 l0 x9_3).f3)] 50 (0, 0)) (by (with_reducible repeat (first | refine blk_drewN ?_ _ | refine blk_drew ?_ | refine blk_alloc ?_ _)); exact BK160.out) hg (Kd.R_ne HO_5.out BK160.out (by decide))); have n3_ := Aside0.mk ((by rw [hw]; exact below_set (HB.out) GB62.out : Below w.heap.size w w66)); clear HO_5; clear HO_7; clear BK160; clear HB; have HO_5 := n0_; have HO_7 := n1_; have BK160 := n2_; have HB := n3_; clear n0_ n1_ n2_ n3_; clear hg hw hp_))
                           go_roundg kj41
                           case measure => have := HK1.out; have := HK2.out; have := HK3.out; have := HJ41.out; omega
                           case rel => exact ⟨(y166), (wrap64 (x9_3 + 1)), (by first | rfl | (simp; done) | (simp [*]; done)), H', ⟨by have := HK1.out; have := HK2.out; have := HK3.out; have := HJ41.out; omega⟩, ⟨by (with_reducible repeat (first | apply Kd.R_alloc | apply Kd.R_drewN | apply Kd.R_drew)); exact HO_5.out⟩, ⟨by (with_reducible repeat (first | apply Kd.R_alloc | apply Kd.R_drewN | apply Kd.R_drew)); exact Kd.R_mono HO_7.out (fun _ hk => hk.2)⟩, ⟨by repeat (first | (with_reducible first | exact HB.out | apply below_alloc | apply pw_below_drewN | apply below_drew1 | refine below_set ?_ GE160.out) | exact HB.out)⟩⟩
                          ·
                           rw [if_neg c61] at H
                           exact absurd H (by simp)
                         ·
                          rw [if_neg c60] at H
                          exact absurd H (by simp)
                        ·
                         replace c59 := Bool.eq_false_iff.mpr c59
                         subst c59
                         have H1 : (spec_l6Make.l2 kj41 l0 (x5_3.set (x9_3 : Int).toNat false) x7_2 (wrap64 (x9_3 + 1))) = some r := by rw [if_neg (show ¬ (false = true) by decide)] at H; exact H
                         clear H
                         have H := H1
                         clear H1
                         obtain ⟨y167, hy167⟩ : ∃ y_ : List Bool, y_ = (x5_3.set (x9_3 : Int).toNat false) := ⟨_, rfl⟩
                         replace H : (spec_l6Make.l2 kj41 l0 y167 x7_2 (wrap64 (x9_3 + 1))) = some r := by first | (rw [hy167]; with_reducible exact H) | (have H2_ := (Option.bind_some _ _).symm.trans H; rw [hy167]; with_reducible exact H2_) | (have H2_ := (Option.bind_some _ _).symm.trans H; with_reducible exact H2_) | with_reducible exact H | (rw [hy167]; exact H) | exact H
                         have Ny167 := Aside0.mk hy167
                         clear hy167
                         have H' := Aside0.mk H
                         clear H
                         obtain ⟨Ao68, co68, eo68⟩ := Kd.R_slice HO_5.out
                         subst eo68
                         have p162 : 0 ≤ (x9_3 : Int) := of_decide_eq_true (by first | (with_reducible assumption) | assumption)
                         have q162 : x9_3 < (x5_3.length : Int) := of_decide_eq_true (by first | (with_reducible assumption) | assumption)
                         obtain ⟨ad162, e162, hx162_0⟩ := Kd.at_bool (Kd.R_reads' HO_5.out).2.2 x9_3 p162 q162
                         (try rw [← Nbq50.out] at hx162_0)
                         (try rw [← Nbq58.out] at hx162_0)
                         cases e162
                         replace p162 := eq_true p162
                         replace q162 := eq_true q162
                         obtain ⟨hcz69_0, hcz69_1, hcz69_2, hcz69_3⟩ := blk_c4 BK160.out
                         obtain ⟨hfz69_0, hfz69_1, hfz69_2, hfz69_3⟩ := blk_f4 BK160.out
                         have p164 : 0 ≤ (((rd_T50 l0 x9_3).f1) : Int) := of_decide_eq_true (by first | (with_reducible assumption) | assumption)
                         have q164 : ((rd_T50 l0 x9_3).f1) < (x5_3.length : Int) := of_decide_eq_true (by first | (with_reducible assumption) | assumption)
                         obtain ⟨ad164, e164, hx164_0⟩ := Kd.at_bool (Kd.R_reads' HO_5.out).2.2 ((rd_T50 l0 x9_3).f1) p164 q164
                         (try rw [← Nbq50.out] at hx164_0)
                         (try rw [← Nbq58.out] at hx164_0)
                         obtain rfl : ad162 = ad164 := (by injection e164)
                         replace p164 := eq_true p164
                         replace q164 := eq_true q164
                         have p67 : 0 ≤ (x9_3 : Int) := of_decide_eq_true (by first | (with_reducible assumption) | assumption)
                         have q67 : (x9_3 : Int) < ((x5_3.length : Int) : Int) := of_decide_eq_true (by first | (with_reducible assumption) | assumption)
                         obtain ⟨go67, co67, eo67, gb67, gl67, cl67, HG67⟩ := Kd.R_form HO_5.out (by omega)
                         (first | cases eo67 | (injection eo67 with ea_ en_ ec_; (first | subst ea_ | (injection ea_ with ea_; subst ea_)); subst ec_; clear en_))
                         have GB67 := Aside0.mk gb67
                         have GG67 := Aside0.mk HG67
                         clear gb67 gl67 HG67
                         (first | simp only [add_plain] at hx162_0 | skip)
                         (first | simp only [add_plain] at hx164_0 | skip)
                         obtain ⟨hx67_0, hf67_0⟩ := Kd.R_celln false HO_5.out (x9_3 : Int) p67 q67
                         replace p67 := eq_true p67
                         replace q67 := eq_true q67
                         have HP70 := Kd.R_putg HO_5.out (x9_3 : Int) false
                         go_wp2_with (first | ((with_reducible refine gate_store (t := 4) (p := 97) rfl ?_); refine store_event (t := 4) (p := 97) (v := ?vo_w71) (w1 := (wc.setCell ⟨go67, (x9_3 : Int).toNat, none⟩ (.bool false))) ?hg ?ho ?hn ?hr ?_; (case ho => rfl); (case hg => rfl); (case hn => rfl); (case hr => first | (go_simp; done) | (go_simp; rfl)); intro w71 hw; have hg : wc.grownBy w71 (some go67) := (by rw [hw]; exact HP70.2); have hp_ : Kd.R Kd.bool 4 w71 w.heap.size (fun k_ => some k_ ≠ (v153 : Value).ownBlock) (.slice (some ⟨go67, 0, none⟩) x5_3.length co68) y167 := (by rw [hw, Ny167.out]; exact HP70.1); clear HP70; have n0_ := Aside0.mk (hp_); have n1_ := Aside0.mk (Kd.R_after (v := (.slice (some ⟨go67, 0, none⟩) x5_3.length co68)) (v1 := (.slice (some ⟨go67, 0, none⟩) x5_3.length co68)) (ok := (fun _ => True)) (by (with_reducible repeat (first | apply Kd.R_alloc | apply Kd.R_drewN | apply Kd.R_drew)); exact Kd.R_mono HO_7.out (fun _ hk => ⟨trivial, hk⟩)) hg (.inl rfl)); have n2_ := Aside0.mk (blk_grown (g := gb160) (o := .cells #[.int .i64 ((rd_T50 l0 x9_3).f0), .int .i64 ((rd_T50 l0 x9_3).f1), .int .i64 ((rd_T50 l0 x9_3).f2), .int .i64 ((rd_T50 l0 x9_3).f3)] 50 (0, 0)) (by (with_reducible repeat (first | refine blk_drewN ?_ _ | refine blk_drew ?_ | refine blk_alloc ?_ _)); exact BK160.out) hg (Kd.R_ne HO_5.out BK160.out (by decide))); have n3_ := Aside0.mk ((by rw [hw]; exact below_set (HB.out) GB67.out : Below w.heap.size w w71)); clear HO_5; clear HO_7; clear BK160; clear HB; have HO_5 := n0_; have HO_7 := n1_; have BK160 := n2_; have HB := n3_; clear n0_ n1_ n2_ n3_; clear hg hw hp_))
                         go_roundg kj41
                         case measure => have := HK1.out; have := HK2.out; have := HK3.out; have := HJ41.out; omega
                         case rel => exact ⟨(y167), (wrap64 (x9_3 + 1)), (by first | rfl | (simp; done) | (simp [*]; done)), H', ⟨by have := HK1.out; have := HK2.out; have := HK3.out; have := HJ41.out; omega⟩, ⟨by (with_reducible repeat (first | apply Kd.R_alloc | apply Kd.R_drewN | apply Kd.R_drew)); exact HO_5.out⟩, ⟨by (with_reducible repeat (first | apply Kd.R_alloc | apply Kd.R_drewN | apply Kd.R_drew)); exact Kd.R_mono HO_7.out (fun _ hk => hk.2)⟩, ⟨by repeat (first | (with_reducible first | exact HB.out | apply below_alloc | apply pw_below_drewN | apply below_drew1 | refine below_set ?_ GE160.out) | exact HB.out)⟩⟩
                       ·
                        rw [if_neg c57] at H
                        exact absurd H (by simp)
                      ·
                       rw [if_neg c56] at H
                       exact absurd H (by simp)
                    ·
                     rw [if_neg c49] at H
                     exact absurd H (by simp)
                   ·
                    rw [if_neg c48] at H
                    exact absurd H (by simp)
                  ·
                   replace c47 := Bool.eq_false_iff.mpr c47
                   subst c47
                   have H1 : (if ((rd_T50 l0 x9_3).f0) = 6 then (if 0 ≤ x9_3 then (if x9_3 < (x5_3.length : Int) then (if rdOf false x5_3 x9_3 = true then (spec_l6Make.l2 kj41 l0 (x5_3.set (x9_3 : Int).toNat true) x7_2 (wrap64 (x9_3 + 1))) else (if 0 ≤ ((rd_T50 l0 x9_3).f1) then (if ((rd_T50 l0 x9_3).f1) < (x5_3.length : Int) then (spec_l6Make.l2 kj41 l0 (x5_3.set (x9_3 : Int).toNat (rdOf false x5_3 ((rd_T50 l0 x9_3).f1))) x7_2 (wrap64 (x9_3 + 1))) else (none)) else (none))) else (none)) else (none)) else (if ((rd_T50 l0 x9_3).f0) = 7 then (if 0 ≤ ((rd_T50 l0 x9_3).f1) then (if ((rd_T50 l0 x9_3).f1) < (x5_3.length : Int) then (if 0 ≤ ((rd_T50 l0 x9_3).f2) then (if ((rd_T50 l0 x9_3).f2) < (x5_3.length : Int) then (if 0 ≤ x9_3 then (if x9_3 < (x5_3.length : Int) then (if rdOf false x5_3 x9_3 = true then (spec_l6Make.l2 kj41 l0 (x5_3.set (x9_3 : Int).toNat true) x7_2 (wrap64 (x9_3 + 1))) else (if rdOf false x5_3 ((rd_T50 l0 x9_3).f1) = true then (if rdOf false x5_3 ((rd_T50 l0 x9_3).f2) = true then (spec_l6Make.l2 kj41 l0 (x5_3.set (x9_3 : Int).toNat true) x7_2 (wrap64 (x9_3 + 1))) else (if ((rd_T50 l0 x9_3).f2) < (x7_2.length : Int) then (if rdOf false x7_2 ((rd_T50 l0 x9_3).f2) = true then (spec_l6Make.l2 kj41 l0 (x5_3.set (x9_3 : Int).toNat true) x7_2 (wrap64 (x9_3 + 1))) else (spec_l6Make.l2 kj41 l0 (x5_3.set (x9_3 : Int).toNat false) x7_2 (wrap64 (x9_3 + 1)))) else (none))) else (if rdOf false x5_3 ((rd_T50 l0 x9_3).f2) = true then (if ((rd_T50 l0 x9_3).f1) < (x7_2.length : Int) then (spec_l6Make.l2 kj41 l0 (x5_3.set (x9_3 : Int).toNat (rdOf false x7_2 ((rd_T50 l0 x9_3).f1))) x7_2 (wrap64 (x9_3 + 1))) else (none)) else (spec_l6Make.l2 kj41 l0 (x5_3.set (x9_3 : Int).toNat false) x7_2 (wrap64 (x9_3 + 1)))))) else (none)) else (none)) else (none)) else (none)) else (none)) else (none)) else (spec_l6Make.l2 kj41 l0 x5_3 x7_2 (wrap64 (x9_3 + 1))))) = some r := by rw [if_neg (show ¬ (false = true) by decide)] at H; exact H
                   clear H
                   have H := H1
                   clear H1
                   by_cases c72 : ((rd_T50 l0 x9_3).f0) = 6
                   ·
                    rw [if_pos c72] at H
                    have c72b0 : (((rd_T50 l0 x9_3).f0) == 6) = true := beq_iff_eq.mpr c72
                    have c72b1 : (((rd_T50 l0 x9_3).f0) != 6) = false := bne_eq_false_iff_eq.mpr c72
                    clear c72
                    by_cases c73 : 0 ≤ x9_3
                    ·
                     rw [if_pos c73] at H
                     have c73b0 : decide (0 ≤ x9_3) = true := decide_eq_true c73
                     clear c73
                     by_cases c74 : x9_3 < (x5_3.length : Int)
                     ·
                      rw [if_pos c74] at H
                      have c74b0 : decide (x9_3 < (x5_3.length : Int)) = true := decide_eq_true c74
                      clear c74
                      obtain ⟨bq75, hbq75⟩ : ∃ b_ : Bool, b_ = (rdOf false x5_3 x9_3) := ⟨_, rfl⟩
                      replace H : (if bq75 = true then (spec_l6Make.l2 kj41 l0 (x5_3.set (x9_3 : Int).toNat true) x7_2 (wrap64 (x9_3 + 1))) else (if 0 ≤ ((rd_T50 l0 x9_3).f1) then (if ((rd_T50 l0 x9_3).f1) < (x5_3.length : Int) then (spec_l6Make.l2 kj41 l0 (x5_3.set (x9_3 : Int).toNat (rdOf false x5_3 ((rd_T50 l0 x9_3).f1))) x7_2 (wrap64 (x9_3 + 1))) else (none)) else (none))) = some r := by rw [← hbq75] at H; exact H
                      have Nbq75 := Aside0.mk hbq75
                      clear hbq75
                      by_cases c76 : bq75 = true
                      ·
                       subst c76
                       have H1 : (spec_l6Make.l2 kj41 l0 (x5_3.set (x9_3 : Int).toNat true) x7_2 (wrap64 (x9_3 + 1))) = some r := by rw [if_pos rfl] at H; exact H
                       clear H
                       have H := H1
                       clear H1
                       obtain ⟨y169, hy169⟩ : ∃ y_ : List Bool, y_ = (x5_3.set (x9_3 : Int).toNat true) := ⟨_, rfl⟩
                       replace H : (spec_l6Make.l2 kj41 l0 y169 x7_2 (wrap64 (x9_3 + 1))) = some r := by first | (rw [hy169]; with_reducible exact H) | (have H2_ := (Option.bind_some _ _).symm.trans H; rw [hy169]; with_reducible exact H2_) | (have H2_ := (Option.bind_some _ _).symm.trans H; with_reducible exact H2_) | with_reducible exact H | (rw [hy169]; exact H) | exact H
                       have Ny169 := Aside0.mk hy169
                       clear hy169
                       have H' := Aside0.mk H
                       clear H
                       obtain ⟨Ao78, co78, eo78⟩ := Kd.R_slice HO_5.out
                       subst eo78
                       have p168 : 0 ≤ (x9_3 : Int) := of_decide_eq_true (by first | (with_reducible assumption) | assumption)
                       have q168 : x9_3 < (x5_3.length : Int) := of_decide_eq_true (by first | (with_reducible assumption) | assumption)
                       obtain ⟨ad168, e168, hx168_0⟩ := Kd.at_bool (Kd.R_reads' HO_5.out).2.2 x9_3 p168 q168
                       (try rw [← Nbq75.out] at hx168_0)
                       cases e168
                       replace p168 := eq_true p168
                       replace q168 := eq_true q168
                       have p77 : 0 ≤ (x9_3 : Int) := of_decide_eq_true (by first | (with_reducible assumption) | assumption)
                       have q77 : (x9_3 : Int) < ((x5_3.length : Int) : Int) := of_decide_eq_true (by first | (with_reducible assumption) | assumption)
                       obtain ⟨go77, co77, eo77, gb77, gl77, cl77, HG77⟩ := Kd.R_form HO_5.out (by omega)
                       (first | cases eo77 | (injection eo77 with ea_ en_ ec_; (first | subst ea_ | (injection ea_ with ea_; subst ea_)); subst ec_; clear en_))
                       have GB77 := Aside0.mk gb77
                       have GG77 := Aside0.mk HG77
                       clear gb77 gl77 HG77
                       (first | simp only [add_plain] at hx168_0 | skip)
                       obtain ⟨hx77_0, hf77_0⟩ := Kd.R_celln false HO_5.out (x9_3 : Int) p77 q77
                       replace p77 := eq_true p77
                       replace q77 := eq_true q77
                       have HP79 := Kd.R_putg HO_5.out (x9_3 : Int) true
                       go_wp2_with (first | ((with_reducible refine gate_store (t := 4) (p := 113) rfl ?_); refine store_event (t := 4) (p := 113) (v := ?vo_w80) (w1 := (wc.setCell ⟨go77, (x9_3 : Int).toNat, none⟩ (.bool true))) ?hg ?ho ?hn ?hr ?_; (case ho => rfl); (case hg => rfl); (case hn => rfl); (case hr => first | (go_simp; done) | (go_simp; rfl)); intro w80 hw; have hg : wc.grownBy w80 (some go77) := (by rw [hw]; exact HP79.2); have hp_ : Kd.R Kd.bool 4 w80 w.heap.size (fun k_ => some k_ ≠ (v153 : Value).ownBlock) (.slice (some ⟨go77, 0, none⟩) x5_3.length co78) y169 := (by rw [hw, Ny169.out]; exact HP79.1); clear HP79; have n0_ := Aside0.mk (hp_); have n1_ := Aside0.mk (Kd.R_after (v := (.slice (some ⟨go77, 0, none⟩) x5_3.length co78)) (v1 := (.slice (some ⟨go77, 0, none⟩) x5_3.length co78)) (ok := (fun _ => True)) (by (with_reducible repeat (first | apply Kd.R_alloc | apply Kd.R_drewN | apply Kd.R_drew)); exact Kd.R_mono HO_7.out (fun _ hk => ⟨trivial, hk⟩)) hg (.inl rfl)); have n2_ := Aside0.mk (blk_grown (g := gb160) (o := .cells #[.int .i64 ((rd_T50 l0 x9_3).f0), .int .i64 ((rd_T50 l0 x9_3).f1), .int .i64 ((rd_T50 l0 x9_3).f2), .int .i64 ((rd_T50 l0 x9_3).f3)] 50 (0, 0)) (by (with_reducible repeat (first | refine blk_drewN ?_ _ | refine blk_drew ?_ | refine blk_alloc ?_ _)); exact BK160.out) hg (Kd.R_ne HO_5.out BK160.out (by decide))); have n3_ := Aside0.mk ((by rw [hw]; exact below_set (HB.out) GB77.out : Below w.heap.size w w80)); clear HO_5; clear HO_7; clear BK160; clear HB; have HO_5 := n0_; have HO_7 := n1_; have BK160 := n2_; have HB := n3_; clear n0_ n1_ n2_ n3_; clear hg hw hp_))
                       go_roundg kj41
                       case measure => have := HK1.out; have := HK2.out; have := HK3.out; have := HJ41.out; omega
                       case rel => exact ⟨(y169), (wrap64 (x9_3 + 1)), (by first | rfl | (simp; done) | (simp [*]; done)), H', ⟨by have := HK1.out; have := HK2.out; have := HK3.out; have := HJ41.out; omega⟩, ⟨by (with_reducible repeat (first | apply Kd.R_alloc | apply Kd.R_drewN | apply Kd.R_drew)); exact HO_5.out⟩, ⟨by (with_reducible repeat (first | apply Kd.R_alloc | apply Kd.R_drewN | apply Kd.R_drew)); exact Kd.R_mono HO_7.out (fun _ hk => hk.2)⟩, ⟨by repeat (first | (with_reducible first | exact HB.out | apply below_alloc | apply pw_below_drewN | apply below_drew1 | refine below_set ?_ GE160.out) | exact HB.out)⟩⟩
                      ·
                       replace c76 := Bool.eq_false_iff.mpr c76
                       subst c76
                       have H1 : (if 0 ≤ ((rd_T50 l0 x9_3).f1) then (if ((rd_T50 l0 x9_3).f1) < (x5_3.length : Int) then (spec_l6Make.l2 kj41 l0 (x5_3.set (x9_3 : Int).toNat (rdOf false x5_3 ((rd_T50 l0 x9_3).f1))) x7_2 (wrap64 (x9_3 + 1))) else (none)) else (none)) = some r := by rw [if_neg (show ¬ (false = true) by decide)] at H; exact H
                       clear H
                       have H := H1
                       clear H1
                       by_cases c81 : 0 ≤ ((rd_T50 l0 x9_3).f1)
                       ·
                        rw [if_pos c81] at H
                        have c81b0 : decide (0 ≤ ((rd_T50 l0 x9_3).f1)) = true := decide_eq_true c81
                        clear c81
                        by_cases c82 : ((rd_T50 l0 x9_3).f1) < (x5_3.length : Int)
                        ·
                         rw [if_pos c82] at H
                         have c82b0 : decide (((rd_T50 l0 x9_3).f1) < (x5_3.length : Int)) = true := decide_eq_true c82
                         clear c82
                         obtain ⟨y171, hy171⟩ : ∃ y_ : List Bool, y_ = (x5_3.set (x9_3 : Int).toNat (rdOf false x5_3 ((rd_T50 l0 x9_3).f1))) := ⟨_, rfl⟩
                         replace H : (spec_l6Make.l2 kj41 l0 y171 x7_2 (wrap64 (x9_3 + 1))) = some r := by first | (rw [hy171]; with_reducible exact H) | (have H2_ := (Option.bind_some _ _).symm.trans H; rw [hy171]; with_reducible exact H2_) | (have H2_ := (Option.bind_some _ _).symm.trans H; with_reducible exact H2_) | with_reducible exact H | (rw [hy171]; exact H) | exact H
                         have Ny171 := Aside0.mk hy171
                         clear hy171
                         have H' := Aside0.mk H
                         clear H
                         obtain ⟨Ao84, co84, eo84⟩ := Kd.R_slice HO_5.out
                         subst eo84
                         have p168 : 0 ≤ (x9_3 : Int) := of_decide_eq_true (by first | (with_reducible assumption) | assumption)
                         have q168 : x9_3 < (x5_3.length : Int) := of_decide_eq_true (by first | (with_reducible assumption) | assumption)
                         obtain ⟨ad168, e168, hx168_0⟩ := Kd.at_bool (Kd.R_reads' HO_5.out).2.2 x9_3 p168 q168
                         (try rw [← Nbq75.out] at hx168_0)
                         cases e168
                         replace p168 := eq_true p168
                         replace q168 := eq_true q168
                         obtain ⟨hcz85_0, hcz85_1, hcz85_2, hcz85_3⟩ := blk_c4 BK160.out
                         obtain ⟨hfz85_0, hfz85_1, hfz85_2, hfz85_3⟩ := blk_f4 BK160.out
                         have p170 : 0 ≤ (((rd_T50 l0 x9_3).f1) : Int) := of_decide_eq_true (by first | (with_reducible assumption) | assumption)
                         have q170 : ((rd_T50 l0 x9_3).f1) < (x5_3.length : Int) := of_decide_eq_true (by first | (with_reducible assumption) | assumption)
                         obtain ⟨ad170, e170, hx170_0⟩ := Kd.at_bool (Kd.R_reads' HO_5.out).2.2 ((rd_T50 l0 x9_3).f1) p170 q170
                         (try rw [← Nbq75.out] at hx170_0)
                         obtain rfl : ad168 = ad170 := (by injection e170)
                         replace p170 := eq_true p170
                         replace q170 := eq_true q170
                         have p83 : 0 ≤ (x9_3 : Int) := of_decide_eq_true (by first | (with_reducible assumption) | assumption)
                         have q83 : (x9_3 : Int) < ((x5_3.length : Int) : Int) := of_decide_eq_true (by first | (with_reducible assumption) | assumption)
                         obtain ⟨go83, co83, eo83, gb83, gl83, cl83, HG83⟩ := Kd.R_form HO_5.out (by omega)
                         (first | cases eo83 | (injection eo83 with ea_ en_ ec_; (first | subst ea_ | (injection ea_ with ea_; subst ea_)); subst ec_; clear en_))
                         have GB83 := Aside0.mk gb83
                         have GG83 := Aside0.mk HG83
                         clear gb83 gl83 HG83
                         (first | simp only [add_plain] at hx168_0 | skip)
                         (first | simp only [add_plain] at hx170_0 | skip)
                         obtain ⟨hx83_0, hf83_0⟩ := Kd.R_celln false HO_5.out (x9_3 : Int) p83 q83
                         replace p83 := eq_true p83
                         replace q83 := eq_true q83
                         have HP86 := Kd.R_putg HO_5.out (x9_3 : Int) (rdOf false x5_3 ((rd_T50 l0 x9_3).f1))
                         go_wp2_with (first | ((with_reducible refine gate_store (t := 4) (p := 113) rfl ?_); refine store_event (t := 4) (p := 113) (v := ?vo_w87) (w1 := (wc.setCell ⟨go83, (x9_3 : Int).toNat, none⟩ (.bool (rdOf false x5_3 ((rd_T50 l0 x9_3).f1))))) ?hg ?ho ?hn ?hr ?_; (case ho => rfl); (case hg => rfl); (case hn => rfl); (case hr => first | (go_simp; done) | (go_simp; rfl)); intro w87 hw; have hg : wc.grownBy w87 (some go83) := (by rw [hw]; exact HP86.2); have hp_ : Kd.R Kd.bool 4 w87 w.heap.size (fun k_ => some k_ ≠ (v153 : Value).ownBlock) (.slice (some ⟨go83, 0, none⟩) x5_3.length co84) y171 := (by rw [hw, Ny171.out]; exact HP86.1); clear HP86; have n0_ := Aside0.mk (hp_); have n1_ := Aside0.mk (Kd.R_after (v := (.slice (some ⟨go83, 0, none⟩) x5_3.length co84)) (v1 := (.slice (some ⟨go83, 0, none⟩) x5_3.length co84)) (ok := (fun _ => True)) (by (with_reducible repeat (first | apply Kd.R_alloc | apply Kd.R_drewN | apply Kd.R_drew)); exact Kd.R_mono HO_7.out (fun _ hk => ⟨trivial, hk⟩)) hg (.inl rfl)); have n2_ := Aside0.mk (blk_grown (g := gb160) (o := .cells #[.int .i64 ((rd_T50 l0 x9_3).f0), .int .i64 ((rd_T50 l0 x9_3).f1), .int .i64 ((rd_T50 l0 x9_3).f2), .int .i64 ((rd_T50 l0 x9_3).f3)] 50 (0, 0)) (by (with_reducible repeat (first | refine blk_drewN ?_ _ | refine blk_drew ?_ | refine blk_alloc ?_ _)); exact BK160.out) hg (Kd.R_ne HO_5.out BK160.out (by decide))); have n3_ := Aside0.mk ((by rw [hw]; exact below_set (HB.out) GB83.out : Below w.heap.size w w87)); clear HO_5; clear HO_7; clear BK160; clear HB; have HO_5 := n0_; have HO_7 := n1_; have BK160 := n2_; have HB := n3_; clear n0_ n1_ n2_ n3_; clear hg hw hp_))
                         go_roundg kj41
                         case measure => have := HK1.out; have := HK2.out; have := HK3.out; have := HJ41.out; omega
                         case rel => exact ⟨(y171), (wrap64 (x9_3 + 1)), (by first | rfl | (simp; done) | (simp [*]; done)), H', ⟨by have := HK1.out; have := HK2.out; have := HK3.out; have := HJ41.out; omega⟩, ⟨by (with_reducible repeat (first | apply Kd.R_alloc | apply Kd.R_drewN | apply Kd.R_drew)); exact HO_5.out⟩, ⟨by (with_reducible repeat (first | apply Kd.R_alloc | apply Kd.R_drewN | apply Kd.R_drew)); exact Kd.R_mono HO_7.out (fun _ hk => hk.2)⟩, ⟨by repeat (first | (with_reducible first | exact HB.out | apply below_alloc | apply pw_below_drewN | apply below_drew1 | refine below_set ?_ GE160.out) | exact HB.out)⟩⟩
                        ·
                         rw [if_neg c82] at H
                         exact absurd H (by simp)
                       ·
                        rw [if_neg c81] at H
                        exact absurd H (by simp)
                     ·
                      rw [if_neg c74] at H
                      exact absurd H (by simp)
                    ·
                     rw [if_neg c73] at H
                     exact absurd H (by simp)
                   ·
                    rw [if_neg c72] at H
                    have c72b0 : (((rd_T50 l0 x9_3).f0) == 6) = false := beq_eq_false_iff_ne.mpr c72
                    have c72b1 : (((rd_T50 l0 x9_3).f0) != 6) = true := bne_iff_ne.mpr c72
                    by_cases c88 : ((rd_T50 l0 x9_3).f0) = 7
                    ·
                     rw [if_pos c88] at H
                     have c88b0 : (((rd_T50 l0 x9_3).f0) == 7) = true := beq_iff_eq.mpr c88
                     have c88b1 : (((rd_T50 l0 x9_3).f0) != 7) = false := bne_eq_false_iff_eq.mpr c88
                     clear c88
                     by_cases c89 : 0 ≤ ((rd_T50 l0 x9_3).f1)
                     ·
                      rw [if_pos c89] at H
                      have c89b0 : decide (0 ≤ ((rd_T50 l0 x9_3).f1)) = true := decide_eq_true c89
                      clear c89
                      by_cases c90 : ((rd_T50 l0 x9_3).f1) < (x5_3.length : Int)
                      ·
                       rw [if_pos c90] at H
                       have c90b0 : decide (((rd_T50 l0 x9_3).f1) < (x5_3.length : Int)) = true := decide_eq_true c90
                       clear c90
                       by_cases c91 : 0 ≤ ((rd_T50 l0 x9_3).f2)
                       ·
                        rw [if_pos c91] at H
                        have c91b0 : decide (0 ≤ ((rd_T50 l0 x9_3).f2)) = true := decide_eq_true c91
                        clear c91
                        by_cases c92 : ((rd_T50 l0 x9_3).f2) < (x5_3.length : Int)
                        ·
                         rw [if_pos c92] at H
                         have c92b0 : decide (((rd_T50 l0 x9_3).f2) < (x5_3.length : Int)) = true := decide_eq_true c92
                         clear c92
                         by_cases c93 : 0 ≤ x9_3
                         ·
                          rw [if_pos c93] at H
                          have c93b0 : decide (0 ≤ x9_3) = true := decide_eq_true c93
                          clear c93
                          by_cases c94 : x9_3 < (x5_3.length : Int)
                          ·
                           rw [if_pos c94] at H
                           have c94b0 : decide (x9_3 < (x5_3.length : Int)) = true := decide_eq_true c94
                           clear c94
                           obtain ⟨bq95, hbq95⟩ : ∃ b_ : Bool, b_ = (rdOf false x5_3 x9_3) := ⟨_, rfl⟩
                           replace H : (if bq95 = true then (spec_l6Make.l2 kj41 l0 (x5_3.set (x9_3 : Int).toNat true) x7_2 (wrap64 (x9_3 + 1))) else (if rdOf false x5_3 ((rd_T50 l0 x9_3).f1) = true then (if rdOf false x5_3 ((rd_T50 l0 x9_3).f2) = true then (spec_l6Make.l2 kj41 l0 (x5_3.set (x9_3 : Int).toNat true) x7_2 (wrap64 (x9_3 + 1))) else (if ((rd_T50 l0 x9_3).f2) < (x7_2.length : Int) then (if rdOf false x7_2 ((rd_T50 l0 x9_3).f2) = true then (spec_l6Make.l2 kj41 l0 (x5_3.set (x9_3 : Int).toNat true) x7_2 (wrap64 (x9_3 + 1))) else (spec_l6Make.l2 kj41 l0 (x5_3.set (x9_3 : Int).toNat false) x7_2 (wrap64 (x9_3 + 1)))) else (none))) else (if rdOf false x5_3 ((rd_T50 l0 x9_3).f2) = true then (if ((rd_T50 l0 x9_3).f1) < (x7_2.length : Int) then (spec_l6Make.l2 kj41 l0 (x5_3.set (x9_3 : Int).toNat (rdOf false x7_2 ((rd_T50 l0 x9_3).f1))) x7_2 (wrap64 (x9_3 + 1))) else (none)) else (spec_l6Make.l2 kj41 l0 (x5_3.set (x9_3 : Int).toNat false) x7_2 (wrap64 (x9_3 + 1)))))) = some r := by rw [← hbq95] at H; exact H
                           have Nbq95 := Aside0.mk hbq95
                           clear hbq95
                           by_cases c96 : bq95 = true
                           ·
                            subst c96
                            have H1 : (spec_l6Make.l2 kj41 l0 (x5_3.set (x9_3 : Int).toNat true) x7_2 (wrap64 (x9_3 + 1))) = some r := by rw [if_pos rfl] at H; exact H
                            clear H
                            have H := H1
                            clear H1
                            obtain ⟨y175, hy175⟩ : ∃ y_ : List Bool, y_ = (x5_3.set (x9_3 : Int).toNat true) := ⟨_, rfl⟩
                            replace H : (spec_l6Make.l2 kj41 l0 y175 x7_2 (wrap64 (x9_3 + 1))) = some r := by first | (rw [hy175]; with_reducible exact H) | (have H2_ := (Option.bind_some _ _).symm.trans H; rw [hy175]; with_reducible exact H2_) | (have H2_ := (Option.bind_some _ _).symm.trans H; with_reducible exact H2_) | with_reducible exact H | (rw [hy175]; exact H) | exact H
                            have Ny175 := Aside0.mk hy175
                            clear hy175
                            have H' := Aside0.mk H
                            clear H
                            obtain ⟨hcz98_0, hcz98_1, hcz98_2, hcz98_3⟩ := blk_c4 BK160.out
                            obtain ⟨hfz98_0, hfz98_1, hfz98_2, hfz98_3⟩ := blk_f4 BK160.out
                            obtain ⟨Ao99, co99, eo99⟩ := Kd.R_slice HO_5.out
                            subst eo99
                            have p172 : 0 ≤ (((rd_T50 l0 x9_3).f1) : Int) := of_decide_eq_true (by first | (with_reducible assumption) | assumption)
                            have q172 : ((rd_T50 l0 x9_3).f1) < (x5_3.length : Int) := of_decide_eq_true (by first | (with_reducible assumption) | assumption)
                            obtain ⟨ad172, e172, hx172_0⟩ := Kd.at_bool (Kd.R_reads' HO_5.out).2.2 ((rd_T50 l0 x9_3).f1) p172 q172
                            (try rw [← Nbq95.out] at hx172_0)
                            cases e172
                            replace p172 := eq_true p172
                            replace q172 := eq_true q172
                            have p173 : 0 ≤ (((rd_T50 l0 x9_3).f2) : Int) := of_decide_eq_true (by first | (with_reducible assumption) | assumption)
                            have q173 : ((rd_T50 l0 x9_3).f2) < (x5_3.length : Int) := of_decide_eq_true (by first | (with_reducible assumption) | assumption)
                            obtain ⟨ad173, e173, hx173_0⟩ := Kd.at_bool (Kd.R_reads' HO_5.out).2.2 ((rd_T50 l0 x9_3).f2) p173 q173
                            (try rw [← Nbq95.out] at hx173_0)
                            obtain rfl : ad172 = ad173 := (by injection e173)
                            replace p173 := eq_true p173
                            replace q173 := eq_true q173
                            have p174 : 0 ≤ (x9_3 : Int) := of_decide_eq_true (by first | (with_reducible assumption) | assumption)
                            have q174 : x9_3 < (x5_3.length : Int) := of_decide_eq_true (by first | (with_reducible assumption) | assumption)
                            obtain ⟨ad174, e174, hx174_0⟩ := Kd.at_bool (Kd.R_reads' HO_5.out).2.2 x9_3 p174 q174
                            (try rw [← Nbq95.out] at hx174_0)
                            obtain rfl : ad172 = ad174 := (by injection e174)
                            replace p174 := eq_true p174
                            replace q174 := eq_true q174
                            have p97 : 0 ≤ (x9_3 : Int) := of_decide_eq_true (by first | (with_reducible assumption) | assumption)
                            have q97 : (x9_3 : Int) < ((x5_3.length : Int) : Int) := of_decide_eq_true (by first | (with_reducible assumption) | assumption)
                            obtain ⟨go97, co97, eo97, gb97, gl97, cl97, HG97⟩ := Kd.R_form HO_5.out (by omega)
                            (first | cases eo97 | (injection eo97 with ea_ en_ ec_; (first | subst ea_ | (injection ea_ with ea_; subst ea_)); subst ec_; clear en_))
                            have GB97 := Aside0.mk gb97
                            have GG97 := Aside0.mk HG97
                            clear gb97 gl97 HG97
                            (first | simp only [add_plain] at hx172_0 | skip)
                            (first | simp only [add_plain] at hx173_0 | skip)
                            (first | simp only [add_plain] at hx174_0 | skip)
                            obtain ⟨hx97_0, hf97_0⟩ := Kd.R_celln false HO_5.out (x9_3 : Int) p97 q97
                            replace p97 := eq_true p97
                            replace q97 := eq_true q97
                            have HP100 := Kd.R_putg HO_5.out (x9_3 : Int) true
                            go_wp2_with (first | ((with_reducible refine gate_store (t := 4) (p := 155) rfl ?_); refine store_event (t := 4) (p := 155) (v := ?vo_w101) (w1 := (wc.setCell ⟨go97, (x9_3 : Int).toNat, none⟩ (.bool true))) ?hg ?ho ?hn ?hr ?_; (case ho => rfl); (case hg => rfl); (case hn => rfl); (case hr => first | (go_simp; done) | (go_simp; rfl)); intro w101 hw; have hg : wc.grownBy w101 (some go97) := (by rw [hw]; exact HP100.2); have hp_ : Kd.R Kd.bool 4 w101 w.heap.size (fun k_ => some k_ ≠ (v153 : Value).ownBlock) (.slice (some ⟨go97, 0, none⟩) x5_3.length co99) y175 := (by rw [hw, Ny175.out]; exact HP100.1); clear HP100; have n0_ := Aside0.mk (hp_); have n1_ := Aside0.mk (Kd.R_after (v := (.slice (some ⟨go97, 0, none⟩) x5_3.length co99)) (v1 := (.slice (some ⟨go97, 0, none⟩) x5_3.length co99)) (ok := (fun _ => True)) (by (with_reducible repeat (first | apply Kd.R_alloc | apply Kd.R_drewN | apply Kd.R_drew)); exact Kd.R_mono HO_7.out (fun _ hk => ⟨trivial, hk⟩)) hg (.inl rfl)); have n2_ := Aside0.mk (blk_grown (g := gb160) (o := .cells #[.int .i64 ((rd_T50 l0 x9_3).f0), .int .i64 ((rd_T50 l0 x9_3).f1), .int .i64 ((rd_T50 l0 x9_3).f2), .int .i64 ((rd_T50 l0 x9_3).f3)] 50 (0, 0)) (by (with_reducible repeat (first | refine blk_drewN ?_ _ | refine blk_drew ?_ | refine blk_alloc ?_ _)); exact BK160.out) hg (Kd.R_ne HO_5.out BK160.out (by decide))); have n3_ := Aside0.mk ((by rw [hw]; exact below_set (HB.out) GB97.out : Below w.heap.size w w101)); clear HO_5; clear HO_7; clear BK160; clear HB; have HO_5 := n0_; have HO_7 := n1_; have BK160 := n2_; have HB := n3_; clear n0_ n1_ n2_ n3_; clear hg hw hp_))
                            go_roundg kj41
                            case measure => have := HK1.out; have := HK2.out; have := HK3.out; have := HJ41.out; omega
                            case rel => exact ⟨(y175), (wrap64 (x9_3 + 1)), (by first | rfl | (simp; done) | (simp [*]; done)), H', ⟨by have := HK1.out; have := HK2.out; have := HK3.out; have := HJ41.out; omega⟩, ⟨by (with_reducible repeat (first | apply Kd.R_alloc | apply Kd.R_drewN | apply Kd.R_drew)); exact HO_5.out⟩, ⟨by (with_reducible repeat (first | apply Kd.R_alloc | apply Kd.R_drewN | apply Kd.R_drew)); exact Kd.R_mono HO_7.out (fun _ hk => hk.2)⟩, ⟨by repeat (first | (with_reducible first | exact HB.out | apply below_alloc | apply pw_below_drewN | apply below_drew1 | refine below_set ?_ GE160.out) | exact HB.out)⟩⟩
                           ·
                            replace c96 := Bool.eq_false_iff.mpr c96
                            subst c96
                            have H1 : (if rdOf false x5_3 ((rd_T50 l0 x9_3).f1) = true then (if rdOf false x5_3 ((rd_T50 l0 x9_3).f2) = true then (spec_l6Make.l2 kj41 l0 (x5_3.set (x9_3 : Int).toNat true) x7_2 (wrap64 (x9_3 + 1))) else (if ((rd_T50 l0 x9_3).f2) < (x7_2.length : Int) then (if rdOf false x7_2 ((rd_T50 l0 x9_3).f2) = true then (spec_l6Make.l2 kj41 l0 (x5_3.set (x9_3 : Int).toNat true) x7_2 (wrap64 (x9_3 + 1))) else (spec_l6Make.l2 kj41 l0 (x5_3.set (x9_3 : Int).toNat false) x7_2 (wrap64 (x9_3 + 1)))) else (none))) else (if rdOf false x5_3 ((rd_T50 l0 x9_3).f2) = true then (if ((rd_T50 l0 x9_3).f1) < (x7_2.length : Int) then (spec_l6Make.l2 kj41 l0 (x5_3.set (x9_3 : Int).toNat (rdOf false x7_2 ((rd_T50 l0 x9_3).f1))) x7_2 (wrap64 (x9_3 + 1))) else (none)) else (spec_l6Make.l2 kj41 l0 (x5_3.set (x9_3 : Int).toNat false) x7_2 (wrap64 (x9_3 + 1))))) = some r := by rw [if_neg (show ¬ (false = true) by decide)] at H; exact H
                            clear H
                            have H := H1
                            clear H1
                            obtain ⟨bq102, hbq102⟩ : ∃ b_ : Bool, b_ = (rdOf false x5_3 ((rd_T50 l0 x9_3).f1)) := ⟨_, rfl⟩
                            replace H : (if bq102 = true then (if rdOf false x5_3 ((rd_T50 l0 x9_3).f2) = true then (spec_l6Make.l2 kj41 l0 (x5_3.set (x9_3 : Int).toNat true) x7_2 (wrap64 (x9_3 + 1))) else (if ((rd_T50 l0 x9_3).f2) < (x7_2.length : Int) then (if rdOf false x7_2 ((rd_T50 l0 x9_3).f2) = true then (spec_l6Make.l2 kj41 l0 (x5_3.set (x9_3 : Int).toNat true) x7_2 (wrap64 (x9_3 + 1))) else (spec_l6Make.l2 kj41 l0 (x5_3.set (x9_3 : Int).toNat false) x7_2 (wrap64 (x9_3 + 1)))) else (none))) else (if rdOf false x5_3 ((rd_T50 l0 x9_3).f2) = true then (if ((rd_T50 l0 x9_3).f1) < (x7_2.length : Int) then (spec_l6Make.l2 kj41 l0 (x5_3.set (x9_3 : Int).toNat (rdOf false x7_2 ((rd_T50 l0 x9_3).f1))) x7_2 (wrap64 (x9_3 + 1))) else (none)) else (spec_l6Make.l2 kj41 l0 (x5_3.set (x9_3 : Int).toNat false) x7_2 (wrap64 (x9_3 + 1))))) = some r := by rw [← hbq102] at H; exact H
                            have Nbq102 := Aside0.mk hbq102
                            clear hbq102
                            by_cases c103 : bq102 = true
                            ·
                             subst c103
                             have H1 : (if rdOf false x5_3 ((rd_T50 l0 x9_3).f2) = true then (spec_l6Make.l2 kj41 l0 (x5_3.set (x9_3 : Int).toNat true) x7_2 (wrap64 (x9_3 + 1))) else (if ((rd_T50 l0 x9_3).f2) < (x7_2.length : Int) then (if rdOf false x7_2 ((rd_T50 l0 x9_3).f2) = true then (spec_l6Make.l2 kj41 l0 (x5_3.set (x9_3 : Int).toNat true) x7_2 (wrap64 (x9_3 + 1))) else (spec_l6Make.l2 kj41 l0 (x5_3.set (x9_3 : Int).toNat false) x7_2 (wrap64 (x9_3 + 1)))) else (none))) = some r := by rw [if_pos rfl] at H; exact H
                             clear H
                             have H := H1
                             clear H1
                             obtain ⟨bq104, hbq104⟩ : ∃ b_ : Bool, b_ = (rdOf false x5_3 ((rd_T50 l0 x9_3).f2)) := ⟨_, rfl⟩
                             replace H : (if bq104 = true then (spec_l6Make.l2 kj41 l0 (x5_3.set (x9_3 : Int).toNat true) x7_2 (wrap64 (x9_3 + 1))) else (if ((rd_T50 l0 x9_3).f2) < (x7_2.length : Int) then (if rdOf false x7_2 ((rd_T50 l0 x9_3).f2) = true then (spec_l6Make.l2 kj41 l0 (x5_3.set (x9_3 : Int).toNat true) x7_2 (wrap64 (x9_3 + 1))) else (spec_l6Make.l2 kj41 l0 (x5_3.set (x9_3 : Int).toNat false) x7_2 (wrap64 (x9_3 + 1)))) else (none))) = some r := by rw [← hbq104] at H; exact H
                             have Nbq104 := Aside0.mk hbq104
                             clear hbq104
                             by_cases c105 : bq104 = true
                             ·
                              subst c105
                              have H1 : (spec_l6Make.l2 kj41 l0 (x5_3.set (x9_3 : Int).toNat true) x7_2 (wrap64 (x9_3 + 1))) = some r := by rw [if_pos rfl] at H; exact H
                              clear H
                              have H := H1
                              clear H1
                              obtain ⟨y176, hy176⟩ : ∃ y_ : List Bool, y_ = (x5_3.set (x9_3 : Int).toNat true) := ⟨_, rfl⟩
                              replace H : (spec_l6Make.l2 kj41 l0 y176 x7_2 (wrap64 (x9_3 + 1))) = some r := by first | (rw [hy176]; with_reducible exact H) | (have H2_ := (Option.bind_some _ _).symm.trans H; rw [hy176]; with_reducible exact H2_) | (have H2_ := (Option.bind_some _ _).symm.trans H; with_reducible exact H2_) | with_reducible exact H | (rw [hy176]; exact H) | exact H
                              have Ny176 := Aside0.mk hy176
                              clear hy176
                              have H' := Aside0.mk H
                              clear H
                              obtain ⟨hcz107_0, hcz107_1, hcz107_2, hcz107_3⟩ := blk_c4 BK160.out
                              obtain ⟨hfz107_0, hfz107_1, hfz107_2, hfz107_3⟩ := blk_f4 BK160.out
                              obtain ⟨Ao108, co108, eo108⟩ := Kd.R_slice HO_5.out
                              subst eo108
                              have p172 : 0 ≤ (((rd_T50 l0 x9_3).f1) : Int) := of_decide_eq_true (by first | (with_reducible assumption) | assumption)
                              have q172 : ((rd_T50 l0 x9_3).f1) < (x5_3.length : Int) := of_decide_eq_true (by first | (with_reducible assumption) | assumption)
                              obtain ⟨ad172, e172, hx172_0⟩ := Kd.at_bool (Kd.R_reads' HO_5.out).2.2 ((rd_T50 l0 x9_3).f1) p172 q172
                              (try rw [← Nbq95.out] at hx172_0)
                              (try rw [← Nbq102.out] at hx172_0)
                              (try rw [← Nbq104.out] at hx172_0)
                              cases e172
                              replace p172 := eq_true p172
                              replace q172 := eq_true q172
                              have p173 : 0 ≤ (((rd_T50 l0 x9_3).f2) : Int) := of_decide_eq_true (by first | (with_reducible assumption) | assumption)
                              have q173 : ((rd_T50 l0 x9_3).f2) < (x5_3.length : Int) := of_decide_eq_true (by first | (with_reducible assumption) | assumption)
                              obtain ⟨ad173, e173, hx173_0⟩ := Kd.at_bool (Kd.R_reads' HO_5.out).2.2 ((rd_T50 l0 x9_3).f2) p173 q173
                              (try rw [← Nbq95.out] at hx173_0)
                              (try rw [← Nbq102.out] at hx173_0)
                              (try rw [← Nbq104.out] at hx173_0)
                              obtain rfl : ad172 = ad173 := (by injection e173)
                              replace p173 := eq_true p173
                              replace q173 := eq_true q173
                              have p174 : 0 ≤ (x9_3 : Int) := of_decide_eq_true (by first | (with_reducible assumption) | assumption)
                              have q174 : x9_3 < (x5_3.length : Int) := of_decide_eq_true (by first | (with_reducible assumption) | assumption)
                              obtain ⟨ad174, e174, hx174_0⟩ := Kd.at_bool (Kd.R_reads' HO_5.out).2.2 x9_3 p174 q174
                              (try rw [← Nbq95.out] at hx174_0)
                              (try rw [← Nbq102.out] at hx174_0)
                              (try rw [← Nbq104.out] at hx174_0)
                              obtain rfl : ad172 = ad174 := (by injection e174)
                              replace p174 := eq_true p174
                              replace q174 := eq_true q174
                              have p106 : 0 ≤ (x9_3 : Int) := of_decide_eq_true (by first | (with_reducible assumption) | assumption)
                              have q106 : (x9_3 : Int) < ((x5_3.length : Int) : Int) := of_decide_eq_true (by first | (with_reducible assumption) | assumption)
                              obtain ⟨go106, co106, eo106, gb106, gl106, cl106, HG106⟩ := Kd.R_form HO_5.out (by omega)
                              (first | cases eo106 | (injection eo106 with ea_ en_ ec_; (first | subst ea_ | (injection ea_ with ea_; subst ea_)); subst ec_; clear en_))
                              have GB106 := Aside0.mk gb106
                              have GG106 := Aside0.mk HG106
                              clear gb106 gl106 HG106
                              (first | simp only [add_plain] at hx172_0 | skip)
                              (first | simp only [add_plain] at hx173_0 | skip)
                              (first | simp only [add_plain] at hx174_0 | skip)
                              obtain ⟨hx106_0, hf106_0⟩ := Kd.R_celln false HO_5.out (x9_3 : Int) p106 q106
                              replace p106 := eq_true p106
                              replace q106 := eq_true q106
                              have HP109 := Kd.R_putg HO_5.out (x9_3 : Int) true
                              go_wp2_with (first | ((with_reducible refine gate_store (t := 4) (p := 155) rfl ?_); refine store_event (t := 4) (p := 155) (v := ?vo_w110) (w1 := (wc.setCell ⟨go106, (x9_3 : Int).toNat, none⟩ (.bool true))) ?hg ?ho ?hn ?hr ?_; (case ho => rfl); (case hg => rfl); (case hn => rfl); (case hr => first | (go_simp; done) | (go_simp; rfl)); intro w110 hw; have hg : wc.grownBy w110 (some go106) := (by rw [hw]; exact HP109.2); have hp_ : Kd.R Kd.bool 4 w110 w.heap.size (fun k_ => some k_ ≠ (v153 : Value).ownBlock) (.slice (some ⟨go106, 0, none⟩) x5_3.length co108) y176 := (by rw [hw, Ny176.out]; exact HP109.1); clear HP109; have n0_ := Aside0.mk (hp_); have n1_ := Aside0.mk (Kd.R_after (v := (.slice (some ⟨go106, 0, none⟩) x5_3.length co108)) (v1 := (.slice (some ⟨go106, 0, none⟩) x5_3.length co108)) (ok := (fun _ => True)) (by (with_reducible repeat (first | apply Kd.R_alloc | apply Kd.R_drewN | apply Kd.R_drew)); exact Kd.R_mono HO_7.out (fun _ hk => ⟨trivial, hk⟩)) hg (.inl rfl)); have n2_ := Aside0.mk (blk_grown (g := gb160) (o := .cells #[.int .i64 ((rd_T50 l0 x9_3).f0), .int .i64 ((rd_T50 l0 x9_3).f1), .int .i64 ((rd_T50 l0 x9_3).f2), .int .i64 ((rd_T50 l0 x9_3).f3)] 50 (0, 0)) (by (with_reducible repeat (first | refine blk_drewN ?_ _ | refine blk_drew ?_ | refine blk_alloc ?_ _)); exact BK160.out) hg (Kd.R_ne HO_5.out BK160.out (by decide))); have n3_ := Aside0.mk ((by rw [hw]; exact below_set (HB.out) GB106.out : Below w.heap.size w w110)); clear HO_5; clear HO_7; clear BK160; clear HB; have HO_5 := n0_; have HO_7 := n1_; have BK160 := n2_; have HB := n3_; clear n0_ n1_ n2_ n3_; clear hg hw hp_))
                              go_roundg kj41
                              case measure => have := HK1.out; have := HK2.out; have := HK3.out; have := HJ41.out; omega
                              case rel => exact ⟨(y176), (wrap64 (x9_3 + 1)), (by first | rfl | (simp; done) | (simp [*]; done)), H', ⟨by have := HK1.out; have := HK2.out; have := HK3.out; have := HJ41.out; omega⟩, ⟨by (with_reducible repeat (first | apply Kd.R_alloc | apply Kd.R_drewN | apply Kd.R_drew)); exact HO_5.out⟩, ⟨by (with_reducible repeat (first | apply Kd.R_alloc | apply Kd.R_drewN | apply Kd.R_drew)); exact Kd.R_mono HO_7.out (fun _ hk => hk.2)⟩, ⟨by repeat (first | (with_reducible first | exact HB.out | apply below_alloc | apply pw_below_drewN | apply below_drew1 | refine below_set ?_ GE160.out) | exact HB.out)⟩⟩
                             ·
                              replace c105 := Bool.eq_false_iff.mpr c105
                              subst c105
                              have H1 : (if ((rd_T50 l0 x9_3).f2) < (x7_2.length : Int) then (if rdOf false x7_2 ((rd_T50 l0 x9_3).f2) = true then (spec_l6Make.l2 kj41 l0 (x5_3.set (x9_3 : Int).toNat true) x7_2 (wrap64 (x9_3 + 1))) else (spec_l6Make.l2 kj41 l0 (x5_3.set (x9_3 : Int).toNat false) x7_2 (wrap64 (x9_3 + 1)))) else (none)) = some r := by rw [if_neg (show ¬ (false = true) by decide)] at H; exact H
                              clear H
                              have H := H1
                              clear H1
                              by_cases c111 : ((rd_T50 l0 x9_3).f2) < (x7_2.length : Int)
                              ·
                               rw [if_pos c111] at H
                               have c111b0 : decide (((rd_T50 l0 x9_3).f2) < (x7_2.length : Int)) = true := decide_eq_true c111
                               clear c111
                               obtain ⟨bq112, hbq112⟩ : ∃ b_ : Bool, b_ = (rdOf false x7_2 ((rd_T50 l0 x9_3).f2)) := ⟨_, rfl⟩
                               replace H : (if bq112 = true then (spec_l6Make.l2 kj41 l0 (x5_3.set (x9_3 : Int).toNat true) x7_2 (wrap64 (x9_3 + 1))) else (spec_l6Make.l2 kj41 l0 (x5_3.set (x9_3 : Int).toNat false) x7_2 (wrap64 (x9_3 + 1)))) = some r := by rw [← hbq112] at H; exact H
                               have Nbq112 := Aside0.mk hbq112
                               clear hbq112
                               by_cases c113 : bq112 = true
                               ·
                                subst c113
                                have H1 : (spec_l6Make.l2 kj41 l0 (x5_3.set (x9_3 : Int).toNat true) x7_2 (wrap64 (x9_3 + 1))) = some r := by rw [if_pos rfl] at H; exact H
                                clear H
                                have H := H1
                                clear H1
                                obtain ⟨y178, hy178⟩ : ∃ y_ : List Bool, y_ = (x5_3.set (x9_3 : Int).toNat true) := ⟨_, rfl⟩
                                replace H : (spec_l6Make.l2 kj41 l0 y178 x7_2 (wrap64 (x9_3 + 1))) = some r := by first | (rw [hy178]; with_reducible exact H) | (have H2_ := (Option.bind_some _ _).symm.trans H; rw [hy178]; with_reducible exact H2_) | (have H2_ := (Option.bind_some _ _).symm.trans H; with_reducible exact H2_) | with_reducible exact H | (rw [hy178]; exact H) | exact H
                                have Ny178 := Aside0.mk hy178
                                clear hy178
                                have H' := Aside0.mk H
                                clear H
                                obtain ⟨hcz115_0, hcz115_1, hcz115_2, hcz115_3⟩ := blk_c4 BK160.out
                                obtain ⟨hfz115_0, hfz115_1, hfz115_2, hfz115_3⟩ := blk_f4 BK160.out
                                obtain ⟨Ao116, co116, eo116⟩ := Kd.R_slice HO_5.out
                                subst eo116
                                have p172 : 0 ≤ (((rd_T50 l0 x9_3).f1) : Int) := of_decide_eq_true (by first | (with_reducible assumption) | assumption)
                                have q172 : ((rd_T50 l0 x9_3).f1) < (x5_3.length : Int) := of_decide_eq_true (by first | (with_reducible assumption) | assumption)
                                obtain ⟨ad172, e172, hx172_0⟩ := Kd.at_bool (Kd.R_reads' HO_5.out).2.2 ((rd_T50 l0 x9_3).f1) p172 q172
                                (try rw [← Nbq95.out] at hx172_0)
                                (try rw [← Nbq102.out] at hx172_0)
                                (try rw [← Nbq104.out] at hx172_0)
                                (try rw [← Nbq112.out] at hx172_0)
                                cases e172
                                replace p172 := eq_true p172
                                replace q172 := eq_true q172
                                have p173 : 0 ≤ (((rd_T50 l0 x9_3).f2) : Int) := of_decide_eq_true (by first | (with_reducible assumption) | assumption)
                                have q173 : ((rd_T50 l0 x9_3).f2) < (x5_3.length : Int) := of_decide_eq_true (by first | (with_reducible assumption) | assumption)
                                obtain ⟨ad173, e173, hx173_0⟩ := Kd.at_bool (Kd.R_reads' HO_5.out).2.2 ((rd_T50 l0 x9_3).f2) p173 q173
                                (try rw [← Nbq95.out] at hx173_0)
                                (try rw [← Nbq102.out] at hx173_0)
                                (try rw [← Nbq104.out] at hx173_0)
                                (try rw [← Nbq112.out] at hx173_0)
                                obtain rfl : ad172 = ad173 := (by injection e173)
                                replace p173 := eq_true p173
                                replace q173 := eq_true q173
                                have p174 : 0 ≤ (x9_3 : Int) := of_decide_eq_true (by first | (with_reducible assumption) | assumption)
                                have q174 : x9_3 < (x5_3.length : Int) := of_decide_eq_true (by first | (with_reducible assumption) | assumption)
                                obtain ⟨ad174, e174, hx174_0⟩ := Kd.at_bool (Kd.R_reads' HO_5.out).2.2 x9_3 p174 q174
                                (try rw [← Nbq95.out] at hx174_0)
                                (try rw [← Nbq102.out] at hx174_0)
                                (try rw [← Nbq104.out] at hx174_0)
                                (try rw [← Nbq112.out] at hx174_0)
                                obtain rfl : ad172 = ad174 := (by injection e174)
                                replace p174 := eq_true p174
                                replace q174 := eq_true q174
                                obtain ⟨Ao117, co117, eo117⟩ := Kd.R_slice HO_7.out
                                subst eo117
                                have p177 : 0 ≤ (((rd_T50 l0 x9_3).f2) : Int) := of_decide_eq_true (by first | (with_reducible assumption) | assumption)
                                have q177 : ((rd_T50 l0 x9_3).f2) < (x7_2.length : Int) := of_decide_eq_true (by first | (with_reducible assumption) | assumption)
                                obtain ⟨ad177, e177, hx177_0⟩ := Kd.at_bool (Kd.R_reads' HO_7.out).2.2 ((rd_T50 l0 x9_3).f2) p177 q177
                                (try rw [← Nbq95.out] at hx177_0)
                                (try rw [← Nbq102.out] at hx177_0)
                                (try rw [← Nbq104.out] at hx177_0)
                                (try rw [← Nbq112.out] at hx177_0)
                                cases e177
                                replace p177 := eq_true p177
                                replace q177 := eq_true q177
                                have p114 : 0 ≤ (x9_3 : Int) := of_decide_eq_true (by first | (with_reducible assumption) | assumption)
                                have q114 : (x9_3 : Int) < ((x5_3.length : Int) : Int) := of_decide_eq_true (by first | (with_reducible assumption) | assumption)
                                obtain ⟨go114, co114, eo114, gb114, gl114, cl114, HG114⟩ := Kd.R_form HO_5.out (by omega)
                                (first | cases eo114 | (injection eo114 with ea_ en_ ec_; (first | subst ea_ | (injection ea_ with ea_; subst ea_)); subst ec_; clear en_))
                                have GB114 := Aside0.mk gb114
                                have GG114 := Aside0.mk HG114
                                clear gb114 gl114 HG114
                                (first | simp only [add_plain] at hx172_0 | skip)
                                (first | simp only [add_plain] at hx173_0 | skip)
                                (first | simp only [add_plain] at hx174_0 | skip)
                                obtain ⟨hx114_0, hf114_0⟩ := Kd.R_celln false HO_5.out (x9_3 : Int) p114 q114
                                replace p114 := eq_true p114
                                replace q114 := eq_true q114
                                have HP118 := Kd.R_putg HO_5.out (x9_3 : Int) true
                                go_wp2_with (first | ((with_reducible refine gate_store (t := 4) (p := 155) rfl ?_); refine store_event (t := 4) (p := 155) (v := ?vo_w119) (w1 := (wc.setCell ⟨go114, (x9_3 : Int).toNat, none⟩ (.bool true))) ?hg ?ho ?hn ?hr ?_; (case ho => rfl); (case hg => rfl); (case hn => rfl); (case hr => first | (go_simp; done) | (go_simp; rfl)); intro w119 hw; have hg : wc.grownBy w119 (some go114) := (by rw [hw]; exact HP118.2); have hp_ : Kd.R Kd.bool 4 w119 w.heap.size (fun k_ => some k_ ≠ (.slice (some ad177) x7_2.length co117 : Value).ownBlock) (.slice (some ⟨go114, 0, none⟩) x5_3.length co116) y178 := (by rw [hw, Ny178.out]; exact HP118.1); clear HP118; have n0_ := Aside0.mk (hp_); have n1_ := Aside0.mk (Kd.R_after (v := (.slice (some ⟨go114, 0, none⟩) x5_3.length co116)) (v1 := (.slice (some ⟨go114, 0, none⟩) x5_3.length co116)) (ok := (fun _ => True)) (by (with_reducible repeat (first | apply Kd.R_alloc | apply Kd.R_drewN | apply Kd.R_drew)); exact Kd.R_mono HO_7.out (fun _ hk => ⟨trivial, hk⟩)) hg (.inl rfl)); have n2_ := Aside0.mk (blk_grown (g := gb160) (o := .cells #[.int .i64 ((rd_T50 l0 x9_3).f0), .int .i64 ((rd_T50 l0 x9_3).f1), .int .i64 ((rd_T50 l0 x9_3).f2), .int .i64 ((rd_T50 l0 x9_3).f3)] 50 (0, 0)) (by (with_reducible repeat (first | refine blk_drewN ?_ _ | refine blk_drew ?_ | refine blk_alloc ?_ _)); exact BK160.out) hg (Kd.R_ne HO_5.out BK160.out (by decide))); have n3_ := Aside0.mk ((by rw [hw]; exact below_set (HB.out) GB114.out : Below w.heap.size w w119)); clear HO_5; clear HO_7; clear BK160; clear HB; have HO_5 := n0_; have HO_7 := n1_; have BK160 := n2_; have HB := n3_; clear n0_ n1_ n2_ n3_; clear hg hw hp_))
                                go_roundg kj41
                                case measure => have := HK1.out; have := HK2.out; have := HK3.out; have := HJ41.out; omega
                                case rel => exact ⟨(y178), (wrap64 (x9_3 + 1)), (by first | rfl | (simp; done) | (simp [*]; done)), H', ⟨by have := HK1.out; have := HK2.out; have := HK3.out; have := HJ41.out; omega⟩, ⟨by (with_reducible repeat (first | apply Kd.R_alloc | apply Kd.R_drewN | apply Kd.R_drew)); exact HO_5.out⟩, ⟨by (with_reducible repeat (first | apply Kd.R_alloc | apply Kd.R_drewN | apply Kd.R_drew)); exact Kd.R_mono HO_7.out (fun _ hk => hk.2)⟩, ⟨by repeat (first | (with_reducible first | exact HB.out | apply below_alloc | apply pw_below_drewN | apply below_drew1 | refine below_set ?_ GE160.out) | exact HB.out)⟩⟩
                               ·
                                replace c113 := Bool.eq_false_iff.mpr c113
                                subst c113
                                have H1 : (spec_l6Make.l2 kj41 l0 (x5_3.set (x9_3 : Int).toNat false) x7_2 (wrap64 (x9_3 + 1))) = some r := by rw [if_neg (show ¬ (false = true) by decide)] at H; exact H
                                clear H
                                have H := H1
                                clear H1
                                obtain ⟨y179, hy179⟩ : ∃ y_ : List Bool, y_ = (x5_3.set (x9_3 : Int).toNat false) := ⟨_, rfl⟩
                                replace H : (spec_l6Make.l2 kj41 l0 y179 x7_2 (wrap64 (x9_3 + 1))) = some r := by first | (rw [hy179]; with_reducible exact H) | (have H2_ := (Option.bind_some _ _).symm.trans H; rw [hy179]; with_reducible exact H2_) | (have H2_ := (Option.bind_some _ _).symm.trans H; with_reducible exact H2_) | with_reducible exact H | (rw [hy179]; exact H) | exact H
                                have Ny179 := Aside0.mk hy179
                                clear hy179
                                have H' := Aside0.mk H
                                clear H
                                obtain ⟨hcz121_0, hcz121_1, hcz121_2, hcz121_3⟩ := blk_c4 BK160.out
                                obtain ⟨hfz121_0, hfz121_1, hfz121_2, hfz121_3⟩ := blk_f4 BK160.out
                                obtain ⟨Ao122, co122, eo122⟩ := Kd.R_slice HO_5.out
                                subst eo122
                                have p172 : 0 ≤ (((rd_T50 l0 x9_3).f1) : Int) := of_decide_eq_true (by first | (with_reducible assumption) | assumption)
                                have q172 : ((rd_T50 l0 x9_3).f1) < (x5_3.length : Int) := of_decide_eq_true (by first | (with_reducible assumption) | assumption)
                                obtain ⟨ad172, e172, hx172_0⟩ := Kd.at_bool (Kd.R_reads' HO_5.out).2.2 ((rd_T50 l0 x9_3).f1) p172 q172
                                (try rw [← Nbq95.out] at hx172_0)
                                (try rw [← Nbq102.out] at hx172_0)
                                (try rw [← Nbq104.out] at hx172_0)
                                (try rw [← Nbq112.out] at hx172_0)
                                cases e172
                                replace p172 := eq_true p172
                                replace q172 := eq_true q172
                                have p173 : 0 ≤ (((rd_T50 l0 x9_3).f2) : Int) := of_decide_eq_true (by first | (with_reducible assumption) | assumption)
                                have q173 : ((rd_T50 l0 x9_3).f2) < (x5_3.length : Int) := of_decide_eq_true (by first | (with_reducible assumption) | assumption)
                                obtain ⟨ad173, e173, hx173_0⟩ := Kd.at_bool (Kd.R_reads' HO_5.out).2.2 ((rd_T50 l0 x9_3).f2) p173 q173
                                (try rw [← Nbq95.out] at hx173_0)
                                (try rw [← Nbq102.out] at hx173_0)
                                (try rw [← Nbq104.out] at hx173_0)
                                (try rw [← Nbq112.out] at hx173_0)
                                obtain rfl : ad172 = ad173 := (by injection e173)
                                replace p173 := eq_true p173
                                replace q173 := eq_true q173
                                have p174 : 0 ≤ (x9_3 : Int) := of_decide_eq_true (by first | (with_reducible assumption) | assumption)
                                have q174 : x9_3 < (x5_3.length : Int) := of_decide_eq_true (by first | (with_reducible assumption) | assumption)
                                obtain ⟨ad174, e174, hx174_0⟩ := Kd.at_bool (Kd.R_reads' HO_5.out).2.2 x9_3 p174 q174
                                (try rw [← Nbq95.out] at hx174_0)
                                (try rw [← Nbq102.out] at hx174_0)
                                (try rw [← Nbq104.out] at hx174_0)
                                (try rw [← Nbq112.out] at hx174_0)
                                obtain rfl : ad172 = ad174 := (by injection e174)
                                replace p174 := eq_true p174
                                replace q174 := eq_true q174
                                obtain ⟨Ao123, co123, eo123⟩ := Kd.R_slice HO_7.out
                                subst eo123
                                have p177 : 0 ≤ (((rd_T50 l0 x9_3).f2) : Int) := of_decide_eq_true (by first | (with_reducible assumption) | assumption)
                                have q177 : ((rd_T50 l0 x9_3).f2) < (x7_2.length : Int) := of_decide_eq_true (by first | (with_reducible assumption) | assumption)
                                obtain ⟨ad177, e177, hx177_0⟩ := Kd.at_bool (Kd.R_reads' HO_7.out).2.2 ((rd_T50 l0 x9_3).f2) p177 q177
                                (try rw [← Nbq95.out] at hx177_0)
                                (try rw [← Nbq102.out] at hx177_0)
                                (try rw [← Nbq104.out] at hx177_0)
                                (try rw [← Nbq112.out] at hx177_0)
                                cases e177
                                replace p177 := eq_true p177
                                replace q177 := eq_true q177
                                have p120 : 0 ≤ (x9_3 : Int) := of_decide_eq_true (by first | (with_reducible assumption) | assumption)
                                have q120 : (x9_3 : Int) < ((x5_3.length : Int) : Int) := of_decide_eq_true (by first | (with_reducible assumption) | assumption)
                                obtain ⟨go120, co120, eo120, gb120, gl120, cl120, HG120⟩ := Kd.R_form HO_5.out (by omega)
                                (first | cases eo120 | (injection eo120 with ea_ en_ ec_; (first | subst ea_ | (injection ea_ with ea_; subst ea_)); subst ec_; clear en_))
                                have GB120 := Aside0.mk gb120
                                have GG120 := Aside0.mk HG120
                                clear gb120 gl120 HG120
                                (first | simp only [add_plain] at hx172_0 | skip)
                                (first | simp only [add_plain] at hx173_0 | skip)
                                (first | simp only [add_plain] at hx174_0 | skip)
                                obtain ⟨hx120_0, hf120_0⟩ := Kd.R_celln false HO_5.out (x9_3 : Int) p120 q120
                                replace p120 := eq_true p120
                                replace q120 := eq_true q120
                                have HP124 := Kd.R_putg HO_5.out (x9_3 : Int) false
                                go_wp2_with (first | ((with_reducible refine gate_store (t := 4) (p := 155) rfl ?_); refine store_event (t := 4) (p := 155) (v := ?vo_w125) (w1 := (wc.setCell ⟨go120, (x9_3 : Int).toNat, none⟩ (.bool false))) ?hg ?ho ?hn ?hr ?_; (case ho => rfl); (case hg => rfl); (case hn => rfl); (case hr => first | (go_simp; done) | (go_simp; rfl)); intro w125 hw; have hg : wc.grownBy w125 (some go120) := (by rw [hw]; exact HP124.2); have hp_ : Kd.R Kd.bool 4 w125 w.heap.size (fun k_ => some k_ ≠ (.slice (some ad177) x7_2.length co123 : Value).ownBlock) (.slice (some ⟨go120, 0, none⟩) x5_3.length co122) y179 := (by rw [hw, Ny179.out]; exact HP124.1); clear HP124; have n0_ := Aside0.mk (hp_); have n1_ := Aside0.mk (Kd.R_after (v := (.slice (some ⟨go120, 0, none⟩) x5_3.length co122)) (v1 := (.slice (some ⟨go120, 0, none⟩) x5_3.length co122)) (ok := (fun _ => True)) (by (with_reducible repeat (first | apply Kd.R_alloc | apply Kd.R_drewN | apply Kd.R_drew)); exact Kd.R_mono HO_7.out (fun _ hk => ⟨trivial, hk⟩)) hg (.inl rfl)); have n2_ := Aside0.mk (blk_grown (g := gb160) (o := .cells #[.int .i64 ((rd_T50 l0 x9_3).f0), .int .i64 ((rd_T50 l0 x9_3).f1), .int .i64 ((rd_T50 l0 x9_3).f2), .int .i64 ((rd_T50 l0 x9_3).f3)] 50 (0, 0)) (by (with_reducible repeat (first | refine blk_drewN ?_ _ | refine blk_drew ?_ | refine blk_alloc ?_ _)); exact BK160.out) hg (Kd.R_ne HO_5.out BK160.out (by decide))); have n3_ := Aside0.mk ((by rw [hw]; exact below_set (HB.out) GB120.out : Below w.heap.size w w125)); clear HO_5; clear HO_7; clear BK160; clear HB; have HO_5 := n0_; have HO_7 := n1_; have BK160 := n2_; have HB := n3_; clear n0_ n1_ n2_ n3_; clear hg hw hp_))
                                go_roundg kj41
                                case measure => have := HK1.out; have := HK2.out; have := HK3.out; have := HJ41.out; omega
                                case rel => exact ⟨(y179), (wrap64 (x9_3 + 1)), (by first | rfl | (simp; done) | (simp [*]; done)), H', ⟨by have := HK1.out; have := HK2.out; have := HK3.out; have := HJ41.out; omega⟩, ⟨by (with_reducible repeat (first | apply Kd.R_alloc | apply Kd.R_drewN | apply Kd.R_drew)); exact HO_5.out⟩, ⟨by (with_reducible repeat (first | apply Kd.R_alloc | apply Kd.R_drewN | apply Kd.R_drew)); exact Kd.R_mono HO_7.out (fun _ hk => hk.2)⟩, ⟨by repeat (first | (with_reducible first | exact HB.out | apply below_alloc | apply pw_below_drewN | apply below_drew1 | refine below_set ?_ GE160.out) | exact HB.out)⟩⟩
                              ·
                               rw [if_neg c111] at H
                               exact absurd H (by simp)
                            ·
                             replace c103 := Bool.eq_false_iff.mpr c103
                             subst c103
                             have H1 : (if rdOf false x5_3 ((rd_T50 l0 x9_3).f2) = true then (if ((rd_T50 l0 x9_3).f1) < (x7_2.length : Int) then (spec_l6Make.l2 kj41 l0 (x5_3.set (x9_3 : Int).toNat (rdOf false x7_2 ((rd_T50 l0 x9_3).f1))) x7_2 (wrap64 (x9_3 + 1))) else (none)) else (spec_l6Make.l2 kj41 l0 (x5_3.set (x9_3 : Int).toNat false) x7_2 (wrap64 (x9_3 + 1)))) = some r := by rw [if_neg (show ¬ (false = true) by decide)] at H; exact H
                             clear H
                             have H := H1
                             clear H1
                             obtain ⟨bq126, hbq126⟩ : ∃ b_ : Bool, b_ = (rdOf false x5_3 ((rd_T50 l0 x9_3).f2)) := ⟨_, rfl⟩
                             replace H : (if bq126 = true then (if ((rd_T50 l0 x9_3).f1) < (x7_2.length : Int) then (spec_l6Make.l2 kj41 l0 (x5_3.set (x9_3 : Int).toNat (rdOf false x7_2 ((rd_T50 l0 x9_3).f1))) x7_2 (wrap64 (x9_3 + 1))) else (none)) else (spec_l6Make.l2 kj41 l0 (x5_3.set (x9_3 : Int).toNat false) x7_2 (wrap64 (x9_3 + 1)))) = some r := by rw [← hbq126] at H; exact H
                             have Nbq126 := Aside0.mk hbq126
                             clear hbq126
                             by_cases c127 : bq126 = true
                             ·
                              subst c127
                              have H1 : (if ((rd_T50 l0 x9_3).f1) < (x7_2.length : Int) then (spec_l6Make.l2 kj41 l0 (x5_3.set (x9_3 : Int).toNat (rdOf false x7_2 ((rd_T50 l0 x9_3).f1))) x7_2 (wrap64 (x9_3 + 1))) else (none)) = some r := by rw [if_pos rfl] at H; exact H
                              clear H
                              have H := H1
                              clear H1
                              by_cases c128 : ((rd_T50 l0 x9_3).f1) < (x7_2.length : Int)
                              ·
                               rw [if_pos c128] at H
                               have c128b0 : decide (((rd_T50 l0 x9_3).f1) < (x7_2.length : Int)) = true := decide_eq_true c128
                               clear c128
                               obtain ⟨y181, hy181⟩ : ∃ y_ : List Bool, y_ = (x5_3.set (x9_3 : Int).toNat (rdOf false x7_2 ((rd_T50 l0 x9_3).f1))) := ⟨_, rfl⟩
                               replace H : (spec_l6Make.l2 kj41 l0 y181 x7_2 (wrap64 (x9_3 + 1))) = some r := by first | (rw [hy181]; with_reducible exact H) | (have H2_ := (Option.bind_some _ _).symm.trans H; rw [hy181]; with_reducible exact H2_) | (have H2_ := (Option.bind_some _ _).symm.trans H; with_reducible exact H2_) | with_reducible exact H | (rw [hy181]; exact H) | exact H
                               have Ny181 := Aside0.mk hy181
                               clear hy181
                               have H' := Aside0.mk H
                               clear H
                               obtain ⟨hcz130_0, hcz130_1, hcz130_2, hcz130_3⟩ := blk_c4 BK160.out
                               obtain ⟨hfz130_0, hfz130_1, hfz130_2, hfz130_3⟩ := blk_f4 BK160.out
                               obtain ⟨Ao131, co131, eo131⟩ := Kd.R_slice HO_5.out
                               subst eo131
                               have p172 : 0 ≤ (((rd_T50 l0 x9_3).f1) : Int) := of_decide_eq_true (by first | (with_reducible assumption) | assumption)
                               have q172 : ((rd_T50 l0 x9_3).f1) < (x5_3.length : Int) := of_decide_eq_true (by first | (with_reducible assumption) | assumption)
                               obtain ⟨ad172, e172, hx172_0⟩ := Kd.at_bool (Kd.R_reads' HO_5.out).2.2 ((rd_T50 l0 x9_3).f1) p172 q172
                               (try rw [← Nbq95.out] at hx172_0)
                               (try rw [← Nbq102.out] at hx172_0)
                               (try rw [← Nbq126.out] at hx172_0)
                               cases e172
                               replace p172 := eq_true p172
                               replace q172 := eq_true q172
                               have p173 : 0 ≤ (((rd_T50 l0 x9_3).f2) : Int) := of_decide_eq_true (by first | (with_reducible assumption) | assumption)
                               have q173 : ((rd_T50 l0 x9_3).f2) < (x5_3.length : Int) := of_decide_eq_true (by first | (with_reducible assumption) | assumption)
                               obtain ⟨ad173, e173, hx173_0⟩ := Kd.at_bool (Kd.R_reads' HO_5.out).2.2 ((rd_T50 l0 x9_3).f2) p173 q173
                               (try rw [← Nbq95.out] at hx173_0)
                               (try rw [← Nbq102.out] at hx173_0)
                               (try rw [← Nbq126.out] at hx173_0)
                               obtain rfl : ad172 = ad173 := (by injection e173)
                               replace p173 := eq_true p173
                               replace q173 := eq_true q173
                               have p174 : 0 ≤ (x9_3 : Int) := of_decide_eq_true (by first | (with_reducible assumption) | assumption)
                               have q174 : x9_3 < (x5_3.length : Int) := of_decide_eq_true (by first | (with_reducible assumption) | assumption)
                               obtain ⟨ad174, e174, hx174_0⟩ := Kd.at_bool (Kd.R_reads' HO_5.out).2.2 x9_3 p174 q174
                               (try rw [← Nbq95.out] at hx174_0)
                               (try rw [← Nbq102.out] at hx174_0)
                               (try rw [← Nbq126.out] at hx174_0)
                               obtain rfl : ad172 = ad174 := (by injection e174)
                               replace p174 := eq_true p174
                               replace q174 := eq_true q174
                               obtain ⟨Ao132, co132, eo132⟩ := Kd.R_slice HO_7.out
                               subst eo132
                               have p180 : 0 ≤ (((rd_T50 l0 x9_3).f1) : Int) := of_decide_eq_true (by first | (with_reducible assumption) | assumption)
                               have q180 : ((rd_T50 l0 x9_3).f1) < (x7_2.length : Int) := of_decide_eq_true (by first | (with_reducible assumption) | assumption)
                               obtain ⟨ad180, e180, hx180_0⟩ := Kd.at_bool (Kd.R_reads' HO_7.out).2.2 ((rd_T50 l0 x9_3).f1) p180 q180
                               (try rw [← Nbq95.out] at hx180_0)
                               (try rw [← Nbq102.out] at hx180_0)
                               (try rw [← Nbq126.out] at hx180_0)
                               cases e180
                               replace p180 := eq_true p180
                               replace q180 := eq_true q180
                               have p129 : 0 ≤ (x9_3 : Int) := of_decide_eq_true (by first | (with_reducible assumption) | assumption)
                               have q129 : (x9_3 : Int) < ((x5_3.length : Int) : Int) := of_decide_eq_true (by first | (with_reducible assumption) | assumption)
                               obtain ⟨go129, co129, eo129, gb129, gl129, cl129, HG129⟩ := Kd.R_form HO_5.out (by omega)
                               (first | cases eo129 | (injection eo129 with ea_ en_ ec_; (first | subst ea_ | (injection ea_ with ea_; subst ea_)); subst ec_; clear en_))
                               have GB129 := Aside0.mk gb129
                               have GG129 := Aside0.mk HG129
                               clear gb129 gl129 HG129
                               (first | simp only [add_plain] at hx172_0 | skip)
                               (first | simp only [add_plain] at hx173_0 | skip)
                               (first | simp only [add_plain] at hx174_0 | skip)
                               obtain ⟨hx129_0, hf129_0⟩ := Kd.R_celln false HO_5.out (x9_3 : Int) p129 q129
                               replace p129 := eq_true p129
                               replace q129 := eq_true q129
                               have HP133 := Kd.R_putg HO_5.out (x9_3 : Int) (rdOf false x7_2 ((rd_T50 l0 x9_3).f1))
                               go_wp2_with (first | ((with_reducible refine gate_store (t := 4) (p := 155) rfl ?_); refine store_event (t := 4) (p := 155) (v := ?vo_w134) (w1 := (wc.setCell ⟨go129, (x9_3 : Int).toNat, none⟩ (.bool (rdOf false x7_2 ((rd_T50 l0 x9_3).f1))))) ?hg ?ho ?hn ?hr ?_; (case ho => rfl); (case hg => rfl); (case hn => rfl); (case hr => first | (go_simp; done) | (go_simp; rfl)); intro w134 hw; have hg : wc.grownBy w134 (some go129) := (by rw [hw]; exact HP133.2); have hp_ : Kd.R Kd.bool 4 w134 w.heap.size (fun k_ => some k_ ≠ (.slice (some ad180) x7_2.length co132 : Value).ownBlock) (.slice (some ⟨go129, 0, none⟩) x5_3.length co131) y181 := (by rw [hw, Ny181.out]; exact HP133.1); clear HP133; have n0_ := Aside0.mk (hp_); have n1_ := Aside0.mk (Kd.R_after (v := (.slice (some ⟨go129, 0, none⟩) x5_3.length co131)) (v1 := (.slice (some ⟨go129, 0, none⟩) x5_3.length co131)) (ok := (fun _ => True)) (by (with_reducible repeat (first | apply Kd.R_alloc | apply Kd.R_drewN | apply Kd.R_drew)); exact Kd.R_mono HO_7.out (fun _ hk => ⟨trivial, hk⟩)) hg (.inl rfl)); have n2_ := Aside0.mk (blk_grown (g := gb160) (o := .cells #[.int .i64 ((rd_T50 l0 x9_3).f0), .int .i64 ((rd_T50 l0 x9_3).f1), .int .i64 ((rd_T50 l0 x9_3).f2), .int .i64 ((rd_T50 l0 x9_3).f3)] 50 (0, 0)) (by (with_reducible repeat (first | refine blk_drewN ?_ _ | refine blk_drew ?_ | refine blk_alloc ?_ _)); exact BK160.out) hg (Kd.R_ne HO_5.out BK160.out (by decide))); have n3_ := Aside0.mk ((by rw [hw]; exact below_set (HB.out) GB129.out : Below w.heap.size w w134)); clear HO_5; clear HO_7; clear BK160; clear HB; have HO_5 := n0_; have HO_7 := n1_; have BK160 := n2_; have HB := n3_; clear n0_ n1_ n2_ n3_; clear hg hw hp_))
                               go_roundg kj41
                               case measure => have := HK1.out; have := HK2.out; have := HK3.out; have := HJ41.out; omega
                               case rel => exact ⟨(y181), (wrap64 (x9_3 + 1)), (by first | rfl | (simp; done) | (simp [*]; done)), H', ⟨by have := HK1.out; have := HK2.out; have := HK3.out; have := HJ41.out; omega⟩, ⟨by (with_reducible repeat (first | apply Kd.R_alloc | apply Kd.R_drewN | apply Kd.R_drew)); exact HO_5.out⟩, ⟨by (with_reducible repeat (first | apply Kd.R_alloc | apply Kd.R_drewN | apply Kd.R_drew)); exact Kd.R_mono HO_7.out (fun _ hk => hk.2)⟩, ⟨by repeat (first | (with_reducible first | exact HB.out | apply below_alloc | apply pw_below_drewN | apply below_drew1 | refine below_set ?_ GE160.out) | exact HB.out)⟩⟩
                              ·
                               rw [if_neg c128] at H
                               exact absurd H (by simp)
                             ·
                              replace c127 := Bool.eq_false_iff.mpr c127
                              subst c127
                              have H1 : (spec_l6Make.l2 kj41 l0 (x5_3.set (x9_3 : Int).toNat false) x7_2 (wrap64 (x9_3 + 1))) = some r := by rw [if_neg (show ¬ (false = true) by decide)] at H; exact H
                              clear H
                              have H := H1
                              clear H1
                              obtain ⟨y182, hy182⟩ : ∃ y_ : List Bool, y_ = (x5_3.set (x9_3 : Int).toNat false) := ⟨_, rfl⟩
                              replace H : (spec_l6Make.l2 kj41 l0 y182 x7_2 (wrap64 (x9_3 + 1))) = some r := by first | (rw [hy182]; with_reducible exact H) | (have H2_ := (Option.bind_some _ _).symm.trans H; rw [hy182]; with_reducible exact H2_) | (have H2_ := (Option.bind_some _ _).symm.trans H; with_reducible exact H2_) | with_reducible exact H | (rw [hy182]; exact H) | exact H
                              have Ny182 := Aside0.mk hy182
                              clear hy182
                              have H' := Aside0.mk H
                              clear H
                              obtain ⟨hcz136_0, hcz136_1, hcz136_2, hcz136_3⟩ := blk_c4 BK160.out
                              obtain ⟨hfz136_0, hfz136_1, hfz136_2, hfz136_3⟩ := blk_f4 BK160.out
                              obtain ⟨Ao137, co137, eo137⟩ := Kd.R_slice HO_5.out
                              subst eo137
                              have p172 : 0 ≤ (((rd_T50 l0 x9_3).f1) : Int) := of_decide_eq_true (by first | (with_reducible assumption) | assumption)
                              have q172 : ((rd_T50 l0 x9_3).f1) < (x5_3.length : Int) := of_decide_eq_true (by first | (with_reducible assumption) | assumption)
                              obtain ⟨ad172, e172, hx172_0⟩ := Kd.at_bool (Kd.R_reads' HO_5.out).2.2 ((rd_T50 l0 x9_3).f1) p172 q172
                              (try rw [← Nbq95.out] at hx172_0)
                              (try rw [← Nbq102.out] at hx172_0)
                              (try rw [← Nbq126.out] at hx172_0)
                              cases e172
                              replace p172 := eq_true p172
                              replace q172 := eq_true q172
                              have p173 : 0 ≤ (((rd_T50 l0 x9_3).f2) : Int) := of_decide_eq_true (by first | (with_reducible assumption) | assumption)
                              have q173 : ((rd_T50 l0 x9_3).f2) < (x5_3.length : Int) := of_decide_eq_true (by first | (with_reducible assumption) | assumption)
                              obtain ⟨ad173, e173, hx173_0⟩ := Kd.at_bool (Kd.R_reads' HO_5.out).2.2 ((rd_T50 l0 x9_3).f2) p173 q173
                              (try rw [← Nbq95.out] at hx173_0)
                              (try rw [← Nbq102.out] at hx173_0)
                              (try rw [← Nbq126.out] at hx173_0)
                              obtain rfl : ad172 = ad173 := (by injection e173)
                              replace p173 := eq_true p173
                              replace q173 := eq_true q173
                              have p174 : 0 ≤ (x9_3 : Int) := of_decide_eq_true (by first | (with_reducible assumption) | assumption)
                              have q174 : x9_3 < (x5_3.length : Int) := of_decide_eq_true (by first | (with_reducible assumption) | assumption)
                              obtain ⟨ad174, e174, hx174_0⟩ := Kd.at_bool (Kd.R_reads' HO_5.out).2.2 x9_3 p174 q174
                              (try rw [← Nbq95.out] at hx174_0)
                              (try rw [← Nbq102.out] at hx174_0)
                              (try rw [← Nbq126.out] at hx174_0)
                              obtain rfl : ad172 = ad174 := (by injection e174)
                              replace p174 := eq_true p174
                              replace q174 := eq_true q174
                              have p135 : 0 ≤ (x9_3 : Int) := of_decide_eq_true (by first | (with_reducible assumption) | assumption)
                              have q135 : (x9_3 : Int) < ((x5_3.length : Int) : Int) := of_decide_eq_true (by first | (with_reducible assumption) | assumption)
                              obtain ⟨go135, co135, eo135, gb135, gl135, cl135, HG135⟩ := Kd.R_form HO_5.out (by omega)
                              (first | cases eo135 | (injection eo135 with ea_ en_ ec_; (first | subst ea_ | (injection ea_ with ea_; subst ea_)); subst ec_; clear en_))
                              have GB135 := Aside0.mk gb135
                              have GG135 := Aside0.mk HG135
                              clear gb135 gl135 HG135
                              (first | simp only [add_plain] at hx172_0 | skip)
                              (first | simp only [add_plain] at hx173_0 | skip)
                              (first | simp only [add_plain] at hx174_0 | skip)
                              obtain ⟨hx135_0, hf135_0⟩ := Kd.R_celln false HO_5.out (x9_3 : Int) p135 q135
                              replace p135 := eq_true p135
                              replace q135 := eq_true q135
                              have HP138 := Kd.R_putg HO_5.out (x9_3 : Int) false
                              go_wp2_with (first | ((with_reducible refine gate_store (t := 4) (p := 155) rfl ?_); refine store_event (t := 4) (p := 155) (v := ?vo_w139) (w1 := (wc.setCell ⟨go135, (x9_3 : Int).toNat, none⟩ (.bool false))) ?hg ?ho ?hn ?hr ?_; (case ho => rfl); (case hg => rfl); (case hn => rfl); (case hr => first | (go_simp; done) | (go_simp; rfl)); intro w139 hw; have hg : wc.grownBy w139 (some go135) := (by rw [hw]; exact HP138.2); have hp_ : Kd.R Kd.bool 4 w139 w.heap.size (fun k_ => some k_ ≠ (v153 : Value).ownBlock) (.slice (some ⟨go135, 0, none⟩) x5_3.length co137) y182 := (by rw [hw, Ny182.out]; exact HP138.1); clear HP138; have n0_ := Aside0.mk (hp_); have n1_ := Aside0.mk (Kd.R_after (v := (.slice (some ⟨go135, 0, none⟩) x5_3.length co137)) (v1 := (.slice (some ⟨go135, 0, none⟩) x5_3.length co137)) (ok := (fun _ => True)) (by (with_reducible repeat (first | apply Kd.R_alloc | apply Kd.R_drewN | apply Kd.R_drew)); exact Kd.R_mono HO_7.out (fun _ hk => ⟨trivial, hk⟩)) hg (.inl rfl)); have n2_ := Aside0.mk (blk_grown (g := gb160) (o := .cells #[.int .i64 ((rd_T50 l0 x9_3).f0), .int .i64 ((rd_T50 l0 x9_3).f1), .int .i64 ((rd_T50 l0 x9_3).f2), .int .i64 ((rd_T50 l0 x9_3).f3)] 50 (0, 0)) (by (with_reducible repeat (first | refine blk_drewN ?_ _ | refine blk_drew ?_ | refine blk_alloc ?_ _)); exact BK160.out) hg (Kd.R_ne HO_5.out BK160.out (by decide))); have n3_ := Aside0.mk ((by rw [hw]; exact below_set (HB.out) GB135.out : Below w.heap.size w w139)); clear HO_5; clear HO_7; clear BK160; clear HB; have HO_5 := n0_; have HO_7 := n1_; have BK160 := n2_; have HB := n3_; clear n0_ n1_ n2_ n3_; clear hg hw hp_))
                              go_roundg kj41
                              case measure => have := HK1.out; have := HK2.out; have := HK3.out; have := HJ41.out; omega
                              case rel => exact ⟨(y182), (wrap64 (x9_3 + 1)), (by first | rfl | (simp; done) | (simp [*]; done)), H', ⟨by have := HK1.out; have := HK2.out; have := HK3.out; have := HJ41.out; omega⟩, ⟨by (with_reducible repeat (first | apply Kd.R_alloc | apply Kd.R_drewN | apply Kd.R_drew)); exact HO_5.out⟩, ⟨by (with_reducible repeat (first | apply Kd.R_alloc | apply Kd.R_drewN | apply Kd.R_drew)); exact Kd.R_mono HO_7.out (fun _ hk => hk.2)⟩, ⟨by repeat (first | (with_reducible first | exact HB.out | apply below_alloc | apply pw_below_drewN | apply below_drew1 | refine below_set ?_ GE160.out) | exact HB.out)⟩⟩
                          ·
                           rw [if_neg c94] at H
                           exact absurd H (by simp)
                         ·
                          rw [if_neg c93] at H
                          exact absurd H (by simp)
                        ·
                         rw [if_neg c92] at H
                         exact absurd H (by simp)
                       ·
                        rw [if_neg c91] at H
                        exact absurd H (by simp)
                      ·
                       rw [if_neg c90] at H
                       exact absurd H (by simp)
                     ·
                      rw [if_neg c89] at H
                      exact absurd H (by simp)
                    ·
                     rw [if_neg c88] at H
                     have c88b0 : (((rd_T50 l0 x9_3).f0) == 7) = false := beq_eq_false_iff_ne.mpr c88
                     have c88b1 : (((rd_T50 l0 x9_3).f0) != 7) = true := bne_iff_ne.mpr c88
                     have H' := Aside0.mk H
                     clear H
                     go_wp2
                     go_roundg kj41
                     case measure => have := HK1.out; have := HK2.out; have := HK3.out; have := HJ41.out; omega
                     case rel => exact ⟨(x5_3), (wrap64 (x9_3 + 1)), (by first | rfl | (simp; done) | (simp [*]; done)), H', ⟨by have := HK1.out; have := HK2.out; have := HK3.out; have := HJ41.out; omega⟩, ⟨by (with_reducible repeat (first | apply Kd.R_alloc | apply Kd.R_drewN | apply Kd.R_drew)); exact HO_5.out⟩, ⟨by (with_reducible repeat (first | apply Kd.R_alloc | apply Kd.R_drewN | apply Kd.R_drew)); exact HO_7.out⟩, ⟨by repeat (first | (with_reducible first | exact HB.out | apply below_alloc | apply pw_below_drewN | apply below_drew1 | refine below_set ?_ GE160.out) | exact HB.out)⟩⟩
              ·
               rw [if_neg c32] at H
               exact absurd H (by simp)
             ·
              rw [if_neg c31] at H
              have c31b0 : decide (x9_3 < (l0.length : Int)) = false := decide_eq_false c31
              clear c31
              obtain rfl := Option.some.inj H
              go_wp2
              go_ret
              exact ⟨_, by first | rfl | (simp [errW_none, errW_some] <;> rfl) | (simp [*, errW_none, errW_some] <;> rfl), by (with_reducible repeat (first | apply Kd.R_alloc | apply Kd.R_drewN | apply Kd.R_drew)); exact Kd.R_mono HO_5.out (fun _ hk => trivial), by repeat (first | (with_reducible first | exact HB.out | apply below_alloc | apply pw_below_drewN | apply below_drew1) | exact HB.out)⟩
       ·
        rw [if_neg c15] at H
        exact absurd H (by simp)
      ·
       rw [if_neg c14] at H
       exact absurd H (by simp)
  ·
   rw [if_neg c4] at H
   exact absurd H (by simp)
 ·
  rw [if_neg c3] at H
  exact absurd H (by simp)

end Go.Proofs.Ytidfgmekhededaa.PFnExactDerives
