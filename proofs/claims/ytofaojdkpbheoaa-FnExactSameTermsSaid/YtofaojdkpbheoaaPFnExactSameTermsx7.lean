-- Written by wip/tools/myprint.py of this claim's session, over the kit's print, round texts of its own: own text.
import Derived.Test.YtofaojdkpbheoaaPFnExactSameTermsx0
import Derived.Test.YtofaojdkpbheoaaPFnExactSameTermsx2
import Derived.Test.YtofaojdkpbheoaaPFnExactSameTermsx5
import Derived.Test.YtofaojdkpbheoaaPFnExactSameTermsx6
namespace Go.Proofs.Ytofaojdkpbheoaa.PFnExactSameTerms
open Go.RowKit Go.Proofs.YtofaojdkpbheoaaW.PrintWords Go.Proofs.YtofaojdkpbheoaaW.PrintLast Go.Proofs.YtofaojdkpbheoaaW.PrintMore
attribute [local go_sem] max2_int min2_int max_two min_two max_three min_three max_four min_four   -- for this text's walks alone
set_option linter.unusedVariables false
set_option linter.unusedSimpArgs false

/-! ### spec_l5Move: function 10 -/
mutual
def spec_l5Move.l0 : Nat → List (S34) → Int → List Int → List Int → List (S34) → Int → Option (Int × Int × (List (S34)))
 | 0, _, _, _, _, _, _ => none
 | k + 1, x0, x1, x7, x8, x9, x10 => if x10 < (x7.length : Int) then (if 0 ≤ x10 then (if 0 ≤ (rd x7 x10) then (if (rd x7 x10) < (x0.length : Int) then ((spec_l5Kids.f k ((rd_T34 x0 (rd x7 x10)).f0)).bind fun t196 => (if t196 > 0 then (if 0 ≤ ((rd_T34 x0 (rd x7 x10)).f1) then (if ((rd_T34 x0 (rd x7 x10)).f1) < (x8.length : Int) then (spec_l5Move.j1 k x0 x1 x7 x8 x9 x10 ((rd_T34 x0 (rd x7 x10)).f0) ((rd_T34 x0 (rd x7 x10)).f1) ((rd_T34 x0 (rd x7 x10)).f2) ((rd_T34 x0 (rd x7 x10)).f3) ((rd_T34 x0 (rd x7 x10)).f0) (rd x8 ((rd_T34 x0 (rd x7 x10)).f1)) 0 ((rd_T34 x0 (rd x7 x10)).f3)) else (none)) else (none)) else (spec_l5Move.j1 k x0 x1 x7 x8 x9 x10 ((rd_T34 x0 (rd x7 x10)).f0) ((rd_T34 x0 (rd x7 x10)).f1) ((rd_T34 x0 (rd x7 x10)).f2) ((rd_T34 x0 (rd x7 x10)).f3) ((rd_T34 x0 (rd x7 x10)).f0) 0 0 ((rd_T34 x0 (rd x7 x10)).f3)))) else (none)) else (none)) else (none)) else (if 0 ≤ x1 then (if x1 < (x8.length : Int) then (some (0, rd x8 x1, x9)) else (none)) else (none))
def spec_l5Move.j1 : Nat → List (S34) → Int → List Int → List Int → List (S34) → Int → Int → Int → Int → Int → Int → Int → Int → Int → Option (Int × Int × (List (S34)))
 | 0, _, _, _, _, _, _, _, _, _, _, _, _, _, _ => none
 | k + 1, x0, x1, x7, x8, x9, x10, x195000, x195001, x195002, x195003, x196000, x196001, x196002, x196003 => (spec_l5Kids.f k x195000).bind fun t198 => (if t198 > 1 then (if 0 ≤ x195002 then (if x195002 < (x8.length : Int) then (spec_l5Move.j2 k x0 x1 x7 x8 x9 x10 x195000 x195001 x195002 x195003 x196000 x196001 (rd x8 x195002) x196003) else (none)) else (none)) else (spec_l5Move.j2 k x0 x1 x7 x8 x9 x10 x195000 x195001 x195002 x195003 x196000 x196001 x196002 x196003))
def spec_l5Move.j2 : Nat → List (S34) → Int → List Int → List Int → List (S34) → Int → Int → Int → Int → Int → Int → Int → Int → Int → Option (Int × Int × (List (S34)))
 | 0, _, _, _, _, _, _, _, _, _, _, _, _, _, _ => none
 | k + 1, x0, x1, x7, x8, x9, x10, x195000, x195001, x195002, x195003, x196000, x196001, x196002, x196003 => (spec_l5Put.f k x9 x196000 x196001 x196002 x196003).bind fun bt200 => (if x195000 = 7 then ((spec_l5Both.f k x9 x196001 x196002).bind fun bt206 => (if bt206.1 = 0 then (if 0 ≤ x10 then (if x10 < (x7.length : Int) then (if 0 ≤ (rd x7 x10) then (if (rd x7 x10) < (x8.length : Int) then (spec_l5Move.l0 k x0 x1 x7 (x8.set ((rd x7 x10) : Int).toNat bt206.2.1) bt206.2.2 (wrap64 (x10 + 1))) else (none)) else (none)) else (none)) else (none)) else (some (bt206.1, 0, ([] : List (S34)))))) else (if bt200.1 = 0 then (if 0 ≤ x10 then (if x10 < (x7.length : Int) then (if 0 ≤ (rd x7 x10) then (if (rd x7 x10) < (x8.length : Int) then (spec_l5Move.l0 k x0 x1 x7 (x8.set ((rd x7 x10) : Int).toNat bt200.2.1) bt200.2.2 (wrap64 (x10 + 1))) else (none)) else (none)) else (none)) else (none)) else (some (bt200.1, 0, ([] : List (S34))))))
end
def spec_l5Move.f (k : Nat) (l0 : List (S34)) (a1 : Int) (l2 : List (S34)) : Option (Int × Int × (List (S34))) := (spec_l5Parts.f k l0 a1).bind fun t182 => (if 0 ≤ (wrap64 (a1 + 1)) then (if (wrap64 (a1 + 1) : Int).toNat ≤ 35184372088832 then ((spec_l5Copy.f l2).bind fun t188 => (spec_l5Move.l0 k l0 a1 t182 (List.replicate (wrap64 (a1 + 1) : Int).toNat 0) t188 0)) else (none)) else (none))
theorem spec_l5Move.mono_l : ∀ k, (∀ y0 y1 y2 y3 y4 y5, LeO (spec_l5Move.l0 k y0 y1 y2 y3 y4 y5) (spec_l5Move.l0 (k + 1) y0 y1 y2 y3 y4 y5)) ∧ (∀ y0 y1 y2 y3 y4 y5 y6 y7 y8 y9 y10 y11 y12 y13, LeO (spec_l5Move.j1 k y0 y1 y2 y3 y4 y5 y6 y7 y8 y9 y10 y11 y12 y13) (spec_l5Move.j1 (k + 1) y0 y1 y2 y3 y4 y5 y6 y7 y8 y9 y10 y11 y12 y13)) ∧ (∀ y0 y1 y2 y3 y4 y5 y6 y7 y8 y9 y10 y11 y12 y13, LeO (spec_l5Move.j2 k y0 y1 y2 y3 y4 y5 y6 y7 y8 y9 y10 y11 y12 y13) (spec_l5Move.j2 (k + 1) y0 y1 y2 y3 y4 y5 y6 y7 y8 y9 y10 y11 y12 y13))
 | 0 => ⟨fun _ _ _ _ _ _ r h => by simp [spec_l5Move.l0] at h, fun _ _ _ _ _ _ _ _ _ _ _ _ _ _ r h => by simp [spec_l5Move.j1] at h, fun _ _ _ _ _ _ _ _ _ _ _ _ _ _ r h => by simp [spec_l5Move.j2] at h⟩
 | k + 1 => by
  obtain ⟨ih0, ih1, ih2⟩ := spec_l5Move.mono_l k
  refine ⟨?_, ?_, ?_⟩
  ·
   intro y0 y1 y2 y3 y4 y5
   unfold spec_l5Move.l0
   repeat' first
   | (with_reducible exact ih0 _ _ _ _ _ _)
   | (with_reducible exact ih1 _ _ _ _ _ _ _ _ _ _ _ _ _ _)
   | (with_reducible exact ih2 _ _ _ _ _ _ _ _ _ _ _ _ _ _)
   | (with_reducible exact spec_l5Both.mono _ _ _ _)
   | (with_reducible exact spec_l5Kids.mono _ _)
   | (with_reducible exact spec_l5Parts.mono _ _ _)
   | (with_reducible exact spec_l5Put.mono _ _ _ _ _ _)
   | (with_reducible exact LeO.refl _)
   | (with_reducible exact LeO.none _)
   | (with_reducible refine LeO.ite ?_ ?_)
   | (with_reducible refine LeO.bind ?_ (fun _ => ?_))
   | exact ih0 _ _ _ _ _ _
   | exact ih1 _ _ _ _ _ _ _ _ _ _ _ _ _ _
   | exact ih2 _ _ _ _ _ _ _ _ _ _ _ _ _ _
   | exact spec_l5Both.mono _ _ _ _
   | exact spec_l5Kids.mono _ _
   | exact spec_l5Parts.mono _ _ _
   | exact spec_l5Put.mono _ _ _ _ _ _
   | exact LeO.none _
   | refine LeO.ite ?_ ?_
   | refine LeO.bind ?_ (fun _ => ?_)
  ·
   intro y0 y1 y2 y3 y4 y5 y6 y7 y8 y9 y10 y11 y12 y13
   unfold spec_l5Move.j1
   repeat' first
   | (with_reducible exact ih0 _ _ _ _ _ _)
   | (with_reducible exact ih1 _ _ _ _ _ _ _ _ _ _ _ _ _ _)
   | (with_reducible exact ih2 _ _ _ _ _ _ _ _ _ _ _ _ _ _)
   | (with_reducible exact spec_l5Both.mono _ _ _ _)
   | (with_reducible exact spec_l5Kids.mono _ _)
   | (with_reducible exact spec_l5Parts.mono _ _ _)
   | (with_reducible exact spec_l5Put.mono _ _ _ _ _ _)
   | (with_reducible exact LeO.refl _)
   | (with_reducible exact LeO.none _)
   | (with_reducible refine LeO.ite ?_ ?_)
   | (with_reducible refine LeO.bind ?_ (fun _ => ?_))
   | exact ih0 _ _ _ _ _ _
   | exact ih1 _ _ _ _ _ _ _ _ _ _ _ _ _ _
   | exact ih2 _ _ _ _ _ _ _ _ _ _ _ _ _ _
   | exact spec_l5Both.mono _ _ _ _
   | exact spec_l5Kids.mono _ _
   | exact spec_l5Parts.mono _ _ _
   | exact spec_l5Put.mono _ _ _ _ _ _
   | exact LeO.none _
   | refine LeO.ite ?_ ?_
   | refine LeO.bind ?_ (fun _ => ?_)
  ·
   intro y0 y1 y2 y3 y4 y5 y6 y7 y8 y9 y10 y11 y12 y13
   unfold spec_l5Move.j2
   repeat' first
   | (with_reducible exact ih0 _ _ _ _ _ _)
   | (with_reducible exact ih1 _ _ _ _ _ _ _ _ _ _ _ _ _ _)
   | (with_reducible exact ih2 _ _ _ _ _ _ _ _ _ _ _ _ _ _)
   | (with_reducible exact spec_l5Both.mono _ _ _ _)
   | (with_reducible exact spec_l5Kids.mono _ _)
   | (with_reducible exact spec_l5Parts.mono _ _ _)
   | (with_reducible exact spec_l5Put.mono _ _ _ _ _ _)
   | (with_reducible exact LeO.refl _)
   | (with_reducible exact LeO.none _)
   | (with_reducible refine LeO.ite ?_ ?_)
   | (with_reducible refine LeO.bind ?_ (fun _ => ?_))
   | exact ih0 _ _ _ _ _ _
   | exact ih1 _ _ _ _ _ _ _ _ _ _ _ _ _ _
   | exact ih2 _ _ _ _ _ _ _ _ _ _ _ _ _ _
   | exact spec_l5Both.mono _ _ _ _
   | exact spec_l5Kids.mono _ _
   | exact spec_l5Parts.mono _ _ _
   | exact spec_l5Put.mono _ _ _ _ _ _
   | exact LeO.none _
   | refine LeO.ite ?_ ?_
   | refine LeO.bind ?_ (fun _ => ?_)
theorem spec_l5Move.mono : ∀ a0 a1 a2 k, LeO (spec_l5Move.f k a0 a1 a2) (spec_l5Move.f (k + 1) a0 a1 a2) := by
 intro a0 a1 a2 k
 obtain ⟨ih0, ih1, ih2⟩ := spec_l5Move.mono_l k
 unfold spec_l5Move.f
 repeat' first
   | (with_reducible exact ih0 _ _ _ _ _ _)
   | (with_reducible exact ih1 _ _ _ _ _ _ _ _ _ _ _ _ _ _)
   | (with_reducible exact ih2 _ _ _ _ _ _ _ _ _ _ _ _ _ _)
   | (with_reducible exact spec_l5Both.mono _ _ _ _)
   | (with_reducible exact spec_l5Kids.mono _ _)
   | (with_reducible exact spec_l5Parts.mono _ _ _)
   | (with_reducible exact spec_l5Put.mono _ _ _ _ _ _)
   | (with_reducible exact LeO.refl _)
   | (with_reducible exact LeO.none _)
   | (with_reducible refine LeO.ite ?_ ?_)
   | (with_reducible refine LeO.bind ?_ (fun _ => ?_))
   | exact ih0 _ _ _ _ _ _
   | exact ih1 _ _ _ _ _ _ _ _ _ _ _ _ _ _
   | exact ih2 _ _ _ _ _ _ _ _ _ _ _ _ _ _
   | exact spec_l5Both.mono _ _ _ _
   | exact spec_l5Kids.mono _ _
   | exact spec_l5Parts.mono _ _ _
   | exact spec_l5Put.mono _ _ _ _ _ _
   | exact LeO.none _
   | refine LeO.ite ?_ ?_
   | refine LeO.bind ?_ (fun _ => ?_)
def spec_l5Move.T19 : Bool × List (List Nat × List Nat) := (true, [([], []), ([], []), ([], []), ([1, 2], [1, 2]), ([3], [3]), ([], []), ([5], [5]), ([0, 4, 0, 1, 2, 3, 4, 5, 6], [0, 4]), ([7, 6, 0, 1, 2, 3, 4, 5, 6], [6, 7])])
def spec_l5Move.B19 : List Nat := [0, 0, 0, 6, 14, 0, 32, 127, 255]
theorem spec_l5Move.tab19 : rtab .any (opsOf Try.f10 19) = spec_l5Move.T19 := by kernel_rfl
theorem spec_l5Move.bits19 : waitsOk spec_l5Move.T19.2 spec_l5Move.B19 = true := by kernel_rfl
set_option maxHeartbeats 8000000 in
set_option maxRecDepth 100000 in
theorem spec_l5Move.calls (k : Nat) (A0 : Option Addr) (c0 : Nat) (l0 : List (S34)) (a1 : Int) (A2 : Option Addr) (c2 : Nat) (l2 : List (S34)) (r1 : Int) (r2 : Int) (r3 : List (S34)) (w : World) (hr0 : Kd.C k34 w A0 l0.length l0) (hc0 : l0.length ≤ c0) (hr2 : Kd.C k34 w A2 l2.length l2) (hc2 : l2.length ≤ c2) (h : spec_l5Move.f k l0 a1 l2 = some (r1, r2, r3)) :
  Calls Try.prog 10 #[.slice A0 l0.length c0, .int .i64 a1, .slice A2 l2.length c2] w fun e w' => ∃ v2_ : Value, e = .returned (.agg #[.int .i64 r1, .int .i64 r2, v2_]) ∧ Kd.R k34 34 w' w.heap.size (fun _ => True) v2_ r3 ∧ Below w.heap.size w w' := by
 have hu31 := Try.underlying31
 have hu34 := Try.underlying34
 have HR0 := Aside0.mk hr0
 have HC0 := Aside0.mk hc0
 clear hr0 hc0
 have HR2 := Aside0.mk hr2
 have HC2 := Aside0.mk hc2
 clear hr2 hc2
 have HB := Aside0.mk (Below.refl w.heap.size w)
 have H : ((spec_l5Parts.f k l0 a1).bind fun t182 => (if 0 ≤ (wrap64 (a1 + 1)) then (if (wrap64 (a1 + 1) : Int).toNat ≤ 35184372088832 then ((spec_l5Copy.f l2).bind fun t188 => (spec_l5Move.l0 k l0 a1 t182 (List.replicate (wrap64 (a1 + 1) : Int).toNat 0) t188 0)) else (none)) else (none))) = some (r1, r2, r3) := h
 clear h
 replace H := Option.bind_eq_some_iff.mp H
 obtain ⟨t182, A40, H⟩ := H
 replace H : (if 0 ≤ (wrap64 (a1 + 1)) then (if (wrap64 (a1 + 1) : Int).toNat ≤ 35184372088832 then ((spec_l5Copy.f l2).bind fun t188 => (spec_l5Move.l0 k l0 a1 t182 (List.replicate (wrap64 (a1 + 1) : Int).toNat 0) t188 0)) else (none)) else (none)) = some (r1, r2, r3) := H
 have A4 := Aside0.mk A40
 clear A40
 obtain ⟨ji5, hji5⟩ : ∃ j_ : Int, (wrap64 (a1 + 1)) = j_ := ⟨_, rfl⟩
 replace H : (if 0 ≤ (ji5) then (if (ji5 : Int).toNat ≤ 35184372088832 then ((spec_l5Copy.f l2).bind fun t188 => (spec_l5Move.l0 k l0 a1 t182 (List.replicate (ji5 : Int).toNat 0) t188 0)) else (none)) else (none)) = some (r1, r2, r3) := by first | (rw [hji5] at H; exact H) | (simp only [hji5] at H ⊢; exact H)
 (try rw [hji5] at A4)
 have hji5w : (IntKind.i64.wrap (a1 + 1)) = ji5 := (i64_w _).trans hji5
 by_cases c6 : 0 ≤ (ji5)
 ·
  rw [if_pos c6] at H
  have c6b0 := eq_true c6
  have c6b1 : decide (0 ≤ (ji5)) = true := decide_eq_true c6
  clear c6
  by_cases c7 : (ji5 : Int).toNat ≤ 35184372088832
  ·
   rw [if_pos c7] at H
   have c7b0 := eq_true c7
   have c7b1 : decide ((ji5 : Int).toNat ≤ 35184372088832) = true := decide_eq_true c7
   clear c7
   obtain ⟨y185, hy185⟩ : ∃ y_ : List Int, y_ = (List.replicate (ji5 : Int).toNat 0) := ⟨_, rfl⟩
   replace H : ((spec_l5Copy.f l2).bind fun t188 => (spec_l5Move.l0 k l0 a1 t182 y185 t188 0)) = some (r1, r2, r3) := by first | (rw [hy185]; with_reducible exact H) | (have H2_ := (Option.bind_some _ _).symm.trans H; rw [hy185]; with_reducible exact H2_) | (have H2_ := (Option.bind_some _ _).symm.trans H; with_reducible exact H2_) | with_reducible exact H | (rw [hy185]; exact H) | exact H
   have Ny185 := Aside0.mk hy185
   clear hy185
   replace H := Option.bind_eq_some_iff.mp H
   obtain ⟨t188, A80, H⟩ := H
   replace H : (spec_l5Move.l0 k l0 a1 t182 y185 t188 0) = some (r1, r2, r3) := H
   have A8 := Aside0.mk A80
   clear A80
   have H' := Aside0.mk H
   clear H
   go_enter Try.func10, Try.ntmps10
   go_wp2_with (first | ((with_reducible refine gate_dst (N := 6) rfl ?_); refine box_event ?hg (N := 6) ?hd (cs := #[.int .i64 0, .int .i64 0, .slice none 0 0]) (t := 31) ?hr ?_; (case hd => rfl); (case hg => rfl); (case hr => first | (go_simp; done) | (go_simp; rfl)); intro gb181 hg w9 hbox hb; have n0_ := Aside0.mk (below_step (by repeat (first | (with_reducible first | exact HB.out | apply below_alloc | apply pw_below_drewN | apply below_drew1) | exact HB.out)) hb); have n1_ := Aside0.mk (hbox); have n2_ := Aside0.mk ((by rw [hg]; exact (below_size (by repeat (first | (with_reducible first | exact HB.out | apply below_alloc | apply pw_below_drewN | apply below_drew1) | exact HB.out))) : w.heap.size ≤ gb181)); have n3_ := Aside0.mk ((by rw [hg]; exact (below_size (by repeat (first | (with_reducible first | exact HB.out | apply below_alloc | apply pw_below_drewN | apply below_drew1) | exact HB.out))) : w.heap.size ≤ gb181)); clear HB; have HB := n0_; have BK181 := n1_; have GW181 := n2_; have GE181 := n3_; clear n0_ n1_ n2_ n3_; clear hb hbox hg) | ((with_reducible refine gate_callee (f := 17) rfl ?_); refine goesL_ (some 16) rfl rfl Try.func17 (by kernel_rfl) rfl #[.slice A0 l0.length c0, .int .i64 a1] rfl (by (try simp only [List.map_toArray, List.map_cons, List.map_nil]); first | done | rfl | (simp only [List.length_drop, List.length_take]; rfl)) ?_; (with_reducible refine (spec_l5Parts.calls k _ _ l0 a1 t182 _ ?side1 ?side2 A4.out).mono ?_); (case side1 => repeat (first | exact (Kd.C_below HR0.out HB.out) | (with_reducible refine Kd.C_alloc ?_ _) | (with_reducible refine Kd.C_drewN ?_ _) | (with_reducible refine Kd.C_drew ?_))); (case side2 => exact HC0.out); rintro e w10 ⟨v183, rfl, ho0, hb⟩; refine ⟨_, rfl, ?_⟩; have n0_ := Aside0.mk (Kd.R_lower ho0 (below_size (by repeat (first | (with_reducible first | exact HB.out | apply below_alloc | apply pw_below_drewN | apply below_drew1 | refine below_set ?_ GE181.out) | exact HB.out)))); have n1_ := Aside0.mk (blk_below_u BK181.out hb); have n2_ := Aside0.mk (below_step (by repeat (first | (with_reducible first | exact HB.out | apply below_alloc | apply pw_below_drewN | apply below_drew1 | refine below_set ?_ GE181.out) | exact HB.out)) hb); clear BK181; clear HB; have HO184 := n0_; have BK181 := n1_; have HB := n2_; clear n0_ n1_ n2_; (try clear hb); (try clear hb2); (try clear hk); (try clear hi); (try clear ho0)) | ((with_reducible refine gate_dst (N := 19) rfl ?_); refine Kd.R_make (Kd.int .i64) _ 2 rfl (N := 19) rfl 46 _ _ rfl ji5 rfl rfl Try.underlying46 (.int .i64 0) 8 info2 rfl (by decide) (by omega) 0 (ok := fun _ => True) (okp := fun _ => True) rfl (fun _ hk => hk) trivial (of_decide_eq_true (by first | (with_reducible assumption) | assumption)) (Nat.le_trans (Nat.mul_le_mul_right _ (of_decide_eq_true (by first | (with_reducible assumption) | assumption) : ji5.toNat ≤ 35184372088832)) (by omega)) (Below.refl _ _) (Nat.le_refl _) ?_; intro v186 w11 ho12 hb hg_ hnew_; clear hg_ hnew_; (first | rw [← Ny185.out] at ho12 | (simp only [Int.reduceToNat] at ho12; rw [← Ny185.out] at ho12)); have n0_ := Aside0.mk (Kd.R_elder' (by (with_reducible repeat (first | apply Kd.R_alloc | apply Kd.R_drewN | apply Kd.R_drew)); exact HO184.out) (Kd.R_base ho12) hb); have n1_ := Aside0.mk (Kd.R_lower (Kd.R_new' ho12 (Kd.R_lt (by (with_reducible repeat (first | apply Kd.R_alloc | apply Kd.R_drewN | apply Kd.R_drew)); exact HO184.out))) (below_size (by repeat (first | (with_reducible first | exact HB.out | apply below_alloc | apply pw_below_drewN | apply below_drew1 | refine below_set ?_ GE181.out) | exact HB.out)))); have n2_ := Aside0.mk (blk_below_u BK181.out hb); have n3_ := Aside0.mk (below_step (by repeat (first | (with_reducible first | exact HB.out | apply below_alloc | apply pw_below_drewN | apply below_drew1 | refine below_set ?_ GE181.out) | exact HB.out)) hb); clear HO184; clear BK181; clear HB; have HO184 := n0_; have HO187 := n1_; have BK181 := n2_; have HB := n3_; clear n0_ n1_ n2_ n3_; clear hb ho12) | ((with_reducible refine gate_callee (f := 18) rfl ?_); refine goesL_ (some 21) rfl rfl Try.func18 (by kernel_rfl) rfl #[.slice A2 l2.length c2] rfl (by (try simp only [List.map_toArray, List.map_cons, List.map_nil]); first | done | rfl | (simp only [List.length_drop, List.length_take]; rfl)) ?_; (with_reducible refine (spec_l5Copy.calls _ _ l2 t188 _ ?side1 ?side2 A8.out).mono ?_); (case side1 => repeat (first | exact (Kd.C_below HR2.out HB.out) | (with_reducible refine Kd.C_alloc ?_ _) | (with_reducible refine Kd.C_drewN ?_ _) | (with_reducible refine Kd.C_drew ?_))); (case side2 => exact HC2.out); rintro e w13 ⟨v189, rfl, ho0, hb⟩; refine ⟨_, rfl, ?_⟩; have n0_ := Aside0.mk (Kd.R_below (by (with_reducible repeat (first | apply Kd.R_alloc | apply Kd.R_drewN | apply Kd.R_drew)); exact HO184.out) hb); have n1_ := Aside0.mk (Kd.R_below (by (with_reducible repeat (first | apply Kd.R_alloc | apply Kd.R_drewN | apply Kd.R_drew)); exact HO187.out) hb); have n2_ := Aside0.mk (Kd.R_lower ho0 (below_size (by repeat (first | (with_reducible first | exact HB.out | apply below_alloc | apply pw_below_drewN | apply below_drew1 | refine below_set ?_ GE181.out) | exact HB.out)))); have n3_ := Aside0.mk (blk_below_u BK181.out hb); have n4_ := Aside0.mk (below_step (by repeat (first | (with_reducible first | exact HB.out | apply below_alloc | apply pw_below_drewN | apply below_drew1 | refine below_set ?_ GE181.out) | exact HB.out)) hb); clear HO184; clear HO187; clear BK181; clear HB; have HO184 := n0_; have HO187 := n1_; have HO190 := n2_; have BK181 := n3_; have HB := n4_; clear n0_ n1_ n2_ n3_ n4_; (try clear hb); (try clear hb2); (try clear hk); (try clear hi); (try clear ho0)))
   go_loopg [9, 10] k (fun kq v9 v10 w' => ∃ (x8_1 : List Int) (x9_1 : List (S34)) (x10_1 : Int) (x182000_1 : Int) (x182001_1 : Int), v10 = .int .i64 x10_1 ∧ Aside0 (spec_l5Move.l0 kq l0 a1 t182 x8_1 x9_1 x10_1 = some (r1, r2, r3)) ∧ Aside0 (kq ≤ k) ∧ Aside0 (Kd.R (Kd.int .i64) 2 w' w.heap.size (fun k_ => some k_ ≠ (v186 : Value).ownBlock) v183 t182) ∧ Aside0 (Kd.R (Kd.int .i64) 2 w' w.heap.size (fun k_ => some k_ ≠ (v183 : Value).ownBlock) v186 x8_1) ∧ Aside0 (Kd.R k34 34 w' w.heap.size (fun _ => True) v9 x9_1) ∧ Aside0 (w'.heap[gb181]? = some (.cells #[.int .i64 x182000_1, .int .i64 x182001_1, (.slice none 0 0)] 31 (0, 0))) ∧ Aside0 (Below w.heap.size w w'))
   case atStart => exact ⟨(y185), (t188), (0), (0), (0), (by first | rfl | (simp; done) | (simp [*]; done)), H', ⟨Nat.le_refl _⟩, ⟨by (with_reducible repeat (first | apply Kd.R_alloc | apply Kd.R_drewN | apply Kd.R_drew)); exact Kd.R_mono HO184.out (fun _ hk => hk.2)⟩, ⟨by (with_reducible repeat (first | apply Kd.R_alloc | apply Kd.R_drewN | apply Kd.R_drew)); exact Kd.R_mono HO187.out (fun _ hk => hk.2)⟩, ⟨by (with_reducible repeat (first | apply Kd.R_alloc | apply Kd.R_drewN | apply Kd.R_drew)); exact HO190.out⟩, ⟨by (with_reducible repeat (first | refine blk_drewN ?_ _ | refine blk_drew ?_ | refine blk_alloc ?_ _)); exact BK181.out⟩, ⟨by repeat (first | (with_reducible first | exact HB.out | apply below_alloc | apply pw_below_drewN | apply below_drew1 | refine below_set ?_ GE181.out) | exact HB.out)⟩⟩
   case round =>
    clear H'
    try clear c1; try clear c2; try clear p2; try clear c6; try clear c6b0; try clear c6b1; try clear p6; try clear c7; try clear c7b0; try clear c7b1; try clear c10
    obtain ⟨x8_1, x9_1, x10_1, x182000_1, x182001_1, rfl, HA, HK1, HO_7, HO_8, HO_9, BK181, HB⟩ := hrel
    cases gk with
    | zero => exact absurd HA.out (by simp [spec_l5Move.l0])
    | succ k1 =>
     have H := HA.out
     clear HA
     simp only [spec_l5Move.l0] at H
     by_cases c14 : x10_1 < (t182.length : Int)
     ·
      rw [if_pos c14] at H
      have c14b0 : decide (x10_1 < (t182.length : Int)) = true := decide_eq_true c14
      clear c14
      by_cases c15 : 0 ≤ x10_1
      ·
       rw [if_pos c15] at H
       have c15b0 : decide (0 ≤ x10_1) = true := decide_eq_true c15
       clear c15
       by_cases c16 : 0 ≤ (rd t182 x10_1)
       ·
        rw [if_pos c16] at H
        have c16b0 : decide (0 ≤ (rd t182 x10_1)) = true := decide_eq_true c16
        clear c16
        by_cases c17 : (rd t182 x10_1) < (l0.length : Int)
        ·
         rw [if_pos c17] at H
         have c17b0 : decide ((rd t182 x10_1) < (l0.length : Int)) = true := decide_eq_true c17
         clear c17
         replace H := Option.bind_eq_some_iff.mp H
         obtain ⟨t196, A180, H⟩ := H
         replace H : (if t196 > 0 then (if 0 ≤ ((rd_T34 l0 (rd t182 x10_1)).f1) then (if ((rd_T34 l0 (rd t182 x10_1)).f1) < (x8_1.length : Int) then (spec_l5Move.j1 k1 l0 a1 t182 x8_1 x9_1 x10_1 ((rd_T34 l0 (rd t182 x10_1)).f0) ((rd_T34 l0 (rd t182 x10_1)).f1) ((rd_T34 l0 (rd t182 x10_1)).f2) ((rd_T34 l0 (rd t182 x10_1)).f3) ((rd_T34 l0 (rd t182 x10_1)).f0) (rd x8_1 ((rd_T34 l0 (rd t182 x10_1)).f1)) 0 ((rd_T34 l0 (rd t182 x10_1)).f3)) else (none)) else (none)) else (spec_l5Move.j1 k1 l0 a1 t182 x8_1 x9_1 x10_1 ((rd_T34 l0 (rd t182 x10_1)).f0) ((rd_T34 l0 (rd t182 x10_1)).f1) ((rd_T34 l0 (rd t182 x10_1)).f2) ((rd_T34 l0 (rd t182 x10_1)).f3) ((rd_T34 l0 (rd t182 x10_1)).f0) 0 0 ((rd_T34 l0 (rd t182 x10_1)).f3))) = some (r1, r2, r3) := H
         have A18 := Aside0.mk A180
         clear A180
         have HC19 := Aside0.mk H
         clear H
         obtain ⟨Ao20, co20, eo20⟩ := Kd.R_slice HO_7.out
         subst eo20
         have p192 : 0 ≤ (x10_1 : Int) := of_decide_eq_true (by first | (with_reducible assumption) | assumption)
         have q192 : x10_1 < (t182.length : Int) := of_decide_eq_true (by first | (with_reducible assumption) | assumption)
         obtain ⟨ad192, e192, hx192_0⟩ := Kd.at_int (Kd.R_reads' HO_7.out).2.2 x10_1 p192 q192
         cases e192
         replace p192 := eq_true p192
         replace q192 := eq_true q192
         have p193 : 0 ≤ ((rd t182 x10_1) : Int) := of_decide_eq_true (by first | (with_reducible assumption) | assumption)
         have q193 : (rd t182 x10_1) < (l0.length : Int) := of_decide_eq_true (by first | (with_reducible assumption) | assumption)
         obtain ⟨ad193, e193, hx193_0, hx193_1, hx193_2, hx193_3⟩ := at_T34 HR0.out (rd t182 x10_1) p193 q193
         cases e193
         replace hx193_0 := (HB.out.cell (World.block_lt_of_cell? w _ hx193_0)).trans hx193_0
         replace hx193_1 := (HB.out.cell (World.block_lt_of_cell? w _ hx193_1)).trans hx193_1
         replace hx193_2 := (HB.out.cell (World.block_lt_of_cell? w _ hx193_2)).trans hx193_2
         replace hx193_3 := (HB.out.cell (World.block_lt_of_cell? w _ hx193_3)).trans hx193_3
         replace p193 := eq_true p193
         replace q193 := eq_true q193
         go_upto_if 43 with (first | ((with_reducible refine gate_dst (N := 11) rfl ?_); refine box_event ?hg (N := 11) ?hd (cs := #[.int .i64 0, .int .i64 0, .int .i64 0, .int .i64 0]) (t := 34) ?hr ?_; (case hd => rfl); (case hg => rfl); (case hr => first | (go_simp; done) | (go_simp; rfl)); intro gb194 hg w21 hbox hb; have n0_ := Aside0.mk (Kd.R_below (by (with_reducible repeat (first | apply Kd.R_alloc | apply Kd.R_drewN | apply Kd.R_drew)); exact HO_7.out) hb); have n1_ := Aside0.mk (Kd.R_below (by (with_reducible repeat (first | apply Kd.R_alloc | apply Kd.R_drewN | apply Kd.R_drew)); exact HO_8.out) hb); have n2_ := Aside0.mk (Kd.R_below (Kd.R_elderB (by (with_reducible repeat (first | apply Kd.R_alloc | apply Kd.R_drewN | apply Kd.R_drew)); exact HO_9.out) gb194 (Nat.le_of_eq hg.symm)) hb); have n3_ := Aside0.mk (blk_below_u BK181.out hb); have n4_ := Aside0.mk (below_step (by repeat (first | (with_reducible first | exact HB.out | apply below_alloc | apply pw_below_drewN | apply below_drew1 | refine below_set ?_ GE181.out) | exact HB.out)) hb); have n5_ := Aside0.mk (hbox); have n6_ := Aside0.mk ((by rw [hg]; exact (below_size (by repeat (first | (with_reducible first | exact HB.out | apply below_alloc | apply pw_below_drewN | apply below_drew1 | refine below_set ?_ GE181.out) | exact HB.out))) : w.heap.size ≤ gb194)); have n7_ := Aside0.mk ((by rw [hg]; exact (below_size (by repeat (first | (with_reducible first | exact HB.out | apply below_alloc | apply pw_below_drewN | apply below_drew1 | refine below_set ?_ GE181.out) | exact HB.out))) : w.heap.size ≤ gb194)); have n8_ := Aside0.mk ((by rw [hg]; exact Nat.ne_of_lt (blk_lt_u BK181.out) : gb181 ≠ gb194)); have n9_ := Aside0.mk ((by rw [hg]; exact Nat.ne_of_gt (blk_lt_u BK181.out) : gb194 ≠ gb181)); clear HO_7; clear HO_8; clear HO_9; clear BK181; clear HB; have HO_7 := n0_; have HO_8 := n1_; have HO_9 := n2_; have BK181 := n3_; have HB := n4_; have BK194 := n5_; have GW194 := n6_; have GE194 := n7_; have NB181_194 := n8_; have NB194_181 := n9_; clear n0_ n1_ n2_ n3_ n4_ n5_ n6_ n7_ n8_ n9_; clear hb hbox hg; have hnb22 := NB194_181.out; have hnc22 := NB181_194.out; obtain ⟨hcz23_0, hcz23_1, hcz23_2, hcz23_3⟩ := blk_c4 BK194.out; obtain ⟨hfz23_0, hfz23_1, hfz23_2, hfz23_3⟩ := blk_f4 BK194.out) | ((with_reducible refine gate_dst (N := 12) rfl ?_); refine box_event ?hg (N := 12) ?hd (cs := #[.int .i64 0, .int .i64 0, .int .i64 0, .int .i64 0]) (t := 34) ?hr ?_; (case hd => rfl); (case hg => rfl); (case hr => first | (go_simp; done) | (go_simp; rfl)); intro gb195 hg w24 hbox hb; have n0_ := Aside0.mk (Kd.R_below (by (with_reducible repeat (first | apply Kd.R_alloc | apply Kd.R_drewN | apply Kd.R_drew)); exact (Kd.R_mono (Kd.R_far (p := ⟨gb194, 3, none⟩) (Kd.R_far (p := ⟨gb194, 2, none⟩) (Kd.R_far (p := ⟨gb194, 1, none⟩) (Kd.R_far (p := ⟨gb194, 0, none⟩) (Kd.R_types HO_7.out BK194.out (by decide)) (fun _ hk => hk.2) (.int .i64 ((rd_T34 l0 (rd t182 x10_1)).f0))) (fun _ hk => hk.2) (.int .i64 ((rd_T34 l0 (rd t182 x10_1)).f1))) (fun _ hk => hk.2) (.int .i64 ((rd_T34 l0 (rd t182 x10_1)).f2))) (fun _ hk => hk.2) (.int .i64 ((rd_T34 l0 (rd t182 x10_1)).f3))) (fun _ h_ => h_.1))) hb); have n1_ := Aside0.mk (Kd.R_below (by (with_reducible repeat (first | apply Kd.R_alloc | apply Kd.R_drewN | apply Kd.R_drew)); exact (Kd.R_mono (Kd.R_far (p := ⟨gb194, 3, none⟩) (Kd.R_far (p := ⟨gb194, 2, none⟩) (Kd.R_far (p := ⟨gb194, 1, none⟩) (Kd.R_far (p := ⟨gb194, 0, none⟩) (Kd.R_types HO_8.out BK194.out (by decide)) (fun _ hk => hk.2) (.int .i64 ((rd_T34 l0 (rd t182 x10_1)).f0))) (fun _ hk => hk.2) (.int .i64 ((rd_T34 l0 (rd t182 x10_1)).f1))) (fun _ hk => hk.2) (.int .i64 ((rd_T34 l0 (rd t182 x10_1)).f2))) (fun _ hk => hk.2) (.int .i64 ((rd_T34 l0 (rd t182 x10_1)).f3))) (fun _ h_ => h_.1))) hb); have n2_ := Aside0.mk (Kd.R_below (Kd.R_elderB (by (with_reducible repeat (first | apply Kd.R_alloc | apply Kd.R_drewN | apply Kd.R_drew)); exact (Kd.R_mono (Kd.R_far (p := ⟨gb194, 3, none⟩) (Kd.R_far (p := ⟨gb194, 2, none⟩) (Kd.R_far (p := ⟨gb194, 1, none⟩) (Kd.R_far (p := ⟨gb194, 0, none⟩) (Kd.R_mono HO_9.out (fun k_ hk => (⟨hk, hk.2⟩ : _ ∧ k_ ≠ gb194))) (fun _ hk => hk.2) (.int .i64 ((rd_T34 l0 (rd t182 x10_1)).f0))) (fun _ hk => hk.2) (.int .i64 ((rd_T34 l0 (rd t182 x10_1)).f1))) (fun _ hk => hk.2) (.int .i64 ((rd_T34 l0 (rd t182 x10_1)).f2))) (fun _ hk => hk.2) (.int .i64 ((rd_T34 l0 (rd t182 x10_1)).f3))) (fun _ h_ => h_.1))) gb195 (Nat.le_of_eq hg.symm)) hb); have n3_ := Aside0.mk (blk_below (g := gb181) (o := .cells #[.int .i64 x182000_1, .int .i64 x182001_1, .slice none 0 0] 31 (0, 0)) (by (with_reducible repeat (first | refine blk_drewN ?_ _ | refine blk_drew ?_ | refine blk_alloc ?_ _)); refine blk_far ?_ NB181_194.out _; (with_reducible repeat (first | refine blk_drewN ?_ _ | refine blk_drew ?_ | refine blk_alloc ?_ _)); refine blk_far ?_ NB181_194.out _; (with_reducible repeat (first | refine blk_drewN ?_ _ | refine blk_drew ?_ | refine blk_alloc ?_ _)); refine blk_far ?_ NB181_194.out _; (with_reducible repeat (first | refine blk_drewN ?_ _ | refine blk_drew ?_ | refine blk_alloc ?_ _)); refine blk_far ?_ NB181_194.out _; (with_reducible repeat (first | refine blk_drewN ?_ _ | refine blk_drew ?_ | refine blk_alloc ?_ _)); exact BK181.out) hb); have n4_ := Aside0.mk (blk_below (g := gb194) (o := .cells #[.int .i64 ((rd_T34 l0 (rd t182 x10_1)).f0), .int .i64 ((rd_T34 l0 (rd t182 x10_1)).f1), .int .i64 ((rd_T34 l0 (rd t182 x10_1)).f2), .int .i64 ((rd_T34 l0 (rd t182 x10_1)).f3)] 34 (0, 0)) (by (with_reducible repeat (first | refine blk_drewN ?_ _ | refine blk_drew ?_ | refine blk_alloc ?_ _)); refine blk_put (cs := #[.int .i64 ((rd_T34 l0 (rd t182 x10_1)).f0), .int .i64 ((rd_T34 l0 (rd t182 x10_1)).f1), .int .i64 ((rd_T34 l0 (rd t182 x10_1)).f2), .int .i64 0]) ?_ 3 _ rfl; (with_reducible repeat (first | refine blk_drewN ?_ _ | refine blk_drew ?_ | refine blk_alloc ?_ _)); refine blk_put (cs := #[.int .i64 ((rd_T34 l0 (rd t182 x10_1)).f0), .int .i64 ((rd_T34 l0 (rd t182 x10_1)).f1), .int .i64 0, .int .i64 0]) ?_ 2 _ rfl; (with_reducible repeat (first | refine blk_drewN ?_ _ | refine blk_drew ?_ | refine blk_alloc ?_ _)); refine blk_put (cs := #[.int .i64 ((rd_T34 l0 (rd t182 x10_1)).f0), .int .i64 0, .int .i64 0, .int .i64 0]) ?_ 1 _ rfl; (with_reducible repeat (first | refine blk_drewN ?_ _ | refine blk_drew ?_ | refine blk_alloc ?_ _)); refine blk_put (cs := #[.int .i64 0, .int .i64 0, .int .i64 0, .int .i64 0]) ?_ 0 _ rfl; (with_reducible repeat (first | refine blk_drewN ?_ _ | refine blk_drew ?_ | refine blk_alloc ?_ _)); exact BK194.out) hb); have n5_ := Aside0.mk (below_step (by repeat (first | (with_reducible first | exact HB.out | apply below_alloc | apply pw_below_drewN | apply below_drew1 | refine below_set ?_ GE181.out | refine below_set ?_ GE194.out) | exact HB.out)) hb); have n6_ := Aside0.mk (hbox); have n7_ := Aside0.mk ((by rw [hg]; exact (below_size (by repeat (first | (with_reducible first | exact HB.out | apply below_alloc | apply pw_below_drewN | apply below_drew1 | refine below_set ?_ GE181.out | refine below_set ?_ GE194.out) | exact HB.out))) : w.heap.size ≤ gb195)); have n8_ := Aside0.mk ((by rw [hg]; exact (below_size (by repeat (first | (with_reducible first | exact HB.out | apply below_alloc | apply pw_below_drewN | apply below_drew1 | refine below_set ?_ GE181.out | refine below_set ?_ GE194.out) | exact HB.out))) : w.heap.size ≤ gb195)); have n9_ := Aside0.mk ((by rw [hg]; exact Nat.ne_of_lt (blk_lt (g := gb181) (o := .cells #[.int .i64 x182000_1, .int .i64 x182001_1, .slice none 0 0] 31 (0, 0)) (by (with_reducible repeat (first | refine blk_drewN ?_ _ | refine blk_drew ?_ | refine blk_alloc ?_ _)); refine blk_far ?_ NB181_194.out _; (with_reducible repeat (first | refine blk_drewN ?_ _ | refine blk_drew ?_ | refine blk_alloc ?_ _)); refine blk_far ?_ NB181_194.out _; (with_reducible repeat (first | refine blk_drewN ?_ _ | refine blk_drew ?_ | refine blk_alloc ?_ _)); refine blk_far ?_ NB181_194.out _; (with_reducible repeat (first | refine blk_drewN ?_ _ | refine blk_drew ?_ | refine blk_alloc ?_ _)); refine blk_far ?_ NB181_194.out _; (with_reducible repeat (first | refine blk_drewN ?_ _ | refine blk_drew ?_ | refine blk_alloc ?_ _)); exact BK181.out)) : gb181 ≠ gb195)); have n10_ := Aside0.mk ((by rw [hg]; exact Nat.ne_of_gt (blk_lt (g := gb181) (o := .cells #[.int .i64 x182000_1, .int .i64 x182001_1, .slice none 0 0] 31 (0, 0)) (by (with_reducible repeat (first | refine blk_drewN ?_ _ | refine blk_drew ?_ | refine blk_alloc ?_ _)); refine blk_far ?_ NB181_194.out _; (with_reducible repeat (first | refine blk_drewN ?_ _ | refine blk_drew ?_ | refine blk_alloc ?_ _)); refine blk_far ?_ NB181_194.out _; (with_reducible repeat (first | refine blk_drewN ?_ _ | refine blk_drew ?_ | refine blk_alloc ?_ _)); refine blk_far ?_ NB181_194.out _; (with_reducible repeat (first | refine blk_drewN ?_ _ | refine blk_drew ?_ | refine blk_alloc ?_ _)); refine blk_far ?_ NB181_194.out _; (with_reducible repeat (first | refine blk_drewN ?_ _ | refine blk_drew ?_ | refine blk_alloc ?_ _)); exact BK181.out)) : gb195 ≠ gb181)); have n11_ := Aside0.mk ((by rw [hg]; exact Nat.ne_of_lt (blk_lt (g := gb194) (o := .cells #[.int .i64 ((rd_T34 l0 (rd t182 x10_1)).f0), .int .i64 ((rd_T34 l0 (rd t182 x10_1)).f1), .int .i64 ((rd_T34 l0 (rd t182 x10_1)).f2), .int .i64 ((rd_T34 l0 (rd t182 x10_1)).f3)] 34 (0, 0)) (by (with_reducible repeat (first | refine blk_drewN ?_ _ | refine blk_drew ?_ | refine blk_alloc ?_ _)); refine blk_put (cs := #[.int .i64 ((rd_T34 l0 (rd t182 x10_1)).f0), .int .i64 ((rd_T34 l0 (rd t182 x10_1)).f1), .int .i64 ((rd_T34 l0 (rd t182 x10_1)).f2), .int .i64 0]) ?_ 3 _ rfl; (with_reducible repeat (first | refine blk_drewN ?_ _ | refine blk_drew ?_ | refine blk_alloc ?_ _)); refine blk_put (cs := #[.int .i64 ((rd_T34 l0 (rd t182 x10_1)).f0), .int .i64 ((rd_T34 l0 (rd t182 x10_1)).f1), .int .i64 0, .int .i64 0]) ?_ 2 _ rfl; (with_reducible repeat (first | refine blk_drewN ?_ _ | refine blk_drew ?_ | refine blk_alloc ?_ _)); refine blk_put (cs := #[.int .i64 ((rd_T34 l0 (rd t182 x10_1)).f0), .int .i64 0, .int .i64 0, .int .i64 0]) ?_ 1 _ rfl; (with_reducible repeat (first | refine blk_drewN ?_ _ | refine blk_drew ?_ | refine blk_alloc ?_ _)); refine blk_put (cs := #[.int .i64 0, .int .i64 0, .int .i64 0, .int .i64 0]) ?_ 0 _ rfl; (with_reducible repeat (first | refine blk_drewN ?_ _ | refine blk_drew ?_ | refine blk_alloc ?_ _)); exact BK194.out)) : gb194 ≠ gb195)); have n12_ := Aside0.mk ((by rw [hg]; exact Nat.ne_of_gt (blk_lt (g := gb194) (o := .cells #[.int .i64 ((rd_T34 l0 (rd t182 x10_1)).f0), .int .i64 ((rd_T34 l0 (rd t182 x10_1)).f1), .int .i64 ((rd_T34 l0 (rd t182 x10_1)).f2), .int .i64 ((rd_T34 l0 (rd t182 x10_1)).f3)] 34 (0, 0)) (by (with_reducible repeat (first | refine blk_drewN ?_ _ | refine blk_drew ?_ | refine blk_alloc ?_ _)); refine blk_put (cs := #[.int .i64 ((rd_T34 l0 (rd t182 x10_1)).f0), .int .i64 ((rd_T34 l0 (rd t182 x10_1)).f1), .int .i64 ((rd_T34 l0 (rd t182 x10_1)).f2), .int .i64 0]) ?_ 3 _ rfl; (with_reducible repeat (first | refine blk_drewN ?_ _ | refine blk_drew ?_ | refine blk_alloc ?_ _)); refine blk_put (cs := #[.int .i64 ((rd_T34 l0 (rd t182 x10_1)).f0), .int .i64 ((rd_T34 l0 (rd t182 x10_1)).f1), .int .i64 0, .int .i64 0]) ?_ 2 _ rfl; (with_reducible repeat (first | refine blk_drewN ?_ _ | refine blk_drew ?_ | refine blk_alloc ?_ _)); refine blk_put (cs := #[.int .i64 ((rd_T34 l0 (rd t182 x10_1)).f0), .int .i64 0, .int .i64 0, .int .i64 0]) ?_ 1 _ rfl; (with_reducible repeat (first | refine blk_drewN ?_ _ | refine blk_drew ?_ | refine blk_alloc ?_ _)); refine blk_put (cs := #[.int .i64 0, .int .i64 0, .int .i64 0, .int .i64 0]) ?_ 0 _ rfl; (with_reducible repeat (first | refine blk_drewN ?_ _ | refine blk_drew ?_ | refine blk_alloc ?_ _)); exact BK194.out)) : gb195 ≠ gb194)); clear HO_7; clear HO_8; clear HO_9; clear BK181; clear BK194; clear HB; have HO_7 := n0_; have HO_8 := n1_; have HO_9 := n2_; have BK181 := n3_; have BK194 := n4_; have HB := n5_; have BK195 := n6_; have GW195 := n7_; have GE195 := n8_; have NB181_195 := n9_; have NB195_181 := n10_; have NB194_195 := n11_; have NB195_194 := n12_; clear n0_ n1_ n2_ n3_ n4_ n5_ n6_ n7_ n8_ n9_ n10_ n11_ n12_; clear hb hbox hg; have hnb25 := NB195_181.out; have hnc25 := NB181_195.out; have hnb26 := NB195_194.out; have hnc26 := NB194_195.out; obtain ⟨hcz27_0, hcz27_1, hcz27_2, hcz27_3⟩ := blk_c4 BK195.out; obtain ⟨hfz27_0, hfz27_1, hfz27_2, hfz27_3⟩ := blk_f4 BK195.out; obtain ⟨hcz28_0, hcz28_1, hcz28_2, hcz28_3⟩ := blk_c4 BK194.out; obtain ⟨hfz28_0, hfz28_1, hfz28_2, hfz28_3⟩ := blk_f4 BK194.out) | ((with_reducible refine gate_callee (f := 19) rfl ?_); refine goesL_ (some 42) rfl rfl Try.func19 (by kernel_rfl) rfl #[.int .i64 ((rd_T34 l0 (rd t182 x10_1)).f0)] rfl (by (try simp only [List.map_toArray, List.map_cons, List.map_nil]); first | done | rfl | (simp only [List.length_drop, List.length_take]; rfl)) ?_; (with_reducible refine (spec_l5Kids.calls k1 ((rd_T34 l0 (rd t182 x10_1)).f0) t196 _ A18.out).mono ?_); rintro e w' ⟨rfl, ⟨nd, rfl⟩⟩; refine ⟨_, rfl, ?_⟩))
         (try simp only [Act.put, List.setIfInBounds_toArray, List.set_cons_zero, List.set_cons_succ])
         go_cut [] (fun wc => ∃ (kq : Nat) (x196001_18 : Int), Aside0 (spec_l5Move.j1 kq l0 a1 t182 x8_1 x9_1 x10_1 ((rd_T34 l0 (rd t182 x10_1)).f0) ((rd_T34 l0 (rd t182 x10_1)).f1) ((rd_T34 l0 (rd t182 x10_1)).f2) ((rd_T34 l0 (rd t182 x10_1)).f3) ((rd_T34 l0 (rd t182 x10_1)).f0) x196001_18 0 ((rd_T34 l0 (rd t182 x10_1)).f3) = some (r1, r2, r3)) ∧ Aside0 (kq ≤ k1) ∧ Aside0 (Kd.R (Kd.int .i64) 2 wc w.heap.size (fun k_ => some k_ ≠ (v186 : Value).ownBlock) (.slice (some ad192) t182.length co20) t182) ∧ Aside0 (Kd.R (Kd.int .i64) 2 wc w.heap.size (fun k_ => some k_ ≠ ((.slice (some ad192) t182.length co20) : Value).ownBlock) v186 x8_1) ∧ Aside0 (Kd.R k34 34 wc w.heap.size (fun k_ => k_ ≠ gb194 ∧ k_ ≠ gb195) u9 x9_1) ∧ Aside0 (wc.heap[gb181]? = some (.cells #[.int .i64 x182000_1, .int .i64 x182001_1, (.slice none 0 0)] 31 (0, 0))) ∧ Aside0 (wc.heap[gb194]? = some (.cells #[.int .i64 ((rd_T34 l0 (rd t182 x10_1)).f0), .int .i64 ((rd_T34 l0 (rd t182 x10_1)).f1), .int .i64 ((rd_T34 l0 (rd t182 x10_1)).f2), .int .i64 ((rd_T34 l0 (rd t182 x10_1)).f3)] 34 (0, 0))) ∧ Aside0 (wc.heap[gb195]? = some (.cells #[.int .i64 ((rd_T34 l0 (rd t182 x10_1)).f0), .int .i64 x196001_18, .int .i64 0, .int .i64 ((rd_T34 l0 (rd t182 x10_1)).f3)] 34 (0, 0))) ∧ Aside0 (Below w.heap.size w wc))
         case first =>
          have H := HC19.out
          clear HC19
          by_cases c29 : t196 > 0
          ·
           rw [if_pos c29] at H
           have c29b0 : decide (0 < t196) = true := decide_eq_true c29
           clear c29
           (first | rw [c29b0] | (simp only [i64_w, i32_w]; rw [c29b0]) | skip)
           by_cases c30 : 0 ≤ ((rd_T34 l0 (rd t182 x10_1)).f1)
           ·
            rw [if_pos c30] at H
            have c30b0 : decide (0 ≤ ((rd_T34 l0 (rd t182 x10_1)).f1)) = true := decide_eq_true c30
            clear c30
            by_cases c31 : ((rd_T34 l0 (rd t182 x10_1)).f1) < (x8_1.length : Int)
            ·
             rw [if_pos c31] at H
             have c31b0 : decide (((rd_T34 l0 (rd t182 x10_1)).f1) < (x8_1.length : Int)) = true := decide_eq_true c31
             clear c31
             have H' := Aside0.mk H
             clear H
             have hnb32 := NB194_181.out
             have hnc32 := NB181_194.out
             have hnb33 := NB194_195.out
             have hnc33 := NB195_194.out
             obtain ⟨hcz34_0, hcz34_1, hcz34_2, hcz34_3⟩ := blk_c4 BK194.out
             obtain ⟨hfz34_0, hfz34_1, hfz34_2, hfz34_3⟩ := blk_f4 BK194.out
             obtain ⟨Ao35, co35, eo35⟩ := Kd.R_slice HO_8.out
             subst eo35
             have p197 : 0 ≤ (((rd_T34 l0 (rd t182 x10_1)).f1) : Int) := of_decide_eq_true (by first | (with_reducible assumption) | assumption)
             have q197 : ((rd_T34 l0 (rd t182 x10_1)).f1) < (x8_1.length : Int) := of_decide_eq_true (by first | (with_reducible assumption) | assumption)
             obtain ⟨ad197, e197, hx197_0⟩ := Kd.at_int (Kd.R_reads' HO_8.out).2.2 ((rd_T34 l0 (rd t182 x10_1)).f1) p197 q197
             cases e197
             have hn197_0 : ad197.block ≠ gb195 := Kd.own_blk (Kd.R_ne HO_8.out BK195.out (by decide))
             have hn197_1 : ad197.block ≠ gb195 := Kd.own_blk (Kd.R_ne HO_8.out BK195.out (by decide))
             have hn197_2 : ad197.block ≠ gb195 := Kd.own_blk (Kd.R_ne HO_8.out BK195.out (by decide))
             have hn197_3 : ad197.block ≠ gb195 := Kd.own_blk (Kd.R_ne HO_8.out BK195.out (by decide))
             replace hx197_0 := (cell_far (p := ⟨gb195, 0, none⟩) (by first | (rw [add_block]; exact hn197_0) | (show (Addr.add _ _).block ≠ _; rw [add_block]; exact hn197_0) | exact hn197_0) (.int .i64 ((rd_T34 l0 (rd t182 x10_1)).f0))).trans hx197_0
             replace hx197_0 := (cell_far (p := ⟨gb195, 1, none⟩) (by first | (rw [add_block]; exact hn197_1) | (show (Addr.add _ _).block ≠ _; rw [add_block]; exact hn197_1) | exact hn197_1) (.int .i64 0)).trans hx197_0
             replace hx197_0 := (cell_far (p := ⟨gb195, 2, none⟩) (by first | (rw [add_block]; exact hn197_2) | (show (Addr.add _ _).block ≠ _; rw [add_block]; exact hn197_2) | exact hn197_2) (.int .i64 0)).trans hx197_0
             replace hx197_0 := (cell_far (p := ⟨gb195, 3, none⟩) (by first | (rw [add_block]; exact hn197_3) | (show (Addr.add _ _).block ≠ _; rw [add_block]; exact hn197_3) | exact hn197_3) (.int .i64 ((rd_T34 l0 (rd t182 x10_1)).f3))).trans hx197_0
             clear hn197_0
             clear hn197_1
             clear hn197_2
             clear hn197_3
             replace p197 := eq_true p197
             replace q197 := eq_true q197
             have hnb36 := NB195_181.out
             have hnc36 := NB181_195.out
             obtain ⟨hcz37_0, hcz37_1, hcz37_2, hcz37_3⟩ := blk_c4 BK195.out
             obtain ⟨hfz37_0, hfz37_1, hfz37_2, hfz37_3⟩ := blk_f4 BK195.out
             go_wp2
             go_meet
             case rel => exact ⟨_, (rd x8_1 ((rd_T34 l0 (rd t182 x10_1)).f1)), H', ⟨by have := HK1.out; first | omega | exact Nat.le_refl _⟩, ⟨by (with_reducible repeat (first | apply Kd.R_alloc | apply Kd.R_drewN | apply Kd.R_drew)); exact Kd.R_mono (Kd.R_far (p := ⟨gb195, 1, none⟩) (Kd.R_far (p := ⟨gb195, 3, none⟩) (Kd.R_far (p := ⟨gb195, 2, none⟩) (Kd.R_far (p := ⟨gb195, 1, none⟩) (Kd.R_far (p := ⟨gb195, 0, none⟩) (Kd.R_types HO_7.out BK195.out (by decide)) (fun _ hk => hk.2) (.int .i64 ((rd_T34 l0 (rd t182 x10_1)).f0))) (fun _ hk => hk.2) (.int .i64 0)) (fun _ hk => hk.2) (.int .i64 0)) (fun _ hk => hk.2) (.int .i64 ((rd_T34 l0 (rd t182 x10_1)).f3))) (fun _ hk => hk.2) (.int .i64 (rd x8_1 ((rd_T34 l0 (rd t182 x10_1)).f1)))) (fun _ hk => hk.1)⟩, ⟨by (with_reducible repeat (first | apply Kd.R_alloc | apply Kd.R_drewN | apply Kd.R_drew)); exact Kd.R_mono (Kd.R_far (p := ⟨gb195, 1, none⟩) (Kd.R_far (p := ⟨gb195, 3, none⟩) (Kd.R_far (p := ⟨gb195, 2, none⟩) (Kd.R_far (p := ⟨gb195, 1, none⟩) (Kd.R_far (p := ⟨gb195, 0, none⟩) (Kd.R_types HO_8.out BK195.out (by decide)) (fun _ hk => hk.2) (.int .i64 ((rd_T34 l0 (rd t182 x10_1)).f0))) (fun _ hk => hk.2) (.int .i64 0)) (fun _ hk => hk.2) (.int .i64 0)) (fun _ hk => hk.2) (.int .i64 ((rd_T34 l0 (rd t182 x10_1)).f3))) (fun _ hk => hk.2) (.int .i64 (rd x8_1 ((rd_T34 l0 (rd t182 x10_1)).f1)))) (fun _ hk => hk.1)⟩, ⟨by (with_reducible repeat (first | apply Kd.R_alloc | apply Kd.R_drewN | apply Kd.R_drew)); exact Kd.R_mono (Kd.R_far (p := ⟨gb195, 1, none⟩) (Kd.R_far (p := ⟨gb195, 3, none⟩) (Kd.R_far (p := ⟨gb195, 2, none⟩) (Kd.R_far (p := ⟨gb195, 1, none⟩) (Kd.R_far (p := ⟨gb195, 0, none⟩) (Kd.R_mono HO_9.out (fun k_ hk => (⟨hk, hk.2⟩ : _ ∧ k_ ≠ gb195))) (fun _ hk => hk.2) (.int .i64 ((rd_T34 l0 (rd t182 x10_1)).f0))) (fun _ hk => hk.2) (.int .i64 0)) (fun _ hk => hk.2) (.int .i64 0)) (fun _ hk => hk.2) (.int .i64 ((rd_T34 l0 (rd t182 x10_1)).f3))) (fun _ hk => hk.2) (.int .i64 (rd x8_1 ((rd_T34 l0 (rd t182 x10_1)).f1)))) (fun _ hk => ⟨hk.1.1.2, hk.1.2⟩)⟩, ⟨by (with_reducible repeat (first | refine blk_drewN ?_ _ | refine blk_drew ?_ | refine blk_alloc ?_ _)); refine blk_far ?_ NB181_195.out _; (with_reducible repeat (first | refine blk_drewN ?_ _ | refine blk_drew ?_ | refine blk_alloc ?_ _)); refine blk_far ?_ NB181_195.out _; (with_reducible repeat (first | refine blk_drewN ?_ _ | refine blk_drew ?_ | refine blk_alloc ?_ _)); refine blk_far ?_ NB181_195.out _; (with_reducible repeat (first | refine blk_drewN ?_ _ | refine blk_drew ?_ | refine blk_alloc ?_ _)); refine blk_far ?_ NB181_195.out _; (with_reducible repeat (first | refine blk_drewN ?_ _ | refine blk_drew ?_ | refine blk_alloc ?_ _)); refine blk_far ?_ NB181_195.out _; (with_reducible repeat (first | refine blk_drewN ?_ _ | refine blk_drew ?_ | refine blk_alloc ?_ _)); exact BK181.out⟩, ⟨by (with_reducible repeat (first | refine blk_drewN ?_ _ | refine blk_drew ?_ | refine blk_alloc ?_ _)); refine blk_far ?_ NB194_195.out _; (with_reducible repeat (first | refine blk_drewN ?_ _ | refine blk_drew ?_ | refine blk_alloc ?_ _)); refine blk_far ?_ NB194_195.out _; (with_reducible repeat (first | refine blk_drewN ?_ _ | refine blk_drew ?_ | refine blk_alloc ?_ _)); refine blk_far ?_ NB194_195.out _; (with_reducible repeat (first | refine blk_drewN ?_ _ | refine blk_drew ?_ | refine blk_alloc ?_ _)); refine blk_far ?_ NB194_195.out _; (with_reducible repeat (first | refine blk_drewN ?_ _ | refine blk_drew ?_ | refine blk_alloc ?_ _)); refine blk_far ?_ NB194_195.out _; (with_reducible repeat (first | refine blk_drewN ?_ _ | refine blk_drew ?_ | refine blk_alloc ?_ _)); exact BK194.out⟩, ⟨by (with_reducible repeat (first | refine blk_drewN ?_ _ | refine blk_drew ?_ | refine blk_alloc ?_ _)); refine blk_put (cs := #[.int .i64 ((rd_T34 l0 (rd t182 x10_1)).f0), .int .i64 0, .int .i64 0, .int .i64 ((rd_T34 l0 (rd t182 x10_1)).f3)]) ?_ 1 _ rfl; (with_reducible repeat (first | refine blk_drewN ?_ _ | refine blk_drew ?_ | refine blk_alloc ?_ _)); refine blk_put (cs := #[.int .i64 ((rd_T34 l0 (rd t182 x10_1)).f0), .int .i64 0, .int .i64 0, .int .i64 0]) ?_ 3 _ rfl; (with_reducible repeat (first | refine blk_drewN ?_ _ | refine blk_drew ?_ | refine blk_alloc ?_ _)); refine blk_put (cs := #[.int .i64 ((rd_T34 l0 (rd t182 x10_1)).f0), .int .i64 0, .int .i64 0, .int .i64 0]) ?_ 2 _ rfl; (with_reducible repeat (first | refine blk_drewN ?_ _ | refine blk_drew ?_ | refine blk_alloc ?_ _)); refine blk_put (cs := #[.int .i64 ((rd_T34 l0 (rd t182 x10_1)).f0), .int .i64 0, .int .i64 0, .int .i64 0]) ?_ 1 _ rfl; (with_reducible repeat (first | refine blk_drewN ?_ _ | refine blk_drew ?_ | refine blk_alloc ?_ _)); refine blk_put (cs := #[.int .i64 0, .int .i64 0, .int .i64 0, .int .i64 0]) ?_ 0 _ rfl; (with_reducible repeat (first | refine blk_drewN ?_ _ | refine blk_drew ?_ | refine blk_alloc ?_ _)); exact BK195.out⟩, ⟨by repeat (first | (with_reducible first | exact HB.out | apply below_alloc | apply pw_below_drewN | apply below_drew1 | refine below_set ?_ GE181.out | refine below_set ?_ GE194.out | refine below_set ?_ GE195.out) | exact HB.out)⟩⟩
            ·
             rw [if_neg c31] at H
             exact absurd H (by simp)
           ·
            rw [if_neg c30] at H
            exact absurd H (by simp)
          ·
           rw [if_neg c29] at H
           have c29b0 : decide (0 < t196) = false := decide_eq_false c29
           clear c29
           (first | rw [c29b0] | (simp only [i64_w, i32_w]; rw [c29b0]) | skip)
           have H' := Aside0.mk H
           clear H
           go_wp2
           go_meet
           case rel => exact ⟨_, (0), H', ⟨by have := HK1.out; first | omega | exact Nat.le_refl _⟩, ⟨by (with_reducible repeat (first | apply Kd.R_alloc | apply Kd.R_drewN | apply Kd.R_drew)); exact Kd.R_mono (Kd.R_far (p := ⟨gb195, 3, none⟩) (Kd.R_far (p := ⟨gb195, 2, none⟩) (Kd.R_far (p := ⟨gb195, 1, none⟩) (Kd.R_far (p := ⟨gb195, 0, none⟩) (Kd.R_types HO_7.out BK195.out (by decide)) (fun _ hk => hk.2) (.int .i64 ((rd_T34 l0 (rd t182 x10_1)).f0))) (fun _ hk => hk.2) (.int .i64 0)) (fun _ hk => hk.2) (.int .i64 0)) (fun _ hk => hk.2) (.int .i64 ((rd_T34 l0 (rd t182 x10_1)).f3))) (fun _ hk => hk.1)⟩, ⟨by (with_reducible repeat (first | apply Kd.R_alloc | apply Kd.R_drewN | apply Kd.R_drew)); exact Kd.R_mono (Kd.R_far (p := ⟨gb195, 3, none⟩) (Kd.R_far (p := ⟨gb195, 2, none⟩) (Kd.R_far (p := ⟨gb195, 1, none⟩) (Kd.R_far (p := ⟨gb195, 0, none⟩) (Kd.R_types HO_8.out BK195.out (by decide)) (fun _ hk => hk.2) (.int .i64 ((rd_T34 l0 (rd t182 x10_1)).f0))) (fun _ hk => hk.2) (.int .i64 0)) (fun _ hk => hk.2) (.int .i64 0)) (fun _ hk => hk.2) (.int .i64 ((rd_T34 l0 (rd t182 x10_1)).f3))) (fun _ hk => hk.1)⟩, ⟨by (with_reducible repeat (first | apply Kd.R_alloc | apply Kd.R_drewN | apply Kd.R_drew)); exact Kd.R_mono (Kd.R_far (p := ⟨gb195, 3, none⟩) (Kd.R_far (p := ⟨gb195, 2, none⟩) (Kd.R_far (p := ⟨gb195, 1, none⟩) (Kd.R_far (p := ⟨gb195, 0, none⟩) (Kd.R_mono HO_9.out (fun k_ hk => (⟨hk, hk.2⟩ : _ ∧ k_ ≠ gb195))) (fun _ hk => hk.2) (.int .i64 ((rd_T34 l0 (rd t182 x10_1)).f0))) (fun _ hk => hk.2) (.int .i64 0)) (fun _ hk => hk.2) (.int .i64 0)) (fun _ hk => hk.2) (.int .i64 ((rd_T34 l0 (rd t182 x10_1)).f3))) (fun _ hk => ⟨hk.1.1.2, hk.1.2⟩)⟩, ⟨by (with_reducible repeat (first | refine blk_drewN ?_ _ | refine blk_drew ?_ | refine blk_alloc ?_ _)); refine blk_far ?_ NB181_195.out _; (with_reducible repeat (first | refine blk_drewN ?_ _ | refine blk_drew ?_ | refine blk_alloc ?_ _)); refine blk_far ?_ NB181_195.out _; (with_reducible repeat (first | refine blk_drewN ?_ _ | refine blk_drew ?_ | refine blk_alloc ?_ _)); refine blk_far ?_ NB181_195.out _; (with_reducible repeat (first | refine blk_drewN ?_ _ | refine blk_drew ?_ | refine blk_alloc ?_ _)); refine blk_far ?_ NB181_195.out _; (with_reducible repeat (first | refine blk_drewN ?_ _ | refine blk_drew ?_ | refine blk_alloc ?_ _)); exact BK181.out⟩, ⟨by (with_reducible repeat (first | refine blk_drewN ?_ _ | refine blk_drew ?_ | refine blk_alloc ?_ _)); refine blk_far ?_ NB194_195.out _; (with_reducible repeat (first | refine blk_drewN ?_ _ | refine blk_drew ?_ | refine blk_alloc ?_ _)); refine blk_far ?_ NB194_195.out _; (with_reducible repeat (first | refine blk_drewN ?_ _ | refine blk_drew ?_ | refine blk_alloc ?_ _)); refine blk_far ?_ NB194_195.out _; (with_reducible repeat (first | refine blk_drewN ?_ _ | refine blk_drew ?_ | refine blk_alloc ?_ _)); refine blk_far ?_ NB194_195.out _; (with_reducible repeat (first | refine blk_drewN ?_ _ | refine blk_drew ?_ | refine blk_alloc ?_ _)); exact BK194.out⟩, ⟨by (with_reducible repeat (first | refine blk_drewN ?_ _ | refine blk_drew ?_ | refine blk_alloc ?_ _)); refine blk_put (cs := #[.int .i64 ((rd_T34 l0 (rd t182 x10_1)).f0), .int .i64 0, .int .i64 0, .int .i64 0]) ?_ 3 _ rfl; (with_reducible repeat (first | refine blk_drewN ?_ _ | refine blk_drew ?_ | refine blk_alloc ?_ _)); refine blk_put (cs := #[.int .i64 ((rd_T34 l0 (rd t182 x10_1)).f0), .int .i64 0, .int .i64 0, .int .i64 0]) ?_ 2 _ rfl; (with_reducible repeat (first | refine blk_drewN ?_ _ | refine blk_drew ?_ | refine blk_alloc ?_ _)); refine blk_put (cs := #[.int .i64 ((rd_T34 l0 (rd t182 x10_1)).f0), .int .i64 0, .int .i64 0, .int .i64 0]) ?_ 1 _ rfl; (with_reducible repeat (first | refine blk_drewN ?_ _ | refine blk_drew ?_ | refine blk_alloc ?_ _)); refine blk_put (cs := #[.int .i64 0, .int .i64 0, .int .i64 0, .int .i64 0]) ?_ 0 _ rfl; (with_reducible repeat (first | refine blk_drewN ?_ _ | refine blk_drew ?_ | refine blk_alloc ?_ _)); exact BK195.out⟩, ⟨by repeat (first | (with_reducible first | exact HB.out | apply below_alloc | apply pw_below_drewN | apply below_drew1 | refine below_set ?_ GE181.out | refine below_set ?_ GE194.out | refine below_set ?_ GE195.out) | exact HB.out)⟩⟩
         case rest =>
          clear HC19
          try clear c1; try clear p1; try clear q1; try clear hx1; try clear c2; try clear p2; try clear c3; try clear c6; try clear c6b0; try clear c6b1; try clear p6; try clear c7; try clear c7b0; try clear c7b1; try clear c10; try clear c14; try clear c14b0; try clear c15; try clear c15b0; try clear c16; try clear c16b0; try clear c17; try clear c17b0; try clear c18; try clear c19; try clear p19; try clear q19; try clear hx19; try clear c22; try clear c25; try clear c26; try clear c29; try clear c29b0; try clear c30; try clear c30b0; try clear c31; try clear c31b0; try clear c32; try clear c33; try clear c36; try clear hcz23_0; try clear hcz23_1; try clear hcz23_2; try clear hcz23_3; try clear hcz27_0; try clear hcz27_1; try clear hcz27_2; try clear hcz27_3; try clear hcz28_0; try clear hcz28_1; try clear hcz28_2; try clear hcz28_3; try clear hcz34_0; try clear hcz34_1; try clear hcz34_2; try clear hcz34_3; try clear hcz37_0; try clear hcz37_1; try clear hcz37_2; try clear hcz37_3; try clear hfz23_0; try clear hfz23_1; try clear hfz23_2; try clear hfz23_3; try clear hfz27_0; try clear hfz27_1; try clear hfz27_2; try clear hfz27_3; try clear hfz28_0; try clear hfz28_1; try clear hfz28_2; try clear hfz28_3; try clear hfz34_0; try clear hfz34_1; try clear hfz34_2; try clear hfz34_3; try clear hfz37_0; try clear hfz37_1; try clear hfz37_2; try clear hfz37_3; try clear hx192_0; try clear hx193_0; try clear hx193_1; try clear hx193_2; try clear hx193_3; try clear hx197_0; try clear p192; try clear p193; try clear p197; try clear p2; try clear p6; try clear q192; try clear q193; try clear q197
          obtain ⟨kq, x196001_18, HA, HJ18, HO_7, HO_8, HO_9, BK181, BK194, BK195, HB⟩ := hcut
          cases kq with
          | zero => exact absurd HA.out (by simp [spec_l5Move.j1])
          | succ kj18 =>
           have H := HA.out
           clear HA
           simp only [spec_l5Move.j1] at H
           replace H := Option.bind_eq_some_iff.mp H
           obtain ⟨t198, A380, H⟩ := H
           replace H : (if t198 > 1 then (if 0 ≤ ((rd_T34 l0 (rd t182 x10_1)).f2) then (if ((rd_T34 l0 (rd t182 x10_1)).f2) < (x8_1.length : Int) then (spec_l5Move.j2 kj18 l0 a1 t182 x8_1 x9_1 x10_1 ((rd_T34 l0 (rd t182 x10_1)).f0) ((rd_T34 l0 (rd t182 x10_1)).f1) ((rd_T34 l0 (rd t182 x10_1)).f2) ((rd_T34 l0 (rd t182 x10_1)).f3) ((rd_T34 l0 (rd t182 x10_1)).f0) x196001_18 (rd x8_1 ((rd_T34 l0 (rd t182 x10_1)).f2)) ((rd_T34 l0 (rd t182 x10_1)).f3)) else (none)) else (none)) else (spec_l5Move.j2 kj18 l0 a1 t182 x8_1 x9_1 x10_1 ((rd_T34 l0 (rd t182 x10_1)).f0) ((rd_T34 l0 (rd t182 x10_1)).f1) ((rd_T34 l0 (rd t182 x10_1)).f2) ((rd_T34 l0 (rd t182 x10_1)).f3) ((rd_T34 l0 (rd t182 x10_1)).f0) x196001_18 0 ((rd_T34 l0 (rd t182 x10_1)).f3))) = some (r1, r2, r3) := H
           have A38 := Aside0.mk A380
           clear A380
           have HC39 := Aside0.mk H
           clear H
           have hnb40 := NB194_181.out
           have hnc40 := NB181_194.out
           have hnb41 := NB194_195.out
           have hnc41 := NB195_194.out
           obtain ⟨hcz42_0, hcz42_1, hcz42_2, hcz42_3⟩ := blk_c4 BK194.out
           obtain ⟨hfz42_0, hfz42_1, hfz42_2, hfz42_3⟩ := blk_f4 BK194.out
           go_upto_if 53 with (first | ((with_reducible refine gate_callee (f := 19) rfl ?_); refine goesL_ (some 52) rfl rfl Try.func19 (by kernel_rfl) rfl #[.int .i64 ((rd_T34 l0 (rd t182 x10_1)).f0)] rfl (by (try simp only [List.map_toArray, List.map_cons, List.map_nil]); first | done | rfl | (simp only [List.length_drop, List.length_take]; rfl)) ?_; (with_reducible refine (spec_l5Kids.calls kj18 ((rd_T34 l0 (rd t182 x10_1)).f0) t198 _ A38.out).mono ?_); rintro e w' ⟨rfl, ⟨nd, rfl⟩⟩; refine ⟨_, rfl, ?_⟩))
           (try simp only [Act.put, List.setIfInBounds_toArray, List.set_cons_zero, List.set_cons_succ])
           go_cut [] (fun wc => ∃ (kq : Nat) (x196002_38 : Int), Aside0 (spec_l5Move.j2 kq l0 a1 t182 x8_1 x9_1 x10_1 ((rd_T34 l0 (rd t182 x10_1)).f0) ((rd_T34 l0 (rd t182 x10_1)).f1) ((rd_T34 l0 (rd t182 x10_1)).f2) ((rd_T34 l0 (rd t182 x10_1)).f3) ((rd_T34 l0 (rd t182 x10_1)).f0) x196001_18 x196002_38 ((rd_T34 l0 (rd t182 x10_1)).f3) = some (r1, r2, r3)) ∧ Aside0 (kq ≤ kj18) ∧ Aside0 (Kd.R (Kd.int .i64) 2 wc w.heap.size (fun k_ => some k_ ≠ (v186 : Value).ownBlock) (.slice (some ad192) t182.length co20) t182) ∧ Aside0 (Kd.R (Kd.int .i64) 2 wc w.heap.size (fun k_ => some k_ ≠ ((.slice (some ad192) t182.length co20) : Value).ownBlock) v186 x8_1) ∧ Aside0 (Kd.R k34 34 wc w.heap.size (fun k_ => k_ ≠ gb194 ∧ k_ ≠ gb195) u9 x9_1) ∧ Aside0 (wc.heap[gb181]? = some (.cells #[.int .i64 x182000_1, .int .i64 x182001_1, (.slice none 0 0)] 31 (0, 0))) ∧ Aside0 (wc.heap[gb194]? = some (.cells #[.int .i64 ((rd_T34 l0 (rd t182 x10_1)).f0), .int .i64 ((rd_T34 l0 (rd t182 x10_1)).f1), .int .i64 ((rd_T34 l0 (rd t182 x10_1)).f2), .int .i64 ((rd_T34 l0 (rd t182 x10_1)).f3)] 34 (0, 0))) ∧ Aside0 (wc.heap[gb195]? = some (.cells #[.int .i64 ((rd_T34 l0 (rd t182 x10_1)).f0), .int .i64 x196001_18, .int .i64 x196002_38, .int .i64 ((rd_T34 l0 (rd t182 x10_1)).f3)] 34 (0, 0))) ∧ Aside0 (Below w.heap.size w wc))
           case first =>
            have H := HC39.out
            clear HC39
            by_cases c43 : t198 > 1
            ·
             rw [if_pos c43] at H
             have c43b0 : decide (1 < t198) = true := decide_eq_true c43
             clear c43
             (first | rw [c43b0] | (simp only [i64_w, i32_w]; rw [c43b0]) | skip)
             by_cases c44 : 0 ≤ ((rd_T34 l0 (rd t182 x10_1)).f2)
             ·
              rw [if_pos c44] at H
              have c44b0 : decide (0 ≤ ((rd_T34 l0 (rd t182 x10_1)).f2)) = true := decide_eq_true c44
              clear c44
              by_cases c45 : ((rd_T34 l0 (rd t182 x10_1)).f2) < (x8_1.length : Int)
              ·
               rw [if_pos c45] at H
               have c45b0 : decide (((rd_T34 l0 (rd t182 x10_1)).f2) < (x8_1.length : Int)) = true := decide_eq_true c45
               clear c45
               have H' := Aside0.mk H
               clear H
               have hnb46 := NB194_181.out
               have hnc46 := NB181_194.out
               have hnb47 := NB194_195.out
               have hnc47 := NB195_194.out
               obtain ⟨hcz48_0, hcz48_1, hcz48_2, hcz48_3⟩ := blk_c4 BK194.out
               obtain ⟨hfz48_0, hfz48_1, hfz48_2, hfz48_3⟩ := blk_f4 BK194.out
               obtain ⟨Ao49, co49, eo49⟩ := Kd.R_slice HO_8.out
               subst eo49
               have p199 : 0 ≤ (((rd_T34 l0 (rd t182 x10_1)).f2) : Int) := of_decide_eq_true (by first | (with_reducible assumption) | assumption)
               have q199 : ((rd_T34 l0 (rd t182 x10_1)).f2) < (x8_1.length : Int) := of_decide_eq_true (by first | (with_reducible assumption) | assumption)
               obtain ⟨ad199, e199, hx199_0⟩ := Kd.at_int (Kd.R_reads' HO_8.out).2.2 ((rd_T34 l0 (rd t182 x10_1)).f2) p199 q199
               cases e199
               replace p199 := eq_true p199
               replace q199 := eq_true q199
               have hnb50 := NB195_181.out
               have hnc50 := NB181_195.out
               obtain ⟨hcz51_0, hcz51_1, hcz51_2, hcz51_3⟩ := blk_c4 BK195.out
               obtain ⟨hfz51_0, hfz51_1, hfz51_2, hfz51_3⟩ := blk_f4 BK195.out
               go_wp2
               go_meet
               case rel => exact ⟨_, (rd x8_1 ((rd_T34 l0 (rd t182 x10_1)).f2)), H', ⟨by have := HK1.out; have := HJ18.out; first | omega | exact Nat.le_refl _⟩, ⟨by (with_reducible repeat (first | apply Kd.R_alloc | apply Kd.R_drewN | apply Kd.R_drew)); exact Kd.R_mono (Kd.R_far (p := ⟨gb195, 2, none⟩) (Kd.R_types HO_7.out BK195.out (by decide)) (fun _ hk => hk.2) (.int .i64 (rd x8_1 ((rd_T34 l0 (rd t182 x10_1)).f2)))) (fun _ hk => hk.1)⟩, ⟨by (with_reducible repeat (first | apply Kd.R_alloc | apply Kd.R_drewN | apply Kd.R_drew)); exact Kd.R_mono (Kd.R_far (p := ⟨gb195, 2, none⟩) (Kd.R_types HO_8.out BK195.out (by decide)) (fun _ hk => hk.2) (.int .i64 (rd x8_1 ((rd_T34 l0 (rd t182 x10_1)).f2)))) (fun _ hk => hk.1)⟩, ⟨by (with_reducible repeat (first | apply Kd.R_alloc | apply Kd.R_drewN | apply Kd.R_drew)); exact Kd.R_mono (Kd.R_far (p := ⟨gb195, 2, none⟩) (Kd.R_mono HO_9.out (fun k_ hk => (⟨hk, hk.2⟩ : _ ∧ k_ ≠ gb195))) (fun _ hk => hk.2) (.int .i64 (rd x8_1 ((rd_T34 l0 (rd t182 x10_1)).f2)))) (fun _ hk => ⟨hk.1.1, hk.1.2⟩)⟩, ⟨by (with_reducible repeat (first | refine blk_drewN ?_ _ | refine blk_drew ?_ | refine blk_alloc ?_ _)); refine blk_far ?_ NB181_195.out _; (with_reducible repeat (first | refine blk_drewN ?_ _ | refine blk_drew ?_ | refine blk_alloc ?_ _)); exact BK181.out⟩, ⟨by (with_reducible repeat (first | refine blk_drewN ?_ _ | refine blk_drew ?_ | refine blk_alloc ?_ _)); refine blk_far ?_ NB194_195.out _; (with_reducible repeat (first | refine blk_drewN ?_ _ | refine blk_drew ?_ | refine blk_alloc ?_ _)); exact BK194.out⟩, ⟨by (with_reducible repeat (first | refine blk_drewN ?_ _ | refine blk_drew ?_ | refine blk_alloc ?_ _)); refine blk_put (cs := #[.int .i64 ((rd_T34 l0 (rd t182 x10_1)).f0), .int .i64 x196001_18, .int .i64 0, .int .i64 ((rd_T34 l0 (rd t182 x10_1)).f3)]) ?_ 2 _ rfl; (with_reducible repeat (first | refine blk_drewN ?_ _ | refine blk_drew ?_ | refine blk_alloc ?_ _)); exact BK195.out⟩, ⟨by repeat (first | (with_reducible first | exact HB.out | apply below_alloc | apply pw_below_drewN | apply below_drew1 | refine below_set ?_ GE181.out | refine below_set ?_ GE194.out | refine below_set ?_ GE195.out) | exact HB.out)⟩⟩
              ·
               rw [if_neg c45] at H
               exact absurd H (by simp)
             ·
              rw [if_neg c44] at H
              exact absurd H (by simp)
            ·
             rw [if_neg c43] at H
             have c43b0 : decide (1 < t198) = false := decide_eq_false c43
             clear c43
             (first | rw [c43b0] | (simp only [i64_w, i32_w]; rw [c43b0]) | skip)
             have H' := Aside0.mk H
             clear H
             go_wp2
             go_meet
             case rel => exact ⟨_, (0), H', ⟨by have := HK1.out; have := HJ18.out; first | omega | exact Nat.le_refl _⟩, ⟨by (with_reducible repeat (first | apply Kd.R_alloc | apply Kd.R_drewN | apply Kd.R_drew)); exact HO_7.out⟩, ⟨by (with_reducible repeat (first | apply Kd.R_alloc | apply Kd.R_drewN | apply Kd.R_drew)); exact HO_8.out⟩, ⟨by (with_reducible repeat (first | apply Kd.R_alloc | apply Kd.R_drewN | apply Kd.R_drew)); exact HO_9.out⟩, ⟨by (with_reducible repeat (first | refine blk_drewN ?_ _ | refine blk_drew ?_ | refine blk_alloc ?_ _)); exact BK181.out⟩, ⟨by (with_reducible repeat (first | refine blk_drewN ?_ _ | refine blk_drew ?_ | refine blk_alloc ?_ _)); exact BK194.out⟩, ⟨by (with_reducible repeat (first | refine blk_drewN ?_ _ | refine blk_drew ?_ | refine blk_alloc ?_ _)); exact BK195.out⟩, ⟨by repeat (first | (with_reducible first | exact HB.out | apply below_alloc | apply pw_below_drewN | apply below_drew1 | refine below_set ?_ GE181.out | refine below_set ?_ GE194.out | refine below_set ?_ GE195.out) | exact HB.out)⟩⟩
           case rest =>
            clear HC39
            try clear c1; try clear p1; try clear q1; try clear hx1; try clear c2; try clear p2; try clear c3; try clear c4; try clear c5; try clear c6; try clear c6b0; try clear c6b1; try clear p6; try clear c7; try clear c7b0; try clear c7b1; try clear c10; try clear c14; try clear c14b0; try clear c15; try clear c15b0; try clear c16; try clear c16b0; try clear c17; try clear c17b0; try clear c18; try clear c19; try clear p19; try clear q19; try clear hx19; try clear c22; try clear c25; try clear c26; try clear c29; try clear c29b0; try clear c30; try clear c30b0; try clear c31; try clear c31b0; try clear c32; try clear c33; try clear c36; try clear c40; try clear c41; try clear c43; try clear c43b0; try clear c44; try clear c44b0; try clear c45; try clear c45b0; try clear c46; try clear c47; try clear c50; try clear hcz23_0; try clear hcz23_1; try clear hcz23_2; try clear hcz23_3; try clear hcz27_0; try clear hcz27_1; try clear hcz27_2; try clear hcz27_3; try clear hcz28_0; try clear hcz28_1; try clear hcz28_2; try clear hcz28_3; try clear hcz34_0; try clear hcz34_1; try clear hcz34_2; try clear hcz34_3; try clear hcz37_0; try clear hcz37_1; try clear hcz37_2; try clear hcz37_3; try clear hcz42_0; try clear hcz42_1; try clear hcz42_2; try clear hcz42_3; try clear hcz48_0; try clear hcz48_1; try clear hcz48_2; try clear hcz48_3; try clear hcz51_0; try clear hcz51_1; try clear hcz51_2; try clear hcz51_3; try clear hfz23_0; try clear hfz23_1; try clear hfz23_2; try clear hfz23_3; try clear hfz27_0; try clear hfz27_1; try clear hfz27_2; try clear hfz27_3; try clear hfz28_0; try clear hfz28_1; try clear hfz28_2; try clear hfz28_3; try clear hfz34_0; try clear hfz34_1; try clear hfz34_2; try clear hfz34_3; try clear hfz37_0; try clear hfz37_1; try clear hfz37_2; try clear hfz37_3; try clear hfz42_0; try clear hfz42_1; try clear hfz42_2; try clear hfz42_3; try clear hfz48_0; try clear hfz48_1; try clear hfz48_2; try clear hfz48_3; try clear hfz51_0; try clear hfz51_1; try clear hfz51_2; try clear hfz51_3; try clear hx192_0; try clear hx193_0; try clear hx193_1; try clear hx193_2; try clear hx193_3; try clear hx197_0; try clear hx199_0; try clear p1; try clear p19; try clear p192; try clear p193; try clear p197; try clear p199; try clear p2; try clear p6; try clear q1; try clear q19; try clear q192; try clear q193; try clear q197; try clear q199
            obtain ⟨kq, x196002_38, HA, HJ38, HO_7, HO_8, HO_9, BK181, BK194, BK195, HB⟩ := hcut
            cases kq with
            | zero => exact absurd HA.out (by simp [spec_l5Move.j2])
            | succ kj38 =>
             have H := HA.out
             clear HA
             simp only [spec_l5Move.j2] at H
             replace H := Option.bind_eq_some_iff.mp H
             obtain ⟨⟨t200, t201, t202⟩, A520, H⟩ := H
             replace H : (if ((rd_T34 l0 (rd t182 x10_1)).f0) = 7 then ((spec_l5Both.f kj38 x9_1 x196001_18 x196002_38).bind fun bt206 => (if bt206.1 = 0 then (if 0 ≤ x10_1 then (if x10_1 < (t182.length : Int) then (if 0 ≤ (rd t182 x10_1) then (if (rd t182 x10_1) < (x8_1.length : Int) then (spec_l5Move.l0 kj38 l0 a1 t182 (x8_1.set ((rd t182 x10_1) : Int).toNat bt206.2.1) bt206.2.2 (wrap64 (x10_1 + 1))) else (none)) else (none)) else (none)) else (none)) else (some (bt206.1, 0, ([] : List (S34)))))) else (if t200 = 0 then (if 0 ≤ x10_1 then (if x10_1 < (t182.length : Int) then (if 0 ≤ (rd t182 x10_1) then (if (rd t182 x10_1) < (x8_1.length : Int) then (spec_l5Move.l0 kj38 l0 a1 t182 (x8_1.set ((rd t182 x10_1) : Int).toNat t201) t202 (wrap64 (x10_1 + 1))) else (none)) else (none)) else (none)) else (none)) else (some (t200, 0, ([] : List (S34)))))) = some (r1, r2, r3) := H
             have A52 := Aside0.mk A520
             clear A520
             by_cases c53 : ((rd_T34 l0 (rd t182 x10_1)).f0) = 7
             ·
              rw [if_pos c53] at H
              have c53b0 : (((rd_T34 l0 (rd t182 x10_1)).f0) == 7) = true := beq_iff_eq.mpr c53
              have c53b1 : (((rd_T34 l0 (rd t182 x10_1)).f0) != 7) = false := bne_eq_false_iff_eq.mpr c53
              clear c53
              replace H := Option.bind_eq_some_iff.mp H
              obtain ⟨⟨t206, t207, t208⟩, A540, H⟩ := H
              replace H : (if t206 = 0 then (if 0 ≤ x10_1 then (if x10_1 < (t182.length : Int) then (if 0 ≤ (rd t182 x10_1) then (if (rd t182 x10_1) < (x8_1.length : Int) then (spec_l5Move.l0 kj38 l0 a1 t182 (x8_1.set ((rd t182 x10_1) : Int).toNat t207) t208 (wrap64 (x10_1 + 1))) else (none)) else (none)) else (none)) else (none)) else (some (t206, 0, ([] : List (S34))))) = some (r1, r2, r3) := H
              have A54 := Aside0.mk A540
              clear A540
              by_cases c55 : t206 = 0
              ·
               rw [if_pos c55] at H
               have c55b0 : (t206 == 0) = true := beq_iff_eq.mpr c55
               have c55b1 : (t206 != 0) = false := bne_eq_false_iff_eq.mpr c55
               clear c55
               by_cases c56 : 0 ≤ x10_1
               ·
                rw [if_pos c56] at H
                have c56b0 : decide (0 ≤ x10_1) = true := decide_eq_true c56
                clear c56
                by_cases c57 : x10_1 < (t182.length : Int)
                ·
                 rw [if_pos c57] at H
                 have c57b0 : decide (x10_1 < (t182.length : Int)) = true := decide_eq_true c57
                 clear c57
                 by_cases c58 : 0 ≤ (rd t182 x10_1)
                 ·
                  rw [if_pos c58] at H
                  have c58b0 : decide (0 ≤ (rd t182 x10_1)) = true := decide_eq_true c58
                  clear c58
                  by_cases c59 : (rd t182 x10_1) < (x8_1.length : Int)
                  ·
                   rw [if_pos c59] at H
                   have c59b0 : decide ((rd t182 x10_1) < (x8_1.length : Int)) = true := decide_eq_true c59
                   clear c59
                   obtain ⟨y212, hy212⟩ : ∃ y_ : List Int, y_ = (x8_1.set ((rd t182 x10_1) : Int).toNat t207) := ⟨_, rfl⟩
                   replace H : (spec_l5Move.l0 kj38 l0 a1 t182 y212 t208 (wrap64 (x10_1 + 1))) = some (r1, r2, r3) := by first | (rw [hy212]; with_reducible exact H) | (have H2_ := (Option.bind_some _ _).symm.trans H; rw [hy212]; with_reducible exact H2_) | (have H2_ := (Option.bind_some _ _).symm.trans H; with_reducible exact H2_) | with_reducible exact H | (rw [hy212]; exact H) | exact H
                   have Ny212 := Aside0.mk hy212
                   clear hy212
                   have H' := Aside0.mk H
                   clear H
                   have hnb61 := NB195_181.out
                   have hnc61 := NB181_195.out
                   have hnb62 := NB195_194.out
                   have hnc62 := NB194_195.out
                   obtain ⟨hcz63_0, hcz63_1, hcz63_2, hcz63_3⟩ := blk_c4 BK195.out
                   obtain ⟨hfz63_0, hfz63_1, hfz63_2, hfz63_3⟩ := blk_f4 BK195.out
                   obtain ⟨Ao64, co64, eo64⟩ := Kd.R_slice HO_9.out
                   subst eo64
                   try go_wp2_with (first | ((with_reducible refine gate_callee (f := 20) rfl ?_); refine goesL_ (some 62) rfl rfl Try.func20 (by kernel_rfl) rfl #[.slice Ao64 x9_1.length co64, .agg #[.int .i64 ((rd_T34 l0 (rd t182 x10_1)).f0), .int .i64 x196001_18, .int .i64 x196002_38, .int .i64 ((rd_T34 l0 (rd t182 x10_1)).f3)]] rfl (by (try simp only [List.map_toArray, List.map_cons, List.map_nil]); first | done | rfl | (simp only [List.length_drop, List.length_take]; rfl)) ?_; (with_reducible refine (spec_l5Put.calls kj38 _ _ x9_1 ((rd_T34 l0 (rd t182 x10_1)).f0) x196001_18 x196002_38 ((rd_T34 l0 (rd t182 x10_1)).f3) t200 t201 t202 _ ?side1 ?side2 A52.out).mono ?_); (case side1 => repeat (first | exact (Kd.R_reads' HO_9.out).2.2 | (with_reducible refine Kd.C_alloc ?_ _) | (with_reducible refine Kd.C_drewN ?_ _) | (with_reducible refine Kd.C_drew ?_))); (case side2 => exact (Kd.R_reads' HO_9.out).2.1); rintro e w65 ⟨v203, rfl, ho0, hb⟩; refine ⟨_, rfl, ?_⟩; have n0_ := Aside0.mk (Kd.R_below (by (with_reducible repeat (first | apply Kd.R_alloc | apply Kd.R_drewN | apply Kd.R_drew)); exact HO_7.out) hb); have n1_ := Aside0.mk (Kd.R_below (by (with_reducible repeat (first | apply Kd.R_alloc | apply Kd.R_drewN | apply Kd.R_drew)); exact HO_8.out) hb); have n2_ := Aside0.mk (Kd.R_elder' (by (with_reducible repeat (first | apply Kd.R_alloc | apply Kd.R_drewN | apply Kd.R_drew)); exact HO_9.out) (Kd.R_base ho0) hb); have n3_ := Aside0.mk (Kd.R_lower (Kd.R_newB (Kd.R_newB (Kd.R_new' ho0 (Kd.R_lt (by (with_reducible repeat (first | apply Kd.R_alloc | apply Kd.R_drewN | apply Kd.R_drew)); exact HO_9.out))) (g := gb194) (o := .cells #[.int .i64 ((rd_T34 l0 (rd t182 x10_1)).f0), .int .i64 ((rd_T34 l0 (rd t182 x10_1)).f1), .int .i64 ((rd_T34 l0 (rd t182 x10_1)).f2), .int .i64 ((rd_T34 l0 (rd t182 x10_1)).f3)] 34 (0, 0)) (by (with_reducible repeat (first | refine blk_drewN ?_ _ | refine blk_drew ?_ | refine blk_alloc ?_ _)); exact BK194.out)) (g := gb195) (o := .cells #[.int .i64 ((rd_T34 l0 (rd t182 x10_1)).f0), .int .i64 x196001_18, .int .i64 x196002_38, .int .i64 ((rd_T34 l0 (rd t182 x10_1)).f3)] 34 (0, 0)) (by (with_reducible repeat (first | refine blk_drewN ?_ _ | refine blk_drew ?_ | refine blk_alloc ?_ _)); exact BK195.out)) (below_size (by repeat (first | (with_reducible first | exact HB.out | apply below_alloc | apply pw_below_drewN | apply below_drew1 | refine below_set ?_ GE181.out | refine below_set ?_ GE194.out | refine below_set ?_ GE195.out) | exact HB.out)))); have n4_ := Aside0.mk (blk_below_u BK181.out hb); have n5_ := Aside0.mk (blk_below_u BK194.out hb); have n6_ := Aside0.mk (blk_below_u BK195.out hb); have n7_ := Aside0.mk (below_step (by repeat (first | (with_reducible first | exact HB.out | apply below_alloc | apply pw_below_drewN | apply below_drew1 | refine below_set ?_ GE181.out | refine below_set ?_ GE194.out | refine below_set ?_ GE195.out) | exact HB.out)) hb); clear HO_7; clear HO_8; clear HO_9; clear BK181; clear BK194; clear BK195; clear HB; have HO_7 := n0_; have HO_8 := n1_; have HO_9 := n2_; have HO204 := n3_; have BK181 := n4_; have BK194 := n5_; have BK195 := n6_; have HB := n7_; clear n0_ n1_ n2_ n3_ n4_ n5_ n6_ n7_; (try clear hb); (try clear hb2); (try clear hk); (try clear hi); (try clear ho0)) | ((with_reducible refine gate_dst (N := 13) rfl ?_); refine box_event ?hg (N := 13) ?hd (cs := #[.int .i64 0, .int .i64 0, .slice none 0 0]) (t := 31) ?hr ?_; (case hd => rfl); (case hg => rfl); (case hr => first | (go_simp; done) | (go_simp; rfl)); intro gb205 hg w66 hbox hb; have n0_ := Aside0.mk (Kd.R_below (by (with_reducible repeat (first | apply Kd.R_alloc | apply Kd.R_drewN | apply Kd.R_drew)); exact HO_7.out) hb); have n1_ := Aside0.mk (Kd.R_below (by (with_reducible repeat (first | apply Kd.R_alloc | apply Kd.R_drewN | apply Kd.R_drew)); exact HO_8.out) hb); have n2_ := Aside0.mk (Kd.R_below (by (with_reducible repeat (first | apply Kd.R_alloc | apply Kd.R_drewN | apply Kd.R_drew)); exact HO_9.out) hb); have n3_ := Aside0.mk (Kd.R_below (by (with_reducible repeat (first | apply Kd.R_alloc | apply Kd.R_drewN | apply Kd.R_drew)); exact HO204.out) hb); have n4_ := Aside0.mk (blk_below_u BK181.out hb); have n5_ := Aside0.mk (blk_below_u BK194.out hb); have n6_ := Aside0.mk (blk_below_u BK195.out hb); have n7_ := Aside0.mk (below_step (by repeat (first | (with_reducible first | exact HB.out | apply below_alloc | apply pw_below_drewN | apply below_drew1 | refine below_set ?_ GE181.out | refine below_set ?_ GE194.out | refine below_set ?_ GE195.out) | exact HB.out)) hb); have n8_ := Aside0.mk (hbox); have n9_ := Aside0.mk ((by rw [hg]; exact (below_size (by repeat (first | (with_reducible first | exact HB.out | apply below_alloc | apply pw_below_drewN | apply below_drew1 | refine below_set ?_ GE181.out | refine below_set ?_ GE194.out | refine below_set ?_ GE195.out) | exact HB.out))) : w.heap.size ≤ gb205)); have n10_ := Aside0.mk ((by rw [hg]; exact (below_size (by repeat (first | (with_reducible first | exact HB.out | apply below_alloc | apply pw_below_drewN | apply below_drew1 | refine below_set ?_ GE181.out | refine below_set ?_ GE194.out | refine below_set ?_ GE195.out) | exact HB.out))) : w.heap.size ≤ gb205)); have n11_ := Aside0.mk ((by rw [hg]; exact Nat.ne_of_lt (blk_lt_u BK181.out) : gb181 ≠ gb205)); have n12_ := Aside0.mk ((by rw [hg]; exact Nat.ne_of_gt (blk_lt_u BK181.out) : gb205 ≠ gb181)); have n13_ := Aside0.mk ((by rw [hg]; exact Nat.ne_of_lt (blk_lt_u BK194.out) : gb194 ≠ gb205)); have n14_ := Aside0.mk ((by rw [hg]; exact Nat.ne_of_gt (blk_lt_u BK194.out) : gb205 ≠ gb194)); have n15_ := Aside0.mk ((by rw [hg]; exact Nat.ne_of_lt (blk_lt_u BK195.out) : gb195 ≠ gb205)); have n16_ := Aside0.mk ((by rw [hg]; exact Nat.ne_of_gt (blk_lt_u BK195.out) : gb205 ≠ gb195)); clear HO_7; clear HO_8; clear HO_9; clear HO204; clear BK181; clear BK194; clear BK195; clear HB; have HO_7 := n0_; have HO_8 := n1_; have HO_9 := n2_; have HO204 := n3_; have BK181 := n4_; have BK194 := n5_; have BK195 := n6_; have HB := n7_; have BK205 := n8_; have GW205 := n9_; have GE205 := n10_; have NB181_205 := n11_; have NB205_181 := n12_; have NB194_205 := n13_; have NB205_194 := n14_; have NB195_205 := n15_; have NB205_195 := n16_; clear n0_ n1_ n2_ n3_ n4_ n5_ n6_ n7_ n8_ n9_ n10_ n11_ n12_ n13_ n14_ n15_ n16_; clear hb hbox hg; have hnb67 := NB205_181.out; have hnc67 := NB181_205.out; have hnb68 := NB205_194.out; have hnc68 := NB194_205.out; have hnb69 := NB205_195.out; have hnc69 := NB195_205.out; obtain ⟨hcz70_0, hcz70_1, hcz70_2⟩ := blk_c3 BK205.out; obtain ⟨hfz70_0, hfz70_1, hfz70_2⟩ := blk_f3 BK205.out; obtain ⟨Ao71, co71, eo71⟩ := Kd.R_slice HO204.out; subst eo71; have hnb72 := NB194_181.out; have hnc72 := NB181_194.out; obtain ⟨hcz73_0, hcz73_1, hcz73_2, hcz73_3⟩ := blk_c4 BK194.out; obtain ⟨hfz73_0, hfz73_1, hfz73_2, hfz73_3⟩ := blk_f4 BK194.out; obtain ⟨hcz74_0, hcz74_1, hcz74_2, hcz74_3⟩ := blk_c4 BK195.out; obtain ⟨hfz74_0, hfz74_1, hfz74_2, hfz74_3⟩ := blk_f4 BK195.out) | ((with_reducible refine gate_callee (f := 21) rfl ?_); refine goesL_ (some 71) rfl rfl Try.func21 (by kernel_rfl) rfl #[.slice Ao64 x9_1.length co64, .int .i64 x196001_18, .int .i64 x196002_38] rfl (by (try simp only [List.map_toArray, List.map_cons, List.map_nil]); first | done | rfl | (simp only [List.length_drop, List.length_take]; rfl)) ?_; (with_reducible refine (spec_l5Both.calls kj38 _ _ x9_1 x196001_18 x196002_38 t206 t207 t208 _ ?side1 ?side2 A54.out).mono ?_); (case side1 => refine (Kd.R_reads' (e := 34) (base := w.heap.size) (ok := fun k_ => ((k_ ≠ gb194 ∧ k_ ≠ gb195) ∧ some k_ ≠ (.slice Ao71 t202.length co71 : Value).ownBlock)) (n := x9_1.length) (c := co64) ?_).2.2; exact (by (with_reducible repeat (first | apply Kd.R_alloc | apply Kd.R_drewN | apply Kd.R_drew)); exact (Kd.R_mono (Kd.R_far (p := ⟨gb205, 2, none⟩) (Kd.R_far (p := ⟨gb205, 1, none⟩) (Kd.R_far (p := ⟨gb205, 0, none⟩) (Kd.R_types HO_9.out BK205.out (by decide)) (fun _ hk => hk.2) (.int .i64 t200)) (fun _ hk => hk.2) (.int .i64 t201)) (fun _ hk => hk.2) (.slice Ao71 t202.length co71)) (fun _ h_ => h_.1)))); (case side2 => exact (Kd.R_reads' HO_9.out).2.1); rintro e w75 ⟨v209, rfl, ho0, hb⟩; refine ⟨_, rfl, ?_⟩; have n0_ := Aside0.mk (Kd.R_below (by (with_reducible repeat (first | apply Kd.R_alloc | apply Kd.R_drewN | apply Kd.R_drew)); exact (Kd.R_mono (Kd.R_far (p := ⟨gb205, 2, none⟩) (Kd.R_far (p := ⟨gb205, 1, none⟩) (Kd.R_far (p := ⟨gb205, 0, none⟩) (Kd.R_types HO_7.out BK205.out (by decide)) (fun _ hk => hk.2) (.int .i64 t200)) (fun _ hk => hk.2) (.int .i64 t201)) (fun _ hk => hk.2) (.slice Ao71 t202.length co71)) (fun _ h_ => h_.1))) hb); have n1_ := Aside0.mk (Kd.R_below (by (with_reducible repeat (first | apply Kd.R_alloc | apply Kd.R_drewN | apply Kd.R_drew)); exact (Kd.R_mono (Kd.R_far (p := ⟨gb205, 2, none⟩) (Kd.R_far (p := ⟨gb205, 1, none⟩) (Kd.R_far (p := ⟨gb205, 0, none⟩) (Kd.R_types HO_8.out BK205.out (by decide)) (fun _ hk => hk.2) (.int .i64 t200)) (fun _ hk => hk.2) (.int .i64 t201)) (fun _ hk => hk.2) (.slice Ao71 t202.length co71)) (fun _ h_ => h_.1))) hb); have n2_ := Aside0.mk (Kd.R_elder' (by (with_reducible repeat (first | apply Kd.R_alloc | apply Kd.R_drewN | apply Kd.R_drew)); exact (Kd.R_mono (Kd.R_far (p := ⟨gb205, 2, none⟩) (Kd.R_far (p := ⟨gb205, 1, none⟩) (Kd.R_far (p := ⟨gb205, 0, none⟩) (Kd.R_types HO_9.out BK205.out (by decide)) (fun _ hk => hk.2) (.int .i64 t200)) (fun _ hk => hk.2) (.int .i64 t201)) (fun _ hk => hk.2) (.slice Ao71 t202.length co71)) (fun _ h_ => h_.1))) (Kd.R_base ho0) hb); have n3_ := Aside0.mk (Kd.R_elder' (by (with_reducible repeat (first | apply Kd.R_alloc | apply Kd.R_drewN | apply Kd.R_drew)); exact (Kd.R_mono (Kd.R_far (p := ⟨gb205, 2, none⟩) (Kd.R_far (p := ⟨gb205, 1, none⟩) (Kd.R_far (p := ⟨gb205, 0, none⟩) (Kd.R_types HO204.out BK205.out (by decide)) (fun _ hk => hk.2) (.int .i64 t200)) (fun _ hk => hk.2) (.int .i64 t201)) (fun _ hk => hk.2) (.slice Ao71 t202.length co71)) (fun _ h_ => h_.1))) (Kd.R_base ho0) hb); have n4_ := Aside0.mk (Kd.R_lower (Kd.R_newB (Kd.R_newB (Kd.R_new' (Kd.R_new' ho0 (Kd.R_lt (by (with_reducible repeat (first | apply Kd.R_alloc | apply Kd.R_drewN | apply Kd.R_drew)); exact (Kd.R_mono (Kd.R_far (p := ⟨gb205, 2, none⟩) (Kd.R_far (p := ⟨gb205, 1, none⟩) (Kd.R_far (p := ⟨gb205, 0, none⟩) (Kd.R_types HO_9.out BK205.out (by decide)) (fun _ hk => hk.2) (.int .i64 t200)) (fun _ hk => hk.2) (.int .i64 t201)) (fun _ hk => hk.2) (.slice Ao71 t202.length co71)) (fun _ h_ => h_.1))))) (Kd.R_lt (by (with_reducible repeat (first | apply Kd.R_alloc | apply Kd.R_drewN | apply Kd.R_drew)); exact (Kd.R_mono (Kd.R_far (p := ⟨gb205, 2, none⟩) (Kd.R_far (p := ⟨gb205, 1, none⟩) (Kd.R_far (p := ⟨gb205, 0, none⟩) (Kd.R_types HO204.out BK205.out (by decide)) (fun _ hk => hk.2) (.int .i64 t200)) (fun _ hk => hk.2) (.int .i64 t201)) (fun _ hk => hk.2) (.slice Ao71 t202.length co71)) (fun _ h_ => h_.1))))) (g := gb194) (o := .cells #[.int .i64 ((rd_T34 l0 (rd t182 x10_1)).f0), .int .i64 ((rd_T34 l0 (rd t182 x10_1)).f1), .int .i64 ((rd_T34 l0 (rd t182 x10_1)).f2), .int .i64 ((rd_T34 l0 (rd t182 x10_1)).f3)] 34 (0, 0)) (by (with_reducible repeat (first | refine blk_drewN ?_ _ | refine blk_drew ?_ | refine blk_alloc ?_ _)); refine blk_far ?_ NB194_205.out _; (with_reducible repeat (first | refine blk_drewN ?_ _ | refine blk_drew ?_ | refine blk_alloc ?_ _)); refine blk_far ?_ NB194_205.out _; (with_reducible repeat (first | refine blk_drewN ?_ _ | refine blk_drew ?_ | refine blk_alloc ?_ _)); refine blk_far ?_ NB194_205.out _; (with_reducible repeat (first | refine blk_drewN ?_ _ | refine blk_drew ?_ | refine blk_alloc ?_ _)); exact BK194.out)) (g := gb195) (o := .cells #[.int .i64 ((rd_T34 l0 (rd t182 x10_1)).f0), .int .i64 x196001_18, .int .i64 x196002_38, .int .i64 ((rd_T34 l0 (rd t182 x10_1)).f3)] 34 (0, 0)) (by (with_reducible repeat (first | refine blk_drewN ?_ _ | refine blk_drew ?_ | refine blk_alloc ?_ _)); refine blk_far ?_ NB195_205.out _; (with_reducible repeat (first | refine blk_drewN ?_ _ | refine blk_drew ?_ | refine blk_alloc ?_ _)); refine blk_far ?_ NB195_205.out _; (with_reducible repeat (first | refine blk_drewN ?_ _ | refine blk_drew ?_ | refine blk_alloc ?_ _)); refine blk_far ?_ NB195_205.out _; (with_reducible repeat (first | refine blk_drewN ?_ _ | refine blk_drew ?_ | refine blk_alloc ?_ _)); exact BK195.out)) (below_size (by repeat (first | (with_reducible first | exact HB.out | apply below_alloc | apply pw_below_drewN | apply below_drew1 | refine below_set ?_ GE181.out | refine below_set ?_ GE194.out | refine below_set ?_ GE195.out | refine below_set ?_ GE205.out) | exact HB.out)))); have n5_ := Aside0.mk (blk_below (g := gb181) (o := .cells #[.int .i64 x182000_1, .int .i64 x182001_1, .slice none 0 0] 31 (0, 0)) (by (with_reducible repeat (first | refine blk_drewN ?_ _ | refine blk_drew ?_ | refine blk_alloc ?_ _)); refine blk_far ?_ NB181_205.out _; (with_reducible repeat (first | refine blk_drewN ?_ _ | refine blk_drew ?_ | refine blk_alloc ?_ _)); refine blk_far ?_ NB181_205.out _; (with_reducible repeat (first | refine blk_drewN ?_ _ | refine blk_drew ?_ | refine blk_alloc ?_ _)); refine blk_far ?_ NB181_205.out _; (with_reducible repeat (first | refine blk_drewN ?_ _ | refine blk_drew ?_ | refine blk_alloc ?_ _)); exact BK181.out) hb); have n6_ := Aside0.mk (blk_below (g := gb194) (o := .cells #[.int .i64 ((rd_T34 l0 (rd t182 x10_1)).f0), .int .i64 ((rd_T34 l0 (rd t182 x10_1)).f1), .int .i64 ((rd_T34 l0 (rd t182 x10_1)).f2), .int .i64 ((rd_T34 l0 (rd t182 x10_1)).f3)] 34 (0, 0)) (by (with_reducible repeat (first | refine blk_drewN ?_ _ | refine blk_drew ?_ | refine blk_alloc ?_ _)); refine blk_far ?_ NB194_205.out _; (with_reducible repeat (first | refine blk_drewN ?_ _ | refine blk_drew ?_ | refine blk_alloc ?_ _)); refine blk_far ?_ NB194_205.out _; (with_reducible repeat (first | refine blk_drewN ?_ _ | refine blk_drew ?_ | refine blk_alloc ?_ _)); refine blk_far ?_ NB194_205.out _; (with_reducible repeat (first | refine blk_drewN ?_ _ | refine blk_drew ?_ | refine blk_alloc ?_ _)); exact BK194.out) hb); have n7_ := Aside0.mk (blk_below (g := gb195) (o := .cells #[.int .i64 ((rd_T34 l0 (rd t182 x10_1)).f0), .int .i64 x196001_18, .int .i64 x196002_38, .int .i64 ((rd_T34 l0 (rd t182 x10_1)).f3)] 34 (0, 0)) (by (with_reducible repeat (first | refine blk_drewN ?_ _ | refine blk_drew ?_ | refine blk_alloc ?_ _)); refine blk_far ?_ NB195_205.out _; (with_reducible repeat (first | refine blk_drewN ?_ _ | refine blk_drew ?_ | refine blk_alloc ?_ _)); refine blk_far ?_ NB195_205.out _; (with_reducible repeat (first | refine blk_drewN ?_ _ | refine blk_drew ?_ | refine blk_alloc ?_ _)); refine blk_far ?_ NB195_205.out _; (with_reducible repeat (first | refine blk_drewN ?_ _ | refine blk_drew ?_ | refine blk_alloc ?_ _)); exact BK195.out) hb); have n8_ := Aside0.mk (blk_below (g := gb205) (o := .cells #[.int .i64 t200, .int .i64 t201, .slice Ao71 t202.length co71] 31 (0, 0)) (by (with_reducible repeat (first | refine blk_drewN ?_ _ | refine blk_drew ?_ | refine blk_alloc ?_ _)); refine blk_put (cs := #[.int .i64 t200, .int .i64 t201, .slice none 0 0]) ?_ 2 _ rfl; (with_reducible repeat (first | refine blk_drewN ?_ _ | refine blk_drew ?_ | refine blk_alloc ?_ _)); refine blk_put (cs := #[.int .i64 t200, .int .i64 0, .slice none 0 0]) ?_ 1 _ rfl; (with_reducible repeat (first | refine blk_drewN ?_ _ | refine blk_drew ?_ | refine blk_alloc ?_ _)); refine blk_put (cs := #[.int .i64 0, .int .i64 0, .slice none 0 0]) ?_ 0 _ rfl; (with_reducible repeat (first | refine blk_drewN ?_ _ | refine blk_drew ?_ | refine blk_alloc ?_ _)); exact BK205.out) hb); have n9_ := Aside0.mk (below_step (by repeat (first | (with_reducible first | exact HB.out | apply below_alloc | apply pw_below_drewN | apply below_drew1 | refine below_set ?_ GE181.out | refine below_set ?_ GE194.out | refine below_set ?_ GE195.out | refine below_set ?_ GE205.out) | exact HB.out)) hb); clear HO_7; clear HO_8; clear HO_9; clear HO204; clear BK181; clear BK194; clear BK195; clear BK205; clear HB; have HO_7 := n0_; have HO_8 := n1_; have HO_9 := n2_; have HO204 := n3_; have HO210 := n4_; have BK181 := n5_; have BK194 := n6_; have BK195 := n7_; have BK205 := n8_; have HB := n9_; clear n0_ n1_ n2_ n3_ n4_ n5_ n6_ n7_ n8_ n9_; (try clear hb); (try clear hb2); (try clear hk); (try clear hi); (try clear ho0); obtain ⟨hcz76_0, hcz76_1, hcz76_2⟩ := blk_c3 BK205.out; obtain ⟨hfz76_0, hfz76_1, hfz76_2⟩ := blk_f3 BK205.out; obtain ⟨Ao77, co77, eo77⟩ := Kd.R_slice HO210.out; subst eo77))
                   have n0_ : Aside0 (Kd.R (Kd.int .i64) 2 (((w75.setCell ⟨gb205, 0, none⟩ (.int .i64 t206)).setCell ⟨gb205, 1, none⟩ (.int .i64 t207)).setCell ⟨gb205, 2, none⟩ (.slice Ao77 t208.length co77)) w.heap.size (fun k_ => some k_ ≠ (v186 : Value).ownBlock) (.slice (some ad192) t182.length co20) t182) := ⟨by (with_reducible repeat (first | apply Kd.R_alloc | apply Kd.R_drewN | apply Kd.R_drew)); exact Kd.R_mono (Kd.R_far (p := ⟨gb205, 2, none⟩) (Kd.R_far (p := ⟨gb205, 1, none⟩) (Kd.R_far (p := ⟨gb205, 0, none⟩) (Kd.R_types HO_7.out BK205.out (by decide)) (fun _ hk => hk.2) (.int .i64 t206)) (fun _ hk => hk.2) (.int .i64 t207)) (fun _ hk => hk.2) (.slice Ao77 t208.length co77)) (fun _ hk => hk.1)⟩
                   have n1_ : Aside0 (Kd.R (Kd.int .i64) 2 (((w75.setCell ⟨gb205, 0, none⟩ (.int .i64 t206)).setCell ⟨gb205, 1, none⟩ (.int .i64 t207)).setCell ⟨gb205, 2, none⟩ (.slice Ao77 t208.length co77)) w.heap.size (fun k_ => some k_ ≠ (.slice (some ad192) t182.length co20 : Value).ownBlock) v186 x8_1) := ⟨by (with_reducible repeat (first | apply Kd.R_alloc | apply Kd.R_drewN | apply Kd.R_drew)); exact Kd.R_mono (Kd.R_far (p := ⟨gb205, 2, none⟩) (Kd.R_far (p := ⟨gb205, 1, none⟩) (Kd.R_far (p := ⟨gb205, 0, none⟩) (Kd.R_types HO_8.out BK205.out (by decide)) (fun _ hk => hk.2) (.int .i64 t206)) (fun _ hk => hk.2) (.int .i64 t207)) (fun _ hk => hk.2) (.slice Ao77 t208.length co77)) (fun _ hk => hk.1)⟩
                   have n2_ : Aside0 (Kd.R k34 34 (((w75.setCell ⟨gb205, 0, none⟩ (.int .i64 t206)).setCell ⟨gb205, 1, none⟩ (.int .i64 t207)).setCell ⟨gb205, 2, none⟩ (.slice Ao77 t208.length co77)) w.heap.size (fun k_ => some k_ ≠ (.slice Ao71 t202.length co71 : Value).ownBlock ∧ some k_ ≠ (.slice Ao77 t208.length co77 : Value).ownBlock ∧ k_ ≠ gb194 ∧ k_ ≠ gb195) (.slice Ao64 x9_1.length co64) x9_1) := ⟨by (with_reducible repeat (first | apply Kd.R_alloc | apply Kd.R_drewN | apply Kd.R_drew)); exact Kd.R_mono (Kd.R_far (p := ⟨gb205, 2, none⟩) (Kd.R_far (p := ⟨gb205, 1, none⟩) (Kd.R_far (p := ⟨gb205, 0, none⟩) (Kd.R_types HO_9.out BK205.out (by decide)) (fun _ hk => hk.2) (.int .i64 t206)) (fun _ hk => hk.2) (.int .i64 t207)) (fun _ hk => hk.2) (.slice Ao77 t208.length co77)) (fun _ hk => ⟨hk.1.1.2, ⟨hk.1.2, ⟨hk.1.1.1.1, hk.1.1.1.2⟩⟩⟩)⟩
                   have n3_ : Aside0 (Kd.R k34 34 (((w75.setCell ⟨gb205, 0, none⟩ (.int .i64 t206)).setCell ⟨gb205, 1, none⟩ (.int .i64 t207)).setCell ⟨gb205, 2, none⟩ (.slice Ao77 t208.length co77)) w.heap.size (fun k_ => some k_ ≠ (.slice Ao64 x9_1.length co64 : Value).ownBlock ∧ some k_ ≠ (.slice Ao77 t208.length co77 : Value).ownBlock ∧ k_ ≠ gb194 ∧ k_ ≠ gb195) (.slice Ao71 t202.length co71) t202) := ⟨by (with_reducible repeat (first | apply Kd.R_alloc | apply Kd.R_drewN | apply Kd.R_drew)); exact Kd.R_mono (Kd.R_far (p := ⟨gb205, 2, none⟩) (Kd.R_far (p := ⟨gb205, 1, none⟩) (Kd.R_far (p := ⟨gb205, 0, none⟩) (Kd.R_types HO204.out BK205.out (by decide)) (fun _ hk => hk.2) (.int .i64 t206)) (fun _ hk => hk.2) (.int .i64 t207)) (fun _ hk => hk.2) (.slice Ao77 t208.length co77)) (fun _ hk => ⟨hk.1.1.1.1.2, ⟨hk.1.2, ⟨hk.1.1.1.2, hk.1.1.2⟩⟩⟩)⟩
                   have n4_ : Aside0 (Kd.R k34 34 (((w75.setCell ⟨gb205, 0, none⟩ (.int .i64 t206)).setCell ⟨gb205, 1, none⟩ (.int .i64 t207)).setCell ⟨gb205, 2, none⟩ (.slice Ao77 t208.length co77)) w.heap.size (fun k_ => some k_ ≠ (.slice Ao64 x9_1.length co64 : Value).ownBlock ∧ some k_ ≠ (.slice Ao71 t202.length co71 : Value).ownBlock ∧ k_ ≠ gb194 ∧ k_ ≠ gb195) (.slice Ao77 t208.length co77) t208) := ⟨by (with_reducible repeat (first | apply Kd.R_alloc | apply Kd.R_drewN | apply Kd.R_drew)); exact Kd.R_mono (Kd.R_far (p := ⟨gb205, 2, none⟩) (Kd.R_far (p := ⟨gb205, 1, none⟩) (Kd.R_far (p := ⟨gb205, 0, none⟩) (Kd.R_types HO210.out BK205.out (by decide)) (fun _ hk => hk.2) (.int .i64 t206)) (fun _ hk => hk.2) (.int .i64 t207)) (fun _ hk => hk.2) (.slice Ao77 t208.length co77)) (fun _ hk => ⟨hk.1.1.1.1.2, ⟨hk.1.1.1.2, ⟨hk.1.1.2, hk.1.2⟩⟩⟩)⟩
                   have n5_ : Aside0 ((((w75.setCell ⟨gb205, 0, none⟩ (.int .i64 t206)).setCell ⟨gb205, 1, none⟩ (.int .i64 t207)).setCell ⟨gb205, 2, none⟩ (.slice Ao77 t208.length co77)).heap[gb181]? = some (.cells #[.int .i64 x182000_1, .int .i64 x182001_1, .slice none 0 0] 31 (0, 0))) := ⟨by (with_reducible repeat (first | refine blk_drewN ?_ _ | refine blk_drew ?_ | refine blk_alloc ?_ _)); refine blk_far ?_ NB181_205.out _; (with_reducible repeat (first | refine blk_drewN ?_ _ | refine blk_drew ?_ | refine blk_alloc ?_ _)); refine blk_far ?_ NB181_205.out _; (with_reducible repeat (first | refine blk_drewN ?_ _ | refine blk_drew ?_ | refine blk_alloc ?_ _)); refine blk_far ?_ NB181_205.out _; (with_reducible repeat (first | refine blk_drewN ?_ _ | refine blk_drew ?_ | refine blk_alloc ?_ _)); exact BK181.out⟩
                   have n6_ : Aside0 ((((w75.setCell ⟨gb205, 0, none⟩ (.int .i64 t206)).setCell ⟨gb205, 1, none⟩ (.int .i64 t207)).setCell ⟨gb205, 2, none⟩ (.slice Ao77 t208.length co77)).heap[gb194]? = some (.cells #[.int .i64 ((rd_T34 l0 (rd t182 x10_1)).f0), .int .i64 ((rd_T34 l0 (rd t182 x10_1)).f1), .int .i64 ((rd_T34 l0 (rd t182 x10_1)).f2), .int .i64 ((rd_T34 l0 (rd t182 x10_1)).f3)] 34 (0, 0))) := ⟨by (with_reducible repeat (first | refine blk_drewN ?_ _ | refine blk_drew ?_ | refine blk_alloc ?_ _)); refine blk_far ?_ NB194_205.out _; (with_reducible repeat (first | refine blk_drewN ?_ _ | refine blk_drew ?_ | refine blk_alloc ?_ _)); refine blk_far ?_ NB194_205.out _; (with_reducible repeat (first | refine blk_drewN ?_ _ | refine blk_drew ?_ | refine blk_alloc ?_ _)); refine blk_far ?_ NB194_205.out _; (with_reducible repeat (first | refine blk_drewN ?_ _ | refine blk_drew ?_ | refine blk_alloc ?_ _)); exact BK194.out⟩
                   have n7_ : Aside0 ((((w75.setCell ⟨gb205, 0, none⟩ (.int .i64 t206)).setCell ⟨gb205, 1, none⟩ (.int .i64 t207)).setCell ⟨gb205, 2, none⟩ (.slice Ao77 t208.length co77)).heap[gb195]? = some (.cells #[.int .i64 ((rd_T34 l0 (rd t182 x10_1)).f0), .int .i64 x196001_18, .int .i64 x196002_38, .int .i64 ((rd_T34 l0 (rd t182 x10_1)).f3)] 34 (0, 0))) := ⟨by (with_reducible repeat (first | refine blk_drewN ?_ _ | refine blk_drew ?_ | refine blk_alloc ?_ _)); refine blk_far ?_ NB195_205.out _; (with_reducible repeat (first | refine blk_drewN ?_ _ | refine blk_drew ?_ | refine blk_alloc ?_ _)); refine blk_far ?_ NB195_205.out _; (with_reducible repeat (first | refine blk_drewN ?_ _ | refine blk_drew ?_ | refine blk_alloc ?_ _)); refine blk_far ?_ NB195_205.out _; (with_reducible repeat (first | refine blk_drewN ?_ _ | refine blk_drew ?_ | refine blk_alloc ?_ _)); exact BK195.out⟩
                   have n8_ : Aside0 ((((w75.setCell ⟨gb205, 0, none⟩ (.int .i64 t206)).setCell ⟨gb205, 1, none⟩ (.int .i64 t207)).setCell ⟨gb205, 2, none⟩ (.slice Ao77 t208.length co77)).heap[gb205]? = some (.cells #[.int .i64 t206, .int .i64 t207, .slice Ao77 t208.length co77] 31 (0, 0))) := ⟨by (with_reducible repeat (first | refine blk_drewN ?_ _ | refine blk_drew ?_ | refine blk_alloc ?_ _)); refine blk_put (cs := #[.int .i64 t206, .int .i64 t207, .slice Ao71 t202.length co71]) ?_ 2 _ rfl; (with_reducible repeat (first | refine blk_drewN ?_ _ | refine blk_drew ?_ | refine blk_alloc ?_ _)); refine blk_put (cs := #[.int .i64 t206, .int .i64 t201, .slice Ao71 t202.length co71]) ?_ 1 _ rfl; (with_reducible repeat (first | refine blk_drewN ?_ _ | refine blk_drew ?_ | refine blk_alloc ?_ _)); refine blk_put (cs := #[.int .i64 t200, .int .i64 t201, .slice Ao71 t202.length co71]) ?_ 0 _ rfl; (with_reducible repeat (first | refine blk_drewN ?_ _ | refine blk_drew ?_ | refine blk_alloc ?_ _)); exact BK205.out⟩
                   have n9_ : Aside0 (Below w.heap.size w (((w75.setCell ⟨gb205, 0, none⟩ (.int .i64 t206)).setCell ⟨gb205, 1, none⟩ (.int .i64 t207)).setCell ⟨gb205, 2, none⟩ (.slice Ao77 t208.length co77))) := ⟨by repeat (first | (with_reducible first | exact HB.out | apply below_alloc | apply pw_below_drewN | apply below_drew1 | refine below_set ?_ GE181.out | refine below_set ?_ GE194.out | refine below_set ?_ GE195.out | refine below_set ?_ GE205.out) | exact HB.out)⟩
                   (try clear HO_7)
                   (try clear HO_8)
                   (try clear HO_9)
                   (try clear HO204)
                   (try clear HO210)
                   (try clear BK181)
                   (try clear BK194)
                   (try clear BK195)
                   (try clear BK205)
                   (try clear HB)
                   generalize (((w75.setCell ⟨gb205, 0, none⟩ (.int .i64 t206)).setCell ⟨gb205, 1, none⟩ (.int .i64 t207)).setCell ⟨gb205, 2, none⟩ (.slice Ao77 t208.length co77)) = w78 at n0_ n1_ n2_ n3_ n4_ n5_ n6_ n7_ n8_ n9_ ⊢
                   have HO_7 := n0_
                   have HO_8 := n1_
                   have HO_9 := n2_
                   have HO204 := n3_
                   have HO210 := n4_
                   have BK181 := n5_
                   have BK194 := n6_
                   have BK195 := n7_
                   have BK205 := n8_
                   have HB := n9_
                   clear n0_ n1_ n2_ n3_ n4_ n5_ n6_ n7_ n8_ n9_
                   have n0_ := Aside0.mk (Kd.R_drew HO_7.out)
                   have n1_ := Aside0.mk (Kd.R_drew HO_8.out)
                   have n2_ := Aside0.mk (Kd.R_drew HO_9.out)
                   have n3_ := Aside0.mk (Kd.R_drew HO204.out)
                   have n4_ := Aside0.mk (Kd.R_drew HO210.out)
                   have n5_ := Aside0.mk (blk_drew BK181.out)
                   have n6_ := Aside0.mk (blk_drew BK194.out)
                   have n7_ := Aside0.mk (blk_drew BK195.out)
                   have n8_ := Aside0.mk (blk_drew BK205.out)
                   have n9_ := Aside0.mk (below_drew1 HB.out)
                   clear HO_7
                   clear HO_8
                   clear HO_9
                   clear HO204
                   clear HO210
                   clear BK181
                   clear BK194
                   clear BK195
                   clear BK205
                   clear HB
                   have HO_7 := n0_
                   have HO_8 := n1_
                   have HO_9 := n2_
                   have HO204 := n3_
                   have HO210 := n4_
                   have BK181 := n5_
                   have BK194 := n6_
                   have BK195 := n7_
                   have BK205 := n8_
                   have HB := n9_
                   clear n0_ n1_ n2_ n3_ n4_ n5_ n6_ n7_ n8_ n9_
                   have p211 : 0 ≤ (x10_1 : Int) := of_decide_eq_true (by first | (with_reducible assumption) | assumption)
                   have q211 : x10_1 < (t182.length : Int) := of_decide_eq_true (by first | (with_reducible assumption) | assumption)
                   obtain ⟨ad211, e211, hx211_0⟩ := Kd.at_int (Kd.R_reads' HO_7.out).2.2 x10_1 p211 q211
                   obtain rfl : ad192 = ad211 := (by injection e211)
                   replace p211 := eq_true p211
                   replace q211 := eq_true q211
                   have p60 : 0 ≤ ((rd t182 x10_1) : Int) := of_decide_eq_true (by first | (with_reducible assumption) | assumption)
                   have q60 : ((rd t182 x10_1) : Int) < ((x8_1.length : Int) : Int) := of_decide_eq_true (by first | (with_reducible assumption) | assumption)
                   obtain ⟨go60, co60, eo60, gb60, gl60, cl60, HG60⟩ := Kd.R_form HO_8.out (by omega)
                   (first | cases eo60 | (injection eo60 with ea_ en_ ec_; (first | subst ea_ | (injection ea_ with ea_; subst ea_)); subst ec_; clear en_))
                   have GB60 := Aside0.mk gb60
                   have GG60 := Aside0.mk HG60
                   clear gb60 gl60 HG60
                   obtain ⟨hx60_0, hf60_0⟩ := Kd.R_celln 0 HO_8.out ((rd t182 x10_1) : Int) p60 q60
                   replace p60 := eq_true p60
                   replace q60 := eq_true q60
                   have HP80 := Kd.R_putn HO_8.out ((rd t182 x10_1) : Int) t207
                   rw [← Ny212.out] at HP80
                   have HQ80 := Aside0.mk HP80
                   clear HP80
                   refine start_ (n := 9) (S := fun w' => w'.cell? ⟨gb205, 0, none⟩ = some (.int .i64 t206) ∧ w'.cell? ⟨gb205, 1, none⟩ = some (.int .i64 t207) ∧ w'.cell? ⟨gb205, 2, none⟩ = some (.slice Ao77 t208.length co77) ∧ w'.cell? (ad192.add (x10_1).toNat) = some (.int .i64 (rd t182 x10_1))) (ds := [8]) #[false, false, false, false, false, false, false, false, false] (by kernel_rfl) rfl rfl ⟨(blk_cell BK205.out 0).trans rfl, (blk_cell BK205.out 1).trans rfl, (blk_cell BK205.out 2).trans rfl, hx211_0⟩ (fun hHeld => ?_); refine with_tabW spec_l5Move.tab19 spec_l5Move.bits19 (fun HT_ HW_ => ?_)
                   generalize w78.drew = w79 at HO_7 HO_8 HO_9 HO204 HO210 BK181 BK194 BK195 BK205 HB GG60 HQ80 hf60_0 hx211_0 hx60_0 hHeld ⊢
                   refine pure_ (i := 0) (N := some 80) (v := ?_) (a' := ?_) #[true, false, false, false, false, false, false, false, false] rfl rfl (any_of HT_.out (by kernel_rfl)) (fun _ _ _ h => h) (Or.inl ⟨by rfl, ?_⟩) ?_ ?_
                   rotate_left
                   ·
                    intro w'
                    go_simp
                    with_reducible rfl
                   rotate_left
                   ·
                    simp only [Act.put, List.setIfInBounds_toArray, List.set_cons_zero, List.set_cons_succ, i64_w, i32_w]
                    rfl
                   refine pure_ (i := 1) (N := some 81) (v := ?_) (a' := ?_) #[true, true, false, false, false, false, false, false, false] rfl rfl (any_of HT_.out (by kernel_rfl)) (fun _ _ _ h => h) (Or.inl ⟨by rfl, ?_⟩) ?_ ?_
                   rotate_left
                   ·
                    intro w'
                    go_simp
                    with_reducible rfl
                   rotate_left
                   ·
                    simp only [Act.put, List.setIfInBounds_toArray, List.set_cons_zero, List.set_cons_succ, i64_w, i32_w]
                    rfl
                   refine pure_ (i := 2) (N := some 82) (v := ?_) (a' := ?_) #[true, true, true, false, false, false, false, false, false] rfl rfl (any_of HT_.out (by kernel_rfl)) (fun _ _ _ h => h) (Or.inl ⟨by rfl, ?_⟩) ?_ ?_
                   rotate_left
                   ·
                    intro w'
                    go_simp
                    with_reducible rfl
                   rotate_left
                   ·
                    simp only [Act.put, List.setIfInBounds_toArray, List.set_cons_zero, List.set_cons_succ, i64_w, i32_w]
                    rfl
                   refine pure_ (i := 3) (N := some 83) (v := ?_) (a' := ?_) #[true, true, true, true, false, false, false, false, false] rfl rfl (any_of HT_.out (by kernel_rfl)) (fun _ _ _ h => h) (Or.inl ⟨by rfl, ?_⟩) ?_ ?_
                   rotate_left
                   ·
                    intro w'
                    go_simp
                    with_reducible rfl
                   rotate_left
                   ·
                    simp only [Act.put, List.setIfInBounds_toArray, List.set_cons_zero, List.set_cons_succ, i64_w, i32_w]
                    rfl
                   refine pure_ (i := 5) (N := some 85) (v := ?_) (a' := ?_) #[true, true, true, true, false, true, false, false, false] rfl rfl (any_of HT_.out (by kernel_rfl)) (fun _ _ _ h => h) (Or.inl ⟨by rfl, ?_⟩) ?_ ?_
                   rotate_left
                   ·
                    intro w'
                    go_simp
                    with_reducible rfl
                   rotate_left
                   ·
                    simp only [Act.put, List.setIfInBounds_toArray, List.set_cons_zero, List.set_cons_succ, i64_w, i32_w]
                    rfl
                   refine take_ (i := 4) (N := some 84) (v := ?_) (a' := ?_) #[true, true, true, true, true, true, false, false, false] rfl rfl (take_ofW HT_.out HW_.out (by kernel_rfl)) (fun _ _ _ h => h) (Or.inl ⟨by rfl, ?_⟩) hHeld ?_ ?_
                   rotate_left
                   ·
                    rintro w' ⟨s0, s1, s2, s3⟩
                    go_simp
                    with_reducible rfl
                   rotate_left
                   ·
                    simp only [Act.put, List.setIfInBounds_toArray, List.set_cons_zero, List.set_cons_succ, i64_w, i32_w]
                    rfl
                   refine take_ (i := 6) (N := some 86) (v := ?_) (a' := ?_) #[true, true, true, true, true, true, true, false, false] rfl rfl (take_ofW HT_.out HW_.out (by kernel_rfl)) (fun _ _ _ h => h) (Or.inl ⟨by rfl, ?_⟩) hHeld ?_ ?_
                   rotate_left
                   ·
                    rintro w' ⟨s0, s1, s2, s3⟩
                    go_simp
                    with_reducible rfl
                   rotate_left
                   ·
                    simp only [Act.put, List.setIfInBounds_toArray, List.set_cons_zero, List.set_cons_succ, i64_w, i32_w]
                    rfl
                   refine pure_ (i := 7) (N := some 87) (v := ?_) (a' := ?_) #[true, true, true, true, true, true, true, true, false] rfl rfl (any_of HT_.out (by kernel_rfl)) (fun _ _ _ h => h) (Or.inl ⟨by rfl, ?_⟩) ?_ ?_
                   rotate_left
                   ·
                    intro w'
                    go_simp
                    with_reducible rfl
                   rotate_left
                   ·
                    simp only [Act.put, List.setIfInBounds_toArray, List.set_cons_zero, List.set_cons_succ, i64_w, i32_w]
                    rfl
                   refine last_ (i := 8) (N := none) #[true, true, true, true, true, true, true, true, true] rfl rfl (one_of HT_.out (by kernel_rfl)) (by decide) (fun K hK => ?_)
                   refine skip_ (w1 := ?_) (by rfl) rfl ?_ ?_
                   rotate_left
                   ·
                    go_simp
                    rfl
                   refine hK.out _ _ ?_
                   clear hK K
                   refine done_ (done_of HT_.out (by kernel_rfl)) ?_
                   try go_wp2
                   go_roundg kj38
                   case measure => have := HK1.out; have := HJ18.out; have := HJ38.out; omega
                   case rel => exact ⟨(y212), (t208), (wrap64 (x10_1 + 1)), (x182000_1), (x182001_1), (by first | rfl | (simp; done) | (simp [*]; done)), H', ⟨by have := HK1.out; have := HJ18.out; have := HJ38.out; omega⟩, ⟨by (with_reducible repeat (first | apply Kd.R_alloc | apply Kd.R_drewN | apply Kd.R_drew)); exact Kd.R_mono (Kd.R_far (p := ⟨go60, ((rd t182 x10_1) : Int).toNat, none⟩) (Kd.R_mono HO_7.out (fun k_ hk => (⟨hk, fun e_ => hk (by rw [e_]; rfl)⟩ : _ ∧ k_ ≠ go60))) (fun _ hk => hk.2) (.int .i64 t207)) (fun _ hk => hk.1)⟩, ⟨by (with_reducible repeat (first | apply Kd.R_alloc | apply Kd.R_drewN | apply Kd.R_drew)); exact HQ80.out⟩, ⟨by (with_reducible repeat (first | apply Kd.R_alloc | apply Kd.R_drewN | apply Kd.R_drew)); exact Kd.R_mono (Kd.R_far (p := ⟨go60, ((rd t182 x10_1) : Int).toNat, none⟩) (Kd.R_types HO210.out GG60.out (by decide)) (fun _ hk => hk.2) (.int .i64 t207)) (fun _ hk => trivial)⟩, ⟨by (with_reducible repeat (first | refine blk_drewN ?_ _ | refine blk_drew ?_ | refine blk_alloc ?_ _)); refine blk_far ?_ (by have h_ := Kd.R_ne HO_8.out BK181.out (by decide); intro e_; exact h_ (by rw [e_]; rfl)) _; (with_reducible repeat (first | refine blk_drewN ?_ _ | refine blk_drew ?_ | refine blk_alloc ?_ _)); exact BK181.out⟩, ⟨by repeat (first | (with_reducible first | exact HB.out | apply below_alloc | apply pw_below_drewN | apply below_drew1 | refine below_set ?_ GB60.out | refine below_set ?_ GE181.out | refine below_set ?_ GE194.out | refine below_set ?_ GE195.out | refine below_set ?_ GE205.out) | exact HB.out)⟩⟩
                  ·
                   rw [if_neg c59] at H
                   exact absurd H (by simp)
                 ·
                  rw [if_neg c58] at H
                  exact absurd H (by simp)
                ·
                 rw [if_neg c57] at H
                 exact absurd H (by simp)
               ·
                rw [if_neg c56] at H
                exact absurd H (by simp)
              ·
               rw [if_neg c55] at H
               have c55b0 : (t206 == 0) = false := beq_eq_false_iff_ne.mpr c55
               have c55b1 : (t206 != 0) = true := bne_iff_ne.mpr c55
               simp only [Option.some.injEq, Prod.mk.injEq] at H
               obtain ⟨rfl, rfl, rfl⟩ := H
               have hnb81 := NB195_181.out
               have hnc81 := NB181_195.out
               have hnb82 := NB195_194.out
               have hnc82 := NB194_195.out
               obtain ⟨hcz83_0, hcz83_1, hcz83_2, hcz83_3⟩ := blk_c4 BK195.out
               obtain ⟨hfz83_0, hfz83_1, hfz83_2, hfz83_3⟩ := blk_f4 BK195.out
               obtain ⟨Ao84, co84, eo84⟩ := Kd.R_slice HO_9.out
               subst eo84
               go_wp2_with (first | ((with_reducible refine gate_callee (f := 20) rfl ?_); refine goesL_ (some 62) rfl rfl Try.func20 (by kernel_rfl) rfl #[.slice Ao84 x9_1.length co84, .agg #[.int .i64 ((rd_T34 l0 (rd t182 x10_1)).f0), .int .i64 x196001_18, .int .i64 x196002_38, .int .i64 ((rd_T34 l0 (rd t182 x10_1)).f3)]] rfl (by (try simp only [List.map_toArray, List.map_cons, List.map_nil]); first | done | rfl | (simp only [List.length_drop, List.length_take]; rfl)) ?_; (with_reducible refine (spec_l5Put.calls kj38 _ _ x9_1 ((rd_T34 l0 (rd t182 x10_1)).f0) x196001_18 x196002_38 ((rd_T34 l0 (rd t182 x10_1)).f3) t200 t201 t202 _ ?side1 ?side2 A52.out).mono ?_); (case side1 => repeat (first | exact (Kd.R_reads' HO_9.out).2.2 | (with_reducible refine Kd.C_alloc ?_ _) | (with_reducible refine Kd.C_drewN ?_ _) | (with_reducible refine Kd.C_drew ?_))); (case side2 => exact (Kd.R_reads' HO_9.out).2.1); rintro e w85 ⟨v203, rfl, ho0, hb⟩; refine ⟨_, rfl, ?_⟩; have n0_ := Aside0.mk (Kd.R_below (by (with_reducible repeat (first | apply Kd.R_alloc | apply Kd.R_drewN | apply Kd.R_drew)); exact HO_7.out) hb); have n1_ := Aside0.mk (Kd.R_below (by (with_reducible repeat (first | apply Kd.R_alloc | apply Kd.R_drewN | apply Kd.R_drew)); exact HO_8.out) hb); have n2_ := Aside0.mk (Kd.R_elder' (by (with_reducible repeat (first | apply Kd.R_alloc | apply Kd.R_drewN | apply Kd.R_drew)); exact HO_9.out) (Kd.R_base ho0) hb); have n3_ := Aside0.mk (Kd.R_lower (Kd.R_newB (Kd.R_newB (Kd.R_new' ho0 (Kd.R_lt (by (with_reducible repeat (first | apply Kd.R_alloc | apply Kd.R_drewN | apply Kd.R_drew)); exact HO_9.out))) (g := gb194) (o := .cells #[.int .i64 ((rd_T34 l0 (rd t182 x10_1)).f0), .int .i64 ((rd_T34 l0 (rd t182 x10_1)).f1), .int .i64 ((rd_T34 l0 (rd t182 x10_1)).f2), .int .i64 ((rd_T34 l0 (rd t182 x10_1)).f3)] 34 (0, 0)) (by (with_reducible repeat (first | refine blk_drewN ?_ _ | refine blk_drew ?_ | refine blk_alloc ?_ _)); exact BK194.out)) (g := gb195) (o := .cells #[.int .i64 ((rd_T34 l0 (rd t182 x10_1)).f0), .int .i64 x196001_18, .int .i64 x196002_38, .int .i64 ((rd_T34 l0 (rd t182 x10_1)).f3)] 34 (0, 0)) (by (with_reducible repeat (first | refine blk_drewN ?_ _ | refine blk_drew ?_ | refine blk_alloc ?_ _)); exact BK195.out)) (below_size (by repeat (first | (with_reducible first | exact HB.out | apply below_alloc | apply pw_below_drewN | apply below_drew1 | refine below_set ?_ GE181.out | refine below_set ?_ GE194.out | refine below_set ?_ GE195.out) | exact HB.out)))); have n4_ := Aside0.mk (blk_below_u BK181.out hb); have n5_ := Aside0.mk (blk_below_u BK194.out hb); have n6_ := Aside0.mk (blk_below_u BK195.out hb); have n7_ := Aside0.mk (below_step (by repeat (first | (with_reducible first | exact HB.out | apply below_alloc | apply pw_below_drewN | apply below_drew1 | refine below_set ?_ GE181.out | refine below_set ?_ GE194.out | refine below_set ?_ GE195.out) | exact HB.out)) hb); clear HO_7; clear HO_8; clear HO_9; clear BK181; clear BK194; clear BK195; clear HB; have HO_7 := n0_; have HO_8 := n1_; have HO_9 := n2_; have HO204 := n3_; have BK181 := n4_; have BK194 := n5_; have BK195 := n6_; have HB := n7_; clear n0_ n1_ n2_ n3_ n4_ n5_ n6_ n7_; (try clear hb); (try clear hb2); (try clear hk); (try clear hi); (try clear ho0)) | ((with_reducible refine gate_dst (N := 13) rfl ?_); refine box_event ?hg (N := 13) ?hd (cs := #[.int .i64 0, .int .i64 0, .slice none 0 0]) (t := 31) ?hr ?_; (case hd => rfl); (case hg => rfl); (case hr => first | (go_simp; done) | (go_simp; rfl)); intro gb205 hg w86 hbox hb; have n0_ := Aside0.mk (Kd.R_below (by (with_reducible repeat (first | apply Kd.R_alloc | apply Kd.R_drewN | apply Kd.R_drew)); exact HO_7.out) hb); have n1_ := Aside0.mk (Kd.R_below (by (with_reducible repeat (first | apply Kd.R_alloc | apply Kd.R_drewN | apply Kd.R_drew)); exact HO_8.out) hb); have n2_ := Aside0.mk (Kd.R_below (by (with_reducible repeat (first | apply Kd.R_alloc | apply Kd.R_drewN | apply Kd.R_drew)); exact HO_9.out) hb); have n3_ := Aside0.mk (Kd.R_below (by (with_reducible repeat (first | apply Kd.R_alloc | apply Kd.R_drewN | apply Kd.R_drew)); exact HO204.out) hb); have n4_ := Aside0.mk (blk_below_u BK181.out hb); have n5_ := Aside0.mk (blk_below_u BK194.out hb); have n6_ := Aside0.mk (blk_below_u BK195.out hb); have n7_ := Aside0.mk (below_step (by repeat (first | (with_reducible first | exact HB.out | apply below_alloc | apply pw_below_drewN | apply below_drew1 | refine below_set ?_ GE181.out | refine below_set ?_ GE194.out | refine below_set ?_ GE195.out) | exact HB.out)) hb); have n8_ := Aside0.mk (hbox); have n9_ := Aside0.mk ((by rw [hg]; exact (below_size (by repeat (first | (with_reducible first | exact HB.out | apply below_alloc | apply pw_below_drewN | apply below_drew1 | refine below_set ?_ GE181.out | refine below_set ?_ GE194.out | refine below_set ?_ GE195.out) | exact HB.out))) : w.heap.size ≤ gb205)); have n10_ := Aside0.mk ((by rw [hg]; exact (below_size (by repeat (first | (with_reducible first | exact HB.out | apply below_alloc | apply pw_below_drewN | apply below_drew1 | refine below_set ?_ GE181.out | refine below_set ?_ GE194.out | refine below_set ?_ GE195.out) | exact HB.out))) : w.heap.size ≤ gb205)); have n11_ := Aside0.mk ((by rw [hg]; exact Nat.ne_of_lt (blk_lt_u BK181.out) : gb181 ≠ gb205)); have n12_ := Aside0.mk ((by rw [hg]; exact Nat.ne_of_gt (blk_lt_u BK181.out) : gb205 ≠ gb181)); have n13_ := Aside0.mk ((by rw [hg]; exact Nat.ne_of_lt (blk_lt_u BK194.out) : gb194 ≠ gb205)); have n14_ := Aside0.mk ((by rw [hg]; exact Nat.ne_of_gt (blk_lt_u BK194.out) : gb205 ≠ gb194)); have n15_ := Aside0.mk ((by rw [hg]; exact Nat.ne_of_lt (blk_lt_u BK195.out) : gb195 ≠ gb205)); have n16_ := Aside0.mk ((by rw [hg]; exact Nat.ne_of_gt (blk_lt_u BK195.out) : gb205 ≠ gb195)); clear HO_7; clear HO_8; clear HO_9; clear HO204; clear BK181; clear BK194; clear BK195; clear HB; have HO_7 := n0_; have HO_8 := n1_; have HO_9 := n2_; have HO204 := n3_; have BK181 := n4_; have BK194 := n5_; have BK195 := n6_; have HB := n7_; have BK205 := n8_; have GW205 := n9_; have GE205 := n10_; have NB181_205 := n11_; have NB205_181 := n12_; have NB194_205 := n13_; have NB205_194 := n14_; have NB195_205 := n15_; have NB205_195 := n16_; clear n0_ n1_ n2_ n3_ n4_ n5_ n6_ n7_ n8_ n9_ n10_ n11_ n12_ n13_ n14_ n15_ n16_; clear hb hbox hg; have hnb87 := NB205_181.out; have hnc87 := NB181_205.out; have hnb88 := NB205_194.out; have hnc88 := NB194_205.out; have hnb89 := NB205_195.out; have hnc89 := NB195_205.out; obtain ⟨hcz90_0, hcz90_1, hcz90_2⟩ := blk_c3 BK205.out; obtain ⟨hfz90_0, hfz90_1, hfz90_2⟩ := blk_f3 BK205.out; obtain ⟨Ao91, co91, eo91⟩ := Kd.R_slice HO204.out; subst eo91; have hnb92 := NB194_181.out; have hnc92 := NB181_194.out; obtain ⟨hcz93_0, hcz93_1, hcz93_2, hcz93_3⟩ := blk_c4 BK194.out; obtain ⟨hfz93_0, hfz93_1, hfz93_2, hfz93_3⟩ := blk_f4 BK194.out; obtain ⟨hcz94_0, hcz94_1, hcz94_2, hcz94_3⟩ := blk_c4 BK195.out; obtain ⟨hfz94_0, hfz94_1, hfz94_2, hfz94_3⟩ := blk_f4 BK195.out) | ((with_reducible refine gate_callee (f := 21) rfl ?_); refine goesL_ (some 71) rfl rfl Try.func21 (by kernel_rfl) rfl #[.slice Ao84 x9_1.length co84, .int .i64 x196001_18, .int .i64 x196002_38] rfl (by (try simp only [List.map_toArray, List.map_cons, List.map_nil]); first | done | rfl | (simp only [List.length_drop, List.length_take]; rfl)) ?_; (with_reducible refine (spec_l5Both.calls kj38 _ _ x9_1 x196001_18 x196002_38 t206 t207 t208 _ ?side1 ?side2 A54.out).mono ?_); (case side1 => refine (Kd.R_reads' (e := 34) (base := w.heap.size) (ok := fun k_ => ((k_ ≠ gb194 ∧ k_ ≠ gb195) ∧ some k_ ≠ (.slice Ao91 t202.length co91 : Value).ownBlock)) (n := x9_1.length) (c := co84) ?_).2.2; exact (by (with_reducible repeat (first | apply Kd.R_alloc | apply Kd.R_drewN | apply Kd.R_drew)); exact (Kd.R_mono (Kd.R_far (p := ⟨gb205, 2, none⟩) (Kd.R_far (p := ⟨gb205, 1, none⟩) (Kd.R_far (p := ⟨gb205, 0, none⟩) (Kd.R_types HO_9.out BK205.out (by decide)) (fun _ hk => hk.2) (.int .i64 t200)) (fun _ hk => hk.2) (.int .i64 t201)) (fun _ hk => hk.2) (.slice Ao91 t202.length co91)) (fun _ h_ => h_.1)))); (case side2 => exact (Kd.R_reads' HO_9.out).2.1); rintro e w95 ⟨v209, rfl, ho0, hb⟩; refine ⟨_, rfl, ?_⟩; have n0_ := Aside0.mk (Kd.R_below (by (with_reducible repeat (first | apply Kd.R_alloc | apply Kd.R_drewN | apply Kd.R_drew)); exact (Kd.R_mono (Kd.R_far (p := ⟨gb205, 2, none⟩) (Kd.R_far (p := ⟨gb205, 1, none⟩) (Kd.R_far (p := ⟨gb205, 0, none⟩) (Kd.R_types HO_7.out BK205.out (by decide)) (fun _ hk => hk.2) (.int .i64 t200)) (fun _ hk => hk.2) (.int .i64 t201)) (fun _ hk => hk.2) (.slice Ao91 t202.length co91)) (fun _ h_ => h_.1))) hb); have n1_ := Aside0.mk (Kd.R_below (by (with_reducible repeat (first | apply Kd.R_alloc | apply Kd.R_drewN | apply Kd.R_drew)); exact (Kd.R_mono (Kd.R_far (p := ⟨gb205, 2, none⟩) (Kd.R_far (p := ⟨gb205, 1, none⟩) (Kd.R_far (p := ⟨gb205, 0, none⟩) (Kd.R_types HO_8.out BK205.out (by decide)) (fun _ hk => hk.2) (.int .i64 t200)) (fun _ hk => hk.2) (.int .i64 t201)) (fun _ hk => hk.2) (.slice Ao91 t202.length co91)) (fun _ h_ => h_.1))) hb); have n2_ := Aside0.mk (Kd.R_elder' (by (with_reducible repeat (first | apply Kd.R_alloc | apply Kd.R_drewN | apply Kd.R_drew)); exact (Kd.R_mono (Kd.R_far (p := ⟨gb205, 2, none⟩) (Kd.R_far (p := ⟨gb205, 1, none⟩) (Kd.R_far (p := ⟨gb205, 0, none⟩) (Kd.R_types HO_9.out BK205.out (by decide)) (fun _ hk => hk.2) (.int .i64 t200)) (fun _ hk => hk.2) (.int .i64 t201)) (fun _ hk => hk.2) (.slice Ao91 t202.length co91)) (fun _ h_ => h_.1))) (Kd.R_base ho0) hb); have n3_ := Aside0.mk (Kd.R_elder' (by (with_reducible repeat (first | apply Kd.R_alloc | apply Kd.R_drewN | apply Kd.R_drew)); exact (Kd.R_mono (Kd.R_far (p := ⟨gb205, 2, none⟩) (Kd.R_far (p := ⟨gb205, 1, none⟩) (Kd.R_far (p := ⟨gb205, 0, none⟩) (Kd.R_types HO204.out BK205.out (by decide)) (fun _ hk => hk.2) (.int .i64 t200)) (fun _ hk => hk.2) (.int .i64 t201)) (fun _ hk => hk.2) (.slice Ao91 t202.length co91)) (fun _ h_ => h_.1))) (Kd.R_base ho0) hb); have n4_ := Aside0.mk (Kd.R_lower (Kd.R_newB (Kd.R_newB (Kd.R_new' (Kd.R_new' ho0 (Kd.R_lt (by (with_reducible repeat (first | apply Kd.R_alloc | apply Kd.R_drewN | apply Kd.R_drew)); exact (Kd.R_mono (Kd.R_far (p := ⟨gb205, 2, none⟩) (Kd.R_far (p := ⟨gb205, 1, none⟩) (Kd.R_far (p := ⟨gb205, 0, none⟩) (Kd.R_types HO_9.out BK205.out (by decide)) (fun _ hk => hk.2) (.int .i64 t200)) (fun _ hk => hk.2) (.int .i64 t201)) (fun _ hk => hk.2) (.slice Ao91 t202.length co91)) (fun _ h_ => h_.1))))) (Kd.R_lt (by (with_reducible repeat (first | apply Kd.R_alloc | apply Kd.R_drewN | apply Kd.R_drew)); exact (Kd.R_mono (Kd.R_far (p := ⟨gb205, 2, none⟩) (Kd.R_far (p := ⟨gb205, 1, none⟩) (Kd.R_far (p := ⟨gb205, 0, none⟩) (Kd.R_types HO204.out BK205.out (by decide)) (fun _ hk => hk.2) (.int .i64 t200)) (fun _ hk => hk.2) (.int .i64 t201)) (fun _ hk => hk.2) (.slice Ao91 t202.length co91)) (fun _ h_ => h_.1))))) (g := gb194) (o := .cells #[.int .i64 ((rd_T34 l0 (rd t182 x10_1)).f0), .int .i64 ((rd_T34 l0 (rd t182 x10_1)).f1), .int .i64 ((rd_T34 l0 (rd t182 x10_1)).f2), .int .i64 ((rd_T34 l0 (rd t182 x10_1)).f3)] 34 (0, 0)) (by (with_reducible repeat (first | refine blk_drewN ?_ _ | refine blk_drew ?_ | refine blk_alloc ?_ _)); refine blk_far ?_ NB194_205.out _; (with_reducible repeat (first | refine blk_drewN ?_ _ | refine blk_drew ?_ | refine blk_alloc ?_ _)); refine blk_far ?_ NB194_205.out _; (with_reducible repeat (first | refine blk_drewN ?_ _ | refine blk_drew ?_ | refine blk_alloc ?_ _)); refine blk_far ?_ NB194_205.out _; (with_reducible repeat (first | refine blk_drewN ?_ _ | refine blk_drew ?_ | refine blk_alloc ?_ _)); exact BK194.out)) (g := gb195) (o := .cells #[.int .i64 ((rd_T34 l0 (rd t182 x10_1)).f0), .int .i64 x196001_18, .int .i64 x196002_38, .int .i64 ((rd_T34 l0 (rd t182 x10_1)).f3)] 34 (0, 0)) (by (with_reducible repeat (first | refine blk_drewN ?_ _ | refine blk_drew ?_ | refine blk_alloc ?_ _)); refine blk_far ?_ NB195_205.out _; (with_reducible repeat (first | refine blk_drewN ?_ _ | refine blk_drew ?_ | refine blk_alloc ?_ _)); refine blk_far ?_ NB195_205.out _; (with_reducible repeat (first | refine blk_drewN ?_ _ | refine blk_drew ?_ | refine blk_alloc ?_ _)); refine blk_far ?_ NB195_205.out _; (with_reducible repeat (first | refine blk_drewN ?_ _ | refine blk_drew ?_ | refine blk_alloc ?_ _)); exact BK195.out)) (below_size (by repeat (first | (with_reducible first | exact HB.out | apply below_alloc | apply pw_below_drewN | apply below_drew1 | refine below_set ?_ GE181.out | refine below_set ?_ GE194.out | refine below_set ?_ GE195.out | refine below_set ?_ GE205.out) | exact HB.out)))); have n5_ := Aside0.mk (blk_below (g := gb181) (o := .cells #[.int .i64 x182000_1, .int .i64 x182001_1, .slice none 0 0] 31 (0, 0)) (by (with_reducible repeat (first | refine blk_drewN ?_ _ | refine blk_drew ?_ | refine blk_alloc ?_ _)); refine blk_far ?_ NB181_205.out _; (with_reducible repeat (first | refine blk_drewN ?_ _ | refine blk_drew ?_ | refine blk_alloc ?_ _)); refine blk_far ?_ NB181_205.out _; (with_reducible repeat (first | refine blk_drewN ?_ _ | refine blk_drew ?_ | refine blk_alloc ?_ _)); refine blk_far ?_ NB181_205.out _; (with_reducible repeat (first | refine blk_drewN ?_ _ | refine blk_drew ?_ | refine blk_alloc ?_ _)); exact BK181.out) hb); have n6_ := Aside0.mk (blk_below (g := gb194) (o := .cells #[.int .i64 ((rd_T34 l0 (rd t182 x10_1)).f0), .int .i64 ((rd_T34 l0 (rd t182 x10_1)).f1), .int .i64 ((rd_T34 l0 (rd t182 x10_1)).f2), .int .i64 ((rd_T34 l0 (rd t182 x10_1)).f3)] 34 (0, 0)) (by (with_reducible repeat (first | refine blk_drewN ?_ _ | refine blk_drew ?_ | refine blk_alloc ?_ _)); refine blk_far ?_ NB194_205.out _; (with_reducible repeat (first | refine blk_drewN ?_ _ | refine blk_drew ?_ | refine blk_alloc ?_ _)); refine blk_far ?_ NB194_205.out _; (with_reducible repeat (first | refine blk_drewN ?_ _ | refine blk_drew ?_ | refine blk_alloc ?_ _)); refine blk_far ?_ NB194_205.out _; (with_reducible repeat (first | refine blk_drewN ?_ _ | refine blk_drew ?_ | refine blk_alloc ?_ _)); exact BK194.out) hb); have n7_ := Aside0.mk (blk_below (g := gb195) (o := .cells #[.int .i64 ((rd_T34 l0 (rd t182 x10_1)).f0), .int .i64 x196001_18, .int .i64 x196002_38, .int .i64 ((rd_T34 l0 (rd t182 x10_1)).f3)] 34 (0, 0)) (by (with_reducible repeat (first | refine blk_drewN ?_ _ | refine blk_drew ?_ | refine blk_alloc ?_ _)); refine blk_far ?_ NB195_205.out _; (with_reducible repeat (first | refine blk_drewN ?_ _ | refine blk_drew ?_ | refine blk_alloc ?_ _)); refine blk_far ?_ NB195_205.out _; (with_reducible repeat (first | refine blk_drewN ?_ _ | refine blk_drew ?_ | refine blk_alloc ?_ _)); refine blk_far ?_ NB195_205.out _; (with_reducible repeat (first | refine blk_drewN ?_ _ | refine blk_drew ?_ | refine blk_alloc ?_ _)); exact BK195.out) hb); have n8_ := Aside0.mk (blk_below (g := gb205) (o := .cells #[.int .i64 t200, .int .i64 t201, .slice Ao91 t202.length co91] 31 (0, 0)) (by (with_reducible repeat (first | refine blk_drewN ?_ _ | refine blk_drew ?_ | refine blk_alloc ?_ _)); refine blk_put (cs := #[.int .i64 t200, .int .i64 t201, .slice none 0 0]) ?_ 2 _ rfl; (with_reducible repeat (first | refine blk_drewN ?_ _ | refine blk_drew ?_ | refine blk_alloc ?_ _)); refine blk_put (cs := #[.int .i64 t200, .int .i64 0, .slice none 0 0]) ?_ 1 _ rfl; (with_reducible repeat (first | refine blk_drewN ?_ _ | refine blk_drew ?_ | refine blk_alloc ?_ _)); refine blk_put (cs := #[.int .i64 0, .int .i64 0, .slice none 0 0]) ?_ 0 _ rfl; (with_reducible repeat (first | refine blk_drewN ?_ _ | refine blk_drew ?_ | refine blk_alloc ?_ _)); exact BK205.out) hb); have n9_ := Aside0.mk (below_step (by repeat (first | (with_reducible first | exact HB.out | apply below_alloc | apply pw_below_drewN | apply below_drew1 | refine below_set ?_ GE181.out | refine below_set ?_ GE194.out | refine below_set ?_ GE195.out | refine below_set ?_ GE205.out) | exact HB.out)) hb); clear HO_7; clear HO_8; clear HO_9; clear HO204; clear BK181; clear BK194; clear BK195; clear BK205; clear HB; have HO_7 := n0_; have HO_8 := n1_; have HO_9 := n2_; have HO204 := n3_; have HO210 := n4_; have BK181 := n5_; have BK194 := n6_; have BK195 := n7_; have BK205 := n8_; have HB := n9_; clear n0_ n1_ n2_ n3_ n4_ n5_ n6_ n7_ n8_ n9_; (try clear hb); (try clear hb2); (try clear hk); (try clear hi); (try clear ho0); obtain ⟨hcz96_0, hcz96_1, hcz96_2⟩ := blk_c3 BK205.out; obtain ⟨hfz96_0, hfz96_1, hfz96_2⟩ := blk_f3 BK205.out; obtain ⟨Ao97, co97, eo97⟩ := Kd.R_slice HO210.out; subst eo97; obtain ⟨hcz98_0, hcz98_1, hcz98_2⟩ := blk_c3 BK181.out; obtain ⟨hfz98_0, hfz98_1, hfz98_2⟩ := blk_f3 BK181.out))
               refine bodyPost_ret (results_cell_row rfl _ _ gb181 31 #[.int .i64 t206, .int .i64 0, .slice none 0 0] (0, 0) _ rfl (by (with_reducible repeat (first | refine blk_drewN ?_ _ | refine blk_drew ?_ | refine blk_alloc ?_ _)); refine blk_put (cs := #[.int .i64 t206, .int .i64 0, .slice none 0 0]) ?_ 2 _ rfl; (with_reducible repeat (first | refine blk_drewN ?_ _ | refine blk_drew ?_ | refine blk_alloc ?_ _)); refine blk_put (cs := #[.int .i64 t206, .int .i64 x182001_1, .slice none 0 0]) ?_ 1 _ rfl; (with_reducible repeat (first | refine blk_drewN ?_ _ | refine blk_drew ?_ | refine blk_alloc ?_ _)); refine blk_put (cs := #[.int .i64 x182000_1, .int .i64 x182001_1, .slice none 0 0]) ?_ 0 _ rfl; (with_reducible repeat (first | refine blk_drewN ?_ _ | refine blk_drew ?_ | refine blk_alloc ?_ _)); refine blk_far ?_ NB181_205.out _; (with_reducible repeat (first | refine blk_drewN ?_ _ | refine blk_drew ?_ | refine blk_alloc ?_ _)); refine blk_far ?_ NB181_205.out _; (with_reducible repeat (first | refine blk_drewN ?_ _ | refine blk_drew ?_ | refine blk_alloc ?_ _)); refine blk_far ?_ NB181_205.out _; (with_reducible repeat (first | refine blk_drewN ?_ _ | refine blk_drew ?_ | refine blk_alloc ?_ _)); exact BK181.out) Try.underlying31 rfl (by kernel_rfl)) rfl ?_
               exact ⟨_, by first | rfl | (simp [errW_none, errW_some] <;> rfl) | (simp only [← hji5]; first | rfl | (simp [errW_none, errW_some] <;> rfl)) | (simp [*, errW_none, errW_some] <;> rfl), by first | exact Kd.R_nil _ _ _ _ _ | exact Kd.N_nil _ _ _ _ _ | exact Kd.V_nil _ _ _ _ _ | exact Kd.Q_nil _ _ _ _ _ | exact Kd.S_nil _ _ _ _ _, by repeat (first | (with_reducible first | exact HB.out | apply below_alloc | apply pw_below_drewN | apply below_drew1 | refine below_set ?_ GE181.out | refine below_set ?_ GE194.out | refine below_set ?_ GE195.out | refine below_set ?_ GE205.out) | exact HB.out)⟩
             ·
              rw [if_neg c53] at H
              have c53b0 : (((rd_T34 l0 (rd t182 x10_1)).f0) == 7) = false := beq_eq_false_iff_ne.mpr c53
              have c53b1 : (((rd_T34 l0 (rd t182 x10_1)).f0) != 7) = true := bne_iff_ne.mpr c53
              by_cases c99 : t200 = 0
              ·
               rw [if_pos c99] at H
               have c99b0 : (t200 == 0) = true := beq_iff_eq.mpr c99
               have c99b1 : (t200 != 0) = false := bne_eq_false_iff_eq.mpr c99
               clear c99
               by_cases c100 : 0 ≤ x10_1
               ·
                rw [if_pos c100] at H
                have c100b0 : decide (0 ≤ x10_1) = true := decide_eq_true c100
                clear c100
                by_cases c101 : x10_1 < (t182.length : Int)
                ·
                 rw [if_pos c101] at H
                 have c101b0 : decide (x10_1 < (t182.length : Int)) = true := decide_eq_true c101
                 clear c101
                 by_cases c102 : 0 ≤ (rd t182 x10_1)
                 ·
                  rw [if_pos c102] at H
                  have c102b0 : decide (0 ≤ (rd t182 x10_1)) = true := decide_eq_true c102
                  clear c102
                  by_cases c103 : (rd t182 x10_1) < (x8_1.length : Int)
                  ·
                   rw [if_pos c103] at H
                   have c103b0 : decide ((rd t182 x10_1) < (x8_1.length : Int)) = true := decide_eq_true c103
                   clear c103
                   obtain ⟨y214, hy214⟩ : ∃ y_ : List Int, y_ = (x8_1.set ((rd t182 x10_1) : Int).toNat t201) := ⟨_, rfl⟩
                   replace H : (spec_l5Move.l0 kj38 l0 a1 t182 y214 t202 (wrap64 (x10_1 + 1))) = some (r1, r2, r3) := by first | (rw [hy214]; with_reducible exact H) | (have H2_ := (Option.bind_some _ _).symm.trans H; rw [hy214]; with_reducible exact H2_) | (have H2_ := (Option.bind_some _ _).symm.trans H; with_reducible exact H2_) | with_reducible exact H | (rw [hy214]; exact H) | exact H
                   have Ny214 := Aside0.mk hy214
                   clear hy214
                   have H' := Aside0.mk H
                   clear H
                   have hnb105 := NB195_181.out
                   have hnc105 := NB181_195.out
                   have hnb106 := NB195_194.out
                   have hnc106 := NB194_195.out
                   obtain ⟨hcz107_0, hcz107_1, hcz107_2, hcz107_3⟩ := blk_c4 BK195.out
                   obtain ⟨hfz107_0, hfz107_1, hfz107_2, hfz107_3⟩ := blk_f4 BK195.out
                   obtain ⟨Ao108, co108, eo108⟩ := Kd.R_slice HO_9.out
                   subst eo108
                   try go_wp2_with (first | ((with_reducible refine gate_callee (f := 20) rfl ?_); refine goesL_ (some 62) rfl rfl Try.func20 (by kernel_rfl) rfl #[.slice Ao108 x9_1.length co108, .agg #[.int .i64 ((rd_T34 l0 (rd t182 x10_1)).f0), .int .i64 x196001_18, .int .i64 x196002_38, .int .i64 ((rd_T34 l0 (rd t182 x10_1)).f3)]] rfl (by (try simp only [List.map_toArray, List.map_cons, List.map_nil]); first | done | rfl | (simp only [List.length_drop, List.length_take]; rfl)) ?_; (with_reducible refine (spec_l5Put.calls kj38 _ _ x9_1 ((rd_T34 l0 (rd t182 x10_1)).f0) x196001_18 x196002_38 ((rd_T34 l0 (rd t182 x10_1)).f3) t200 t201 t202 _ ?side1 ?side2 A52.out).mono ?_); (case side1 => repeat (first | exact (Kd.R_reads' HO_9.out).2.2 | (with_reducible refine Kd.C_alloc ?_ _) | (with_reducible refine Kd.C_drewN ?_ _) | (with_reducible refine Kd.C_drew ?_))); (case side2 => exact (Kd.R_reads' HO_9.out).2.1); rintro e w109 ⟨v203, rfl, ho0, hb⟩; refine ⟨_, rfl, ?_⟩; have n0_ := Aside0.mk (Kd.R_below (by (with_reducible repeat (first | apply Kd.R_alloc | apply Kd.R_drewN | apply Kd.R_drew)); exact HO_7.out) hb); have n1_ := Aside0.mk (Kd.R_below (by (with_reducible repeat (first | apply Kd.R_alloc | apply Kd.R_drewN | apply Kd.R_drew)); exact HO_8.out) hb); have n2_ := Aside0.mk (Kd.R_elder' (by (with_reducible repeat (first | apply Kd.R_alloc | apply Kd.R_drewN | apply Kd.R_drew)); exact HO_9.out) (Kd.R_base ho0) hb); have n3_ := Aside0.mk (Kd.R_lower (Kd.R_newB (Kd.R_newB (Kd.R_new' ho0 (Kd.R_lt (by (with_reducible repeat (first | apply Kd.R_alloc | apply Kd.R_drewN | apply Kd.R_drew)); exact HO_9.out))) (g := gb194) (o := .cells #[.int .i64 ((rd_T34 l0 (rd t182 x10_1)).f0), .int .i64 ((rd_T34 l0 (rd t182 x10_1)).f1), .int .i64 ((rd_T34 l0 (rd t182 x10_1)).f2), .int .i64 ((rd_T34 l0 (rd t182 x10_1)).f3)] 34 (0, 0)) (by (with_reducible repeat (first | refine blk_drewN ?_ _ | refine blk_drew ?_ | refine blk_alloc ?_ _)); exact BK194.out)) (g := gb195) (o := .cells #[.int .i64 ((rd_T34 l0 (rd t182 x10_1)).f0), .int .i64 x196001_18, .int .i64 x196002_38, .int .i64 ((rd_T34 l0 (rd t182 x10_1)).f3)] 34 (0, 0)) (by (with_reducible repeat (first | refine blk_drewN ?_ _ | refine blk_drew ?_ | refine blk_alloc ?_ _)); exact BK195.out)) (below_size (by repeat (first | (with_reducible first | exact HB.out | apply below_alloc | apply pw_below_drewN | apply below_drew1 | refine below_set ?_ GE181.out | refine below_set ?_ GE194.out | refine below_set ?_ GE195.out) | exact HB.out)))); have n4_ := Aside0.mk (blk_below_u BK181.out hb); have n5_ := Aside0.mk (blk_below_u BK194.out hb); have n6_ := Aside0.mk (blk_below_u BK195.out hb); have n7_ := Aside0.mk (below_step (by repeat (first | (with_reducible first | exact HB.out | apply below_alloc | apply pw_below_drewN | apply below_drew1 | refine below_set ?_ GE181.out | refine below_set ?_ GE194.out | refine below_set ?_ GE195.out) | exact HB.out)) hb); clear HO_7; clear HO_8; clear HO_9; clear BK181; clear BK194; clear BK195; clear HB; have HO_7 := n0_; have HO_8 := n1_; have HO_9 := n2_; have HO204 := n3_; have BK181 := n4_; have BK194 := n5_; have BK195 := n6_; have HB := n7_; clear n0_ n1_ n2_ n3_ n4_ n5_ n6_ n7_; (try clear hb); (try clear hb2); (try clear hk); (try clear hi); (try clear ho0)) | ((with_reducible refine gate_dst (N := 13) rfl ?_); refine box_event ?hg (N := 13) ?hd (cs := #[.int .i64 0, .int .i64 0, .slice none 0 0]) (t := 31) ?hr ?_; (case hd => rfl); (case hg => rfl); (case hr => first | (go_simp; done) | (go_simp; rfl)); intro gb205 hg w110 hbox hb; have n0_ := Aside0.mk (Kd.R_below (by (with_reducible repeat (first | apply Kd.R_alloc | apply Kd.R_drewN | apply Kd.R_drew)); exact HO_7.out) hb); have n1_ := Aside0.mk (Kd.R_below (by (with_reducible repeat (first | apply Kd.R_alloc | apply Kd.R_drewN | apply Kd.R_drew)); exact HO_8.out) hb); have n2_ := Aside0.mk (Kd.R_below (by (with_reducible repeat (first | apply Kd.R_alloc | apply Kd.R_drewN | apply Kd.R_drew)); exact HO_9.out) hb); have n3_ := Aside0.mk (Kd.R_below (by (with_reducible repeat (first | apply Kd.R_alloc | apply Kd.R_drewN | apply Kd.R_drew)); exact HO204.out) hb); have n4_ := Aside0.mk (blk_below_u BK181.out hb); have n5_ := Aside0.mk (blk_below_u BK194.out hb); have n6_ := Aside0.mk (blk_below_u BK195.out hb); have n7_ := Aside0.mk (below_step (by repeat (first | (with_reducible first | exact HB.out | apply below_alloc | apply pw_below_drewN | apply below_drew1 | refine below_set ?_ GE181.out | refine below_set ?_ GE194.out | refine below_set ?_ GE195.out) | exact HB.out)) hb); have n8_ := Aside0.mk (hbox); have n9_ := Aside0.mk ((by rw [hg]; exact (below_size (by repeat (first | (with_reducible first | exact HB.out | apply below_alloc | apply pw_below_drewN | apply below_drew1 | refine below_set ?_ GE181.out | refine below_set ?_ GE194.out | refine below_set ?_ GE195.out) | exact HB.out))) : w.heap.size ≤ gb205)); have n10_ := Aside0.mk ((by rw [hg]; exact (below_size (by repeat (first | (with_reducible first | exact HB.out | apply below_alloc | apply pw_below_drewN | apply below_drew1 | refine below_set ?_ GE181.out | refine below_set ?_ GE194.out | refine below_set ?_ GE195.out) | exact HB.out))) : w.heap.size ≤ gb205)); have n11_ := Aside0.mk ((by rw [hg]; exact Nat.ne_of_lt (blk_lt_u BK181.out) : gb181 ≠ gb205)); have n12_ := Aside0.mk ((by rw [hg]; exact Nat.ne_of_gt (blk_lt_u BK181.out) : gb205 ≠ gb181)); have n13_ := Aside0.mk ((by rw [hg]; exact Nat.ne_of_lt (blk_lt_u BK194.out) : gb194 ≠ gb205)); have n14_ := Aside0.mk ((by rw [hg]; exact Nat.ne_of_gt (blk_lt_u BK194.out) : gb205 ≠ gb194)); have n15_ := Aside0.mk ((by rw [hg]; exact Nat.ne_of_lt (blk_lt_u BK195.out) : gb195 ≠ gb205)); have n16_ := Aside0.mk ((by rw [hg]; exact Nat.ne_of_gt (blk_lt_u BK195.out) : gb205 ≠ gb195)); clear HO_7; clear HO_8; clear HO_9; clear HO204; clear BK181; clear BK194; clear BK195; clear HB; have HO_7 := n0_; have HO_8 := n1_; have HO_9 := n2_; have HO204 := n3_; have BK181 := n4_; have BK194 := n5_; have BK195 := n6_; have HB := n7_; have BK205 := n8_; have GW205 := n9_; have GE205 := n10_; have NB181_205 := n11_; have NB205_181 := n12_; have NB194_205 := n13_; have NB205_194 := n14_; have NB195_205 := n15_; have NB205_195 := n16_; clear n0_ n1_ n2_ n3_ n4_ n5_ n6_ n7_ n8_ n9_ n10_ n11_ n12_ n13_ n14_ n15_ n16_; clear hb hbox hg; have hnb111 := NB205_181.out; have hnc111 := NB181_205.out; have hnb112 := NB205_194.out; have hnc112 := NB194_205.out; have hnb113 := NB205_195.out; have hnc113 := NB195_205.out; obtain ⟨hcz114_0, hcz114_1, hcz114_2⟩ := blk_c3 BK205.out; obtain ⟨hfz114_0, hfz114_1, hfz114_2⟩ := blk_f3 BK205.out; obtain ⟨Ao115, co115, eo115⟩ := Kd.R_slice HO204.out; subst eo115; have hnb116 := NB194_181.out; have hnc116 := NB181_194.out; obtain ⟨hcz117_0, hcz117_1, hcz117_2, hcz117_3⟩ := blk_c4 BK194.out; obtain ⟨hfz117_0, hfz117_1, hfz117_2, hfz117_3⟩ := blk_f4 BK194.out))
                   have n0_ : Aside0 (Kd.R (Kd.int .i64) 2 (((w110.setCell ⟨gb205, 0, none⟩ (.int .i64 t200)).setCell ⟨gb205, 1, none⟩ (.int .i64 t201)).setCell ⟨gb205, 2, none⟩ (.slice Ao115 t202.length co115)) w.heap.size (fun k_ => some k_ ≠ (v186 : Value).ownBlock) (.slice (some ad192) t182.length co20) t182) := ⟨by (with_reducible repeat (first | apply Kd.R_alloc | apply Kd.R_drewN | apply Kd.R_drew)); exact Kd.R_mono (Kd.R_far (p := ⟨gb205, 2, none⟩) (Kd.R_far (p := ⟨gb205, 1, none⟩) (Kd.R_far (p := ⟨gb205, 0, none⟩) (Kd.R_types HO_7.out BK205.out (by decide)) (fun _ hk => hk.2) (.int .i64 t200)) (fun _ hk => hk.2) (.int .i64 t201)) (fun _ hk => hk.2) (.slice Ao115 t202.length co115)) (fun _ hk => hk.1)⟩
                   have n1_ : Aside0 (Kd.R (Kd.int .i64) 2 (((w110.setCell ⟨gb205, 0, none⟩ (.int .i64 t200)).setCell ⟨gb205, 1, none⟩ (.int .i64 t201)).setCell ⟨gb205, 2, none⟩ (.slice Ao115 t202.length co115)) w.heap.size (fun k_ => some k_ ≠ (.slice (some ad192) t182.length co20 : Value).ownBlock) v186 x8_1) := ⟨by (with_reducible repeat (first | apply Kd.R_alloc | apply Kd.R_drewN | apply Kd.R_drew)); exact Kd.R_mono (Kd.R_far (p := ⟨gb205, 2, none⟩) (Kd.R_far (p := ⟨gb205, 1, none⟩) (Kd.R_far (p := ⟨gb205, 0, none⟩) (Kd.R_types HO_8.out BK205.out (by decide)) (fun _ hk => hk.2) (.int .i64 t200)) (fun _ hk => hk.2) (.int .i64 t201)) (fun _ hk => hk.2) (.slice Ao115 t202.length co115)) (fun _ hk => hk.1)⟩
                   have n2_ : Aside0 (Kd.R k34 34 (((w110.setCell ⟨gb205, 0, none⟩ (.int .i64 t200)).setCell ⟨gb205, 1, none⟩ (.int .i64 t201)).setCell ⟨gb205, 2, none⟩ (.slice Ao115 t202.length co115)) w.heap.size (fun k_ => some k_ ≠ (.slice Ao115 t202.length co115 : Value).ownBlock ∧ k_ ≠ gb194 ∧ k_ ≠ gb195) (.slice Ao108 x9_1.length co108) x9_1) := ⟨by (with_reducible repeat (first | apply Kd.R_alloc | apply Kd.R_drewN | apply Kd.R_drew)); exact Kd.R_mono (Kd.R_far (p := ⟨gb205, 2, none⟩) (Kd.R_far (p := ⟨gb205, 1, none⟩) (Kd.R_far (p := ⟨gb205, 0, none⟩) (Kd.R_types HO_9.out BK205.out (by decide)) (fun _ hk => hk.2) (.int .i64 t200)) (fun _ hk => hk.2) (.int .i64 t201)) (fun _ hk => hk.2) (.slice Ao115 t202.length co115)) (fun _ hk => ⟨hk.1.2, ⟨hk.1.1.1, hk.1.1.2⟩⟩)⟩
                   have n3_ : Aside0 (Kd.R k34 34 (((w110.setCell ⟨gb205, 0, none⟩ (.int .i64 t200)).setCell ⟨gb205, 1, none⟩ (.int .i64 t201)).setCell ⟨gb205, 2, none⟩ (.slice Ao115 t202.length co115)) w.heap.size (fun k_ => some k_ ≠ (.slice Ao108 x9_1.length co108 : Value).ownBlock ∧ k_ ≠ gb194 ∧ k_ ≠ gb195) (.slice Ao115 t202.length co115) t202) := ⟨by (with_reducible repeat (first | apply Kd.R_alloc | apply Kd.R_drewN | apply Kd.R_drew)); exact Kd.R_mono (Kd.R_far (p := ⟨gb205, 2, none⟩) (Kd.R_far (p := ⟨gb205, 1, none⟩) (Kd.R_far (p := ⟨gb205, 0, none⟩) (Kd.R_types HO204.out BK205.out (by decide)) (fun _ hk => hk.2) (.int .i64 t200)) (fun _ hk => hk.2) (.int .i64 t201)) (fun _ hk => hk.2) (.slice Ao115 t202.length co115)) (fun _ hk => ⟨hk.1.1.1.2, ⟨hk.1.1.2, hk.1.2⟩⟩)⟩
                   have n4_ : Aside0 ((((w110.setCell ⟨gb205, 0, none⟩ (.int .i64 t200)).setCell ⟨gb205, 1, none⟩ (.int .i64 t201)).setCell ⟨gb205, 2, none⟩ (.slice Ao115 t202.length co115)).heap[gb181]? = some (.cells #[.int .i64 x182000_1, .int .i64 x182001_1, .slice none 0 0] 31 (0, 0))) := ⟨by (with_reducible repeat (first | refine blk_drewN ?_ _ | refine blk_drew ?_ | refine blk_alloc ?_ _)); refine blk_far ?_ NB181_205.out _; (with_reducible repeat (first | refine blk_drewN ?_ _ | refine blk_drew ?_ | refine blk_alloc ?_ _)); refine blk_far ?_ NB181_205.out _; (with_reducible repeat (first | refine blk_drewN ?_ _ | refine blk_drew ?_ | refine blk_alloc ?_ _)); refine blk_far ?_ NB181_205.out _; (with_reducible repeat (first | refine blk_drewN ?_ _ | refine blk_drew ?_ | refine blk_alloc ?_ _)); exact BK181.out⟩
                   have n5_ : Aside0 ((((w110.setCell ⟨gb205, 0, none⟩ (.int .i64 t200)).setCell ⟨gb205, 1, none⟩ (.int .i64 t201)).setCell ⟨gb205, 2, none⟩ (.slice Ao115 t202.length co115)).heap[gb194]? = some (.cells #[.int .i64 ((rd_T34 l0 (rd t182 x10_1)).f0), .int .i64 ((rd_T34 l0 (rd t182 x10_1)).f1), .int .i64 ((rd_T34 l0 (rd t182 x10_1)).f2), .int .i64 ((rd_T34 l0 (rd t182 x10_1)).f3)] 34 (0, 0))) := ⟨by (with_reducible repeat (first | refine blk_drewN ?_ _ | refine blk_drew ?_ | refine blk_alloc ?_ _)); refine blk_far ?_ NB194_205.out _; (with_reducible repeat (first | refine blk_drewN ?_ _ | refine blk_drew ?_ | refine blk_alloc ?_ _)); refine blk_far ?_ NB194_205.out _; (with_reducible repeat (first | refine blk_drewN ?_ _ | refine blk_drew ?_ | refine blk_alloc ?_ _)); refine blk_far ?_ NB194_205.out _; (with_reducible repeat (first | refine blk_drewN ?_ _ | refine blk_drew ?_ | refine blk_alloc ?_ _)); exact BK194.out⟩
                   have n6_ : Aside0 ((((w110.setCell ⟨gb205, 0, none⟩ (.int .i64 t200)).setCell ⟨gb205, 1, none⟩ (.int .i64 t201)).setCell ⟨gb205, 2, none⟩ (.slice Ao115 t202.length co115)).heap[gb195]? = some (.cells #[.int .i64 ((rd_T34 l0 (rd t182 x10_1)).f0), .int .i64 x196001_18, .int .i64 x196002_38, .int .i64 ((rd_T34 l0 (rd t182 x10_1)).f3)] 34 (0, 0))) := ⟨by (with_reducible repeat (first | refine blk_drewN ?_ _ | refine blk_drew ?_ | refine blk_alloc ?_ _)); refine blk_far ?_ NB195_205.out _; (with_reducible repeat (first | refine blk_drewN ?_ _ | refine blk_drew ?_ | refine blk_alloc ?_ _)); refine blk_far ?_ NB195_205.out _; (with_reducible repeat (first | refine blk_drewN ?_ _ | refine blk_drew ?_ | refine blk_alloc ?_ _)); refine blk_far ?_ NB195_205.out _; (with_reducible repeat (first | refine blk_drewN ?_ _ | refine blk_drew ?_ | refine blk_alloc ?_ _)); exact BK195.out⟩
                   have n7_ : Aside0 ((((w110.setCell ⟨gb205, 0, none⟩ (.int .i64 t200)).setCell ⟨gb205, 1, none⟩ (.int .i64 t201)).setCell ⟨gb205, 2, none⟩ (.slice Ao115 t202.length co115)).heap[gb205]? = some (.cells #[.int .i64 t200, .int .i64 t201, .slice Ao115 t202.length co115] 31 (0, 0))) := ⟨by (with_reducible repeat (first | refine blk_drewN ?_ _ | refine blk_drew ?_ | refine blk_alloc ?_ _)); refine blk_put (cs := #[.int .i64 t200, .int .i64 t201, .slice none 0 0]) ?_ 2 _ rfl; (with_reducible repeat (first | refine blk_drewN ?_ _ | refine blk_drew ?_ | refine blk_alloc ?_ _)); refine blk_put (cs := #[.int .i64 t200, .int .i64 0, .slice none 0 0]) ?_ 1 _ rfl; (with_reducible repeat (first | refine blk_drewN ?_ _ | refine blk_drew ?_ | refine blk_alloc ?_ _)); refine blk_put (cs := #[.int .i64 0, .int .i64 0, .slice none 0 0]) ?_ 0 _ rfl; (with_reducible repeat (first | refine blk_drewN ?_ _ | refine blk_drew ?_ | refine blk_alloc ?_ _)); exact BK205.out⟩
                   have n8_ : Aside0 (Below w.heap.size w (((w110.setCell ⟨gb205, 0, none⟩ (.int .i64 t200)).setCell ⟨gb205, 1, none⟩ (.int .i64 t201)).setCell ⟨gb205, 2, none⟩ (.slice Ao115 t202.length co115))) := ⟨by repeat (first | (with_reducible first | exact HB.out | apply below_alloc | apply pw_below_drewN | apply below_drew1 | refine below_set ?_ GE181.out | refine below_set ?_ GE194.out | refine below_set ?_ GE195.out | refine below_set ?_ GE205.out) | exact HB.out)⟩
                   (try clear HO_7)
                   (try clear HO_8)
                   (try clear HO_9)
                   (try clear HO204)
                   (try clear BK181)
                   (try clear BK194)
                   (try clear BK195)
                   (try clear BK205)
                   (try clear HB)
                   generalize (((w110.setCell ⟨gb205, 0, none⟩ (.int .i64 t200)).setCell ⟨gb205, 1, none⟩ (.int .i64 t201)).setCell ⟨gb205, 2, none⟩ (.slice Ao115 t202.length co115)) = w118 at n0_ n1_ n2_ n3_ n4_ n5_ n6_ n7_ n8_ ⊢
                   have HO_7 := n0_
                   have HO_8 := n1_
                   have HO_9 := n2_
                   have HO204 := n3_
                   have BK181 := n4_
                   have BK194 := n5_
                   have BK195 := n6_
                   have BK205 := n7_
                   have HB := n8_
                   clear n0_ n1_ n2_ n3_ n4_ n5_ n6_ n7_ n8_
                   have n0_ := Aside0.mk (Kd.R_drew HO_7.out)
                   have n1_ := Aside0.mk (Kd.R_drew HO_8.out)
                   have n2_ := Aside0.mk (Kd.R_drew HO_9.out)
                   have n3_ := Aside0.mk (Kd.R_drew HO204.out)
                   have n4_ := Aside0.mk (blk_drew BK181.out)
                   have n5_ := Aside0.mk (blk_drew BK194.out)
                   have n6_ := Aside0.mk (blk_drew BK195.out)
                   have n7_ := Aside0.mk (blk_drew BK205.out)
                   have n8_ := Aside0.mk (below_drew1 HB.out)
                   clear HO_7
                   clear HO_8
                   clear HO_9
                   clear HO204
                   clear BK181
                   clear BK194
                   clear BK195
                   clear BK205
                   clear HB
                   have HO_7 := n0_
                   have HO_8 := n1_
                   have HO_9 := n2_
                   have HO204 := n3_
                   have BK181 := n4_
                   have BK194 := n5_
                   have BK195 := n6_
                   have BK205 := n7_
                   have HB := n8_
                   clear n0_ n1_ n2_ n3_ n4_ n5_ n6_ n7_ n8_
                   have p213 : 0 ≤ (x10_1 : Int) := of_decide_eq_true (by first | (with_reducible assumption) | assumption)
                   have q213 : x10_1 < (t182.length : Int) := of_decide_eq_true (by first | (with_reducible assumption) | assumption)
                   obtain ⟨ad213, e213, hx213_0⟩ := Kd.at_int (Kd.R_reads' HO_7.out).2.2 x10_1 p213 q213
                   obtain rfl : ad192 = ad213 := (by injection e213)
                   replace p213 := eq_true p213
                   replace q213 := eq_true q213
                   have p104 : 0 ≤ ((rd t182 x10_1) : Int) := of_decide_eq_true (by first | (with_reducible assumption) | assumption)
                   have q104 : ((rd t182 x10_1) : Int) < ((x8_1.length : Int) : Int) := of_decide_eq_true (by first | (with_reducible assumption) | assumption)
                   obtain ⟨go104, co104, eo104, gb104, gl104, cl104, HG104⟩ := Kd.R_form HO_8.out (by omega)
                   (first | cases eo104 | (injection eo104 with ea_ en_ ec_; (first | subst ea_ | (injection ea_ with ea_; subst ea_)); subst ec_; clear en_))
                   have GB104 := Aside0.mk gb104
                   have GG104 := Aside0.mk HG104
                   clear gb104 gl104 HG104
                   obtain ⟨hx104_0, hf104_0⟩ := Kd.R_celln 0 HO_8.out ((rd t182 x10_1) : Int) p104 q104
                   replace p104 := eq_true p104
                   replace q104 := eq_true q104
                   have HP120 := Kd.R_putn HO_8.out ((rd t182 x10_1) : Int) t201
                   rw [← Ny214.out] at HP120
                   have HQ120 := Aside0.mk HP120
                   clear HP120
                   refine start_ (n := 9) (S := fun w' => w'.cell? ⟨gb205, 0, none⟩ = some (.int .i64 t200) ∧ w'.cell? ⟨gb205, 1, none⟩ = some (.int .i64 t201) ∧ w'.cell? ⟨gb205, 2, none⟩ = some (.slice Ao115 t202.length co115) ∧ w'.cell? (ad192.add (x10_1).toNat) = some (.int .i64 (rd t182 x10_1))) (ds := [8]) #[false, false, false, false, false, false, false, false, false] (by kernel_rfl) rfl rfl ⟨(blk_cell BK205.out 0).trans rfl, (blk_cell BK205.out 1).trans rfl, (blk_cell BK205.out 2).trans rfl, hx213_0⟩ (fun hHeld => ?_); refine with_tabW spec_l5Move.tab19 spec_l5Move.bits19 (fun HT_ HW_ => ?_)
                   generalize w118.drew = w119 at HO_7 HO_8 HO_9 HO204 BK181 BK194 BK195 BK205 HB GG104 HQ120 hf104_0 hx104_0 hx213_0 hHeld ⊢
                   refine pure_ (i := 0) (N := some 80) (v := ?_) (a' := ?_) #[true, false, false, false, false, false, false, false, false] rfl rfl (any_of HT_.out (by kernel_rfl)) (fun _ _ _ h => h) (Or.inl ⟨by rfl, ?_⟩) ?_ ?_
                   rotate_left
                   ·
                    intro w'
                    go_simp
                    with_reducible rfl
                   rotate_left
                   ·
                    simp only [Act.put, List.setIfInBounds_toArray, List.set_cons_zero, List.set_cons_succ, i64_w, i32_w]
                    rfl
                   refine pure_ (i := 1) (N := some 81) (v := ?_) (a' := ?_) #[true, true, false, false, false, false, false, false, false] rfl rfl (any_of HT_.out (by kernel_rfl)) (fun _ _ _ h => h) (Or.inl ⟨by rfl, ?_⟩) ?_ ?_
                   rotate_left
                   ·
                    intro w'
                    go_simp
                    with_reducible rfl
                   rotate_left
                   ·
                    simp only [Act.put, List.setIfInBounds_toArray, List.set_cons_zero, List.set_cons_succ, i64_w, i32_w]
                    rfl
                   refine pure_ (i := 2) (N := some 82) (v := ?_) (a' := ?_) #[true, true, true, false, false, false, false, false, false] rfl rfl (any_of HT_.out (by kernel_rfl)) (fun _ _ _ h => h) (Or.inl ⟨by rfl, ?_⟩) ?_ ?_
                   rotate_left
                   ·
                    intro w'
                    go_simp
                    with_reducible rfl
                   rotate_left
                   ·
                    simp only [Act.put, List.setIfInBounds_toArray, List.set_cons_zero, List.set_cons_succ, i64_w, i32_w]
                    rfl
                   refine pure_ (i := 3) (N := some 83) (v := ?_) (a' := ?_) #[true, true, true, true, false, false, false, false, false] rfl rfl (any_of HT_.out (by kernel_rfl)) (fun _ _ _ h => h) (Or.inl ⟨by rfl, ?_⟩) ?_ ?_
                   rotate_left
                   ·
                    intro w'
                    go_simp
                    with_reducible rfl
                   rotate_left
                   ·
                    simp only [Act.put, List.setIfInBounds_toArray, List.set_cons_zero, List.set_cons_succ, i64_w, i32_w]
                    rfl
                   refine pure_ (i := 5) (N := some 85) (v := ?_) (a' := ?_) #[true, true, true, true, false, true, false, false, false] rfl rfl (any_of HT_.out (by kernel_rfl)) (fun _ _ _ h => h) (Or.inl ⟨by rfl, ?_⟩) ?_ ?_
                   rotate_left
                   ·
                    intro w'
                    go_simp
                    with_reducible rfl
                   rotate_left
                   ·
                    simp only [Act.put, List.setIfInBounds_toArray, List.set_cons_zero, List.set_cons_succ, i64_w, i32_w]
                    rfl
                   refine take_ (i := 4) (N := some 84) (v := ?_) (a' := ?_) #[true, true, true, true, true, true, false, false, false] rfl rfl (take_ofW HT_.out HW_.out (by kernel_rfl)) (fun _ _ _ h => h) (Or.inl ⟨by rfl, ?_⟩) hHeld ?_ ?_
                   rotate_left
                   ·
                    rintro w' ⟨s0, s1, s2, s3⟩
                    go_simp
                    with_reducible rfl
                   rotate_left
                   ·
                    simp only [Act.put, List.setIfInBounds_toArray, List.set_cons_zero, List.set_cons_succ, i64_w, i32_w]
                    rfl
                   refine take_ (i := 6) (N := some 86) (v := ?_) (a' := ?_) #[true, true, true, true, true, true, true, false, false] rfl rfl (take_ofW HT_.out HW_.out (by kernel_rfl)) (fun _ _ _ h => h) (Or.inl ⟨by rfl, ?_⟩) hHeld ?_ ?_
                   rotate_left
                   ·
                    rintro w' ⟨s0, s1, s2, s3⟩
                    go_simp
                    with_reducible rfl
                   rotate_left
                   ·
                    simp only [Act.put, List.setIfInBounds_toArray, List.set_cons_zero, List.set_cons_succ, i64_w, i32_w]
                    rfl
                   refine pure_ (i := 7) (N := some 87) (v := ?_) (a' := ?_) #[true, true, true, true, true, true, true, true, false] rfl rfl (any_of HT_.out (by kernel_rfl)) (fun _ _ _ h => h) (Or.inl ⟨by rfl, ?_⟩) ?_ ?_
                   rotate_left
                   ·
                    intro w'
                    go_simp
                    with_reducible rfl
                   rotate_left
                   ·
                    simp only [Act.put, List.setIfInBounds_toArray, List.set_cons_zero, List.set_cons_succ, i64_w, i32_w]
                    rfl
                   refine last_ (i := 8) (N := none) #[true, true, true, true, true, true, true, true, true] rfl rfl (one_of HT_.out (by kernel_rfl)) (by decide) (fun K hK => ?_)
                   refine skip_ (w1 := ?_) (by rfl) rfl ?_ ?_
                   rotate_left
                   ·
                    go_simp
                    rfl
                   refine hK.out _ _ ?_
                   clear hK K
                   refine done_ (done_of HT_.out (by kernel_rfl)) ?_
                   try go_wp2
                   go_roundg kj38
                   case measure => have := HK1.out; have := HJ18.out; have := HJ38.out; omega
                   case rel => exact ⟨(y214), (t202), (wrap64 (x10_1 + 1)), (x182000_1), (x182001_1), (by first | rfl | (simp; done) | (simp [*]; done)), H', ⟨by have := HK1.out; have := HJ18.out; have := HJ38.out; omega⟩, ⟨by (with_reducible repeat (first | apply Kd.R_alloc | apply Kd.R_drewN | apply Kd.R_drew)); exact Kd.R_mono (Kd.R_far (p := ⟨go104, ((rd t182 x10_1) : Int).toNat, none⟩) (Kd.R_mono HO_7.out (fun k_ hk => (⟨hk, fun e_ => hk (by rw [e_]; rfl)⟩ : _ ∧ k_ ≠ go104))) (fun _ hk => hk.2) (.int .i64 t201)) (fun _ hk => hk.1)⟩, ⟨by (with_reducible repeat (first | apply Kd.R_alloc | apply Kd.R_drewN | apply Kd.R_drew)); exact HQ120.out⟩, ⟨by (with_reducible repeat (first | apply Kd.R_alloc | apply Kd.R_drewN | apply Kd.R_drew)); exact Kd.R_mono (Kd.R_far (p := ⟨go104, ((rd t182 x10_1) : Int).toNat, none⟩) (Kd.R_types HO204.out GG104.out (by decide)) (fun _ hk => hk.2) (.int .i64 t201)) (fun _ hk => trivial)⟩, ⟨by (with_reducible repeat (first | refine blk_drewN ?_ _ | refine blk_drew ?_ | refine blk_alloc ?_ _)); refine blk_far ?_ (by have h_ := Kd.R_ne HO_8.out BK181.out (by decide); intro e_; exact h_ (by rw [e_]; rfl)) _; (with_reducible repeat (first | refine blk_drewN ?_ _ | refine blk_drew ?_ | refine blk_alloc ?_ _)); exact BK181.out⟩, ⟨by repeat (first | (with_reducible first | exact HB.out | apply below_alloc | apply pw_below_drewN | apply below_drew1 | refine below_set ?_ GB104.out | refine below_set ?_ GE181.out | refine below_set ?_ GE194.out | refine below_set ?_ GE195.out | refine below_set ?_ GE205.out) | exact HB.out)⟩⟩
                  ·
                   rw [if_neg c103] at H
                   exact absurd H (by simp)
                 ·
                  rw [if_neg c102] at H
                  exact absurd H (by simp)
                ·
                 rw [if_neg c101] at H
                 exact absurd H (by simp)
               ·
                rw [if_neg c100] at H
                exact absurd H (by simp)
              ·
               rw [if_neg c99] at H
               have c99b0 : (t200 == 0) = false := beq_eq_false_iff_ne.mpr c99
               have c99b1 : (t200 != 0) = true := bne_iff_ne.mpr c99
               simp only [Option.some.injEq, Prod.mk.injEq] at H
               obtain ⟨rfl, rfl, rfl⟩ := H
               have hnb121 := NB195_181.out
               have hnc121 := NB181_195.out
               have hnb122 := NB195_194.out
               have hnc122 := NB194_195.out
               obtain ⟨hcz123_0, hcz123_1, hcz123_2, hcz123_3⟩ := blk_c4 BK195.out
               obtain ⟨hfz123_0, hfz123_1, hfz123_2, hfz123_3⟩ := blk_f4 BK195.out
               obtain ⟨Ao124, co124, eo124⟩ := Kd.R_slice HO_9.out
               subst eo124
               go_wp2_with (first | ((with_reducible refine gate_callee (f := 20) rfl ?_); refine goesL_ (some 62) rfl rfl Try.func20 (by kernel_rfl) rfl #[.slice Ao124 x9_1.length co124, .agg #[.int .i64 ((rd_T34 l0 (rd t182 x10_1)).f0), .int .i64 x196001_18, .int .i64 x196002_38, .int .i64 ((rd_T34 l0 (rd t182 x10_1)).f3)]] rfl (by (try simp only [List.map_toArray, List.map_cons, List.map_nil]); first | done | rfl | (simp only [List.length_drop, List.length_take]; rfl)) ?_; (with_reducible refine (spec_l5Put.calls kj38 _ _ x9_1 ((rd_T34 l0 (rd t182 x10_1)).f0) x196001_18 x196002_38 ((rd_T34 l0 (rd t182 x10_1)).f3) t200 t201 t202 _ ?side1 ?side2 A52.out).mono ?_); (case side1 => repeat (first | exact (Kd.R_reads' HO_9.out).2.2 | (with_reducible refine Kd.C_alloc ?_ _) | (with_reducible refine Kd.C_drewN ?_ _) | (with_reducible refine Kd.C_drew ?_))); (case side2 => exact (Kd.R_reads' HO_9.out).2.1); rintro e w125 ⟨v203, rfl, ho0, hb⟩; refine ⟨_, rfl, ?_⟩; have n0_ := Aside0.mk (Kd.R_below (by (with_reducible repeat (first | apply Kd.R_alloc | apply Kd.R_drewN | apply Kd.R_drew)); exact HO_7.out) hb); have n1_ := Aside0.mk (Kd.R_below (by (with_reducible repeat (first | apply Kd.R_alloc | apply Kd.R_drewN | apply Kd.R_drew)); exact HO_8.out) hb); have n2_ := Aside0.mk (Kd.R_elder' (by (with_reducible repeat (first | apply Kd.R_alloc | apply Kd.R_drewN | apply Kd.R_drew)); exact HO_9.out) (Kd.R_base ho0) hb); have n3_ := Aside0.mk (Kd.R_lower (Kd.R_newB (Kd.R_newB (Kd.R_new' ho0 (Kd.R_lt (by (with_reducible repeat (first | apply Kd.R_alloc | apply Kd.R_drewN | apply Kd.R_drew)); exact HO_9.out))) (g := gb194) (o := .cells #[.int .i64 ((rd_T34 l0 (rd t182 x10_1)).f0), .int .i64 ((rd_T34 l0 (rd t182 x10_1)).f1), .int .i64 ((rd_T34 l0 (rd t182 x10_1)).f2), .int .i64 ((rd_T34 l0 (rd t182 x10_1)).f3)] 34 (0, 0)) (by (with_reducible repeat (first | refine blk_drewN ?_ _ | refine blk_drew ?_ | refine blk_alloc ?_ _)); exact BK194.out)) (g := gb195) (o := .cells #[.int .i64 ((rd_T34 l0 (rd t182 x10_1)).f0), .int .i64 x196001_18, .int .i64 x196002_38, .int .i64 ((rd_T34 l0 (rd t182 x10_1)).f3)] 34 (0, 0)) (by (with_reducible repeat (first | refine blk_drewN ?_ _ | refine blk_drew ?_ | refine blk_alloc ?_ _)); exact BK195.out)) (below_size (by repeat (first | (with_reducible first | exact HB.out | apply below_alloc | apply pw_below_drewN | apply below_drew1 | refine below_set ?_ GE181.out | refine below_set ?_ GE194.out | refine below_set ?_ GE195.out) | exact HB.out)))); have n4_ := Aside0.mk (blk_below_u BK181.out hb); have n5_ := Aside0.mk (blk_below_u BK194.out hb); have n6_ := Aside0.mk (blk_below_u BK195.out hb); have n7_ := Aside0.mk (below_step (by repeat (first | (with_reducible first | exact HB.out | apply below_alloc | apply pw_below_drewN | apply below_drew1 | refine below_set ?_ GE181.out | refine below_set ?_ GE194.out | refine below_set ?_ GE195.out) | exact HB.out)) hb); clear HO_7; clear HO_8; clear HO_9; clear BK181; clear BK194; clear BK195; clear HB; have HO_7 := n0_; have HO_8 := n1_; have HO_9 := n2_; have HO204 := n3_; have BK181 := n4_; have BK194 := n5_; have BK195 := n6_; have HB := n7_; clear n0_ n1_ n2_ n3_ n4_ n5_ n6_ n7_; (try clear hb); (try clear hb2); (try clear hk); (try clear hi); (try clear ho0)) | ((with_reducible refine gate_dst (N := 13) rfl ?_); refine box_event ?hg (N := 13) ?hd (cs := #[.int .i64 0, .int .i64 0, .slice none 0 0]) (t := 31) ?hr ?_; (case hd => rfl); (case hg => rfl); (case hr => first | (go_simp; done) | (go_simp; rfl)); intro gb205 hg w126 hbox hb; have n0_ := Aside0.mk (Kd.R_below (by (with_reducible repeat (first | apply Kd.R_alloc | apply Kd.R_drewN | apply Kd.R_drew)); exact HO_7.out) hb); have n1_ := Aside0.mk (Kd.R_below (by (with_reducible repeat (first | apply Kd.R_alloc | apply Kd.R_drewN | apply Kd.R_drew)); exact HO_8.out) hb); have n2_ := Aside0.mk (Kd.R_below (by (with_reducible repeat (first | apply Kd.R_alloc | apply Kd.R_drewN | apply Kd.R_drew)); exact HO_9.out) hb); have n3_ := Aside0.mk (Kd.R_below (by (with_reducible repeat (first | apply Kd.R_alloc | apply Kd.R_drewN | apply Kd.R_drew)); exact HO204.out) hb); have n4_ := Aside0.mk (blk_below_u BK181.out hb); have n5_ := Aside0.mk (blk_below_u BK194.out hb); have n6_ := Aside0.mk (blk_below_u BK195.out hb); have n7_ := Aside0.mk (below_step (by repeat (first | (with_reducible first | exact HB.out | apply below_alloc | apply pw_below_drewN | apply below_drew1 | refine below_set ?_ GE181.out | refine below_set ?_ GE194.out | refine below_set ?_ GE195.out) | exact HB.out)) hb); have n8_ := Aside0.mk (hbox); have n9_ := Aside0.mk ((by rw [hg]; exact (below_size (by repeat (first | (with_reducible first | exact HB.out | apply below_alloc | apply pw_below_drewN | apply below_drew1 | refine below_set ?_ GE181.out | refine below_set ?_ GE194.out | refine below_set ?_ GE195.out) | exact HB.out))) : w.heap.size ≤ gb205)); have n10_ := Aside0.mk ((by rw [hg]; exact (below_size (by repeat (first | (with_reducible first | exact HB.out | apply below_alloc | apply pw_below_drewN | apply below_drew1 | refine below_set ?_ GE181.out | refine below_set ?_ GE194.out | refine below_set ?_ GE195.out) | exact HB.out))) : w.heap.size ≤ gb205)); have n11_ := Aside0.mk ((by rw [hg]; exact Nat.ne_of_lt (blk_lt_u BK181.out) : gb181 ≠ gb205)); have n12_ := Aside0.mk ((by rw [hg]; exact Nat.ne_of_gt (blk_lt_u BK181.out) : gb205 ≠ gb181)); have n13_ := Aside0.mk ((by rw [hg]; exact Nat.ne_of_lt (blk_lt_u BK194.out) : gb194 ≠ gb205)); have n14_ := Aside0.mk ((by rw [hg]; exact Nat.ne_of_gt (blk_lt_u BK194.out) : gb205 ≠ gb194)); have n15_ := Aside0.mk ((by rw [hg]; exact Nat.ne_of_lt (blk_lt_u BK195.out) : gb195 ≠ gb205)); have n16_ := Aside0.mk ((by rw [hg]; exact Nat.ne_of_gt (blk_lt_u BK195.out) : gb205 ≠ gb195)); clear HO_7; clear HO_8; clear HO_9; clear HO204; clear BK181; clear BK194; clear BK195; clear HB; have HO_7 := n0_; have HO_8 := n1_; have HO_9 := n2_; have HO204 := n3_; have BK181 := n4_; have BK194 := n5_; have BK195 := n6_; have HB := n7_; have BK205 := n8_; have GW205 := n9_; have GE205 := n10_; have NB181_205 := n11_; have NB205_181 := n12_; have NB194_205 := n13_; have NB205_194 := n14_; have NB195_205 := n15_; have NB205_195 := n16_; clear n0_ n1_ n2_ n3_ n4_ n5_ n6_ n7_ n8_ n9_ n10_ n11_ n12_ n13_ n14_ n15_ n16_; clear hb hbox hg; have hnb127 := NB205_181.out; have hnc127 := NB181_205.out; have hnb128 := NB205_194.out; have hnc128 := NB194_205.out; have hnb129 := NB205_195.out; have hnc129 := NB195_205.out; obtain ⟨hcz130_0, hcz130_1, hcz130_2⟩ := blk_c3 BK205.out; obtain ⟨hfz130_0, hfz130_1, hfz130_2⟩ := blk_f3 BK205.out; obtain ⟨Ao131, co131, eo131⟩ := Kd.R_slice HO204.out; subst eo131; have hnb132 := NB194_181.out; have hnc132 := NB181_194.out; obtain ⟨hcz133_0, hcz133_1, hcz133_2, hcz133_3⟩ := blk_c4 BK194.out; obtain ⟨hfz133_0, hfz133_1, hfz133_2, hfz133_3⟩ := blk_f4 BK194.out; obtain ⟨hcz134_0, hcz134_1, hcz134_2⟩ := blk_c3 BK181.out; obtain ⟨hfz134_0, hfz134_1, hfz134_2⟩ := blk_f3 BK181.out))
               refine bodyPost_ret (results_cell_row rfl _ _ gb181 31 #[.int .i64 t200, .int .i64 0, .slice none 0 0] (0, 0) _ rfl (by (with_reducible repeat (first | refine blk_drewN ?_ _ | refine blk_drew ?_ | refine blk_alloc ?_ _)); refine blk_put (cs := #[.int .i64 t200, .int .i64 0, .slice none 0 0]) ?_ 2 _ rfl; (with_reducible repeat (first | refine blk_drewN ?_ _ | refine blk_drew ?_ | refine blk_alloc ?_ _)); refine blk_put (cs := #[.int .i64 t200, .int .i64 x182001_1, .slice none 0 0]) ?_ 1 _ rfl; (with_reducible repeat (first | refine blk_drewN ?_ _ | refine blk_drew ?_ | refine blk_alloc ?_ _)); refine blk_put (cs := #[.int .i64 x182000_1, .int .i64 x182001_1, .slice none 0 0]) ?_ 0 _ rfl; (with_reducible repeat (first | refine blk_drewN ?_ _ | refine blk_drew ?_ | refine blk_alloc ?_ _)); refine blk_far ?_ NB181_205.out _; (with_reducible repeat (first | refine blk_drewN ?_ _ | refine blk_drew ?_ | refine blk_alloc ?_ _)); refine blk_far ?_ NB181_205.out _; (with_reducible repeat (first | refine blk_drewN ?_ _ | refine blk_drew ?_ | refine blk_alloc ?_ _)); refine blk_far ?_ NB181_205.out _; (with_reducible repeat (first | refine blk_drewN ?_ _ | refine blk_drew ?_ | refine blk_alloc ?_ _)); exact BK181.out) Try.underlying31 rfl (by kernel_rfl)) rfl ?_
               exact ⟨_, by first | rfl | (simp [errW_none, errW_some] <;> rfl) | (simp only [← hji5]; first | rfl | (simp [errW_none, errW_some] <;> rfl)) | (simp [*, errW_none, errW_some] <;> rfl), by first | exact Kd.R_nil _ _ _ _ _ | exact Kd.N_nil _ _ _ _ _ | exact Kd.V_nil _ _ _ _ _ | exact Kd.Q_nil _ _ _ _ _ | exact Kd.S_nil _ _ _ _ _, by repeat (first | (with_reducible first | exact HB.out | apply below_alloc | apply pw_below_drewN | apply below_drew1 | refine below_set ?_ GE181.out | refine below_set ?_ GE194.out | refine below_set ?_ GE195.out | refine below_set ?_ GE205.out) | exact HB.out)⟩
        ·
         rw [if_neg c17] at H
         exact absurd H (by simp)
       ·
        rw [if_neg c16] at H
        exact absurd H (by simp)
      ·
       rw [if_neg c15] at H
       exact absurd H (by simp)
     ·
      rw [if_neg c14] at H
      have c14b0 : decide (x10_1 < (t182.length : Int)) = false := decide_eq_false c14
      clear c14
      by_cases c135 : 0 ≤ a1
      ·
       rw [if_pos c135] at H
       have c135b0 : decide (0 ≤ a1) = true := decide_eq_true c135
       clear c135
       by_cases c136 : a1 < (x8_1.length : Int)
       ·
        rw [if_pos c136] at H
        have c136b0 : decide (a1 < (x8_1.length : Int)) = true := decide_eq_true c136
        clear c136
        simp only [Option.some.injEq, Prod.mk.injEq] at H
        obtain ⟨rfl, rfl, rfl⟩ := H
        obtain ⟨Ao137, co137, eo137⟩ := Kd.R_slice HO_7.out
        subst eo137
        obtain ⟨Ao138, co138, eo138⟩ := Kd.R_slice HO_8.out
        subst eo138
        have p191 : 0 ≤ (a1 : Int) := of_decide_eq_true (by first | (with_reducible assumption) | assumption)
        have q191 : a1 < (x8_1.length : Int) := of_decide_eq_true (by first | (with_reducible assumption) | assumption)
        obtain ⟨ad191, e191, hx191_0⟩ := Kd.at_int (Kd.R_reads' HO_8.out).2.2 a1 p191 q191
        cases e191
        replace p191 := eq_true p191
        replace q191 := eq_true q191
        obtain ⟨Ao139, co139, eo139⟩ := Kd.R_slice HO_9.out
        subst eo139
        obtain ⟨hcz140_0, hcz140_1, hcz140_2⟩ := blk_c3 BK181.out
        obtain ⟨hfz140_0, hfz140_1, hfz140_2⟩ := blk_f3 BK181.out
        go_wp2
        refine bodyPost_ret (results_cell_row rfl _ _ gb181 31 #[.int .i64 0, .int .i64 (rd x8_1 a1), .slice Ao139 x9_1.length co139] (0, 0) _ rfl (by (with_reducible repeat (first | refine blk_drewN ?_ _ | refine blk_drew ?_ | refine blk_alloc ?_ _)); refine blk_put (cs := #[.int .i64 0, .int .i64 (rd x8_1 a1), .slice none 0 0]) ?_ 2 _ rfl; (with_reducible repeat (first | refine blk_drewN ?_ _ | refine blk_drew ?_ | refine blk_alloc ?_ _)); refine blk_put (cs := #[.int .i64 0, .int .i64 x182001_1, .slice none 0 0]) ?_ 1 _ rfl; (with_reducible repeat (first | refine blk_drewN ?_ _ | refine blk_drew ?_ | refine blk_alloc ?_ _)); refine blk_put (cs := #[.int .i64 x182000_1, .int .i64 x182001_1, .slice none 0 0]) ?_ 0 _ rfl; (with_reducible repeat (first | refine blk_drewN ?_ _ | refine blk_drew ?_ | refine blk_alloc ?_ _)); exact BK181.out) Try.underlying31 rfl (by kernel_rfl)) rfl ?_
        exact ⟨_, by first | rfl | (simp [errW_none, errW_some] <;> rfl) | (simp only [← hji5]; first | rfl | (simp [errW_none, errW_some] <;> rfl)) | (simp [*, errW_none, errW_some] <;> rfl), by (with_reducible repeat (first | apply Kd.R_alloc | apply Kd.R_drewN | apply Kd.R_drew)); exact Kd.R_mono (Kd.R_far (p := ⟨gb181, 2, none⟩) (Kd.R_far (p := ⟨gb181, 1, none⟩) (Kd.R_far (p := ⟨gb181, 0, none⟩) (Kd.R_types HO_9.out BK181.out (by decide)) (fun _ hk => hk.2) (.int .i64 0)) (fun _ hk => hk.2) (.int .i64 (rd x8_1 a1))) (fun _ hk => hk.2) (.slice Ao139 x9_1.length co139)) (fun _ hk => trivial), by repeat (first | (with_reducible first | exact HB.out | apply below_alloc | apply pw_below_drewN | apply below_drew1 | refine below_set ?_ GE181.out) | exact HB.out)⟩
       ·
        rw [if_neg c136] at H
        exact absurd H (by simp)
      ·
       rw [if_neg c135] at H
       exact absurd H (by simp)
  ·
   rw [if_neg c7] at H
   exact absurd H (by simp)
 ·
  rw [if_neg c6] at H
  exact absurd H (by simp)

end Go.Proofs.Ytofaojdkpbheoaa.PFnExactSameTerms
