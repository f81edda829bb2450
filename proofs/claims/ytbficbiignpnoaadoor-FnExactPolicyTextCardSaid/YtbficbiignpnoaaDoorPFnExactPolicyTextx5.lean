-- Written by wip/tools/myprint.py of this claim's session, over the kit's print, round texts of its own: own text.
import Derived.Test.YtbficbiignpnoaaDoorPFnExactPolicyTextx0
import Derived.Test.YtbficbiignpnoaaDoorPFnExactPolicyTextx2
import Derived.Test.YtbficbiignpnoaaDoorPFnExactPolicyTextx4
namespace Go.Proofs.YtbficbiignpnoaaDoor.PFnExactPolicyText
open Go.RowKit Go.Proofs.YtbficbiignpnoaaDoorW.PrintWords Go.Proofs.YtbficbiignpnoaaDoorW.PrintLast Go.Proofs.YtbficbiignpnoaaDoorW.PrintMore
attribute [local go_sem] max2_int min2_int max_two min_two max_three min_three max_four min_four   -- for this text's walks alone
set_option linter.unusedVariables false
set_option linter.unusedSimpArgs false

/-! ### spec_PolicyText: function 10 -/
def spec_PolicyText.l0 : Nat → List (S50) → ByteArray → Int → Option (Int × ByteArray)
 | 0, _, _, _ => none
 | k + 1, x0, x4, x5 => if x5 < (x0.length : Int) then (if 0 ≤ x5 then ((some (([(⟨#[]⟩ : ByteArray), (⟨#[100, 114, 111, 112]⟩ : ByteArray), (⟨#[112, 97, 115, 115]⟩ : ByteArray), (⟨#[115, 101, 97, 108]⟩ : ByteArray)] : List ByteArray) : List ByteArray)).bind fun y153 => (if 0 ≤ ((rd_T50 x0 x5).f1) then (if ((rd_T50 x0 x5).f1) < (y153.length : Int) then (if x4.size + (rdOf ByteArray.empty y153 ((rd_T50 x0 x5).f1)).size ≤ 9223372036854775807 then (if (x4 ++ (rdOf ByteArray.empty y153 ((rd_T50 x0 x5).f1))).size + 1 ≤ 9223372036854775807 then ((spec_l4Ends.f k ((rd_T50 x0 x5).f0.f0.f0) ((rd_T50 x0 x5).f0.f0.f1)).bind fun t157 => (if ((x4 ++ (rdOf ByteArray.empty y153 ((rd_T50 x0 x5).f1))) ++ (⟨#[32]⟩ : ByteArray)).size + t157.size ≤ 9223372036854775807 then (if (((x4 ++ (rdOf ByteArray.empty y153 ((rd_T50 x0 x5).f1))) ++ (⟨#[32]⟩ : ByteArray)) ++ t157).size + 1 ≤ 9223372036854775807 then ((spec_l4Ends.f k ((rd_T50 x0 x5).f0.f1.f0) ((rd_T50 x0 x5).f0.f1.f1)).bind fun t158 => (if ((((x4 ++ (rdOf ByteArray.empty y153 ((rd_T50 x0 x5).f1))) ++ (⟨#[32]⟩ : ByteArray)) ++ t157) ++ (⟨#[32]⟩ : ByteArray)).size + t158.size ≤ 9223372036854775807 then (if (((((x4 ++ (rdOf ByteArray.empty y153 ((rd_T50 x0 x5).f1))) ++ (⟨#[32]⟩ : ByteArray)) ++ t157) ++ (⟨#[32]⟩ : ByteArray)) ++ t158).size + 1 ≤ 9223372036854775807 then ((spec_l2Digits.f k ((rd_T50 x0 x5).f0.f4)).bind fun t159 => (if ((((((x4 ++ (rdOf ByteArray.empty y153 ((rd_T50 x0 x5).f1))) ++ (⟨#[32]⟩ : ByteArray)) ++ t157) ++ (⟨#[32]⟩ : ByteArray)) ++ t158) ++ (⟨#[32]⟩ : ByteArray)).size + t159.size ≤ 9223372036854775807 then (if (((((((x4 ++ (rdOf ByteArray.empty y153 ((rd_T50 x0 x5).f1))) ++ (⟨#[32]⟩ : ByteArray)) ++ t157) ++ (⟨#[32]⟩ : ByteArray)) ++ t158) ++ (⟨#[32]⟩ : ByteArray)) ++ t159).size + 1 ≤ 9223372036854775807 then ((spec_l2Digits.f k ((rd_T50 x0 x5).f0.f3.f0)).bind fun t160 => (if ((((((((x4 ++ (rdOf ByteArray.empty y153 ((rd_T50 x0 x5).f1))) ++ (⟨#[32]⟩ : ByteArray)) ++ t157) ++ (⟨#[32]⟩ : ByteArray)) ++ t158) ++ (⟨#[32]⟩ : ByteArray)) ++ t159) ++ (⟨#[32]⟩ : ByteArray)).size + t160.size ≤ 9223372036854775807 then (if (((((((((x4 ++ (rdOf ByteArray.empty y153 ((rd_T50 x0 x5).f1))) ++ (⟨#[32]⟩ : ByteArray)) ++ t157) ++ (⟨#[32]⟩ : ByteArray)) ++ t158) ++ (⟨#[32]⟩ : ByteArray)) ++ t159) ++ (⟨#[32]⟩ : ByteArray)) ++ t160).size + 1 ≤ 9223372036854775807 then ((spec_l2Digits.f k ((rd_T50 x0 x5).f0.f3.f1)).bind fun t161 => (if ((((((((((x4 ++ (rdOf ByteArray.empty y153 ((rd_T50 x0 x5).f1))) ++ (⟨#[32]⟩ : ByteArray)) ++ t157) ++ (⟨#[32]⟩ : ByteArray)) ++ t158) ++ (⟨#[32]⟩ : ByteArray)) ++ t159) ++ (⟨#[32]⟩ : ByteArray)) ++ t160) ++ (⟨#[45]⟩ : ByteArray)).size + t161.size ≤ 9223372036854775807 then (if ((rd_T50 x0 x5).f1) = 3 then (if (((((((((((x4 ++ (rdOf ByteArray.empty y153 ((rd_T50 x0 x5).f1))) ++ (⟨#[32]⟩ : ByteArray)) ++ t157) ++ (⟨#[32]⟩ : ByteArray)) ++ t158) ++ (⟨#[32]⟩ : ByteArray)) ++ t159) ++ (⟨#[32]⟩ : ByteArray)) ++ t160) ++ (⟨#[45]⟩ : ByteArray)) ++ t161).size + 1 ≤ 9223372036854775807 then ((spec_l2Digits.f k ((rd_T50 x0 x5).f2)).bind fun t162 => (if ((((((((((((x4 ++ (rdOf ByteArray.empty y153 ((rd_T50 x0 x5).f1))) ++ (⟨#[32]⟩ : ByteArray)) ++ t157) ++ (⟨#[32]⟩ : ByteArray)) ++ t158) ++ (⟨#[32]⟩ : ByteArray)) ++ t159) ++ (⟨#[32]⟩ : ByteArray)) ++ t160) ++ (⟨#[45]⟩ : ByteArray)) ++ t161) ++ (⟨#[32]⟩ : ByteArray)).size + t162.size ≤ 9223372036854775807 then (if (((((((((((((x4 ++ (rdOf ByteArray.empty y153 ((rd_T50 x0 x5).f1))) ++ (⟨#[32]⟩ : ByteArray)) ++ t157) ++ (⟨#[32]⟩ : ByteArray)) ++ t158) ++ (⟨#[32]⟩ : ByteArray)) ++ t159) ++ (⟨#[32]⟩ : ByteArray)) ++ t160) ++ (⟨#[45]⟩ : ByteArray)) ++ t161) ++ (⟨#[32]⟩ : ByteArray)) ++ t162).size + 1 ≤ 9223372036854775807 then (spec_PolicyText.l0 k x0 ((((((((((((((x4 ++ (rdOf ByteArray.empty y153 ((rd_T50 x0 x5).f1))) ++ (⟨#[32]⟩ : ByteArray)) ++ t157) ++ (⟨#[32]⟩ : ByteArray)) ++ t158) ++ (⟨#[32]⟩ : ByteArray)) ++ t159) ++ (⟨#[32]⟩ : ByteArray)) ++ t160) ++ (⟨#[45]⟩ : ByteArray)) ++ t161) ++ (⟨#[32]⟩ : ByteArray)) ++ t162) ++ (⟨#[10]⟩ : ByteArray)) (wrap64 (x5 + 1))) else (none)) else (none))) else (none)) else (if (((((((((((x4 ++ (rdOf ByteArray.empty y153 ((rd_T50 x0 x5).f1))) ++ (⟨#[32]⟩ : ByteArray)) ++ t157) ++ (⟨#[32]⟩ : ByteArray)) ++ t158) ++ (⟨#[32]⟩ : ByteArray)) ++ t159) ++ (⟨#[32]⟩ : ByteArray)) ++ t160) ++ (⟨#[45]⟩ : ByteArray)) ++ t161).size + 1 ≤ 9223372036854775807 then (spec_PolicyText.l0 k x0 ((((((((((((x4 ++ (rdOf ByteArray.empty y153 ((rd_T50 x0 x5).f1))) ++ (⟨#[32]⟩ : ByteArray)) ++ t157) ++ (⟨#[32]⟩ : ByteArray)) ++ t158) ++ (⟨#[32]⟩ : ByteArray)) ++ t159) ++ (⟨#[32]⟩ : ByteArray)) ++ t160) ++ (⟨#[45]⟩ : ByteArray)) ++ t161) ++ (⟨#[10]⟩ : ByteArray)) (wrap64 (x5 + 1))) else (none))) else (none))) else (none)) else (none))) else (none)) else (none))) else (none)) else (none))) else (none)) else (none))) else (none)) else (none)) else (none)) else (none))) else (none)) else (some (0, x4))
def spec_PolicyText.f (k : Nat) (l0 : List (S50)) : Option (Int × ByteArray) := (spec_PolicyFault.f k l0).bind fun t150 => (if t150 = 0 then (spec_PolicyText.l0 k l0 (⟨#[]⟩ : ByteArray) 0) else (some (t150, (⟨#[]⟩ : ByteArray))))
theorem spec_PolicyText.mono_l : ∀ k, (∀ y0 y1 y2, LeO (spec_PolicyText.l0 k y0 y1 y2) (spec_PolicyText.l0 (k + 1) y0 y1 y2))
 | 0 => fun _ _ _ r h => by simp [spec_PolicyText.l0] at h
 | k + 1 => by
  have ih0 := spec_PolicyText.mono_l k
  ·
   intro y0 y1 y2
   unfold spec_PolicyText.l0
   repeat' first
   | (with_reducible exact ih0 _ _ _)
   | (with_reducible exact spec_PolicyFault.mono _ _)
   | (with_reducible exact spec_l2Digits.mono _ _)
   | (with_reducible exact spec_l4Ends.mono _ _ _)
   | (with_reducible exact LeO.refl _)
   | (with_reducible exact LeO.none _)
   | (with_reducible refine LeO.ite ?_ ?_)
   | (with_reducible refine LeO.bind ?_ (fun _ => ?_))
   | exact ih0 _ _ _
   | exact spec_PolicyFault.mono _ _
   | exact spec_l2Digits.mono _ _
   | exact spec_l4Ends.mono _ _ _
   | exact LeO.none _
   | refine LeO.ite ?_ ?_
   | refine LeO.bind ?_ (fun _ => ?_)
theorem spec_PolicyText.mono : ∀ a0 k, LeO (spec_PolicyText.f k a0) (spec_PolicyText.f (k + 1) a0) := by
 intro a0 k
 have ih0 := spec_PolicyText.mono_l k
 unfold spec_PolicyText.f
 repeat' first
   | (with_reducible exact ih0 _ _ _)
   | (with_reducible exact spec_PolicyFault.mono _ _)
   | (with_reducible exact spec_l2Digits.mono _ _)
   | (with_reducible exact spec_l4Ends.mono _ _ _)
   | (with_reducible exact LeO.refl _)
   | (with_reducible exact LeO.none _)
   | (with_reducible refine LeO.ite ?_ ?_)
   | (with_reducible refine LeO.bind ?_ (fun _ => ?_))
   | exact ih0 _ _ _
   | exact spec_PolicyFault.mono _ _
   | exact spec_l2Digits.mono _ _
   | exact spec_l4Ends.mono _ _ _
   | exact LeO.none _
   | refine LeO.ite ?_ ?_
   | refine LeO.bind ?_ (fun _ => ?_)
def spec_PolicyText.T9 : Bool × List (List Nat × List Nat) := (true, [([], []), ([], []), ([], []), ([2], [2]), ([1, 3], [1, 3]), ([4], [4]), ([0, 5], [0, 5]), ([6], [6]), ([], []), ([8], [8]), ([9], [9]), ([10], [10]), ([7, 11], [7, 11]), ([12], [12]), ([], []), ([14], [14]), ([15], [15]), ([16, 11], [16]), ([13, 17], [13, 17]), ([18], [18]), ([], []), ([20], [20]), ([21], [21]), ([22, 17], [22]), ([19, 23], [19, 23]), ([24], [24]), ([], []), ([26], [26]), ([27], [27]), ([28], [28]), ([29, 23], [29]), ([25, 30], [25, 30]), ([31], [31]), ([], []), ([33], [33]), ([34], [34]), ([35], [35]), ([36, 30], [36]), ([32, 37], [32, 37]), ([38, 37, 0, 1, 2, 3, 4, 5, 6, 7, 8, 9, 10, 11, 12, 13, 14, 15, 16, 17, 18, 19, 20, 21, 22, 23, 24, 25, 26, 27, 28, 29, 30, 31, 32, 33, 34, 35, 36, 37, 38], [0, 38])])
def spec_PolicyText.B9 : List Nat := [0, 0, 0, 4, 14, 30, 63, 127, 0, 256, 768, 1792, 4095, 8191, 0, 16384, 49152, 118528, 262143, 524287, 0, 1048576, 3145728, 7589632, 16777215, 33554431, 0, 67108864, 201326592, 469762048, 1022611200, 2147483647, 4294967295, 0, 8589934592, 25769803776, 60129542144, 130945371904, 274877906943, 549755813887]
theorem spec_PolicyText.tab9 : rtab .any (opsOf Tryd.f10 9) = spec_PolicyText.T9 := by kernel_rfl
theorem spec_PolicyText.bits9 : waitsOk spec_PolicyText.T9.2 spec_PolicyText.B9 = true := by kernel_rfl
set_option maxHeartbeats 8000000 in
set_option maxRecDepth 100000 in
theorem spec_PolicyText.calls (k : Nat) (A0 : Option Addr) (c0 : Nat) (l0 : List (S50)) (r1 : Int) (r2 : ByteArray) (w : World) (hr0 : Kd.C k50 w A0 l0.length l0) (hc0 : l0.length ≤ c0) (h : spec_PolicyText.f k l0 = some (r1, r2)) :
  Calls Tryd.prog 10 #[.slice A0 l0.length c0] w fun e w' => e = .returned (.agg #[.int .i64 r1, .string r2]) ∧ Below w.heap.size w w' := by
 have hu23 := Tryd.underlying23
 have hu50 := Tryd.underlying50
 have hu46 := Tryd.underlying46
 have HR0 := Aside0.mk hr0
 have HC0 := Aside0.mk hc0
 clear hr0 hc0
 have HB := Aside0.mk (Below.refl w.heap.size w)
 have H : ((spec_PolicyFault.f k l0).bind fun t150 => (if t150 = 0 then (spec_PolicyText.l0 k l0 (⟨#[]⟩ : ByteArray) 0) else (some (t150, (⟨#[]⟩ : ByteArray))))) = some (r1, r2) := h
 clear h
 replace H := Option.bind_eq_some_iff.mp H
 obtain ⟨t150, A20, H⟩ := H
 replace H : (if t150 = 0 then (spec_PolicyText.l0 k l0 (⟨#[]⟩ : ByteArray) 0) else (some (t150, (⟨#[]⟩ : ByteArray)))) = some (r1, r2) := H
 have A2 := Aside0.mk A20
 clear A20
 by_cases c3 : t150 = 0
 ·
  rw [if_pos c3] at H
  have c3b0 : (t150 == 0) = true := beq_iff_eq.mpr c3
  have c3b1 : (t150 != 0) = false := bne_eq_false_iff_eq.mpr c3
  clear c3
  have H' := Aside0.mk H
  clear H
  go_enter Tryd.func10, Tryd.ntmps10
  go_wp2_with (first | ((with_reducible refine gate_dst (N := 2) rfl ?_); refine box_event ?hg (N := 2) ?hd (cs := #[.int .i64 0, .string (⟨#[]⟩ : ByteArray)]) (t := 23) ?hr ?_; (case hd => rfl); (case hg => rfl); (case hr => first | (go_simp; done) | (go_simp; rfl)); intro gb149 hg w4 hbox hb; have n0_ := Aside0.mk (below_step (by repeat (first | (with_reducible first | exact HB.out | apply below_alloc | apply pw_below_drewN | apply below_drew1) | exact HB.out)) hb); have n1_ := Aside0.mk (hbox); have n2_ := Aside0.mk ((by rw [hg]; exact (below_size (by repeat (first | (with_reducible first | exact HB.out | apply below_alloc | apply pw_below_drewN | apply below_drew1) | exact HB.out))) : w.heap.size ≤ gb149)); have n3_ := Aside0.mk ((by rw [hg]; exact (below_size (by repeat (first | (with_reducible first | exact HB.out | apply below_alloc | apply pw_below_drewN | apply below_drew1) | exact HB.out))) : w.heap.size ≤ gb149)); clear HB; have HB := n0_; have BK149 := n1_; have GW149 := n2_; have GE149 := n3_; clear n0_ n1_ n2_ n3_; clear hb hbox hg) | ((with_reducible refine gate_callee (f := 24) rfl ?_); refine goesL_ (some 8) rfl rfl Tryd.func24 (by kernel_rfl) rfl #[.slice A0 l0.length c0] rfl (by (try simp only [List.map_toArray, List.map_cons, List.map_nil]); first | done | rfl | (simp only [List.length_drop, List.length_take]; rfl)) ?_; (with_reducible refine (spec_PolicyFault.calls k _ _ l0 t150 _ ?side1 ?side2 A2.out).mono ?_); (case side1 => repeat (first | exact (Kd.C_below HR0.out HB.out) | (with_reducible refine Kd.C_alloc ?_ _) | (with_reducible refine Kd.C_drewN ?_ _) | (with_reducible refine Kd.C_drew ?_))); (case side2 => exact HC0.out); rintro e w5 ⟨rfl, hb⟩; refine ⟨_, rfl, ?_⟩; have n0_ := Aside0.mk (blk_below (g := gb149) (o := .cells #[.int .i64 0, .string (⟨#[]⟩ : ByteArray)] 23 (0, 0)) (by (with_reducible repeat (first | refine blk_drewN ?_ _ | refine blk_drew ?_ | refine blk_alloc ?_ _)); exact BK149.out) hb); have n1_ := Aside0.mk (below_step (by repeat (first | (with_reducible first | exact HB.out | apply below_alloc | apply pw_below_drewN | apply below_drew1 | refine below_set ?_ GE149.out) | exact HB.out)) hb); clear BK149; clear HB; have BK149 := n0_; have HB := n1_; clear n0_ n1_; (try clear hb); (try clear hb2); (try clear hk); (try clear hi)))
  go_loopg [4, 5] k (fun kq v4 v5 w' => ∃ (x4_1 : ByteArray) (x5_1 : Int), v4 = .string x4_1 ∧ v5 = .int .i64 x5_1 ∧ Aside0 (spec_PolicyText.l0 kq l0 x4_1 x5_1 = some (r1, r2)) ∧ Aside0 (kq ≤ k) ∧ Aside0 (w'.heap[gb149]? = some (.cells #[.int .i64 0, .string (⟨#[]⟩ : ByteArray)] 23 (0, 0))) ∧ Aside0 (Below w.heap.size w w'))
  case atStart => exact ⟨((⟨#[]⟩ : ByteArray)), (0), (by first | rfl | (simp; done) | (simp [*]; done)), (by first | rfl | (simp; done) | (simp [*]; done)), H', ⟨Nat.le_refl _⟩, ⟨by (with_reducible repeat (first | refine blk_drewN ?_ _ | refine blk_drew ?_ | refine blk_alloc ?_ _)); exact BK149.out⟩, ⟨by repeat (first | (with_reducible first | exact HB.out | apply below_alloc | apply pw_below_drewN | apply below_drew1 | refine below_set ?_ GE149.out) | exact HB.out)⟩⟩
  case round =>
   clear H'
   try clear c1; try clear c2; try clear p2; try clear c3; try clear c3b0; try clear c3b1
   obtain ⟨x4_1, x5_1, rfl, rfl, HA, HK1, BK149, HB⟩ := hrel
   cases gk with
   | zero => exact absurd HA.out (by simp [spec_PolicyText.l0])
   | succ k1 =>
    have H := HA.out
    clear HA
    simp only [spec_PolicyText.l0] at H
    by_cases c6 : x5_1 < (l0.length : Int)
    ·
     rw [if_pos c6] at H
     have c6b0 : decide (x5_1 < (l0.length : Int)) = true := decide_eq_true c6
     clear c6
     by_cases c7 : 0 ≤ x5_1
     ·
      rw [if_pos c7] at H
      have c7b0 : decide (0 ≤ x5_1) = true := decide_eq_true c7
      clear c7
      obtain ⟨y153, hy153⟩ : ∃ y_ : List ByteArray, y_ = (([(⟨#[]⟩ : ByteArray), (⟨#[100, 114, 111, 112]⟩ : ByteArray), (⟨#[112, 97, 115, 115]⟩ : ByteArray), (⟨#[115, 101, 97, 108]⟩ : ByteArray)] : List ByteArray)) := ⟨_, rfl⟩
      replace H : (if 0 ≤ ((rd_T50 l0 x5_1).f1) then (if ((rd_T50 l0 x5_1).f1) < (y153.length : Int) then (if x4_1.size + (rdOf ByteArray.empty y153 ((rd_T50 l0 x5_1).f1)).size ≤ 9223372036854775807 then (if (x4_1 ++ (rdOf ByteArray.empty y153 ((rd_T50 l0 x5_1).f1))).size + 1 ≤ 9223372036854775807 then ((spec_l4Ends.f k1 ((rd_T50 l0 x5_1).f0.f0.f0) ((rd_T50 l0 x5_1).f0.f0.f1)).bind fun t157 => (if ((x4_1 ++ (rdOf ByteArray.empty y153 ((rd_T50 l0 x5_1).f1))) ++ (⟨#[32]⟩ : ByteArray)).size + t157.size ≤ 9223372036854775807 then (if (((x4_1 ++ (rdOf ByteArray.empty y153 ((rd_T50 l0 x5_1).f1))) ++ (⟨#[32]⟩ : ByteArray)) ++ t157).size + 1 ≤ 9223372036854775807 then ((spec_l4Ends.f k1 ((rd_T50 l0 x5_1).f0.f1.f0) ((rd_T50 l0 x5_1).f0.f1.f1)).bind fun t158 => (if ((((x4_1 ++ (rdOf ByteArray.empty y153 ((rd_T50 l0 x5_1).f1))) ++ (⟨#[32]⟩ : ByteArray)) ++ t157) ++ (⟨#[32]⟩ : ByteArray)).size + t158.size ≤ 9223372036854775807 then (if (((((x4_1 ++ (rdOf ByteArray.empty y153 ((rd_T50 l0 x5_1).f1))) ++ (⟨#[32]⟩ : ByteArray)) ++ t157) ++ (⟨#[32]⟩ : ByteArray)) ++ t158).size + 1 ≤ 9223372036854775807 then ((spec_l2Digits.f k1 ((rd_T50 l0 x5_1).f0.f4)).bind fun t159 => (if ((((((x4_1 ++ (rdOf ByteArray.empty y153 ((rd_T50 l0 x5_1).f1))) ++ (⟨#[32]⟩ : ByteArray)) ++ t157) ++ (⟨#[32]⟩ : ByteArray)) ++ t158) ++ (⟨#[32]⟩ : ByteArray)).size + t159.size ≤ 9223372036854775807 then (if (((((((x4_1 ++ (rdOf ByteArray.empty y153 ((rd_T50 l0 x5_1).f1))) ++ (⟨#[32]⟩ : ByteArray)) ++ t157) ++ (⟨#[32]⟩ : ByteArray)) ++ t158) ++ (⟨#[32]⟩ : ByteArray)) ++ t159).size + 1 ≤ 9223372036854775807 then ((spec_l2Digits.f k1 ((rd_T50 l0 x5_1).f0.f3.f0)).bind fun t160 => (if ((((((((x4_1 ++ (rdOf ByteArray.empty y153 ((rd_T50 l0 x5_1).f1))) ++ (⟨#[32]⟩ : ByteArray)) ++ t157) ++ (⟨#[32]⟩ : ByteArray)) ++ t158) ++ (⟨#[32]⟩ : ByteArray)) ++ t159) ++ (⟨#[32]⟩ : ByteArray)).size + t160.size ≤ 9223372036854775807 then (if (((((((((x4_1 ++ (rdOf ByteArray.empty y153 ((rd_T50 l0 x5_1).f1))) ++ (⟨#[32]⟩ : ByteArray)) ++ t157) ++ (⟨#[32]⟩ : ByteArray)) ++ t158) ++ (⟨#[32]⟩ : ByteArray)) ++ t159) ++ (⟨#[32]⟩ : ByteArray)) ++ t160).size + 1 ≤ 9223372036854775807 then ((spec_l2Digits.f k1 ((rd_T50 l0 x5_1).f0.f3.f1)).bind fun t161 => (if ((((((((((x4_1 ++ (rdOf ByteArray.empty y153 ((rd_T50 l0 x5_1).f1))) ++ (⟨#[32]⟩ : ByteArray)) ++ t157) ++ (⟨#[32]⟩ : ByteArray)) ++ t158) ++ (⟨#[32]⟩ : ByteArray)) ++ t159) ++ (⟨#[32]⟩ : ByteArray)) ++ t160) ++ (⟨#[45]⟩ : ByteArray)).size + t161.size ≤ 9223372036854775807 then (if ((rd_T50 l0 x5_1).f1) = 3 then (if (((((((((((x4_1 ++ (rdOf ByteArray.empty y153 ((rd_T50 l0 x5_1).f1))) ++ (⟨#[32]⟩ : ByteArray)) ++ t157) ++ (⟨#[32]⟩ : ByteArray)) ++ t158) ++ (⟨#[32]⟩ : ByteArray)) ++ t159) ++ (⟨#[32]⟩ : ByteArray)) ++ t160) ++ (⟨#[45]⟩ : ByteArray)) ++ t161).size + 1 ≤ 9223372036854775807 then ((spec_l2Digits.f k1 ((rd_T50 l0 x5_1).f2)).bind fun t162 => (if ((((((((((((x4_1 ++ (rdOf ByteArray.empty y153 ((rd_T50 l0 x5_1).f1))) ++ (⟨#[32]⟩ : ByteArray)) ++ t157) ++ (⟨#[32]⟩ : ByteArray)) ++ t158) ++ (⟨#[32]⟩ : ByteArray)) ++ t159) ++ (⟨#[32]⟩ : ByteArray)) ++ t160) ++ (⟨#[45]⟩ : ByteArray)) ++ t161) ++ (⟨#[32]⟩ : ByteArray)).size + t162.size ≤ 9223372036854775807 then (if (((((((((((((x4_1 ++ (rdOf ByteArray.empty y153 ((rd_T50 l0 x5_1).f1))) ++ (⟨#[32]⟩ : ByteArray)) ++ t157) ++ (⟨#[32]⟩ : ByteArray)) ++ t158) ++ (⟨#[32]⟩ : ByteArray)) ++ t159) ++ (⟨#[32]⟩ : ByteArray)) ++ t160) ++ (⟨#[45]⟩ : ByteArray)) ++ t161) ++ (⟨#[32]⟩ : ByteArray)) ++ t162).size + 1 ≤ 9223372036854775807 then (spec_PolicyText.l0 k1 l0 ((((((((((((((x4_1 ++ (rdOf ByteArray.empty y153 ((rd_T50 l0 x5_1).f1))) ++ (⟨#[32]⟩ : ByteArray)) ++ t157) ++ (⟨#[32]⟩ : ByteArray)) ++ t158) ++ (⟨#[32]⟩ : ByteArray)) ++ t159) ++ (⟨#[32]⟩ : ByteArray)) ++ t160) ++ (⟨#[45]⟩ : ByteArray)) ++ t161) ++ (⟨#[32]⟩ : ByteArray)) ++ t162) ++ (⟨#[10]⟩ : ByteArray)) (wrap64 (x5_1 + 1))) else (none)) else (none))) else (none)) else (if (((((((((((x4_1 ++ (rdOf ByteArray.empty y153 ((rd_T50 l0 x5_1).f1))) ++ (⟨#[32]⟩ : ByteArray)) ++ t157) ++ (⟨#[32]⟩ : ByteArray)) ++ t158) ++ (⟨#[32]⟩ : ByteArray)) ++ t159) ++ (⟨#[32]⟩ : ByteArray)) ++ t160) ++ (⟨#[45]⟩ : ByteArray)) ++ t161).size + 1 ≤ 9223372036854775807 then (spec_PolicyText.l0 k1 l0 ((((((((((((x4_1 ++ (rdOf ByteArray.empty y153 ((rd_T50 l0 x5_1).f1))) ++ (⟨#[32]⟩ : ByteArray)) ++ t157) ++ (⟨#[32]⟩ : ByteArray)) ++ t158) ++ (⟨#[32]⟩ : ByteArray)) ++ t159) ++ (⟨#[32]⟩ : ByteArray)) ++ t160) ++ (⟨#[45]⟩ : ByteArray)) ++ t161) ++ (⟨#[10]⟩ : ByteArray)) (wrap64 (x5_1 + 1))) else (none))) else (none))) else (none)) else (none))) else (none)) else (none))) else (none)) else (none))) else (none)) else (none))) else (none)) else (none)) else (none)) else (none)) = some (r1, r2) := by first | (rw [hy153]; with_reducible exact H) | (have H2_ := (Option.bind_some _ _).symm.trans H; rw [hy153]; with_reducible exact H2_) | (have H2_ := (Option.bind_some _ _).symm.trans H; with_reducible exact H2_) | with_reducible exact H | (rw [hy153]; exact H) | exact H
      have Ny153 := Aside0.mk hy153
      clear hy153
      by_cases c8 : 0 ≤ ((rd_T50 l0 x5_1).f1)
      ·
       rw [if_pos c8] at H
       have c8b0 : decide (0 ≤ ((rd_T50 l0 x5_1).f1)) = true := decide_eq_true c8
       clear c8
       by_cases c9 : ((rd_T50 l0 x5_1).f1) < (y153.length : Int)
       ·
        rw [if_pos c9] at H
        have c9b0 : decide (((rd_T50 l0 x5_1).f1) < (y153.length : Int)) = true := decide_eq_true c9
        clear c9
        by_cases c10 : x4_1.size + (rdOf ByteArray.empty y153 ((rd_T50 l0 x5_1).f1)).size ≤ 9223372036854775807
        ·
         rw [if_pos c10] at H
         have c10b0 := eq_true c10
         have c10b1 : decide (x4_1.size + (rdOf ByteArray.empty y153 ((rd_T50 l0 x5_1).f1)).size ≤ 9223372036854775807) = true := decide_eq_true c10
         try have c10b2 : (9223372036854775807 < x4_1.size + (rdOf ByteArray.empty y153 ((rd_T50 l0 x5_1).f1)).size) = False := eq_false (Nat.not_lt.2 c10)
         by_cases c11 : (x4_1 ++ (rdOf ByteArray.empty y153 ((rd_T50 l0 x5_1).f1))).size + 1 ≤ 9223372036854775807
         ·
          rw [if_pos c11] at H
          have c11b0 := eq_true c11
          have c11b1 : decide ((x4_1 ++ (rdOf ByteArray.empty y153 ((rd_T50 l0 x5_1).f1))).size + 1 ≤ 9223372036854775807) = true := decide_eq_true c11
          try have c11n : x4_1.size + (rdOf ByteArray.empty y153 ((rd_T50 l0 x5_1).f1)).size + 1 ≤ 9223372036854775807 := by have h_ := c11; simp only [ByteArray.size_append] at h_; exact h_
          try have c11n0 := eq_true c11n
          try have c11n2 : (9223372036854775807 < x4_1.size + (rdOf ByteArray.empty y153 ((rd_T50 l0 x5_1).f1)).size + 1) = False := eq_false (Nat.not_lt.2 c11n)
          try have c11b2 : (9223372036854775807 < (x4_1 ++ (rdOf ByteArray.empty y153 ((rd_T50 l0 x5_1).f1))).size + 1) = False := eq_false (Nat.not_lt.2 c11)
          replace H := Option.bind_eq_some_iff.mp H
          obtain ⟨t157, A120, H⟩ := H
          replace H : (if ((x4_1 ++ (rdOf ByteArray.empty y153 ((rd_T50 l0 x5_1).f1))) ++ (⟨#[32]⟩ : ByteArray)).size + t157.size ≤ 9223372036854775807 then (if (((x4_1 ++ (rdOf ByteArray.empty y153 ((rd_T50 l0 x5_1).f1))) ++ (⟨#[32]⟩ : ByteArray)) ++ t157).size + 1 ≤ 9223372036854775807 then ((spec_l4Ends.f k1 ((rd_T50 l0 x5_1).f0.f1.f0) ((rd_T50 l0 x5_1).f0.f1.f1)).bind fun t158 => (if ((((x4_1 ++ (rdOf ByteArray.empty y153 ((rd_T50 l0 x5_1).f1))) ++ (⟨#[32]⟩ : ByteArray)) ++ t157) ++ (⟨#[32]⟩ : ByteArray)).size + t158.size ≤ 9223372036854775807 then (if (((((x4_1 ++ (rdOf ByteArray.empty y153 ((rd_T50 l0 x5_1).f1))) ++ (⟨#[32]⟩ : ByteArray)) ++ t157) ++ (⟨#[32]⟩ : ByteArray)) ++ t158).size + 1 ≤ 9223372036854775807 then ((spec_l2Digits.f k1 ((rd_T50 l0 x5_1).f0.f4)).bind fun t159 => (if ((((((x4_1 ++ (rdOf ByteArray.empty y153 ((rd_T50 l0 x5_1).f1))) ++ (⟨#[32]⟩ : ByteArray)) ++ t157) ++ (⟨#[32]⟩ : ByteArray)) ++ t158) ++ (⟨#[32]⟩ : ByteArray)).size + t159.size ≤ 9223372036854775807 then (if (((((((x4_1 ++ (rdOf ByteArray.empty y153 ((rd_T50 l0 x5_1).f1))) ++ (⟨#[32]⟩ : ByteArray)) ++ t157) ++ (⟨#[32]⟩ : ByteArray)) ++ t158) ++ (⟨#[32]⟩ : ByteArray)) ++ t159).size + 1 ≤ 9223372036854775807 then ((spec_l2Digits.f k1 ((rd_T50 l0 x5_1).f0.f3.f0)).bind fun t160 => (if ((((((((x4_1 ++ (rdOf ByteArray.empty y153 ((rd_T50 l0 x5_1).f1))) ++ (⟨#[32]⟩ : ByteArray)) ++ t157) ++ (⟨#[32]⟩ : ByteArray)) ++ t158) ++ (⟨#[32]⟩ : ByteArray)) ++ t159) ++ (⟨#[32]⟩ : ByteArray)).size + t160.size ≤ 9223372036854775807 then (if (((((((((x4_1 ++ (rdOf ByteArray.empty y153 ((rd_T50 l0 x5_1).f1))) ++ (⟨#[32]⟩ : ByteArray)) ++ t157) ++ (⟨#[32]⟩ : ByteArray)) ++ t158) ++ (⟨#[32]⟩ : ByteArray)) ++ t159) ++ (⟨#[32]⟩ : ByteArray)) ++ t160).size + 1 ≤ 9223372036854775807 then ((spec_l2Digits.f k1 ((rd_T50 l0 x5_1).f0.f3.f1)).bind fun t161 => (if ((((((((((x4_1 ++ (rdOf ByteArray.empty y153 ((rd_T50 l0 x5_1).f1))) ++ (⟨#[32]⟩ : ByteArray)) ++ t157) ++ (⟨#[32]⟩ : ByteArray)) ++ t158) ++ (⟨#[32]⟩ : ByteArray)) ++ t159) ++ (⟨#[32]⟩ : ByteArray)) ++ t160) ++ (⟨#[45]⟩ : ByteArray)).size + t161.size ≤ 9223372036854775807 then (if ((rd_T50 l0 x5_1).f1) = 3 then (if (((((((((((x4_1 ++ (rdOf ByteArray.empty y153 ((rd_T50 l0 x5_1).f1))) ++ (⟨#[32]⟩ : ByteArray)) ++ t157) ++ (⟨#[32]⟩ : ByteArray)) ++ t158) ++ (⟨#[32]⟩ : ByteArray)) ++ t159) ++ (⟨#[32]⟩ : ByteArray)) ++ t160) ++ (⟨#[45]⟩ : ByteArray)) ++ t161).size + 1 ≤ 9223372036854775807 then ((spec_l2Digits.f k1 ((rd_T50 l0 x5_1).f2)).bind fun t162 => (if ((((((((((((x4_1 ++ (rdOf ByteArray.empty y153 ((rd_T50 l0 x5_1).f1))) ++ (⟨#[32]⟩ : ByteArray)) ++ t157) ++ (⟨#[32]⟩ : ByteArray)) ++ t158) ++ (⟨#[32]⟩ : ByteArray)) ++ t159) ++ (⟨#[32]⟩ : ByteArray)) ++ t160) ++ (⟨#[45]⟩ : ByteArray)) ++ t161) ++ (⟨#[32]⟩ : ByteArray)).size + t162.size ≤ 9223372036854775807 then (if (((((((((((((x4_1 ++ (rdOf ByteArray.empty y153 ((rd_T50 l0 x5_1).f1))) ++ (⟨#[32]⟩ : ByteArray)) ++ t157) ++ (⟨#[32]⟩ : ByteArray)) ++ t158) ++ (⟨#[32]⟩ : ByteArray)) ++ t159) ++ (⟨#[32]⟩ : ByteArray)) ++ t160) ++ (⟨#[45]⟩ : ByteArray)) ++ t161) ++ (⟨#[32]⟩ : ByteArray)) ++ t162).size + 1 ≤ 9223372036854775807 then (spec_PolicyText.l0 k1 l0 ((((((((((((((x4_1 ++ (rdOf ByteArray.empty y153 ((rd_T50 l0 x5_1).f1))) ++ (⟨#[32]⟩ : ByteArray)) ++ t157) ++ (⟨#[32]⟩ : ByteArray)) ++ t158) ++ (⟨#[32]⟩ : ByteArray)) ++ t159) ++ (⟨#[32]⟩ : ByteArray)) ++ t160) ++ (⟨#[45]⟩ : ByteArray)) ++ t161) ++ (⟨#[32]⟩ : ByteArray)) ++ t162) ++ (⟨#[10]⟩ : ByteArray)) (wrap64 (x5_1 + 1))) else (none)) else (none))) else (none)) else (if (((((((((((x4_1 ++ (rdOf ByteArray.empty y153 ((rd_T50 l0 x5_1).f1))) ++ (⟨#[32]⟩ : ByteArray)) ++ t157) ++ (⟨#[32]⟩ : ByteArray)) ++ t158) ++ (⟨#[32]⟩ : ByteArray)) ++ t159) ++ (⟨#[32]⟩ : ByteArray)) ++ t160) ++ (⟨#[45]⟩ : ByteArray)) ++ t161).size + 1 ≤ 9223372036854775807 then (spec_PolicyText.l0 k1 l0 ((((((((((((x4_1 ++ (rdOf ByteArray.empty y153 ((rd_T50 l0 x5_1).f1))) ++ (⟨#[32]⟩ : ByteArray)) ++ t157) ++ (⟨#[32]⟩ : ByteArray)) ++ t158) ++ (⟨#[32]⟩ : ByteArray)) ++ t159) ++ (⟨#[32]⟩ : ByteArray)) ++ t160) ++ (⟨#[45]⟩ : ByteArray)) ++ t161) ++ (⟨#[10]⟩ : ByteArray)) (wrap64 (x5_1 + 1))) else (none))) else (none))) else (none)) else (none))) else (none)) else (none))) else (none)) else (none))) else (none)) else (none)) = some (r1, r2) := H
          have A12 := Aside0.mk A120
          clear A120
          by_cases c13 : ((x4_1 ++ (rdOf ByteArray.empty y153 ((rd_T50 l0 x5_1).f1))) ++ (⟨#[32]⟩ : ByteArray)).size + t157.size ≤ 9223372036854775807
          ·
           rw [if_pos c13] at H
           have c13b0 := eq_true c13
           have c13b1 : decide (((x4_1 ++ (rdOf ByteArray.empty y153 ((rd_T50 l0 x5_1).f1))) ++ (⟨#[32]⟩ : ByteArray)).size + t157.size ≤ 9223372036854775807) = true := decide_eq_true c13
           try have c13n : x4_1.size + (rdOf ByteArray.empty y153 ((rd_T50 l0 x5_1).f1)).size + 1 + t157.size ≤ 9223372036854775807 := by have h_ := c13; simp only [ByteArray.size_append] at h_; exact h_
           try have c13n0 := eq_true c13n
           try have c13n2 : (9223372036854775807 < x4_1.size + (rdOf ByteArray.empty y153 ((rd_T50 l0 x5_1).f1)).size + 1 + t157.size) = False := eq_false (Nat.not_lt.2 c13n)
           try have c13b2 : (9223372036854775807 < ((x4_1 ++ (rdOf ByteArray.empty y153 ((rd_T50 l0 x5_1).f1))) ++ (⟨#[32]⟩ : ByteArray)).size + t157.size) = False := eq_false (Nat.not_lt.2 c13)
           by_cases c14 : (((x4_1 ++ (rdOf ByteArray.empty y153 ((rd_T50 l0 x5_1).f1))) ++ (⟨#[32]⟩ : ByteArray)) ++ t157).size + 1 ≤ 9223372036854775807
           ·
            rw [if_pos c14] at H
            have c14b0 := eq_true c14
            have c14b1 : decide ((((x4_1 ++ (rdOf ByteArray.empty y153 ((rd_T50 l0 x5_1).f1))) ++ (⟨#[32]⟩ : ByteArray)) ++ t157).size + 1 ≤ 9223372036854775807) = true := decide_eq_true c14
            try have c14n : x4_1.size + (rdOf ByteArray.empty y153 ((rd_T50 l0 x5_1).f1)).size + 1 + t157.size + 1 ≤ 9223372036854775807 := by have h_ := c14; simp only [ByteArray.size_append] at h_; exact h_
            try have c14n0 := eq_true c14n
            try have c14n2 : (9223372036854775807 < x4_1.size + (rdOf ByteArray.empty y153 ((rd_T50 l0 x5_1).f1)).size + 1 + t157.size + 1) = False := eq_false (Nat.not_lt.2 c14n)
            try have c14b2 : (9223372036854775807 < (((x4_1 ++ (rdOf ByteArray.empty y153 ((rd_T50 l0 x5_1).f1))) ++ (⟨#[32]⟩ : ByteArray)) ++ t157).size + 1) = False := eq_false (Nat.not_lt.2 c14)
            replace H := Option.bind_eq_some_iff.mp H
            obtain ⟨t158, A150, H⟩ := H
            replace H : (if ((((x4_1 ++ (rdOf ByteArray.empty y153 ((rd_T50 l0 x5_1).f1))) ++ (⟨#[32]⟩ : ByteArray)) ++ t157) ++ (⟨#[32]⟩ : ByteArray)).size + t158.size ≤ 9223372036854775807 then (if (((((x4_1 ++ (rdOf ByteArray.empty y153 ((rd_T50 l0 x5_1).f1))) ++ (⟨#[32]⟩ : ByteArray)) ++ t157) ++ (⟨#[32]⟩ : ByteArray)) ++ t158).size + 1 ≤ 9223372036854775807 then ((spec_l2Digits.f k1 ((rd_T50 l0 x5_1).f0.f4)).bind fun t159 => (if ((((((x4_1 ++ (rdOf ByteArray.empty y153 ((rd_T50 l0 x5_1).f1))) ++ (⟨#[32]⟩ : ByteArray)) ++ t157) ++ (⟨#[32]⟩ : ByteArray)) ++ t158) ++ (⟨#[32]⟩ : ByteArray)).size + t159.size ≤ 9223372036854775807 then (if (((((((x4_1 ++ (rdOf ByteArray.empty y153 ((rd_T50 l0 x5_1).f1))) ++ (⟨#[32]⟩ : ByteArray)) ++ t157) ++ (⟨#[32]⟩ : ByteArray)) ++ t158) ++ (⟨#[32]⟩ : ByteArray)) ++ t159).size + 1 ≤ 9223372036854775807 then ((spec_l2Digits.f k1 ((rd_T50 l0 x5_1).f0.f3.f0)).bind fun t160 => (if ((((((((x4_1 ++ (rdOf ByteArray.empty y153 ((rd_T50 l0 x5_1).f1))) ++ (⟨#[32]⟩ : ByteArray)) ++ t157) ++ (⟨#[32]⟩ : ByteArray)) ++ t158) ++ (⟨#[32]⟩ : ByteArray)) ++ t159) ++ (⟨#[32]⟩ : ByteArray)).size + t160.size ≤ 9223372036854775807 then (if (((((((((x4_1 ++ (rdOf ByteArray.empty y153 ((rd_T50 l0 x5_1).f1))) ++ (⟨#[32]⟩ : ByteArray)) ++ t157) ++ (⟨#[32]⟩ : ByteArray)) ++ t158) ++ (⟨#[32]⟩ : ByteArray)) ++ t159) ++ (⟨#[32]⟩ : ByteArray)) ++ t160).size + 1 ≤ 9223372036854775807 then ((spec_l2Digits.f k1 ((rd_T50 l0 x5_1).f0.f3.f1)).bind fun t161 => (if ((((((((((x4_1 ++ (rdOf ByteArray.empty y153 ((rd_T50 l0 x5_1).f1))) ++ (⟨#[32]⟩ : ByteArray)) ++ t157) ++ (⟨#[32]⟩ : ByteArray)) ++ t158) ++ (⟨#[32]⟩ : ByteArray)) ++ t159) ++ (⟨#[32]⟩ : ByteArray)) ++ t160) ++ (⟨#[45]⟩ : ByteArray)).size + t161.size ≤ 9223372036854775807 then (if ((rd_T50 l0 x5_1).f1) = 3 then (if (((((((((((x4_1 ++ (rdOf ByteArray.empty y153 ((rd_T50 l0 x5_1).f1))) ++ (⟨#[32]⟩ : ByteArray)) ++ t157) ++ (⟨#[32]⟩ : ByteArray)) ++ t158) ++ (⟨#[32]⟩ : ByteArray)) ++ t159) ++ (⟨#[32]⟩ : ByteArray)) ++ t160) ++ (⟨#[45]⟩ : ByteArray)) ++ t161).size + 1 ≤ 9223372036854775807 then ((spec_l2Digits.f k1 ((rd_T50 l0 x5_1).f2)).bind fun t162 => (if ((((((((((((x4_1 ++ (rdOf ByteArray.empty y153 ((rd_T50 l0 x5_1).f1))) ++ (⟨#[32]⟩ : ByteArray)) ++ t157) ++ (⟨#[32]⟩ : ByteArray)) ++ t158) ++ (⟨#[32]⟩ : ByteArray)) ++ t159) ++ (⟨#[32]⟩ : ByteArray)) ++ t160) ++ (⟨#[45]⟩ : ByteArray)) ++ t161) ++ (⟨#[32]⟩ : ByteArray)).size + t162.size ≤ 9223372036854775807 then (if (((((((((((((x4_1 ++ (rdOf ByteArray.empty y153 ((rd_T50 l0 x5_1).f1))) ++ (⟨#[32]⟩ : ByteArray)) ++ t157) ++ (⟨#[32]⟩ : ByteArray)) ++ t158) ++ (⟨#[32]⟩ : ByteArray)) ++ t159) ++ (⟨#[32]⟩ : ByteArray)) ++ t160) ++ (⟨#[45]⟩ : ByteArray)) ++ t161) ++ (⟨#[32]⟩ : ByteArray)) ++ t162).size + 1 ≤ 9223372036854775807 then (spec_PolicyText.l0 k1 l0 ((((((((((((((x4_1 ++ (rdOf ByteArray.empty y153 ((rd_T50 l0 x5_1).f1))) ++ (⟨#[32]⟩ : ByteArray)) ++ t157) ++ (⟨#[32]⟩ : ByteArray)) ++ t158) ++ (⟨#[32]⟩ : ByteArray)) ++ t159) ++ (⟨#[32]⟩ : ByteArray)) ++ t160) ++ (⟨#[45]⟩ : ByteArray)) ++ t161) ++ (⟨#[32]⟩ : ByteArray)) ++ t162) ++ (⟨#[10]⟩ : ByteArray)) (wrap64 (x5_1 + 1))) else (none)) else (none))) else (none)) else (if (((((((((((x4_1 ++ (rdOf ByteArray.empty y153 ((rd_T50 l0 x5_1).f1))) ++ (⟨#[32]⟩ : ByteArray)) ++ t157) ++ (⟨#[32]⟩ : ByteArray)) ++ t158) ++ (⟨#[32]⟩ : ByteArray)) ++ t159) ++ (⟨#[32]⟩ : ByteArray)) ++ t160) ++ (⟨#[45]⟩ : ByteArray)) ++ t161).size + 1 ≤ 9223372036854775807 then (spec_PolicyText.l0 k1 l0 ((((((((((((x4_1 ++ (rdOf ByteArray.empty y153 ((rd_T50 l0 x5_1).f1))) ++ (⟨#[32]⟩ : ByteArray)) ++ t157) ++ (⟨#[32]⟩ : ByteArray)) ++ t158) ++ (⟨#[32]⟩ : ByteArray)) ++ t159) ++ (⟨#[32]⟩ : ByteArray)) ++ t160) ++ (⟨#[45]⟩ : ByteArray)) ++ t161) ++ (⟨#[10]⟩ : ByteArray)) (wrap64 (x5_1 + 1))) else (none))) else (none))) else (none)) else (none))) else (none)) else (none))) else (none)) else (none)) = some (r1, r2) := H
            have A15 := Aside0.mk A150
            clear A150
            by_cases c16 : ((((x4_1 ++ (rdOf ByteArray.empty y153 ((rd_T50 l0 x5_1).f1))) ++ (⟨#[32]⟩ : ByteArray)) ++ t157) ++ (⟨#[32]⟩ : ByteArray)).size + t158.size ≤ 9223372036854775807
            ·
             rw [if_pos c16] at H
             have c16b0 := eq_true c16
             have c16b1 : decide (((((x4_1 ++ (rdOf ByteArray.empty y153 ((rd_T50 l0 x5_1).f1))) ++ (⟨#[32]⟩ : ByteArray)) ++ t157) ++ (⟨#[32]⟩ : ByteArray)).size + t158.size ≤ 9223372036854775807) = true := decide_eq_true c16
             try have c16n : x4_1.size + (rdOf ByteArray.empty y153 ((rd_T50 l0 x5_1).f1)).size + 1 + t157.size + 1 + t158.size ≤ 9223372036854775807 := by have h_ := c16; simp only [ByteArray.size_append] at h_; exact h_
             try have c16n0 := eq_true c16n
             try have c16n2 : (9223372036854775807 < x4_1.size + (rdOf ByteArray.empty y153 ((rd_T50 l0 x5_1).f1)).size + 1 + t157.size + 1 + t158.size) = False := eq_false (Nat.not_lt.2 c16n)
             try have c16b2 : (9223372036854775807 < ((((x4_1 ++ (rdOf ByteArray.empty y153 ((rd_T50 l0 x5_1).f1))) ++ (⟨#[32]⟩ : ByteArray)) ++ t157) ++ (⟨#[32]⟩ : ByteArray)).size + t158.size) = False := eq_false (Nat.not_lt.2 c16)
             by_cases c17 : (((((x4_1 ++ (rdOf ByteArray.empty y153 ((rd_T50 l0 x5_1).f1))) ++ (⟨#[32]⟩ : ByteArray)) ++ t157) ++ (⟨#[32]⟩ : ByteArray)) ++ t158).size + 1 ≤ 9223372036854775807
             ·
              rw [if_pos c17] at H
              have c17b0 := eq_true c17
              have c17b1 : decide ((((((x4_1 ++ (rdOf ByteArray.empty y153 ((rd_T50 l0 x5_1).f1))) ++ (⟨#[32]⟩ : ByteArray)) ++ t157) ++ (⟨#[32]⟩ : ByteArray)) ++ t158).size + 1 ≤ 9223372036854775807) = true := decide_eq_true c17
              try have c17n : x4_1.size + (rdOf ByteArray.empty y153 ((rd_T50 l0 x5_1).f1)).size + 1 + t157.size + 1 + t158.size + 1 ≤ 9223372036854775807 := by have h_ := c17; simp only [ByteArray.size_append] at h_; exact h_
              try have c17n0 := eq_true c17n
              try have c17n2 : (9223372036854775807 < x4_1.size + (rdOf ByteArray.empty y153 ((rd_T50 l0 x5_1).f1)).size + 1 + t157.size + 1 + t158.size + 1) = False := eq_false (Nat.not_lt.2 c17n)
              try have c17b2 : (9223372036854775807 < (((((x4_1 ++ (rdOf ByteArray.empty y153 ((rd_T50 l0 x5_1).f1))) ++ (⟨#[32]⟩ : ByteArray)) ++ t157) ++ (⟨#[32]⟩ : ByteArray)) ++ t158).size + 1) = False := eq_false (Nat.not_lt.2 c17)
              replace H := Option.bind_eq_some_iff.mp H
              obtain ⟨t159, A180, H⟩ := H
              replace H : (if ((((((x4_1 ++ (rdOf ByteArray.empty y153 ((rd_T50 l0 x5_1).f1))) ++ (⟨#[32]⟩ : ByteArray)) ++ t157) ++ (⟨#[32]⟩ : ByteArray)) ++ t158) ++ (⟨#[32]⟩ : ByteArray)).size + t159.size ≤ 9223372036854775807 then (if (((((((x4_1 ++ (rdOf ByteArray.empty y153 ((rd_T50 l0 x5_1).f1))) ++ (⟨#[32]⟩ : ByteArray)) ++ t157) ++ (⟨#[32]⟩ : ByteArray)) ++ t158) ++ (⟨#[32]⟩ : ByteArray)) ++ t159).size + 1 ≤ 9223372036854775807 then ((spec_l2Digits.f k1 ((rd_T50 l0 x5_1).f0.f3.f0)).bind fun t160 => (if ((((((((x4_1 ++ (rdOf ByteArray.empty y153 ((rd_T50 l0 x5_1).f1))) ++ (⟨#[32]⟩ : ByteArray)) ++ t157) ++ (⟨#[32]⟩ : ByteArray)) ++ t158) ++ (⟨#[32]⟩ : ByteArray)) ++ t159) ++ (⟨#[32]⟩ : ByteArray)).size + t160.size ≤ 9223372036854775807 then (if (((((((((x4_1 ++ (rdOf ByteArray.empty y153 ((rd_T50 l0 x5_1).f1))) ++ (⟨#[32]⟩ : ByteArray)) ++ t157) ++ (⟨#[32]⟩ : ByteArray)) ++ t158) ++ (⟨#[32]⟩ : ByteArray)) ++ t159) ++ (⟨#[32]⟩ : ByteArray)) ++ t160).size + 1 ≤ 9223372036854775807 then ((spec_l2Digits.f k1 ((rd_T50 l0 x5_1).f0.f3.f1)).bind fun t161 => (if ((((((((((x4_1 ++ (rdOf ByteArray.empty y153 ((rd_T50 l0 x5_1).f1))) ++ (⟨#[32]⟩ : ByteArray)) ++ t157) ++ (⟨#[32]⟩ : ByteArray)) ++ t158) ++ (⟨#[32]⟩ : ByteArray)) ++ t159) ++ (⟨#[32]⟩ : ByteArray)) ++ t160) ++ (⟨#[45]⟩ : ByteArray)).size + t161.size ≤ 9223372036854775807 then (if ((rd_T50 l0 x5_1).f1) = 3 then (if (((((((((((x4_1 ++ (rdOf ByteArray.empty y153 ((rd_T50 l0 x5_1).f1))) ++ (⟨#[32]⟩ : ByteArray)) ++ t157) ++ (⟨#[32]⟩ : ByteArray)) ++ t158) ++ (⟨#[32]⟩ : ByteArray)) ++ t159) ++ (⟨#[32]⟩ : ByteArray)) ++ t160) ++ (⟨#[45]⟩ : ByteArray)) ++ t161).size + 1 ≤ 9223372036854775807 then ((spec_l2Digits.f k1 ((rd_T50 l0 x5_1).f2)).bind fun t162 => (if ((((((((((((x4_1 ++ (rdOf ByteArray.empty y153 ((rd_T50 l0 x5_1).f1))) ++ (⟨#[32]⟩ : ByteArray)) ++ t157) ++ (⟨#[32]⟩ : ByteArray)) ++ t158) ++ (⟨#[32]⟩ : ByteArray)) ++ t159) ++ (⟨#[32]⟩ : ByteArray)) ++ t160) ++ (⟨#[45]⟩ : ByteArray)) ++ t161) ++ (⟨#[32]⟩ : ByteArray)).size + t162.size ≤ 9223372036854775807 then (if (((((((((((((x4_1 ++ (rdOf ByteArray.empty y153 ((rd_T50 l0 x5_1).f1))) ++ (⟨#[32]⟩ : ByteArray)) ++ t157) ++ (⟨#[32]⟩ : ByteArray)) ++ t158) ++ (⟨#[32]⟩ : ByteArray)) ++ t159) ++ (⟨#[32]⟩ : ByteArray)) ++ t160) ++ (⟨#[45]⟩ : ByteArray)) ++ t161) ++ (⟨#[32]⟩ : ByteArray)) ++ t162).size + 1 ≤ 9223372036854775807 then (spec_PolicyText.l0 k1 l0 ((((((((((((((x4_1 ++ (rdOf ByteArray.empty y153 ((rd_T50 l0 x5_1).f1))) ++ (⟨#[32]⟩ : ByteArray)) ++ t157) ++ (⟨#[32]⟩ : ByteArray)) ++ t158) ++ (⟨#[32]⟩ : ByteArray)) ++ t159) ++ (⟨#[32]⟩ : ByteArray)) ++ t160) ++ (⟨#[45]⟩ : ByteArray)) ++ t161) ++ (⟨#[32]⟩ : ByteArray)) ++ t162) ++ (⟨#[10]⟩ : ByteArray)) (wrap64 (x5_1 + 1))) else (none)) else (none))) else (none)) else (if (((((((((((x4_1 ++ (rdOf ByteArray.empty y153 ((rd_T50 l0 x5_1).f1))) ++ (⟨#[32]⟩ : ByteArray)) ++ t157) ++ (⟨#[32]⟩ : ByteArray)) ++ t158) ++ (⟨#[32]⟩ : ByteArray)) ++ t159) ++ (⟨#[32]⟩ : ByteArray)) ++ t160) ++ (⟨#[45]⟩ : ByteArray)) ++ t161).size + 1 ≤ 9223372036854775807 then (spec_PolicyText.l0 k1 l0 ((((((((((((x4_1 ++ (rdOf ByteArray.empty y153 ((rd_T50 l0 x5_1).f1))) ++ (⟨#[32]⟩ : ByteArray)) ++ t157) ++ (⟨#[32]⟩ : ByteArray)) ++ t158) ++ (⟨#[32]⟩ : ByteArray)) ++ t159) ++ (⟨#[32]⟩ : ByteArray)) ++ t160) ++ (⟨#[45]⟩ : ByteArray)) ++ t161) ++ (⟨#[10]⟩ : ByteArray)) (wrap64 (x5_1 + 1))) else (none))) else (none))) else (none)) else (none))) else (none)) else (none)) = some (r1, r2) := H
              have A18 := Aside0.mk A180
              clear A180
              by_cases c19 : ((((((x4_1 ++ (rdOf ByteArray.empty y153 ((rd_T50 l0 x5_1).f1))) ++ (⟨#[32]⟩ : ByteArray)) ++ t157) ++ (⟨#[32]⟩ : ByteArray)) ++ t158) ++ (⟨#[32]⟩ : ByteArray)).size + t159.size ≤ 9223372036854775807
              ·
               rw [if_pos c19] at H
               have c19b0 := eq_true c19
               have c19b1 : decide (((((((x4_1 ++ (rdOf ByteArray.empty y153 ((rd_T50 l0 x5_1).f1))) ++ (⟨#[32]⟩ : ByteArray)) ++ t157) ++ (⟨#[32]⟩ : ByteArray)) ++ t158) ++ (⟨#[32]⟩ : ByteArray)).size + t159.size ≤ 9223372036854775807) = true := decide_eq_true c19
               try have c19n : x4_1.size + (rdOf ByteArray.empty y153 ((rd_T50 l0 x5_1).f1)).size + 1 + t157.size + 1 + t158.size + 1 + t159.size ≤ 9223372036854775807 := by have h_ := c19; simp only [ByteArray.size_append] at h_; exact h_
               try have c19n0 := eq_true c19n
               try have c19n2 : (9223372036854775807 < x4_1.size + (rdOf ByteArray.empty y153 ((rd_T50 l0 x5_1).f1)).size + 1 + t157.size + 1 + t158.size + 1 + t159.size) = False := eq_false (Nat.not_lt.2 c19n)
               try have c19b2 : (9223372036854775807 < ((((((x4_1 ++ (rdOf ByteArray.empty y153 ((rd_T50 l0 x5_1).f1))) ++ (⟨#[32]⟩ : ByteArray)) ++ t157) ++ (⟨#[32]⟩ : ByteArray)) ++ t158) ++ (⟨#[32]⟩ : ByteArray)).size + t159.size) = False := eq_false (Nat.not_lt.2 c19)
               by_cases c20 : (((((((x4_1 ++ (rdOf ByteArray.empty y153 ((rd_T50 l0 x5_1).f1))) ++ (⟨#[32]⟩ : ByteArray)) ++ t157) ++ (⟨#[32]⟩ : ByteArray)) ++ t158) ++ (⟨#[32]⟩ : ByteArray)) ++ t159).size + 1 ≤ 9223372036854775807
               ·
                rw [if_pos c20] at H
                have c20b0 := eq_true c20
                have c20b1 : decide ((((((((x4_1 ++ (rdOf ByteArray.empty y153 ((rd_T50 l0 x5_1).f1))) ++ (⟨#[32]⟩ : ByteArray)) ++ t157) ++ (⟨#[32]⟩ : ByteArray)) ++ t158) ++ (⟨#[32]⟩ : ByteArray)) ++ t159).size + 1 ≤ 9223372036854775807) = true := decide_eq_true c20
                try have c20n : x4_1.size + (rdOf ByteArray.empty y153 ((rd_T50 l0 x5_1).f1)).size + 1 + t157.size + 1 + t158.size + 1 + t159.size + 1 ≤ 9223372036854775807 := by have h_ := c20; simp only [ByteArray.size_append] at h_; exact h_
                try have c20n0 := eq_true c20n
                try have c20n2 : (9223372036854775807 < x4_1.size + (rdOf ByteArray.empty y153 ((rd_T50 l0 x5_1).f1)).size + 1 + t157.size + 1 + t158.size + 1 + t159.size + 1) = False := eq_false (Nat.not_lt.2 c20n)
                try have c20b2 : (9223372036854775807 < (((((((x4_1 ++ (rdOf ByteArray.empty y153 ((rd_T50 l0 x5_1).f1))) ++ (⟨#[32]⟩ : ByteArray)) ++ t157) ++ (⟨#[32]⟩ : ByteArray)) ++ t158) ++ (⟨#[32]⟩ : ByteArray)) ++ t159).size + 1) = False := eq_false (Nat.not_lt.2 c20)
                replace H := Option.bind_eq_some_iff.mp H
                obtain ⟨t160, A210, H⟩ := H
                replace H : (if ((((((((x4_1 ++ (rdOf ByteArray.empty y153 ((rd_T50 l0 x5_1).f1))) ++ (⟨#[32]⟩ : ByteArray)) ++ t157) ++ (⟨#[32]⟩ : ByteArray)) ++ t158) ++ (⟨#[32]⟩ : ByteArray)) ++ t159) ++ (⟨#[32]⟩ : ByteArray)).size + t160.size ≤ 9223372036854775807 then (if (((((((((x4_1 ++ (rdOf ByteArray.empty y153 ((rd_T50 l0 x5_1).f1))) ++ (⟨#[32]⟩ : ByteArray)) ++ t157) ++ (⟨#[32]⟩ : ByteArray)) ++ t158) ++ (⟨#[32]⟩ : ByteArray)) ++ t159) ++ (⟨#[32]⟩ : ByteArray)) ++ t160).size + 1 ≤ 9223372036854775807 then ((spec_l2Digits.f k1 ((rd_T50 l0 x5_1).f0.f3.f1)).bind fun t161 => (if ((((((((((x4_1 ++ (rdOf ByteArray.empty y153 ((rd_T50 l0 x5_1).f1))) ++ (⟨#[32]⟩ : ByteArray)) ++ t157) ++ (⟨#[32]⟩ : ByteArray)) ++ t158) ++ (⟨#[32]⟩ : ByteArray)) ++ t159) ++ (⟨#[32]⟩ : ByteArray)) ++ t160) ++ (⟨#[45]⟩ : ByteArray)).size + t161.size ≤ 9223372036854775807 then (if ((rd_T50 l0 x5_1).f1) = 3 then (if (((((((((((x4_1 ++ (rdOf ByteArray.empty y153 ((rd_T50 l0 x5_1).f1))) ++ (⟨#[32]⟩ : ByteArray)) ++ t157) ++ (⟨#[32]⟩ : ByteArray)) ++ t158) ++ (⟨#[32]⟩ : ByteArray)) ++ t159) ++ (⟨#[32]⟩ : ByteArray)) ++ t160) ++ (⟨#[45]⟩ : ByteArray)) ++ t161).size + 1 ≤ 9223372036854775807 then ((spec_l2Digits.f k1 ((rd_T50 l0 x5_1).f2)).bind fun t162 => (if ((((((((((((x4_1 ++ (rdOf ByteArray.empty y153 ((rd_T50 l0 x5_1).f1))) ++ (⟨#[32]⟩ : ByteArray)) ++ t157) ++ (⟨#[32]⟩ : ByteArray)) ++ t158) ++ (⟨#[32]⟩ : ByteArray)) ++ t159) ++ (⟨#[32]⟩ : ByteArray)) ++ t160) ++ (⟨#[45]⟩ : ByteArray)) ++ t161) ++ (⟨#[32]⟩ : ByteArray)).size + t162.size ≤ 9223372036854775807 then (if (((((((((((((x4_1 ++ (rdOf ByteArray.empty y153 ((rd_T50 l0 x5_1).f1))) ++ (⟨#[32]⟩ : ByteArray)) ++ t157) ++ (⟨#[32]⟩ : ByteArray)) ++ t158) ++ (⟨#[32]⟩ : ByteArray)) ++ t159) ++ (⟨#[32]⟩ : ByteArray)) ++ t160) ++ (⟨#[45]⟩ : ByteArray)) ++ t161) ++ (⟨#[32]⟩ : ByteArray)) ++ t162).size + 1 ≤ 9223372036854775807 then (spec_PolicyText.l0 k1 l0 ((((((((((((((x4_1 ++ (rdOf ByteArray.empty y153 ((rd_T50 l0 x5_1).f1))) ++ (⟨#[32]⟩ : ByteArray)) ++ t157) ++ (⟨#[32]⟩ : ByteArray)) ++ t158) ++ (⟨#[32]⟩ : ByteArray)) ++ t159) ++ (⟨#[32]⟩ : ByteArray)) ++ t160) ++ (⟨#[45]⟩ : ByteArray)) ++ t161) ++ (⟨#[32]⟩ : ByteArray)) ++ t162) ++ (⟨#[10]⟩ : ByteArray)) (wrap64 (x5_1 + 1))) else (none)) else (none))) else (none)) else (if (((((((((((x4_1 ++ (rdOf ByteArray.empty y153 ((rd_T50 l0 x5_1).f1))) ++ (⟨#[32]⟩ : ByteArray)) ++ t157) ++ (⟨#[32]⟩ : ByteArray)) ++ t158) ++ (⟨#[32]⟩ : ByteArray)) ++ t159) ++ (⟨#[32]⟩ : ByteArray)) ++ t160) ++ (⟨#[45]⟩ : ByteArray)) ++ t161).size + 1 ≤ 9223372036854775807 then (spec_PolicyText.l0 k1 l0 ((((((((((((x4_1 ++ (rdOf ByteArray.empty y153 ((rd_T50 l0 x5_1).f1))) ++ (⟨#[32]⟩ : ByteArray)) ++ t157) ++ (⟨#[32]⟩ : ByteArray)) ++ t158) ++ (⟨#[32]⟩ : ByteArray)) ++ t159) ++ (⟨#[32]⟩ : ByteArray)) ++ t160) ++ (⟨#[45]⟩ : ByteArray)) ++ t161) ++ (⟨#[10]⟩ : ByteArray)) (wrap64 (x5_1 + 1))) else (none))) else (none))) else (none)) else (none)) = some (r1, r2) := H
                have A21 := Aside0.mk A210
                clear A210
                by_cases c22 : ((((((((x4_1 ++ (rdOf ByteArray.empty y153 ((rd_T50 l0 x5_1).f1))) ++ (⟨#[32]⟩ : ByteArray)) ++ t157) ++ (⟨#[32]⟩ : ByteArray)) ++ t158) ++ (⟨#[32]⟩ : ByteArray)) ++ t159) ++ (⟨#[32]⟩ : ByteArray)).size + t160.size ≤ 9223372036854775807
                ·
                 rw [if_pos c22] at H
                 have c22b0 := eq_true c22
                 have c22b1 : decide (((((((((x4_1 ++ (rdOf ByteArray.empty y153 ((rd_T50 l0 x5_1).f1))) ++ (⟨#[32]⟩ : ByteArray)) ++ t157) ++ (⟨#[32]⟩ : ByteArray)) ++ t158) ++ (⟨#[32]⟩ : ByteArray)) ++ t159) ++ (⟨#[32]⟩ : ByteArray)).size + t160.size ≤ 9223372036854775807) = true := decide_eq_true c22
                 try have c22n : x4_1.size + (rdOf ByteArray.empty y153 ((rd_T50 l0 x5_1).f1)).size + 1 + t157.size + 1 + t158.size + 1 + t159.size + 1 + t160.size ≤ 9223372036854775807 := by have h_ := c22; simp only [ByteArray.size_append] at h_; exact h_
                 try have c22n0 := eq_true c22n
                 try have c22n2 : (9223372036854775807 < x4_1.size + (rdOf ByteArray.empty y153 ((rd_T50 l0 x5_1).f1)).size + 1 + t157.size + 1 + t158.size + 1 + t159.size + 1 + t160.size) = False := eq_false (Nat.not_lt.2 c22n)
                 try have c22b2 : (9223372036854775807 < ((((((((x4_1 ++ (rdOf ByteArray.empty y153 ((rd_T50 l0 x5_1).f1))) ++ (⟨#[32]⟩ : ByteArray)) ++ t157) ++ (⟨#[32]⟩ : ByteArray)) ++ t158) ++ (⟨#[32]⟩ : ByteArray)) ++ t159) ++ (⟨#[32]⟩ : ByteArray)).size + t160.size) = False := eq_false (Nat.not_lt.2 c22)
                 by_cases c23 : (((((((((x4_1 ++ (rdOf ByteArray.empty y153 ((rd_T50 l0 x5_1).f1))) ++ (⟨#[32]⟩ : ByteArray)) ++ t157) ++ (⟨#[32]⟩ : ByteArray)) ++ t158) ++ (⟨#[32]⟩ : ByteArray)) ++ t159) ++ (⟨#[32]⟩ : ByteArray)) ++ t160).size + 1 ≤ 9223372036854775807
                 ·
                  rw [if_pos c23] at H
                  have c23b0 := eq_true c23
                  have c23b1 : decide ((((((((((x4_1 ++ (rdOf ByteArray.empty y153 ((rd_T50 l0 x5_1).f1))) ++ (⟨#[32]⟩ : ByteArray)) ++ t157) ++ (⟨#[32]⟩ : ByteArray)) ++ t158) ++ (⟨#[32]⟩ : ByteArray)) ++ t159) ++ (⟨#[32]⟩ : ByteArray)) ++ t160).size + 1 ≤ 9223372036854775807) = true := decide_eq_true c23
                  try have c23n : x4_1.size + (rdOf ByteArray.empty y153 ((rd_T50 l0 x5_1).f1)).size + 1 + t157.size + 1 + t158.size + 1 + t159.size + 1 + t160.size + 1 ≤ 9223372036854775807 := by have h_ := c23; simp only [ByteArray.size_append] at h_; exact h_
                  try have c23n0 := eq_true c23n
                  try have c23n2 : (9223372036854775807 < x4_1.size + (rdOf ByteArray.empty y153 ((rd_T50 l0 x5_1).f1)).size + 1 + t157.size + 1 + t158.size + 1 + t159.size + 1 + t160.size + 1) = False := eq_false (Nat.not_lt.2 c23n)
                  try have c23b2 : (9223372036854775807 < (((((((((x4_1 ++ (rdOf ByteArray.empty y153 ((rd_T50 l0 x5_1).f1))) ++ (⟨#[32]⟩ : ByteArray)) ++ t157) ++ (⟨#[32]⟩ : ByteArray)) ++ t158) ++ (⟨#[32]⟩ : ByteArray)) ++ t159) ++ (⟨#[32]⟩ : ByteArray)) ++ t160).size + 1) = False := eq_false (Nat.not_lt.2 c23)
                  replace H := Option.bind_eq_some_iff.mp H
                  obtain ⟨t161, A240, H⟩ := H
                  replace H : (if ((((((((((x4_1 ++ (rdOf ByteArray.empty y153 ((rd_T50 l0 x5_1).f1))) ++ (⟨#[32]⟩ : ByteArray)) ++ t157) ++ (⟨#[32]⟩ : ByteArray)) ++ t158) ++ (⟨#[32]⟩ : ByteArray)) ++ t159) ++ (⟨#[32]⟩ : ByteArray)) ++ t160) ++ (⟨#[45]⟩ : ByteArray)).size + t161.size ≤ 9223372036854775807 then (if ((rd_T50 l0 x5_1).f1) = 3 then (if (((((((((((x4_1 ++ (rdOf ByteArray.empty y153 ((rd_T50 l0 x5_1).f1))) ++ (⟨#[32]⟩ : ByteArray)) ++ t157) ++ (⟨#[32]⟩ : ByteArray)) ++ t158) ++ (⟨#[32]⟩ : ByteArray)) ++ t159) ++ (⟨#[32]⟩ : ByteArray)) ++ t160) ++ (⟨#[45]⟩ : ByteArray)) ++ t161).size + 1 ≤ 9223372036854775807 then ((spec_l2Digits.f k1 ((rd_T50 l0 x5_1).f2)).bind fun t162 => (if ((((((((((((x4_1 ++ (rdOf ByteArray.empty y153 ((rd_T50 l0 x5_1).f1))) ++ (⟨#[32]⟩ : ByteArray)) ++ t157) ++ (⟨#[32]⟩ : ByteArray)) ++ t158) ++ (⟨#[32]⟩ : ByteArray)) ++ t159) ++ (⟨#[32]⟩ : ByteArray)) ++ t160) ++ (⟨#[45]⟩ : ByteArray)) ++ t161) ++ (⟨#[32]⟩ : ByteArray)).size + t162.size ≤ 9223372036854775807 then (if (((((((((((((x4_1 ++ (rdOf ByteArray.empty y153 ((rd_T50 l0 x5_1).f1))) ++ (⟨#[32]⟩ : ByteArray)) ++ t157) ++ (⟨#[32]⟩ : ByteArray)) ++ t158) ++ (⟨#[32]⟩ : ByteArray)) ++ t159) ++ (⟨#[32]⟩ : ByteArray)) ++ t160) ++ (⟨#[45]⟩ : ByteArray)) ++ t161) ++ (⟨#[32]⟩ : ByteArray)) ++ t162).size + 1 ≤ 9223372036854775807 then (spec_PolicyText.l0 k1 l0 ((((((((((((((x4_1 ++ (rdOf ByteArray.empty y153 ((rd_T50 l0 x5_1).f1))) ++ (⟨#[32]⟩ : ByteArray)) ++ t157) ++ (⟨#[32]⟩ : ByteArray)) ++ t158) ++ (⟨#[32]⟩ : ByteArray)) ++ t159) ++ (⟨#[32]⟩ : ByteArray)) ++ t160) ++ (⟨#[45]⟩ : ByteArray)) ++ t161) ++ (⟨#[32]⟩ : ByteArray)) ++ t162) ++ (⟨#[10]⟩ : ByteArray)) (wrap64 (x5_1 + 1))) else (none)) else (none))) else (none)) else (if (((((((((((x4_1 ++ (rdOf ByteArray.empty y153 ((rd_T50 l0 x5_1).f1))) ++ (⟨#[32]⟩ : ByteArray)) ++ t157) ++ (⟨#[32]⟩ : ByteArray)) ++ t158) ++ (⟨#[32]⟩ : ByteArray)) ++ t159) ++ (⟨#[32]⟩ : ByteArray)) ++ t160) ++ (⟨#[45]⟩ : ByteArray)) ++ t161).size + 1 ≤ 9223372036854775807 then (spec_PolicyText.l0 k1 l0 ((((((((((((x4_1 ++ (rdOf ByteArray.empty y153 ((rd_T50 l0 x5_1).f1))) ++ (⟨#[32]⟩ : ByteArray)) ++ t157) ++ (⟨#[32]⟩ : ByteArray)) ++ t158) ++ (⟨#[32]⟩ : ByteArray)) ++ t159) ++ (⟨#[32]⟩ : ByteArray)) ++ t160) ++ (⟨#[45]⟩ : ByteArray)) ++ t161) ++ (⟨#[10]⟩ : ByteArray)) (wrap64 (x5_1 + 1))) else (none))) else (none)) = some (r1, r2) := H
                  have A24 := Aside0.mk A240
                  clear A240
                  by_cases c25 : ((((((((((x4_1 ++ (rdOf ByteArray.empty y153 ((rd_T50 l0 x5_1).f1))) ++ (⟨#[32]⟩ : ByteArray)) ++ t157) ++ (⟨#[32]⟩ : ByteArray)) ++ t158) ++ (⟨#[32]⟩ : ByteArray)) ++ t159) ++ (⟨#[32]⟩ : ByteArray)) ++ t160) ++ (⟨#[45]⟩ : ByteArray)).size + t161.size ≤ 9223372036854775807
                  ·
                   rw [if_pos c25] at H
                   have c25b0 := eq_true c25
                   have c25b1 : decide (((((((((((x4_1 ++ (rdOf ByteArray.empty y153 ((rd_T50 l0 x5_1).f1))) ++ (⟨#[32]⟩ : ByteArray)) ++ t157) ++ (⟨#[32]⟩ : ByteArray)) ++ t158) ++ (⟨#[32]⟩ : ByteArray)) ++ t159) ++ (⟨#[32]⟩ : ByteArray)) ++ t160) ++ (⟨#[45]⟩ : ByteArray)).size + t161.size ≤ 9223372036854775807) = true := decide_eq_true c25
                   try have c25n : x4_1.size + (rdOf ByteArray.empty y153 ((rd_T50 l0 x5_1).f1)).size + 1 + t157.size + 1 + t158.size + 1 + t159.size + 1 + t160.size + 1 + t161.size ≤ 9223372036854775807 := by have h_ := c25; simp only [ByteArray.size_append] at h_; exact h_
                   try have c25n0 := eq_true c25n
                   try have c25n2 : (9223372036854775807 < x4_1.size + (rdOf ByteArray.empty y153 ((rd_T50 l0 x5_1).f1)).size + 1 + t157.size + 1 + t158.size + 1 + t159.size + 1 + t160.size + 1 + t161.size) = False := eq_false (Nat.not_lt.2 c25n)
                   try have c25b2 : (9223372036854775807 < ((((((((((x4_1 ++ (rdOf ByteArray.empty y153 ((rd_T50 l0 x5_1).f1))) ++ (⟨#[32]⟩ : ByteArray)) ++ t157) ++ (⟨#[32]⟩ : ByteArray)) ++ t158) ++ (⟨#[32]⟩ : ByteArray)) ++ t159) ++ (⟨#[32]⟩ : ByteArray)) ++ t160) ++ (⟨#[45]⟩ : ByteArray)).size + t161.size) = False := eq_false (Nat.not_lt.2 c25)
                   by_cases c26 : ((rd_T50 l0 x5_1).f1) = 3
                   ·
                    rw [if_pos c26] at H
                    have c26b0 : (((rd_T50 l0 x5_1).f1) == 3) = true := beq_iff_eq.mpr c26
                    have c26b1 : (((rd_T50 l0 x5_1).f1) != 3) = false := bne_eq_false_iff_eq.mpr c26
                    clear c26
                    by_cases c27 : (((((((((((x4_1 ++ (rdOf ByteArray.empty y153 ((rd_T50 l0 x5_1).f1))) ++ (⟨#[32]⟩ : ByteArray)) ++ t157) ++ (⟨#[32]⟩ : ByteArray)) ++ t158) ++ (⟨#[32]⟩ : ByteArray)) ++ t159) ++ (⟨#[32]⟩ : ByteArray)) ++ t160) ++ (⟨#[45]⟩ : ByteArray)) ++ t161).size + 1 ≤ 9223372036854775807
                    ·
                     rw [if_pos c27] at H
                     have c27b0 := eq_true c27
                     have c27b1 : decide ((((((((((((x4_1 ++ (rdOf ByteArray.empty y153 ((rd_T50 l0 x5_1).f1))) ++ (⟨#[32]⟩ : ByteArray)) ++ t157) ++ (⟨#[32]⟩ : ByteArray)) ++ t158) ++ (⟨#[32]⟩ : ByteArray)) ++ t159) ++ (⟨#[32]⟩ : ByteArray)) ++ t160) ++ (⟨#[45]⟩ : ByteArray)) ++ t161).size + 1 ≤ 9223372036854775807) = true := decide_eq_true c27
                     try have c27n : x4_1.size + (rdOf ByteArray.empty y153 ((rd_T50 l0 x5_1).f1)).size + 1 + t157.size + 1 + t158.size + 1 + t159.size + 1 + t160.size + 1 + t161.size + 1 ≤ 9223372036854775807 := by have h_ := c27; simp only [ByteArray.size_append] at h_; exact h_
                     try have c27n0 := eq_true c27n
                     try have c27n2 : (9223372036854775807 < x4_1.size + (rdOf ByteArray.empty y153 ((rd_T50 l0 x5_1).f1)).size + 1 + t157.size + 1 + t158.size + 1 + t159.size + 1 + t160.size + 1 + t161.size + 1) = False := eq_false (Nat.not_lt.2 c27n)
                     try have c27b2 : (9223372036854775807 < (((((((((((x4_1 ++ (rdOf ByteArray.empty y153 ((rd_T50 l0 x5_1).f1))) ++ (⟨#[32]⟩ : ByteArray)) ++ t157) ++ (⟨#[32]⟩ : ByteArray)) ++ t158) ++ (⟨#[32]⟩ : ByteArray)) ++ t159) ++ (⟨#[32]⟩ : ByteArray)) ++ t160) ++ (⟨#[45]⟩ : ByteArray)) ++ t161).size + 1) = False := eq_false (Nat.not_lt.2 c27)
                     replace H := Option.bind_eq_some_iff.mp H
                     obtain ⟨t162, A280, H⟩ := H
                     replace H : (if ((((((((((((x4_1 ++ (rdOf ByteArray.empty y153 ((rd_T50 l0 x5_1).f1))) ++ (⟨#[32]⟩ : ByteArray)) ++ t157) ++ (⟨#[32]⟩ : ByteArray)) ++ t158) ++ (⟨#[32]⟩ : ByteArray)) ++ t159) ++ (⟨#[32]⟩ : ByteArray)) ++ t160) ++ (⟨#[45]⟩ : ByteArray)) ++ t161) ++ (⟨#[32]⟩ : ByteArray)).size + t162.size ≤ 9223372036854775807 then (if (((((((((((((x4_1 ++ (rdOf ByteArray.empty y153 ((rd_T50 l0 x5_1).f1))) ++ (⟨#[32]⟩ : ByteArray)) ++ t157) ++ (⟨#[32]⟩ : ByteArray)) ++ t158) ++ (⟨#[32]⟩ : ByteArray)) ++ t159) ++ (⟨#[32]⟩ : ByteArray)) ++ t160) ++ (⟨#[45]⟩ : ByteArray)) ++ t161) ++ (⟨#[32]⟩ : ByteArray)) ++ t162).size + 1 ≤ 9223372036854775807 then (spec_PolicyText.l0 k1 l0 ((((((((((((((x4_1 ++ (rdOf ByteArray.empty y153 ((rd_T50 l0 x5_1).f1))) ++ (⟨#[32]⟩ : ByteArray)) ++ t157) ++ (⟨#[32]⟩ : ByteArray)) ++ t158) ++ (⟨#[32]⟩ : ByteArray)) ++ t159) ++ (⟨#[32]⟩ : ByteArray)) ++ t160) ++ (⟨#[45]⟩ : ByteArray)) ++ t161) ++ (⟨#[32]⟩ : ByteArray)) ++ t162) ++ (⟨#[10]⟩ : ByteArray)) (wrap64 (x5_1 + 1))) else (none)) else (none)) = some (r1, r2) := H
                     have A28 := Aside0.mk A280
                     clear A280
                     by_cases c29 : ((((((((((((x4_1 ++ (rdOf ByteArray.empty y153 ((rd_T50 l0 x5_1).f1))) ++ (⟨#[32]⟩ : ByteArray)) ++ t157) ++ (⟨#[32]⟩ : ByteArray)) ++ t158) ++ (⟨#[32]⟩ : ByteArray)) ++ t159) ++ (⟨#[32]⟩ : ByteArray)) ++ t160) ++ (⟨#[45]⟩ : ByteArray)) ++ t161) ++ (⟨#[32]⟩ : ByteArray)).size + t162.size ≤ 9223372036854775807
                     ·
                      rw [if_pos c29] at H
                      have c29b0 := eq_true c29
                      have c29b1 : decide (((((((((((((x4_1 ++ (rdOf ByteArray.empty y153 ((rd_T50 l0 x5_1).f1))) ++ (⟨#[32]⟩ : ByteArray)) ++ t157) ++ (⟨#[32]⟩ : ByteArray)) ++ t158) ++ (⟨#[32]⟩ : ByteArray)) ++ t159) ++ (⟨#[32]⟩ : ByteArray)) ++ t160) ++ (⟨#[45]⟩ : ByteArray)) ++ t161) ++ (⟨#[32]⟩ : ByteArray)).size + t162.size ≤ 9223372036854775807) = true := decide_eq_true c29
                      try have c29n : x4_1.size + (rdOf ByteArray.empty y153 ((rd_T50 l0 x5_1).f1)).size + 1 + t157.size + 1 + t158.size + 1 + t159.size + 1 + t160.size + 1 + t161.size + 1 + t162.size ≤ 9223372036854775807 := by have h_ := c29; simp only [ByteArray.size_append] at h_; exact h_
                      try have c29n0 := eq_true c29n
                      try have c29n2 : (9223372036854775807 < x4_1.size + (rdOf ByteArray.empty y153 ((rd_T50 l0 x5_1).f1)).size + 1 + t157.size + 1 + t158.size + 1 + t159.size + 1 + t160.size + 1 + t161.size + 1 + t162.size) = False := eq_false (Nat.not_lt.2 c29n)
                      try have c29b2 : (9223372036854775807 < ((((((((((((x4_1 ++ (rdOf ByteArray.empty y153 ((rd_T50 l0 x5_1).f1))) ++ (⟨#[32]⟩ : ByteArray)) ++ t157) ++ (⟨#[32]⟩ : ByteArray)) ++ t158) ++ (⟨#[32]⟩ : ByteArray)) ++ t159) ++ (⟨#[32]⟩ : ByteArray)) ++ t160) ++ (⟨#[45]⟩ : ByteArray)) ++ t161) ++ (⟨#[32]⟩ : ByteArray)).size + t162.size) = False := eq_false (Nat.not_lt.2 c29)
                      by_cases c30 : (((((((((((((x4_1 ++ (rdOf ByteArray.empty y153 ((rd_T50 l0 x5_1).f1))) ++ (⟨#[32]⟩ : ByteArray)) ++ t157) ++ (⟨#[32]⟩ : ByteArray)) ++ t158) ++ (⟨#[32]⟩ : ByteArray)) ++ t159) ++ (⟨#[32]⟩ : ByteArray)) ++ t160) ++ (⟨#[45]⟩ : ByteArray)) ++ t161) ++ (⟨#[32]⟩ : ByteArray)) ++ t162).size + 1 ≤ 9223372036854775807
                      ·
                       rw [if_pos c30] at H
                       have c30b0 := eq_true c30
                       have c30b1 : decide ((((((((((((((x4_1 ++ (rdOf ByteArray.empty y153 ((rd_T50 l0 x5_1).f1))) ++ (⟨#[32]⟩ : ByteArray)) ++ t157) ++ (⟨#[32]⟩ : ByteArray)) ++ t158) ++ (⟨#[32]⟩ : ByteArray)) ++ t159) ++ (⟨#[32]⟩ : ByteArray)) ++ t160) ++ (⟨#[45]⟩ : ByteArray)) ++ t161) ++ (⟨#[32]⟩ : ByteArray)) ++ t162).size + 1 ≤ 9223372036854775807) = true := decide_eq_true c30
                       try have c30n : x4_1.size + (rdOf ByteArray.empty y153 ((rd_T50 l0 x5_1).f1)).size + 1 + t157.size + 1 + t158.size + 1 + t159.size + 1 + t160.size + 1 + t161.size + 1 + t162.size + 1 ≤ 9223372036854775807 := by have h_ := c30; simp only [ByteArray.size_append] at h_; exact h_
                       try have c30n0 := eq_true c30n
                       try have c30n2 : (9223372036854775807 < x4_1.size + (rdOf ByteArray.empty y153 ((rd_T50 l0 x5_1).f1)).size + 1 + t157.size + 1 + t158.size + 1 + t159.size + 1 + t160.size + 1 + t161.size + 1 + t162.size + 1) = False := eq_false (Nat.not_lt.2 c30n)
                       try have c30b2 : (9223372036854775807 < (((((((((((((x4_1 ++ (rdOf ByteArray.empty y153 ((rd_T50 l0 x5_1).f1))) ++ (⟨#[32]⟩ : ByteArray)) ++ t157) ++ (⟨#[32]⟩ : ByteArray)) ++ t158) ++ (⟨#[32]⟩ : ByteArray)) ++ t159) ++ (⟨#[32]⟩ : ByteArray)) ++ t160) ++ (⟨#[45]⟩ : ByteArray)) ++ t161) ++ (⟨#[32]⟩ : ByteArray)) ++ t162).size + 1) = False := eq_false (Nat.not_lt.2 c30)
                       have H' := Aside0.mk H
                       clear H
                       have p151 : 0 ≤ (x5_1 : Int) := of_decide_eq_true (by first | (with_reducible assumption) | assumption)
                       have q151 : x5_1 < (l0.length : Int) := of_decide_eq_true (by first | (with_reducible assumption) | assumption)
                       obtain ⟨ad151, e151, hx151_0, hx151_1, hx151_2, hx151_3, hx151_4, hx151_5, hx151_6, hx151_7, hx151_8, hx151_9, hx151_10⟩ := at_T50 HR0.out x5_1 p151 q151
                       cases e151
                       replace hx151_0 := (HB.out.cell (World.block_lt_of_cell? w _ hx151_0)).trans hx151_0
                       replace hx151_1 := (HB.out.cell (World.block_lt_of_cell? w _ hx151_1)).trans hx151_1
                       replace hx151_2 := (HB.out.cell (World.block_lt_of_cell? w _ hx151_2)).trans hx151_2
                       replace hx151_3 := (HB.out.cell (World.block_lt_of_cell? w _ hx151_3)).trans hx151_3
                       replace hx151_4 := (HB.out.cell (World.block_lt_of_cell? w _ hx151_4)).trans hx151_4
                       replace hx151_5 := (HB.out.cell (World.block_lt_of_cell? w _ hx151_5)).trans hx151_5
                       replace hx151_6 := (HB.out.cell (World.block_lt_of_cell? w _ hx151_6)).trans hx151_6
                       replace hx151_7 := (HB.out.cell (World.block_lt_of_cell? w _ hx151_7)).trans hx151_7
                       replace hx151_8 := (HB.out.cell (World.block_lt_of_cell? w _ hx151_8)).trans hx151_8
                       replace hx151_9 := (HB.out.cell (World.block_lt_of_cell? w _ hx151_9)).trans hx151_9
                       replace hx151_10 := (HB.out.cell (World.block_lt_of_cell? w _ hx151_10)).trans hx151_10
                       replace p151 := eq_true p151
                       replace q151 := eq_true q151
                       try go_wp2_with (first | ((with_reducible refine gate_dst (N := 6) rfl ?_); refine box_event ?hg (N := 6) ?hd (cs := #[.int .i64 0, .int .i64 0, .int .i64 0, .int .i64 0, .int .i64 0, .int .i64 0, .int .i64 0, .int .i64 0, .int .i64 0, .int .i64 0, .int .i64 0]) (t := 50) ?hr ?_; (case hd => rfl); (case hg => rfl); (case hr => first | (go_simp; done) | (go_simp; rfl)); intro gb152 hg w31 hbox hb; have n0_ := Aside0.mk (blk_below (g := gb149) (o := .cells #[.int .i64 0, .string (⟨#[]⟩ : ByteArray)] 23 (0, 0)) (by (with_reducible repeat (first | refine blk_drewN ?_ _ | refine blk_drew ?_ | refine blk_alloc ?_ _)); exact BK149.out) hb); have n1_ := Aside0.mk (below_step (by repeat (first | (with_reducible first | exact HB.out | apply below_alloc | apply pw_below_drewN | apply below_drew1 | refine below_set ?_ GE149.out) | exact HB.out)) hb); have n2_ := Aside0.mk (hbox); have n3_ := Aside0.mk ((by rw [hg]; exact (below_size (by repeat (first | (with_reducible first | exact HB.out | apply below_alloc | apply pw_below_drewN | apply below_drew1 | refine below_set ?_ GE149.out) | exact HB.out))) : w.heap.size ≤ gb152)); have n4_ := Aside0.mk ((by rw [hg]; exact (below_size (by repeat (first | (with_reducible first | exact HB.out | apply below_alloc | apply pw_below_drewN | apply below_drew1 | refine below_set ?_ GE149.out) | exact HB.out))) : w.heap.size ≤ gb152)); have n5_ := Aside0.mk ((by rw [hg]; exact Nat.ne_of_lt (blk_lt (g := gb149) (o := .cells #[.int .i64 0, .string (⟨#[]⟩ : ByteArray)] 23 (0, 0)) (by (with_reducible repeat (first | refine blk_drewN ?_ _ | refine blk_drew ?_ | refine blk_alloc ?_ _)); exact BK149.out)) : gb149 ≠ gb152)); have n6_ := Aside0.mk ((by rw [hg]; exact Nat.ne_of_gt (blk_lt (g := gb149) (o := .cells #[.int .i64 0, .string (⟨#[]⟩ : ByteArray)] 23 (0, 0)) (by (with_reducible repeat (first | refine blk_drewN ?_ _ | refine blk_drew ?_ | refine blk_alloc ?_ _)); exact BK149.out)) : gb152 ≠ gb149)); clear BK149; clear HB; have BK149 := n0_; have HB := n1_; have BK152 := n2_; have GW152 := n3_; have GE152 := n4_; have NB149_152 := n5_; have NB152_149 := n6_; clear n0_ n1_ n2_ n3_ n4_ n5_ n6_; clear hb hbox hg; have hnb32 := NB152_149.out; have hnc32 := NB149_152.out; obtain ⟨hcz33_0, hcz33_1, hcz33_2, hcz33_3, hcz33_4, hcz33_5, hcz33_6, hcz33_7, hcz33_8, hcz33_9, hcz33_10⟩ := blk_c11 BK152.out; obtain ⟨hfz33_0, hfz33_1, hfz33_2, hfz33_3, hfz33_4, hfz33_5, hfz33_6, hfz33_7, hfz33_8, hfz33_9, hfz33_10⟩ := blk_f11 BK152.out))
                       have pi156 : (0 ≤ (((rd_T50 l0 x5_1).f1) : Int)) = True := eq_true (of_decide_eq_true (by first | (with_reducible assumption) | assumption))
                       have qi156 : (((rd_T50 l0 x5_1).f1) < (y153.length : Int)) = True := eq_true (of_decide_eq_true (by first | (with_reducible assumption) | assumption))
                       have n0_ : Aside0 ((((((((((((w31.setCell ⟨gb152, 0, none⟩ (.int .i64 ((rd_T50 l0 x5_1).f0.f0.f0))).setCell ⟨gb152, 1, none⟩ (.int .i64 ((rd_T50 l0 x5_1).f0.f0.f1))).setCell ⟨gb152, 2, none⟩ (.int .i64 ((rd_T50 l0 x5_1).f0.f1.f0))).setCell ⟨gb152, 3, none⟩ (.int .i64 ((rd_T50 l0 x5_1).f0.f1.f1))).setCell ⟨gb152, 4, none⟩ (.int .i64 ((rd_T50 l0 x5_1).f0.f2.f0))).setCell ⟨gb152, 5, none⟩ (.int .i64 ((rd_T50 l0 x5_1).f0.f2.f1))).setCell ⟨gb152, 6, none⟩ (.int .i64 ((rd_T50 l0 x5_1).f0.f3.f0))).setCell ⟨gb152, 7, none⟩ (.int .i64 ((rd_T50 l0 x5_1).f0.f3.f1))).setCell ⟨gb152, 8, none⟩ (.int .i64 ((rd_T50 l0 x5_1).f0.f4))).setCell ⟨gb152, 9, none⟩ (.int .i64 ((rd_T50 l0 x5_1).f1))).setCell ⟨gb152, 10, none⟩ (.int .i64 ((rd_T50 l0 x5_1).f2))).heap[gb149]? = some (.cells #[.int .i64 0, .string (⟨#[]⟩ : ByteArray)] 23 (0, 0))) := ⟨by (with_reducible repeat (first | refine blk_drewN ?_ _ | refine blk_drew ?_ | refine blk_alloc ?_ _)); refine blk_far ?_ NB149_152.out _; (with_reducible repeat (first | refine blk_drewN ?_ _ | refine blk_drew ?_ | refine blk_alloc ?_ _)); refine blk_far ?_ NB149_152.out _; (with_reducible repeat (first | refine blk_drewN ?_ _ | refine blk_drew ?_ | refine blk_alloc ?_ _)); refine blk_far ?_ NB149_152.out _; (with_reducible repeat (first | refine blk_drewN ?_ _ | refine blk_drew ?_ | refine blk_alloc ?_ _)); refine blk_far ?_ NB149_152.out _; (with_reducible repeat (first | refine blk_drewN ?_ _ | refine blk_drew ?_ | refine blk_alloc ?_ _)); refine blk_far ?_ NB149_152.out _; (with_reducible repeat (first | refine blk_drewN ?_ _ | refine blk_drew ?_ | refine blk_alloc ?_ _)); refine blk_far ?_ NB149_152.out _; (with_reducible repeat (first | refine blk_drewN ?_ _ | refine blk_drew ?_ | refine blk_alloc ?_ _)); refine blk_far ?_ NB149_152.out _; (with_reducible repeat (first | refine blk_drewN ?_ _ | refine blk_drew ?_ | refine blk_alloc ?_ _)); refine blk_far ?_ NB149_152.out _; (with_reducible repeat (first | refine blk_drewN ?_ _ | refine blk_drew ?_ | refine blk_alloc ?_ _)); refine blk_far ?_ NB149_152.out _; (with_reducible repeat (first | refine blk_drewN ?_ _ | refine blk_drew ?_ | refine blk_alloc ?_ _)); refine blk_far ?_ NB149_152.out _; (with_reducible repeat (first | refine blk_drewN ?_ _ | refine blk_drew ?_ | refine blk_alloc ?_ _)); refine blk_far ?_ NB149_152.out _; (with_reducible repeat (first | refine blk_drewN ?_ _ | refine blk_drew ?_ | refine blk_alloc ?_ _)); exact BK149.out⟩
                       have n1_ : Aside0 ((((((((((((w31.setCell ⟨gb152, 0, none⟩ (.int .i64 ((rd_T50 l0 x5_1).f0.f0.f0))).setCell ⟨gb152, 1, none⟩ (.int .i64 ((rd_T50 l0 x5_1).f0.f0.f1))).setCell ⟨gb152, 2, none⟩ (.int .i64 ((rd_T50 l0 x5_1).f0.f1.f0))).setCell ⟨gb152, 3, none⟩ (.int .i64 ((rd_T50 l0 x5_1).f0.f1.f1))).setCell ⟨gb152, 4, none⟩ (.int .i64 ((rd_T50 l0 x5_1).f0.f2.f0))).setCell ⟨gb152, 5, none⟩ (.int .i64 ((rd_T50 l0 x5_1).f0.f2.f1))).setCell ⟨gb152, 6, none⟩ (.int .i64 ((rd_T50 l0 x5_1).f0.f3.f0))).setCell ⟨gb152, 7, none⟩ (.int .i64 ((rd_T50 l0 x5_1).f0.f3.f1))).setCell ⟨gb152, 8, none⟩ (.int .i64 ((rd_T50 l0 x5_1).f0.f4))).setCell ⟨gb152, 9, none⟩ (.int .i64 ((rd_T50 l0 x5_1).f1))).setCell ⟨gb152, 10, none⟩ (.int .i64 ((rd_T50 l0 x5_1).f2))).heap[gb152]? = some (.cells #[.int .i64 ((rd_T50 l0 x5_1).f0.f0.f0), .int .i64 ((rd_T50 l0 x5_1).f0.f0.f1), .int .i64 ((rd_T50 l0 x5_1).f0.f1.f0), .int .i64 ((rd_T50 l0 x5_1).f0.f1.f1), .int .i64 ((rd_T50 l0 x5_1).f0.f2.f0), .int .i64 ((rd_T50 l0 x5_1).f0.f2.f1), .int .i64 ((rd_T50 l0 x5_1).f0.f3.f0), .int .i64 ((rd_T50 l0 x5_1).f0.f3.f1), .int .i64 ((rd_T50 l0 x5_1).f0.f4), .int .i64 ((rd_T50 l0 x5_1).f1), .int .i64 ((rd_T50 l0 x5_1).f2)] 50 (0, 0))) := ⟨by (with_reducible repeat (first | refine blk_drewN ?_ _ | refine blk_drew ?_ | refine blk_alloc ?_ _)); refine blk_put (cs := #[.int .i64 ((rd_T50 l0 x5_1).f0.f0.f0), .int .i64 ((rd_T50 l0 x5_1).f0.f0.f1), .int .i64 ((rd_T50 l0 x5_1).f0.f1.f0), .int .i64 ((rd_T50 l0 x5_1).f0.f1.f1), .int .i64 ((rd_T50 l0 x5_1).f0.f2.f0), .int .i64 ((rd_T50 l0 x5_1).f0.f2.f1), .int .i64 ((rd_T50 l0 x5_1).f0.f3.f0), .int .i64 ((rd_T50 l0 x5_1).f0.f3.f1), .int .i64 ((rd_T50 l0 x5_1).f0.f4), .int .i64 ((rd_T50 l0 x5_1).f1), .int .i64 0]) ?_ 10 _ rfl; (with_reducible repeat (first | refine blk_drewN ?_ _ | refine blk_drew ?_ | refine blk_alloc ?_ _)); refine blk_put (cs := #[.int .i64 ((rd_T50 l0 x5_1).f0.f0.f0), .int .i64 ((rd_T50 l0 x5_1).f0.f0.f1), .int .i64 ((rd_T50 l0 x5_1).f0.f1.f0), .int .i64 ((rd_T50 l0 x5_1).f0.f1.f1), .int .i64 ((rd_T50 l0 x5_1).f0.f2.f0), .int .i64 ((rd_T50 l0 x5_1).f0.f2.f1), .int .i64 ((rd_T50 l0 x5_1).f0.f3.f0), .int .i64 ((rd_T50 l0 x5_1).f0.f3.f1), .int .i64 ((rd_T50 l0 x5_1).f0.f4), .int .i64 0, .int .i64 0]) ?_ 9 _ rfl; (with_reducible repeat (first | refine blk_drewN ?_ _ | refine blk_drew ?_ | refine blk_alloc ?_ _)); refine blk_put (cs := #[.int .i64 ((rd_T50 l0 x5_1).f0.f0.f0), .int .i64 ((rd_T50 l0 x5_1).f0.f0.f1), .int .i64 ((rd_T50 l0 x5_1).f0.f1.f0), .int .i64 ((rd_T50 l0 x5_1).f0.f1.f1), .int .i64 ((rd_T50 l0 x5_1).f0.f2.f0), .int .i64 ((rd_T50 l0 x5_1).f0.f2.f1), .int .i64 ((rd_T50 l0 x5_1).f0.f3.f0), .int .i64 ((rd_T50 l0 x5_1).f0.f3.f1), .int .i64 0, .int .i64 0, .int .i64 0]) ?_ 8 _ rfl; (with_reducible repeat (first | refine blk_drewN ?_ _ | refine blk_drew ?_ | refine blk_alloc ?_ _)); refine blk_put (cs := #[.int .i64 ((rd_T50 l0 x5_1).f0.f0.f0), .int .i64 ((rd_T50 l0 x5_1).f0.f0.f1), .int .i64 ((rd_T50 l0 x5_1).f0.f1.f0), .int .i64 ((rd_T50 l0 x5_1).f0.f1.f1), .int .i64 ((rd_T50 l0 x5_1).f0.f2.f0), .int .i64 ((rd_T50 l0 x5_1).f0.f2.f1), .int .i64 ((rd_T50 l0 x5_1).f0.f3.f0), .int .i64 0, .int .i64 0, .int .i64 0, .int .i64 0]) ?_ 7 _ rfl; (with_reducible repeat (first | refine blk_drewN ?_ _ | refine blk_drew ?_ | refine blk_alloc ?_ _)); refine blk_put (cs := #[.int .i64 ((rd_T50 l0 x5_1).f0.f0.f0), .int .i64 ((rd_T50 l0 x5_1).f0.f0.f1), .int .i64 ((rd_T50 l0 x5_1).f0.f1.f0), .int .i64 ((rd_T50 l0 x5_1).f0.f1.f1), .int .i64 ((rd_T50 l0 x5_1).f0.f2.f0), .int .i64 ((rd_T50 l0 x5_1).f0.f2.f1), .int .i64 0, .int .i64 0, .int .i64 0, .int .i64 0, .int .i64 0]) ?_ 6 _ rfl; (with_reducible repeat (first | refine blk_drewN ?_ _ | refine blk_drew ?_ | refine blk_alloc ?_ _)); refine blk_put (cs := #[.int .i64 ((rd_T50 l0 x5_1).f0.f0.f0), .int .i64 ((rd_T50 l0 x5_1).f0.f0.f1), .int .i64 ((rd_T50 l0 x5_1).f0.f1.f0), .int .i64 ((rd_T50 l0 x5_1).f0.f1.f1), .int .i64 ((rd_T50 l0 x5_1).f0.f2.f0), .int .i64 0, .int .i64 0, .int .i64 0, .int .i64 0, .int .i64 0, .int .i64 0]) ?_ 5 _ rfl; (with_reducible repeat (first | refine blk_drewN ?_ _ | refine blk_drew ?_ | refine blk_alloc ?_ _)); refine blk_put (cs := #[.int .i64 ((rd_T50 l0 x5_1).f0.f0.f0), .int .i64 ((rd_T50 l0 x5_1).f0.f0.f1), .int .i64 ((rd_T50 l0 x5_1).f0.f1.f0), .int .i64 ((rd_T50 l0 x5_1).f0.f1.f1), .int .i64 0, .int .i64 0, .int .i64 0, .int .i64 0, .int .i64 0, .int .i64 0, .int .i64 0]) ?_ 4 _ rfl; (with_reducible repeat (first | refine blk_drewN ?_ _ | refine blk_drew ?_ | refine blk_alloc ?_ _)); refine blk_put (cs := #[.int .i64 ((rd_T50 l0 x5_1).f0.f0.f0), .int .i64 ((rd_T50 l0 x5_1).f0.f0.f1), .int .i64 ((rd_T50 l0 x5_1).f0.f1.f0), .int .i64 0, .int .i64 0, .int .i64 0, .int .i64 0, .int .i64 0, .int .i64 0, .int .i64 0, .int .i64 0]) ?_ 3 _ rfl; (with_reducible repeat (first | refine blk_drewN ?_ _ | refine blk_drew ?_ | refine blk_alloc ?_ _)); refine blk_put (cs := #[.int .i64 ((rd_T50 l0 x5_1).f0.f0.f0), .int .i64 ((rd_T50 l0 x5_1).f0.f0.f1), .int .i64 0, .int .i64 0, .int .i64 0, .int .i64 0, .int .i64 0, .int .i64 0, .int .i64 0, .int .i64 0, .int .i64 0]) ?_ 2 _ rfl; (with_reducible repeat (first | refine blk_drewN ?_ _ | refine blk_drew ?_ | refine blk_alloc ?_ _)); refine blk_put (cs := #[.int .i64 ((rd_T50 l0 x5_1).f0.f0.f0), .int .i64 0, .int .i64 0, .int .i64 0, .int .i64 0, .int .i64 0, .int .i64 0, .int .i64 0, .int .i64 0, .int .i64 0, .int .i64 0]) ?_ 1 _ rfl; (with_reducible repeat (first | refine blk_drewN ?_ _ | refine blk_drew ?_ | refine blk_alloc ?_ _)); refine blk_put (cs := #[.int .i64 0, .int .i64 0, .int .i64 0, .int .i64 0, .int .i64 0, .int .i64 0, .int .i64 0, .int .i64 0, .int .i64 0, .int .i64 0, .int .i64 0]) ?_ 0 _ rfl; (with_reducible repeat (first | refine blk_drewN ?_ _ | refine blk_drew ?_ | refine blk_alloc ?_ _)); exact BK152.out⟩
                       have n2_ : Aside0 (Below w.heap.size w (((((((((((w31.setCell ⟨gb152, 0, none⟩ (.int .i64 ((rd_T50 l0 x5_1).f0.f0.f0))).setCell ⟨gb152, 1, none⟩ (.int .i64 ((rd_T50 l0 x5_1).f0.f0.f1))).setCell ⟨gb152, 2, none⟩ (.int .i64 ((rd_T50 l0 x5_1).f0.f1.f0))).setCell ⟨gb152, 3, none⟩ (.int .i64 ((rd_T50 l0 x5_1).f0.f1.f1))).setCell ⟨gb152, 4, none⟩ (.int .i64 ((rd_T50 l0 x5_1).f0.f2.f0))).setCell ⟨gb152, 5, none⟩ (.int .i64 ((rd_T50 l0 x5_1).f0.f2.f1))).setCell ⟨gb152, 6, none⟩ (.int .i64 ((rd_T50 l0 x5_1).f0.f3.f0))).setCell ⟨gb152, 7, none⟩ (.int .i64 ((rd_T50 l0 x5_1).f0.f3.f1))).setCell ⟨gb152, 8, none⟩ (.int .i64 ((rd_T50 l0 x5_1).f0.f4))).setCell ⟨gb152, 9, none⟩ (.int .i64 ((rd_T50 l0 x5_1).f1))).setCell ⟨gb152, 10, none⟩ (.int .i64 ((rd_T50 l0 x5_1).f2)))) := ⟨by repeat (first | (with_reducible first | exact HB.out | apply below_alloc | apply pw_below_drewN | apply below_drew1 | refine below_set ?_ GE149.out | refine below_set ?_ GE152.out) | exact HB.out)⟩
                       (try clear BK149)
                       (try clear BK152)
                       (try clear HB)
                       generalize (((((((((((w31.setCell ⟨gb152, 0, none⟩ (.int .i64 ((rd_T50 l0 x5_1).f0.f0.f0))).setCell ⟨gb152, 1, none⟩ (.int .i64 ((rd_T50 l0 x5_1).f0.f0.f1))).setCell ⟨gb152, 2, none⟩ (.int .i64 ((rd_T50 l0 x5_1).f0.f1.f0))).setCell ⟨gb152, 3, none⟩ (.int .i64 ((rd_T50 l0 x5_1).f0.f1.f1))).setCell ⟨gb152, 4, none⟩ (.int .i64 ((rd_T50 l0 x5_1).f0.f2.f0))).setCell ⟨gb152, 5, none⟩ (.int .i64 ((rd_T50 l0 x5_1).f0.f2.f1))).setCell ⟨gb152, 6, none⟩ (.int .i64 ((rd_T50 l0 x5_1).f0.f3.f0))).setCell ⟨gb152, 7, none⟩ (.int .i64 ((rd_T50 l0 x5_1).f0.f3.f1))).setCell ⟨gb152, 8, none⟩ (.int .i64 ((rd_T50 l0 x5_1).f0.f4))).setCell ⟨gb152, 9, none⟩ (.int .i64 ((rd_T50 l0 x5_1).f1))).setCell ⟨gb152, 10, none⟩ (.int .i64 ((rd_T50 l0 x5_1).f2))) = w34 at n0_ n1_ n2_ ⊢
                       have BK149 := n0_
                       have BK152 := n1_
                       have HB := n2_
                       clear n0_ n1_ n2_
                       have n0_ := Aside0.mk (blk_drew BK149.out)
                       have n1_ := Aside0.mk (blk_drew BK152.out)
                       have n2_ := Aside0.mk (below_drew1 HB.out)
                       clear BK149
                       clear BK152
                       clear HB
                       have BK149 := n0_
                       have BK152 := n1_
                       have HB := n2_
                       clear n0_ n1_ n2_
                       refine start_ (n := 40) (S := fun w' => True) (ds := []) #[false, false, false, false, false, false, false, false, false, false, false, false, false, false, false, false, false, false, false, false, false, false, false, false, false, false, false, false, false, false, false, false, false, false, false, false, false, false, false, false] (by kernel_rfl) rfl rfl trivial (fun hHeld => ?_); refine with_tabW spec_PolicyText.tab9 spec_PolicyText.bits9 (fun HT_ HW_ => ?_)
                       generalize w34.drew = w35 at BK149 BK152 HB hHeld ⊢
                       refine pure_ (i := 0) (N := some 23) (v := ?_) (a' := ?_) #[true, false, false, false, false, false, false, false, false, false, false, false, false, false, false, false, false, false, false, false, false, false, false, false, false, false, false, false, false, false, false, false, false, false, false, false, false, false, false, false] rfl rfl (any_of HT_.out (by kernel_rfl)) (fun _ _ _ h => h) (Or.inl ⟨by rfl, ?_⟩) ?_ ?_
                       rotate_left
                       ·
                        intro w'
                        go_simp
                        with_reducible rfl
                       rotate_left
                       ·
                        simp only [Act.put, List.setIfInBounds_toArray, List.set_cons_zero, List.set_cons_succ, i64_w, i32_w]
                        rfl
                       refine pure_ (i := 2) (N := some 25) (v := ?_) (a' := ?_) #[true, false, true, false, false, false, false, false, false, false, false, false, false, false, false, false, false, false, false, false, false, false, false, false, false, false, false, false, false, false, false, false, false, false, false, false, false, false, false, false] rfl rfl (any_of HT_.out (by kernel_rfl)) (fun _ _ _ h => h) (Or.inl ⟨by rfl, ?_⟩) ?_ ?_
                       rotate_left
                       ·
                        intro w'
                        go_simp
                        with_reducible rfl
                       rotate_left
                       ·
                        simp only [Act.put, List.setIfInBounds_toArray, List.set_cons_zero, List.set_cons_succ, i64_w, i32_w]
                        rfl
                       refine pure_ (i := 8) (N := some 31) (v := ?_) (a' := ?_) #[true, false, true, false, false, false, false, false, true, false, false, false, false, false, false, false, false, false, false, false, false, false, false, false, false, false, false, false, false, false, false, false, false, false, false, false, false, false, false, false] rfl rfl (any_of HT_.out (by kernel_rfl)) (fun _ _ _ h => h) (Or.inl ⟨by rfl, ?_⟩) ?_ ?_
                       rotate_left
                       ·
                        intro w'
                        go_simp
                        with_reducible rfl
                       rotate_left
                       ·
                        simp only [Act.put, List.setIfInBounds_toArray, List.set_cons_zero, List.set_cons_succ, i64_w, i32_w]
                        rfl
                       refine pure_ (i := 9) (N := some 32) (v := ?_) (a' := ?_) #[true, false, true, false, false, false, false, false, true, true, false, false, false, false, false, false, false, false, false, false, false, false, false, false, false, false, false, false, false, false, false, false, false, false, false, false, false, false, false, false] rfl rfl (any_of HT_.out (by kernel_rfl)) (fun _ _ _ h => h) (Or.inl ⟨by rfl, ?_⟩) ?_ ?_
                       rotate_left
                       ·
                        intro w'
                        go_simp
                        with_reducible rfl
                       rotate_left
                       ·
                        simp only [Act.put, List.setIfInBounds_toArray, List.set_cons_zero, List.set_cons_succ, i64_w, i32_w]
                        rfl
                       refine pure_ (i := 14) (N := some 37) (v := ?_) (a' := ?_) #[true, false, true, false, false, false, false, false, true, true, false, false, false, false, true, false, false, false, false, false, false, false, false, false, false, false, false, false, false, false, false, false, false, false, false, false, false, false, false, false] rfl rfl (any_of HT_.out (by kernel_rfl)) (fun _ _ _ h => h) (Or.inl ⟨by rfl, ?_⟩) ?_ ?_
                       rotate_left
                       ·
                        intro w'
                        go_simp
                        with_reducible rfl
                       rotate_left
                       ·
                        simp only [Act.put, List.setIfInBounds_toArray, List.set_cons_zero, List.set_cons_succ, i64_w, i32_w]
                        rfl
                       refine pure_ (i := 15) (N := some 38) (v := ?_) (a' := ?_) #[true, false, true, false, false, false, false, false, true, true, false, false, false, false, true, true, false, false, false, false, false, false, false, false, false, false, false, false, false, false, false, false, false, false, false, false, false, false, false, false] rfl rfl (any_of HT_.out (by kernel_rfl)) (fun _ _ _ h => h) (Or.inl ⟨by rfl, ?_⟩) ?_ ?_
                       rotate_left
                       ·
                        intro w'
                        go_simp
                        with_reducible rfl
                       rotate_left
                       ·
                        simp only [Act.put, List.setIfInBounds_toArray, List.set_cons_zero, List.set_cons_succ, i64_w, i32_w]
                        rfl
                       refine pure_ (i := 20) (N := some 43) (v := ?_) (a' := ?_) #[true, false, true, false, false, false, false, false, true, true, false, false, false, false, true, true, false, false, false, false, true, false, false, false, false, false, false, false, false, false, false, false, false, false, false, false, false, false, false, false] rfl rfl (any_of HT_.out (by kernel_rfl)) (fun _ _ _ h => h) (Or.inl ⟨by rfl, ?_⟩) ?_ ?_
                       rotate_left
                       ·
                        intro w'
                        go_simp
                        with_reducible rfl
                       rotate_left
                       ·
                        simp only [Act.put, List.setIfInBounds_toArray, List.set_cons_zero, List.set_cons_succ, i64_w, i32_w]
                        rfl
                       refine pure_ (i := 21) (N := some 44) (v := ?_) (a' := ?_) #[true, false, true, false, false, false, false, false, true, true, false, false, false, false, true, true, false, false, false, false, true, true, false, false, false, false, false, false, false, false, false, false, false, false, false, false, false, false, false, false] rfl rfl (any_of HT_.out (by kernel_rfl)) (fun _ _ _ h => h) (Or.inl ⟨by rfl, ?_⟩) ?_ ?_
                       rotate_left
                       ·
                        intro w'
                        go_simp
                        with_reducible rfl
                       rotate_left
                       ·
                        simp only [Act.put, List.setIfInBounds_toArray, List.set_cons_zero, List.set_cons_succ, i64_w, i32_w]
                        rfl
                       refine pure_ (i := 26) (N := some 49) (v := ?_) (a' := ?_) #[true, false, true, false, false, false, false, false, true, true, false, false, false, false, true, true, false, false, false, false, true, true, false, false, false, false, true, false, false, false, false, false, false, false, false, false, false, false, false, false] rfl rfl (any_of HT_.out (by kernel_rfl)) (fun _ _ _ h => h) (Or.inl ⟨by rfl, ?_⟩) ?_ ?_
                       rotate_left
                       ·
                        intro w'
                        go_simp
                        with_reducible rfl
                       rotate_left
                       ·
                        simp only [Act.put, List.setIfInBounds_toArray, List.set_cons_zero, List.set_cons_succ, i64_w, i32_w]
                        rfl
                       refine pure_ (i := 27) (N := some 50) (v := ?_) (a' := ?_) #[true, false, true, false, false, false, false, false, true, true, false, false, false, false, true, true, false, false, false, false, true, true, false, false, false, false, true, true, false, false, false, false, false, false, false, false, false, false, false, false] rfl rfl (any_of HT_.out (by kernel_rfl)) (fun _ _ _ h => h) (Or.inl ⟨by rfl, ?_⟩) ?_ ?_
                       rotate_left
                       ·
                        intro w'
                        go_simp
                        with_reducible rfl
                       rotate_left
                       ·
                        simp only [Act.put, List.setIfInBounds_toArray, List.set_cons_zero, List.set_cons_succ, i64_w, i32_w]
                        rfl
                       refine pure_ (i := 28) (N := some 51) (v := ?_) (a' := ?_) #[true, false, true, false, false, false, false, false, true, true, false, false, false, false, true, true, false, false, false, false, true, true, false, false, false, false, true, true, true, false, false, false, false, false, false, false, false, false, false, false] rfl rfl (any_of HT_.out (by kernel_rfl)) (fun _ _ _ h => h) (Or.inl ⟨by rfl, ?_⟩) ?_ ?_
                       rotate_left
                       ·
                        intro w'
                        go_simp
                        with_reducible rfl
                       rotate_left
                       ·
                        simp only [Act.put, List.setIfInBounds_toArray, List.set_cons_zero, List.set_cons_succ, i64_w, i32_w]
                        rfl
                       refine pure_ (i := 33) (N := some 56) (v := ?_) (a' := ?_) #[true, false, true, false, false, false, false, false, true, true, false, false, false, false, true, true, false, false, false, false, true, true, false, false, false, false, true, true, true, false, false, false, false, true, false, false, false, false, false, false] rfl rfl (any_of HT_.out (by kernel_rfl)) (fun _ _ _ h => h) (Or.inl ⟨by rfl, ?_⟩) ?_ ?_
                       rotate_left
                       ·
                        intro w'
                        go_simp
                        with_reducible rfl
                       rotate_left
                       ·
                        simp only [Act.put, List.setIfInBounds_toArray, List.set_cons_zero, List.set_cons_succ, i64_w, i32_w]
                        rfl
                       refine pure_ (i := 34) (N := some 57) (v := ?_) (a' := ?_) #[true, false, true, false, false, false, false, false, true, true, false, false, false, false, true, true, false, false, false, false, true, true, false, false, false, false, true, true, true, false, false, false, false, true, true, false, false, false, false, false] rfl rfl (any_of HT_.out (by kernel_rfl)) (fun _ _ _ h => h) (Or.inl ⟨by rfl, ?_⟩) ?_ ?_
                       rotate_left
                       ·
                        intro w'
                        go_simp
                        with_reducible rfl
                       rotate_left
                       ·
                        simp only [Act.put, List.setIfInBounds_toArray, List.set_cons_zero, List.set_cons_succ, i64_w, i32_w]
                        rfl
                       refine pure_ (i := 35) (N := some 58) (v := ?_) (a' := ?_) #[true, false, true, false, false, false, false, false, true, true, false, false, false, false, true, true, false, false, false, false, true, true, false, false, false, false, true, true, true, false, false, false, false, true, true, true, false, false, false, false] rfl rfl (any_of HT_.out (by kernel_rfl)) (fun _ _ _ h => h) (Or.inl ⟨by rfl, ?_⟩) ?_ ?_
                       rotate_left
                       ·
                        intro w'
                        go_simp
                        with_reducible rfl
                       rotate_left
                       ·
                        simp only [Act.put, List.setIfInBounds_toArray, List.set_cons_zero, List.set_cons_succ, i64_w, i32_w]
                        rfl
                       refine inv_at [1, 3, 4, 5, 6, 7, 10, 11, 12, 13, 16, 17, 18, 19, 22, 23, 24, 25, 29, 30, 31, 32, 36, 37, 38, 39] (fun a0_ b a w' => ∃ (v154 : Value) (adz_v154 : Addr) (m4_ : Value), a = putSel a0_ b [(1, 24, v154), (3, 26, .int .i64 ((rd_T50 l0 x5_1).f1)), (4, 27, m4_), (5, 28, .string (rdOf ByteArray.empty y153 ((rd_T50 l0 x5_1).f1))), (6, 29, .string (x4_1 ++ (rdOf ByteArray.empty y153 ((rd_T50 l0 x5_1).f1)))), (7, 30, .string ((x4_1 ++ (rdOf ByteArray.empty y153 ((rd_T50 l0 x5_1).f1))) ++ (⟨#[32]⟩ : ByteArray))), (10, 33, .agg #[.int .i64 ((rd_T50 l0 x5_1).f0.f0.f0), .int .i64 ((rd_T50 l0 x5_1).f0.f0.f1)]), (11, 34, .string t157), (12, 35, .string (((x4_1 ++ (rdOf ByteArray.empty y153 ((rd_T50 l0 x5_1).f1))) ++ (⟨#[32]⟩ : ByteArray)) ++ t157)), (13, 36, .string ((((x4_1 ++ (rdOf ByteArray.empty y153 ((rd_T50 l0 x5_1).f1))) ++ (⟨#[32]⟩ : ByteArray)) ++ t157) ++ (⟨#[32]⟩ : ByteArray))), (16, 39, .agg #[.int .i64 ((rd_T50 l0 x5_1).f0.f1.f0), .int .i64 ((rd_T50 l0 x5_1).f0.f1.f1)]), (17, 40, .string t158), (18, 41, .string (((((x4_1 ++ (rdOf ByteArray.empty y153 ((rd_T50 l0 x5_1).f1))) ++ (⟨#[32]⟩ : ByteArray)) ++ t157) ++ (⟨#[32]⟩ : ByteArray)) ++ t158)), (19, 42, .string ((((((x4_1 ++ (rdOf ByteArray.empty y153 ((rd_T50 l0 x5_1).f1))) ++ (⟨#[32]⟩ : ByteArray)) ++ t157) ++ (⟨#[32]⟩ : ByteArray)) ++ t158) ++ (⟨#[32]⟩ : ByteArray))), (22, 45, .int .i64 ((rd_T50 l0 x5_1).f0.f4)), (23, 46, .string t159), (24, 47, .string (((((((x4_1 ++ (rdOf ByteArray.empty y153 ((rd_T50 l0 x5_1).f1))) ++ (⟨#[32]⟩ : ByteArray)) ++ t157) ++ (⟨#[32]⟩ : ByteArray)) ++ t158) ++ (⟨#[32]⟩ : ByteArray)) ++ t159)), (25, 48, .string ((((((((x4_1 ++ (rdOf ByteArray.empty y153 ((rd_T50 l0 x5_1).f1))) ++ (⟨#[32]⟩ : ByteArray)) ++ t157) ++ (⟨#[32]⟩ : ByteArray)) ++ t158) ++ (⟨#[32]⟩ : ByteArray)) ++ t159) ++ (⟨#[32]⟩ : ByteArray))), (29, 52, .int .i64 ((rd_T50 l0 x5_1).f0.f3.f0)), (30, 53, .string t160), (31, 54, .string (((((((((x4_1 ++ (rdOf ByteArray.empty y153 ((rd_T50 l0 x5_1).f1))) ++ (⟨#[32]⟩ : ByteArray)) ++ t157) ++ (⟨#[32]⟩ : ByteArray)) ++ t158) ++ (⟨#[32]⟩ : ByteArray)) ++ t159) ++ (⟨#[32]⟩ : ByteArray)) ++ t160)), (32, 55, .string ((((((((((x4_1 ++ (rdOf ByteArray.empty y153 ((rd_T50 l0 x5_1).f1))) ++ (⟨#[32]⟩ : ByteArray)) ++ t157) ++ (⟨#[32]⟩ : ByteArray)) ++ t158) ++ (⟨#[32]⟩ : ByteArray)) ++ t159) ++ (⟨#[32]⟩ : ByteArray)) ++ t160) ++ (⟨#[45]⟩ : ByteArray))), (36, 59, .int .i64 ((rd_T50 l0 x5_1).f0.f3.f1)), (37, 60, .string t161), (38, 61, .string (((((((((((x4_1 ++ (rdOf ByteArray.empty y153 ((rd_T50 l0 x5_1).f1))) ++ (⟨#[32]⟩ : ByteArray)) ++ t157) ++ (⟨#[32]⟩ : ByteArray)) ++ t158) ++ (⟨#[32]⟩ : ByteArray)) ++ t159) ++ (⟨#[32]⟩ : ByteArray)) ++ t160) ++ (⟨#[45]⟩ : ByteArray)) ++ t161)), (39, 4, .string (((((((((((x4_1 ++ (rdOf ByteArray.empty y153 ((rd_T50 l0 x5_1).f1))) ++ (⟨#[32]⟩ : ByteArray)) ++ t157) ++ (⟨#[32]⟩ : ByteArray)) ++ t158) ++ (⟨#[32]⟩ : ByteArray)) ++ t159) ++ (⟨#[32]⟩ : ByteArray)) ++ t160) ++ (⟨#[45]⟩ : ByteArray)) ++ t161))] ∧ (w'.heap[gb149]? = some (.cells #[.int .i64 0, .string (⟨#[]⟩ : ByteArray)] 23 (0, 0))) ∧ (w'.heap[gb152]? = some (.cells #[.int .i64 ((rd_T50 l0 x5_1).f0.f0.f0), .int .i64 ((rd_T50 l0 x5_1).f0.f0.f1), .int .i64 ((rd_T50 l0 x5_1).f0.f1.f0), .int .i64 ((rd_T50 l0 x5_1).f0.f1.f1), .int .i64 ((rd_T50 l0 x5_1).f0.f2.f0), .int .i64 ((rd_T50 l0 x5_1).f0.f2.f1), .int .i64 ((rd_T50 l0 x5_1).f0.f3.f0), .int .i64 ((rd_T50 l0 x5_1).f0.f3.f1), .int .i64 ((rd_T50 l0 x5_1).f0.f4), .int .i64 ((rd_T50 l0 x5_1).f1), .int .i64 ((rd_T50 l0 x5_1).f2)] 50 (0, 0))) ∧ (Below w.heap.size w w') ∧ (b 1 = true → Kd.R Kd.string 9 w' w.heap.size (fun _ => True) v154 y153) ∧ (b 1 = true → ∃ c_, (v154 : Value) = .slice (some adz_v154) y153.length c_) ∧ (b 4 = true → (m4_ : Value) = .pointer (some (adz_v154.add (((rd_T50 l0 x5_1).f1)).toNat)))) HT_.out HW_.out (by kernel_rfl) (by kernel_rfl) ?_ ?_ ?_
                       ·
                        exact ⟨.bool false, ⟨0, 0, none⟩, .bool false, by simp only [putSel, Bool.false_eq_true, if_false], BK149.out, BK152.out, HB.out, fun h_ => absurd h_ (by decide), fun h_ => absurd h_ (by decide), fun h_ => absurd h_ (by decide)⟩
                       ·
                        skip
                        clear BK149 BK152 HB
                        refine steps_cons ?_ ?_
                        ·
                         rintro b a w' ⟨v154, adz_v154, m4_, ha, Q_BK149, Q_BK152, Q_HB, Q_HO155, Q_HA_HO155, Q_X4_⟩ hb_ hon hoff
                         refine ⟨_, rfl, fun K hK => ?_⟩
                         replace ha := Aside0.mk ha
                         have BK149 := Aside0.mk Q_BK149
                         have BK152 := Aside0.mk Q_BK152
                         have HB := Aside0.mk Q_HB
                         refine Kd.R_lit_step Kd.string _ 9 ?hg (N := 24) ?hd (xs := ([(⟨#[]⟩ : ByteArray), (⟨#[100, 114, 111, 112]⟩ : ByteArray), (⟨#[112, 97, 115, 115]⟩ : ByteArray), (⟨#[115, 101, 97, 108]⟩ : ByteArray)] : List ByteArray)) (inner := [.string (⟨#[]⟩ : ByteArray), .string (⟨#[100, 114, 111, 112]⟩ : ByteArray), .string (⟨#[112, 97, 115, 115]⟩ : ByteArray), .string (⟨#[115, 101, 97, 108]⟩ : ByteArray)]) (ok := fun _ => True) (okp := fun _ => True) ?hr ?hp (fun _ hk => hk) trivial (Below.refl _ _) (Nat.le_refl _) (by simp) ?_; (case hd => rfl); (case hg => rfl); (case hr => first | (go_simp; done) | (go_simp; rfl)); (case hp => exact (Reps.one (show Kd.M Kd.string _ _ _ (⟨#[]⟩ : ByteArray) [.string (⟨#[]⟩ : ByteArray)] from rfl) (Reps.one (show Kd.M Kd.string _ _ _ (⟨#[100, 114, 111, 112]⟩ : ByteArray) [.string (⟨#[100, 114, 111, 112]⟩ : ByteArray)] from rfl) (Reps.one (show Kd.M Kd.string _ _ _ (⟨#[112, 97, 115, 115]⟩ : ByteArray) [.string (⟨#[112, 97, 115, 115]⟩ : ByteArray)] from rfl) (Reps.one (show Kd.M Kd.string _ _ _ (⟨#[115, 101, 97, 108]⟩ : ByteArray) [.string (⟨#[115, 101, 97, 108]⟩ : ByteArray)] from rfl) (Reps.none _ _))))))
                         intro v154 w36 ho37 hb hg_ hnew_
                         clear hg_ hnew_
                         (first | rw [← Ny153.out] at ho37 | (simp only [Int.reduceToNat] at ho37; rw [← Ny153.out] at ho37))
                         have n0_ := Aside0.mk (Kd.R_lower ho37 (below_size (by repeat (first | (with_reducible first | exact HB.out | apply below_alloc | apply pw_below_drewN | apply below_drew1 | refine below_set ?_ GE149.out | refine below_set ?_ GE152.out) | exact HB.out))))
                         have n1_ := Aside0.mk (blk_below (g := gb149) (o := .cells #[.int .i64 0, .string (⟨#[]⟩ : ByteArray)] 23 (0, 0)) (by (with_reducible repeat (first | refine blk_drewN ?_ _ | refine blk_drew ?_ | refine blk_alloc ?_ _)); exact BK149.out) hb)
                         have n2_ := Aside0.mk (blk_below_u BK152.out hb)
                         have n3_ := Aside0.mk (below_step (by repeat (first | (with_reducible first | exact HB.out | apply below_alloc | apply pw_below_drewN | apply below_drew1 | refine below_set ?_ GE149.out | refine below_set ?_ GE152.out) | exact HB.out)) hb)
                         clear BK149
                         clear BK152
                         clear HB
                         have HO155 := n0_
                         have BK149 := n1_
                         have BK152 := n2_
                         have HB := n3_
                         clear n0_ n1_ n2_ n3_
                         clear hb ho37
                         obtain ⟨Ao38, co38, eo38⟩ := Kd.R_slice HO155.out
                         subst eo38
                         obtain ⟨ado38, fo38, _⟩ := Kd.at_string (Kd.R_reads' HO155.out).2.2 0 (by decide) (by rw [Ny153.out]; simp)
                         cases fo38
                         refine hK.out _ _ ⟨.slice (some ado38) y153.length co38, ado38, m4_, (by rw [ha.out]; exact putSel_upk 0 hb_ rfl rfl rfl), (by (with_reducible repeat (first | refine blk_drewN ?_ _ | refine blk_drew ?_ | refine blk_alloc ?_ _)); exact BK149.out), (by (with_reducible repeat (first | refine blk_drewN ?_ _ | refine blk_drew ?_ | refine blk_alloc ?_ _)); exact BK152.out), (by repeat (first | (with_reducible first | exact HB.out | apply below_alloc | apply pw_below_drewN | apply below_drew1 | refine below_set ?_ GE149.out | refine below_set ?_ GE152.out) | exact HB.out)), fun _ => (by (with_reducible repeat (first | apply Kd.R_alloc | apply Kd.R_drewN | apply Kd.R_drew)); exact HO155.out), fun _ => ⟨_, rfl⟩, fun h0_ => absurd ((hoff 4 (by kernel_rfl)).symm.trans h0_) (by decide)⟩
                        refine steps_cons ?_ ?_
                        ·
                         rintro b a w' ⟨v154, adz_v154, m4_, ha, Q_BK149, Q_BK152, Q_HB, Q_HO155, Q_HA_HO155, Q_X4_⟩ hb_ hon hoff
                         refine ⟨_, rfl, fun K hK => ?_⟩
                         have e25 : a.tmps[25]? = some (.pointer (some ⟨gb152, 9, none⟩)) := by rw [ha]; exact (putSel_off rfl).trans rfl
                         replace ha := Aside0.mk ha
                         have BK149 := Aside0.mk Q_BK149
                         have BK152 := Aside0.mk Q_BK152
                         have HB := Aside0.mk Q_HB
                         have hc0_ : w'.cell? ⟨gb152, 0, none⟩ = some (.int .i64 ((rd_T50 l0 x5_1).f0.f0.f0)) := (blk_cell BK152.out 0).trans rfl
                         have hc1_ : w'.cell? ⟨gb152, 1, none⟩ = some (.int .i64 ((rd_T50 l0 x5_1).f0.f0.f1)) := (blk_cell BK152.out 1).trans rfl
                         have hc2_ : w'.cell? ⟨gb152, 2, none⟩ = some (.int .i64 ((rd_T50 l0 x5_1).f0.f1.f0)) := (blk_cell BK152.out 2).trans rfl
                         have hc3_ : w'.cell? ⟨gb152, 3, none⟩ = some (.int .i64 ((rd_T50 l0 x5_1).f0.f1.f1)) := (blk_cell BK152.out 3).trans rfl
                         have hc4_ : w'.cell? ⟨gb152, 4, none⟩ = some (.int .i64 ((rd_T50 l0 x5_1).f0.f2.f0)) := (blk_cell BK152.out 4).trans rfl
                         have hc5_ : w'.cell? ⟨gb152, 5, none⟩ = some (.int .i64 ((rd_T50 l0 x5_1).f0.f2.f1)) := (blk_cell BK152.out 5).trans rfl
                         have hc6_ : w'.cell? ⟨gb152, 6, none⟩ = some (.int .i64 ((rd_T50 l0 x5_1).f0.f3.f0)) := (blk_cell BK152.out 6).trans rfl
                         have hc7_ : w'.cell? ⟨gb152, 7, none⟩ = some (.int .i64 ((rd_T50 l0 x5_1).f0.f3.f1)) := (blk_cell BK152.out 7).trans rfl
                         have hc8_ : w'.cell? ⟨gb152, 8, none⟩ = some (.int .i64 ((rd_T50 l0 x5_1).f0.f4)) := (blk_cell BK152.out 8).trans rfl
                         have hc9_ : w'.cell? ⟨gb152, 9, none⟩ = some (.int .i64 ((rd_T50 l0 x5_1).f1)) := (blk_cell BK152.out 9).trans rfl
                         have hc10_ : w'.cell? ⟨gb152, 10, none⟩ = some (.int .i64 ((rd_T50 l0 x5_1).f2)) := (blk_cell BK152.out 10).trans rfl
                         refine value_ (w1 := w') (v := .int .i64 ((rd_T50 l0 x5_1).f1)) (by rfl) rfl ?_ ?_
                         ·
                          go_simp
                          (try simp only [i64_w])
                          try rfl
                         refine hK.out _ _ ⟨v154, adz_v154, m4_, (by rw [ha.out]; exact putSel_upk 1 hb_ rfl rfl rfl), Q_BK149, Q_BK152, Q_HB, Q_HO155, Q_HA_HO155, fun h0_ => absurd ((hoff 4 (by kernel_rfl)).symm.trans h0_) (by decide)⟩
                        refine steps_cons ?_ ?_
                        ·
                         rintro b a w' ⟨v154, adz_v154, m4_, ha, Q_BK149, Q_BK152, Q_HB, Q_HO155, Q_HA_HO155, Q_X4_⟩ hb_ hon hoff
                         refine ⟨_, rfl, fun K hK => ?_⟩
                         have e24 : a.tmps[24]? = some (v154) := by rw [ha]; exact putSel_on (e := (1, 24, v154)) 0 rfl rfl (hon 1 (by kernel_rfl)) rfl
                         have e26 : a.tmps[26]? = some (.int .i64 ((rd_T50 l0 x5_1).f1)) := by rw [ha]; exact putSel_on (e := (3, 26, .int .i64 ((rd_T50 l0 x5_1).f1))) 1 rfl rfl (hon 3 (by kernel_rfl)) rfl
                         replace ha := Aside0.mk ha
                         have BK149 := Aside0.mk Q_BK149
                         have BK152 := Aside0.mk Q_BK152
                         have HB := Aside0.mk Q_HB
                         have HO155 := Aside0.mk (Q_HO155 (hon 1 (by kernel_rfl)))
                         have HA_HO155 := Aside0.mk (Q_HA_HO155 (hon 1 (by kernel_rfl)))
                         obtain ⟨c_, hv_⟩ := HA_HO155.out
                         rw [hv_] at e24
                         refine value_ (w1 := w') (v := .pointer (some (adz_v154.add (((rd_T50 l0 x5_1).f1)).toNat))) (by rfl) rfl ?_ ?_
                         ·
                          go_simp
                          (try simp only [i64_w])
                          try rfl
                         refine hK.out _ _ ⟨v154, adz_v154, (.pointer (some (adz_v154.add (((rd_T50 l0 x5_1).f1)).toNat))), (by rw [ha.out]; exact putSel_upk 2 hb_ rfl rfl rfl), Q_BK149, Q_BK152, Q_HB, Q_HO155, Q_HA_HO155, fun _ => rfl⟩
                        refine steps_cons ?_ ?_
                        ·
                         rintro b a w' ⟨v154, adz_v154, m4_, ha, Q_BK149, Q_BK152, Q_HB, Q_HO155, Q_HA_HO155, Q_X4_⟩ hb_ hon hoff
                         refine ⟨_, rfl, fun K hK => ?_⟩
                         have e27 : a.tmps[27]? = some (m4_) := by rw [ha]; exact putSel_on (e := (4, 27, m4_)) 2 rfl rfl (hon 4 (by kernel_rfl)) rfl
                         rw [Q_X4_ (hon 4 (by kernel_rfl))] at e27
                         replace ha := Aside0.mk ha
                         have BK149 := Aside0.mk Q_BK149
                         have BK152 := Aside0.mk Q_BK152
                         have HB := Aside0.mk Q_HB
                         have HO155 := Aside0.mk (Q_HO155 (hon 1 (by kernel_rfl)))
                         have HA_HO155 := Aside0.mk (Q_HA_HO155 (hon 1 (by kernel_rfl)))
                         obtain ⟨c_, hv_⟩ := HA_HO155.out
                         have hF_ := HO155.out
                         rw [hv_] at hF_
                         obtain ⟨ad_, ea_, hx_⟩ := Kd.at_string (Kd.R_reads' hF_).2.2 ((rd_T50 l0 x5_1).f1) (of_eq_true pi156) (of_eq_true qi156)
                         cases ea_
                         refine value_ (w1 := w') (v := .string (rdOf ByteArray.empty y153 ((rd_T50 l0 x5_1).f1))) (by rfl) rfl ?_ ?_
                         ·
                          go_simp
                          (try simp only [i64_w])
                          try rfl
                         refine hK.out _ _ ⟨v154, adz_v154, m4_, (by rw [ha.out]; exact putSel_upk 3 hb_ rfl rfl rfl), Q_BK149, Q_BK152, Q_HB, Q_HO155, Q_HA_HO155, Q_X4_⟩
                        refine steps_cons ?_ ?_
                        ·
                         rintro b a w' ⟨v154, adz_v154, m4_, ha, Q_BK149, Q_BK152, Q_HB, Q_HO155, Q_HA_HO155, Q_X4_⟩ hb_ hon hoff
                         refine ⟨_, rfl, fun K hK => ?_⟩
                         have e23 : a.tmps[23]? = some (.string x4_1) := by rw [ha]; exact (putSel_off rfl).trans rfl
                         have e28 : a.tmps[28]? = some (.string (rdOf ByteArray.empty y153 ((rd_T50 l0 x5_1).f1))) := by rw [ha]; exact putSel_on (e := (5, 28, .string (rdOf ByteArray.empty y153 ((rd_T50 l0 x5_1).f1)))) 3 rfl rfl (hon 5 (by kernel_rfl)) rfl
                         replace ha := Aside0.mk ha
                         have BK149 := Aside0.mk Q_BK149
                         have BK152 := Aside0.mk Q_BK152
                         have HB := Aside0.mk Q_HB
                         have HO155 := Aside0.mk (Q_HO155 (hon 1 (by kernel_rfl)))
                         have HA_HO155 := Aside0.mk (Q_HA_HO155 (hon 1 (by kernel_rfl)))
                         refine value_ (w1 := w') (v := .string (x4_1 ++ (rdOf ByteArray.empty y153 ((rd_T50 l0 x5_1).f1)))) (by rfl) rfl ?_ ?_
                         ·
                          go_simp
                          (try simp only [i64_w])
                          try rfl
                         refine hK.out _ _ ⟨v154, adz_v154, m4_, (by rw [ha.out]; exact putSel_upk 4 hb_ rfl rfl rfl), Q_BK149, Q_BK152, Q_HB, Q_HO155, Q_HA_HO155, Q_X4_⟩
                        refine steps_cons ?_ ?_
                        ·
                         rintro b a w' ⟨v154, adz_v154, m4_, ha, Q_BK149, Q_BK152, Q_HB, Q_HO155, Q_HA_HO155, Q_X4_⟩ hb_ hon hoff
                         refine ⟨_, rfl, fun K hK => ?_⟩
                         have e29 : a.tmps[29]? = some (.string (x4_1 ++ (rdOf ByteArray.empty y153 ((rd_T50 l0 x5_1).f1)))) := by rw [ha]; exact putSel_on (e := (6, 29, .string (x4_1 ++ (rdOf ByteArray.empty y153 ((rd_T50 l0 x5_1).f1))))) 4 rfl rfl (hon 6 (by kernel_rfl)) rfl
                         replace ha := Aside0.mk ha
                         have BK149 := Aside0.mk Q_BK149
                         have BK152 := Aside0.mk Q_BK152
                         have HB := Aside0.mk Q_HB
                         have HO155 := Aside0.mk (Q_HO155 (hon 1 (by kernel_rfl)))
                         have HA_HO155 := Aside0.mk (Q_HA_HO155 (hon 1 (by kernel_rfl)))
                         refine value_ (w1 := w') (v := .string ((x4_1 ++ (rdOf ByteArray.empty y153 ((rd_T50 l0 x5_1).f1))) ++ (⟨#[32]⟩ : ByteArray))) (by rfl) rfl ?_ ?_
                         ·
                          go_simp
                          (try simp only [i64_w])
                          try rfl
                         refine hK.out _ _ ⟨v154, adz_v154, m4_, (by rw [ha.out]; exact putSel_upk 5 hb_ rfl rfl rfl), Q_BK149, Q_BK152, Q_HB, Q_HO155, Q_HA_HO155, Q_X4_⟩
                        refine steps_cons ?_ ?_
                        ·
                         rintro b a w' ⟨v154, adz_v154, m4_, ha, Q_BK149, Q_BK152, Q_HB, Q_HO155, Q_HA_HO155, Q_X4_⟩ hb_ hon hoff
                         refine ⟨_, rfl, fun K hK => ?_⟩
                         have e32 : a.tmps[32]? = some (.pointer (some ⟨gb152, 0, none⟩)) := by rw [ha]; exact (putSel_off rfl).trans rfl
                         replace ha := Aside0.mk ha
                         have BK149 := Aside0.mk Q_BK149
                         have BK152 := Aside0.mk Q_BK152
                         have HB := Aside0.mk Q_HB
                         have hc0_ : w'.cell? ⟨gb152, 0, none⟩ = some (.int .i64 ((rd_T50 l0 x5_1).f0.f0.f0)) := (blk_cell BK152.out 0).trans rfl
                         have hc1_ : w'.cell? ⟨gb152, 1, none⟩ = some (.int .i64 ((rd_T50 l0 x5_1).f0.f0.f1)) := (blk_cell BK152.out 1).trans rfl
                         have hc2_ : w'.cell? ⟨gb152, 2, none⟩ = some (.int .i64 ((rd_T50 l0 x5_1).f0.f1.f0)) := (blk_cell BK152.out 2).trans rfl
                         have hc3_ : w'.cell? ⟨gb152, 3, none⟩ = some (.int .i64 ((rd_T50 l0 x5_1).f0.f1.f1)) := (blk_cell BK152.out 3).trans rfl
                         have hc4_ : w'.cell? ⟨gb152, 4, none⟩ = some (.int .i64 ((rd_T50 l0 x5_1).f0.f2.f0)) := (blk_cell BK152.out 4).trans rfl
                         have hc5_ : w'.cell? ⟨gb152, 5, none⟩ = some (.int .i64 ((rd_T50 l0 x5_1).f0.f2.f1)) := (blk_cell BK152.out 5).trans rfl
                         have hc6_ : w'.cell? ⟨gb152, 6, none⟩ = some (.int .i64 ((rd_T50 l0 x5_1).f0.f3.f0)) := (blk_cell BK152.out 6).trans rfl
                         have hc7_ : w'.cell? ⟨gb152, 7, none⟩ = some (.int .i64 ((rd_T50 l0 x5_1).f0.f3.f1)) := (blk_cell BK152.out 7).trans rfl
                         have hc8_ : w'.cell? ⟨gb152, 8, none⟩ = some (.int .i64 ((rd_T50 l0 x5_1).f0.f4)) := (blk_cell BK152.out 8).trans rfl
                         have hc9_ : w'.cell? ⟨gb152, 9, none⟩ = some (.int .i64 ((rd_T50 l0 x5_1).f1)) := (blk_cell BK152.out 9).trans rfl
                         have hc10_ : w'.cell? ⟨gb152, 10, none⟩ = some (.int .i64 ((rd_T50 l0 x5_1).f2)) := (blk_cell BK152.out 10).trans rfl
                         refine value_ (w1 := w') (v := .agg #[.int .i64 ((rd_T50 l0 x5_1).f0.f0.f0), .int .i64 ((rd_T50 l0 x5_1).f0.f0.f1)]) (by rfl) rfl ?_ ?_
                         ·
                          go_simp
                          (try simp only [i64_w])
                          try rfl
                         refine hK.out _ _ ⟨v154, adz_v154, m4_, (by rw [ha.out]; exact putSel_upk 6 hb_ rfl rfl rfl), Q_BK149, Q_BK152, Q_HB, Q_HO155, Q_HA_HO155, Q_X4_⟩
                        refine steps_cons ?_ ?_
                        ·
                         rintro b a w' ⟨v154, adz_v154, m4_, ha, Q_BK149, Q_BK152, Q_HB, Q_HO155, Q_HA_HO155, Q_X4_⟩ hb_ hon hoff
                         refine ⟨_, rfl, fun K hK => ?_⟩
                         have e33 : a.tmps[33]? = some (.agg #[.int .i64 ((rd_T50 l0 x5_1).f0.f0.f0), .int .i64 ((rd_T50 l0 x5_1).f0.f0.f1)]) := by rw [ha]; exact putSel_on (e := (10, 33, .agg #[.int .i64 ((rd_T50 l0 x5_1).f0.f0.f0), .int .i64 ((rd_T50 l0 x5_1).f0.f0.f1)])) 6 rfl rfl (hon 10 (by kernel_rfl)) rfl
                         replace ha := Aside0.mk ha
                         have BK149 := Aside0.mk Q_BK149
                         have BK152 := Aside0.mk Q_BK152
                         have HB := Aside0.mk Q_HB
                         refine goes_ Tryd.func25 (by kernel_rfl) rfl #[.agg #[.int .i64 ((rd_T50 l0 x5_1).f0.f0.f0), .int .i64 ((rd_T50 l0 x5_1).f0.f0.f1)]] (by rfl) rfl rfl (by first | (simp only [List.map_toArray, List.map_cons, List.map_nil, Act.eval, Array.getD_eq_getD_getElem?, Option.getD_some, e33]; done) | (simp only [List.map_toArray, List.map_cons, List.map_nil, Act.eval, Array.getD_eq_getD_getElem?, Option.getD_some, e33]; rfl)) ?_
                         with_reducible refine (spec_l4Ends.calls k1 ((rd_T50 l0 x5_1).f0.f0.f0) ((rd_T50 l0 x5_1).f0.f0.f1) t157 _ A12.out).mono ?_
                         rintro e w36 ⟨rfl, hb⟩
                         refine ⟨_, rfl, ?_⟩
                         have n0_ := Aside0.mk (blk_below (g := gb149) (o := .cells #[.int .i64 0, .string (⟨#[]⟩ : ByteArray)] 23 (0, 0)) (by (with_reducible repeat (first | refine blk_drewN ?_ _ | refine blk_drew ?_ | refine blk_alloc ?_ _)); exact BK149.out) hb)
                         have n1_ := Aside0.mk (blk_below_u BK152.out hb)
                         have n2_ := Aside0.mk (below_step (by repeat (first | (with_reducible first | exact HB.out | apply below_alloc | apply pw_below_drewN | apply below_drew1 | refine below_set ?_ GE149.out | refine below_set ?_ GE152.out) | exact HB.out)) hb)
                         have z_HO155 := fun (h0_ : b 1 = true) => (show Kd.R Kd.string 9 w36 w.heap.size (fun _ => True) v154 y153 from by first | exact (Kd.R_below (by (with_reducible repeat (first | apply Kd.R_alloc | apply Kd.R_drewN | apply Kd.R_drew)); exact (Q_HO155 h0_)) hb) | exact Kd.R_mono (Kd.R_below (by (with_reducible repeat (first | apply Kd.R_alloc | apply Kd.R_drewN | apply Kd.R_drew)); exact (Q_HO155 h0_)) hb) (fun _ h_ => by first | trivial | exact h_ | exact h_.1))
                         clear BK149
                         clear BK152
                         clear HB
                         have BK149 := n0_
                         have BK152 := n1_
                         have HB := n2_
                         clear n0_ n1_ n2_
                         (try clear hb)
                         (try clear hb2)
                         (try clear hk)
                         (try clear hi)
                         refine hK.out _ _ ⟨v154, adz_v154, m4_, (by rw [ha.out]; exact putSel_upk 7 hb_ rfl rfl rfl), (by (with_reducible repeat (first | refine blk_drewN ?_ _ | refine blk_drew ?_ | refine blk_alloc ?_ _)); exact BK149.out), (by (with_reducible repeat (first | refine blk_drewN ?_ _ | refine blk_drew ?_ | refine blk_alloc ?_ _)); exact BK152.out), (by repeat (first | (with_reducible first | exact HB.out | apply below_alloc | apply pw_below_drewN | apply below_drew1 | refine below_set ?_ GE149.out | refine below_set ?_ GE152.out) | exact HB.out)), z_HO155, Q_HA_HO155, Q_X4_⟩
                        refine steps_cons ?_ ?_
                        ·
                         rintro b a w' ⟨v154, adz_v154, m4_, ha, Q_BK149, Q_BK152, Q_HB, Q_HO155, Q_HA_HO155, Q_X4_⟩ hb_ hon hoff
                         refine ⟨_, rfl, fun K hK => ?_⟩
                         have e30 : a.tmps[30]? = some (.string ((x4_1 ++ (rdOf ByteArray.empty y153 ((rd_T50 l0 x5_1).f1))) ++ (⟨#[32]⟩ : ByteArray))) := by rw [ha]; exact putSel_on (e := (7, 30, .string ((x4_1 ++ (rdOf ByteArray.empty y153 ((rd_T50 l0 x5_1).f1))) ++ (⟨#[32]⟩ : ByteArray)))) 5 rfl rfl (hon 7 (by kernel_rfl)) rfl
                         have e34 : a.tmps[34]? = some (.string t157) := by rw [ha]; exact putSel_on (e := (11, 34, .string t157)) 7 rfl rfl (hon 11 (by kernel_rfl)) rfl
                         replace ha := Aside0.mk ha
                         have BK149 := Aside0.mk Q_BK149
                         have BK152 := Aside0.mk Q_BK152
                         have HB := Aside0.mk Q_HB
                         have HO155 := Aside0.mk (Q_HO155 (hon 1 (by kernel_rfl)))
                         have HA_HO155 := Aside0.mk (Q_HA_HO155 (hon 1 (by kernel_rfl)))
                         refine value_ (w1 := w') (v := .string (((x4_1 ++ (rdOf ByteArray.empty y153 ((rd_T50 l0 x5_1).f1))) ++ (⟨#[32]⟩ : ByteArray)) ++ t157)) (by rfl) rfl ?_ ?_
                         ·
                          go_simp
                          (try simp only [i64_w])
                          try rfl
                         refine hK.out _ _ ⟨v154, adz_v154, m4_, (by rw [ha.out]; exact putSel_upk 8 hb_ rfl rfl rfl), Q_BK149, Q_BK152, Q_HB, Q_HO155, Q_HA_HO155, Q_X4_⟩
                        refine steps_cons ?_ ?_
                        ·
                         rintro b a w' ⟨v154, adz_v154, m4_, ha, Q_BK149, Q_BK152, Q_HB, Q_HO155, Q_HA_HO155, Q_X4_⟩ hb_ hon hoff
                         refine ⟨_, rfl, fun K hK => ?_⟩
                         have e35 : a.tmps[35]? = some (.string (((x4_1 ++ (rdOf ByteArray.empty y153 ((rd_T50 l0 x5_1).f1))) ++ (⟨#[32]⟩ : ByteArray)) ++ t157)) := by rw [ha]; exact putSel_on (e := (12, 35, .string (((x4_1 ++ (rdOf ByteArray.empty y153 ((rd_T50 l0 x5_1).f1))) ++ (⟨#[32]⟩ : ByteArray)) ++ t157))) 8 rfl rfl (hon 12 (by kernel_rfl)) rfl
                         replace ha := Aside0.mk ha
                         have BK149 := Aside0.mk Q_BK149
                         have BK152 := Aside0.mk Q_BK152
                         have HB := Aside0.mk Q_HB
                         have HO155 := Aside0.mk (Q_HO155 (hon 1 (by kernel_rfl)))
                         have HA_HO155 := Aside0.mk (Q_HA_HO155 (hon 1 (by kernel_rfl)))
                         refine value_ (w1 := w') (v := .string ((((x4_1 ++ (rdOf ByteArray.empty y153 ((rd_T50 l0 x5_1).f1))) ++ (⟨#[32]⟩ : ByteArray)) ++ t157) ++ (⟨#[32]⟩ : ByteArray))) (by rfl) rfl ?_ ?_
                         ·
                          go_simp
                          (try simp only [i64_w])
                          try rfl
                         refine hK.out _ _ ⟨v154, adz_v154, m4_, (by rw [ha.out]; exact putSel_upk 9 hb_ rfl rfl rfl), Q_BK149, Q_BK152, Q_HB, Q_HO155, Q_HA_HO155, Q_X4_⟩
                        refine steps_cons ?_ ?_
                        ·
                         rintro b a w' ⟨v154, adz_v154, m4_, ha, Q_BK149, Q_BK152, Q_HB, Q_HO155, Q_HA_HO155, Q_X4_⟩ hb_ hon hoff
                         refine ⟨_, rfl, fun K hK => ?_⟩
                         have e38 : a.tmps[38]? = some (.pointer (some ⟨gb152, 2, none⟩)) := by rw [ha]; exact (putSel_off rfl).trans rfl
                         replace ha := Aside0.mk ha
                         have BK149 := Aside0.mk Q_BK149
                         have BK152 := Aside0.mk Q_BK152
                         have HB := Aside0.mk Q_HB
                         have hc0_ : w'.cell? ⟨gb152, 0, none⟩ = some (.int .i64 ((rd_T50 l0 x5_1).f0.f0.f0)) := (blk_cell BK152.out 0).trans rfl
                         have hc1_ : w'.cell? ⟨gb152, 1, none⟩ = some (.int .i64 ((rd_T50 l0 x5_1).f0.f0.f1)) := (blk_cell BK152.out 1).trans rfl
                         have hc2_ : w'.cell? ⟨gb152, 2, none⟩ = some (.int .i64 ((rd_T50 l0 x5_1).f0.f1.f0)) := (blk_cell BK152.out 2).trans rfl
                         have hc3_ : w'.cell? ⟨gb152, 3, none⟩ = some (.int .i64 ((rd_T50 l0 x5_1).f0.f1.f1)) := (blk_cell BK152.out 3).trans rfl
                         have hc4_ : w'.cell? ⟨gb152, 4, none⟩ = some (.int .i64 ((rd_T50 l0 x5_1).f0.f2.f0)) := (blk_cell BK152.out 4).trans rfl
                         have hc5_ : w'.cell? ⟨gb152, 5, none⟩ = some (.int .i64 ((rd_T50 l0 x5_1).f0.f2.f1)) := (blk_cell BK152.out 5).trans rfl
                         have hc6_ : w'.cell? ⟨gb152, 6, none⟩ = some (.int .i64 ((rd_T50 l0 x5_1).f0.f3.f0)) := (blk_cell BK152.out 6).trans rfl
                         have hc7_ : w'.cell? ⟨gb152, 7, none⟩ = some (.int .i64 ((rd_T50 l0 x5_1).f0.f3.f1)) := (blk_cell BK152.out 7).trans rfl
                         have hc8_ : w'.cell? ⟨gb152, 8, none⟩ = some (.int .i64 ((rd_T50 l0 x5_1).f0.f4)) := (blk_cell BK152.out 8).trans rfl
                         have hc9_ : w'.cell? ⟨gb152, 9, none⟩ = some (.int .i64 ((rd_T50 l0 x5_1).f1)) := (blk_cell BK152.out 9).trans rfl
                         have hc10_ : w'.cell? ⟨gb152, 10, none⟩ = some (.int .i64 ((rd_T50 l0 x5_1).f2)) := (blk_cell BK152.out 10).trans rfl
                         refine value_ (w1 := w') (v := .agg #[.int .i64 ((rd_T50 l0 x5_1).f0.f1.f0), .int .i64 ((rd_T50 l0 x5_1).f0.f1.f1)]) (by rfl) rfl ?_ ?_
                         ·
                          go_simp
                          (try simp only [i64_w])
                          try rfl
                         refine hK.out _ _ ⟨v154, adz_v154, m4_, (by rw [ha.out]; exact putSel_upk 10 hb_ rfl rfl rfl), Q_BK149, Q_BK152, Q_HB, Q_HO155, Q_HA_HO155, Q_X4_⟩
                        refine steps_cons ?_ ?_
                        ·
                         rintro b a w' ⟨v154, adz_v154, m4_, ha, Q_BK149, Q_BK152, Q_HB, Q_HO155, Q_HA_HO155, Q_X4_⟩ hb_ hon hoff
                         refine ⟨_, rfl, fun K hK => ?_⟩
                         have e39 : a.tmps[39]? = some (.agg #[.int .i64 ((rd_T50 l0 x5_1).f0.f1.f0), .int .i64 ((rd_T50 l0 x5_1).f0.f1.f1)]) := by rw [ha]; exact putSel_on (e := (16, 39, .agg #[.int .i64 ((rd_T50 l0 x5_1).f0.f1.f0), .int .i64 ((rd_T50 l0 x5_1).f0.f1.f1)])) 10 rfl rfl (hon 16 (by kernel_rfl)) rfl
                         replace ha := Aside0.mk ha
                         have BK149 := Aside0.mk Q_BK149
                         have BK152 := Aside0.mk Q_BK152
                         have HB := Aside0.mk Q_HB
                         refine goes_ Tryd.func25 (by kernel_rfl) rfl #[.agg #[.int .i64 ((rd_T50 l0 x5_1).f0.f1.f0), .int .i64 ((rd_T50 l0 x5_1).f0.f1.f1)]] (by rfl) rfl rfl (by first | (simp only [List.map_toArray, List.map_cons, List.map_nil, Act.eval, Array.getD_eq_getD_getElem?, Option.getD_some, e39]; done) | (simp only [List.map_toArray, List.map_cons, List.map_nil, Act.eval, Array.getD_eq_getD_getElem?, Option.getD_some, e39]; rfl)) ?_
                         with_reducible refine (spec_l4Ends.calls k1 ((rd_T50 l0 x5_1).f0.f1.f0) ((rd_T50 l0 x5_1).f0.f1.f1) t158 _ A15.out).mono ?_
                         rintro e w38 ⟨rfl, hb⟩
                         refine ⟨_, rfl, ?_⟩
                         have n0_ := Aside0.mk (blk_below (g := gb149) (o := .cells #[.int .i64 0, .string (⟨#[]⟩ : ByteArray)] 23 (0, 0)) (by (with_reducible repeat (first | refine blk_drewN ?_ _ | refine blk_drew ?_ | refine blk_alloc ?_ _)); exact BK149.out) hb)
                         have n1_ := Aside0.mk (blk_below_u BK152.out hb)
                         have n2_ := Aside0.mk (below_step (by repeat (first | (with_reducible first | exact HB.out | apply below_alloc | apply pw_below_drewN | apply below_drew1 | refine below_set ?_ GE149.out | refine below_set ?_ GE152.out) | exact HB.out)) hb)
                         have z_HO155 := fun (h0_ : b 1 = true) => (show Kd.R Kd.string 9 w38 w.heap.size (fun _ => True) v154 y153 from by first | exact (Kd.R_below (by (with_reducible repeat (first | apply Kd.R_alloc | apply Kd.R_drewN | apply Kd.R_drew)); exact (Q_HO155 h0_)) hb) | exact Kd.R_mono (Kd.R_below (by (with_reducible repeat (first | apply Kd.R_alloc | apply Kd.R_drewN | apply Kd.R_drew)); exact (Q_HO155 h0_)) hb) (fun _ h_ => by first | trivial | exact h_ | exact h_.1))
                         clear BK149
                         clear BK152
                         clear HB
                         have BK149 := n0_
                         have BK152 := n1_
                         have HB := n2_
                         clear n0_ n1_ n2_
                         (try clear hb)
                         (try clear hb2)
                         (try clear hk)
                         (try clear hi)
                         refine hK.out _ _ ⟨v154, adz_v154, m4_, (by rw [ha.out]; exact putSel_upk 11 hb_ rfl rfl rfl), (by (with_reducible repeat (first | refine blk_drewN ?_ _ | refine blk_drew ?_ | refine blk_alloc ?_ _)); exact BK149.out), (by (with_reducible repeat (first | refine blk_drewN ?_ _ | refine blk_drew ?_ | refine blk_alloc ?_ _)); exact BK152.out), (by repeat (first | (with_reducible first | exact HB.out | apply below_alloc | apply pw_below_drewN | apply below_drew1 | refine below_set ?_ GE149.out | refine below_set ?_ GE152.out) | exact HB.out)), z_HO155, Q_HA_HO155, Q_X4_⟩
                        refine steps_cons ?_ ?_
                        ·
                         rintro b a w' ⟨v154, adz_v154, m4_, ha, Q_BK149, Q_BK152, Q_HB, Q_HO155, Q_HA_HO155, Q_X4_⟩ hb_ hon hoff
                         refine ⟨_, rfl, fun K hK => ?_⟩
                         have e36 : a.tmps[36]? = some (.string ((((x4_1 ++ (rdOf ByteArray.empty y153 ((rd_T50 l0 x5_1).f1))) ++ (⟨#[32]⟩ : ByteArray)) ++ t157) ++ (⟨#[32]⟩ : ByteArray))) := by rw [ha]; exact putSel_on (e := (13, 36, .string ((((x4_1 ++ (rdOf ByteArray.empty y153 ((rd_T50 l0 x5_1).f1))) ++ (⟨#[32]⟩ : ByteArray)) ++ t157) ++ (⟨#[32]⟩ : ByteArray)))) 9 rfl rfl (hon 13 (by kernel_rfl)) rfl
                         have e40 : a.tmps[40]? = some (.string t158) := by rw [ha]; exact putSel_on (e := (17, 40, .string t158)) 11 rfl rfl (hon 17 (by kernel_rfl)) rfl
                         replace ha := Aside0.mk ha
                         have BK149 := Aside0.mk Q_BK149
                         have BK152 := Aside0.mk Q_BK152
                         have HB := Aside0.mk Q_HB
                         have HO155 := Aside0.mk (Q_HO155 (hon 1 (by kernel_rfl)))
                         have HA_HO155 := Aside0.mk (Q_HA_HO155 (hon 1 (by kernel_rfl)))
                         refine value_ (w1 := w') (v := .string (((((x4_1 ++ (rdOf ByteArray.empty y153 ((rd_T50 l0 x5_1).f1))) ++ (⟨#[32]⟩ : ByteArray)) ++ t157) ++ (⟨#[32]⟩ : ByteArray)) ++ t158)) (by rfl) rfl ?_ ?_
                         ·
                          go_simp
                          (try simp only [i64_w])
                          try rfl
                         refine hK.out _ _ ⟨v154, adz_v154, m4_, (by rw [ha.out]; exact putSel_upk 12 hb_ rfl rfl rfl), Q_BK149, Q_BK152, Q_HB, Q_HO155, Q_HA_HO155, Q_X4_⟩
                        refine steps_cons ?_ ?_
                        ·
                         rintro b a w' ⟨v154, adz_v154, m4_, ha, Q_BK149, Q_BK152, Q_HB, Q_HO155, Q_HA_HO155, Q_X4_⟩ hb_ hon hoff
                         refine ⟨_, rfl, fun K hK => ?_⟩
                         have e41 : a.tmps[41]? = some (.string (((((x4_1 ++ (rdOf ByteArray.empty y153 ((rd_T50 l0 x5_1).f1))) ++ (⟨#[32]⟩ : ByteArray)) ++ t157) ++ (⟨#[32]⟩ : ByteArray)) ++ t158)) := by rw [ha]; exact putSel_on (e := (18, 41, .string (((((x4_1 ++ (rdOf ByteArray.empty y153 ((rd_T50 l0 x5_1).f1))) ++ (⟨#[32]⟩ : ByteArray)) ++ t157) ++ (⟨#[32]⟩ : ByteArray)) ++ t158))) 12 rfl rfl (hon 18 (by kernel_rfl)) rfl
                         replace ha := Aside0.mk ha
                         have BK149 := Aside0.mk Q_BK149
                         have BK152 := Aside0.mk Q_BK152
                         have HB := Aside0.mk Q_HB
                         have HO155 := Aside0.mk (Q_HO155 (hon 1 (by kernel_rfl)))
                         have HA_HO155 := Aside0.mk (Q_HA_HO155 (hon 1 (by kernel_rfl)))
                         refine value_ (w1 := w') (v := .string ((((((x4_1 ++ (rdOf ByteArray.empty y153 ((rd_T50 l0 x5_1).f1))) ++ (⟨#[32]⟩ : ByteArray)) ++ t157) ++ (⟨#[32]⟩ : ByteArray)) ++ t158) ++ (⟨#[32]⟩ : ByteArray))) (by rfl) rfl ?_ ?_
                         ·
                          go_simp
                          (try simp only [i64_w])
                          try rfl
                         refine hK.out _ _ ⟨v154, adz_v154, m4_, (by rw [ha.out]; exact putSel_upk 13 hb_ rfl rfl rfl), Q_BK149, Q_BK152, Q_HB, Q_HO155, Q_HA_HO155, Q_X4_⟩
                        refine steps_cons ?_ ?_
                        ·
                         rintro b a w' ⟨v154, adz_v154, m4_, ha, Q_BK149, Q_BK152, Q_HB, Q_HO155, Q_HA_HO155, Q_X4_⟩ hb_ hon hoff
                         refine ⟨_, rfl, fun K hK => ?_⟩
                         have e44 : a.tmps[44]? = some (.pointer (some ⟨gb152, 8, none⟩)) := by rw [ha]; exact (putSel_off rfl).trans rfl
                         replace ha := Aside0.mk ha
                         have BK149 := Aside0.mk Q_BK149
                         have BK152 := Aside0.mk Q_BK152
                         have HB := Aside0.mk Q_HB
                         have hc0_ : w'.cell? ⟨gb152, 0, none⟩ = some (.int .i64 ((rd_T50 l0 x5_1).f0.f0.f0)) := (blk_cell BK152.out 0).trans rfl
                         have hc1_ : w'.cell? ⟨gb152, 1, none⟩ = some (.int .i64 ((rd_T50 l0 x5_1).f0.f0.f1)) := (blk_cell BK152.out 1).trans rfl
                         have hc2_ : w'.cell? ⟨gb152, 2, none⟩ = some (.int .i64 ((rd_T50 l0 x5_1).f0.f1.f0)) := (blk_cell BK152.out 2).trans rfl
                         have hc3_ : w'.cell? ⟨gb152, 3, none⟩ = some (.int .i64 ((rd_T50 l0 x5_1).f0.f1.f1)) := (blk_cell BK152.out 3).trans rfl
                         have hc4_ : w'.cell? ⟨gb152, 4, none⟩ = some (.int .i64 ((rd_T50 l0 x5_1).f0.f2.f0)) := (blk_cell BK152.out 4).trans rfl
                         have hc5_ : w'.cell? ⟨gb152, 5, none⟩ = some (.int .i64 ((rd_T50 l0 x5_1).f0.f2.f1)) := (blk_cell BK152.out 5).trans rfl
                         have hc6_ : w'.cell? ⟨gb152, 6, none⟩ = some (.int .i64 ((rd_T50 l0 x5_1).f0.f3.f0)) := (blk_cell BK152.out 6).trans rfl
                         have hc7_ : w'.cell? ⟨gb152, 7, none⟩ = some (.int .i64 ((rd_T50 l0 x5_1).f0.f3.f1)) := (blk_cell BK152.out 7).trans rfl
                         have hc8_ : w'.cell? ⟨gb152, 8, none⟩ = some (.int .i64 ((rd_T50 l0 x5_1).f0.f4)) := (blk_cell BK152.out 8).trans rfl
                         have hc9_ : w'.cell? ⟨gb152, 9, none⟩ = some (.int .i64 ((rd_T50 l0 x5_1).f1)) := (blk_cell BK152.out 9).trans rfl
                         have hc10_ : w'.cell? ⟨gb152, 10, none⟩ = some (.int .i64 ((rd_T50 l0 x5_1).f2)) := (blk_cell BK152.out 10).trans rfl
                         refine value_ (w1 := w') (v := .int .i64 ((rd_T50 l0 x5_1).f0.f4)) (by rfl) rfl ?_ ?_
                         ·
                          go_simp
                          (try simp only [i64_w])
                          try rfl
                         refine hK.out _ _ ⟨v154, adz_v154, m4_, (by rw [ha.out]; exact putSel_upk 14 hb_ rfl rfl rfl), Q_BK149, Q_BK152, Q_HB, Q_HO155, Q_HA_HO155, Q_X4_⟩
                        refine steps_cons ?_ ?_
                        ·
                         rintro b a w' ⟨v154, adz_v154, m4_, ha, Q_BK149, Q_BK152, Q_HB, Q_HO155, Q_HA_HO155, Q_X4_⟩ hb_ hon hoff
                         refine ⟨_, rfl, fun K hK => ?_⟩
                         have e45 : a.tmps[45]? = some (.int .i64 ((rd_T50 l0 x5_1).f0.f4)) := by rw [ha]; exact putSel_on (e := (22, 45, .int .i64 ((rd_T50 l0 x5_1).f0.f4))) 14 rfl rfl (hon 22 (by kernel_rfl)) rfl
                         replace ha := Aside0.mk ha
                         have BK149 := Aside0.mk Q_BK149
                         have BK152 := Aside0.mk Q_BK152
                         have HB := Aside0.mk Q_HB
                         refine goes_ Tryd.func21 (by kernel_rfl) rfl #[.int .i64 ((rd_T50 l0 x5_1).f0.f4)] (by rfl) rfl rfl (by first | (simp only [List.map_toArray, List.map_cons, List.map_nil, Act.eval, Array.getD_eq_getD_getElem?, Option.getD_some, e45]; done) | (simp only [List.map_toArray, List.map_cons, List.map_nil, Act.eval, Array.getD_eq_getD_getElem?, Option.getD_some, e45]; rfl)) ?_
                         with_reducible refine (spec_l2Digits.calls k1 ((rd_T50 l0 x5_1).f0.f4) t159 _ A18.out).mono ?_
                         rintro e w39 ⟨rfl, hb⟩
                         refine ⟨_, rfl, ?_⟩
                         have n0_ := Aside0.mk (blk_below (g := gb149) (o := .cells #[.int .i64 0, .string (⟨#[]⟩ : ByteArray)] 23 (0, 0)) (by (with_reducible repeat (first | refine blk_drewN ?_ _ | refine blk_drew ?_ | refine blk_alloc ?_ _)); exact BK149.out) hb)
                         have n1_ := Aside0.mk (blk_below_u BK152.out hb)
                         have n2_ := Aside0.mk (below_step (by repeat (first | (with_reducible first | exact HB.out | apply below_alloc | apply pw_below_drewN | apply below_drew1 | refine below_set ?_ GE149.out | refine below_set ?_ GE152.out) | exact HB.out)) hb)
                         have z_HO155 := fun (h0_ : b 1 = true) => (show Kd.R Kd.string 9 w39 w.heap.size (fun _ => True) v154 y153 from by first | exact (Kd.R_below (by (with_reducible repeat (first | apply Kd.R_alloc | apply Kd.R_drewN | apply Kd.R_drew)); exact (Q_HO155 h0_)) hb) | exact Kd.R_mono (Kd.R_below (by (with_reducible repeat (first | apply Kd.R_alloc | apply Kd.R_drewN | apply Kd.R_drew)); exact (Q_HO155 h0_)) hb) (fun _ h_ => by first | trivial | exact h_ | exact h_.1))
                         clear BK149
                         clear BK152
                         clear HB
                         have BK149 := n0_
                         have BK152 := n1_
                         have HB := n2_
                         clear n0_ n1_ n2_
                         (try clear hb)
                         (try clear hb2)
                         (try clear hk)
                         (try clear hi)
                         refine hK.out _ _ ⟨v154, adz_v154, m4_, (by rw [ha.out]; exact putSel_upk 15 hb_ rfl rfl rfl), (by (with_reducible repeat (first | refine blk_drewN ?_ _ | refine blk_drew ?_ | refine blk_alloc ?_ _)); exact BK149.out), (by (with_reducible repeat (first | refine blk_drewN ?_ _ | refine blk_drew ?_ | refine blk_alloc ?_ _)); exact BK152.out), (by repeat (first | (with_reducible first | exact HB.out | apply below_alloc | apply pw_below_drewN | apply below_drew1 | refine below_set ?_ GE149.out | refine below_set ?_ GE152.out) | exact HB.out)), z_HO155, Q_HA_HO155, Q_X4_⟩
                        refine steps_cons ?_ ?_
                        ·
                         rintro b a w' ⟨v154, adz_v154, m4_, ha, Q_BK149, Q_BK152, Q_HB, Q_HO155, Q_HA_HO155, Q_X4_⟩ hb_ hon hoff
                         refine ⟨_, rfl, fun K hK => ?_⟩
                         have e42 : a.tmps[42]? = some (.string ((((((x4_1 ++ (rdOf ByteArray.empty y153 ((rd_T50 l0 x5_1).f1))) ++ (⟨#[32]⟩ : ByteArray)) ++ t157) ++ (⟨#[32]⟩ : ByteArray)) ++ t158) ++ (⟨#[32]⟩ : ByteArray))) := by rw [ha]; exact putSel_on (e := (19, 42, .string ((((((x4_1 ++ (rdOf ByteArray.empty y153 ((rd_T50 l0 x5_1).f1))) ++ (⟨#[32]⟩ : ByteArray)) ++ t157) ++ (⟨#[32]⟩ : ByteArray)) ++ t158) ++ (⟨#[32]⟩ : ByteArray)))) 13 rfl rfl (hon 19 (by kernel_rfl)) rfl
                         have e46 : a.tmps[46]? = some (.string t159) := by rw [ha]; exact putSel_on (e := (23, 46, .string t159)) 15 rfl rfl (hon 23 (by kernel_rfl)) rfl
                         replace ha := Aside0.mk ha
                         have BK149 := Aside0.mk Q_BK149
                         have BK152 := Aside0.mk Q_BK152
                         have HB := Aside0.mk Q_HB
                         have HO155 := Aside0.mk (Q_HO155 (hon 1 (by kernel_rfl)))
                         have HA_HO155 := Aside0.mk (Q_HA_HO155 (hon 1 (by kernel_rfl)))
                         refine value_ (w1 := w') (v := .string (((((((x4_1 ++ (rdOf ByteArray.empty y153 ((rd_T50 l0 x5_1).f1))) ++ (⟨#[32]⟩ : ByteArray)) ++ t157) ++ (⟨#[32]⟩ : ByteArray)) ++ t158) ++ (⟨#[32]⟩ : ByteArray)) ++ t159)) (by rfl) rfl ?_ ?_
                         ·
                          go_simp
                          (try simp only [i64_w])
                          try rfl
                         refine hK.out _ _ ⟨v154, adz_v154, m4_, (by rw [ha.out]; exact putSel_upk 16 hb_ rfl rfl rfl), Q_BK149, Q_BK152, Q_HB, Q_HO155, Q_HA_HO155, Q_X4_⟩
                        refine steps_cons ?_ ?_
                        ·
                         rintro b a w' ⟨v154, adz_v154, m4_, ha, Q_BK149, Q_BK152, Q_HB, Q_HO155, Q_HA_HO155, Q_X4_⟩ hb_ hon hoff
                         refine ⟨_, rfl, fun K hK => ?_⟩
                         have e47 : a.tmps[47]? = some (.string (((((((x4_1 ++ (rdOf ByteArray.empty y153 ((rd_T50 l0 x5_1).f1))) ++ (⟨#[32]⟩ : ByteArray)) ++ t157) ++ (⟨#[32]⟩ : ByteArray)) ++ t158) ++ (⟨#[32]⟩ : ByteArray)) ++ t159)) := by rw [ha]; exact putSel_on (e := (24, 47, .string (((((((x4_1 ++ (rdOf ByteArray.empty y153 ((rd_T50 l0 x5_1).f1))) ++ (⟨#[32]⟩ : ByteArray)) ++ t157) ++ (⟨#[32]⟩ : ByteArray)) ++ t158) ++ (⟨#[32]⟩ : ByteArray)) ++ t159))) 16 rfl rfl (hon 24 (by kernel_rfl)) rfl
                         replace ha := Aside0.mk ha
                         have BK149 := Aside0.mk Q_BK149
                         have BK152 := Aside0.mk Q_BK152
                         have HB := Aside0.mk Q_HB
                         have HO155 := Aside0.mk (Q_HO155 (hon 1 (by kernel_rfl)))
                         have HA_HO155 := Aside0.mk (Q_HA_HO155 (hon 1 (by kernel_rfl)))
                         refine value_ (w1 := w') (v := .string ((((((((x4_1 ++ (rdOf ByteArray.empty y153 ((rd_T50 l0 x5_1).f1))) ++ (⟨#[32]⟩ : ByteArray)) ++ t157) ++ (⟨#[32]⟩ : ByteArray)) ++ t158) ++ (⟨#[32]⟩ : ByteArray)) ++ t159) ++ (⟨#[32]⟩ : ByteArray))) (by rfl) rfl ?_ ?_
                         ·
                          go_simp
                          (try simp only [i64_w])
                          try rfl
                         refine hK.out _ _ ⟨v154, adz_v154, m4_, (by rw [ha.out]; exact putSel_upk 17 hb_ rfl rfl rfl), Q_BK149, Q_BK152, Q_HB, Q_HO155, Q_HA_HO155, Q_X4_⟩
                        refine steps_cons ?_ ?_
                        ·
                         rintro b a w' ⟨v154, adz_v154, m4_, ha, Q_BK149, Q_BK152, Q_HB, Q_HO155, Q_HA_HO155, Q_X4_⟩ hb_ hon hoff
                         refine ⟨_, rfl, fun K hK => ?_⟩
                         have e51 : a.tmps[51]? = some (.pointer (some ⟨gb152, 6, none⟩)) := by rw [ha]; exact (putSel_off rfl).trans rfl
                         replace ha := Aside0.mk ha
                         have BK149 := Aside0.mk Q_BK149
                         have BK152 := Aside0.mk Q_BK152
                         have HB := Aside0.mk Q_HB
                         have hc0_ : w'.cell? ⟨gb152, 0, none⟩ = some (.int .i64 ((rd_T50 l0 x5_1).f0.f0.f0)) := (blk_cell BK152.out 0).trans rfl
                         have hc1_ : w'.cell? ⟨gb152, 1, none⟩ = some (.int .i64 ((rd_T50 l0 x5_1).f0.f0.f1)) := (blk_cell BK152.out 1).trans rfl
                         have hc2_ : w'.cell? ⟨gb152, 2, none⟩ = some (.int .i64 ((rd_T50 l0 x5_1).f0.f1.f0)) := (blk_cell BK152.out 2).trans rfl
                         have hc3_ : w'.cell? ⟨gb152, 3, none⟩ = some (.int .i64 ((rd_T50 l0 x5_1).f0.f1.f1)) := (blk_cell BK152.out 3).trans rfl
                         have hc4_ : w'.cell? ⟨gb152, 4, none⟩ = some (.int .i64 ((rd_T50 l0 x5_1).f0.f2.f0)) := (blk_cell BK152.out 4).trans rfl
                         have hc5_ : w'.cell? ⟨gb152, 5, none⟩ = some (.int .i64 ((rd_T50 l0 x5_1).f0.f2.f1)) := (blk_cell BK152.out 5).trans rfl
                         have hc6_ : w'.cell? ⟨gb152, 6, none⟩ = some (.int .i64 ((rd_T50 l0 x5_1).f0.f3.f0)) := (blk_cell BK152.out 6).trans rfl
                         have hc7_ : w'.cell? ⟨gb152, 7, none⟩ = some (.int .i64 ((rd_T50 l0 x5_1).f0.f3.f1)) := (blk_cell BK152.out 7).trans rfl
                         have hc8_ : w'.cell? ⟨gb152, 8, none⟩ = some (.int .i64 ((rd_T50 l0 x5_1).f0.f4)) := (blk_cell BK152.out 8).trans rfl
                         have hc9_ : w'.cell? ⟨gb152, 9, none⟩ = some (.int .i64 ((rd_T50 l0 x5_1).f1)) := (blk_cell BK152.out 9).trans rfl
                         have hc10_ : w'.cell? ⟨gb152, 10, none⟩ = some (.int .i64 ((rd_T50 l0 x5_1).f2)) := (blk_cell BK152.out 10).trans rfl
                         refine value_ (w1 := w') (v := .int .i64 ((rd_T50 l0 x5_1).f0.f3.f0)) (by rfl) rfl ?_ ?_
                         ·
                          go_simp
                          (try simp only [i64_w])
                          try rfl
                         refine hK.out _ _ ⟨v154, adz_v154, m4_, (by rw [ha.out]; exact putSel_upk 18 hb_ rfl rfl rfl), Q_BK149, Q_BK152, Q_HB, Q_HO155, Q_HA_HO155, Q_X4_⟩
                        refine steps_cons ?_ ?_
                        ·
                         rintro b a w' ⟨v154, adz_v154, m4_, ha, Q_BK149, Q_BK152, Q_HB, Q_HO155, Q_HA_HO155, Q_X4_⟩ hb_ hon hoff
                         refine ⟨_, rfl, fun K hK => ?_⟩
                         have e52 : a.tmps[52]? = some (.int .i64 ((rd_T50 l0 x5_1).f0.f3.f0)) := by rw [ha]; exact putSel_on (e := (29, 52, .int .i64 ((rd_T50 l0 x5_1).f0.f3.f0))) 18 rfl rfl (hon 29 (by kernel_rfl)) rfl
                         replace ha := Aside0.mk ha
                         have BK149 := Aside0.mk Q_BK149
                         have BK152 := Aside0.mk Q_BK152
                         have HB := Aside0.mk Q_HB
                         refine goes_ Tryd.func21 (by kernel_rfl) rfl #[.int .i64 ((rd_T50 l0 x5_1).f0.f3.f0)] (by rfl) rfl rfl (by first | (simp only [List.map_toArray, List.map_cons, List.map_nil, Act.eval, Array.getD_eq_getD_getElem?, Option.getD_some, e52]; done) | (simp only [List.map_toArray, List.map_cons, List.map_nil, Act.eval, Array.getD_eq_getD_getElem?, Option.getD_some, e52]; rfl)) ?_
                         with_reducible refine (spec_l2Digits.calls k1 ((rd_T50 l0 x5_1).f0.f3.f0) t160 _ A21.out).mono ?_
                         rintro e w40 ⟨rfl, hb⟩
                         refine ⟨_, rfl, ?_⟩
                         have n0_ := Aside0.mk (blk_below (g := gb149) (o := .cells #[.int .i64 0, .string (⟨#[]⟩ : ByteArray)] 23 (0, 0)) (by (with_reducible repeat (first | refine blk_drewN ?_ _ | refine blk_drew ?_ | refine blk_alloc ?_ _)); exact BK149.out) hb)
                         have n1_ := Aside0.mk (blk_below_u BK152.out hb)
                         have n2_ := Aside0.mk (below_step (by repeat (first | (with_reducible first | exact HB.out | apply below_alloc | apply pw_below_drewN | apply below_drew1 | refine below_set ?_ GE149.out | refine below_set ?_ GE152.out) | exact HB.out)) hb)
                         have z_HO155 := fun (h0_ : b 1 = true) => (show Kd.R Kd.string 9 w40 w.heap.size (fun _ => True) v154 y153 from by first | exact (Kd.R_below (by (with_reducible repeat (first | apply Kd.R_alloc | apply Kd.R_drewN | apply Kd.R_drew)); exact (Q_HO155 h0_)) hb) | exact Kd.R_mono (Kd.R_below (by (with_reducible repeat (first | apply Kd.R_alloc | apply Kd.R_drewN | apply Kd.R_drew)); exact (Q_HO155 h0_)) hb) (fun _ h_ => by first | trivial | exact h_ | exact h_.1))
                         clear BK149
                         clear BK152
                         clear HB
                         have BK149 := n0_
                         have BK152 := n1_
                         have HB := n2_
                         clear n0_ n1_ n2_
                         (try clear hb)
                         (try clear hb2)
                         (try clear hk)
                         (try clear hi)
                         refine hK.out _ _ ⟨v154, adz_v154, m4_, (by rw [ha.out]; exact putSel_upk 19 hb_ rfl rfl rfl), (by (with_reducible repeat (first | refine blk_drewN ?_ _ | refine blk_drew ?_ | refine blk_alloc ?_ _)); exact BK149.out), (by (with_reducible repeat (first | refine blk_drewN ?_ _ | refine blk_drew ?_ | refine blk_alloc ?_ _)); exact BK152.out), (by repeat (first | (with_reducible first | exact HB.out | apply below_alloc | apply pw_below_drewN | apply below_drew1 | refine below_set ?_ GE149.out | refine below_set ?_ GE152.out) | exact HB.out)), z_HO155, Q_HA_HO155, Q_X4_⟩
                        refine steps_cons ?_ ?_
                        ·
                         rintro b a w' ⟨v154, adz_v154, m4_, ha, Q_BK149, Q_BK152, Q_HB, Q_HO155, Q_HA_HO155, Q_X4_⟩ hb_ hon hoff
                         refine ⟨_, rfl, fun K hK => ?_⟩
                         have e48 : a.tmps[48]? = some (.string ((((((((x4_1 ++ (rdOf ByteArray.empty y153 ((rd_T50 l0 x5_1).f1))) ++ (⟨#[32]⟩ : ByteArray)) ++ t157) ++ (⟨#[32]⟩ : ByteArray)) ++ t158) ++ (⟨#[32]⟩ : ByteArray)) ++ t159) ++ (⟨#[32]⟩ : ByteArray))) := by rw [ha]; exact putSel_on (e := (25, 48, .string ((((((((x4_1 ++ (rdOf ByteArray.empty y153 ((rd_T50 l0 x5_1).f1))) ++ (⟨#[32]⟩ : ByteArray)) ++ t157) ++ (⟨#[32]⟩ : ByteArray)) ++ t158) ++ (⟨#[32]⟩ : ByteArray)) ++ t159) ++ (⟨#[32]⟩ : ByteArray)))) 17 rfl rfl (hon 25 (by kernel_rfl)) rfl
                         have e53 : a.tmps[53]? = some (.string t160) := by rw [ha]; exact putSel_on (e := (30, 53, .string t160)) 19 rfl rfl (hon 30 (by kernel_rfl)) rfl
                         replace ha := Aside0.mk ha
                         have BK149 := Aside0.mk Q_BK149
                         have BK152 := Aside0.mk Q_BK152
                         have HB := Aside0.mk Q_HB
                         have HO155 := Aside0.mk (Q_HO155 (hon 1 (by kernel_rfl)))
                         have HA_HO155 := Aside0.mk (Q_HA_HO155 (hon 1 (by kernel_rfl)))
                         refine value_ (w1 := w') (v := .string (((((((((x4_1 ++ (rdOf ByteArray.empty y153 ((rd_T50 l0 x5_1).f1))) ++ (⟨#[32]⟩ : ByteArray)) ++ t157) ++ (⟨#[32]⟩ : ByteArray)) ++ t158) ++ (⟨#[32]⟩ : ByteArray)) ++ t159) ++ (⟨#[32]⟩ : ByteArray)) ++ t160)) (by rfl) rfl ?_ ?_
                         ·
                          go_simp
                          (try simp only [i64_w])
                          try rfl
                         refine hK.out _ _ ⟨v154, adz_v154, m4_, (by rw [ha.out]; exact putSel_upk 20 hb_ rfl rfl rfl), Q_BK149, Q_BK152, Q_HB, Q_HO155, Q_HA_HO155, Q_X4_⟩
                        refine steps_cons ?_ ?_
                        ·
                         rintro b a w' ⟨v154, adz_v154, m4_, ha, Q_BK149, Q_BK152, Q_HB, Q_HO155, Q_HA_HO155, Q_X4_⟩ hb_ hon hoff
                         refine ⟨_, rfl, fun K hK => ?_⟩
                         have e54 : a.tmps[54]? = some (.string (((((((((x4_1 ++ (rdOf ByteArray.empty y153 ((rd_T50 l0 x5_1).f1))) ++ (⟨#[32]⟩ : ByteArray)) ++ t157) ++ (⟨#[32]⟩ : ByteArray)) ++ t158) ++ (⟨#[32]⟩ : ByteArray)) ++ t159) ++ (⟨#[32]⟩ : ByteArray)) ++ t160)) := by rw [ha]; exact putSel_on (e := (31, 54, .string (((((((((x4_1 ++ (rdOf ByteArray.empty y153 ((rd_T50 l0 x5_1).f1))) ++ (⟨#[32]⟩ : ByteArray)) ++ t157) ++ (⟨#[32]⟩ : ByteArray)) ++ t158) ++ (⟨#[32]⟩ : ByteArray)) ++ t159) ++ (⟨#[32]⟩ : ByteArray)) ++ t160))) 20 rfl rfl (hon 31 (by kernel_rfl)) rfl
                         replace ha := Aside0.mk ha
                         have BK149 := Aside0.mk Q_BK149
                         have BK152 := Aside0.mk Q_BK152
                         have HB := Aside0.mk Q_HB
                         have HO155 := Aside0.mk (Q_HO155 (hon 1 (by kernel_rfl)))
                         have HA_HO155 := Aside0.mk (Q_HA_HO155 (hon 1 (by kernel_rfl)))
                         refine value_ (w1 := w') (v := .string ((((((((((x4_1 ++ (rdOf ByteArray.empty y153 ((rd_T50 l0 x5_1).f1))) ++ (⟨#[32]⟩ : ByteArray)) ++ t157) ++ (⟨#[32]⟩ : ByteArray)) ++ t158) ++ (⟨#[32]⟩ : ByteArray)) ++ t159) ++ (⟨#[32]⟩ : ByteArray)) ++ t160) ++ (⟨#[45]⟩ : ByteArray))) (by rfl) rfl ?_ ?_
                         ·
                          go_simp
                          (try simp only [i64_w])
                          try rfl
                         refine hK.out _ _ ⟨v154, adz_v154, m4_, (by rw [ha.out]; exact putSel_upk 21 hb_ rfl rfl rfl), Q_BK149, Q_BK152, Q_HB, Q_HO155, Q_HA_HO155, Q_X4_⟩
                        refine steps_cons ?_ ?_
                        ·
                         rintro b a w' ⟨v154, adz_v154, m4_, ha, Q_BK149, Q_BK152, Q_HB, Q_HO155, Q_HA_HO155, Q_X4_⟩ hb_ hon hoff
                         refine ⟨_, rfl, fun K hK => ?_⟩
                         have e58 : a.tmps[58]? = some (.pointer (some ⟨gb152, 7, none⟩)) := by rw [ha]; exact (putSel_off rfl).trans rfl
                         replace ha := Aside0.mk ha
                         have BK149 := Aside0.mk Q_BK149
                         have BK152 := Aside0.mk Q_BK152
                         have HB := Aside0.mk Q_HB
                         have hc0_ : w'.cell? ⟨gb152, 0, none⟩ = some (.int .i64 ((rd_T50 l0 x5_1).f0.f0.f0)) := (blk_cell BK152.out 0).trans rfl
                         have hc1_ : w'.cell? ⟨gb152, 1, none⟩ = some (.int .i64 ((rd_T50 l0 x5_1).f0.f0.f1)) := (blk_cell BK152.out 1).trans rfl
                         have hc2_ : w'.cell? ⟨gb152, 2, none⟩ = some (.int .i64 ((rd_T50 l0 x5_1).f0.f1.f0)) := (blk_cell BK152.out 2).trans rfl
                         have hc3_ : w'.cell? ⟨gb152, 3, none⟩ = some (.int .i64 ((rd_T50 l0 x5_1).f0.f1.f1)) := (blk_cell BK152.out 3).trans rfl
                         have hc4_ : w'.cell? ⟨gb152, 4, none⟩ = some (.int .i64 ((rd_T50 l0 x5_1).f0.f2.f0)) := (blk_cell BK152.out 4).trans rfl
                         have hc5_ : w'.cell? ⟨gb152, 5, none⟩ = some (.int .i64 ((rd_T50 l0 x5_1).f0.f2.f1)) := (blk_cell BK152.out 5).trans rfl
                         have hc6_ : w'.cell? ⟨gb152, 6, none⟩ = some (.int .i64 ((rd_T50 l0 x5_1).f0.f3.f0)) := (blk_cell BK152.out 6).trans rfl
                         have hc7_ : w'.cell? ⟨gb152, 7, none⟩ = some (.int .i64 ((rd_T50 l0 x5_1).f0.f3.f1)) := (blk_cell BK152.out 7).trans rfl
                         have hc8_ : w'.cell? ⟨gb152, 8, none⟩ = some (.int .i64 ((rd_T50 l0 x5_1).f0.f4)) := (blk_cell BK152.out 8).trans rfl
                         have hc9_ : w'.cell? ⟨gb152, 9, none⟩ = some (.int .i64 ((rd_T50 l0 x5_1).f1)) := (blk_cell BK152.out 9).trans rfl
                         have hc10_ : w'.cell? ⟨gb152, 10, none⟩ = some (.int .i64 ((rd_T50 l0 x5_1).f2)) := (blk_cell BK152.out 10).trans rfl
                         refine value_ (w1 := w') (v := .int .i64 ((rd_T50 l0 x5_1).f0.f3.f1)) (by rfl) rfl ?_ ?_
                         ·
                          go_simp
                          (try simp only [i64_w])
                          try rfl
                         refine hK.out _ _ ⟨v154, adz_v154, m4_, (by rw [ha.out]; exact putSel_upk 22 hb_ rfl rfl rfl), Q_BK149, Q_BK152, Q_HB, Q_HO155, Q_HA_HO155, Q_X4_⟩
                        refine steps_cons ?_ ?_
                        ·
                         rintro b a w' ⟨v154, adz_v154, m4_, ha, Q_BK149, Q_BK152, Q_HB, Q_HO155, Q_HA_HO155, Q_X4_⟩ hb_ hon hoff
                         refine ⟨_, rfl, fun K hK => ?_⟩
                         have e59 : a.tmps[59]? = some (.int .i64 ((rd_T50 l0 x5_1).f0.f3.f1)) := by rw [ha]; exact putSel_on (e := (36, 59, .int .i64 ((rd_T50 l0 x5_1).f0.f3.f1))) 22 rfl rfl (hon 36 (by kernel_rfl)) rfl
                         replace ha := Aside0.mk ha
                         have BK149 := Aside0.mk Q_BK149
                         have BK152 := Aside0.mk Q_BK152
                         have HB := Aside0.mk Q_HB
                         refine goes_ Tryd.func21 (by kernel_rfl) rfl #[.int .i64 ((rd_T50 l0 x5_1).f0.f3.f1)] (by rfl) rfl rfl (by first | (simp only [List.map_toArray, List.map_cons, List.map_nil, Act.eval, Array.getD_eq_getD_getElem?, Option.getD_some, e59]; done) | (simp only [List.map_toArray, List.map_cons, List.map_nil, Act.eval, Array.getD_eq_getD_getElem?, Option.getD_some, e59]; rfl)) ?_
                         with_reducible refine (spec_l2Digits.calls k1 ((rd_T50 l0 x5_1).f0.f3.f1) t161 _ A24.out).mono ?_
                         rintro e w41 ⟨rfl, hb⟩
                         refine ⟨_, rfl, ?_⟩
                         have n0_ := Aside0.mk (blk_below (g := gb149) (o := .cells #[.int .i64 0, .string (⟨#[]⟩ : ByteArray)] 23 (0, 0)) (by (with_reducible repeat (first | refine blk_drewN ?_ _ | refine blk_drew ?_ | refine blk_alloc ?_ _)); exact BK149.out) hb)
                         have n1_ := Aside0.mk (blk_below_u BK152.out hb)
                         have n2_ := Aside0.mk (below_step (by repeat (first | (with_reducible first | exact HB.out | apply below_alloc | apply pw_below_drewN | apply below_drew1 | refine below_set ?_ GE149.out | refine below_set ?_ GE152.out) | exact HB.out)) hb)
                         have z_HO155 := fun (h0_ : b 1 = true) => (show Kd.R Kd.string 9 w41 w.heap.size (fun _ => True) v154 y153 from by first | exact (Kd.R_below (by (with_reducible repeat (first | apply Kd.R_alloc | apply Kd.R_drewN | apply Kd.R_drew)); exact (Q_HO155 h0_)) hb) | exact Kd.R_mono (Kd.R_below (by (with_reducible repeat (first | apply Kd.R_alloc | apply Kd.R_drewN | apply Kd.R_drew)); exact (Q_HO155 h0_)) hb) (fun _ h_ => by first | trivial | exact h_ | exact h_.1))
                         clear BK149
                         clear BK152
                         clear HB
                         have BK149 := n0_
                         have BK152 := n1_
                         have HB := n2_
                         clear n0_ n1_ n2_
                         (try clear hb)
                         (try clear hb2)
                         (try clear hk)
                         (try clear hi)
                         refine hK.out _ _ ⟨v154, adz_v154, m4_, (by rw [ha.out]; exact putSel_upk 23 hb_ rfl rfl rfl), (by (with_reducible repeat (first | refine blk_drewN ?_ _ | refine blk_drew ?_ | refine blk_alloc ?_ _)); exact BK149.out), (by (with_reducible repeat (first | refine blk_drewN ?_ _ | refine blk_drew ?_ | refine blk_alloc ?_ _)); exact BK152.out), (by repeat (first | (with_reducible first | exact HB.out | apply below_alloc | apply pw_below_drewN | apply below_drew1 | refine below_set ?_ GE149.out | refine below_set ?_ GE152.out) | exact HB.out)), z_HO155, Q_HA_HO155, Q_X4_⟩
                        refine steps_cons ?_ ?_
                        ·
                         rintro b a w' ⟨v154, adz_v154, m4_, ha, Q_BK149, Q_BK152, Q_HB, Q_HO155, Q_HA_HO155, Q_X4_⟩ hb_ hon hoff
                         refine ⟨_, rfl, fun K hK => ?_⟩
                         have e55 : a.tmps[55]? = some (.string ((((((((((x4_1 ++ (rdOf ByteArray.empty y153 ((rd_T50 l0 x5_1).f1))) ++ (⟨#[32]⟩ : ByteArray)) ++ t157) ++ (⟨#[32]⟩ : ByteArray)) ++ t158) ++ (⟨#[32]⟩ : ByteArray)) ++ t159) ++ (⟨#[32]⟩ : ByteArray)) ++ t160) ++ (⟨#[45]⟩ : ByteArray))) := by rw [ha]; exact putSel_on (e := (32, 55, .string ((((((((((x4_1 ++ (rdOf ByteArray.empty y153 ((rd_T50 l0 x5_1).f1))) ++ (⟨#[32]⟩ : ByteArray)) ++ t157) ++ (⟨#[32]⟩ : ByteArray)) ++ t158) ++ (⟨#[32]⟩ : ByteArray)) ++ t159) ++ (⟨#[32]⟩ : ByteArray)) ++ t160) ++ (⟨#[45]⟩ : ByteArray)))) 21 rfl rfl (hon 32 (by kernel_rfl)) rfl
                         have e60 : a.tmps[60]? = some (.string t161) := by rw [ha]; exact putSel_on (e := (37, 60, .string t161)) 23 rfl rfl (hon 37 (by kernel_rfl)) rfl
                         replace ha := Aside0.mk ha
                         have BK149 := Aside0.mk Q_BK149
                         have BK152 := Aside0.mk Q_BK152
                         have HB := Aside0.mk Q_HB
                         have HO155 := Aside0.mk (Q_HO155 (hon 1 (by kernel_rfl)))
                         have HA_HO155 := Aside0.mk (Q_HA_HO155 (hon 1 (by kernel_rfl)))
                         refine value_ (w1 := w') (v := .string (((((((((((x4_1 ++ (rdOf ByteArray.empty y153 ((rd_T50 l0 x5_1).f1))) ++ (⟨#[32]⟩ : ByteArray)) ++ t157) ++ (⟨#[32]⟩ : ByteArray)) ++ t158) ++ (⟨#[32]⟩ : ByteArray)) ++ t159) ++ (⟨#[32]⟩ : ByteArray)) ++ t160) ++ (⟨#[45]⟩ : ByteArray)) ++ t161)) (by rfl) rfl ?_ ?_
                         ·
                          go_simp
                          (try simp only [i64_w])
                          try rfl
                         refine hK.out _ _ ⟨v154, adz_v154, m4_, (by rw [ha.out]; exact putSel_upk 24 hb_ rfl rfl rfl), Q_BK149, Q_BK152, Q_HB, Q_HO155, Q_HA_HO155, Q_X4_⟩
                        refine steps_cons ?_ ?_
                        ·
                         rintro b a w' ⟨v154, adz_v154, m4_, ha, Q_BK149, Q_BK152, Q_HB, Q_HO155, Q_HA_HO155, Q_X4_⟩ hb_ hon hoff
                         refine ⟨_, rfl, fun K hK => ?_⟩
                         have e61 : a.tmps[61]? = some (.string (((((((((((x4_1 ++ (rdOf ByteArray.empty y153 ((rd_T50 l0 x5_1).f1))) ++ (⟨#[32]⟩ : ByteArray)) ++ t157) ++ (⟨#[32]⟩ : ByteArray)) ++ t158) ++ (⟨#[32]⟩ : ByteArray)) ++ t159) ++ (⟨#[32]⟩ : ByteArray)) ++ t160) ++ (⟨#[45]⟩ : ByteArray)) ++ t161)) := by rw [ha]; exact putSel_on (e := (38, 61, .string (((((((((((x4_1 ++ (rdOf ByteArray.empty y153 ((rd_T50 l0 x5_1).f1))) ++ (⟨#[32]⟩ : ByteArray)) ++ t157) ++ (⟨#[32]⟩ : ByteArray)) ++ t158) ++ (⟨#[32]⟩ : ByteArray)) ++ t159) ++ (⟨#[32]⟩ : ByteArray)) ++ t160) ++ (⟨#[45]⟩ : ByteArray)) ++ t161))) 24 rfl rfl (hon 38 (by kernel_rfl)) rfl
                         replace ha := Aside0.mk ha
                         have BK149 := Aside0.mk Q_BK149
                         have BK152 := Aside0.mk Q_BK152
                         have HB := Aside0.mk Q_HB
                         have HO155 := Aside0.mk (Q_HO155 (hon 1 (by kernel_rfl)))
                         have HA_HO155 := Aside0.mk (Q_HA_HO155 (hon 1 (by kernel_rfl)))
                         refine value_ (w1 := w') (v := .string (((((((((((x4_1 ++ (rdOf ByteArray.empty y153 ((rd_T50 l0 x5_1).f1))) ++ (⟨#[32]⟩ : ByteArray)) ++ t157) ++ (⟨#[32]⟩ : ByteArray)) ++ t158) ++ (⟨#[32]⟩ : ByteArray)) ++ t159) ++ (⟨#[32]⟩ : ByteArray)) ++ t160) ++ (⟨#[45]⟩ : ByteArray)) ++ t161)) (by rfl) rfl ?_ ?_
                         ·
                          go_simp
                          (try simp only [i64_w])
                          try rfl
                         refine hK.out _ _ ⟨v154, adz_v154, m4_, (by rw [ha.out]; exact putSel_upk 25 hb_ rfl rfl rfl), Q_BK149, Q_BK152, Q_HB, Q_HO155, Q_HA_HO155, Q_X4_⟩
                        exact steps_nil
                       rintro b a w44 hall ⟨v154, adz_v154, m4_, ha, Q_BK149, Q_BK152, Q_HB, Q_HO155, Q_HA_HO155, Q_X4_⟩
                       clear BK149 BK152 HB
                       have hb1_ := hall 1 (by kernel_rfl)
                       have hb3_ := hall 3 (by kernel_rfl)
                       have hb4_ := hall 4 (by kernel_rfl)
                       have hb5_ := hall 5 (by kernel_rfl)
                       have hb6_ := hall 6 (by kernel_rfl)
                       have hb7_ := hall 7 (by kernel_rfl)
                       have hb10_ := hall 10 (by kernel_rfl)
                       have hb11_ := hall 11 (by kernel_rfl)
                       have hb12_ := hall 12 (by kernel_rfl)
                       have hb13_ := hall 13 (by kernel_rfl)
                       have hb16_ := hall 16 (by kernel_rfl)
                       have hb17_ := hall 17 (by kernel_rfl)
                       have hb18_ := hall 18 (by kernel_rfl)
                       have hb19_ := hall 19 (by kernel_rfl)
                       have hb22_ := hall 22 (by kernel_rfl)
                       have hb23_ := hall 23 (by kernel_rfl)
                       have hb24_ := hall 24 (by kernel_rfl)
                       have hb25_ := hall 25 (by kernel_rfl)
                       have hb29_ := hall 29 (by kernel_rfl)
                       have hb30_ := hall 30 (by kernel_rfl)
                       have hb31_ := hall 31 (by kernel_rfl)
                       have hb32_ := hall 32 (by kernel_rfl)
                       have hb36_ := hall 36 (by kernel_rfl)
                       have hb37_ := hall 37 (by kernel_rfl)
                       have hb38_ := hall 38 (by kernel_rfl)
                       have hb39_ := hall 39 (by kernel_rfl)
                       subst ha
                       obtain rfl := Q_X4_ hb4_
                       simp only [putSel, hb1_, hb3_, hb4_, hb5_, hb6_, hb7_, hb10_, hb11_, hb12_, hb13_, hb16_, hb17_, hb18_, hb19_, hb22_, hb23_, hb24_, hb25_, hb29_, hb30_, hb31_, hb32_, hb36_, hb37_, hb38_, hb39_, if_true, Act.put, List.setIfInBounds_toArray, List.set_cons_zero, List.set_cons_succ]
                       have BK149 := Aside0.mk Q_BK149
                       clear Q_BK149
                       have BK152 := Aside0.mk Q_BK152
                       clear Q_BK152
                       have HB := Aside0.mk Q_HB
                       clear Q_HB
                       have HO155 := Aside0.mk (Q_HO155 hb1_)
                       clear Q_HO155
                       have HA_HO155 := Aside0.mk (Q_HA_HO155 hb1_)
                       clear Q_HA_HO155
                       clear hall hb1_ hb3_ hb4_ hb5_ hb6_ hb7_ hb10_ hb11_ hb12_ hb13_ hb16_ hb17_ hb18_ hb19_ hb22_ hb23_ hb24_ hb25_ hb29_ hb30_ hb31_ hb32_ hb36_ hb37_ hb38_ hb39_
                       obtain ⟨co45, eo45⟩ := HA_HO155.out
                       clear HA_HO155
                       subst eo45
                       obtain ⟨hcz46_0, hcz46_1, hcz46_2, hcz46_3, hcz46_4, hcz46_5, hcz46_6, hcz46_7, hcz46_8, hcz46_9, hcz46_10⟩ := blk_c11 BK152.out
                       obtain ⟨hfz46_0, hfz46_1, hfz46_2, hfz46_3, hfz46_4, hfz46_5, hfz46_6, hfz46_7, hfz46_8, hfz46_9, hfz46_10⟩ := blk_f11 BK152.out
                       try go_wp2_with (first | ((with_reducible refine gate_callee (f := 21) rfl ?_); refine goesL_ (some 69) rfl rfl Tryd.func21 (by kernel_rfl) rfl #[.int .i64 ((rd_T50 l0 x5_1).f2)] rfl (by (try simp only [List.map_toArray, List.map_cons, List.map_nil]); first | done | rfl | (simp only [List.length_drop, List.length_take]; rfl)) ?_; (with_reducible refine (spec_l2Digits.calls k1 ((rd_T50 l0 x5_1).f2) t162 _ A28.out).mono ?_); rintro e w47 ⟨rfl, hb⟩; refine ⟨_, rfl, ?_⟩; have n0_ := Aside0.mk (Kd.R_below (by (with_reducible repeat (first | apply Kd.R_alloc | apply Kd.R_drewN | apply Kd.R_drew)); exact HO155.out) hb); have n1_ := Aside0.mk (blk_below (g := gb149) (o := .cells #[.int .i64 0, .string (⟨#[]⟩ : ByteArray)] 23 (0, 0)) (by (with_reducible repeat (first | refine blk_drewN ?_ _ | refine blk_drew ?_ | refine blk_alloc ?_ _)); exact BK149.out) hb); have n2_ := Aside0.mk (blk_below_u BK152.out hb); have n3_ := Aside0.mk (below_step (by repeat (first | (with_reducible first | exact HB.out | apply below_alloc | apply pw_below_drewN | apply below_drew1 | refine below_set ?_ GE149.out | refine below_set ?_ GE152.out) | exact HB.out)) hb); clear HO155; clear BK149; clear BK152; clear HB; have HO155 := n0_; have BK149 := n1_; have BK152 := n2_; have HB := n3_; clear n0_ n1_ n2_ n3_; (try clear hb); (try clear hb2); (try clear hk); (try clear hi)))
                       go_roundg k1
                       case measure => have := HK1.out; omega
                       case rel => exact ⟨((((((((((((((x4_1 ++ (rdOf ByteArray.empty y153 ((rd_T50 l0 x5_1).f1))) ++ (⟨#[32]⟩ : ByteArray)) ++ t157) ++ (⟨#[32]⟩ : ByteArray)) ++ t158) ++ (⟨#[32]⟩ : ByteArray)) ++ t159) ++ (⟨#[32]⟩ : ByteArray)) ++ t160) ++ (⟨#[45]⟩ : ByteArray)) ++ t161) ++ (⟨#[32]⟩ : ByteArray)) ++ t162) ++ (⟨#[10]⟩ : ByteArray)), (wrap64 (x5_1 + 1)), (by first | rfl | (simp; done) | (simp [*]; done)), (by first | rfl | (simp; done) | (simp [*]; done)), H', ⟨by have := HK1.out; omega⟩, ⟨by (with_reducible repeat (first | refine blk_drewN ?_ _ | refine blk_drew ?_ | refine blk_alloc ?_ _)); exact BK149.out⟩, ⟨by repeat (first | (with_reducible first | exact HB.out | apply below_alloc | apply pw_below_drewN | apply below_drew1 | refine below_set ?_ GE149.out | refine below_set ?_ GE152.out) | exact HB.out)⟩⟩
                      ·
                       rw [if_neg c30] at H
                       exact absurd H (by simp)
                     ·
                      rw [if_neg c29] at H
                      exact absurd H (by simp)
                    ·
                     rw [if_neg c27] at H
                     exact absurd H (by simp)
                   ·
                    rw [if_neg c26] at H
                    have c26b0 : (((rd_T50 l0 x5_1).f1) == 3) = false := beq_eq_false_iff_ne.mpr c26
                    have c26b1 : (((rd_T50 l0 x5_1).f1) != 3) = true := bne_iff_ne.mpr c26
                    by_cases c48 : (((((((((((x4_1 ++ (rdOf ByteArray.empty y153 ((rd_T50 l0 x5_1).f1))) ++ (⟨#[32]⟩ : ByteArray)) ++ t157) ++ (⟨#[32]⟩ : ByteArray)) ++ t158) ++ (⟨#[32]⟩ : ByteArray)) ++ t159) ++ (⟨#[32]⟩ : ByteArray)) ++ t160) ++ (⟨#[45]⟩ : ByteArray)) ++ t161).size + 1 ≤ 9223372036854775807
                    ·
                     rw [if_pos c48] at H
                     have c48b0 := eq_true c48
                     have c48b1 : decide ((((((((((((x4_1 ++ (rdOf ByteArray.empty y153 ((rd_T50 l0 x5_1).f1))) ++ (⟨#[32]⟩ : ByteArray)) ++ t157) ++ (⟨#[32]⟩ : ByteArray)) ++ t158) ++ (⟨#[32]⟩ : ByteArray)) ++ t159) ++ (⟨#[32]⟩ : ByteArray)) ++ t160) ++ (⟨#[45]⟩ : ByteArray)) ++ t161).size + 1 ≤ 9223372036854775807) = true := decide_eq_true c48
                     try have c48n : x4_1.size + (rdOf ByteArray.empty y153 ((rd_T50 l0 x5_1).f1)).size + 1 + t157.size + 1 + t158.size + 1 + t159.size + 1 + t160.size + 1 + t161.size + 1 ≤ 9223372036854775807 := by have h_ := c48; simp only [ByteArray.size_append] at h_; exact h_
                     try have c48n0 := eq_true c48n
                     try have c48n2 : (9223372036854775807 < x4_1.size + (rdOf ByteArray.empty y153 ((rd_T50 l0 x5_1).f1)).size + 1 + t157.size + 1 + t158.size + 1 + t159.size + 1 + t160.size + 1 + t161.size + 1) = False := eq_false (Nat.not_lt.2 c48n)
                     try have c48b2 : (9223372036854775807 < (((((((((((x4_1 ++ (rdOf ByteArray.empty y153 ((rd_T50 l0 x5_1).f1))) ++ (⟨#[32]⟩ : ByteArray)) ++ t157) ++ (⟨#[32]⟩ : ByteArray)) ++ t158) ++ (⟨#[32]⟩ : ByteArray)) ++ t159) ++ (⟨#[32]⟩ : ByteArray)) ++ t160) ++ (⟨#[45]⟩ : ByteArray)) ++ t161).size + 1) = False := eq_false (Nat.not_lt.2 c48)
                     have H' := Aside0.mk H
                     clear H
                     have p151 : 0 ≤ (x5_1 : Int) := of_decide_eq_true (by first | (with_reducible assumption) | assumption)
                     have q151 : x5_1 < (l0.length : Int) := of_decide_eq_true (by first | (with_reducible assumption) | assumption)
                     obtain ⟨ad151, e151, hx151_0, hx151_1, hx151_2, hx151_3, hx151_4, hx151_5, hx151_6, hx151_7, hx151_8, hx151_9, hx151_10⟩ := at_T50 HR0.out x5_1 p151 q151
                     cases e151
                     replace hx151_0 := (HB.out.cell (World.block_lt_of_cell? w _ hx151_0)).trans hx151_0
                     replace hx151_1 := (HB.out.cell (World.block_lt_of_cell? w _ hx151_1)).trans hx151_1
                     replace hx151_2 := (HB.out.cell (World.block_lt_of_cell? w _ hx151_2)).trans hx151_2
                     replace hx151_3 := (HB.out.cell (World.block_lt_of_cell? w _ hx151_3)).trans hx151_3
                     replace hx151_4 := (HB.out.cell (World.block_lt_of_cell? w _ hx151_4)).trans hx151_4
                     replace hx151_5 := (HB.out.cell (World.block_lt_of_cell? w _ hx151_5)).trans hx151_5
                     replace hx151_6 := (HB.out.cell (World.block_lt_of_cell? w _ hx151_6)).trans hx151_6
                     replace hx151_7 := (HB.out.cell (World.block_lt_of_cell? w _ hx151_7)).trans hx151_7
                     replace hx151_8 := (HB.out.cell (World.block_lt_of_cell? w _ hx151_8)).trans hx151_8
                     replace hx151_9 := (HB.out.cell (World.block_lt_of_cell? w _ hx151_9)).trans hx151_9
                     replace hx151_10 := (HB.out.cell (World.block_lt_of_cell? w _ hx151_10)).trans hx151_10
                     replace p151 := eq_true p151
                     replace q151 := eq_true q151
                     try go_wp2_with (first | ((with_reducible refine gate_dst (N := 6) rfl ?_); refine box_event ?hg (N := 6) ?hd (cs := #[.int .i64 0, .int .i64 0, .int .i64 0, .int .i64 0, .int .i64 0, .int .i64 0, .int .i64 0, .int .i64 0, .int .i64 0, .int .i64 0, .int .i64 0]) (t := 50) ?hr ?_; (case hd => rfl); (case hg => rfl); (case hr => first | (go_simp; done) | (go_simp; rfl)); intro gb152 hg w49 hbox hb; have n0_ := Aside0.mk (blk_below (g := gb149) (o := .cells #[.int .i64 0, .string (⟨#[]⟩ : ByteArray)] 23 (0, 0)) (by (with_reducible repeat (first | refine blk_drewN ?_ _ | refine blk_drew ?_ | refine blk_alloc ?_ _)); exact BK149.out) hb); have n1_ := Aside0.mk (below_step (by repeat (first | (with_reducible first | exact HB.out | apply below_alloc | apply pw_below_drewN | apply below_drew1 | refine below_set ?_ GE149.out) | exact HB.out)) hb); have n2_ := Aside0.mk (hbox); have n3_ := Aside0.mk ((by rw [hg]; exact (below_size (by repeat (first | (with_reducible first | exact HB.out | apply below_alloc | apply pw_below_drewN | apply below_drew1 | refine below_set ?_ GE149.out) | exact HB.out))) : w.heap.size ≤ gb152)); have n4_ := Aside0.mk ((by rw [hg]; exact (below_size (by repeat (first | (with_reducible first | exact HB.out | apply below_alloc | apply pw_below_drewN | apply below_drew1 | refine below_set ?_ GE149.out) | exact HB.out))) : w.heap.size ≤ gb152)); have n5_ := Aside0.mk ((by rw [hg]; exact Nat.ne_of_lt (blk_lt (g := gb149) (o := .cells #[.int .i64 0, .string (⟨#[]⟩ : ByteArray)] 23 (0, 0)) (by (with_reducible repeat (first | refine blk_drewN ?_ _ | refine blk_drew ?_ | refine blk_alloc ?_ _)); exact BK149.out)) : gb149 ≠ gb152)); have n6_ := Aside0.mk ((by rw [hg]; exact Nat.ne_of_gt (blk_lt (g := gb149) (o := .cells #[.int .i64 0, .string (⟨#[]⟩ : ByteArray)] 23 (0, 0)) (by (with_reducible repeat (first | refine blk_drewN ?_ _ | refine blk_drew ?_ | refine blk_alloc ?_ _)); exact BK149.out)) : gb152 ≠ gb149)); clear BK149; clear HB; have BK149 := n0_; have HB := n1_; have BK152 := n2_; have GW152 := n3_; have GE152 := n4_; have NB149_152 := n5_; have NB152_149 := n6_; clear n0_ n1_ n2_ n3_ n4_ n5_ n6_; clear hb hbox hg; have hnb50 := NB152_149.out; have hnc50 := NB149_152.out; obtain ⟨hcz51_0, hcz51_1, hcz51_2, hcz51_3, hcz51_4, hcz51_5, hcz51_6, hcz51_7, hcz51_8, hcz51_9, hcz51_10⟩ := blk_c11 BK152.out; obtain ⟨hfz51_0, hfz51_1, hfz51_2, hfz51_3, hfz51_4, hfz51_5, hfz51_6, hfz51_7, hfz51_8, hfz51_9, hfz51_10⟩ := blk_f11 BK152.out))
                     have pi156 : (0 ≤ (((rd_T50 l0 x5_1).f1) : Int)) = True := eq_true (of_decide_eq_true (by first | (with_reducible assumption) | assumption))
                     have qi156 : (((rd_T50 l0 x5_1).f1) < (y153.length : Int)) = True := eq_true (of_decide_eq_true (by first | (with_reducible assumption) | assumption))
                     have n0_ : Aside0 ((((((((((((w49.setCell ⟨gb152, 0, none⟩ (.int .i64 ((rd_T50 l0 x5_1).f0.f0.f0))).setCell ⟨gb152, 1, none⟩ (.int .i64 ((rd_T50 l0 x5_1).f0.f0.f1))).setCell ⟨gb152, 2, none⟩ (.int .i64 ((rd_T50 l0 x5_1).f0.f1.f0))).setCell ⟨gb152, 3, none⟩ (.int .i64 ((rd_T50 l0 x5_1).f0.f1.f1))).setCell ⟨gb152, 4, none⟩ (.int .i64 ((rd_T50 l0 x5_1).f0.f2.f0))).setCell ⟨gb152, 5, none⟩ (.int .i64 ((rd_T50 l0 x5_1).f0.f2.f1))).setCell ⟨gb152, 6, none⟩ (.int .i64 ((rd_T50 l0 x5_1).f0.f3.f0))).setCell ⟨gb152, 7, none⟩ (.int .i64 ((rd_T50 l0 x5_1).f0.f3.f1))).setCell ⟨gb152, 8, none⟩ (.int .i64 ((rd_T50 l0 x5_1).f0.f4))).setCell ⟨gb152, 9, none⟩ (.int .i64 ((rd_T50 l0 x5_1).f1))).setCell ⟨gb152, 10, none⟩ (.int .i64 ((rd_T50 l0 x5_1).f2))).heap[gb149]? = some (.cells #[.int .i64 0, .string (⟨#[]⟩ : ByteArray)] 23 (0, 0))) := ⟨by (with_reducible repeat (first | refine blk_drewN ?_ _ | refine blk_drew ?_ | refine blk_alloc ?_ _)); refine blk_far ?_ NB149_152.out _; (with_reducible repeat (first | refine blk_drewN ?_ _ | refine blk_drew ?_ | refine blk_alloc ?_ _)); refine blk_far ?_ NB149_152.out _; (with_reducible repeat (first | refine blk_drewN ?_ _ | refine blk_drew ?_ | refine blk_alloc ?_ _)); refine blk_far ?_ NB149_152.out _; (with_reducible repeat (first | refine blk_drewN ?_ _ | refine blk_drew ?_ | refine blk_alloc ?_ _)); refine blk_far ?_ NB149_152.out _; (with_reducible repeat (first | refine blk_drewN ?_ _ | refine blk_drew ?_ | refine blk_alloc ?_ _)); refine blk_far ?_ NB149_152.out _; (with_reducible repeat (first | refine blk_drewN ?_ _ | refine blk_drew ?_ | refine blk_alloc ?_ _)); refine blk_far ?_ NB149_152.out _; (with_reducible repeat (first | refine blk_drewN ?_ _ | refine blk_drew ?_ | refine blk_alloc ?_ _)); refine blk_far ?_ NB149_152.out _; (with_reducible repeat (first | refine blk_drewN ?_ _ | refine blk_drew ?_ | refine blk_alloc ?_ _)); refine blk_far ?_ NB149_152.out _; (with_reducible repeat (first | refine blk_drewN ?_ _ | refine blk_drew ?_ | refine blk_alloc ?_ _)); refine blk_far ?_ NB149_152.out _; (with_reducible repeat (first | refine blk_drewN ?_ _ | refine blk_drew ?_ | refine blk_alloc ?_ _)); refine blk_far ?_ NB149_152.out _; (with_reducible repeat (first | refine blk_drewN ?_ _ | refine blk_drew ?_ | refine blk_alloc ?_ _)); refine blk_far ?_ NB149_152.out _; (with_reducible repeat (first | refine blk_drewN ?_ _ | refine blk_drew ?_ | refine blk_alloc ?_ _)); exact BK149.out⟩
                     have n1_ : Aside0 ((((((((((((w49.setCell ⟨gb152, 0, none⟩ (.int .i64 ((rd_T50 l0 x5_1).f0.f0.f0))).setCell ⟨gb152, 1, none⟩ (.int .i64 ((rd_T50 l0 x5_1).f0.f0.f1))).setCell ⟨gb152, 2, none⟩ (.int .i64 ((rd_T50 l0 x5_1).f0.f1.f0))).setCell ⟨gb152, 3, none⟩ (.int .i64 ((rd_T50 l0 x5_1).f0.f1.f1))).setCell ⟨gb152, 4, none⟩ (.int .i64 ((rd_T50 l0 x5_1).f0.f2.f0))).setCell ⟨gb152, 5, none⟩ (.int .i64 ((rd_T50 l0 x5_1).f0.f2.f1))).setCell ⟨gb152, 6, none⟩ (.int .i64 ((rd_T50 l0 x5_1).f0.f3.f0))).setCell ⟨gb152, 7, none⟩ (.int .i64 ((rd_T50 l0 x5_1).f0.f3.f1))).setCell ⟨gb152, 8, none⟩ (.int .i64 ((rd_T50 l0 x5_1).f0.f4))).setCell ⟨gb152, 9, none⟩ (.int .i64 ((rd_T50 l0 x5_1).f1))).setCell ⟨gb152, 10, none⟩ (.int .i64 ((rd_T50 l0 x5_1).f2))).heap[gb152]? = some (.cells #[.int .i64 ((rd_T50 l0 x5_1).f0.f0.f0), .int .i64 ((rd_T50 l0 x5_1).f0.f0.f1), .int .i64 ((rd_T50 l0 x5_1).f0.f1.f0), .int .i64 ((rd_T50 l0 x5_1).f0.f1.f1), .int .i64 ((rd_T50 l0 x5_1).f0.f2.f0), .int .i64 ((rd_T50 l0 x5_1).f0.f2.f1), .int .i64 ((rd_T50 l0 x5_1).f0.f3.f0), .int .i64 ((rd_T50 l0 x5_1).f0.f3.f1), .int .i64 ((rd_T50 l0 x5_1).f0.f4), .int .i64 ((rd_T50 l0 x5_1).f1), .int .i64 ((rd_T50 l0 x5_1).f2)] 50 (0, 0))) := ⟨by (with_reducible repeat (first | refine blk_drewN ?_ _ | refine blk_drew ?_ | refine blk_alloc ?_ _)); refine blk_put (cs := #[.int .i64 ((rd_T50 l0 x5_1).f0.f0.f0), .int .i64 ((rd_T50 l0 x5_1).f0.f0.f1), .int .i64 ((rd_T50 l0 x5_1).f0.f1.f0), .int .i64 ((rd_T50 l0 x5_1).f0.f1.f1), .int .i64 ((rd_T50 l0 x5_1).f0.f2.f0), .int .i64 ((rd_T50 l0 x5_1).f0.f2.f1), .int .i64 ((rd_T50 l0 x5_1).f0.f3.f0), .int .i64 ((rd_T50 l0 x5_1).f0.f3.f1), .int .i64 ((rd_T50 l0 x5_1).f0.f4), .int .i64 ((rd_T50 l0 x5_1).f1), .int .i64 0]) ?_ 10 _ rfl; (with_reducible repeat (first | refine blk_drewN ?_ _ | refine blk_drew ?_ | refine blk_alloc ?_ _)); refine blk_put (cs := #[.int .i64 ((rd_T50 l0 x5_1).f0.f0.f0), .int .i64 ((rd_T50 l0 x5_1).f0.f0.f1), .int .i64 ((rd_T50 l0 x5_1).f0.f1.f0), .int .i64 ((rd_T50 l0 x5_1).f0.f1.f1), .int .i64 ((rd_T50 l0 x5_1).f0.f2.f0), .int .i64 ((rd_T50 l0 x5_1).f0.f2.f1), .int .i64 ((rd_T50 l0 x5_1).f0.f3.f0), .int .i64 ((rd_T50 l0 x5_1).f0.f3.f1), .int .i64 ((rd_T50 l0 x5_1).f0.f4), .int .i64 0, .int .i64 0]) ?_ 9 _ rfl; (with_reducible repeat (first | refine blk_drewN ?_ _ | refine blk_drew ?_ | refine blk_alloc ?_ _)); refine blk_put (cs := #[.int .i64 ((rd_T50 l0 x5_1).f0.f0.f0), .int .i64 ((rd_T50 l0 x5_1).f0.f0.f1), .int .i64 ((rd_T50 l0 x5_1).f0.f1.f0), .int .i64 ((rd_T50 l0 x5_1).f0.f1.f1), .int .i64 ((rd_T50 l0 x5_1).f0.f2.f0), .int .i64 ((rd_T50 l0 x5_1).f0.f2.f1), .int .i64 ((rd_T50 l0 x5_1).f0.f3.f0), .int .i64 ((rd_T50 l0 x5_1).f0.f3.f1), .int .i64 0, .int .i64 0, .int .i64 0]) ?_ 8 _ rfl; (with_reducible repeat (first | refine blk_drewN ?_ _ | refine blk_drew ?_ | refine blk_alloc ?_ _)); refine blk_put (cs := #[.int .i64 ((rd_T50 l0 x5_1).f0.f0.f0), .int .i64 ((rd_T50 l0 x5_1).f0.f0.f1), .int .i64 ((rd_T50 l0 x5_1).f0.f1.f0), .int .i64 ((rd_T50 l0 x5_1).f0.f1.f1), .int .i64 ((rd_T50 l0 x5_1).f0.f2.f0), .int .i64 ((rd_T50 l0 x5_1).f0.f2.f1), .int .i64 ((rd_T50 l0 x5_1).f0.f3.f0), .int .i64 0, .int .i64 0, .int .i64 0, .int .i64 0]) ?_ 7 _ rfl; (with_reducible repeat (first | refine blk_drewN ?_ _ | refine blk_drew ?_ | refine blk_alloc ?_ _)); refine blk_put (cs := #[.int .i64 ((rd_T50 l0 x5_1).f0.f0.f0), .int .i64 ((rd_T50 l0 x5_1).f0.f0.f1), .int .i64 ((rd_T50 l0 x5_1).f0.f1.f0), .int .i64 ((rd_T50 l0 x5_1).f0.f1.f1), .int .i64 ((rd_T50 l0 x5_1).f0.f2.f0), .int .i64 ((rd_T50 l0 x5_1).f0.f2.f1), .int .i64 0, .int .i64 0, .int .i64 0, .int .i64 0, .int .i64 0]) ?_ 6 _ rfl; (with_reducible repeat (first | refine blk_drewN ?_ _ | refine blk_drew ?_ | refine blk_alloc ?_ _)); refine blk_put (cs := #[.int .i64 ((rd_T50 l0 x5_1).f0.f0.f0), .int .i64 ((rd_T50 l0 x5_1).f0.f0.f1), .int .i64 ((rd_T50 l0 x5_1).f0.f1.f0), .int .i64 ((rd_T50 l0 x5_1).f0.f1.f1), .int .i64 ((rd_T50 l0 x5_1).f0.f2.f0), .int .i64 0, .int .i64 0, .int .i64 0, .int .i64 0, .int .i64 0, .int .i64 0]) ?_ 5 _ rfl; (with_reducible repeat (first | refine blk_drewN ?_ _ | refine blk_drew ?_ | refine blk_alloc ?_ _)); refine blk_put (cs := #[.int .i64 ((rd_T50 l0 x5_1).f0.f0.f0), .int .i64 ((rd_T50 l0 x5_1).f0.f0.f1), .int .i64 ((rd_T50 l0 x5_1).f0.f1.f0), .int .i64 ((rd_T50 l0 x5_1).f0.f1.f1), .int .i64 0, .int .i64 0, .int .i64 0, .int .i64 0, .int .i64 0, .int .i64 0, .int .i64 0]) ?_ 4 _ rfl; (with_reducible repeat (first | refine blk_drewN ?_ _ | refine blk_drew ?_ | refine blk_alloc ?_ _)); refine blk_put (cs := #[.int .i64 ((rd_T50 l0 x5_1).f0.f0.f0), .int .i64 ((rd_T50 l0 x5_1).f0.f0.f1), .int .i64 ((rd_T50 l0 x5_1).f0.f1.f0), .int .i64 0, .int .i64 0, .int .i64 0, .int .i64 0, .int .i64 0, .int .i64 0, .int .i64 0, .int .i64 0]) ?_ 3 _ rfl; (with_reducible repeat (first | refine blk_drewN ?_ _ | refine blk_drew ?_ | refine blk_alloc ?_ _)); refine blk_put (cs := #[.int .i64 ((rd_T50 l0 x5_1).f0.f0.f0), .int .i64 ((rd_T50 l0 x5_1).f0.f0.f1), .int .i64 0, .int .i64 0, .int .i64 0, .int .i64 0, .int .i64 0, .int .i64 0, .int .i64 0, .int .i64 0, .int .i64 0]) ?_ 2 _ rfl; (with_reducible repeat (first | refine blk_drewN ?_ _ | refine blk_drew ?_ | refine blk_alloc ?_ _)); refine blk_put (cs := #[.int .i64 ((rd_T50 l0 x5_1).f0.f0.f0), .int .i64 0, .int .i64 0, .int .i64 0, .int .i64 0, .int .i64 0, .int .i64 0, .int .i64 0, .int .i64 0, .int .i64 0, .int .i64 0]) ?_ 1 _ rfl; (with_reducible repeat (first | refine blk_drewN ?_ _ | refine blk_drew ?_ | refine blk_alloc ?_ _)); refine blk_put (cs := #[.int .i64 0, .int .i64 0, .int .i64 0, .int .i64 0, .int .i64 0, .int .i64 0, .int .i64 0, .int .i64 0, .int .i64 0, .int .i64 0, .int .i64 0]) ?_ 0 _ rfl; (with_reducible repeat (first | refine blk_drewN ?_ _ | refine blk_drew ?_ | refine blk_alloc ?_ _)); exact BK152.out⟩
                     have n2_ : Aside0 (Below w.heap.size w (((((((((((w49.setCell ⟨gb152, 0, none⟩ (.int .i64 ((rd_T50 l0 x5_1).f0.f0.f0))).setCell ⟨gb152, 1, none⟩ (.int .i64 ((rd_T50 l0 x5_1).f0.f0.f1))).setCell ⟨gb152, 2, none⟩ (.int .i64 ((rd_T50 l0 x5_1).f0.f1.f0))).setCell ⟨gb152, 3, none⟩ (.int .i64 ((rd_T50 l0 x5_1).f0.f1.f1))).setCell ⟨gb152, 4, none⟩ (.int .i64 ((rd_T50 l0 x5_1).f0.f2.f0))).setCell ⟨gb152, 5, none⟩ (.int .i64 ((rd_T50 l0 x5_1).f0.f2.f1))).setCell ⟨gb152, 6, none⟩ (.int .i64 ((rd_T50 l0 x5_1).f0.f3.f0))).setCell ⟨gb152, 7, none⟩ (.int .i64 ((rd_T50 l0 x5_1).f0.f3.f1))).setCell ⟨gb152, 8, none⟩ (.int .i64 ((rd_T50 l0 x5_1).f0.f4))).setCell ⟨gb152, 9, none⟩ (.int .i64 ((rd_T50 l0 x5_1).f1))).setCell ⟨gb152, 10, none⟩ (.int .i64 ((rd_T50 l0 x5_1).f2)))) := ⟨by repeat (first | (with_reducible first | exact HB.out | apply below_alloc | apply pw_below_drewN | apply below_drew1 | refine below_set ?_ GE149.out | refine below_set ?_ GE152.out) | exact HB.out)⟩
                     (try clear BK149)
                     (try clear BK152)
                     (try clear HB)
                     generalize (((((((((((w49.setCell ⟨gb152, 0, none⟩ (.int .i64 ((rd_T50 l0 x5_1).f0.f0.f0))).setCell ⟨gb152, 1, none⟩ (.int .i64 ((rd_T50 l0 x5_1).f0.f0.f1))).setCell ⟨gb152, 2, none⟩ (.int .i64 ((rd_T50 l0 x5_1).f0.f1.f0))).setCell ⟨gb152, 3, none⟩ (.int .i64 ((rd_T50 l0 x5_1).f0.f1.f1))).setCell ⟨gb152, 4, none⟩ (.int .i64 ((rd_T50 l0 x5_1).f0.f2.f0))).setCell ⟨gb152, 5, none⟩ (.int .i64 ((rd_T50 l0 x5_1).f0.f2.f1))).setCell ⟨gb152, 6, none⟩ (.int .i64 ((rd_T50 l0 x5_1).f0.f3.f0))).setCell ⟨gb152, 7, none⟩ (.int .i64 ((rd_T50 l0 x5_1).f0.f3.f1))).setCell ⟨gb152, 8, none⟩ (.int .i64 ((rd_T50 l0 x5_1).f0.f4))).setCell ⟨gb152, 9, none⟩ (.int .i64 ((rd_T50 l0 x5_1).f1))).setCell ⟨gb152, 10, none⟩ (.int .i64 ((rd_T50 l0 x5_1).f2))) = w52 at n0_ n1_ n2_ ⊢
                     have BK149 := n0_
                     have BK152 := n1_
                     have HB := n2_
                     clear n0_ n1_ n2_
                     have n0_ := Aside0.mk (blk_drew BK149.out)
                     have n1_ := Aside0.mk (blk_drew BK152.out)
                     have n2_ := Aside0.mk (below_drew1 HB.out)
                     clear BK149
                     clear BK152
                     clear HB
                     have BK149 := n0_
                     have BK152 := n1_
                     have HB := n2_
                     clear n0_ n1_ n2_
                     refine start_ (n := 40) (S := fun w' => True) (ds := []) #[false, false, false, false, false, false, false, false, false, false, false, false, false, false, false, false, false, false, false, false, false, false, false, false, false, false, false, false, false, false, false, false, false, false, false, false, false, false, false, false] (by kernel_rfl) rfl rfl trivial (fun hHeld => ?_); refine with_tabW spec_PolicyText.tab9 spec_PolicyText.bits9 (fun HT_ HW_ => ?_)
                     generalize w52.drew = w53 at BK149 BK152 HB hHeld ⊢
                     refine pure_ (i := 0) (N := some 23) (v := ?_) (a' := ?_) #[true, false, false, false, false, false, false, false, false, false, false, false, false, false, false, false, false, false, false, false, false, false, false, false, false, false, false, false, false, false, false, false, false, false, false, false, false, false, false, false] rfl rfl (any_of HT_.out (by kernel_rfl)) (fun _ _ _ h => h) (Or.inl ⟨by rfl, ?_⟩) ?_ ?_
                     rotate_left
                     ·
                      intro w'
                      go_simp
                      with_reducible rfl
                     rotate_left
                     ·
                      simp only [Act.put, List.setIfInBounds_toArray, List.set_cons_zero, List.set_cons_succ, i64_w, i32_w]
                      rfl
                     refine pure_ (i := 2) (N := some 25) (v := ?_) (a' := ?_) #[true, false, true, false, false, false, false, false, false, false, false, false, false, false, false, false, false, false, false, false, false, false, false, false, false, false, false, false, false, false, false, false, false, false, false, false, false, false, false, false] rfl rfl (any_of HT_.out (by kernel_rfl)) (fun _ _ _ h => h) (Or.inl ⟨by rfl, ?_⟩) ?_ ?_
                     rotate_left
                     ·
                      intro w'
                      go_simp
                      with_reducible rfl
                     rotate_left
                     ·
                      simp only [Act.put, List.setIfInBounds_toArray, List.set_cons_zero, List.set_cons_succ, i64_w, i32_w]
                      rfl
                     refine pure_ (i := 8) (N := some 31) (v := ?_) (a' := ?_) #[true, false, true, false, false, false, false, false, true, false, false, false, false, false, false, false, false, false, false, false, false, false, false, false, false, false, false, false, false, false, false, false, false, false, false, false, false, false, false, false] rfl rfl (any_of HT_.out (by kernel_rfl)) (fun _ _ _ h => h) (Or.inl ⟨by rfl, ?_⟩) ?_ ?_
                     rotate_left
                     ·
                      intro w'
                      go_simp
                      with_reducible rfl
                     rotate_left
                     ·
                      simp only [Act.put, List.setIfInBounds_toArray, List.set_cons_zero, List.set_cons_succ, i64_w, i32_w]
                      rfl
                     refine pure_ (i := 9) (N := some 32) (v := ?_) (a' := ?_) #[true, false, true, false, false, false, false, false, true, true, false, false, false, false, false, false, false, false, false, false, false, false, false, false, false, false, false, false, false, false, false, false, false, false, false, false, false, false, false, false] rfl rfl (any_of HT_.out (by kernel_rfl)) (fun _ _ _ h => h) (Or.inl ⟨by rfl, ?_⟩) ?_ ?_
                     rotate_left
                     ·
                      intro w'
                      go_simp
                      with_reducible rfl
                     rotate_left
                     ·
                      simp only [Act.put, List.setIfInBounds_toArray, List.set_cons_zero, List.set_cons_succ, i64_w, i32_w]
                      rfl
                     refine pure_ (i := 14) (N := some 37) (v := ?_) (a' := ?_) #[true, false, true, false, false, false, false, false, true, true, false, false, false, false, true, false, false, false, false, false, false, false, false, false, false, false, false, false, false, false, false, false, false, false, false, false, false, false, false, false] rfl rfl (any_of HT_.out (by kernel_rfl)) (fun _ _ _ h => h) (Or.inl ⟨by rfl, ?_⟩) ?_ ?_
                     rotate_left
                     ·
                      intro w'
                      go_simp
                      with_reducible rfl
                     rotate_left
                     ·
                      simp only [Act.put, List.setIfInBounds_toArray, List.set_cons_zero, List.set_cons_succ, i64_w, i32_w]
                      rfl
                     refine pure_ (i := 15) (N := some 38) (v := ?_) (a' := ?_) #[true, false, true, false, false, false, false, false, true, true, false, false, false, false, true, true, false, false, false, false, false, false, false, false, false, false, false, false, false, false, false, false, false, false, false, false, false, false, false, false] rfl rfl (any_of HT_.out (by kernel_rfl)) (fun _ _ _ h => h) (Or.inl ⟨by rfl, ?_⟩) ?_ ?_
                     rotate_left
                     ·
                      intro w'
                      go_simp
                      with_reducible rfl
                     rotate_left
                     ·
                      simp only [Act.put, List.setIfInBounds_toArray, List.set_cons_zero, List.set_cons_succ, i64_w, i32_w]
                      rfl
                     refine pure_ (i := 20) (N := some 43) (v := ?_) (a' := ?_) #[true, false, true, false, false, false, false, false, true, true, false, false, false, false, true, true, false, false, false, false, true, false, false, false, false, false, false, false, false, false, false, false, false, false, false, false, false, false, false, false] rfl rfl (any_of HT_.out (by kernel_rfl)) (fun _ _ _ h => h) (Or.inl ⟨by rfl, ?_⟩) ?_ ?_
                     rotate_left
                     ·
                      intro w'
                      go_simp
                      with_reducible rfl
                     rotate_left
                     ·
                      simp only [Act.put, List.setIfInBounds_toArray, List.set_cons_zero, List.set_cons_succ, i64_w, i32_w]
                      rfl
                     refine pure_ (i := 21) (N := some 44) (v := ?_) (a' := ?_) #[true, false, true, false, false, false, false, false, true, true, false, false, false, false, true, true, false, false, false, false, true, true, false, false, false, false, false, false, false, false, false, false, false, false, false, false, false, false, false, false] rfl rfl (any_of HT_.out (by kernel_rfl)) (fun _ _ _ h => h) (Or.inl ⟨by rfl, ?_⟩) ?_ ?_
                     rotate_left
                     ·
                      intro w'
                      go_simp
                      with_reducible rfl
                     rotate_left
                     ·
                      simp only [Act.put, List.setIfInBounds_toArray, List.set_cons_zero, List.set_cons_succ, i64_w, i32_w]
                      rfl
                     refine pure_ (i := 26) (N := some 49) (v := ?_) (a' := ?_) #[true, false, true, false, false, false, false, false, true, true, false, false, false, false, true, true, false, false, false, false, true, true, false, false, false, false, true, false, false, false, false, false, false, false, false, false, false, false, false, false] rfl rfl (any_of HT_.out (by kernel_rfl)) (fun _ _ _ h => h) (Or.inl ⟨by rfl, ?_⟩) ?_ ?_
                     rotate_left
                     ·
                      intro w'
                      go_simp
                      with_reducible rfl
                     rotate_left
                     ·
                      simp only [Act.put, List.setIfInBounds_toArray, List.set_cons_zero, List.set_cons_succ, i64_w, i32_w]
                      rfl
                     refine pure_ (i := 27) (N := some 50) (v := ?_) (a' := ?_) #[true, false, true, false, false, false, false, false, true, true, false, false, false, false, true, true, false, false, false, false, true, true, false, false, false, false, true, true, false, false, false, false, false, false, false, false, false, false, false, false] rfl rfl (any_of HT_.out (by kernel_rfl)) (fun _ _ _ h => h) (Or.inl ⟨by rfl, ?_⟩) ?_ ?_
                     rotate_left
                     ·
                      intro w'
                      go_simp
                      with_reducible rfl
                     rotate_left
                     ·
                      simp only [Act.put, List.setIfInBounds_toArray, List.set_cons_zero, List.set_cons_succ, i64_w, i32_w]
                      rfl
                     refine pure_ (i := 28) (N := some 51) (v := ?_) (a' := ?_) #[true, false, true, false, false, false, false, false, true, true, false, false, false, false, true, true, false, false, false, false, true, true, false, false, false, false, true, true, true, false, false, false, false, false, false, false, false, false, false, false] rfl rfl (any_of HT_.out (by kernel_rfl)) (fun _ _ _ h => h) (Or.inl ⟨by rfl, ?_⟩) ?_ ?_
                     rotate_left
                     ·
                      intro w'
                      go_simp
                      with_reducible rfl
                     rotate_left
                     ·
                      simp only [Act.put, List.setIfInBounds_toArray, List.set_cons_zero, List.set_cons_succ, i64_w, i32_w]
                      rfl
                     refine pure_ (i := 33) (N := some 56) (v := ?_) (a' := ?_) #[true, false, true, false, false, false, false, false, true, true, false, false, false, false, true, true, false, false, false, false, true, true, false, false, false, false, true, true, true, false, false, false, false, true, false, false, false, false, false, false] rfl rfl (any_of HT_.out (by kernel_rfl)) (fun _ _ _ h => h) (Or.inl ⟨by rfl, ?_⟩) ?_ ?_
                     rotate_left
                     ·
                      intro w'
                      go_simp
                      with_reducible rfl
                     rotate_left
                     ·
                      simp only [Act.put, List.setIfInBounds_toArray, List.set_cons_zero, List.set_cons_succ, i64_w, i32_w]
                      rfl
                     refine pure_ (i := 34) (N := some 57) (v := ?_) (a' := ?_) #[true, false, true, false, false, false, false, false, true, true, false, false, false, false, true, true, false, false, false, false, true, true, false, false, false, false, true, true, true, false, false, false, false, true, true, false, false, false, false, false] rfl rfl (any_of HT_.out (by kernel_rfl)) (fun _ _ _ h => h) (Or.inl ⟨by rfl, ?_⟩) ?_ ?_
                     rotate_left
                     ·
                      intro w'
                      go_simp
                      with_reducible rfl
                     rotate_left
                     ·
                      simp only [Act.put, List.setIfInBounds_toArray, List.set_cons_zero, List.set_cons_succ, i64_w, i32_w]
                      rfl
                     refine pure_ (i := 35) (N := some 58) (v := ?_) (a' := ?_) #[true, false, true, false, false, false, false, false, true, true, false, false, false, false, true, true, false, false, false, false, true, true, false, false, false, false, true, true, true, false, false, false, false, true, true, true, false, false, false, false] rfl rfl (any_of HT_.out (by kernel_rfl)) (fun _ _ _ h => h) (Or.inl ⟨by rfl, ?_⟩) ?_ ?_
                     rotate_left
                     ·
                      intro w'
                      go_simp
                      with_reducible rfl
                     rotate_left
                     ·
                      simp only [Act.put, List.setIfInBounds_toArray, List.set_cons_zero, List.set_cons_succ, i64_w, i32_w]
                      rfl
                     refine inv_at [1, 3, 4, 5, 6, 7, 10, 11, 12, 13, 16, 17, 18, 19, 22, 23, 24, 25, 29, 30, 31, 32, 36, 37, 38, 39] (fun a0_ b a w' => ∃ (v154 : Value) (adz_v154 : Addr) (m4_ : Value), a = putSel a0_ b [(1, 24, v154), (3, 26, .int .i64 ((rd_T50 l0 x5_1).f1)), (4, 27, m4_), (5, 28, .string (rdOf ByteArray.empty y153 ((rd_T50 l0 x5_1).f1))), (6, 29, .string (x4_1 ++ (rdOf ByteArray.empty y153 ((rd_T50 l0 x5_1).f1)))), (7, 30, .string ((x4_1 ++ (rdOf ByteArray.empty y153 ((rd_T50 l0 x5_1).f1))) ++ (⟨#[32]⟩ : ByteArray))), (10, 33, .agg #[.int .i64 ((rd_T50 l0 x5_1).f0.f0.f0), .int .i64 ((rd_T50 l0 x5_1).f0.f0.f1)]), (11, 34, .string t157), (12, 35, .string (((x4_1 ++ (rdOf ByteArray.empty y153 ((rd_T50 l0 x5_1).f1))) ++ (⟨#[32]⟩ : ByteArray)) ++ t157)), (13, 36, .string ((((x4_1 ++ (rdOf ByteArray.empty y153 ((rd_T50 l0 x5_1).f1))) ++ (⟨#[32]⟩ : ByteArray)) ++ t157) ++ (⟨#[32]⟩ : ByteArray))), (16, 39, .agg #[.int .i64 ((rd_T50 l0 x5_1).f0.f1.f0), .int .i64 ((rd_T50 l0 x5_1).f0.f1.f1)]), (17, 40, .string t158), (18, 41, .string (((((x4_1 ++ (rdOf ByteArray.empty y153 ((rd_T50 l0 x5_1).f1))) ++ (⟨#[32]⟩ : ByteArray)) ++ t157) ++ (⟨#[32]⟩ : ByteArray)) ++ t158)), (19, 42, .string ((((((x4_1 ++ (rdOf ByteArray.empty y153 ((rd_T50 l0 x5_1).f1))) ++ (⟨#[32]⟩ : ByteArray)) ++ t157) ++ (⟨#[32]⟩ : ByteArray)) ++ t158) ++ (⟨#[32]⟩ : ByteArray))), (22, 45, .int .i64 ((rd_T50 l0 x5_1).f0.f4)), (23, 46, .string t159), (24, 47, .string (((((((x4_1 ++ (rdOf ByteArray.empty y153 ((rd_T50 l0 x5_1).f1))) ++ (⟨#[32]⟩ : ByteArray)) ++ t157) ++ (⟨#[32]⟩ : ByteArray)) ++ t158) ++ (⟨#[32]⟩ : ByteArray)) ++ t159)), (25, 48, .string ((((((((x4_1 ++ (rdOf ByteArray.empty y153 ((rd_T50 l0 x5_1).f1))) ++ (⟨#[32]⟩ : ByteArray)) ++ t157) ++ (⟨#[32]⟩ : ByteArray)) ++ t158) ++ (⟨#[32]⟩ : ByteArray)) ++ t159) ++ (⟨#[32]⟩ : ByteArray))), (29, 52, .int .i64 ((rd_T50 l0 x5_1).f0.f3.f0)), (30, 53, .string t160), (31, 54, .string (((((((((x4_1 ++ (rdOf ByteArray.empty y153 ((rd_T50 l0 x5_1).f1))) ++ (⟨#[32]⟩ : ByteArray)) ++ t157) ++ (⟨#[32]⟩ : ByteArray)) ++ t158) ++ (⟨#[32]⟩ : ByteArray)) ++ t159) ++ (⟨#[32]⟩ : ByteArray)) ++ t160)), (32, 55, .string ((((((((((x4_1 ++ (rdOf ByteArray.empty y153 ((rd_T50 l0 x5_1).f1))) ++ (⟨#[32]⟩ : ByteArray)) ++ t157) ++ (⟨#[32]⟩ : ByteArray)) ++ t158) ++ (⟨#[32]⟩ : ByteArray)) ++ t159) ++ (⟨#[32]⟩ : ByteArray)) ++ t160) ++ (⟨#[45]⟩ : ByteArray))), (36, 59, .int .i64 ((rd_T50 l0 x5_1).f0.f3.f1)), (37, 60, .string t161), (38, 61, .string (((((((((((x4_1 ++ (rdOf ByteArray.empty y153 ((rd_T50 l0 x5_1).f1))) ++ (⟨#[32]⟩ : ByteArray)) ++ t157) ++ (⟨#[32]⟩ : ByteArray)) ++ t158) ++ (⟨#[32]⟩ : ByteArray)) ++ t159) ++ (⟨#[32]⟩ : ByteArray)) ++ t160) ++ (⟨#[45]⟩ : ByteArray)) ++ t161)), (39, 4, .string (((((((((((x4_1 ++ (rdOf ByteArray.empty y153 ((rd_T50 l0 x5_1).f1))) ++ (⟨#[32]⟩ : ByteArray)) ++ t157) ++ (⟨#[32]⟩ : ByteArray)) ++ t158) ++ (⟨#[32]⟩ : ByteArray)) ++ t159) ++ (⟨#[32]⟩ : ByteArray)) ++ t160) ++ (⟨#[45]⟩ : ByteArray)) ++ t161))] ∧ (w'.heap[gb149]? = some (.cells #[.int .i64 0, .string (⟨#[]⟩ : ByteArray)] 23 (0, 0))) ∧ (w'.heap[gb152]? = some (.cells #[.int .i64 ((rd_T50 l0 x5_1).f0.f0.f0), .int .i64 ((rd_T50 l0 x5_1).f0.f0.f1), .int .i64 ((rd_T50 l0 x5_1).f0.f1.f0), .int .i64 ((rd_T50 l0 x5_1).f0.f1.f1), .int .i64 ((rd_T50 l0 x5_1).f0.f2.f0), .int .i64 ((rd_T50 l0 x5_1).f0.f2.f1), .int .i64 ((rd_T50 l0 x5_1).f0.f3.f0), .int .i64 ((rd_T50 l0 x5_1).f0.f3.f1), .int .i64 ((rd_T50 l0 x5_1).f0.f4), .int .i64 ((rd_T50 l0 x5_1).f1), .int .i64 ((rd_T50 l0 x5_1).f2)] 50 (0, 0))) ∧ (Below w.heap.size w w') ∧ (b 1 = true → Kd.R Kd.string 9 w' w.heap.size (fun _ => True) v154 y153) ∧ (b 1 = true → ∃ c_, (v154 : Value) = .slice (some adz_v154) y153.length c_) ∧ (b 4 = true → (m4_ : Value) = .pointer (some (adz_v154.add (((rd_T50 l0 x5_1).f1)).toNat)))) HT_.out HW_.out (by kernel_rfl) (by kernel_rfl) ?_ ?_ ?_
                     ·
                      exact ⟨.bool false, ⟨0, 0, none⟩, .bool false, by simp only [putSel, Bool.false_eq_true, if_false], BK149.out, BK152.out, HB.out, fun h_ => absurd h_ (by decide), fun h_ => absurd h_ (by decide), fun h_ => absurd h_ (by decide)⟩
                     ·
                      skip
                      clear BK149 BK152 HB
                      refine steps_cons ?_ ?_
                      ·
                       rintro b a w' ⟨v154, adz_v154, m4_, ha, Q_BK149, Q_BK152, Q_HB, Q_HO155, Q_HA_HO155, Q_X4_⟩ hb_ hon hoff
                       refine ⟨_, rfl, fun K hK => ?_⟩
                       replace ha := Aside0.mk ha
                       have BK149 := Aside0.mk Q_BK149
                       have BK152 := Aside0.mk Q_BK152
                       have HB := Aside0.mk Q_HB
                       refine Kd.R_lit_step Kd.string _ 9 ?hg (N := 24) ?hd (xs := ([(⟨#[]⟩ : ByteArray), (⟨#[100, 114, 111, 112]⟩ : ByteArray), (⟨#[112, 97, 115, 115]⟩ : ByteArray), (⟨#[115, 101, 97, 108]⟩ : ByteArray)] : List ByteArray)) (inner := [.string (⟨#[]⟩ : ByteArray), .string (⟨#[100, 114, 111, 112]⟩ : ByteArray), .string (⟨#[112, 97, 115, 115]⟩ : ByteArray), .string (⟨#[115, 101, 97, 108]⟩ : ByteArray)]) (ok := fun _ => True) (okp := fun _ => True) ?hr ?hp (fun _ hk => hk) trivial (Below.refl _ _) (Nat.le_refl _) (by simp) ?_; (case hd => rfl); (case hg => rfl); (case hr => first | (go_simp; done) | (go_simp; rfl)); (case hp => exact (Reps.one (show Kd.M Kd.string _ _ _ (⟨#[]⟩ : ByteArray) [.string (⟨#[]⟩ : ByteArray)] from rfl) (Reps.one (show Kd.M Kd.string _ _ _ (⟨#[100, 114, 111, 112]⟩ : ByteArray) [.string (⟨#[100, 114, 111, 112]⟩ : ByteArray)] from rfl) (Reps.one (show Kd.M Kd.string _ _ _ (⟨#[112, 97, 115, 115]⟩ : ByteArray) [.string (⟨#[112, 97, 115, 115]⟩ : ByteArray)] from rfl) (Reps.one (show Kd.M Kd.string _ _ _ (⟨#[115, 101, 97, 108]⟩ : ByteArray) [.string (⟨#[115, 101, 97, 108]⟩ : ByteArray)] from rfl) (Reps.none _ _))))))
                       intro v154 w54 ho55 hb hg_ hnew_
                       clear hg_ hnew_
                       (first | rw [← Ny153.out] at ho55 | (simp only [Int.reduceToNat] at ho55; rw [← Ny153.out] at ho55))
                       have n0_ := Aside0.mk (Kd.R_lower ho55 (below_size (by repeat (first | (with_reducible first | exact HB.out | apply below_alloc | apply pw_below_drewN | apply below_drew1 | refine below_set ?_ GE149.out | refine below_set ?_ GE152.out) | exact HB.out))))
                       have n1_ := Aside0.mk (blk_below (g := gb149) (o := .cells #[.int .i64 0, .string (⟨#[]⟩ : ByteArray)] 23 (0, 0)) (by (with_reducible repeat (first | refine blk_drewN ?_ _ | refine blk_drew ?_ | refine blk_alloc ?_ _)); exact BK149.out) hb)
                       have n2_ := Aside0.mk (blk_below_u BK152.out hb)
                       have n3_ := Aside0.mk (below_step (by repeat (first | (with_reducible first | exact HB.out | apply below_alloc | apply pw_below_drewN | apply below_drew1 | refine below_set ?_ GE149.out | refine below_set ?_ GE152.out) | exact HB.out)) hb)
                       clear BK149
                       clear BK152
                       clear HB
                       have HO155 := n0_
                       have BK149 := n1_
                       have BK152 := n2_
                       have HB := n3_
                       clear n0_ n1_ n2_ n3_
                       clear hb ho55
                       obtain ⟨Ao56, co56, eo56⟩ := Kd.R_slice HO155.out
                       subst eo56
                       obtain ⟨ado56, fo56, _⟩ := Kd.at_string (Kd.R_reads' HO155.out).2.2 0 (by decide) (by rw [Ny153.out]; simp)
                       cases fo56
                       refine hK.out _ _ ⟨.slice (some ado56) y153.length co56, ado56, m4_, (by rw [ha.out]; exact putSel_upk 0 hb_ rfl rfl rfl), (by (with_reducible repeat (first | refine blk_drewN ?_ _ | refine blk_drew ?_ | refine blk_alloc ?_ _)); exact BK149.out), (by (with_reducible repeat (first | refine blk_drewN ?_ _ | refine blk_drew ?_ | refine blk_alloc ?_ _)); exact BK152.out), (by repeat (first | (with_reducible first | exact HB.out | apply below_alloc | apply pw_below_drewN | apply below_drew1 | refine below_set ?_ GE149.out | refine below_set ?_ GE152.out) | exact HB.out)), fun _ => (by (with_reducible repeat (first | apply Kd.R_alloc | apply Kd.R_drewN | apply Kd.R_drew)); exact HO155.out), fun _ => ⟨_, rfl⟩, fun h0_ => absurd ((hoff 4 (by kernel_rfl)).symm.trans h0_) (by decide)⟩
                      refine steps_cons ?_ ?_
                      ·
                       rintro b a w' ⟨v154, adz_v154, m4_, ha, Q_BK149, Q_BK152, Q_HB, Q_HO155, Q_HA_HO155, Q_X4_⟩ hb_ hon hoff
                       refine ⟨_, rfl, fun K hK => ?_⟩
                       have e25 : a.tmps[25]? = some (.pointer (some ⟨gb152, 9, none⟩)) := by rw [ha]; exact (putSel_off rfl).trans rfl
                       replace ha := Aside0.mk ha
                       have BK149 := Aside0.mk Q_BK149
                       have BK152 := Aside0.mk Q_BK152
                       have HB := Aside0.mk Q_HB
                       have hc0_ : w'.cell? ⟨gb152, 0, none⟩ = some (.int .i64 ((rd_T50 l0 x5_1).f0.f0.f0)) := (blk_cell BK152.out 0).trans rfl
                       have hc1_ : w'.cell? ⟨gb152, 1, none⟩ = some (.int .i64 ((rd_T50 l0 x5_1).f0.f0.f1)) := (blk_cell BK152.out 1).trans rfl
                       have hc2_ : w'.cell? ⟨gb152, 2, none⟩ = some (.int .i64 ((rd_T50 l0 x5_1).f0.f1.f0)) := (blk_cell BK152.out 2).trans rfl
                       have hc3_ : w'.cell? ⟨gb152, 3, none⟩ = some (.int .i64 ((rd_T50 l0 x5_1).f0.f1.f1)) := (blk_cell BK152.out 3).trans rfl
                       have hc4_ : w'.cell? ⟨gb152, 4, none⟩ = some (.int .i64 ((rd_T50 l0 x5_1).f0.f2.f0)) := (blk_cell BK152.out 4).trans rfl
                       have hc5_ : w'.cell? ⟨gb152, 5, none⟩ = some (.int .i64 ((rd_T50 l0 x5_1).f0.f2.f1)) := (blk_cell BK152.out 5).trans rfl
                       have hc6_ : w'.cell? ⟨gb152, 6, none⟩ = some (.int .i64 ((rd_T50 l0 x5_1).f0.f3.f0)) := (blk_cell BK152.out 6).trans rfl
                       have hc7_ : w'.cell? ⟨gb152, 7, none⟩ = some (.int .i64 ((rd_T50 l0 x5_1).f0.f3.f1)) := (blk_cell BK152.out 7).trans rfl
                       have hc8_ : w'.cell? ⟨gb152, 8, none⟩ = some (.int .i64 ((rd_T50 l0 x5_1).f0.f4)) := (blk_cell BK152.out 8).trans rfl
                       have hc9_ : w'.cell? ⟨gb152, 9, none⟩ = some (.int .i64 ((rd_T50 l0 x5_1).f1)) := (blk_cell BK152.out 9).trans rfl
                       have hc10_ : w'.cell? ⟨gb152, 10, none⟩ = some (.int .i64 ((rd_T50 l0 x5_1).f2)) := (blk_cell BK152.out 10).trans rfl
                       refine value_ (w1 := w') (v := .int .i64 ((rd_T50 l0 x5_1).f1)) (by rfl) rfl ?_ ?_
                       ·
                        go_simp
                        (try simp only [i64_w])
                        try rfl
                       refine hK.out _ _ ⟨v154, adz_v154, m4_, (by rw [ha.out]; exact putSel_upk 1 hb_ rfl rfl rfl), Q_BK149, Q_BK152, Q_HB, Q_HO155, Q_HA_HO155, fun h0_ => absurd ((hoff 4 (by kernel_rfl)).symm.trans h0_) (by decide)⟩
                      refine steps_cons ?_ ?_
                      ·
                       rintro b a w' ⟨v154, adz_v154, m4_, ha, Q_BK149, Q_BK152, Q_HB, Q_HO155, Q_HA_HO155, Q_X4_⟩ hb_ hon hoff
                       refine ⟨_, rfl, fun K hK => ?_⟩
                       have e24 : a.tmps[24]? = some (v154) := by rw [ha]; exact putSel_on (e := (1, 24, v154)) 0 rfl rfl (hon 1 (by kernel_rfl)) rfl
                       have e26 : a.tmps[26]? = some (.int .i64 ((rd_T50 l0 x5_1).f1)) := by rw [ha]; exact putSel_on (e := (3, 26, .int .i64 ((rd_T50 l0 x5_1).f1))) 1 rfl rfl (hon 3 (by kernel_rfl)) rfl
                       replace ha := Aside0.mk ha
                       have BK149 := Aside0.mk Q_BK149
                       have BK152 := Aside0.mk Q_BK152
                       have HB := Aside0.mk Q_HB
                       have HO155 := Aside0.mk (Q_HO155 (hon 1 (by kernel_rfl)))
                       have HA_HO155 := Aside0.mk (Q_HA_HO155 (hon 1 (by kernel_rfl)))
                       obtain ⟨c_, hv_⟩ := HA_HO155.out
                       rw [hv_] at e24
                       refine value_ (w1 := w') (v := .pointer (some (adz_v154.add (((rd_T50 l0 x5_1).f1)).toNat))) (by rfl) rfl ?_ ?_
                       ·
                        go_simp
                        (try simp only [i64_w])
                        try rfl
                       refine hK.out _ _ ⟨v154, adz_v154, (.pointer (some (adz_v154.add (((rd_T50 l0 x5_1).f1)).toNat))), (by rw [ha.out]; exact putSel_upk 2 hb_ rfl rfl rfl), Q_BK149, Q_BK152, Q_HB, Q_HO155, Q_HA_HO155, fun _ => rfl⟩
                      refine steps_cons ?_ ?_
                      ·
                       rintro b a w' ⟨v154, adz_v154, m4_, ha, Q_BK149, Q_BK152, Q_HB, Q_HO155, Q_HA_HO155, Q_X4_⟩ hb_ hon hoff
                       refine ⟨_, rfl, fun K hK => ?_⟩
                       have e27 : a.tmps[27]? = some (m4_) := by rw [ha]; exact putSel_on (e := (4, 27, m4_)) 2 rfl rfl (hon 4 (by kernel_rfl)) rfl
                       rw [Q_X4_ (hon 4 (by kernel_rfl))] at e27
                       replace ha := Aside0.mk ha
                       have BK149 := Aside0.mk Q_BK149
                       have BK152 := Aside0.mk Q_BK152
                       have HB := Aside0.mk Q_HB
                       have HO155 := Aside0.mk (Q_HO155 (hon 1 (by kernel_rfl)))
                       have HA_HO155 := Aside0.mk (Q_HA_HO155 (hon 1 (by kernel_rfl)))
                       obtain ⟨c_, hv_⟩ := HA_HO155.out
                       have hF_ := HO155.out
                       rw [hv_] at hF_
                       obtain ⟨ad_, ea_, hx_⟩ := Kd.at_string (Kd.R_reads' hF_).2.2 ((rd_T50 l0 x5_1).f1) (of_eq_true pi156) (of_eq_true qi156)
                       cases ea_
                       refine value_ (w1 := w') (v := .string (rdOf ByteArray.empty y153 ((rd_T50 l0 x5_1).f1))) (by rfl) rfl ?_ ?_
                       ·
                        go_simp
                        (try simp only [i64_w])
                        try rfl
                       refine hK.out _ _ ⟨v154, adz_v154, m4_, (by rw [ha.out]; exact putSel_upk 3 hb_ rfl rfl rfl), Q_BK149, Q_BK152, Q_HB, Q_HO155, Q_HA_HO155, Q_X4_⟩
                      refine steps_cons ?_ ?_
                      ·
                       rintro b a w' ⟨v154, adz_v154, m4_, ha, Q_BK149, Q_BK152, Q_HB, Q_HO155, Q_HA_HO155, Q_X4_⟩ hb_ hon hoff
                       refine ⟨_, rfl, fun K hK => ?_⟩
                       have e23 : a.tmps[23]? = some (.string x4_1) := by rw [ha]; exact (putSel_off rfl).trans rfl
                       have e28 : a.tmps[28]? = some (.string (rdOf ByteArray.empty y153 ((rd_T50 l0 x5_1).f1))) := by rw [ha]; exact putSel_on (e := (5, 28, .string (rdOf ByteArray.empty y153 ((rd_T50 l0 x5_1).f1)))) 3 rfl rfl (hon 5 (by kernel_rfl)) rfl
                       replace ha := Aside0.mk ha
                       have BK149 := Aside0.mk Q_BK149
                       have BK152 := Aside0.mk Q_BK152
                       have HB := Aside0.mk Q_HB
                       have HO155 := Aside0.mk (Q_HO155 (hon 1 (by kernel_rfl)))
                       have HA_HO155 := Aside0.mk (Q_HA_HO155 (hon 1 (by kernel_rfl)))
                       refine value_ (w1 := w') (v := .string (x4_1 ++ (rdOf ByteArray.empty y153 ((rd_T50 l0 x5_1).f1)))) (by rfl) rfl ?_ ?_
                       ·
                        go_simp
                        (try simp only [i64_w])
                        try rfl
                       refine hK.out _ _ ⟨v154, adz_v154, m4_, (by rw [ha.out]; exact putSel_upk 4 hb_ rfl rfl rfl), Q_BK149, Q_BK152, Q_HB, Q_HO155, Q_HA_HO155, Q_X4_⟩
                      refine steps_cons ?_ ?_
                      ·
                       rintro b a w' ⟨v154, adz_v154, m4_, ha, Q_BK149, Q_BK152, Q_HB, Q_HO155, Q_HA_HO155, Q_X4_⟩ hb_ hon hoff
                       refine ⟨_, rfl, fun K hK => ?_⟩
                       have e29 : a.tmps[29]? = some (.string (x4_1 ++ (rdOf ByteArray.empty y153 ((rd_T50 l0 x5_1).f1)))) := by rw [ha]; exact putSel_on (e := (6, 29, .string (x4_1 ++ (rdOf ByteArray.empty y153 ((rd_T50 l0 x5_1).f1))))) 4 rfl rfl (hon 6 (by kernel_rfl)) rfl
                       replace ha := Aside0.mk ha
                       have BK149 := Aside0.mk Q_BK149
                       have BK152 := Aside0.mk Q_BK152
                       have HB := Aside0.mk Q_HB
                       have HO155 := Aside0.mk (Q_HO155 (hon 1 (by kernel_rfl)))
                       have HA_HO155 := Aside0.mk (Q_HA_HO155 (hon 1 (by kernel_rfl)))
                       refine value_ (w1 := w') (v := .string ((x4_1 ++ (rdOf ByteArray.empty y153 ((rd_T50 l0 x5_1).f1))) ++ (⟨#[32]⟩ : ByteArray))) (by rfl) rfl ?_ ?_
                       ·
                        go_simp
                        (try simp only [i64_w])
                        try rfl
                       refine hK.out _ _ ⟨v154, adz_v154, m4_, (by rw [ha.out]; exact putSel_upk 5 hb_ rfl rfl rfl), Q_BK149, Q_BK152, Q_HB, Q_HO155, Q_HA_HO155, Q_X4_⟩
                      refine steps_cons ?_ ?_
                      ·
                       rintro b a w' ⟨v154, adz_v154, m4_, ha, Q_BK149, Q_BK152, Q_HB, Q_HO155, Q_HA_HO155, Q_X4_⟩ hb_ hon hoff
                       refine ⟨_, rfl, fun K hK => ?_⟩
                       have e32 : a.tmps[32]? = some (.pointer (some ⟨gb152, 0, none⟩)) := by rw [ha]; exact (putSel_off rfl).trans rfl
                       replace ha := Aside0.mk ha
                       have BK149 := Aside0.mk Q_BK149
                       have BK152 := Aside0.mk Q_BK152
                       have HB := Aside0.mk Q_HB
                       have hc0_ : w'.cell? ⟨gb152, 0, none⟩ = some (.int .i64 ((rd_T50 l0 x5_1).f0.f0.f0)) := (blk_cell BK152.out 0).trans rfl
                       have hc1_ : w'.cell? ⟨gb152, 1, none⟩ = some (.int .i64 ((rd_T50 l0 x5_1).f0.f0.f1)) := (blk_cell BK152.out 1).trans rfl
                       have hc2_ : w'.cell? ⟨gb152, 2, none⟩ = some (.int .i64 ((rd_T50 l0 x5_1).f0.f1.f0)) := (blk_cell BK152.out 2).trans rfl
                       have hc3_ : w'.cell? ⟨gb152, 3, none⟩ = some (.int .i64 ((rd_T50 l0 x5_1).f0.f1.f1)) := (blk_cell BK152.out 3).trans rfl
                       have hc4_ : w'.cell? ⟨gb152, 4, none⟩ = some (.int .i64 ((rd_T50 l0 x5_1).f0.f2.f0)) := (blk_cell BK152.out 4).trans rfl
                       have hc5_ : w'.cell? ⟨gb152, 5, none⟩ = some (.int .i64 ((rd_T50 l0 x5_1).f0.f2.f1)) := (blk_cell BK152.out 5).trans rfl
                       have hc6_ : w'.cell? ⟨gb152, 6, none⟩ = some (.int .i64 ((rd_T50 l0 x5_1).f0.f3.f0)) := (blk_cell BK152.out 6).trans rfl
                       have hc7_ : w'.cell? ⟨gb152, 7, none⟩ = some (.int .i64 ((rd_T50 l0 x5_1).f0.f3.f1)) := (blk_cell BK152.out 7).trans rfl
                       have hc8_ : w'.cell? ⟨gb152, 8, none⟩ = some (.int .i64 ((rd_T50 l0 x5_1).f0.f4)) := (blk_cell BK152.out 8).trans rfl
                       have hc9_ : w'.cell? ⟨gb152, 9, none⟩ = some (.int .i64 ((rd_T50 l0 x5_1).f1)) := (blk_cell BK152.out 9).trans rfl
                       have hc10_ : w'.cell? ⟨gb152, 10, none⟩ = some (.int .i64 ((rd_T50 l0 x5_1).f2)) := (blk_cell BK152.out 10).trans rfl
                       refine value_ (w1 := w') (v := .agg #[.int .i64 ((rd_T50 l0 x5_1).f0.f0.f0), .int .i64 ((rd_T50 l0 x5_1).f0.f0.f1)]) (by rfl) rfl ?_ ?_
                       ·
                        go_simp
                        (try simp only [i64_w])
                        try rfl
                       refine hK.out _ _ ⟨v154, adz_v154, m4_, (by rw [ha.out]; exact putSel_upk 6 hb_ rfl rfl rfl), Q_BK149, Q_BK152, Q_HB, Q_HO155, Q_HA_HO155, Q_X4_⟩
                      refine steps_cons ?_ ?_
                      ·
                       rintro b a w' ⟨v154, adz_v154, m4_, ha, Q_BK149, Q_BK152, Q_HB, Q_HO155, Q_HA_HO155, Q_X4_⟩ hb_ hon hoff
                       refine ⟨_, rfl, fun K hK => ?_⟩
                       have e33 : a.tmps[33]? = some (.agg #[.int .i64 ((rd_T50 l0 x5_1).f0.f0.f0), .int .i64 ((rd_T50 l0 x5_1).f0.f0.f1)]) := by rw [ha]; exact putSel_on (e := (10, 33, .agg #[.int .i64 ((rd_T50 l0 x5_1).f0.f0.f0), .int .i64 ((rd_T50 l0 x5_1).f0.f0.f1)])) 6 rfl rfl (hon 10 (by kernel_rfl)) rfl
                       replace ha := Aside0.mk ha
                       have BK149 := Aside0.mk Q_BK149
                       have BK152 := Aside0.mk Q_BK152
                       have HB := Aside0.mk Q_HB
                       refine goes_ Tryd.func25 (by kernel_rfl) rfl #[.agg #[.int .i64 ((rd_T50 l0 x5_1).f0.f0.f0), .int .i64 ((rd_T50 l0 x5_1).f0.f0.f1)]] (by rfl) rfl rfl (by first | (simp only [List.map_toArray, List.map_cons, List.map_nil, Act.eval, Array.getD_eq_getD_getElem?, Option.getD_some, e33]; done) | (simp only [List.map_toArray, List.map_cons, List.map_nil, Act.eval, Array.getD_eq_getD_getElem?, Option.getD_some, e33]; rfl)) ?_
                       with_reducible refine (spec_l4Ends.calls k1 ((rd_T50 l0 x5_1).f0.f0.f0) ((rd_T50 l0 x5_1).f0.f0.f1) t157 _ A12.out).mono ?_
                       rintro e w54 ⟨rfl, hb⟩
                       refine ⟨_, rfl, ?_⟩
                       have n0_ := Aside0.mk (blk_below (g := gb149) (o := .cells #[.int .i64 0, .string (⟨#[]⟩ : ByteArray)] 23 (0, 0)) (by (with_reducible repeat (first | refine blk_drewN ?_ _ | refine blk_drew ?_ | refine blk_alloc ?_ _)); exact BK149.out) hb)
                       have n1_ := Aside0.mk (blk_below_u BK152.out hb)
                       have n2_ := Aside0.mk (below_step (by repeat (first | (with_reducible first | exact HB.out | apply below_alloc | apply pw_below_drewN | apply below_drew1 | refine below_set ?_ GE149.out | refine below_set ?_ GE152.out) | exact HB.out)) hb)
                       have z_HO155 := fun (h0_ : b 1 = true) => (show Kd.R Kd.string 9 w54 w.heap.size (fun _ => True) v154 y153 from by first | exact (Kd.R_below (by (with_reducible repeat (first | apply Kd.R_alloc | apply Kd.R_drewN | apply Kd.R_drew)); exact (Q_HO155 h0_)) hb) | exact Kd.R_mono (Kd.R_below (by (with_reducible repeat (first | apply Kd.R_alloc | apply Kd.R_drewN | apply Kd.R_drew)); exact (Q_HO155 h0_)) hb) (fun _ h_ => by first | trivial | exact h_ | exact h_.1))
                       clear BK149
                       clear BK152
                       clear HB
                       have BK149 := n0_
                       have BK152 := n1_
                       have HB := n2_
                       clear n0_ n1_ n2_
                       (try clear hb)
                       (try clear hb2)
                       (try clear hk)
                       (try clear hi)
                       refine hK.out _ _ ⟨v154, adz_v154, m4_, (by rw [ha.out]; exact putSel_upk 7 hb_ rfl rfl rfl), (by (with_reducible repeat (first | refine blk_drewN ?_ _ | refine blk_drew ?_ | refine blk_alloc ?_ _)); exact BK149.out), (by (with_reducible repeat (first | refine blk_drewN ?_ _ | refine blk_drew ?_ | refine blk_alloc ?_ _)); exact BK152.out), (by repeat (first | (with_reducible first | exact HB.out | apply below_alloc | apply pw_below_drewN | apply below_drew1 | refine below_set ?_ GE149.out | refine below_set ?_ GE152.out) | exact HB.out)), z_HO155, Q_HA_HO155, Q_X4_⟩
                      refine steps_cons ?_ ?_
                      ·
                       rintro b a w' ⟨v154, adz_v154, m4_, ha, Q_BK149, Q_BK152, Q_HB, Q_HO155, Q_HA_HO155, Q_X4_⟩ hb_ hon hoff
                       refine ⟨_, rfl, fun K hK => ?_⟩
                       have e30 : a.tmps[30]? = some (.string ((x4_1 ++ (rdOf ByteArray.empty y153 ((rd_T50 l0 x5_1).f1))) ++ (⟨#[32]⟩ : ByteArray))) := by rw [ha]; exact putSel_on (e := (7, 30, .string ((x4_1 ++ (rdOf ByteArray.empty y153 ((rd_T50 l0 x5_1).f1))) ++ (⟨#[32]⟩ : ByteArray)))) 5 rfl rfl (hon 7 (by kernel_rfl)) rfl
                       have e34 : a.tmps[34]? = some (.string t157) := by rw [ha]; exact putSel_on (e := (11, 34, .string t157)) 7 rfl rfl (hon 11 (by kernel_rfl)) rfl
                       replace ha := Aside0.mk ha
                       have BK149 := Aside0.mk Q_BK149
                       have BK152 := Aside0.mk Q_BK152
                       have HB := Aside0.mk Q_HB
                       have HO155 := Aside0.mk (Q_HO155 (hon 1 (by kernel_rfl)))
                       have HA_HO155 := Aside0.mk (Q_HA_HO155 (hon 1 (by kernel_rfl)))
                       refine value_ (w1 := w') (v := .string (((x4_1 ++ (rdOf ByteArray.empty y153 ((rd_T50 l0 x5_1).f1))) ++ (⟨#[32]⟩ : ByteArray)) ++ t157)) (by rfl) rfl ?_ ?_
                       ·
                        go_simp
                        (try simp only [i64_w])
                        try rfl
                       refine hK.out _ _ ⟨v154, adz_v154, m4_, (by rw [ha.out]; exact putSel_upk 8 hb_ rfl rfl rfl), Q_BK149, Q_BK152, Q_HB, Q_HO155, Q_HA_HO155, Q_X4_⟩
                      refine steps_cons ?_ ?_
                      ·
                       rintro b a w' ⟨v154, adz_v154, m4_, ha, Q_BK149, Q_BK152, Q_HB, Q_HO155, Q_HA_HO155, Q_X4_⟩ hb_ hon hoff
                       refine ⟨_, rfl, fun K hK => ?_⟩
                       have e35 : a.tmps[35]? = some (.string (((x4_1 ++ (rdOf ByteArray.empty y153 ((rd_T50 l0 x5_1).f1))) ++ (⟨#[32]⟩ : ByteArray)) ++ t157)) := by rw [ha]; exact putSel_on (e := (12, 35, .string (((x4_1 ++ (rdOf ByteArray.empty y153 ((rd_T50 l0 x5_1).f1))) ++ (⟨#[32]⟩ : ByteArray)) ++ t157))) 8 rfl rfl (hon 12 (by kernel_rfl)) rfl
                       replace ha := Aside0.mk ha
                       have BK149 := Aside0.mk Q_BK149
                       have BK152 := Aside0.mk Q_BK152
                       have HB := Aside0.mk Q_HB
                       have HO155 := Aside0.mk (Q_HO155 (hon 1 (by kernel_rfl)))
                       have HA_HO155 := Aside0.mk (Q_HA_HO155 (hon 1 (by kernel_rfl)))
                       refine value_ (w1 := w') (v := .string ((((x4_1 ++ (rdOf ByteArray.empty y153 ((rd_T50 l0 x5_1).f1))) ++ (⟨#[32]⟩ : ByteArray)) ++ t157) ++ (⟨#[32]⟩ : ByteArray))) (by rfl) rfl ?_ ?_
                       ·
                        go_simp
                        (try simp only [i64_w])
                        try rfl
                       refine hK.out _ _ ⟨v154, adz_v154, m4_, (by rw [ha.out]; exact putSel_upk 9 hb_ rfl rfl rfl), Q_BK149, Q_BK152, Q_HB, Q_HO155, Q_HA_HO155, Q_X4_⟩
                      refine steps_cons ?_ ?_
                      ·
                       rintro b a w' ⟨v154, adz_v154, m4_, ha, Q_BK149, Q_BK152, Q_HB, Q_HO155, Q_HA_HO155, Q_X4_⟩ hb_ hon hoff
                       refine ⟨_, rfl, fun K hK => ?_⟩
                       have e38 : a.tmps[38]? = some (.pointer (some ⟨gb152, 2, none⟩)) := by rw [ha]; exact (putSel_off rfl).trans rfl
                       replace ha := Aside0.mk ha
                       have BK149 := Aside0.mk Q_BK149
                       have BK152 := Aside0.mk Q_BK152
                       have HB := Aside0.mk Q_HB
                       have hc0_ : w'.cell? ⟨gb152, 0, none⟩ = some (.int .i64 ((rd_T50 l0 x5_1).f0.f0.f0)) := (blk_cell BK152.out 0).trans rfl
                       have hc1_ : w'.cell? ⟨gb152, 1, none⟩ = some (.int .i64 ((rd_T50 l0 x5_1).f0.f0.f1)) := (blk_cell BK152.out 1).trans rfl
                       have hc2_ : w'.cell? ⟨gb152, 2, none⟩ = some (.int .i64 ((rd_T50 l0 x5_1).f0.f1.f0)) := (blk_cell BK152.out 2).trans rfl
                       have hc3_ : w'.cell? ⟨gb152, 3, none⟩ = some (.int .i64 ((rd_T50 l0 x5_1).f0.f1.f1)) := (blk_cell BK152.out 3).trans rfl
                       have hc4_ : w'.cell? ⟨gb152, 4, none⟩ = some (.int .i64 ((rd_T50 l0 x5_1).f0.f2.f0)) := (blk_cell BK152.out 4).trans rfl
                       have hc5_ : w'.cell? ⟨gb152, 5, none⟩ = some (.int .i64 ((rd_T50 l0 x5_1).f0.f2.f1)) := (blk_cell BK152.out 5).trans rfl
                       have hc6_ : w'.cell? ⟨gb152, 6, none⟩ = some (.int .i64 ((rd_T50 l0 x5_1).f0.f3.f0)) := (blk_cell BK152.out 6).trans rfl
                       have hc7_ : w'.cell? ⟨gb152, 7, none⟩ = some (.int .i64 ((rd_T50 l0 x5_1).f0.f3.f1)) := (blk_cell BK152.out 7).trans rfl
                       have hc8_ : w'.cell? ⟨gb152, 8, none⟩ = some (.int .i64 ((rd_T50 l0 x5_1).f0.f4)) := (blk_cell BK152.out 8).trans rfl
                       have hc9_ : w'.cell? ⟨gb152, 9, none⟩ = some (.int .i64 ((rd_T50 l0 x5_1).f1)) := (blk_cell BK152.out 9).trans rfl
                       have hc10_ : w'.cell? ⟨gb152, 10, none⟩ = some (.int .i64 ((rd_T50 l0 x5_1).f2)) := (blk_cell BK152.out 10).trans rfl
                       refine value_ (w1 := w') (v := .agg #[.int .i64 ((rd_T50 l0 x5_1).f0.f1.f0), .int .i64 ((rd_T50 l0 x5_1).f0.f1.f1)]) (by rfl) rfl ?_ ?_
                       ·
                        go_simp
                        (try simp only [i64_w])
                        try rfl
                       refine hK.out _ _ ⟨v154, adz_v154, m4_, (by rw [ha.out]; exact putSel_upk 10 hb_ rfl rfl rfl), Q_BK149, Q_BK152, Q_HB, Q_HO155, Q_HA_HO155, Q_X4_⟩
                      refine steps_cons ?_ ?_
                      ·
                       rintro b a w' ⟨v154, adz_v154, m4_, ha, Q_BK149, Q_BK152, Q_HB, Q_HO155, Q_HA_HO155, Q_X4_⟩ hb_ hon hoff
                       refine ⟨_, rfl, fun K hK => ?_⟩
                       have e39 : a.tmps[39]? = some (.agg #[.int .i64 ((rd_T50 l0 x5_1).f0.f1.f0), .int .i64 ((rd_T50 l0 x5_1).f0.f1.f1)]) := by rw [ha]; exact putSel_on (e := (16, 39, .agg #[.int .i64 ((rd_T50 l0 x5_1).f0.f1.f0), .int .i64 ((rd_T50 l0 x5_1).f0.f1.f1)])) 10 rfl rfl (hon 16 (by kernel_rfl)) rfl
                       replace ha := Aside0.mk ha
                       have BK149 := Aside0.mk Q_BK149
                       have BK152 := Aside0.mk Q_BK152
                       have HB := Aside0.mk Q_HB
                       refine goes_ Tryd.func25 (by kernel_rfl) rfl #[.agg #[.int .i64 ((rd_T50 l0 x5_1).f0.f1.f0), .int .i64 ((rd_T50 l0 x5_1).f0.f1.f1)]] (by rfl) rfl rfl (by first | (simp only [List.map_toArray, List.map_cons, List.map_nil, Act.eval, Array.getD_eq_getD_getElem?, Option.getD_some, e39]; done) | (simp only [List.map_toArray, List.map_cons, List.map_nil, Act.eval, Array.getD_eq_getD_getElem?, Option.getD_some, e39]; rfl)) ?_
                       with_reducible refine (spec_l4Ends.calls k1 ((rd_T50 l0 x5_1).f0.f1.f0) ((rd_T50 l0 x5_1).f0.f1.f1) t158 _ A15.out).mono ?_
                       rintro e w56 ⟨rfl, hb⟩
                       refine ⟨_, rfl, ?_⟩
                       have n0_ := Aside0.mk (blk_below (g := gb149) (o := .cells #[.int .i64 0, .string (⟨#[]⟩ : ByteArray)] 23 (0, 0)) (by (with_reducible repeat (first | refine blk_drewN ?_ _ | refine blk_drew ?_ | refine blk_alloc ?_ _)); exact BK149.out) hb)
                       have n1_ := Aside0.mk (blk_below_u BK152.out hb)
                       have n2_ := Aside0.mk (below_step (by repeat (first | (with_reducible first | exact HB.out | apply below_alloc | apply pw_below_drewN | apply below_drew1 | refine below_set ?_ GE149.out | refine below_set ?_ GE152.out) | exact HB.out)) hb)
                       have z_HO155 := fun (h0_ : b 1 = true) => (show Kd.R Kd.string 9 w56 w.heap.size (fun _ => True) v154 y153 from by first | exact (Kd.R_below (by (with_reducible repeat (first | apply Kd.R_alloc | apply Kd.R_drewN | apply Kd.R_drew)); exact (Q_HO155 h0_)) hb) | exact Kd.R_mono (Kd.R_below (by (with_reducible repeat (first | apply Kd.R_alloc | apply Kd.R_drewN | apply Kd.R_drew)); exact (Q_HO155 h0_)) hb) (fun _ h_ => by first | trivial | exact h_ | exact h_.1))
                       clear BK149
                       clear BK152
                       clear HB
                       have BK149 := n0_
                       have BK152 := n1_
                       have HB := n2_
                       clear n0_ n1_ n2_
                       (try clear hb)
                       (try clear hb2)
                       (try clear hk)
                       (try clear hi)
                       refine hK.out _ _ ⟨v154, adz_v154, m4_, (by rw [ha.out]; exact putSel_upk 11 hb_ rfl rfl rfl), (by (with_reducible repeat (first | refine blk_drewN ?_ _ | refine blk_drew ?_ | refine blk_alloc ?_ _)); exact BK149.out), (by (with_reducible repeat (first | refine blk_drewN ?_ _ | refine blk_drew ?_ | refine blk_alloc ?_ _)); exact BK152.out), (by repeat (first | (with_reducible first | exact HB.out | apply below_alloc | apply pw_below_drewN | apply below_drew1 | refine below_set ?_ GE149.out | refine below_set ?_ GE152.out) | exact HB.out)), z_HO155, Q_HA_HO155, Q_X4_⟩
                      refine steps_cons ?_ ?_
                      ·
                       rintro b a w' ⟨v154, adz_v154, m4_, ha, Q_BK149, Q_BK152, Q_HB, Q_HO155, Q_HA_HO155, Q_X4_⟩ hb_ hon hoff
                       refine ⟨_, rfl, fun K hK => ?_⟩
                       have e36 : a.tmps[36]? = some (.string ((((x4_1 ++ (rdOf ByteArray.empty y153 ((rd_T50 l0 x5_1).f1))) ++ (⟨#[32]⟩ : ByteArray)) ++ t157) ++ (⟨#[32]⟩ : ByteArray))) := by rw [ha]; exact putSel_on (e := (13, 36, .string ((((x4_1 ++ (rdOf ByteArray.empty y153 ((rd_T50 l0 x5_1).f1))) ++ (⟨#[32]⟩ : ByteArray)) ++ t157) ++ (⟨#[32]⟩ : ByteArray)))) 9 rfl rfl (hon 13 (by kernel_rfl)) rfl
                       have e40 : a.tmps[40]? = some (.string t158) := by rw [ha]; exact putSel_on (e := (17, 40, .string t158)) 11 rfl rfl (hon 17 (by kernel_rfl)) rfl
                       replace ha := Aside0.mk ha
                       have BK149 := Aside0.mk Q_BK149
                       have BK152 := Aside0.mk Q_BK152
                       have HB := Aside0.mk Q_HB
                       have HO155 := Aside0.mk (Q_HO155 (hon 1 (by kernel_rfl)))
                       have HA_HO155 := Aside0.mk (Q_HA_HO155 (hon 1 (by kernel_rfl)))
                       refine value_ (w1 := w') (v := .string (((((x4_1 ++ (rdOf ByteArray.empty y153 ((rd_T50 l0 x5_1).f1))) ++ (⟨#[32]⟩ : ByteArray)) ++ t157) ++ (⟨#[32]⟩ : ByteArray)) ++ t158)) (by rfl) rfl ?_ ?_
                       ·
                        go_simp
                        (try simp only [i64_w])
                        try rfl
                       refine hK.out _ _ ⟨v154, adz_v154, m4_, (by rw [ha.out]; exact putSel_upk 12 hb_ rfl rfl rfl), Q_BK149, Q_BK152, Q_HB, Q_HO155, Q_HA_HO155, Q_X4_⟩
                      refine steps_cons ?_ ?_
                      ·
                       rintro b a w' ⟨v154, adz_v154, m4_, ha, Q_BK149, Q_BK152, Q_HB, Q_HO155, Q_HA_HO155, Q_X4_⟩ hb_ hon hoff
                       refine ⟨_, rfl, fun K hK => ?_⟩
                       have e41 : a.tmps[41]? = some (.string (((((x4_1 ++ (rdOf ByteArray.empty y153 ((rd_T50 l0 x5_1).f1))) ++ (⟨#[32]⟩ : ByteArray)) ++ t157) ++ (⟨#[32]⟩ : ByteArray)) ++ t158)) := by rw [ha]; exact putSel_on (e := (18, 41, .string (((((x4_1 ++ (rdOf ByteArray.empty y153 ((rd_T50 l0 x5_1).f1))) ++ (⟨#[32]⟩ : ByteArray)) ++ t157) ++ (⟨#[32]⟩ : ByteArray)) ++ t158))) 12 rfl rfl (hon 18 (by kernel_rfl)) rfl
                       replace ha := Aside0.mk ha
                       have BK149 := Aside0.mk Q_BK149
                       have BK152 := Aside0.mk Q_BK152
                       have HB := Aside0.mk Q_HB
                       have HO155 := Aside0.mk (Q_HO155 (hon 1 (by kernel_rfl)))
                       have HA_HO155 := Aside0.mk (Q_HA_HO155 (hon 1 (by kernel_rfl)))
                       refine value_ (w1 := w') (v := .string ((((((x4_1 ++ (rdOf ByteArray.empty y153 ((rd_T50 l0 x5_1).f1))) ++ (⟨#[32]⟩ : ByteArray)) ++ t157) ++ (⟨#[32]⟩ : ByteArray)) ++ t158) ++ (⟨#[32]⟩ : ByteArray))) (by rfl) rfl ?_ ?_
                       ·
                        go_simp
                        (try simp only [i64_w])
                        try rfl
                       refine hK.out _ _ ⟨v154, adz_v154, m4_, (by rw [ha.out]; exact putSel_upk 13 hb_ rfl rfl rfl), Q_BK149, Q_BK152, Q_HB, Q_HO155, Q_HA_HO155, Q_X4_⟩
                      refine steps_cons ?_ ?_
                      ·
                       rintro b a w' ⟨v154, adz_v154, m4_, ha, Q_BK149, Q_BK152, Q_HB, Q_HO155, Q_HA_HO155, Q_X4_⟩ hb_ hon hoff
                       refine ⟨_, rfl, fun K hK => ?_⟩
                       have e44 : a.tmps[44]? = some (.pointer (some ⟨gb152, 8, none⟩)) := by rw [ha]; exact (putSel_off rfl).trans rfl
                       replace ha := Aside0.mk ha
                       have BK149 := Aside0.mk Q_BK149
                       have BK152 := Aside0.mk Q_BK152
                       have HB := Aside0.mk Q_HB
                       have hc0_ : w'.cell? ⟨gb152, 0, none⟩ = some (.int .i64 ((rd_T50 l0 x5_1).f0.f0.f0)) := (blk_cell BK152.out 0).trans rfl
                       have hc1_ : w'.cell? ⟨gb152, 1, none⟩ = some (.int .i64 ((rd_T50 l0 x5_1).f0.f0.f1)) := (blk_cell BK152.out 1).trans rfl
                       have hc2_ : w'.cell? ⟨gb152, 2, none⟩ = some (.int .i64 ((rd_T50 l0 x5_1).f0.f1.f0)) := (blk_cell BK152.out 2).trans rfl
                       have hc3_ : w'.cell? ⟨gb152, 3, none⟩ = some (.int .i64 ((rd_T50 l0 x5_1).f0.f1.f1)) := (blk_cell BK152.out 3).trans rfl
                       have hc4_ : w'.cell? ⟨gb152, 4, none⟩ = some (.int .i64 ((rd_T50 l0 x5_1).f0.f2.f0)) := (blk_cell BK152.out 4).trans rfl
                       have hc5_ : w'.cell? ⟨gb152, 5, none⟩ = some (.int .i64 ((rd_T50 l0 x5_1).f0.f2.f1)) := (blk_cell BK152.out 5).trans rfl
                       have hc6_ : w'.cell? ⟨gb152, 6, none⟩ = some (.int .i64 ((rd_T50 l0 x5_1).f0.f3.f0)) := (blk_cell BK152.out 6).trans rfl
                       have hc7_ : w'.cell? ⟨gb152, 7, none⟩ = some (.int .i64 ((rd_T50 l0 x5_1).f0.f3.f1)) := (blk_cell BK152.out 7).trans rfl
                       have hc8_ : w'.cell? ⟨gb152, 8, none⟩ = some (.int .i64 ((rd_T50 l0 x5_1).f0.f4)) := (blk_cell BK152.out 8).trans rfl
                       have hc9_ : w'.cell? ⟨gb152, 9, none⟩ = some (.int .i64 ((rd_T50 l0 x5_1).f1)) := (blk_cell BK152.out 9).trans rfl
                       have hc10_ : w'.cell? ⟨gb152, 10, none⟩ = some (.int .i64 ((rd_T50 l0 x5_1).f2)) := (blk_cell BK152.out 10).trans rfl
                       refine value_ (w1 := w') (v := .int .i64 ((rd_T50 l0 x5_1).f0.f4)) (by rfl) rfl ?_ ?_
                       ·
                        go_simp
                        (try simp only [i64_w])
                        try rfl
                       refine hK.out _ _ ⟨v154, adz_v154, m4_, (by rw [ha.out]; exact putSel_upk 14 hb_ rfl rfl rfl), Q_BK149, Q_BK152, Q_HB, Q_HO155, Q_HA_HO155, Q_X4_⟩
                      refine steps_cons ?_ ?_
                      ·
                       rintro b a w' ⟨v154, adz_v154, m4_, ha, Q_BK149, Q_BK152, Q_HB, Q_HO155, Q_HA_HO155, Q_X4_⟩ hb_ hon hoff
                       refine ⟨_, rfl, fun K hK => ?_⟩
                       have e45 : a.tmps[45]? = some (.int .i64 ((rd_T50 l0 x5_1).f0.f4)) := by rw [ha]; exact putSel_on (e := (22, 45, .int .i64 ((rd_T50 l0 x5_1).f0.f4))) 14 rfl rfl (hon 22 (by kernel_rfl)) rfl
                       replace ha := Aside0.mk ha
                       have BK149 := Aside0.mk Q_BK149
                       have BK152 := Aside0.mk Q_BK152
                       have HB := Aside0.mk Q_HB
                       refine goes_ Tryd.func21 (by kernel_rfl) rfl #[.int .i64 ((rd_T50 l0 x5_1).f0.f4)] (by rfl) rfl rfl (by first | (simp only [List.map_toArray, List.map_cons, List.map_nil, Act.eval, Array.getD_eq_getD_getElem?, Option.getD_some, e45]; done) | (simp only [List.map_toArray, List.map_cons, List.map_nil, Act.eval, Array.getD_eq_getD_getElem?, Option.getD_some, e45]; rfl)) ?_
                       with_reducible refine (spec_l2Digits.calls k1 ((rd_T50 l0 x5_1).f0.f4) t159 _ A18.out).mono ?_
                       rintro e w57 ⟨rfl, hb⟩
                       refine ⟨_, rfl, ?_⟩
                       have n0_ := Aside0.mk (blk_below (g := gb149) (o := .cells #[.int .i64 0, .string (⟨#[]⟩ : ByteArray)] 23 (0, 0)) (by (with_reducible repeat (first | refine blk_drewN ?_ _ | refine blk_drew ?_ | refine blk_alloc ?_ _)); exact BK149.out) hb)
                       have n1_ := Aside0.mk (blk_below_u BK152.out hb)
                       have n2_ := Aside0.mk (below_step (by repeat (first | (with_reducible first | exact HB.out | apply below_alloc | apply pw_below_drewN | apply below_drew1 | refine below_set ?_ GE149.out | refine below_set ?_ GE152.out) | exact HB.out)) hb)
                       have z_HO155 := fun (h0_ : b 1 = true) => (show Kd.R Kd.string 9 w57 w.heap.size (fun _ => True) v154 y153 from by first | exact (Kd.R_below (by (with_reducible repeat (first | apply Kd.R_alloc | apply Kd.R_drewN | apply Kd.R_drew)); exact (Q_HO155 h0_)) hb) | exact Kd.R_mono (Kd.R_below (by (with_reducible repeat (first | apply Kd.R_alloc | apply Kd.R_drewN | apply Kd.R_drew)); exact (Q_HO155 h0_)) hb) (fun _ h_ => by first | trivial | exact h_ | exact h_.1))
                       clear BK149
                       clear BK152
                       clear HB
                       have BK149 := n0_
                       have BK152 := n1_
                       have HB := n2_
                       clear n0_ n1_ n2_
                       (try clear hb)
                       (try clear hb2)
                       (try clear hk)
                       (try clear hi)
                       refine hK.out _ _ ⟨v154, adz_v154, m4_, (by rw [ha.out]; exact putSel_upk 15 hb_ rfl rfl rfl), (by (with_reducible repeat (first | refine blk_drewN ?_ _ | refine blk_drew ?_ | refine blk_alloc ?_ _)); exact BK149.out), (by (with_reducible repeat (first | refine blk_drewN ?_ _ | refine blk_drew ?_ | refine blk_alloc ?_ _)); exact BK152.out), (by repeat (first | (with_reducible first | exact HB.out | apply below_alloc | apply pw_below_drewN | apply below_drew1 | refine below_set ?_ GE149.out | refine below_set ?_ GE152.out) | exact HB.out)), z_HO155, Q_HA_HO155, Q_X4_⟩
                      refine steps_cons ?_ ?_
                      ·
                       rintro b a w' ⟨v154, adz_v154, m4_, ha, Q_BK149, Q_BK152, Q_HB, Q_HO155, Q_HA_HO155, Q_X4_⟩ hb_ hon hoff
                       refine ⟨_, rfl, fun K hK => ?_⟩
                       have e42 : a.tmps[42]? = some (.string ((((((x4_1 ++ (rdOf ByteArray.empty y153 ((rd_T50 l0 x5_1).f1))) ++ (⟨#[32]⟩ : ByteArray)) ++ t157) ++ (⟨#[32]⟩ : ByteArray)) ++ t158) ++ (⟨#[32]⟩ : ByteArray))) := by rw [ha]; exact putSel_on (e := (19, 42, .string ((((((x4_1 ++ (rdOf ByteArray.empty y153 ((rd_T50 l0 x5_1).f1))) ++ (⟨#[32]⟩ : ByteArray)) ++ t157) ++ (⟨#[32]⟩ : ByteArray)) ++ t158) ++ (⟨#[32]⟩ : ByteArray)))) 13 rfl rfl (hon 19 (by kernel_rfl)) rfl
                       have e46 : a.tmps[46]? = some (.string t159) := by rw [ha]; exact putSel_on (e := (23, 46, .string t159)) 15 rfl rfl (hon 23 (by kernel_rfl)) rfl
                       replace ha := Aside0.mk ha
                       have BK149 := Aside0.mk Q_BK149
                       have BK152 := Aside0.mk Q_BK152
                       have HB := Aside0.mk Q_HB
                       have HO155 := Aside0.mk (Q_HO155 (hon 1 (by kernel_rfl)))
                       have HA_HO155 := Aside0.mk (Q_HA_HO155 (hon 1 (by kernel_rfl)))
                       refine value_ (w1 := w') (v := .string (((((((x4_1 ++ (rdOf ByteArray.empty y153 ((rd_T50 l0 x5_1).f1))) ++ (⟨#[32]⟩ : ByteArray)) ++ t157) ++ (⟨#[32]⟩ : ByteArray)) ++ t158) ++ (⟨#[32]⟩ : ByteArray)) ++ t159)) (by rfl) rfl ?_ ?_
                       ·
                        go_simp
                        (try simp only [i64_w])
                        try rfl
                       refine hK.out _ _ ⟨v154, adz_v154, m4_, (by rw [ha.out]; exact putSel_upk 16 hb_ rfl rfl rfl), Q_BK149, Q_BK152, Q_HB, Q_HO155, Q_HA_HO155, Q_X4_⟩
                      refine steps_cons ?_ ?_
                      ·
                       rintro b a w' ⟨v154, adz_v154, m4_, ha, Q_BK149, Q_BK152, Q_HB, Q_HO155, Q_HA_HO155, Q_X4_⟩ hb_ hon hoff
                       refine ⟨_, rfl, fun K hK => ?_⟩
                       have e47 : a.tmps[47]? = some (.string (((((((x4_1 ++ (rdOf ByteArray.empty y153 ((rd_T50 l0 x5_1).f1))) ++ (⟨#[32]⟩ : ByteArray)) ++ t157) ++ (⟨#[32]⟩ : ByteArray)) ++ t158) ++ (⟨#[32]⟩ : ByteArray)) ++ t159)) := by rw [ha]; exact putSel_on (e := (24, 47, .string (((((((x4_1 ++ (rdOf ByteArray.empty y153 ((rd_T50 l0 x5_1).f1))) ++ (⟨#[32]⟩ : ByteArray)) ++ t157) ++ (⟨#[32]⟩ : ByteArray)) ++ t158) ++ (⟨#[32]⟩ : ByteArray)) ++ t159))) 16 rfl rfl (hon 24 (by kernel_rfl)) rfl
                       replace ha := Aside0.mk ha
                       have BK149 := Aside0.mk Q_BK149
                       have BK152 := Aside0.mk Q_BK152
                       have HB := Aside0.mk Q_HB
                       have HO155 := Aside0.mk (Q_HO155 (hon 1 (by kernel_rfl)))
                       have HA_HO155 := Aside0.mk (Q_HA_HO155 (hon 1 (by kernel_rfl)))
                       refine value_ (w1 := w') (v := .string ((((((((x4_1 ++ (rdOf ByteArray.empty y153 ((rd_T50 l0 x5_1).f1))) ++ (⟨#[32]⟩ : ByteArray)) ++ t157) ++ (⟨#[32]⟩ : ByteArray)) ++ t158) ++ (⟨#[32]⟩ : ByteArray)) ++ t159) ++ (⟨#[32]⟩ : ByteArray))) (by rfl) rfl ?_ ?_
                       ·
                        go_simp
                        (try simp only [i64_w])
                        try rfl
                       refine hK.out _ _ ⟨v154, adz_v154, m4_, (by rw [ha.out]; exact putSel_upk 17 hb_ rfl rfl rfl), Q_BK149, Q_BK152, Q_HB, Q_HO155, Q_HA_HO155, Q_X4_⟩
                      refine steps_cons ?_ ?_
                      ·
                       rintro b a w' ⟨v154, adz_v154, m4_, ha, Q_BK149, Q_BK152, Q_HB, Q_HO155, Q_HA_HO155, Q_X4_⟩ hb_ hon hoff
                       refine ⟨_, rfl, fun K hK => ?_⟩
                       have e51 : a.tmps[51]? = some (.pointer (some ⟨gb152, 6, none⟩)) := by rw [ha]; exact (putSel_off rfl).trans rfl
                       replace ha := Aside0.mk ha
                       have BK149 := Aside0.mk Q_BK149
                       have BK152 := Aside0.mk Q_BK152
                       have HB := Aside0.mk Q_HB
                       have hc0_ : w'.cell? ⟨gb152, 0, none⟩ = some (.int .i64 ((rd_T50 l0 x5_1).f0.f0.f0)) := (blk_cell BK152.out 0).trans rfl
                       have hc1_ : w'.cell? ⟨gb152, 1, none⟩ = some (.int .i64 ((rd_T50 l0 x5_1).f0.f0.f1)) := (blk_cell BK152.out 1).trans rfl
                       have hc2_ : w'.cell? ⟨gb152, 2, none⟩ = some (.int .i64 ((rd_T50 l0 x5_1).f0.f1.f0)) := (blk_cell BK152.out 2).trans rfl
                       have hc3_ : w'.cell? ⟨gb152, 3, none⟩ = some (.int .i64 ((rd_T50 l0 x5_1).f0.f1.f1)) := (blk_cell BK152.out 3).trans rfl
                       have hc4_ : w'.cell? ⟨gb152, 4, none⟩ = some (.int .i64 ((rd_T50 l0 x5_1).f0.f2.f0)) := (blk_cell BK152.out 4).trans rfl
                       have hc5_ : w'.cell? ⟨gb152, 5, none⟩ = some (.int .i64 ((rd_T50 l0 x5_1).f0.f2.f1)) := (blk_cell BK152.out 5).trans rfl
                       have hc6_ : w'.cell? ⟨gb152, 6, none⟩ = some (.int .i64 ((rd_T50 l0 x5_1).f0.f3.f0)) := (blk_cell BK152.out 6).trans rfl
                       have hc7_ : w'.cell? ⟨gb152, 7, none⟩ = some (.int .i64 ((rd_T50 l0 x5_1).f0.f3.f1)) := (blk_cell BK152.out 7).trans rfl
                       have hc8_ : w'.cell? ⟨gb152, 8, none⟩ = some (.int .i64 ((rd_T50 l0 x5_1).f0.f4)) := (blk_cell BK152.out 8).trans rfl
                       have hc9_ : w'.cell? ⟨gb152, 9, none⟩ = some (.int .i64 ((rd_T50 l0 x5_1).f1)) := (blk_cell BK152.out 9).trans rfl
                       have hc10_ : w'.cell? ⟨gb152, 10, none⟩ = some (.int .i64 ((rd_T50 l0 x5_1).f2)) := (blk_cell BK152.out 10).trans rfl
                       refine value_ (w1 := w') (v := .int .i64 ((rd_T50 l0 x5_1).f0.f3.f0)) (by rfl) rfl ?_ ?_
                       ·
                        go_simp
                        (try simp only [i64_w])
                        try rfl
                       refine hK.out _ _ ⟨v154, adz_v154, m4_, (by rw [ha.out]; exact putSel_upk 18 hb_ rfl rfl rfl), Q_BK149, Q_BK152, Q_HB, Q_HO155, Q_HA_HO155, Q_X4_⟩
                      refine steps_cons ?_ ?_
                      ·
                       rintro b a w' ⟨v154, adz_v154, m4_, ha, Q_BK149, Q_BK152, Q_HB, Q_HO155, Q_HA_HO155, Q_X4_⟩ hb_ hon hoff
                       refine ⟨_, rfl, fun K hK => ?_⟩
                       have e52 : a.tmps[52]? = some (.int .i64 ((rd_T50 l0 x5_1).f0.f3.f0)) := by rw [ha]; exact putSel_on (e := (29, 52, .int .i64 ((rd_T50 l0 x5_1).f0.f3.f0))) 18 rfl rfl (hon 29 (by kernel_rfl)) rfl
                       replace ha := Aside0.mk ha
                       have BK149 := Aside0.mk Q_BK149
                       have BK152 := Aside0.mk Q_BK152
                       have HB := Aside0.mk Q_HB
                       refine goes_ Tryd.func21 (by kernel_rfl) rfl #[.int .i64 ((rd_T50 l0 x5_1).f0.f3.f0)] (by rfl) rfl rfl (by first | (simp only [List.map_toArray, List.map_cons, List.map_nil, Act.eval, Array.getD_eq_getD_getElem?, Option.getD_some, e52]; done) | (simp only [List.map_toArray, List.map_cons, List.map_nil, Act.eval, Array.getD_eq_getD_getElem?, Option.getD_some, e52]; rfl)) ?_
                       with_reducible refine (spec_l2Digits.calls k1 ((rd_T50 l0 x5_1).f0.f3.f0) t160 _ A21.out).mono ?_
                       rintro e w58 ⟨rfl, hb⟩
                       refine ⟨_, rfl, ?_⟩
                       have n0_ := Aside0.mk (blk_below (g := gb149) (o := .cells #[.int .i64 0, .string (⟨#[]⟩ : ByteArray)] 23 (0, 0)) (by (with_reducible repeat (first | refine blk_drewN ?_ _ | refine blk_drew ?_ | refine blk_alloc ?_ _)); exact BK149.out) hb)
                       have n1_ := Aside0.mk (blk_below_u BK152.out hb)
                       have n2_ := Aside0.mk (below_step (by repeat (first | (with_reducible first | exact HB.out | apply below_alloc | apply pw_below_drewN | apply below_drew1 | refine below_set ?_ GE149.out | refine below_set ?_ GE152.out) | exact HB.out)) hb)
                       have z_HO155 := fun (h0_ : b 1 = true) => (show Kd.R Kd.string 9 w58 w.heap.size (fun _ => True) v154 y153 from by first | exact (Kd.R_below (by (with_reducible repeat (first | apply Kd.R_alloc | apply Kd.R_drewN | apply Kd.R_drew)); exact (Q_HO155 h0_)) hb) | exact Kd.R_mono (Kd.R_below (by (with_reducible repeat (first | apply Kd.R_alloc | apply Kd.R_drewN | apply Kd.R_drew)); exact (Q_HO155 h0_)) hb) (fun _ h_ => by first | trivial | exact h_ | exact h_.1))
                       clear BK149
                       clear BK152
                       clear HB
                       have BK149 := n0_
                       have BK152 := n1_
                       have HB := n2_
                       clear n0_ n1_ n2_
                       (try clear hb)
                       (try clear hb2)
                       (try clear hk)
                       (try clear hi)
                       refine hK.out _ _ ⟨v154, adz_v154, m4_, (by rw [ha.out]; exact putSel_upk 19 hb_ rfl rfl rfl), (by (with_reducible repeat (first | refine blk_drewN ?_ _ | refine blk_drew ?_ | refine blk_alloc ?_ _)); exact BK149.out), (by (with_reducible repeat (first | refine blk_drewN ?_ _ | refine blk_drew ?_ | refine blk_alloc ?_ _)); exact BK152.out), (by repeat (first | (with_reducible first | exact HB.out | apply below_alloc | apply pw_below_drewN | apply below_drew1 | refine below_set ?_ GE149.out | refine below_set ?_ GE152.out) | exact HB.out)), z_HO155, Q_HA_HO155, Q_X4_⟩
                      refine steps_cons ?_ ?_
                      ·
                       rintro b a w' ⟨v154, adz_v154, m4_, ha, Q_BK149, Q_BK152, Q_HB, Q_HO155, Q_HA_HO155, Q_X4_⟩ hb_ hon hoff
                       refine ⟨_, rfl, fun K hK => ?_⟩
                       have e48 : a.tmps[48]? = some (.string ((((((((x4_1 ++ (rdOf ByteArray.empty y153 ((rd_T50 l0 x5_1).f1))) ++ (⟨#[32]⟩ : ByteArray)) ++ t157) ++ (⟨#[32]⟩ : ByteArray)) ++ t158) ++ (⟨#[32]⟩ : ByteArray)) ++ t159) ++ (⟨#[32]⟩ : ByteArray))) := by rw [ha]; exact putSel_on (e := (25, 48, .string ((((((((x4_1 ++ (rdOf ByteArray.empty y153 ((rd_T50 l0 x5_1).f1))) ++ (⟨#[32]⟩ : ByteArray)) ++ t157) ++ (⟨#[32]⟩ : ByteArray)) ++ t158) ++ (⟨#[32]⟩ : ByteArray)) ++ t159) ++ (⟨#[32]⟩ : ByteArray)))) 17 rfl rfl (hon 25 (by kernel_rfl)) rfl
                       have e53 : a.tmps[53]? = some (.string t160) := by rw [ha]; exact putSel_on (e := (30, 53, .string t160)) 19 rfl rfl (hon 30 (by kernel_rfl)) rfl
                       replace ha := Aside0.mk ha
                       have BK149 := Aside0.mk Q_BK149
                       have BK152 := Aside0.mk Q_BK152
                       have HB := Aside0.mk Q_HB
                       have HO155 := Aside0.mk (Q_HO155 (hon 1 (by kernel_rfl)))
                       have HA_HO155 := Aside0.mk (Q_HA_HO155 (hon 1 (by kernel_rfl)))
                       refine value_ (w1 := w') (v := .string (((((((((x4_1 ++ (rdOf ByteArray.empty y153 ((rd_T50 l0 x5_1).f1))) ++ (⟨#[32]⟩ : ByteArray)) ++ t157) ++ (⟨#[32]⟩ : ByteArray)) ++ t158) ++ (⟨#[32]⟩ : ByteArray)) ++ t159) ++ (⟨#[32]⟩ : ByteArray)) ++ t160)) (by rfl) rfl ?_ ?_
                       ·
                        go_simp
                        (try simp only [i64_w])
                        try rfl
                       refine hK.out _ _ ⟨v154, adz_v154, m4_, (by rw [ha.out]; exact putSel_upk 20 hb_ rfl rfl rfl), Q_BK149, Q_BK152, Q_HB, Q_HO155, Q_HA_HO155, Q_X4_⟩
                      refine steps_cons ?_ ?_
                      ·
                       rintro b a w' ⟨v154, adz_v154, m4_, ha, Q_BK149, Q_BK152, Q_HB, Q_HO155, Q_HA_HO155, Q_X4_⟩ hb_ hon hoff
                       refine ⟨_, rfl, fun K hK => ?_⟩
                       have e54 : a.tmps[54]? = some (.string (((((((((x4_1 ++ (rdOf ByteArray.empty y153 ((rd_T50 l0 x5_1).f1))) ++ (⟨#[32]⟩ : ByteArray)) ++ t157) ++ (⟨#[32]⟩ : ByteArray)) ++ t158) ++ (⟨#[32]⟩ : ByteArray)) ++ t159) ++ (⟨#[32]⟩ : ByteArray)) ++ t160)) := by rw [ha]; exact putSel_on (e := (31, 54, .string (((((((((x4_1 ++ (rdOf ByteArray.empty y153 ((rd_T50 l0 x5_1).f1))) ++ (⟨#[32]⟩ : ByteArray)) ++ t157) ++ (⟨#[32]⟩ : ByteArray)) ++ t158) ++ (⟨#[32]⟩ : ByteArray)) ++ t159) ++ (⟨#[32]⟩ : ByteArray)) ++ t160))) 20 rfl rfl (hon 31 (by kernel_rfl)) rfl
                       replace ha := Aside0.mk ha
                       have BK149 := Aside0.mk Q_BK149
                       have BK152 := Aside0.mk Q_BK152
                       have HB := Aside0.mk Q_HB
                       have HO155 := Aside0.mk (Q_HO155 (hon 1 (by kernel_rfl)))
                       have HA_HO155 := Aside0.mk (Q_HA_HO155 (hon 1 (by kernel_rfl)))
                       refine value_ (w1 := w') (v := .string ((((((((((x4_1 ++ (rdOf ByteArray.empty y153 ((rd_T50 l0 x5_1).f1))) ++ (⟨#[32]⟩ : ByteArray)) ++ t157) ++ (⟨#[32]⟩ : ByteArray)) ++ t158) ++ (⟨#[32]⟩ : ByteArray)) ++ t159) ++ (⟨#[32]⟩ : ByteArray)) ++ t160) ++ (⟨#[45]⟩ : ByteArray))) (by rfl) rfl ?_ ?_
                       ·
                        go_simp
                        (try simp only [i64_w])
                        try rfl
                       refine hK.out _ _ ⟨v154, adz_v154, m4_, (by rw [ha.out]; exact putSel_upk 21 hb_ rfl rfl rfl), Q_BK149, Q_BK152, Q_HB, Q_HO155, Q_HA_HO155, Q_X4_⟩
                      refine steps_cons ?_ ?_
                      ·
                       rintro b a w' ⟨v154, adz_v154, m4_, ha, Q_BK149, Q_BK152, Q_HB, Q_HO155, Q_HA_HO155, Q_X4_⟩ hb_ hon hoff
                       refine ⟨_, rfl, fun K hK => ?_⟩
                       have e58 : a.tmps[58]? = some (.pointer (some ⟨gb152, 7, none⟩)) := by rw [ha]; exact (putSel_off rfl).trans rfl
                       replace ha := Aside0.mk ha
                       have BK149 := Aside0.mk Q_BK149
                       have BK152 := Aside0.mk Q_BK152
                       have HB := Aside0.mk Q_HB
                       have hc0_ : w'.cell? ⟨gb152, 0, none⟩ = some (.int .i64 ((rd_T50 l0 x5_1).f0.f0.f0)) := (blk_cell BK152.out 0).trans rfl
                       have hc1_ : w'.cell? ⟨gb152, 1, none⟩ = some (.int .i64 ((rd_T50 l0 x5_1).f0.f0.f1)) := (blk_cell BK152.out 1).trans rfl
                       have hc2_ : w'.cell? ⟨gb152, 2, none⟩ = some (.int .i64 ((rd_T50 l0 x5_1).f0.f1.f0)) := (blk_cell BK152.out 2).trans rfl
                       have hc3_ : w'.cell? ⟨gb152, 3, none⟩ = some (.int .i64 ((rd_T50 l0 x5_1).f0.f1.f1)) := (blk_cell BK152.out 3).trans rfl
                       have hc4_ : w'.cell? ⟨gb152, 4, none⟩ = some (.int .i64 ((rd_T50 l0 x5_1).f0.f2.f0)) := (blk_cell BK152.out 4).trans rfl
                       have hc5_ : w'.cell? ⟨gb152, 5, none⟩ = some (.int .i64 ((rd_T50 l0 x5_1).f0.f2.f1)) := (blk_cell BK152.out 5).trans rfl
                       have hc6_ : w'.cell? ⟨gb152, 6, none⟩ = some (.int .i64 ((rd_T50 l0 x5_1).f0.f3.f0)) := (blk_cell BK152.out 6).trans rfl
                       have hc7_ : w'.cell? ⟨gb152, 7, none⟩ = some (.int .i64 ((rd_T50 l0 x5_1).f0.f3.f1)) := (blk_cell BK152.out 7).trans rfl
                       have hc8_ : w'.cell? ⟨gb152, 8, none⟩ = some (.int .i64 ((rd_T50 l0 x5_1).f0.f4)) := (blk_cell BK152.out 8).trans rfl
                       have hc9_ : w'.cell? ⟨gb152, 9, none⟩ = some (.int .i64 ((rd_T50 l0 x5_1).f1)) := (blk_cell BK152.out 9).trans rfl
                       have hc10_ : w'.cell? ⟨gb152, 10, none⟩ = some (.int .i64 ((rd_T50 l0 x5_1).f2)) := (blk_cell BK152.out 10).trans rfl
                       refine value_ (w1 := w') (v := .int .i64 ((rd_T50 l0 x5_1).f0.f3.f1)) (by rfl) rfl ?_ ?_
                       ·
                        go_simp
                        (try simp only [i64_w])
                        try rfl
                       refine hK.out _ _ ⟨v154, adz_v154, m4_, (by rw [ha.out]; exact putSel_upk 22 hb_ rfl rfl rfl), Q_BK149, Q_BK152, Q_HB, Q_HO155, Q_HA_HO155, Q_X4_⟩
                      refine steps_cons ?_ ?_
                      ·
                       rintro b a w' ⟨v154, adz_v154, m4_, ha, Q_BK149, Q_BK152, Q_HB, Q_HO155, Q_HA_HO155, Q_X4_⟩ hb_ hon hoff
                       refine ⟨_, rfl, fun K hK => ?_⟩
                       have e59 : a.tmps[59]? = some (.int .i64 ((rd_T50 l0 x5_1).f0.f3.f1)) := by rw [ha]; exact putSel_on (e := (36, 59, .int .i64 ((rd_T50 l0 x5_1).f0.f3.f1))) 22 rfl rfl (hon 36 (by kernel_rfl)) rfl
                       replace ha := Aside0.mk ha
                       have BK149 := Aside0.mk Q_BK149
                       have BK152 := Aside0.mk Q_BK152
                       have HB := Aside0.mk Q_HB
                       refine goes_ Tryd.func21 (by kernel_rfl) rfl #[.int .i64 ((rd_T50 l0 x5_1).f0.f3.f1)] (by rfl) rfl rfl (by first | (simp only [List.map_toArray, List.map_cons, List.map_nil, Act.eval, Array.getD_eq_getD_getElem?, Option.getD_some, e59]; done) | (simp only [List.map_toArray, List.map_cons, List.map_nil, Act.eval, Array.getD_eq_getD_getElem?, Option.getD_some, e59]; rfl)) ?_
                       with_reducible refine (spec_l2Digits.calls k1 ((rd_T50 l0 x5_1).f0.f3.f1) t161 _ A24.out).mono ?_
                       rintro e w59 ⟨rfl, hb⟩
                       refine ⟨_, rfl, ?_⟩
                       have n0_ := Aside0.mk (blk_below (g := gb149) (o := .cells #[.int .i64 0, .string (⟨#[]⟩ : ByteArray)] 23 (0, 0)) (by (with_reducible repeat (first | refine blk_drewN ?_ _ | refine blk_drew ?_ | refine blk_alloc ?_ _)); exact BK149.out) hb)
                       have n1_ := Aside0.mk (blk_below_u BK152.out hb)
                       have n2_ := Aside0.mk (below_step (by repeat (first | (with_reducible first | exact HB.out | apply below_alloc | apply pw_below_drewN | apply below_drew1 | refine below_set ?_ GE149.out | refine below_set ?_ GE152.out) | exact HB.out)) hb)
                       have z_HO155 := fun (h0_ : b 1 = true) => (show Kd.R Kd.string 9 w59 w.heap.size (fun _ => True) v154 y153 from by first | exact (Kd.R_below (by (with_reducible repeat (first | apply Kd.R_alloc | apply Kd.R_drewN | apply Kd.R_drew)); exact (Q_HO155 h0_)) hb) | exact Kd.R_mono (Kd.R_below (by (with_reducible repeat (first | apply Kd.R_alloc | apply Kd.R_drewN | apply Kd.R_drew)); exact (Q_HO155 h0_)) hb) (fun _ h_ => by first | trivial | exact h_ | exact h_.1))
                       clear BK149
                       clear BK152
                       clear HB
                       have BK149 := n0_
                       have BK152 := n1_
                       have HB := n2_
                       clear n0_ n1_ n2_
                       (try clear hb)
                       (try clear hb2)
                       (try clear hk)
                       (try clear hi)
                       refine hK.out _ _ ⟨v154, adz_v154, m4_, (by rw [ha.out]; exact putSel_upk 23 hb_ rfl rfl rfl), (by (with_reducible repeat (first | refine blk_drewN ?_ _ | refine blk_drew ?_ | refine blk_alloc ?_ _)); exact BK149.out), (by (with_reducible repeat (first | refine blk_drewN ?_ _ | refine blk_drew ?_ | refine blk_alloc ?_ _)); exact BK152.out), (by repeat (first | (with_reducible first | exact HB.out | apply below_alloc | apply pw_below_drewN | apply below_drew1 | refine below_set ?_ GE149.out | refine below_set ?_ GE152.out) | exact HB.out)), z_HO155, Q_HA_HO155, Q_X4_⟩
                      refine steps_cons ?_ ?_
                      ·
                       rintro b a w' ⟨v154, adz_v154, m4_, ha, Q_BK149, Q_BK152, Q_HB, Q_HO155, Q_HA_HO155, Q_X4_⟩ hb_ hon hoff
                       refine ⟨_, rfl, fun K hK => ?_⟩
                       have e55 : a.tmps[55]? = some (.string ((((((((((x4_1 ++ (rdOf ByteArray.empty y153 ((rd_T50 l0 x5_1).f1))) ++ (⟨#[32]⟩ : ByteArray)) ++ t157) ++ (⟨#[32]⟩ : ByteArray)) ++ t158) ++ (⟨#[32]⟩ : ByteArray)) ++ t159) ++ (⟨#[32]⟩ : ByteArray)) ++ t160) ++ (⟨#[45]⟩ : ByteArray))) := by rw [ha]; exact putSel_on (e := (32, 55, .string ((((((((((x4_1 ++ (rdOf ByteArray.empty y153 ((rd_T50 l0 x5_1).f1))) ++ (⟨#[32]⟩ : ByteArray)) ++ t157) ++ (⟨#[32]⟩ : ByteArray)) ++ t158) ++ (⟨#[32]⟩ : ByteArray)) ++ t159) ++ (⟨#[32]⟩ : ByteArray)) ++ t160) ++ (⟨#[45]⟩ : ByteArray)))) 21 rfl rfl (hon 32 (by kernel_rfl)) rfl
                       have e60 : a.tmps[60]? = some (.string t161) := by rw [ha]; exact putSel_on (e := (37, 60, .string t161)) 23 rfl rfl (hon 37 (by kernel_rfl)) rfl
                       replace ha := Aside0.mk ha
                       have BK149 := Aside0.mk Q_BK149
                       have BK152 := Aside0.mk Q_BK152
                       have HB := Aside0.mk Q_HB
                       have HO155 := Aside0.mk (Q_HO155 (hon 1 (by kernel_rfl)))
                       have HA_HO155 := Aside0.mk (Q_HA_HO155 (hon 1 (by kernel_rfl)))
                       refine value_ (w1 := w') (v := .string (((((((((((x4_1 ++ (rdOf ByteArray.empty y153 ((rd_T50 l0 x5_1).f1))) ++ (⟨#[32]⟩ : ByteArray)) ++ t157) ++ (⟨#[32]⟩ : ByteArray)) ++ t158) ++ (⟨#[32]⟩ : ByteArray)) ++ t159) ++ (⟨#[32]⟩ : ByteArray)) ++ t160) ++ (⟨#[45]⟩ : ByteArray)) ++ t161)) (by rfl) rfl ?_ ?_
                       ·
                        go_simp
                        (try simp only [i64_w])
                        try rfl
                       refine hK.out _ _ ⟨v154, adz_v154, m4_, (by rw [ha.out]; exact putSel_upk 24 hb_ rfl rfl rfl), Q_BK149, Q_BK152, Q_HB, Q_HO155, Q_HA_HO155, Q_X4_⟩
                      refine steps_cons ?_ ?_
                      ·
                       rintro b a w' ⟨v154, adz_v154, m4_, ha, Q_BK149, Q_BK152, Q_HB, Q_HO155, Q_HA_HO155, Q_X4_⟩ hb_ hon hoff
                       refine ⟨_, rfl, fun K hK => ?_⟩
                       have e61 : a.tmps[61]? = some (.string (((((((((((x4_1 ++ (rdOf ByteArray.empty y153 ((rd_T50 l0 x5_1).f1))) ++ (⟨#[32]⟩ : ByteArray)) ++ t157) ++ (⟨#[32]⟩ : ByteArray)) ++ t158) ++ (⟨#[32]⟩ : ByteArray)) ++ t159) ++ (⟨#[32]⟩ : ByteArray)) ++ t160) ++ (⟨#[45]⟩ : ByteArray)) ++ t161)) := by rw [ha]; exact putSel_on (e := (38, 61, .string (((((((((((x4_1 ++ (rdOf ByteArray.empty y153 ((rd_T50 l0 x5_1).f1))) ++ (⟨#[32]⟩ : ByteArray)) ++ t157) ++ (⟨#[32]⟩ : ByteArray)) ++ t158) ++ (⟨#[32]⟩ : ByteArray)) ++ t159) ++ (⟨#[32]⟩ : ByteArray)) ++ t160) ++ (⟨#[45]⟩ : ByteArray)) ++ t161))) 24 rfl rfl (hon 38 (by kernel_rfl)) rfl
                       replace ha := Aside0.mk ha
                       have BK149 := Aside0.mk Q_BK149
                       have BK152 := Aside0.mk Q_BK152
                       have HB := Aside0.mk Q_HB
                       have HO155 := Aside0.mk (Q_HO155 (hon 1 (by kernel_rfl)))
                       have HA_HO155 := Aside0.mk (Q_HA_HO155 (hon 1 (by kernel_rfl)))
                       refine value_ (w1 := w') (v := .string (((((((((((x4_1 ++ (rdOf ByteArray.empty y153 ((rd_T50 l0 x5_1).f1))) ++ (⟨#[32]⟩ : ByteArray)) ++ t157) ++ (⟨#[32]⟩ : ByteArray)) ++ t158) ++ (⟨#[32]⟩ : ByteArray)) ++ t159) ++ (⟨#[32]⟩ : ByteArray)) ++ t160) ++ (⟨#[45]⟩ : ByteArray)) ++ t161)) (by rfl) rfl ?_ ?_
                       ·
                        go_simp
                        (try simp only [i64_w])
                        try rfl
                       refine hK.out _ _ ⟨v154, adz_v154, m4_, (by rw [ha.out]; exact putSel_upk 25 hb_ rfl rfl rfl), Q_BK149, Q_BK152, Q_HB, Q_HO155, Q_HA_HO155, Q_X4_⟩
                      exact steps_nil
                     rintro b a w62 hall ⟨v154, adz_v154, m4_, ha, Q_BK149, Q_BK152, Q_HB, Q_HO155, Q_HA_HO155, Q_X4_⟩
                     clear BK149 BK152 HB
                     have hb1_ := hall 1 (by kernel_rfl)
                     have hb3_ := hall 3 (by kernel_rfl)
                     have hb4_ := hall 4 (by kernel_rfl)
                     have hb5_ := hall 5 (by kernel_rfl)
                     have hb6_ := hall 6 (by kernel_rfl)
                     have hb7_ := hall 7 (by kernel_rfl)
                     have hb10_ := hall 10 (by kernel_rfl)
                     have hb11_ := hall 11 (by kernel_rfl)
                     have hb12_ := hall 12 (by kernel_rfl)
                     have hb13_ := hall 13 (by kernel_rfl)
                     have hb16_ := hall 16 (by kernel_rfl)
                     have hb17_ := hall 17 (by kernel_rfl)
                     have hb18_ := hall 18 (by kernel_rfl)
                     have hb19_ := hall 19 (by kernel_rfl)
                     have hb22_ := hall 22 (by kernel_rfl)
                     have hb23_ := hall 23 (by kernel_rfl)
                     have hb24_ := hall 24 (by kernel_rfl)
                     have hb25_ := hall 25 (by kernel_rfl)
                     have hb29_ := hall 29 (by kernel_rfl)
                     have hb30_ := hall 30 (by kernel_rfl)
                     have hb31_ := hall 31 (by kernel_rfl)
                     have hb32_ := hall 32 (by kernel_rfl)
                     have hb36_ := hall 36 (by kernel_rfl)
                     have hb37_ := hall 37 (by kernel_rfl)
                     have hb38_ := hall 38 (by kernel_rfl)
                     have hb39_ := hall 39 (by kernel_rfl)
                     subst ha
                     obtain rfl := Q_X4_ hb4_
                     simp only [putSel, hb1_, hb3_, hb4_, hb5_, hb6_, hb7_, hb10_, hb11_, hb12_, hb13_, hb16_, hb17_, hb18_, hb19_, hb22_, hb23_, hb24_, hb25_, hb29_, hb30_, hb31_, hb32_, hb36_, hb37_, hb38_, hb39_, if_true, Act.put, List.setIfInBounds_toArray, List.set_cons_zero, List.set_cons_succ]
                     have BK149 := Aside0.mk Q_BK149
                     clear Q_BK149
                     have BK152 := Aside0.mk Q_BK152
                     clear Q_BK152
                     have HB := Aside0.mk Q_HB
                     clear Q_HB
                     have HO155 := Aside0.mk (Q_HO155 hb1_)
                     clear Q_HO155
                     have HA_HO155 := Aside0.mk (Q_HA_HO155 hb1_)
                     clear Q_HA_HO155
                     clear hall hb1_ hb3_ hb4_ hb5_ hb6_ hb7_ hb10_ hb11_ hb12_ hb13_ hb16_ hb17_ hb18_ hb19_ hb22_ hb23_ hb24_ hb25_ hb29_ hb30_ hb31_ hb32_ hb36_ hb37_ hb38_ hb39_
                     obtain ⟨co63, eo63⟩ := HA_HO155.out
                     clear HA_HO155
                     subst eo63
                     obtain ⟨hcz64_0, hcz64_1, hcz64_2, hcz64_3, hcz64_4, hcz64_5, hcz64_6, hcz64_7, hcz64_8, hcz64_9, hcz64_10⟩ := blk_c11 BK152.out
                     obtain ⟨hfz64_0, hfz64_1, hfz64_2, hfz64_3, hfz64_4, hfz64_5, hfz64_6, hfz64_7, hfz64_8, hfz64_9, hfz64_10⟩ := blk_f11 BK152.out
                     try go_wp2
                     go_roundg k1
                     case measure => have := HK1.out; omega
                     case rel => exact ⟨((((((((((((x4_1 ++ (rdOf ByteArray.empty y153 ((rd_T50 l0 x5_1).f1))) ++ (⟨#[32]⟩ : ByteArray)) ++ t157) ++ (⟨#[32]⟩ : ByteArray)) ++ t158) ++ (⟨#[32]⟩ : ByteArray)) ++ t159) ++ (⟨#[32]⟩ : ByteArray)) ++ t160) ++ (⟨#[45]⟩ : ByteArray)) ++ t161) ++ (⟨#[10]⟩ : ByteArray)), (wrap64 (x5_1 + 1)), (by first | rfl | (simp; done) | (simp [*]; done)), (by first | rfl | (simp; done) | (simp [*]; done)), H', ⟨by have := HK1.out; omega⟩, ⟨by (with_reducible repeat (first | refine blk_drewN ?_ _ | refine blk_drew ?_ | refine blk_alloc ?_ _)); exact BK149.out⟩, ⟨by repeat (first | (with_reducible first | exact HB.out | apply below_alloc | apply pw_below_drewN | apply below_drew1 | refine below_set ?_ GE149.out | refine below_set ?_ GE152.out) | exact HB.out)⟩⟩
                    ·
                     rw [if_neg c48] at H
                     exact absurd H (by simp)
                  ·
                   rw [if_neg c25] at H
                   exact absurd H (by simp)
                 ·
                  rw [if_neg c23] at H
                  exact absurd H (by simp)
                ·
                 rw [if_neg c22] at H
                 exact absurd H (by simp)
               ·
                rw [if_neg c20] at H
                exact absurd H (by simp)
              ·
               rw [if_neg c19] at H
               exact absurd H (by simp)
             ·
              rw [if_neg c17] at H
              exact absurd H (by simp)
            ·
             rw [if_neg c16] at H
             exact absurd H (by simp)
           ·
            rw [if_neg c14] at H
            exact absurd H (by simp)
          ·
           rw [if_neg c13] at H
           exact absurd H (by simp)
         ·
          rw [if_neg c11] at H
          exact absurd H (by simp)
        ·
         rw [if_neg c10] at H
         exact absurd H (by simp)
       ·
        rw [if_neg c9] at H
        exact absurd H (by simp)
      ·
       rw [if_neg c8] at H
       exact absurd H (by simp)
     ·
      rw [if_neg c7] at H
      exact absurd H (by simp)
    ·
     rw [if_neg c6] at H
     have c6b0 : decide (x5_1 < (l0.length : Int)) = false := decide_eq_false c6
     clear c6
     simp only [Option.some.injEq, Prod.mk.injEq] at H
     obtain ⟨rfl, rfl⟩ := H
     have hcz65_0 : wr.cell? ⟨gb149, 0, none⟩ = some (.int .i64 0) := (blk_cell BK149.out 0).trans rfl
     have hcz65_1 : wr.cell? ⟨gb149, 1, none⟩ = some (.string (⟨#[]⟩ : ByteArray)) := (blk_cell BK149.out 1).trans rfl
     have hfz65_0 := blk_frozen BK149.out 0
     have hfz65_1 := blk_frozen BK149.out 1
     go_wp2
     refine bodyPost_ret (results_cell_row rfl _ _ gb149 23 #[.int .i64 0, .string x4_1] (0, 0) _ rfl (by (with_reducible repeat (first | refine blk_drewN ?_ _ | refine blk_drew ?_ | refine blk_alloc ?_ _)); refine blk_put (cs := #[.int .i64 0, .string (⟨#[]⟩ : ByteArray)]) ?_ 1 _ rfl; (with_reducible repeat (first | refine blk_drewN ?_ _ | refine blk_drew ?_ | refine blk_alloc ?_ _)); refine blk_put (cs := #[.int .i64 0, .string (⟨#[]⟩ : ByteArray)]) ?_ 0 _ rfl; (with_reducible repeat (first | refine blk_drewN ?_ _ | refine blk_drew ?_ | refine blk_alloc ?_ _)); exact BK149.out) Tryd.underlying23 rfl (by kernel_rfl)) rfl ?_
     exact ⟨by first | rfl | (simp [errW_none, errW_some] <;> rfl) | (simp [*, errW_none, errW_some] <;> rfl), by repeat (first | (with_reducible first | exact HB.out | apply below_alloc | apply pw_below_drewN | apply below_drew1 | refine below_set ?_ GE149.out) | exact HB.out)⟩
 ·
  rw [if_neg c3] at H
  have c3b0 : (t150 == 0) = false := beq_eq_false_iff_ne.mpr c3
  have c3b1 : (t150 != 0) = true := bne_iff_ne.mpr c3
  simp only [Option.some.injEq, Prod.mk.injEq] at H
  obtain ⟨rfl, rfl⟩ := H
  go_enter Tryd.func10, Tryd.ntmps10
  go_wp2_with (first | ((with_reducible refine gate_dst (N := 2) rfl ?_); refine box_event ?hg (N := 2) ?hd (cs := #[.int .i64 0, .string (⟨#[]⟩ : ByteArray)]) (t := 23) ?hr ?_; (case hd => rfl); (case hg => rfl); (case hr => first | (go_simp; done) | (go_simp; rfl)); intro gb149 hg w66 hbox hb; have n0_ := Aside0.mk (below_step (by repeat (first | (with_reducible first | exact HB.out | apply below_alloc | apply pw_below_drewN | apply below_drew1) | exact HB.out)) hb); have n1_ := Aside0.mk (hbox); have n2_ := Aside0.mk ((by rw [hg]; exact (below_size (by repeat (first | (with_reducible first | exact HB.out | apply below_alloc | apply pw_below_drewN | apply below_drew1) | exact HB.out))) : w.heap.size ≤ gb149)); have n3_ := Aside0.mk ((by rw [hg]; exact (below_size (by repeat (first | (with_reducible first | exact HB.out | apply below_alloc | apply pw_below_drewN | apply below_drew1) | exact HB.out))) : w.heap.size ≤ gb149)); clear HB; have HB := n0_; have BK149 := n1_; have GW149 := n2_; have GE149 := n3_; clear n0_ n1_ n2_ n3_; clear hb hbox hg) | ((with_reducible refine gate_callee (f := 24) rfl ?_); refine goesL_ (some 8) rfl rfl Tryd.func24 (by kernel_rfl) rfl #[.slice A0 l0.length c0] rfl (by (try simp only [List.map_toArray, List.map_cons, List.map_nil]); first | done | rfl | (simp only [List.length_drop, List.length_take]; rfl)) ?_; (with_reducible refine (spec_PolicyFault.calls k _ _ l0 t150 _ ?side1 ?side2 A2.out).mono ?_); (case side1 => repeat (first | exact (Kd.C_below HR0.out HB.out) | (with_reducible refine Kd.C_alloc ?_ _) | (with_reducible refine Kd.C_drewN ?_ _) | (with_reducible refine Kd.C_drew ?_))); (case side2 => exact HC0.out); rintro e w67 ⟨rfl, hb⟩; refine ⟨_, rfl, ?_⟩; have n0_ := Aside0.mk (blk_below (g := gb149) (o := .cells #[.int .i64 0, .string (⟨#[]⟩ : ByteArray)] 23 (0, 0)) (by (with_reducible repeat (first | refine blk_drewN ?_ _ | refine blk_drew ?_ | refine blk_alloc ?_ _)); exact BK149.out) hb); have n1_ := Aside0.mk (below_step (by repeat (first | (with_reducible first | exact HB.out | apply below_alloc | apply pw_below_drewN | apply below_drew1 | refine below_set ?_ GE149.out) | exact HB.out)) hb); clear BK149; clear HB; have BK149 := n0_; have HB := n1_; clear n0_ n1_; (try clear hb); (try clear hb2); (try clear hk); (try clear hi); have hcz68_0 : w67.cell? ⟨gb149, 0, none⟩ = some (.int .i64 0) := (blk_cell BK149.out 0).trans rfl; have hcz68_1 : w67.cell? ⟨gb149, 1, none⟩ = some (.string (⟨#[]⟩ : ByteArray)) := (blk_cell BK149.out 1).trans rfl; have hfz68_0 := blk_frozen BK149.out 0; have hfz68_1 := blk_frozen BK149.out 1))
  refine bodyPost_ret (results_cell_row rfl _ _ gb149 23 #[.int .i64 t150, .string (⟨#[]⟩ : ByteArray)] (0, 0) _ rfl (by (with_reducible repeat (first | refine blk_drewN ?_ _ | refine blk_drew ?_ | refine blk_alloc ?_ _)); refine blk_put (cs := #[.int .i64 t150, .string (⟨#[]⟩ : ByteArray)]) ?_ 1 _ rfl; (with_reducible repeat (first | refine blk_drewN ?_ _ | refine blk_drew ?_ | refine blk_alloc ?_ _)); refine blk_put (cs := #[.int .i64 0, .string (⟨#[]⟩ : ByteArray)]) ?_ 0 _ rfl; (with_reducible repeat (first | refine blk_drewN ?_ _ | refine blk_drew ?_ | refine blk_alloc ?_ _)); exact BK149.out) Tryd.underlying23 rfl (by kernel_rfl)) rfl ?_
  exact ⟨by first | rfl | (simp [errW_none, errW_some] <;> rfl) | (simp [*, errW_none, errW_some] <;> rfl), by repeat (first | (with_reducible first | exact HB.out | apply below_alloc | apply pw_below_drewN | apply below_drew1 | refine below_set ?_ GE149.out) | exact HB.out)⟩

end Go.Proofs.YtbficbiignpnoaaDoor.PFnExactPolicyText
