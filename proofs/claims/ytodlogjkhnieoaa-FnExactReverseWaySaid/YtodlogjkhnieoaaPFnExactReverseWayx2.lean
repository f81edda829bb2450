-- Written by wip/tools/myprint.py of this claim's session, over the kit's print, round texts of its own: own text.
import Derived.Test.YtodlogjkhnieoaaPFnExactReverseWayx0
import Derived.Test.YtodlogjkhnieoaaPFnExactReverseWayx1
namespace Go.Proofs.Ytodlogjkhnieoaa.PFnExactReverseWay
open Go.RowKit Go.Proofs.YtodlogjkhnieoaaW.PrintWords Go.Proofs.YtodlogjkhnieoaaW.PrintLast Go.Proofs.YtodlogjkhnieoaaW.PrintMore
attribute [local go_sem] max2_int min2_int max_two min_two max_three min_three max_four min_four   -- for this text's walks alone
set_option linter.unusedVariables false
set_option linter.unusedSimpArgs false

/-! ### spec_l1In: function 48 -/
def spec_l1In.f (a0 : Int) (a1 : Int) (a2 : Int) : Option (Bool) := if a0 ≥ a1 then (some (decide (a0 ≤ a2))) else (some false)
set_option maxHeartbeats 8000000 in
set_option maxRecDepth 100000 in
theorem spec_l1In.calls (a0 : Int) (a1 : Int) (a2 : Int) (r : Bool) (w : World) (h : spec_l1In.f a0 a1 a2 = some r) :
  Calls Try.prog 48 #[.int .i64 a0, .int .i64 a1, .int .i64 a2] w fun e w' => e = .returned (.bool r) ∧ Drawn0 w w' := by
 have H : (if a0 ≥ a1 then (some (decide (a0 ≤ a2))) else (some false)) = some r := h
 clear h
 by_cases c4 : a0 ≥ a1
 ·
  rw [if_pos c4] at H
  have c4b0 : decide (a1 ≤ a0) = true := decide_eq_true c4
  clear c4
  obtain rfl := Option.some.inj H
  go_enter Try.func48, Try.ntmps48
  go_wp2
  go_ret
  exact ⟨by first | rfl | (simp; done) | (simp [*]; done), by repeat (first | exact Drawn0.refl _ | apply Drawn0.step)⟩
 ·
  rw [if_neg c4] at H
  have c4b0 : decide (a1 ≤ a0) = false := decide_eq_false c4
  clear c4
  obtain rfl := Option.some.inj H
  go_enter Try.func48, Try.ntmps48
  go_wp2
  go_ret
  exact ⟨by first | rfl | (simp; done) | (simp [*]; done), by repeat (first | exact Drawn0.refl _ | apply Drawn0.step)⟩

/-! ### spec_HasPorts: function 59 -/
def spec_HasPorts.f (a0 : Int) : Option (Bool) := if a0 = 6 then (some true) else (some (a0 == 17))
set_option maxHeartbeats 8000000 in
set_option maxRecDepth 100000 in
theorem spec_HasPorts.calls (a0 : Int) (r : Bool) (w : World) (h : spec_HasPorts.f a0 = some r) :
  Calls Try.prog 59 #[.int .i64 a0] w fun e w' => e = .returned (.bool r) ∧ Drawn0 w w' := by
 have H : (if a0 = 6 then (some true) else (some (a0 == 17))) = some r := h
 clear h
 by_cases c2 : a0 = 6
 ·
  rw [if_pos c2] at H
  have c2b0 : (a0 == 6) = true := beq_iff_eq.mpr c2
  have c2b1 : (a0 != 6) = false := bne_eq_false_iff_eq.mpr c2
  clear c2
  obtain rfl := Option.some.inj H
  go_enter Try.func59, Try.ntmps59
  go_wp2
  go_ret
  exact ⟨by first | rfl | (simp; done) | (simp [*]; done), by repeat (first | exact Drawn0.refl _ | apply Drawn0.step)⟩
 ·
  rw [if_neg c2] at H
  have c2b0 : (a0 == 6) = false := beq_eq_false_iff_ne.mpr c2
  have c2b1 : (a0 != 6) = true := bne_iff_ne.mpr c2
  obtain rfl := Option.some.inj H
  go_enter Try.func59, Try.ntmps59
  go_wp2
  go_ret
  exact ⟨by first | rfl | (simp; done) | (simp [*]; done), by repeat (first | exact Drawn0.refl _ | apply Drawn0.step)⟩

/-! ### spec_l2Address: function 75 -/
def spec_l2Address.f (a0 : Int) : Option (Bool) := (spec_l1In.f a0 0 4294967295).bind fun t124 => (some t124)
set_option maxHeartbeats 8000000 in
set_option maxRecDepth 100000 in
theorem spec_l2Address.calls (a0 : Int) (r : Bool) (w : World) (h : spec_l2Address.f a0 = some r) :
  Calls Try.prog 75 #[.int .i64 a0] w fun e w' => e = .returned (.bool r) ∧ Drawn0 w w' := by
 have H : ((spec_l1In.f a0 0 4294967295).bind fun t124 => (some t124)) = some r := h
 clear h
 replace H := Option.bind_eq_some_iff.mp H
 obtain ⟨t124, A20, H⟩ := H
 replace H : (some t124) = some r := H
 have A2 := Aside0.mk A20
 clear A20
 obtain rfl := Option.some.inj H
 go_enter Try.func75, Try.ntmps75
 go_wp2_with (first | ((with_reducible refine gate_callee (f := 48) rfl ?_); refine goesL_ (some 4) rfl rfl Try.func48 (by kernel_rfl) rfl #[.int .i64 a0, .int .i64 0, .int .i64 4294967295] rfl (by (try simp only [List.map_toArray, List.map_cons, List.map_nil]); first | done | rfl | (simp only [List.length_drop, List.length_take]; rfl)) ?_; (with_reducible refine (spec_l1In.calls a0 0 4294967295 t124 _ A2.out).mono ?_); rintro e w' ⟨rfl, ⟨nd, rfl⟩⟩; refine ⟨_, rfl, ?_⟩))
 go_ret
 exact ⟨by first | rfl | (simp; done) | (simp [*]; done), by repeat (first | exact Drawn0.refl _ | apply Drawn0.step)⟩

/-! ### spec_l2Port: function 76 -/
def spec_l2Port.f (a0 : Int) : Option (Bool) := (spec_l1In.f a0 0 65535).bind fun t125 => (some t125)
set_option maxHeartbeats 8000000 in
set_option maxRecDepth 100000 in
theorem spec_l2Port.calls (a0 : Int) (r : Bool) (w : World) (h : spec_l2Port.f a0 = some r) :
  Calls Try.prog 76 #[.int .i64 a0] w fun e w' => e = .returned (.bool r) ∧ Drawn0 w w' := by
 have H : ((spec_l1In.f a0 0 65535).bind fun t125 => (some t125)) = some r := h
 clear h
 replace H := Option.bind_eq_some_iff.mp H
 obtain ⟨t125, A20, H⟩ := H
 replace H : (some t125) = some r := H
 have A2 := Aside0.mk A20
 clear A20
 obtain rfl := Option.some.inj H
 go_enter Try.func76, Try.ntmps76
 go_wp2_with (first | ((with_reducible refine gate_callee (f := 48) rfl ?_); refine goesL_ (some 4) rfl rfl Try.func48 (by kernel_rfl) rfl #[.int .i64 a0, .int .i64 0, .int .i64 65535] rfl (by (try simp only [List.map_toArray, List.map_cons, List.map_nil]); first | done | rfl | (simp only [List.length_drop, List.length_take]; rfl)) ?_; (with_reducible refine (spec_l1In.calls a0 0 65535 t125 _ A2.out).mono ?_); rintro e w' ⟨rfl, ⟨nd, rfl⟩⟩; refine ⟨_, rfl, ?_⟩))
 go_ret
 exact ⟨by first | rfl | (simp; done) | (simp [*]; done), by repeat (first | exact Drawn0.refl _ | apply Drawn0.step)⟩

/-! ### spec_PacketFault: function 64 -/
mutual
def spec_PacketFault.j0 : Nat → Bool → Int → Int → Int → Int → Int → Int → List Int → Option (Int)
 | 0, _, _, _, _, _, _, _, _ => none
 | k + 1, x36, x127000, x127001, x127002, x127003, x127004, x127005, x127006 => if x36 = true then (some 3) else ((spec_HasPorts.f x127002).bind fun t133 => (if t133 = true then (spec_PacketFault.j1 k false x127000 x127001 x127002 x127003 x127004 x127005 x127006) else (if x127004 = 0 then (spec_PacketFault.j1 k (x127005 != 0) x127000 x127001 x127002 x127003 x127004 x127005 x127006) else (spec_PacketFault.j1 k true x127000 x127001 x127002 x127003 x127004 x127005 x127006))))
def spec_PacketFault.j1 : Nat → Bool → Int → Int → Int → Int → Int → Int → List Int → Option (Int)
 | 0, _, _, _, _, _, _, _, _ => none
 | k + 1, x50, x127000, x127001, x127002, x127003, x127004, x127005, x127006 => if x50 = true then (some 1) else (if (x127006.length : Int) > 200 then (some 2) else (some 0))
end
def spec_PacketFault.f (k : Nat) (a0_0 : Int) (a0_1 : Int) (a0_2 : Int) (a0_3 : Int) (a0_4 : Int) (a0_5 : Int) (l0_6 : List Int) : Option (Int) := (spec_l2Address.f a0_0).bind fun t127 => (if t127 = true then ((spec_l2Address.f a0_1).bind fun t128 => (if t128 = true then ((spec_l1In.f a0_2 1 255).bind fun t129 => (if t129 = true then ((spec_l1In.f a0_3 1 255).bind fun t130 => (if t130 = true then ((spec_l2Port.f a0_4).bind fun t131 => (if t131 = true then ((spec_l2Port.f a0_5).bind fun t132 => (spec_PacketFault.j0 k (!t132) a0_0 a0_1 a0_2 a0_3 a0_4 a0_5 l0_6)) else (spec_PacketFault.j0 k true a0_0 a0_1 a0_2 a0_3 a0_4 a0_5 l0_6))) else (spec_PacketFault.j0 k true a0_0 a0_1 a0_2 a0_3 a0_4 a0_5 l0_6))) else (spec_PacketFault.j0 k true a0_0 a0_1 a0_2 a0_3 a0_4 a0_5 l0_6))) else (spec_PacketFault.j0 k true a0_0 a0_1 a0_2 a0_3 a0_4 a0_5 l0_6))) else (spec_PacketFault.j0 k true a0_0 a0_1 a0_2 a0_3 a0_4 a0_5 l0_6))
theorem spec_PacketFault.mono_l : ∀ k, (∀ y0 y1 y2 y3 y4 y5 y6 y7, LeO (spec_PacketFault.j0 k y0 y1 y2 y3 y4 y5 y6 y7) (spec_PacketFault.j0 (k + 1) y0 y1 y2 y3 y4 y5 y6 y7)) ∧ (∀ y0 y1 y2 y3 y4 y5 y6 y7, LeO (spec_PacketFault.j1 k y0 y1 y2 y3 y4 y5 y6 y7) (spec_PacketFault.j1 (k + 1) y0 y1 y2 y3 y4 y5 y6 y7))
 | 0 => ⟨fun _ _ _ _ _ _ _ _ r h => by simp [spec_PacketFault.j0] at h, fun _ _ _ _ _ _ _ _ r h => by simp [spec_PacketFault.j1] at h⟩
 | k + 1 => by
  obtain ⟨ih0, ih1⟩ := spec_PacketFault.mono_l k
  refine ⟨?_, ?_⟩
  ·
   intro y0 y1 y2 y3 y4 y5 y6 y7
   unfold spec_PacketFault.j0
   repeat' first
   | (with_reducible exact ih0 _ _ _ _ _ _ _ _)
   | (with_reducible exact ih1 _ _ _ _ _ _ _ _)
   | (with_reducible exact LeO.refl _)
   | (with_reducible exact LeO.none _)
   | (with_reducible refine LeO.ite ?_ ?_)
   | (with_reducible refine LeO.bind ?_ (fun _ => ?_))
   | exact ih0 _ _ _ _ _ _ _ _
   | exact ih1 _ _ _ _ _ _ _ _
   | exact LeO.none _
   | refine LeO.ite ?_ ?_
   | refine LeO.bind ?_ (fun _ => ?_)
  ·
   intro y0 y1 y2 y3 y4 y5 y6 y7
   unfold spec_PacketFault.j1
   repeat' first
   | (with_reducible exact ih0 _ _ _ _ _ _ _ _)
   | (with_reducible exact ih1 _ _ _ _ _ _ _ _)
   | (with_reducible exact LeO.refl _)
   | (with_reducible exact LeO.none _)
   | (with_reducible refine LeO.ite ?_ ?_)
   | (with_reducible refine LeO.bind ?_ (fun _ => ?_))
   | exact ih0 _ _ _ _ _ _ _ _
   | exact ih1 _ _ _ _ _ _ _ _
   | exact LeO.none _
   | refine LeO.ite ?_ ?_
   | refine LeO.bind ?_ (fun _ => ?_)
theorem spec_PacketFault.mono : ∀ a0 a1 a2 a3 a4 a5 a6 k, LeO (spec_PacketFault.f k a0 a1 a2 a3 a4 a5 a6) (spec_PacketFault.f (k + 1) a0 a1 a2 a3 a4 a5 a6) := by
 intro a0 a1 a2 a3 a4 a5 a6 k
 obtain ⟨ih0, ih1⟩ := spec_PacketFault.mono_l k
 unfold spec_PacketFault.f
 repeat' first
   | (with_reducible exact ih0 _ _ _ _ _ _ _ _)
   | (with_reducible exact ih1 _ _ _ _ _ _ _ _)
   | (with_reducible exact LeO.refl _)
   | (with_reducible exact LeO.none _)
   | (with_reducible refine LeO.ite ?_ ?_)
   | (with_reducible refine LeO.bind ?_ (fun _ => ?_))
   | exact ih0 _ _ _ _ _ _ _ _
   | exact ih1 _ _ _ _ _ _ _ _
   | exact LeO.none _
   | refine LeO.ite ?_ ?_
   | refine LeO.bind ?_ (fun _ => ?_)
set_option maxHeartbeats 8000000 in
set_option maxRecDepth 100000 in
theorem spec_PacketFault.calls (k : Nat) (a0_0 : Int) (a0_1 : Int) (a0_2 : Int) (a0_3 : Int) (a0_4 : Int) (a0_5 : Int) (A0_6 : Option Addr) (c0_6 : Nat) (l0_6 : List Int) (r : Int) (w : World) (hr0_6 : Kd.C (Kd.int .u8) w A0_6 l0_6.length l0_6) (hc0_6 : l0_6.length ≤ c0_6) (h : spec_PacketFault.f k a0_0 a0_1 a0_2 a0_3 a0_4 a0_5 l0_6 = some r) :
  Calls Try.prog 64 #[.agg #[.int .i64 a0_0, .int .i64 a0_1, .int .i64 a0_2, .int .i64 a0_3, .int .i64 a0_4, .int .i64 a0_5, .slice A0_6 l0_6.length c0_6]] w fun e w' => e = .returned (.int .i64 r) ∧ Below w.heap.size w w' := by
 have hu53 := Try.underlying53
 have HR0_6 := Aside0.mk hr0_6
 have HC0_6 := Aside0.mk hc0_6
 clear hr0_6 hc0_6
 have HB := Aside0.mk (Below.refl w.heap.size w)
 have H : ((spec_l2Address.f a0_0).bind fun t127 => (if t127 = true then ((spec_l2Address.f a0_1).bind fun t128 => (if t128 = true then ((spec_l1In.f a0_2 1 255).bind fun t129 => (if t129 = true then ((spec_l1In.f a0_3 1 255).bind fun t130 => (if t130 = true then ((spec_l2Port.f a0_4).bind fun t131 => (if t131 = true then ((spec_l2Port.f a0_5).bind fun t132 => (spec_PacketFault.j0 k (!t132) a0_0 a0_1 a0_2 a0_3 a0_4 a0_5 l0_6)) else (spec_PacketFault.j0 k true a0_0 a0_1 a0_2 a0_3 a0_4 a0_5 l0_6))) else (spec_PacketFault.j0 k true a0_0 a0_1 a0_2 a0_3 a0_4 a0_5 l0_6))) else (spec_PacketFault.j0 k true a0_0 a0_1 a0_2 a0_3 a0_4 a0_5 l0_6))) else (spec_PacketFault.j0 k true a0_0 a0_1 a0_2 a0_3 a0_4 a0_5 l0_6))) else (spec_PacketFault.j0 k true a0_0 a0_1 a0_2 a0_3 a0_4 a0_5 l0_6))) = some r := h
 clear h
 have HC2 := Aside0.mk H
 clear H
 go_enter Try.func64, Try.ntmps64
 go_upto_region 1 with (first | ((with_reducible refine gate_dst (N := 1) rfl ?_); refine box_event ?hg (N := 1) ?hd (cs := #[.int .i64 a0_0, .int .i64 a0_1, .int .i64 a0_2, .int .i64 a0_3, .int .i64 a0_4, .int .i64 a0_5, .slice A0_6 l0_6.length c0_6]) (t := 53) ?hr ?_; (case hd => rfl); (case hg => rfl); (case hr => first | (go_simp; done) | (go_simp; rfl)); intro gb126 hg w3 hbox hb; have n0_ := Aside0.mk (below_step (by repeat (first | (with_reducible first | exact HB.out | apply below_alloc | apply pw_below_drewN | apply below_drew1) | exact HB.out)) hb); have n1_ := Aside0.mk (hbox); have n2_ := Aside0.mk ((by rw [hg]; exact (below_size (by repeat (first | (with_reducible first | exact HB.out | apply below_alloc | apply pw_below_drewN | apply below_drew1) | exact HB.out))) : w.heap.size ≤ gb126)); have n3_ := Aside0.mk ((by rw [hg]; exact (below_size (by repeat (first | (with_reducible first | exact HB.out | apply below_alloc | apply pw_below_drewN | apply below_drew1) | exact HB.out))) : w.heap.size ≤ gb126)); clear HB; have HB := n0_; have BK126 := n1_; have GW126 := n2_; have GE126 := n3_; clear n0_ n1_ n2_ n3_; clear hb hbox hg))
 (try simp only [Act.put, List.setIfInBounds_toArray, List.set_cons_zero, List.set_cons_succ])
 go_cut [36] (fun v36 wc => ∃ (kq : Nat) (x36_1 : Bool), v36 = .bool x36_1 ∧ Aside0 (spec_PacketFault.j0 kq x36_1 a0_0 a0_1 a0_2 a0_3 a0_4 a0_5 l0_6 = some r) ∧ Aside0 (kq ≤ k) ∧ Aside0 (wc.heap[gb126]? = some (.cells #[.int .i64 a0_0, .int .i64 a0_1, .int .i64 a0_2, .int .i64 a0_3, .int .i64 a0_4, .int .i64 a0_5, (.slice A0_6 l0_6.length c0_6)] 53 (0, 0))) ∧ Aside0 (Below w.heap.size w wc))
 case first =>
  have H := HC2.out
  clear HC2
  replace H := Option.bind_eq_some_iff.mp H
  obtain ⟨t127, A40, H⟩ := H
  replace H : (if t127 = true then ((spec_l2Address.f a0_1).bind fun t128 => (if t128 = true then ((spec_l1In.f a0_2 1 255).bind fun t129 => (if t129 = true then ((spec_l1In.f a0_3 1 255).bind fun t130 => (if t130 = true then ((spec_l2Port.f a0_4).bind fun t131 => (if t131 = true then ((spec_l2Port.f a0_5).bind fun t132 => (spec_PacketFault.j0 k (!t132) a0_0 a0_1 a0_2 a0_3 a0_4 a0_5 l0_6)) else (spec_PacketFault.j0 k true a0_0 a0_1 a0_2 a0_3 a0_4 a0_5 l0_6))) else (spec_PacketFault.j0 k true a0_0 a0_1 a0_2 a0_3 a0_4 a0_5 l0_6))) else (spec_PacketFault.j0 k true a0_0 a0_1 a0_2 a0_3 a0_4 a0_5 l0_6))) else (spec_PacketFault.j0 k true a0_0 a0_1 a0_2 a0_3 a0_4 a0_5 l0_6))) else (spec_PacketFault.j0 k true a0_0 a0_1 a0_2 a0_3 a0_4 a0_5 l0_6)) = some r := H
  have A4 := Aside0.mk A40
  clear A40
  by_cases c5 : t127 = true
  ·
   subst c5
   have H1 : ((spec_l2Address.f a0_1).bind fun t128 => (if t128 = true then ((spec_l1In.f a0_2 1 255).bind fun t129 => (if t129 = true then ((spec_l1In.f a0_3 1 255).bind fun t130 => (if t130 = true then ((spec_l2Port.f a0_4).bind fun t131 => (if t131 = true then ((spec_l2Port.f a0_5).bind fun t132 => (spec_PacketFault.j0 k (!t132) a0_0 a0_1 a0_2 a0_3 a0_4 a0_5 l0_6)) else (spec_PacketFault.j0 k true a0_0 a0_1 a0_2 a0_3 a0_4 a0_5 l0_6))) else (spec_PacketFault.j0 k true a0_0 a0_1 a0_2 a0_3 a0_4 a0_5 l0_6))) else (spec_PacketFault.j0 k true a0_0 a0_1 a0_2 a0_3 a0_4 a0_5 l0_6))) else (spec_PacketFault.j0 k true a0_0 a0_1 a0_2 a0_3 a0_4 a0_5 l0_6))) = some r := by rw [if_pos rfl] at H; exact H
   clear H
   have H := H1
   clear H1
   replace H := Option.bind_eq_some_iff.mp H
   obtain ⟨t128, A60, H⟩ := H
   replace H : (if t128 = true then ((spec_l1In.f a0_2 1 255).bind fun t129 => (if t129 = true then ((spec_l1In.f a0_3 1 255).bind fun t130 => (if t130 = true then ((spec_l2Port.f a0_4).bind fun t131 => (if t131 = true then ((spec_l2Port.f a0_5).bind fun t132 => (spec_PacketFault.j0 k (!t132) a0_0 a0_1 a0_2 a0_3 a0_4 a0_5 l0_6)) else (spec_PacketFault.j0 k true a0_0 a0_1 a0_2 a0_3 a0_4 a0_5 l0_6))) else (spec_PacketFault.j0 k true a0_0 a0_1 a0_2 a0_3 a0_4 a0_5 l0_6))) else (spec_PacketFault.j0 k true a0_0 a0_1 a0_2 a0_3 a0_4 a0_5 l0_6))) else (spec_PacketFault.j0 k true a0_0 a0_1 a0_2 a0_3 a0_4 a0_5 l0_6)) = some r := H
   have A6 := Aside0.mk A60
   clear A60
   by_cases c7 : t128 = true
   ·
    subst c7
    have H1 : ((spec_l1In.f a0_2 1 255).bind fun t129 => (if t129 = true then ((spec_l1In.f a0_3 1 255).bind fun t130 => (if t130 = true then ((spec_l2Port.f a0_4).bind fun t131 => (if t131 = true then ((spec_l2Port.f a0_5).bind fun t132 => (spec_PacketFault.j0 k (!t132) a0_0 a0_1 a0_2 a0_3 a0_4 a0_5 l0_6)) else (spec_PacketFault.j0 k true a0_0 a0_1 a0_2 a0_3 a0_4 a0_5 l0_6))) else (spec_PacketFault.j0 k true a0_0 a0_1 a0_2 a0_3 a0_4 a0_5 l0_6))) else (spec_PacketFault.j0 k true a0_0 a0_1 a0_2 a0_3 a0_4 a0_5 l0_6))) = some r := by rw [if_pos rfl] at H; exact H
    clear H
    have H := H1
    clear H1
    replace H := Option.bind_eq_some_iff.mp H
    obtain ⟨t129, A80, H⟩ := H
    replace H : (if t129 = true then ((spec_l1In.f a0_3 1 255).bind fun t130 => (if t130 = true then ((spec_l2Port.f a0_4).bind fun t131 => (if t131 = true then ((spec_l2Port.f a0_5).bind fun t132 => (spec_PacketFault.j0 k (!t132) a0_0 a0_1 a0_2 a0_3 a0_4 a0_5 l0_6)) else (spec_PacketFault.j0 k true a0_0 a0_1 a0_2 a0_3 a0_4 a0_5 l0_6))) else (spec_PacketFault.j0 k true a0_0 a0_1 a0_2 a0_3 a0_4 a0_5 l0_6))) else (spec_PacketFault.j0 k true a0_0 a0_1 a0_2 a0_3 a0_4 a0_5 l0_6)) = some r := H
    have A8 := Aside0.mk A80
    clear A80
    by_cases c9 : t129 = true
    ·
     subst c9
     have H1 : ((spec_l1In.f a0_3 1 255).bind fun t130 => (if t130 = true then ((spec_l2Port.f a0_4).bind fun t131 => (if t131 = true then ((spec_l2Port.f a0_5).bind fun t132 => (spec_PacketFault.j0 k (!t132) a0_0 a0_1 a0_2 a0_3 a0_4 a0_5 l0_6)) else (spec_PacketFault.j0 k true a0_0 a0_1 a0_2 a0_3 a0_4 a0_5 l0_6))) else (spec_PacketFault.j0 k true a0_0 a0_1 a0_2 a0_3 a0_4 a0_5 l0_6))) = some r := by rw [if_pos rfl] at H; exact H
     clear H
     have H := H1
     clear H1
     replace H := Option.bind_eq_some_iff.mp H
     obtain ⟨t130, A100, H⟩ := H
     replace H : (if t130 = true then ((spec_l2Port.f a0_4).bind fun t131 => (if t131 = true then ((spec_l2Port.f a0_5).bind fun t132 => (spec_PacketFault.j0 k (!t132) a0_0 a0_1 a0_2 a0_3 a0_4 a0_5 l0_6)) else (spec_PacketFault.j0 k true a0_0 a0_1 a0_2 a0_3 a0_4 a0_5 l0_6))) else (spec_PacketFault.j0 k true a0_0 a0_1 a0_2 a0_3 a0_4 a0_5 l0_6)) = some r := H
     have A10 := Aside0.mk A100
     clear A100
     by_cases c11 : t130 = true
     ·
      subst c11
      have H1 : ((spec_l2Port.f a0_4).bind fun t131 => (if t131 = true then ((spec_l2Port.f a0_5).bind fun t132 => (spec_PacketFault.j0 k (!t132) a0_0 a0_1 a0_2 a0_3 a0_4 a0_5 l0_6)) else (spec_PacketFault.j0 k true a0_0 a0_1 a0_2 a0_3 a0_4 a0_5 l0_6))) = some r := by rw [if_pos rfl] at H; exact H
      clear H
      have H := H1
      clear H1
      replace H := Option.bind_eq_some_iff.mp H
      obtain ⟨t131, A120, H⟩ := H
      replace H : (if t131 = true then ((spec_l2Port.f a0_5).bind fun t132 => (spec_PacketFault.j0 k (!t132) a0_0 a0_1 a0_2 a0_3 a0_4 a0_5 l0_6)) else (spec_PacketFault.j0 k true a0_0 a0_1 a0_2 a0_3 a0_4 a0_5 l0_6)) = some r := H
      have A12 := Aside0.mk A120
      clear A120
      by_cases c13 : t131 = true
      ·
       subst c13
       have H1 : ((spec_l2Port.f a0_5).bind fun t132 => (spec_PacketFault.j0 k (!t132) a0_0 a0_1 a0_2 a0_3 a0_4 a0_5 l0_6)) = some r := by rw [if_pos rfl] at H; exact H
       clear H
       have H := H1
       clear H1
       replace H := Option.bind_eq_some_iff.mp H
       obtain ⟨t132, A140, H⟩ := H
       replace H : (spec_PacketFault.j0 k (!t132) a0_0 a0_1 a0_2 a0_3 a0_4 a0_5 l0_6) = some r := H
       have A14 := Aside0.mk A140
       clear A140
       have H' := Aside0.mk H
       clear H
       obtain ⟨hcz15_0, hcz15_1, hcz15_2, hcz15_3, hcz15_4, hcz15_5, hcz15_6⟩ := blk_c7 BK126.out
       obtain ⟨hfz15_0, hfz15_1, hfz15_2, hfz15_3, hfz15_4, hfz15_5, hfz15_6⟩ := blk_f7 BK126.out
       go_wp2_with (first | ((with_reducible refine gate_callee (f := 75) rfl ?_); refine goesL_ (some 5) rfl rfl Try.func75 (by kernel_rfl) rfl #[.int .i64 a0_0] rfl (by (try simp only [List.map_toArray, List.map_cons, List.map_nil]); first | done | rfl | (simp only [List.length_drop, List.length_take]; rfl)) ?_; (with_reducible refine (spec_l2Address.calls a0_0 true _ A4.out).mono ?_); rintro e w' ⟨rfl, ⟨nd, rfl⟩⟩; refine ⟨_, rfl, ?_⟩) | (go_at_call 75; (with_reducible refine (spec_l2Address.calls a0_1 true _ A6.out).mono ?_); rintro e w' ⟨rfl, ⟨nd, rfl⟩⟩) | (go_at_call 48; (with_reducible refine (spec_l1In.calls a0_2 1 255 true _ A8.out).mono ?_); rintro e w' ⟨rfl, ⟨nd, rfl⟩⟩) | (go_at_call 48; (with_reducible refine (spec_l1In.calls a0_3 1 255 true _ A10.out).mono ?_); rintro e w' ⟨rfl, ⟨nd, rfl⟩⟩) | (go_at_call 76; (with_reducible refine (spec_l2Port.calls a0_4 true _ A12.out).mono ?_); rintro e w' ⟨rfl, ⟨nd, rfl⟩⟩) | (go_at_call 76; (with_reducible refine (spec_l2Port.calls a0_5 t132 _ A14.out).mono ?_); rintro e w' ⟨rfl, ⟨nd, rfl⟩⟩))
       go_meet
       case rel => exact ⟨_, (!t132), (by first | rfl | (simp; done) | (simp [*]; done)), H', ⟨by first | omega | exact Nat.le_refl _⟩, ⟨by (with_reducible repeat (first | refine blk_drewN ?_ _ | refine blk_drew ?_ | refine blk_alloc ?_ _)); exact BK126.out⟩, ⟨by repeat (first | (with_reducible first | exact HB.out | apply below_alloc | apply pw_below_drewN | apply below_drew1 | refine below_set ?_ GE126.out) | exact HB.out)⟩⟩
      ·
       replace c13 := Bool.eq_false_iff.mpr c13
       subst c13
       have H1 : (spec_PacketFault.j0 k true a0_0 a0_1 a0_2 a0_3 a0_4 a0_5 l0_6) = some r := by rw [if_neg (show ¬ (false = true) by decide)] at H; exact H
       clear H
       have H := H1
       clear H1
       have H' := Aside0.mk H
       clear H
       obtain ⟨hcz16_0, hcz16_1, hcz16_2, hcz16_3, hcz16_4, hcz16_5, hcz16_6⟩ := blk_c7 BK126.out
       obtain ⟨hfz16_0, hfz16_1, hfz16_2, hfz16_3, hfz16_4, hfz16_5, hfz16_6⟩ := blk_f7 BK126.out
       go_wp2_with (first | ((with_reducible refine gate_callee (f := 75) rfl ?_); refine goesL_ (some 5) rfl rfl Try.func75 (by kernel_rfl) rfl #[.int .i64 a0_0] rfl (by (try simp only [List.map_toArray, List.map_cons, List.map_nil]); first | done | rfl | (simp only [List.length_drop, List.length_take]; rfl)) ?_; (with_reducible refine (spec_l2Address.calls a0_0 true _ A4.out).mono ?_); rintro e w' ⟨rfl, ⟨nd, rfl⟩⟩; refine ⟨_, rfl, ?_⟩) | (go_at_call 75; (with_reducible refine (spec_l2Address.calls a0_1 true _ A6.out).mono ?_); rintro e w' ⟨rfl, ⟨nd, rfl⟩⟩) | (go_at_call 48; (with_reducible refine (spec_l1In.calls a0_2 1 255 true _ A8.out).mono ?_); rintro e w' ⟨rfl, ⟨nd, rfl⟩⟩) | (go_at_call 48; (with_reducible refine (spec_l1In.calls a0_3 1 255 true _ A10.out).mono ?_); rintro e w' ⟨rfl, ⟨nd, rfl⟩⟩) | (go_at_call 76; (with_reducible refine (spec_l2Port.calls a0_4 false _ A12.out).mono ?_); rintro e w' ⟨rfl, ⟨nd, rfl⟩⟩))
       go_meet
       case rel => exact ⟨_, (true), (by first | rfl | (simp; done) | (simp [*]; done)), H', ⟨by first | omega | exact Nat.le_refl _⟩, ⟨by (with_reducible repeat (first | refine blk_drewN ?_ _ | refine blk_drew ?_ | refine blk_alloc ?_ _)); exact BK126.out⟩, ⟨by repeat (first | (with_reducible first | exact HB.out | apply below_alloc | apply pw_below_drewN | apply below_drew1 | refine below_set ?_ GE126.out) | exact HB.out)⟩⟩
     ·
      replace c11 := Bool.eq_false_iff.mpr c11
      subst c11
      have H1 : (spec_PacketFault.j0 k true a0_0 a0_1 a0_2 a0_3 a0_4 a0_5 l0_6) = some r := by rw [if_neg (show ¬ (false = true) by decide)] at H; exact H
      clear H
      have H := H1
      clear H1
      have H' := Aside0.mk H
      clear H
      obtain ⟨hcz17_0, hcz17_1, hcz17_2, hcz17_3, hcz17_4, hcz17_5, hcz17_6⟩ := blk_c7 BK126.out
      obtain ⟨hfz17_0, hfz17_1, hfz17_2, hfz17_3, hfz17_4, hfz17_5, hfz17_6⟩ := blk_f7 BK126.out
      go_wp2_with (first | ((with_reducible refine gate_callee (f := 75) rfl ?_); refine goesL_ (some 5) rfl rfl Try.func75 (by kernel_rfl) rfl #[.int .i64 a0_0] rfl (by (try simp only [List.map_toArray, List.map_cons, List.map_nil]); first | done | rfl | (simp only [List.length_drop, List.length_take]; rfl)) ?_; (with_reducible refine (spec_l2Address.calls a0_0 true _ A4.out).mono ?_); rintro e w' ⟨rfl, ⟨nd, rfl⟩⟩; refine ⟨_, rfl, ?_⟩) | (go_at_call 75; (with_reducible refine (spec_l2Address.calls a0_1 true _ A6.out).mono ?_); rintro e w' ⟨rfl, ⟨nd, rfl⟩⟩) | (go_at_call 48; (with_reducible refine (spec_l1In.calls a0_2 1 255 true _ A8.out).mono ?_); rintro e w' ⟨rfl, ⟨nd, rfl⟩⟩) | (go_at_call 48; (with_reducible refine (spec_l1In.calls a0_3 1 255 false _ A10.out).mono ?_); rintro e w' ⟨rfl, ⟨nd, rfl⟩⟩))
      go_meet
      case rel => exact ⟨_, (true), (by first | rfl | (simp; done) | (simp [*]; done)), H', ⟨by first | omega | exact Nat.le_refl _⟩, ⟨by (with_reducible repeat (first | refine blk_drewN ?_ _ | refine blk_drew ?_ | refine blk_alloc ?_ _)); exact BK126.out⟩, ⟨by repeat (first | (with_reducible first | exact HB.out | apply below_alloc | apply pw_below_drewN | apply below_drew1 | refine below_set ?_ GE126.out) | exact HB.out)⟩⟩
    ·
     replace c9 := Bool.eq_false_iff.mpr c9
     subst c9
     have H1 : (spec_PacketFault.j0 k true a0_0 a0_1 a0_2 a0_3 a0_4 a0_5 l0_6) = some r := by rw [if_neg (show ¬ (false = true) by decide)] at H; exact H
     clear H
     have H := H1
     clear H1
     have H' := Aside0.mk H
     clear H
     obtain ⟨hcz18_0, hcz18_1, hcz18_2, hcz18_3, hcz18_4, hcz18_5, hcz18_6⟩ := blk_c7 BK126.out
     obtain ⟨hfz18_0, hfz18_1, hfz18_2, hfz18_3, hfz18_4, hfz18_5, hfz18_6⟩ := blk_f7 BK126.out
     go_wp2_with (first | ((with_reducible refine gate_callee (f := 75) rfl ?_); refine goesL_ (some 5) rfl rfl Try.func75 (by kernel_rfl) rfl #[.int .i64 a0_0] rfl (by (try simp only [List.map_toArray, List.map_cons, List.map_nil]); first | done | rfl | (simp only [List.length_drop, List.length_take]; rfl)) ?_; (with_reducible refine (spec_l2Address.calls a0_0 true _ A4.out).mono ?_); rintro e w' ⟨rfl, ⟨nd, rfl⟩⟩; refine ⟨_, rfl, ?_⟩) | (go_at_call 75; (with_reducible refine (spec_l2Address.calls a0_1 true _ A6.out).mono ?_); rintro e w' ⟨rfl, ⟨nd, rfl⟩⟩) | (go_at_call 48; (with_reducible refine (spec_l1In.calls a0_2 1 255 false _ A8.out).mono ?_); rintro e w' ⟨rfl, ⟨nd, rfl⟩⟩))
     go_meet
     case rel => exact ⟨_, (true), (by first | rfl | (simp; done) | (simp [*]; done)), H', ⟨by first | omega | exact Nat.le_refl _⟩, ⟨by (with_reducible repeat (first | refine blk_drewN ?_ _ | refine blk_drew ?_ | refine blk_alloc ?_ _)); exact BK126.out⟩, ⟨by repeat (first | (with_reducible first | exact HB.out | apply below_alloc | apply pw_below_drewN | apply below_drew1 | refine below_set ?_ GE126.out) | exact HB.out)⟩⟩
   ·
    replace c7 := Bool.eq_false_iff.mpr c7
    subst c7
    have H1 : (spec_PacketFault.j0 k true a0_0 a0_1 a0_2 a0_3 a0_4 a0_5 l0_6) = some r := by rw [if_neg (show ¬ (false = true) by decide)] at H; exact H
    clear H
    have H := H1
    clear H1
    have H' := Aside0.mk H
    clear H
    obtain ⟨hcz19_0, hcz19_1, hcz19_2, hcz19_3, hcz19_4, hcz19_5, hcz19_6⟩ := blk_c7 BK126.out
    obtain ⟨hfz19_0, hfz19_1, hfz19_2, hfz19_3, hfz19_4, hfz19_5, hfz19_6⟩ := blk_f7 BK126.out
    go_wp2_with (first | ((with_reducible refine gate_callee (f := 75) rfl ?_); refine goesL_ (some 5) rfl rfl Try.func75 (by kernel_rfl) rfl #[.int .i64 a0_0] rfl (by (try simp only [List.map_toArray, List.map_cons, List.map_nil]); first | done | rfl | (simp only [List.length_drop, List.length_take]; rfl)) ?_; (with_reducible refine (spec_l2Address.calls a0_0 true _ A4.out).mono ?_); rintro e w' ⟨rfl, ⟨nd, rfl⟩⟩; refine ⟨_, rfl, ?_⟩) | (go_at_call 75; (with_reducible refine (spec_l2Address.calls a0_1 false _ A6.out).mono ?_); rintro e w' ⟨rfl, ⟨nd, rfl⟩⟩))
    go_meet
    case rel => exact ⟨_, (true), (by first | rfl | (simp; done) | (simp [*]; done)), H', ⟨by first | omega | exact Nat.le_refl _⟩, ⟨by (with_reducible repeat (first | refine blk_drewN ?_ _ | refine blk_drew ?_ | refine blk_alloc ?_ _)); exact BK126.out⟩, ⟨by repeat (first | (with_reducible first | exact HB.out | apply below_alloc | apply pw_below_drewN | apply below_drew1 | refine below_set ?_ GE126.out) | exact HB.out)⟩⟩
  ·
   replace c5 := Bool.eq_false_iff.mpr c5
   subst c5
   have H1 : (spec_PacketFault.j0 k true a0_0 a0_1 a0_2 a0_3 a0_4 a0_5 l0_6) = some r := by rw [if_neg (show ¬ (false = true) by decide)] at H; exact H
   clear H
   have H := H1
   clear H1
   have H' := Aside0.mk H
   clear H
   obtain ⟨hcz20_0, hcz20_1, hcz20_2, hcz20_3, hcz20_4, hcz20_5, hcz20_6⟩ := blk_c7 BK126.out
   obtain ⟨hfz20_0, hfz20_1, hfz20_2, hfz20_3, hfz20_4, hfz20_5, hfz20_6⟩ := blk_f7 BK126.out
   go_wp2_with (first | ((with_reducible refine gate_callee (f := 75) rfl ?_); refine goesL_ (some 5) rfl rfl Try.func75 (by kernel_rfl) rfl #[.int .i64 a0_0] rfl (by (try simp only [List.map_toArray, List.map_cons, List.map_nil]); first | done | rfl | (simp only [List.length_drop, List.length_take]; rfl)) ?_; (with_reducible refine (spec_l2Address.calls a0_0 false _ A4.out).mono ?_); rintro e w' ⟨rfl, ⟨nd, rfl⟩⟩; refine ⟨_, rfl, ?_⟩))
   go_meet
   case rel => exact ⟨_, (true), (by first | rfl | (simp; done) | (simp [*]; done)), H', ⟨by first | omega | exact Nat.le_refl _⟩, ⟨by (with_reducible repeat (first | refine blk_drewN ?_ _ | refine blk_drew ?_ | refine blk_alloc ?_ _)); exact BK126.out⟩, ⟨by repeat (first | (with_reducible first | exact HB.out | apply below_alloc | apply pw_below_drewN | apply below_drew1 | refine below_set ?_ GE126.out) | exact HB.out)⟩⟩
 case rest =>
  clear HC2
  try clear c1; try clear p2; try clear c5; try clear c6; try clear c7; try clear c9; try clear c11; try clear c13; try clear hcz15_0; try clear hcz15_1; try clear hcz15_2; try clear hcz15_3; try clear hcz15_4; try clear hcz15_5; try clear hcz15_6; try clear hcz16_0; try clear hcz16_1; try clear hcz16_2; try clear hcz16_3; try clear hcz16_4; try clear hcz16_5; try clear hcz16_6; try clear hcz17_0; try clear hcz17_1; try clear hcz17_2; try clear hcz17_3; try clear hcz17_4; try clear hcz17_5; try clear hcz17_6; try clear hcz18_0; try clear hcz18_1; try clear hcz18_2; try clear hcz18_3; try clear hcz18_4; try clear hcz18_5; try clear hcz18_6; try clear hcz19_0; try clear hcz19_1; try clear hcz19_2; try clear hcz19_3; try clear hcz19_4; try clear hcz19_5; try clear hcz19_6; try clear hcz20_0; try clear hcz20_1; try clear hcz20_2; try clear hcz20_3; try clear hcz20_4; try clear hcz20_5; try clear hcz20_6; try clear hfz15_0; try clear hfz15_1; try clear hfz15_2; try clear hfz15_3; try clear hfz15_4; try clear hfz15_5; try clear hfz15_6; try clear hfz16_0; try clear hfz16_1; try clear hfz16_2; try clear hfz16_3; try clear hfz16_4; try clear hfz16_5; try clear hfz16_6; try clear hfz17_0; try clear hfz17_1; try clear hfz17_2; try clear hfz17_3; try clear hfz17_4; try clear hfz17_5; try clear hfz17_6; try clear hfz18_0; try clear hfz18_1; try clear hfz18_2; try clear hfz18_3; try clear hfz18_4; try clear hfz18_5; try clear hfz18_6; try clear hfz19_0; try clear hfz19_1; try clear hfz19_2; try clear hfz19_3; try clear hfz19_4; try clear hfz19_5; try clear hfz19_6; try clear hfz20_0; try clear hfz20_1; try clear hfz20_2; try clear hfz20_3; try clear hfz20_4; try clear hfz20_5; try clear hfz20_6
  obtain ⟨kq, x36_1, rfl, HA, HJ1, BK126, HB⟩ := hcut
  cases kq with
  | zero => exact absurd HA.out (by simp [spec_PacketFault.j0])
  | succ kj1 =>
   have H := HA.out
   clear HA
   simp only [spec_PacketFault.j0] at H
   by_cases c21 : x36_1 = true
   ·
    subst c21
    have H1 : (some 3) = some r := by rw [if_pos rfl] at H; exact H
    clear H
    have H := H1
    clear H1
    obtain rfl := Option.some.inj H
    go_wp2
    go_ret
    exact ⟨by first | rfl | (simp [errW_none, errW_some] <;> rfl) | (simp [*, errW_none, errW_some] <;> rfl), by repeat (first | (with_reducible first | exact HB.out | apply below_alloc | apply pw_below_drewN | apply below_drew1 | refine below_set ?_ GE126.out) | exact HB.out)⟩
   ·
    replace c21 := Bool.eq_false_iff.mpr c21
    subst c21
    have H1 : ((spec_HasPorts.f a0_2).bind fun t133 => (if t133 = true then (spec_PacketFault.j1 kj1 false a0_0 a0_1 a0_2 a0_3 a0_4 a0_5 l0_6) else (if a0_4 = 0 then (spec_PacketFault.j1 kj1 (a0_5 != 0) a0_0 a0_1 a0_2 a0_3 a0_4 a0_5 l0_6) else (spec_PacketFault.j1 kj1 true a0_0 a0_1 a0_2 a0_3 a0_4 a0_5 l0_6)))) = some r := by rw [if_neg (show ¬ (false = true) by decide)] at H; exact H
    clear H
    have H := H1
    clear H1
    have HC22 := Aside0.mk H
    clear H
    go_upto_region 3 with (fail)
    go_cut [50] (fun v50 wc => ∃ (kq : Nat) (x50_21 : Bool), v50 = .bool x50_21 ∧ Aside0 (spec_PacketFault.j1 kq x50_21 a0_0 a0_1 a0_2 a0_3 a0_4 a0_5 l0_6 = some r) ∧ Aside0 (kq ≤ kj1) ∧ Aside0 (wc.heap[gb126]? = some (.cells #[.int .i64 a0_0, .int .i64 a0_1, .int .i64 a0_2, .int .i64 a0_3, .int .i64 a0_4, .int .i64 a0_5, (.slice A0_6 l0_6.length c0_6)] 53 (0, 0))) ∧ Aside0 (Below w.heap.size w wc))
    case first =>
     have H := HC22.out
     clear HC22
     replace H := Option.bind_eq_some_iff.mp H
     obtain ⟨t133, A230, H⟩ := H
     replace H : (if t133 = true then (spec_PacketFault.j1 kj1 false a0_0 a0_1 a0_2 a0_3 a0_4 a0_5 l0_6) else (if a0_4 = 0 then (spec_PacketFault.j1 kj1 (a0_5 != 0) a0_0 a0_1 a0_2 a0_3 a0_4 a0_5 l0_6) else (spec_PacketFault.j1 kj1 true a0_0 a0_1 a0_2 a0_3 a0_4 a0_5 l0_6))) = some r := H
     have A23 := Aside0.mk A230
     clear A230
     by_cases c24 : t133 = true
     ·
      subst c24
      have H1 : (spec_PacketFault.j1 kj1 false a0_0 a0_1 a0_2 a0_3 a0_4 a0_5 l0_6) = some r := by rw [if_pos rfl] at H; exact H
      clear H
      have H := H1
      clear H1
      have H' := Aside0.mk H
      clear H
      obtain ⟨hcz25_0, hcz25_1, hcz25_2, hcz25_3, hcz25_4, hcz25_5, hcz25_6⟩ := blk_c7 BK126.out
      obtain ⟨hfz25_0, hfz25_1, hfz25_2, hfz25_3, hfz25_4, hfz25_5, hfz25_6⟩ := blk_f7 BK126.out
      go_wp2_with (first | ((with_reducible refine gate_callee (f := 59) rfl ?_); refine goesL_ (some 39) rfl rfl Try.func59 (by kernel_rfl) rfl #[.int .i64 a0_2] rfl (by (try simp only [List.map_toArray, List.map_cons, List.map_nil]); first | done | rfl | (simp only [List.length_drop, List.length_take]; rfl)) ?_; (with_reducible refine (spec_HasPorts.calls a0_2 true _ A23.out).mono ?_); rintro e w' ⟨rfl, ⟨nd, rfl⟩⟩; refine ⟨_, rfl, ?_⟩))
      go_meet
      case rel => exact ⟨_, (false), (by first | rfl | (simp; done) | (simp [*]; done)), H', ⟨by have := HJ1.out; first | omega | exact Nat.le_refl _⟩, ⟨by (with_reducible repeat (first | refine blk_drewN ?_ _ | refine blk_drew ?_ | refine blk_alloc ?_ _)); exact BK126.out⟩, ⟨by repeat (first | (with_reducible first | exact HB.out | apply below_alloc | apply pw_below_drewN | apply below_drew1 | refine below_set ?_ GE126.out) | exact HB.out)⟩⟩
     ·
      replace c24 := Bool.eq_false_iff.mpr c24
      subst c24
      have H1 : (if a0_4 = 0 then (spec_PacketFault.j1 kj1 (a0_5 != 0) a0_0 a0_1 a0_2 a0_3 a0_4 a0_5 l0_6) else (spec_PacketFault.j1 kj1 true a0_0 a0_1 a0_2 a0_3 a0_4 a0_5 l0_6)) = some r := by rw [if_neg (show ¬ (false = true) by decide)] at H; exact H
      clear H
      have H := H1
      clear H1
      by_cases c26 : a0_4 = 0
      ·
       rw [if_pos c26] at H
       have c26b0 : (a0_4 == 0) = true := beq_iff_eq.mpr c26
       have c26b1 : (a0_4 != 0) = false := bne_eq_false_iff_eq.mpr c26
       clear c26
       (first | rw [c26b0] | (simp only [i64_w, i32_w]; rw [c26b0]) | skip)
       have H' := Aside0.mk H
       clear H
       obtain ⟨hcz27_0, hcz27_1, hcz27_2, hcz27_3, hcz27_4, hcz27_5, hcz27_6⟩ := blk_c7 BK126.out
       obtain ⟨hfz27_0, hfz27_1, hfz27_2, hfz27_3, hfz27_4, hfz27_5, hfz27_6⟩ := blk_f7 BK126.out
       go_wp2_with (first | ((with_reducible refine gate_callee (f := 59) rfl ?_); refine goesL_ (some 39) rfl rfl Try.func59 (by kernel_rfl) rfl #[.int .i64 a0_2] rfl (by (try simp only [List.map_toArray, List.map_cons, List.map_nil]); first | done | rfl | (simp only [List.length_drop, List.length_take]; rfl)) ?_; (with_reducible refine (spec_HasPorts.calls a0_2 false _ A23.out).mono ?_); rintro e w' ⟨rfl, ⟨nd, rfl⟩⟩; refine ⟨_, rfl, ?_⟩))
       go_meet
       case rel => exact ⟨_, ((a0_5 != 0)), (by first | rfl | (simp; done) | (simp [*]; done)), H', ⟨by have := HJ1.out; first | omega | exact Nat.le_refl _⟩, ⟨by (with_reducible repeat (first | refine blk_drewN ?_ _ | refine blk_drew ?_ | refine blk_alloc ?_ _)); exact BK126.out⟩, ⟨by repeat (first | (with_reducible first | exact HB.out | apply below_alloc | apply pw_below_drewN | apply below_drew1 | refine below_set ?_ GE126.out) | exact HB.out)⟩⟩
      ·
       rw [if_neg c26] at H
       have c26b0 : (a0_4 == 0) = false := beq_eq_false_iff_ne.mpr c26
       have c26b1 : (a0_4 != 0) = true := bne_iff_ne.mpr c26
       (first | rw [c26b0] | (simp only [i64_w, i32_w]; rw [c26b0]) | skip)
       have H' := Aside0.mk H
       clear H
       obtain ⟨hcz28_0, hcz28_1, hcz28_2, hcz28_3, hcz28_4, hcz28_5, hcz28_6⟩ := blk_c7 BK126.out
       obtain ⟨hfz28_0, hfz28_1, hfz28_2, hfz28_3, hfz28_4, hfz28_5, hfz28_6⟩ := blk_f7 BK126.out
       go_wp2_with (first | ((with_reducible refine gate_callee (f := 59) rfl ?_); refine goesL_ (some 39) rfl rfl Try.func59 (by kernel_rfl) rfl #[.int .i64 a0_2] rfl (by (try simp only [List.map_toArray, List.map_cons, List.map_nil]); first | done | rfl | (simp only [List.length_drop, List.length_take]; rfl)) ?_; (with_reducible refine (spec_HasPorts.calls a0_2 false _ A23.out).mono ?_); rintro e w' ⟨rfl, ⟨nd, rfl⟩⟩; refine ⟨_, rfl, ?_⟩))
       go_meet
       case rel => exact ⟨_, (true), (by first | rfl | (simp; done) | (simp [*]; done)), H', ⟨by have := HJ1.out; first | omega | exact Nat.le_refl _⟩, ⟨by (with_reducible repeat (first | refine blk_drewN ?_ _ | refine blk_drew ?_ | refine blk_alloc ?_ _)); exact BK126.out⟩, ⟨by repeat (first | (with_reducible first | exact HB.out | apply below_alloc | apply pw_below_drewN | apply below_drew1 | refine below_set ?_ GE126.out) | exact HB.out)⟩⟩
    case rest =>
     clear HC22
     try clear c1; try clear c2; try clear p2; try clear c5; try clear c6; try clear c7; try clear c9; try clear c11; try clear c13; try clear c21; try clear c24; try clear c26; try clear c26b0; try clear c26b1; try clear hcz15_0; try clear hcz15_1; try clear hcz15_2; try clear hcz15_3; try clear hcz15_4; try clear hcz15_5; try clear hcz15_6; try clear hcz16_0; try clear hcz16_1; try clear hcz16_2; try clear hcz16_3; try clear hcz16_4; try clear hcz16_5; try clear hcz16_6; try clear hcz17_0; try clear hcz17_1; try clear hcz17_2; try clear hcz17_3; try clear hcz17_4; try clear hcz17_5; try clear hcz17_6; try clear hcz18_0; try clear hcz18_1; try clear hcz18_2; try clear hcz18_3; try clear hcz18_4; try clear hcz18_5; try clear hcz18_6; try clear hcz19_0; try clear hcz19_1; try clear hcz19_2; try clear hcz19_3; try clear hcz19_4; try clear hcz19_5; try clear hcz19_6; try clear hcz20_0; try clear hcz20_1; try clear hcz20_2; try clear hcz20_3; try clear hcz20_4; try clear hcz20_5; try clear hcz20_6; try clear hcz25_0; try clear hcz25_1; try clear hcz25_2; try clear hcz25_3; try clear hcz25_4; try clear hcz25_5; try clear hcz25_6; try clear hcz27_0; try clear hcz27_1; try clear hcz27_2; try clear hcz27_3; try clear hcz27_4; try clear hcz27_5; try clear hcz27_6; try clear hcz28_0; try clear hcz28_1; try clear hcz28_2; try clear hcz28_3; try clear hcz28_4; try clear hcz28_5; try clear hcz28_6; try clear hfz15_0; try clear hfz15_1; try clear hfz15_2; try clear hfz15_3; try clear hfz15_4; try clear hfz15_5; try clear hfz15_6; try clear hfz16_0; try clear hfz16_1; try clear hfz16_2; try clear hfz16_3; try clear hfz16_4; try clear hfz16_5; try clear hfz16_6; try clear hfz17_0; try clear hfz17_1; try clear hfz17_2; try clear hfz17_3; try clear hfz17_4; try clear hfz17_5; try clear hfz17_6; try clear hfz18_0; try clear hfz18_1; try clear hfz18_2; try clear hfz18_3; try clear hfz18_4; try clear hfz18_5; try clear hfz18_6; try clear hfz19_0; try clear hfz19_1; try clear hfz19_2; try clear hfz19_3; try clear hfz19_4; try clear hfz19_5; try clear hfz19_6; try clear hfz20_0; try clear hfz20_1; try clear hfz20_2; try clear hfz20_3; try clear hfz20_4; try clear hfz20_5; try clear hfz20_6; try clear hfz25_0; try clear hfz25_1; try clear hfz25_2; try clear hfz25_3; try clear hfz25_4; try clear hfz25_5; try clear hfz25_6; try clear hfz27_0; try clear hfz27_1; try clear hfz27_2; try clear hfz27_3; try clear hfz27_4; try clear hfz27_5; try clear hfz27_6; try clear hfz28_0; try clear hfz28_1; try clear hfz28_2; try clear hfz28_3; try clear hfz28_4; try clear hfz28_5; try clear hfz28_6; try clear p2
     obtain ⟨kq, x50_21, rfl, HA, HJ21, BK126, HB⟩ := hcut
     cases kq with
     | zero => exact absurd HA.out (by simp [spec_PacketFault.j1])
     | succ kj21 =>
      have H := HA.out
      clear HA
      simp only [spec_PacketFault.j1] at H
      by_cases c29 : x50_21 = true
      ·
       subst c29
       have H1 : (some 1) = some r := by rw [if_pos rfl] at H; exact H
       clear H
       have H := H1
       clear H1
       obtain rfl := Option.some.inj H
       go_wp2
       go_ret
       exact ⟨by first | rfl | (simp [errW_none, errW_some] <;> rfl) | (simp [*, errW_none, errW_some] <;> rfl), by repeat (first | (with_reducible first | exact HB.out | apply below_alloc | apply pw_below_drewN | apply below_drew1 | refine below_set ?_ GE126.out) | exact HB.out)⟩
      ·
       replace c29 := Bool.eq_false_iff.mpr c29
       subst c29
       have H1 : (if (l0_6.length : Int) > 200 then (some 2) else (some 0)) = some r := by rw [if_neg (show ¬ (false = true) by decide)] at H; exact H
       clear H
       have H := H1
       clear H1
       by_cases c30 : (l0_6.length : Int) > 200
       ·
        rw [if_pos c30] at H
        have c30b0 : decide (200 < (l0_6.length : Int)) = true := decide_eq_true c30
        have c30b1 : decide (200 < l0_6.length) = true := decide_eq_true (by omega)
        clear c30
        obtain rfl := Option.some.inj H
        obtain ⟨hcz31_0, hcz31_1, hcz31_2, hcz31_3, hcz31_4, hcz31_5, hcz31_6⟩ := blk_c7 BK126.out
        obtain ⟨hfz31_0, hfz31_1, hfz31_2, hfz31_3, hfz31_4, hfz31_5, hfz31_6⟩ := blk_f7 BK126.out
        go_wp2
        go_ret
        exact ⟨by first | rfl | (simp [errW_none, errW_some] <;> rfl) | (simp [*, errW_none, errW_some] <;> rfl), by repeat (first | (with_reducible first | exact HB.out | apply below_alloc | apply pw_below_drewN | apply below_drew1 | refine below_set ?_ GE126.out) | exact HB.out)⟩
       ·
        rw [if_neg c30] at H
        have c30b0 : decide (200 < (l0_6.length : Int)) = false := decide_eq_false c30
        have c30b1 : decide (200 < l0_6.length) = false := decide_eq_false (by omega)
        clear c30
        obtain rfl := Option.some.inj H
        obtain ⟨hcz32_0, hcz32_1, hcz32_2, hcz32_3, hcz32_4, hcz32_5, hcz32_6⟩ := blk_c7 BK126.out
        obtain ⟨hfz32_0, hfz32_1, hfz32_2, hfz32_3, hfz32_4, hfz32_5, hfz32_6⟩ := blk_f7 BK126.out
        go_wp2
        go_ret
        exact ⟨by first | rfl | (simp [errW_none, errW_some] <;> rfl) | (simp [*, errW_none, errW_some] <;> rfl), by repeat (first | (with_reducible first | exact HB.out | apply below_alloc | apply pw_below_drewN | apply below_drew1 | refine below_set ?_ GE126.out) | exact HB.out)⟩

/-! ### spec_l2Copy: function 65 -/
def spec_l2Copy.f (a0_0 : Int) (a0_1 : Int) (a0_2 : Int) (a0_3 : Int) (a0_4 : Int) (a0_5 : Int) (l0_6 : List Int) : Option (Int × Int × Int × Int × Int × Int × List Int) := (some (([] : List Int) : List Int)).bind fun y136 => (if y136.length + l0_6.length < 140737488355328 then (some (a0_0, a0_1, a0_2, a0_3, a0_4, a0_5, (y136 ++ l0_6))) else (none))
set_option maxHeartbeats 8000000 in
set_option maxRecDepth 100000 in
theorem spec_l2Copy.calls (a0_0 : Int) (a0_1 : Int) (a0_2 : Int) (a0_3 : Int) (a0_4 : Int) (a0_5 : Int) (A0_6 : Option Addr) (c0_6 : Nat) (l0_6 : List Int) (r1 : Int) (r2 : Int) (r3 : Int) (r4 : Int) (r5 : Int) (r6 : Int) (r7 : List Int) (w : World) (hr0_6 : Kd.C (Kd.int .u8) w A0_6 l0_6.length l0_6) (hc0_6 : l0_6.length ≤ c0_6) (h : spec_l2Copy.f a0_0 a0_1 a0_2 a0_3 a0_4 a0_5 l0_6 = some (r1, r2, r3, r4, r5, r6, r7)) :
  Calls Try.prog 65 #[.agg #[.int .i64 a0_0, .int .i64 a0_1, .int .i64 a0_2, .int .i64 a0_3, .int .i64 a0_4, .int .i64 a0_5, .slice A0_6 l0_6.length c0_6]] w fun e w' => ∃ v6_ : Value, e = .returned (.agg #[.int .i64 r1, .int .i64 r2, .int .i64 r3, .int .i64 r4, .int .i64 r5, .int .i64 r6, v6_]) ∧ Kd.R (Kd.int .u8) 5 w' w.heap.size (fun _ => True) v6_ r7 ∧ Below w.heap.size w w' := by
 have hu53 := Try.underlying53
 have HR0_6 := Aside0.mk hr0_6
 have HC0_6 := Aside0.mk hc0_6
 clear hr0_6 hc0_6
 have HB := Aside0.mk (Below.refl w.heap.size w)
 have H : ((some (([] : List Int) : List Int)).bind fun y136 => (if y136.length + l0_6.length < 140737488355328 then (some (a0_0, a0_1, a0_2, a0_3, a0_4, a0_5, (y136 ++ l0_6))) else (none))) = some (r1, r2, r3, r4, r5, r6, r7) := h
 clear h
 obtain ⟨y136, hy136⟩ : ∃ y_ : List Int, y_ = (([] : List Int)) := ⟨_, rfl⟩
 replace H : (if y136.length + l0_6.length < 140737488355328 then (some (a0_0, a0_1, a0_2, a0_3, a0_4, a0_5, (y136 ++ l0_6))) else (none)) = some (r1, r2, r3, r4, r5, r6, r7) := by first | (rw [hy136]; with_reducible exact H) | (have H2_ := (Option.bind_some _ _).symm.trans H; rw [hy136]; with_reducible exact H2_) | (have H2_ := (Option.bind_some _ _).symm.trans H; with_reducible exact H2_) | with_reducible exact H | (rw [hy136]; exact H) | exact H
 have Ny136 := Aside0.mk hy136
 clear hy136
 by_cases c2 : y136.length + l0_6.length < 140737488355328
 ·
  rw [if_pos c2] at H
  have LMc2 := Aside0.mk c2
  clear c2
  obtain ⟨y139, hy139⟩ : ∃ y_ : List Int, y_ = (y136 ++ l0_6) := ⟨_, rfl⟩
  replace H : (some (a0_0, a0_1, a0_2, a0_3, a0_4, a0_5, y139)) = some (r1, r2, r3, r4, r5, r6, r7) := by first | (rw [hy139]; with_reducible exact H) | (have H2_ := (Option.bind_some _ _).symm.trans H; rw [hy139]; with_reducible exact H2_) | (have H2_ := (Option.bind_some _ _).symm.trans H; with_reducible exact H2_) | with_reducible exact H | (rw [hy139]; exact H) | exact H
  have Ny139 := Aside0.mk hy139
  clear hy139
  simp only [Option.some.injEq, Prod.mk.injEq] at H
  obtain ⟨rfl, rfl, rfl, rfl, rfl, rfl, rfl⟩ := H
  go_enter Try.func65, Try.ntmps65
  go_wp2_with (first | ((with_reducible refine gate_dst (N := 1) rfl ?_); refine box_event ?hg (N := 1) ?hd (cs := #[.int .i64 a0_0, .int .i64 a0_1, .int .i64 a0_2, .int .i64 a0_3, .int .i64 a0_4, .int .i64 a0_5, .slice A0_6 l0_6.length c0_6]) (t := 53) ?hr ?_; (case hd => rfl); (case hg => rfl); (case hr => first | (go_simp; done) | (go_simp; rfl)); intro gb134 hg w3 hbox hb; have n0_ := Aside0.mk (below_step (by repeat (first | (with_reducible first | exact HB.out | apply below_alloc | apply pw_below_drewN | apply below_drew1) | exact HB.out)) hb); have n1_ := Aside0.mk (hbox); have n2_ := Aside0.mk ((by rw [hg]; exact (below_size (by repeat (first | (with_reducible first | exact HB.out | apply below_alloc | apply pw_below_drewN | apply below_drew1) | exact HB.out))) : w.heap.size ≤ gb134)); have n3_ := Aside0.mk ((by rw [hg]; exact (below_size (by repeat (first | (with_reducible first | exact HB.out | apply below_alloc | apply pw_below_drewN | apply below_drew1) | exact HB.out))) : w.heap.size ≤ gb134)); clear HB; have HB := n0_; have BK134 := n1_; have GW134 := n2_; have GE134 := n3_; clear n0_ n1_ n2_ n3_; clear hb hbox hg) | ((with_reducible refine gate_dst (N := 2) rfl ?_); refine box_event ?hg (N := 2) ?hd (cs := #[.int .i64 0, .int .i64 0, .int .i64 0, .int .i64 0, .int .i64 0, .int .i64 0, .slice none 0 0]) (t := 53) ?hr ?_; (case hd => rfl); (case hg => rfl); (case hr => first | (go_simp; done) | (go_simp; rfl)); intro gb135 hg w4 hbox hb; have n0_ := Aside0.mk (blk_below_u BK134.out hb); have n1_ := Aside0.mk (below_step (by repeat (first | (with_reducible first | exact HB.out | apply below_alloc | apply pw_below_drewN | apply below_drew1 | refine below_set ?_ GE134.out) | exact HB.out)) hb); have n2_ := Aside0.mk (hbox); have n3_ := Aside0.mk ((by rw [hg]; exact (below_size (by repeat (first | (with_reducible first | exact HB.out | apply below_alloc | apply pw_below_drewN | apply below_drew1 | refine below_set ?_ GE134.out) | exact HB.out))) : w.heap.size ≤ gb135)); have n4_ := Aside0.mk ((by rw [hg]; exact (below_size (by repeat (first | (with_reducible first | exact HB.out | apply below_alloc | apply pw_below_drewN | apply below_drew1 | refine below_set ?_ GE134.out) | exact HB.out))) : w.heap.size ≤ gb135)); have n5_ := Aside0.mk ((by rw [hg]; exact Nat.ne_of_lt (blk_lt_u BK134.out) : gb134 ≠ gb135)); have n6_ := Aside0.mk ((by rw [hg]; exact Nat.ne_of_gt (blk_lt_u BK134.out) : gb135 ≠ gb134)); clear BK134; clear HB; have BK134 := n0_; have HB := n1_; have BK135 := n2_; have GW135 := n3_; have GE135 := n4_; have NB134_135 := n5_; have NB135_134 := n6_; clear n0_ n1_ n2_ n3_ n4_ n5_ n6_; clear hb hbox hg) | ((with_reducible refine gate_dst (N := 3) rfl ?_); refine Kd.R_lit (Kd.int .u8) _ 5 ?hg (N := 3) ?hd (xs := ([] : List Int)) (inner := []) (ok := fun _ => True) (okp := fun _ => True) ?hr ?hp (fun _ hk => hk) trivial (Below.refl _ _) (Nat.le_refl _) (by simp) ?_; (case hd => rfl); (case hg => rfl); (case hr => first | (go_simp; done) | (go_simp; rfl)); (case hp => exact (Reps.none _ _)); intro v137 w5 ho6 hb hg_ hnew_; clear hg_ hnew_; (first | rw [← Ny136.out] at ho6 | (simp only [Int.reduceToNat] at ho6; rw [← Ny136.out] at ho6)); have n0_ := Aside0.mk (Kd.R_lower ho6 (below_size (by repeat (first | (with_reducible first | exact HB.out | apply below_alloc | apply pw_below_drewN | apply below_drew1 | refine below_set ?_ GE134.out | refine below_set ?_ GE135.out) | exact HB.out)))); have n1_ := Aside0.mk (blk_below_u BK134.out hb); have n2_ := Aside0.mk (blk_below_u BK135.out hb); have n3_ := Aside0.mk (below_step (by repeat (first | (with_reducible first | exact HB.out | apply below_alloc | apply pw_below_drewN | apply below_drew1 | refine below_set ?_ GE134.out | refine below_set ?_ GE135.out) | exact HB.out)) hb); clear BK134; clear BK135; clear HB; have HO138 := n0_; have BK134 := n1_; have BK135 := n2_; have HB := n3_; clear n0_ n1_ n2_ n3_; clear hb ho6; have hnb7 := NB134_135.out; have hnc7 := NB135_134.out; obtain ⟨hcz8_0, hcz8_1, hcz8_2, hcz8_3, hcz8_4, hcz8_5, hcz8_6⟩ := blk_c7 BK134.out; obtain ⟨hfz8_0, hfz8_1, hfz8_2, hfz8_3, hfz8_4, hfz8_5, hfz8_6⟩ := blk_f7 BK134.out) | ((with_reducible refine gate_builtin (b := .append) (xs := #[.tmp 3, .tmp 5]) rfl ?_); at_builtin; refine Kd.R_append_rows (Kd.int .u8) (w0 := w) w.heap.size rfl (.tmp 3) (.tmp 5) 22 5 (.int .u8 0) 1 rfl Try.underlying22 info5 rfl (by decide) (by omega) v137 y136 l0_6 _ _ _ (fun _ => True) (fun _ => False) rfl rfl ?aO ?aR (fun _ _ h => h) (fun _ h => h.elim) ?aF ?aB ?aS ?aL ?_; (case aR => repeat (first | exact (Kd.C_below HR0_6.out HB.out) | (with_reducible refine Kd.C_alloc ?_ _) | (with_reducible refine Kd.C_drewN ?_ _) | (with_reducible refine Kd.C_drew ?_))); (case aB => exact (by repeat (first | (with_reducible first | exact HB.out | apply below_alloc | apply pw_below_drewN | apply below_drew1 | refine below_set ?_ GE134.out | refine below_set ?_ GE135.out) | exact HB.out))); (case aF => exact (fun _ _ => trivial)); (case aO => exact (by (with_reducible repeat (first | apply Kd.R_alloc | apply Kd.R_drewN | apply Kd.R_drew)); exact HO138.out)); (case aS => exact (below_size (by repeat (first | (with_reducible first | exact HB.out | apply below_alloc | apply pw_below_drewN | apply below_drew1 | refine below_set ?_ GE134.out | refine below_set ?_ GE135.out) | exact HB.out)))); (case aL => have := LMc2.out; omega); intro v140 w9 ho hb hg hat; rw [← Ny139.out] at ho; have n0_ := Aside0.mk (blk_grown (g := gb134) (o := .cells #[.int .i64 a0_0, .int .i64 a0_1, .int .i64 a0_2, .int .i64 a0_3, .int .i64 a0_4, .int .i64 a0_5, .slice A0_6 l0_6.length c0_6] 53 (0, 0)) (by (with_reducible repeat (first | refine blk_drewN ?_ _ | refine blk_drew ?_ | refine blk_alloc ?_ _)); exact BK134.out) hg (Kd.R_ne HO138.out BK134.out (by decide))); have n1_ := Aside0.mk (blk_grown (g := gb135) (o := .cells #[.int .i64 0, .int .i64 0, .int .i64 0, .int .i64 0, .int .i64 0, .int .i64 0, .slice none 0 0] 53 (0, 0)) (by (with_reducible repeat (first | refine blk_drewN ?_ _ | refine blk_drew ?_ | refine blk_alloc ?_ _)); exact BK135.out) hg (Kd.R_ne HO138.out BK135.out (by decide))); have n2_ := Aside0.mk (hb); have n3_ := Aside0.mk (ho); clear BK134; clear BK135; clear HB; clear HO138; have BK134 := n0_; have BK135 := n1_; have HB := n2_; have HO141 := n3_; clear n0_ n1_ n2_ n3_; clear ho hb hg hat; obtain ⟨Ao10, co10, eo10⟩ := Kd.R_slice HO141.out; subst eo10; obtain ⟨hcz11_0, hcz11_1, hcz11_2, hcz11_3, hcz11_4, hcz11_5, hcz11_6⟩ := blk_c7 BK134.out; obtain ⟨hfz11_0, hfz11_1, hfz11_2, hfz11_3, hfz11_4, hfz11_5, hfz11_6⟩ := blk_f7 BK134.out; obtain ⟨hcz12_0, hcz12_1, hcz12_2, hcz12_3, hcz12_4, hcz12_5, hcz12_6⟩ := blk_c7 BK135.out; obtain ⟨hfz12_0, hfz12_1, hfz12_2, hfz12_3, hfz12_4, hfz12_5, hfz12_6⟩ := blk_f7 BK135.out))
  refine bodyPost_ret (results_cell_row rfl _ _ gb135 53 #[.int .i64 a0_0, .int .i64 a0_1, .int .i64 a0_2, .int .i64 a0_3, .int .i64 a0_4, .int .i64 a0_5, .slice Ao10 y139.length co10] (0, 0) _ rfl (by (with_reducible repeat (first | refine blk_drewN ?_ _ | refine blk_drew ?_ | refine blk_alloc ?_ _)); refine blk_put (cs := #[.int .i64 a0_0, .int .i64 a0_1, .int .i64 a0_2, .int .i64 a0_3, .int .i64 a0_4, .int .i64 a0_5, .slice none 0 0]) ?_ 6 _ rfl; (with_reducible repeat (first | refine blk_drewN ?_ _ | refine blk_drew ?_ | refine blk_alloc ?_ _)); refine blk_put (cs := #[.int .i64 a0_0, .int .i64 a0_1, .int .i64 a0_2, .int .i64 a0_3, .int .i64 a0_4, .int .i64 0, .slice none 0 0]) ?_ 5 _ rfl; (with_reducible repeat (first | refine blk_drewN ?_ _ | refine blk_drew ?_ | refine blk_alloc ?_ _)); refine blk_put (cs := #[.int .i64 a0_0, .int .i64 a0_1, .int .i64 a0_2, .int .i64 a0_3, .int .i64 0, .int .i64 0, .slice none 0 0]) ?_ 4 _ rfl; (with_reducible repeat (first | refine blk_drewN ?_ _ | refine blk_drew ?_ | refine blk_alloc ?_ _)); refine blk_put (cs := #[.int .i64 a0_0, .int .i64 a0_1, .int .i64 a0_2, .int .i64 0, .int .i64 0, .int .i64 0, .slice none 0 0]) ?_ 3 _ rfl; (with_reducible repeat (first | refine blk_drewN ?_ _ | refine blk_drew ?_ | refine blk_alloc ?_ _)); refine blk_put (cs := #[.int .i64 a0_0, .int .i64 a0_1, .int .i64 0, .int .i64 0, .int .i64 0, .int .i64 0, .slice none 0 0]) ?_ 2 _ rfl; (with_reducible repeat (first | refine blk_drewN ?_ _ | refine blk_drew ?_ | refine blk_alloc ?_ _)); refine blk_put (cs := #[.int .i64 a0_0, .int .i64 0, .int .i64 0, .int .i64 0, .int .i64 0, .int .i64 0, .slice none 0 0]) ?_ 1 _ rfl; (with_reducible repeat (first | refine blk_drewN ?_ _ | refine blk_drew ?_ | refine blk_alloc ?_ _)); refine blk_put (cs := #[.int .i64 0, .int .i64 0, .int .i64 0, .int .i64 0, .int .i64 0, .int .i64 0, .slice none 0 0]) ?_ 0 _ rfl; (with_reducible repeat (first | refine blk_drewN ?_ _ | refine blk_drew ?_ | refine blk_alloc ?_ _)); refine blk_far ?_ NB135_134.out _; (with_reducible repeat (first | refine blk_drewN ?_ _ | refine blk_drew ?_ | refine blk_alloc ?_ _)); exact BK135.out) Try.underlying53 rfl (by kernel_rfl)) rfl ?_
  exact ⟨_, by first | rfl | (simp [errW_none, errW_some] <;> rfl) | (simp [*, errW_none, errW_some] <;> rfl), by (with_reducible repeat (first | apply Kd.R_alloc | apply Kd.R_drewN | apply Kd.R_drew)); exact Kd.R_mono (Kd.R_far (p := ⟨gb135, 6, none⟩) (Kd.R_far (p := ⟨gb135, 5, none⟩) (Kd.R_far (p := ⟨gb135, 4, none⟩) (Kd.R_far (p := ⟨gb135, 3, none⟩) (Kd.R_far (p := ⟨gb135, 2, none⟩) (Kd.R_far (p := ⟨gb135, 1, none⟩) (Kd.R_far (p := ⟨gb135, 0, none⟩) (Kd.R_far (p := ⟨gb134, 6, none⟩) (Kd.R_types (Kd.R_types HO141.out BK134.out (by decide)) BK135.out (by decide)) (fun _ hk => hk.1.2) (.slice Ao10 y139.length co10)) (fun _ hk => hk.2) (.int .i64 a0_0)) (fun _ hk => hk.2) (.int .i64 a0_1)) (fun _ hk => hk.2) (.int .i64 a0_2)) (fun _ hk => hk.2) (.int .i64 a0_3)) (fun _ hk => hk.2) (.int .i64 a0_4)) (fun _ hk => hk.2) (.int .i64 a0_5)) (fun _ hk => hk.2) (.slice Ao10 y139.length co10)) (fun _ hk => trivial), by repeat (first | (with_reducible first | exact HB.out | apply below_alloc | apply pw_below_drewN | apply below_drew1 | refine below_set ?_ GE134.out | refine below_set ?_ GE135.out) | exact HB.out)⟩
 ·
  rw [if_neg c2] at H
  exact absurd H (by simp)

/-! ### (my own text) boxWords -/
-- the call's own boxes (blocks of cells), beside what was there when it began
structure Boxes (w0 W : World) (bs : List (Nat × Array Value × TypeId)) : Prop where
  low : Below w0.heap.size w0 W
  blk : ∀ x ∈ bs, W.heap[x.1]? = some (.cells x.2.1 x.2.2 (0, 0))
  ge : ∀ x ∈ bs, w0.heap.size ≤ x.1
  ne : bs.Pairwise (fun x y => x.1 ≠ y.1)
theorem Boxes.start (w : World) : Boxes w w [] := ⟨Below.refl _ _, by simp, by simp, List.Pairwise.nil⟩
theorem Boxes.drewN {w0 W : World} {bs : List (Nat × Array Value × TypeId)} (h : Boxes w0 W bs) (n : Nat) : Boxes w0 (W.drewN n) bs := ⟨pw_below_drewN h.low n, h.blk, h.ge, h.ne⟩
theorem Boxes.drew {w0 W : World} {bs : List (Nat × Array Value × TypeId)} (h : Boxes w0 W bs) : Boxes w0 W.drew bs := ⟨below_drew1 h.low, h.blk, h.ge, h.ne⟩
theorem Boxes.below {w0 W W1 : World} {bs : List (Nat × Array Value × TypeId)} (h : Boxes w0 W bs) (hb : Below W.heap.size W W1) : Boxes w0 W1 bs :=
  ⟨below_step h.low hb, fun x hx => blk_below (h.blk x hx) hb, h.ge, h.ne⟩
theorem Boxes.alloc {w0 W : World} {bs : List (Nat × Array Value × TypeId)} (h : Boxes w0 W bs) (o : Obj) : Boxes w0 (W.alloc o) bs := h.below (below_alloc (Below.refl _ _) o)
theorem Boxes.new {w0 W W1 : World} {bs : List (Nat × Array Value × TypeId)} (h : Boxes w0 W bs) {g : Nat} {cs : Array Value} {t : TypeId} (hg : g = W.heap.size) (hbox : W1.heap[g]? = some (.cells cs t (0, 0))) (hb : Below W.heap.size W W1) :
    Boxes w0 W1 ((g, cs, t) :: bs) := by
  have h1 := h.below hb
  refine ⟨h1.low, fun x hx => ?_, fun x hx => ?_, List.pairwise_cons.2 ⟨fun y hy => ?_, h.ne⟩⟩
  · rcases List.mem_cons.1 hx with rfl | hx
    · exact hbox
    · exact h1.blk x hx
  · rcases List.mem_cons.1 hx with rfl | hx
    · rw [hg]
      exact h.low.size
    · exact h.ge x hx
  · rw [hg]
    exact Nat.ne_of_gt (blk_lt (h.blk y hy))
theorem Boxes.at_ {w0 W : World} {bs : List (Nat × Array Value × TypeId)} (h : Boxes w0 W bs) {i g : Nat} {cs : Array Value} {t : TypeId} (hi : bs[i]? = some (g, cs, t)) : W.heap[g]? = some (.cells cs t (0, 0)) := h.blk (g, cs, t) (List.mem_of_getElem? hi)
theorem Boxes.cell {w0 W : World} {bs : List (Nat × Array Value × TypeId)} (h : Boxes w0 W bs) {i g : Nat} {cs : Array Value} {t : TypeId} (hi : bs[i]? = some (g, cs, t)) {j : Nat} {v : Value} (hj : cs[j]? = some v) : W.cell? ⟨g, j, none⟩ = some v := (blk_cell (h.at_ hi) j).trans hj
theorem Boxes.frozen {w0 W : World} {bs : List (Nat × Array Value × TypeId)} (h : Boxes w0 W bs) {i g : Nat} {cs : Array Value} {t : TypeId} (hi : bs[i]? = some (g, cs, t)) (j : Nat) : W.frozen? ⟨g, j, none⟩ = false := blk_frozen (h.at_ hi) j
theorem Boxes.lt {w0 W : World} {bs : List (Nat × Array Value × TypeId)} (h : Boxes w0 W bs) {i g : Nat} {cs : Array Value} {t : TypeId} (hi : bs[i]? = some (g, cs, t)) : g < W.heap.size := blk_lt (h.at_ hi)
theorem Boxes.put {w0 W : World} {b1 b2 : List (Nat × Array Value × TypeId)} {g : Nat} {cs : Array Value} {t : TypeId} (h : Boxes w0 W (b1 ++ (g, cs, t) :: b2)) (i : Nat) (u : Value) :
    Boxes w0 (W.setCell ⟨g, i, none⟩ u) (b1 ++ (g, cs.setIfInBounds i u, t) :: b2) := by
  have hg : w0.heap.size ≤ g := h.ge (g, cs, t) (by simp)
  have hne : ∀ x, x ∈ b1 ∨ x ∈ b2 → x.1 ≠ g := by
    intro x hx
    have h1 := List.pairwise_append.1 h.ne
    rcases hx with hx | hx
    · exact h1.2.2 x hx (g, cs, t) (by simp)
    · exact ((List.pairwise_cons.1 h1.2.1).1 x hx).symm
  refine ⟨below_set h.low hg, fun x hx => ?_, fun x hx => ?_, ?_⟩
  · rw [List.mem_append, List.mem_cons] at hx
    rcases hx with hx | rfl | hx
    · exact blk_far (h.blk x (by simp [hx])) (hne x (.inl hx)) _
    · exact blk_set (h.blk (g, cs, t) (by simp)) i u
    · exact blk_far (h.blk x (by simp [hx])) (hne x (.inr hx)) _
  · rw [List.mem_append, List.mem_cons] at hx
    rcases hx with hx | rfl | hx
    · exact h.ge x (by simp [hx])
    · exact hg
    · exact h.ge x (by simp [hx])
  · have h1 := h.ne
    rw [List.pairwise_append, List.pairwise_cons] at h1 ⊢
    refine ⟨h1.1, ⟨h1.2.1.1, h1.2.1.2⟩, fun a ha b hb => ?_⟩
    rcases List.mem_cons.1 hb with rfl | hb
    · exact hne a (.inl ha)
    · exact h1.2.2 a ha b (by simp [hb])
theorem boxes_store {P : Program} {ops : Array Oper} {rest : List Oper} {o : Oper} {a : Act} {Q : Exit → Act → World → Prop} {w0 W W1 : World} {bs : List (Nat × Array Value × TypeId)} {t : TypeId} {p : Tmp} {v : Operand} (hgd : o.guard = none) (ho : o.op = .store t (.tmp p) v) (hN : o.dst = none)
    (hr : (execOp a.eval o).run P W = .ok .skip W1) (hB : Boxes w0 W1 bs) (h : ∀ w', Boxes w0 w' bs → wpList P ops Q rest a w') : wpList P ops Q (o :: rest) a W := by
  refine store_event hgd ho hN hr ?_
  rintro w' rfl
  exact h _ hB

/-! ### spec_ReverseWay: function 39 (my own text) -/
theorem boxes_storeC {P : Program} {ops : Array Oper} {rest : List Oper} {o : Oper} {a : Act} {Q : Exit → Act → World → Prop} {w0 W W1 : World} {bs : List (Nat × Array Value × TypeId)} {t : TypeId} {p : Tmp} {v : Operand} {C : World → Prop} (hgd : o.guard = none) (ho : o.op = .store t (.tmp p) v) (hN : o.dst = none)
    (hr : (execOp a.eval o).run P W = .ok .skip W1) (hB : Boxes w0 W1 bs) (hC : C W1) (h : ∀ w', Boxes w0 w' bs → C w' → wpList P ops Q rest a w') : wpList P ops Q (o :: rest) a W := by
  refine store_event hgd ho hN hr ?_
  rintro w' rfl
  exact h _ hB hC
theorem spec_ReverseWay_fars {base : Nat} {v : Value} {r : List Int} {t : Nat} (g : Nat) : ∀ (W : World) (us : List (Nat × Value)) {cs : Array Value} (_ : Kd.R (Kd.int .u8) 5 W base (fun _ => True) v r) (_ : W.heap[g]? = some (.cells cs t (0, 0))) (_ : ∀ q, q ∈ 5 :: (Kd.int .u8).E → q ≠ t), Kd.R (Kd.int .u8) 5 (us.foldl (fun W p => W.setCell ⟨g, p.1, none⟩ p.2) W) base (fun _ => True) v r
  | _, [], _, h, _, _ => h
  | W, (j, u) :: us, cs, h, hb, ht => spec_ReverseWay_fars g (W.setCell ⟨g, j, none⟩ u) us (Kd.R_mono (Kd.R_far (p := ⟨g, j, none⟩) (Kd.R_types h hb ht) (fun _ hk => hk.2) u) (fun _ _ => trivial)) (blk_set hb j u) ht
def spec_ReverseWay.f (k : Nat) (a0_0 a0_1 a0_2 a0_3 a0_4 a0_5 : Int) (l0_6 : List Int) : Option (Int × Int × Int × Int × Int × Int × Int × List Int) := (spec_PacketFault.f k a0_0 a0_1 a0_2 a0_3 a0_4 a0_5 l0_6).bind fun t144 => (if t144 = 0 then ((spec_l2Copy.f a0_0 a0_1 a0_2 a0_3 a0_4 a0_5 l0_6).bind fun bt145 => (some (0, a0_1, a0_0, bt145.2.2.1, bt145.2.2.2.1, a0_5, a0_4, bt145.2.2.2.2.2.2))) else ((spec_l2Bad.f t144).bind fun bt155 => (some (bt155.1, bt155.2.1, bt155.2.2.1, bt155.2.2.2.1, bt155.2.2.2.2.1, bt155.2.2.2.2.2.1, bt155.2.2.2.2.2.2.1, bt155.2.2.2.2.2.2.2))))
theorem spec_ReverseWay.mono : ∀ a0_0 a0_1 a0_2 a0_3 a0_4 a0_5 l0_6 k, LeO (spec_ReverseWay.f k a0_0 a0_1 a0_2 a0_3 a0_4 a0_5 l0_6) (spec_ReverseWay.f (k + 1) a0_0 a0_1 a0_2 a0_3 a0_4 a0_5 l0_6) := by
  intro a0_0 a0_1 a0_2 a0_3 a0_4 a0_5 l0_6 k
  unfold spec_ReverseWay.f
  exact LeO.bind (spec_PacketFault.mono _ _ _ _ _ _ _ _) (fun _ => LeO.refl _)
set_option maxHeartbeats 8000000 in
set_option maxRecDepth 100000 in
theorem spec_ReverseWay_l2 (c_ : Int) (w : World) : Calls Try.prog 58 #[.int .i64 c_] w fun e w' => e = .returned (.agg #[.int .i64 c_, .int .i64 0, .int .i64 0, .int .i64 0, .int .i64 0, .int .i64 0, .int .i64 0, .slice none 0 0]) ∧ Below w.heap.size w w' := by
  have BX := Aside0.mk (Boxes.start w)
  have hu55 := Try.underlying55
  go_enter Try.func58, Try.ntmps58
  go_wp2_with (first | ((with_reducible refine gate_dst (N := 2) rfl ?_); refine box_event ?hg (N := 2) ?hd (cs := #[.int .i64 0, .int .i64 0, .int .i64 0, .int .i64 0, .int .i64 0, .int .i64 0, .int .i64 0, .slice none 0 0]) (t := 55) ?hr ?_; (case hd => rfl); (case hg => rfl); (case hr => first | (go_simp; done) | (go_simp; rfl)); intro g2 hg w2_ hbox hb; have BY := Aside0.mk (Boxes.new (w0 := w) (bs := []) (by (with_reducible repeat (first | refine Boxes.drewN ?_ _ | refine Boxes.drew ?_ | refine Boxes.alloc ?_ _)); exact BX.out) hg hbox hb); clear BX hb hbox hg; have BX := BY; clear BY; have q2_0 : World.cell? _ ⟨g2, 0, none⟩ = some (.int .i64 0) := BX.out.cell (i := 0) rfl (j := 0) rfl; have f2_0 : World.frozen? _ ⟨g2, 0, none⟩ = false := BX.out.frozen (i := 0) rfl 0; have q2_1 : World.cell? _ ⟨g2, 1, none⟩ = some (.int .i64 0) := BX.out.cell (i := 0) rfl (j := 1) rfl; have f2_1 : World.frozen? _ ⟨g2, 1, none⟩ = false := BX.out.frozen (i := 0) rfl 1; have q2_2 : World.cell? _ ⟨g2, 2, none⟩ = some (.int .i64 0) := BX.out.cell (i := 0) rfl (j := 2) rfl; have f2_2 : World.frozen? _ ⟨g2, 2, none⟩ = false := BX.out.frozen (i := 0) rfl 2; have q2_3 : World.cell? _ ⟨g2, 3, none⟩ = some (.int .i64 0) := BX.out.cell (i := 0) rfl (j := 3) rfl; have f2_3 : World.frozen? _ ⟨g2, 3, none⟩ = false := BX.out.frozen (i := 0) rfl 3; have q2_4 : World.cell? _ ⟨g2, 4, none⟩ = some (.int .i64 0) := BX.out.cell (i := 0) rfl (j := 4) rfl; have f2_4 : World.frozen? _ ⟨g2, 4, none⟩ = false := BX.out.frozen (i := 0) rfl 4; have q2_5 : World.cell? _ ⟨g2, 5, none⟩ = some (.int .i64 0) := BX.out.cell (i := 0) rfl (j := 5) rfl; have f2_5 : World.frozen? _ ⟨g2, 5, none⟩ = false := BX.out.frozen (i := 0) rfl 5; have q2_6 : World.cell? _ ⟨g2, 6, none⟩ = some (.int .i64 0) := BX.out.cell (i := 0) rfl (j := 6) rfl; have f2_6 : World.frozen? _ ⟨g2, 6, none⟩ = false := BX.out.frozen (i := 0) rfl 6; have q2_7 : World.cell? _ ⟨g2, 7, none⟩ = some (.slice none 0 0) := BX.out.cell (i := 0) rfl (j := 7) rfl; have f2_7 : World.frozen? _ ⟨g2, 7, none⟩ = false := BX.out.frozen (i := 0) rfl 7) | ((with_reducible refine gate_store (t := 55) (p := 2) rfl ?_); refine boxes_store (w0 := w) (bs := [(g2, #[.int .i64 c_, .int .i64 0, .int .i64 0, .int .i64 0, .int .i64 0, .int .i64 0, .int .i64 0, .slice none 0 0], 55)]) (W1 := (World.setCell (World.setCell (World.setCell (World.setCell (World.setCell (World.setCell (World.setCell (World.setCell w2_ ⟨g2, 0, none⟩ (.int .i64 c_)) ⟨g2, 1, none⟩ (.int .i64 0)) ⟨g2, 2, none⟩ (.int .i64 0)) ⟨g2, 3, none⟩ (.int .i64 0)) ⟨g2, 4, none⟩ (.int .i64 0)) ⟨g2, 5, none⟩ (.int .i64 0)) ⟨g2, 6, none⟩ (.int .i64 0)) ⟨g2, 7, none⟩ (.slice none 0 0))) rfl rfl rfl ?hr ((((((((Boxes.put (w0 := w) (b1 := []) (b2 := []) (g := g2) (cs := #[.int .i64 0, .int .i64 0, .int .i64 0, .int .i64 0, .int .i64 0, .int .i64 0, .int .i64 0, .slice none 0 0]) (t := 55) BX.out 0 (.int .i64 c_)).put (b1 := []) 1 (.int .i64 0)).put (b1 := []) 2 (.int .i64 0)).put (b1 := []) 3 (.int .i64 0)).put (b1 := []) 4 (.int .i64 0)).put (b1 := []) 5 (.int .i64 0)).put (b1 := []) 6 (.int .i64 0)).put (b1 := []) 7 (.slice none 0 0)) ?_; (case hr => first | (go_simp; done) | (go_simp; rfl)); intro w12_ BY; have BY := Aside0.mk BY; clear BX; have BX := BY; clear BY; clear q2_0 f2_0 q2_1 f2_1 q2_2 f2_2 q2_3 f2_3 q2_4 f2_4 q2_5 f2_5 q2_6 f2_6 q2_7 f2_7; have q2_0 : World.cell? _ ⟨g2, 0, none⟩ = some (.int .i64 c_) := BX.out.cell (i := 0) rfl (j := 0) rfl; have f2_0 : World.frozen? _ ⟨g2, 0, none⟩ = false := BX.out.frozen (i := 0) rfl 0; have q2_1 : World.cell? _ ⟨g2, 1, none⟩ = some (.int .i64 0) := BX.out.cell (i := 0) rfl (j := 1) rfl; have f2_1 : World.frozen? _ ⟨g2, 1, none⟩ = false := BX.out.frozen (i := 0) rfl 1; have q2_2 : World.cell? _ ⟨g2, 2, none⟩ = some (.int .i64 0) := BX.out.cell (i := 0) rfl (j := 2) rfl; have f2_2 : World.frozen? _ ⟨g2, 2, none⟩ = false := BX.out.frozen (i := 0) rfl 2; have q2_3 : World.cell? _ ⟨g2, 3, none⟩ = some (.int .i64 0) := BX.out.cell (i := 0) rfl (j := 3) rfl; have f2_3 : World.frozen? _ ⟨g2, 3, none⟩ = false := BX.out.frozen (i := 0) rfl 3; have q2_4 : World.cell? _ ⟨g2, 4, none⟩ = some (.int .i64 0) := BX.out.cell (i := 0) rfl (j := 4) rfl; have f2_4 : World.frozen? _ ⟨g2, 4, none⟩ = false := BX.out.frozen (i := 0) rfl 4; have q2_5 : World.cell? _ ⟨g2, 5, none⟩ = some (.int .i64 0) := BX.out.cell (i := 0) rfl (j := 5) rfl; have f2_5 : World.frozen? _ ⟨g2, 5, none⟩ = false := BX.out.frozen (i := 0) rfl 5; have q2_6 : World.cell? _ ⟨g2, 6, none⟩ = some (.int .i64 0) := BX.out.cell (i := 0) rfl (j := 6) rfl; have f2_6 : World.frozen? _ ⟨g2, 6, none⟩ = false := BX.out.frozen (i := 0) rfl 6; have q2_7 : World.cell? _ ⟨g2, 7, none⟩ = some (.slice none 0 0) := BX.out.cell (i := 0) rfl (j := 7) rfl; have f2_7 : World.frozen? _ ⟨g2, 7, none⟩ = false := BX.out.frozen (i := 0) rfl 7) | fail)
  refine bodyPost_ret (results_cell_row rfl _ _ g2 55 #[.int .i64 c_, .int .i64 0, .int .i64 0, .int .i64 0, .int .i64 0, .int .i64 0, .int .i64 0, .slice none 0 0] (0, 0) _ rfl (Boxes.at_ (w0 := w) (bs := [(g2, #[.int .i64 c_, .int .i64 0, .int .i64 0, .int .i64 0, .int .i64 0, .int .i64 0, .int .i64 0, .slice none 0 0], 55)]) (by (with_reducible repeat (first | refine Boxes.drewN ?_ _ | refine Boxes.drew ?_ | refine Boxes.alloc ?_ _)); exact BX.out) (i := 0) rfl) Try.underlying55 rfl (by kernel_rfl)) rfl ?_
  exact ⟨rfl, Boxes.low (w0 := w) (bs := [(g2, #[.int .i64 c_, .int .i64 0, .int .i64 0, .int .i64 0, .int .i64 0, .int .i64 0, .int .i64 0, .slice none 0 0], 55)]) (by (with_reducible repeat (first | refine Boxes.drewN ?_ _ | refine Boxes.drew ?_ | refine Boxes.alloc ?_ _)); exact BX.out)⟩
set_option maxHeartbeats 8000000 in
set_option maxRecDepth 100000 in
theorem spec_ReverseWay_good (k : Nat) (a0_0 : Int) (a0_1 : Int) (a0_2 : Int) (a0_3 : Int) (a0_4 : Int) (a0_5 : Int) (A0_6 : Option Addr) (c0_6 : Nat) (l0_6 : List Int) (t1 t2 t3 t4 t5 t6 : Int) (l7 : List Int) (w : World) (hr0_6 : Kd.C (Kd.int .u8) w A0_6 l0_6.length l0_6) (hc0_6 : l0_6.length ≤ c0_6) (h1 : spec_PacketFault.f k a0_0 a0_1 a0_2 a0_3 a0_4 a0_5 l0_6 = some 0) (h2 : spec_l2Copy.f a0_0 a0_1 a0_2 a0_3 a0_4 a0_5 l0_6 = some (t1, t2, t3, t4, t5, t6, l7)) :
    Calls Try.prog 39 #[.agg #[.int .i64 a0_0, .int .i64 a0_1, .int .i64 a0_2, .int .i64 a0_3, .int .i64 a0_4, .int .i64 a0_5, .slice A0_6 l0_6.length c0_6]] w fun e w' => ∃ v7_ : Value, e = .returned (.agg #[.int .i64 0, .int .i64 a0_1, .int .i64 a0_0, .int .i64 t3, .int .i64 t4, .int .i64 a0_5, .int .i64 a0_4, v7_]) ∧ Kd.R (Kd.int .u8) 5 w' w.heap.size (fun _ => True) v7_ l7 ∧ Below w.heap.size w w' := by
  have hu53 := Try.underlying53
  have hu55 := Try.underlying55
  have HF := Aside0.mk (fun (W : World) (hb : Below w.heap.size w W) => spec_PacketFault.calls k a0_0 a0_1 a0_2 a0_3 a0_4 a0_5 A0_6 c0_6 l0_6 0 W (Kd.C_below hr0_6 hb) hc0_6 h1)
  have HC := Aside0.mk (fun (W : World) (hb : Below w.heap.size w W) => spec_l2Copy.calls a0_0 a0_1 a0_2 a0_3 a0_4 a0_5 A0_6 c0_6 l0_6 t1 t2 t3 t4 t5 t6 l7 W (Kd.C_below hr0_6 hb) hc0_6 h2)
  have BX := Aside0.mk (Boxes.start w)
  clear h1 h2 hr0_6
  go_enter Try.func39, Try.ntmps39
  go_wp2_with (first | ((with_reducible refine gate_dst (N := 1) rfl ?_); refine box_event ?hg (N := 1) ?hd (cs := #[.int .i64 a0_0, .int .i64 a0_1, .int .i64 a0_2, .int .i64 a0_3, .int .i64 a0_4, .int .i64 a0_5, .slice A0_6 l0_6.length c0_6]) (t := 53) ?hr ?_; (case hd => rfl); (case hg => rfl); (case hr => first | (go_simp; done) | (go_simp; rfl)); intro g1 hg w1_ hbox hb; have BY := Aside0.mk (Boxes.new (w0 := w) (bs := []) (by (with_reducible repeat (first | refine Boxes.drewN ?_ _ | refine Boxes.drew ?_ | refine Boxes.alloc ?_ _)); exact BX.out) hg hbox hb); clear BX hb hbox hg; have BX := BY; clear BY; have q1_0 : World.cell? _ ⟨g1, 0, none⟩ = some (.int .i64 a0_0) := BX.out.cell (i := 0) rfl (j := 0) rfl; have f1_0 : World.frozen? _ ⟨g1, 0, none⟩ = false := BX.out.frozen (i := 0) rfl 0; have q1_1 : World.cell? _ ⟨g1, 1, none⟩ = some (.int .i64 a0_1) := BX.out.cell (i := 0) rfl (j := 1) rfl; have f1_1 : World.frozen? _ ⟨g1, 1, none⟩ = false := BX.out.frozen (i := 0) rfl 1; have q1_2 : World.cell? _ ⟨g1, 2, none⟩ = some (.int .i64 a0_2) := BX.out.cell (i := 0) rfl (j := 2) rfl; have f1_2 : World.frozen? _ ⟨g1, 2, none⟩ = false := BX.out.frozen (i := 0) rfl 2; have q1_3 : World.cell? _ ⟨g1, 3, none⟩ = some (.int .i64 a0_3) := BX.out.cell (i := 0) rfl (j := 3) rfl; have f1_3 : World.frozen? _ ⟨g1, 3, none⟩ = false := BX.out.frozen (i := 0) rfl 3; have q1_4 : World.cell? _ ⟨g1, 4, none⟩ = some (.int .i64 a0_4) := BX.out.cell (i := 0) rfl (j := 4) rfl; have f1_4 : World.frozen? _ ⟨g1, 4, none⟩ = false := BX.out.frozen (i := 0) rfl 4; have q1_5 : World.cell? _ ⟨g1, 5, none⟩ = some (.int .i64 a0_5) := BX.out.cell (i := 0) rfl (j := 5) rfl; have f1_5 : World.frozen? _ ⟨g1, 5, none⟩ = false := BX.out.frozen (i := 0) rfl 5; have q1_6 : World.cell? _ ⟨g1, 6, none⟩ = some (.slice A0_6 l0_6.length c0_6) := BX.out.cell (i := 0) rfl (j := 6) rfl; have f1_6 : World.frozen? _ ⟨g1, 6, none⟩ = false := BX.out.frozen (i := 0) rfl 6) | ((with_reducible refine gate_dst (N := 2) rfl ?_); refine box_event ?hg (N := 2) ?hd (cs := #[.int .i64 0, .int .i64 0, .int .i64 0, .int .i64 0, .int .i64 0, .int .i64 0, .int .i64 0, .slice none 0 0]) (t := 55) ?hr ?_; (case hd => rfl); (case hg => rfl); (case hr => first | (go_simp; done) | (go_simp; rfl)); intro g2 hg w2_ hbox hb; have BY := Aside0.mk (Boxes.new (w0 := w) (bs := [(g1, #[.int .i64 a0_0, .int .i64 a0_1, .int .i64 a0_2, .int .i64 a0_3, .int .i64 a0_4, .int .i64 a0_5, .slice A0_6 l0_6.length c0_6], 53)]) (by (with_reducible repeat (first | refine Boxes.drewN ?_ _ | refine Boxes.drew ?_ | refine Boxes.alloc ?_ _)); exact BX.out) hg hbox hb); clear BX hb hbox hg; have BX := BY; clear BY; clear q1_0 f1_0 q1_1 f1_1 q1_2 f1_2 q1_3 f1_3 q1_4 f1_4 q1_5 f1_5 q1_6 f1_6; have q2_0 : World.cell? _ ⟨g2, 0, none⟩ = some (.int .i64 0) := BX.out.cell (i := 0) rfl (j := 0) rfl; have f2_0 : World.frozen? _ ⟨g2, 0, none⟩ = false := BX.out.frozen (i := 0) rfl 0; have q2_1 : World.cell? _ ⟨g2, 1, none⟩ = some (.int .i64 0) := BX.out.cell (i := 0) rfl (j := 1) rfl; have f2_1 : World.frozen? _ ⟨g2, 1, none⟩ = false := BX.out.frozen (i := 0) rfl 1; have q2_2 : World.cell? _ ⟨g2, 2, none⟩ = some (.int .i64 0) := BX.out.cell (i := 0) rfl (j := 2) rfl; have f2_2 : World.frozen? _ ⟨g2, 2, none⟩ = false := BX.out.frozen (i := 0) rfl 2; have q2_3 : World.cell? _ ⟨g2, 3, none⟩ = some (.int .i64 0) := BX.out.cell (i := 0) rfl (j := 3) rfl; have f2_3 : World.frozen? _ ⟨g2, 3, none⟩ = false := BX.out.frozen (i := 0) rfl 3; have q2_4 : World.cell? _ ⟨g2, 4, none⟩ = some (.int .i64 0) := BX.out.cell (i := 0) rfl (j := 4) rfl; have f2_4 : World.frozen? _ ⟨g2, 4, none⟩ = false := BX.out.frozen (i := 0) rfl 4; have q2_5 : World.cell? _ ⟨g2, 5, none⟩ = some (.int .i64 0) := BX.out.cell (i := 0) rfl (j := 5) rfl; have f2_5 : World.frozen? _ ⟨g2, 5, none⟩ = false := BX.out.frozen (i := 0) rfl 5; have q2_6 : World.cell? _ ⟨g2, 6, none⟩ = some (.int .i64 0) := BX.out.cell (i := 0) rfl (j := 6) rfl; have f2_6 : World.frozen? _ ⟨g2, 6, none⟩ = false := BX.out.frozen (i := 0) rfl 6; have q2_7 : World.cell? _ ⟨g2, 7, none⟩ = some (.slice none 0 0) := BX.out.cell (i := 0) rfl (j := 7) rfl; have f2_7 : World.frozen? _ ⟨g2, 7, none⟩ = false := BX.out.frozen (i := 0) rfl 7; have q1_0 : World.cell? _ ⟨g1, 0, none⟩ = some (.int .i64 a0_0) := BX.out.cell (i := 1) rfl (j := 0) rfl; have f1_0 : World.frozen? _ ⟨g1, 0, none⟩ = false := BX.out.frozen (i := 1) rfl 0; have q1_1 : World.cell? _ ⟨g1, 1, none⟩ = some (.int .i64 a0_1) := BX.out.cell (i := 1) rfl (j := 1) rfl; have f1_1 : World.frozen? _ ⟨g1, 1, none⟩ = false := BX.out.frozen (i := 1) rfl 1; have q1_2 : World.cell? _ ⟨g1, 2, none⟩ = some (.int .i64 a0_2) := BX.out.cell (i := 1) rfl (j := 2) rfl; have f1_2 : World.frozen? _ ⟨g1, 2, none⟩ = false := BX.out.frozen (i := 1) rfl 2; have q1_3 : World.cell? _ ⟨g1, 3, none⟩ = some (.int .i64 a0_3) := BX.out.cell (i := 1) rfl (j := 3) rfl; have f1_3 : World.frozen? _ ⟨g1, 3, none⟩ = false := BX.out.frozen (i := 1) rfl 3; have q1_4 : World.cell? _ ⟨g1, 4, none⟩ = some (.int .i64 a0_4) := BX.out.cell (i := 1) rfl (j := 4) rfl; have f1_4 : World.frozen? _ ⟨g1, 4, none⟩ = false := BX.out.frozen (i := 1) rfl 4; have q1_5 : World.cell? _ ⟨g1, 5, none⟩ = some (.int .i64 a0_5) := BX.out.cell (i := 1) rfl (j := 5) rfl; have f1_5 : World.frozen? _ ⟨g1, 5, none⟩ = false := BX.out.frozen (i := 1) rfl 5; have q1_6 : World.cell? _ ⟨g1, 6, none⟩ = some (.slice A0_6 l0_6.length c0_6) := BX.out.cell (i := 1) rfl (j := 6) rfl; have f1_6 : World.frozen? _ ⟨g1, 6, none⟩ = false := BX.out.frozen (i := 1) rfl 6) | (go_at_call 64; (with_reducible refine (HF.out _ (Boxes.low (w0 := w) (bs := [(g2, #[.int .i64 0, .int .i64 0, .int .i64 0, .int .i64 0, .int .i64 0, .int .i64 0, .int .i64 0, .slice none 0 0], 55), (g1, #[.int .i64 a0_0, .int .i64 a0_1, .int .i64 a0_2, .int .i64 a0_3, .int .i64 a0_4, .int .i64 a0_5, .slice A0_6 l0_6.length c0_6], 53)]) (by (with_reducible repeat (first | refine Boxes.drewN ?_ _ | refine Boxes.drew ?_ | refine Boxes.alloc ?_ _)); exact BX.out))).mono ?_); rintro e w5_ ⟨rfl, hb⟩; have BY := Aside0.mk (Boxes.below (w0 := w) (bs := [(g2, #[.int .i64 0, .int .i64 0, .int .i64 0, .int .i64 0, .int .i64 0, .int .i64 0, .int .i64 0, .slice none 0 0], 55), (g1, #[.int .i64 a0_0, .int .i64 a0_1, .int .i64 a0_2, .int .i64 a0_3, .int .i64 a0_4, .int .i64 a0_5, .slice A0_6 l0_6.length c0_6], 53)]) (by (with_reducible repeat (first | refine Boxes.drewN ?_ _ | refine Boxes.drew ?_ | refine Boxes.alloc ?_ _)); exact BX.out) hb); clear BX hb; have BX := BY; clear BY; clear q2_0 f2_0 q2_1 f2_1 q2_2 f2_2 q2_3 f2_3 q2_4 f2_4 q2_5 f2_5 q2_6 f2_6 q2_7 f2_7 q1_0 f1_0 q1_1 f1_1 q1_2 f1_2 q1_3 f1_3 q1_4 f1_4 q1_5 f1_5 q1_6 f1_6; have q2_0 : World.cell? _ ⟨g2, 0, none⟩ = some (.int .i64 0) := BX.out.cell (i := 0) rfl (j := 0) rfl; have f2_0 : World.frozen? _ ⟨g2, 0, none⟩ = false := BX.out.frozen (i := 0) rfl 0; have q2_1 : World.cell? _ ⟨g2, 1, none⟩ = some (.int .i64 0) := BX.out.cell (i := 0) rfl (j := 1) rfl; have f2_1 : World.frozen? _ ⟨g2, 1, none⟩ = false := BX.out.frozen (i := 0) rfl 1; have q2_2 : World.cell? _ ⟨g2, 2, none⟩ = some (.int .i64 0) := BX.out.cell (i := 0) rfl (j := 2) rfl; have f2_2 : World.frozen? _ ⟨g2, 2, none⟩ = false := BX.out.frozen (i := 0) rfl 2; have q2_3 : World.cell? _ ⟨g2, 3, none⟩ = some (.int .i64 0) := BX.out.cell (i := 0) rfl (j := 3) rfl; have f2_3 : World.frozen? _ ⟨g2, 3, none⟩ = false := BX.out.frozen (i := 0) rfl 3; have q2_4 : World.cell? _ ⟨g2, 4, none⟩ = some (.int .i64 0) := BX.out.cell (i := 0) rfl (j := 4) rfl; have f2_4 : World.frozen? _ ⟨g2, 4, none⟩ = false := BX.out.frozen (i := 0) rfl 4; have q2_5 : World.cell? _ ⟨g2, 5, none⟩ = some (.int .i64 0) := BX.out.cell (i := 0) rfl (j := 5) rfl; have f2_5 : World.frozen? _ ⟨g2, 5, none⟩ = false := BX.out.frozen (i := 0) rfl 5; have q2_6 : World.cell? _ ⟨g2, 6, none⟩ = some (.int .i64 0) := BX.out.cell (i := 0) rfl (j := 6) rfl; have f2_6 : World.frozen? _ ⟨g2, 6, none⟩ = false := BX.out.frozen (i := 0) rfl 6; have q2_7 : World.cell? _ ⟨g2, 7, none⟩ = some (.slice none 0 0) := BX.out.cell (i := 0) rfl (j := 7) rfl; have f2_7 : World.frozen? _ ⟨g2, 7, none⟩ = false := BX.out.frozen (i := 0) rfl 7; have q1_0 : World.cell? _ ⟨g1, 0, none⟩ = some (.int .i64 a0_0) := BX.out.cell (i := 1) rfl (j := 0) rfl; have f1_0 : World.frozen? _ ⟨g1, 0, none⟩ = false := BX.out.frozen (i := 1) rfl 0; have q1_1 : World.cell? _ ⟨g1, 1, none⟩ = some (.int .i64 a0_1) := BX.out.cell (i := 1) rfl (j := 1) rfl; have f1_1 : World.frozen? _ ⟨g1, 1, none⟩ = false := BX.out.frozen (i := 1) rfl 1; have q1_2 : World.cell? _ ⟨g1, 2, none⟩ = some (.int .i64 a0_2) := BX.out.cell (i := 1) rfl (j := 2) rfl; have f1_2 : World.frozen? _ ⟨g1, 2, none⟩ = false := BX.out.frozen (i := 1) rfl 2; have q1_3 : World.cell? _ ⟨g1, 3, none⟩ = some (.int .i64 a0_3) := BX.out.cell (i := 1) rfl (j := 3) rfl; have f1_3 : World.frozen? _ ⟨g1, 3, none⟩ = false := BX.out.frozen (i := 1) rfl 3; have q1_4 : World.cell? _ ⟨g1, 4, none⟩ = some (.int .i64 a0_4) := BX.out.cell (i := 1) rfl (j := 4) rfl; have f1_4 : World.frozen? _ ⟨g1, 4, none⟩ = false := BX.out.frozen (i := 1) rfl 4; have q1_5 : World.cell? _ ⟨g1, 5, none⟩ = some (.int .i64 a0_5) := BX.out.cell (i := 1) rfl (j := 5) rfl; have f1_5 : World.frozen? _ ⟨g1, 5, none⟩ = false := BX.out.frozen (i := 1) rfl 5; have q1_6 : World.cell? _ ⟨g1, 6, none⟩ = some (.slice A0_6 l0_6.length c0_6) := BX.out.cell (i := 1) rfl (j := 6) rfl; have f1_6 : World.frozen? _ ⟨g1, 6, none⟩ = false := BX.out.frozen (i := 1) rfl 6) | (go_at_call 65; (with_reducible refine (HC.out _ (Boxes.low (w0 := w) (bs := [(g2, #[.int .i64 0, .int .i64 0, .int .i64 0, .int .i64 0, .int .i64 0, .int .i64 0, .int .i64 0, .slice none 0 0], 55), (g1, #[.int .i64 a0_0, .int .i64 a0_1, .int .i64 a0_2, .int .i64 a0_3, .int .i64 a0_4, .int .i64 a0_5, .slice A0_6 l0_6.length c0_6], 53)]) (by (with_reducible repeat (first | refine Boxes.drewN ?_ _ | refine Boxes.drew ?_ | refine Boxes.alloc ?_ _)); exact BX.out))).mono ?_); rintro e w6_ ⟨v_, rfl, hv, hb⟩; obtain ⟨Ao, co, eo⟩ := Kd.R_slice hv; subst eo; have HV := Aside0.mk (Kd.R_lower hv (Boxes.low (w0 := w) (bs := [(g2, #[.int .i64 0, .int .i64 0, .int .i64 0, .int .i64 0, .int .i64 0, .int .i64 0, .int .i64 0, .slice none 0 0], 55), (g1, #[.int .i64 a0_0, .int .i64 a0_1, .int .i64 a0_2, .int .i64 a0_3, .int .i64 a0_4, .int .i64 a0_5, .slice A0_6 l0_6.length c0_6], 53)]) (by (with_reducible repeat (first | refine Boxes.drewN ?_ _ | refine Boxes.drew ?_ | refine Boxes.alloc ?_ _)); exact BX.out)).size); clear hv; have BY := Aside0.mk (Boxes.below (w0 := w) (bs := [(g2, #[.int .i64 0, .int .i64 0, .int .i64 0, .int .i64 0, .int .i64 0, .int .i64 0, .int .i64 0, .slice none 0 0], 55), (g1, #[.int .i64 a0_0, .int .i64 a0_1, .int .i64 a0_2, .int .i64 a0_3, .int .i64 a0_4, .int .i64 a0_5, .slice A0_6 l0_6.length c0_6], 53)]) (by (with_reducible repeat (first | refine Boxes.drewN ?_ _ | refine Boxes.drew ?_ | refine Boxes.alloc ?_ _)); exact BX.out) hb); clear BX hb; have BX := BY; clear BY; clear q2_0 f2_0 q2_1 f2_1 q2_2 f2_2 q2_3 f2_3 q2_4 f2_4 q2_5 f2_5 q2_6 f2_6 q2_7 f2_7 q1_0 f1_0 q1_1 f1_1 q1_2 f1_2 q1_3 f1_3 q1_4 f1_4 q1_5 f1_5 q1_6 f1_6; have q2_0 : World.cell? _ ⟨g2, 0, none⟩ = some (.int .i64 0) := BX.out.cell (i := 0) rfl (j := 0) rfl; have f2_0 : World.frozen? _ ⟨g2, 0, none⟩ = false := BX.out.frozen (i := 0) rfl 0; have q2_1 : World.cell? _ ⟨g2, 1, none⟩ = some (.int .i64 0) := BX.out.cell (i := 0) rfl (j := 1) rfl; have f2_1 : World.frozen? _ ⟨g2, 1, none⟩ = false := BX.out.frozen (i := 0) rfl 1; have q2_2 : World.cell? _ ⟨g2, 2, none⟩ = some (.int .i64 0) := BX.out.cell (i := 0) rfl (j := 2) rfl; have f2_2 : World.frozen? _ ⟨g2, 2, none⟩ = false := BX.out.frozen (i := 0) rfl 2; have q2_3 : World.cell? _ ⟨g2, 3, none⟩ = some (.int .i64 0) := BX.out.cell (i := 0) rfl (j := 3) rfl; have f2_3 : World.frozen? _ ⟨g2, 3, none⟩ = false := BX.out.frozen (i := 0) rfl 3; have q2_4 : World.cell? _ ⟨g2, 4, none⟩ = some (.int .i64 0) := BX.out.cell (i := 0) rfl (j := 4) rfl; have f2_4 : World.frozen? _ ⟨g2, 4, none⟩ = false := BX.out.frozen (i := 0) rfl 4; have q2_5 : World.cell? _ ⟨g2, 5, none⟩ = some (.int .i64 0) := BX.out.cell (i := 0) rfl (j := 5) rfl; have f2_5 : World.frozen? _ ⟨g2, 5, none⟩ = false := BX.out.frozen (i := 0) rfl 5; have q2_6 : World.cell? _ ⟨g2, 6, none⟩ = some (.int .i64 0) := BX.out.cell (i := 0) rfl (j := 6) rfl; have f2_6 : World.frozen? _ ⟨g2, 6, none⟩ = false := BX.out.frozen (i := 0) rfl 6; have q2_7 : World.cell? _ ⟨g2, 7, none⟩ = some (.slice none 0 0) := BX.out.cell (i := 0) rfl (j := 7) rfl; have f2_7 : World.frozen? _ ⟨g2, 7, none⟩ = false := BX.out.frozen (i := 0) rfl 7; have q1_0 : World.cell? _ ⟨g1, 0, none⟩ = some (.int .i64 a0_0) := BX.out.cell (i := 1) rfl (j := 0) rfl; have f1_0 : World.frozen? _ ⟨g1, 0, none⟩ = false := BX.out.frozen (i := 1) rfl 0; have q1_1 : World.cell? _ ⟨g1, 1, none⟩ = some (.int .i64 a0_1) := BX.out.cell (i := 1) rfl (j := 1) rfl; have f1_1 : World.frozen? _ ⟨g1, 1, none⟩ = false := BX.out.frozen (i := 1) rfl 1; have q1_2 : World.cell? _ ⟨g1, 2, none⟩ = some (.int .i64 a0_2) := BX.out.cell (i := 1) rfl (j := 2) rfl; have f1_2 : World.frozen? _ ⟨g1, 2, none⟩ = false := BX.out.frozen (i := 1) rfl 2; have q1_3 : World.cell? _ ⟨g1, 3, none⟩ = some (.int .i64 a0_3) := BX.out.cell (i := 1) rfl (j := 3) rfl; have f1_3 : World.frozen? _ ⟨g1, 3, none⟩ = false := BX.out.frozen (i := 1) rfl 3; have q1_4 : World.cell? _ ⟨g1, 4, none⟩ = some (.int .i64 a0_4) := BX.out.cell (i := 1) rfl (j := 4) rfl; have f1_4 : World.frozen? _ ⟨g1, 4, none⟩ = false := BX.out.frozen (i := 1) rfl 4; have q1_5 : World.cell? _ ⟨g1, 5, none⟩ = some (.int .i64 a0_5) := BX.out.cell (i := 1) rfl (j := 5) rfl; have f1_5 : World.frozen? _ ⟨g1, 5, none⟩ = false := BX.out.frozen (i := 1) rfl 5; have q1_6 : World.cell? _ ⟨g1, 6, none⟩ = some (.slice A0_6 l0_6.length c0_6) := BX.out.cell (i := 1) rfl (j := 6) rfl; have f1_6 : World.frozen? _ ⟨g1, 6, none⟩ = false := BX.out.frozen (i := 1) rfl 6) | ((with_reducible refine gate_dst (N := 4) rfl ?_); refine box_event ?hg (N := 4) ?hd (cs := #[.int .i64 0, .int .i64 0, .int .i64 0, .int .i64 0, .int .i64 0, .int .i64 0, .slice none 0 0]) (t := 53) ?hr ?_; (case hd => rfl); (case hg => rfl); (case hr => first | (go_simp; done) | (go_simp; rfl)); intro g4 hg w4_ hbox hb; have HV2 := Aside0.mk (Kd.R_below HV.out hb); clear HV; have HV := HV2; clear HV2; have BY := Aside0.mk (Boxes.new (w0 := w) (bs := [(g2, #[.int .i64 0, .int .i64 0, .int .i64 0, .int .i64 0, .int .i64 0, .int .i64 0, .int .i64 0, .slice none 0 0], 55), (g1, #[.int .i64 a0_0, .int .i64 a0_1, .int .i64 a0_2, .int .i64 a0_3, .int .i64 a0_4, .int .i64 a0_5, .slice A0_6 l0_6.length c0_6], 53)]) (by (with_reducible repeat (first | refine Boxes.drewN ?_ _ | refine Boxes.drew ?_ | refine Boxes.alloc ?_ _)); exact BX.out) hg hbox hb); clear BX hb hbox hg; have BX := BY; clear BY; clear q2_0 f2_0 q2_1 f2_1 q2_2 f2_2 q2_3 f2_3 q2_4 f2_4 q2_5 f2_5 q2_6 f2_6 q2_7 f2_7 q1_0 f1_0 q1_1 f1_1 q1_2 f1_2 q1_3 f1_3 q1_4 f1_4 q1_5 f1_5 q1_6 f1_6; have q4_0 : World.cell? _ ⟨g4, 0, none⟩ = some (.int .i64 0) := BX.out.cell (i := 0) rfl (j := 0) rfl; have f4_0 : World.frozen? _ ⟨g4, 0, none⟩ = false := BX.out.frozen (i := 0) rfl 0; have q4_1 : World.cell? _ ⟨g4, 1, none⟩ = some (.int .i64 0) := BX.out.cell (i := 0) rfl (j := 1) rfl; have f4_1 : World.frozen? _ ⟨g4, 1, none⟩ = false := BX.out.frozen (i := 0) rfl 1; have q4_2 : World.cell? _ ⟨g4, 2, none⟩ = some (.int .i64 0) := BX.out.cell (i := 0) rfl (j := 2) rfl; have f4_2 : World.frozen? _ ⟨g4, 2, none⟩ = false := BX.out.frozen (i := 0) rfl 2; have q4_3 : World.cell? _ ⟨g4, 3, none⟩ = some (.int .i64 0) := BX.out.cell (i := 0) rfl (j := 3) rfl; have f4_3 : World.frozen? _ ⟨g4, 3, none⟩ = false := BX.out.frozen (i := 0) rfl 3; have q4_4 : World.cell? _ ⟨g4, 4, none⟩ = some (.int .i64 0) := BX.out.cell (i := 0) rfl (j := 4) rfl; have f4_4 : World.frozen? _ ⟨g4, 4, none⟩ = false := BX.out.frozen (i := 0) rfl 4; have q4_5 : World.cell? _ ⟨g4, 5, none⟩ = some (.int .i64 0) := BX.out.cell (i := 0) rfl (j := 5) rfl; have f4_5 : World.frozen? _ ⟨g4, 5, none⟩ = false := BX.out.frozen (i := 0) rfl 5; have q4_6 : World.cell? _ ⟨g4, 6, none⟩ = some (.slice none 0 0) := BX.out.cell (i := 0) rfl (j := 6) rfl; have f4_6 : World.frozen? _ ⟨g4, 6, none⟩ = false := BX.out.frozen (i := 0) rfl 6; have q2_0 : World.cell? _ ⟨g2, 0, none⟩ = some (.int .i64 0) := BX.out.cell (i := 1) rfl (j := 0) rfl; have f2_0 : World.frozen? _ ⟨g2, 0, none⟩ = false := BX.out.frozen (i := 1) rfl 0; have q2_1 : World.cell? _ ⟨g2, 1, none⟩ = some (.int .i64 0) := BX.out.cell (i := 1) rfl (j := 1) rfl; have f2_1 : World.frozen? _ ⟨g2, 1, none⟩ = false := BX.out.frozen (i := 1) rfl 1; have q2_2 : World.cell? _ ⟨g2, 2, none⟩ = some (.int .i64 0) := BX.out.cell (i := 1) rfl (j := 2) rfl; have f2_2 : World.frozen? _ ⟨g2, 2, none⟩ = false := BX.out.frozen (i := 1) rfl 2; have q2_3 : World.cell? _ ⟨g2, 3, none⟩ = some (.int .i64 0) := BX.out.cell (i := 1) rfl (j := 3) rfl; have f2_3 : World.frozen? _ ⟨g2, 3, none⟩ = false := BX.out.frozen (i := 1) rfl 3; have q2_4 : World.cell? _ ⟨g2, 4, none⟩ = some (.int .i64 0) := BX.out.cell (i := 1) rfl (j := 4) rfl; have f2_4 : World.frozen? _ ⟨g2, 4, none⟩ = false := BX.out.frozen (i := 1) rfl 4; have q2_5 : World.cell? _ ⟨g2, 5, none⟩ = some (.int .i64 0) := BX.out.cell (i := 1) rfl (j := 5) rfl; have f2_5 : World.frozen? _ ⟨g2, 5, none⟩ = false := BX.out.frozen (i := 1) rfl 5; have q2_6 : World.cell? _ ⟨g2, 6, none⟩ = some (.int .i64 0) := BX.out.cell (i := 1) rfl (j := 6) rfl; have f2_6 : World.frozen? _ ⟨g2, 6, none⟩ = false := BX.out.frozen (i := 1) rfl 6; have q2_7 : World.cell? _ ⟨g2, 7, none⟩ = some (.slice none 0 0) := BX.out.cell (i := 1) rfl (j := 7) rfl; have f2_7 : World.frozen? _ ⟨g2, 7, none⟩ = false := BX.out.frozen (i := 1) rfl 7; have q1_0 : World.cell? _ ⟨g1, 0, none⟩ = some (.int .i64 a0_0) := BX.out.cell (i := 2) rfl (j := 0) rfl; have f1_0 : World.frozen? _ ⟨g1, 0, none⟩ = false := BX.out.frozen (i := 2) rfl 0; have q1_1 : World.cell? _ ⟨g1, 1, none⟩ = some (.int .i64 a0_1) := BX.out.cell (i := 2) rfl (j := 1) rfl; have f1_1 : World.frozen? _ ⟨g1, 1, none⟩ = false := BX.out.frozen (i := 2) rfl 1; have q1_2 : World.cell? _ ⟨g1, 2, none⟩ = some (.int .i64 a0_2) := BX.out.cell (i := 2) rfl (j := 2) rfl; have f1_2 : World.frozen? _ ⟨g1, 2, none⟩ = false := BX.out.frozen (i := 2) rfl 2; have q1_3 : World.cell? _ ⟨g1, 3, none⟩ = some (.int .i64 a0_3) := BX.out.cell (i := 2) rfl (j := 3) rfl; have f1_3 : World.frozen? _ ⟨g1, 3, none⟩ = false := BX.out.frozen (i := 2) rfl 3; have q1_4 : World.cell? _ ⟨g1, 4, none⟩ = some (.int .i64 a0_4) := BX.out.cell (i := 2) rfl (j := 4) rfl; have f1_4 : World.frozen? _ ⟨g1, 4, none⟩ = false := BX.out.frozen (i := 2) rfl 4; have q1_5 : World.cell? _ ⟨g1, 5, none⟩ = some (.int .i64 a0_5) := BX.out.cell (i := 2) rfl (j := 5) rfl; have f1_5 : World.frozen? _ ⟨g1, 5, none⟩ = false := BX.out.frozen (i := 2) rfl 5; have q1_6 : World.cell? _ ⟨g1, 6, none⟩ = some (.slice A0_6 l0_6.length c0_6) := BX.out.cell (i := 2) rfl (j := 6) rfl; have f1_6 : World.frozen? _ ⟨g1, 6, none⟩ = false := BX.out.frozen (i := 2) rfl 6) | ((with_reducible refine gate_store (t := 53) (p := 4) rfl ?_); refine boxes_storeC (C := fun W => Kd.R (Kd.int .u8) 5 W w.heap.size (fun _ => True) (.slice Ao l7.length co) l7) (w0 := w) (bs := [(g4, #[.int .i64 t1, .int .i64 t2, .int .i64 t3, .int .i64 t4, .int .i64 t5, .int .i64 t6, .slice Ao l7.length co], 53), (g2, #[.int .i64 0, .int .i64 0, .int .i64 0, .int .i64 0, .int .i64 0, .int .i64 0, .int .i64 0, .slice none 0 0], 55), (g1, #[.int .i64 a0_0, .int .i64 a0_1, .int .i64 a0_2, .int .i64 a0_3, .int .i64 a0_4, .int .i64 a0_5, .slice A0_6 l0_6.length c0_6], 53)]) (W1 := (World.setCell (World.setCell (World.setCell (World.setCell (World.setCell (World.setCell (World.setCell w4_ ⟨g4, 0, none⟩ (.int .i64 t1)) ⟨g4, 1, none⟩ (.int .i64 t2)) ⟨g4, 2, none⟩ (.int .i64 t3)) ⟨g4, 3, none⟩ (.int .i64 t4)) ⟨g4, 4, none⟩ (.int .i64 t5)) ⟨g4, 5, none⟩ (.int .i64 t6)) ⟨g4, 6, none⟩ (.slice Ao l7.length co))) rfl rfl rfl ?hr (((((((Boxes.put (w0 := w) (b1 := []) (b2 := [(g2, #[.int .i64 0, .int .i64 0, .int .i64 0, .int .i64 0, .int .i64 0, .int .i64 0, .int .i64 0, .slice none 0 0], 55), (g1, #[.int .i64 a0_0, .int .i64 a0_1, .int .i64 a0_2, .int .i64 a0_3, .int .i64 a0_4, .int .i64 a0_5, .slice A0_6 l0_6.length c0_6], 53)]) (g := g4) (cs := #[.int .i64 0, .int .i64 0, .int .i64 0, .int .i64 0, .int .i64 0, .int .i64 0, .slice none 0 0]) (t := 53) BX.out 0 (.int .i64 t1)).put (b1 := []) 1 (.int .i64 t2)).put (b1 := []) 2 (.int .i64 t3)).put (b1 := []) 3 (.int .i64 t4)).put (b1 := []) 4 (.int .i64 t5)).put (b1 := []) 5 (.int .i64 t6)).put (b1 := []) 6 (.slice Ao l7.length co)) (spec_ReverseWay_fars g4 _ [(0, .int .i64 t1), (1, .int .i64 t2), (2, .int .i64 t3), (3, .int .i64 t4), (4, .int .i64 t5), (5, .int .i64 t6), (6, .slice Ao l7.length co)] HV.out ((BX.out).at_ (i := 0) rfl) (by decide)) ?_; (case hr => first | (go_simp; done) | (go_simp; rfl)); intro w8_ BY HV2; clear HV; have HV := Aside0.mk HV2; clear HV2; have BY := Aside0.mk BY; clear BX; have BX := BY; clear BY; clear q4_0 f4_0 q4_1 f4_1 q4_2 f4_2 q4_3 f4_3 q4_4 f4_4 q4_5 f4_5 q4_6 f4_6 q2_0 f2_0 q2_1 f2_1 q2_2 f2_2 q2_3 f2_3 q2_4 f2_4 q2_5 f2_5 q2_6 f2_6 q2_7 f2_7 q1_0 f1_0 q1_1 f1_1 q1_2 f1_2 q1_3 f1_3 q1_4 f1_4 q1_5 f1_5 q1_6 f1_6; have q4_0 : World.cell? _ ⟨g4, 0, none⟩ = some (.int .i64 t1) := BX.out.cell (i := 0) rfl (j := 0) rfl; have f4_0 : World.frozen? _ ⟨g4, 0, none⟩ = false := BX.out.frozen (i := 0) rfl 0; have q4_1 : World.cell? _ ⟨g4, 1, none⟩ = some (.int .i64 t2) := BX.out.cell (i := 0) rfl (j := 1) rfl; have f4_1 : World.frozen? _ ⟨g4, 1, none⟩ = false := BX.out.frozen (i := 0) rfl 1; have q4_2 : World.cell? _ ⟨g4, 2, none⟩ = some (.int .i64 t3) := BX.out.cell (i := 0) rfl (j := 2) rfl; have f4_2 : World.frozen? _ ⟨g4, 2, none⟩ = false := BX.out.frozen (i := 0) rfl 2; have q4_3 : World.cell? _ ⟨g4, 3, none⟩ = some (.int .i64 t4) := BX.out.cell (i := 0) rfl (j := 3) rfl; have f4_3 : World.frozen? _ ⟨g4, 3, none⟩ = false := BX.out.frozen (i := 0) rfl 3; have q4_4 : World.cell? _ ⟨g4, 4, none⟩ = some (.int .i64 t5) := BX.out.cell (i := 0) rfl (j := 4) rfl; have f4_4 : World.frozen? _ ⟨g4, 4, none⟩ = false := BX.out.frozen (i := 0) rfl 4; have q4_5 : World.cell? _ ⟨g4, 5, none⟩ = some (.int .i64 t6) := BX.out.cell (i := 0) rfl (j := 5) rfl; have f4_5 : World.frozen? _ ⟨g4, 5, none⟩ = false := BX.out.frozen (i := 0) rfl 5; have q4_6 : World.cell? _ ⟨g4, 6, none⟩ = some (.slice Ao l7.length co) := BX.out.cell (i := 0) rfl (j := 6) rfl; have f4_6 : World.frozen? _ ⟨g4, 6, none⟩ = false := BX.out.frozen (i := 0) rfl 6; have q2_0 : World.cell? _ ⟨g2, 0, none⟩ = some (.int .i64 0) := BX.out.cell (i := 1) rfl (j := 0) rfl; have f2_0 : World.frozen? _ ⟨g2, 0, none⟩ = false := BX.out.frozen (i := 1) rfl 0; have q2_1 : World.cell? _ ⟨g2, 1, none⟩ = some (.int .i64 0) := BX.out.cell (i := 1) rfl (j := 1) rfl; have f2_1 : World.frozen? _ ⟨g2, 1, none⟩ = false := BX.out.frozen (i := 1) rfl 1; have q2_2 : World.cell? _ ⟨g2, 2, none⟩ = some (.int .i64 0) := BX.out.cell (i := 1) rfl (j := 2) rfl; have f2_2 : World.frozen? _ ⟨g2, 2, none⟩ = false := BX.out.frozen (i := 1) rfl 2; have q2_3 : World.cell? _ ⟨g2, 3, none⟩ = some (.int .i64 0) := BX.out.cell (i := 1) rfl (j := 3) rfl; have f2_3 : World.frozen? _ ⟨g2, 3, none⟩ = false := BX.out.frozen (i := 1) rfl 3; have q2_4 : World.cell? _ ⟨g2, 4, none⟩ = some (.int .i64 0) := BX.out.cell (i := 1) rfl (j := 4) rfl; have f2_4 : World.frozen? _ ⟨g2, 4, none⟩ = false := BX.out.frozen (i := 1) rfl 4; have q2_5 : World.cell? _ ⟨g2, 5, none⟩ = some (.int .i64 0) := BX.out.cell (i := 1) rfl (j := 5) rfl; have f2_5 : World.frozen? _ ⟨g2, 5, none⟩ = false := BX.out.frozen (i := 1) rfl 5; have q2_6 : World.cell? _ ⟨g2, 6, none⟩ = some (.int .i64 0) := BX.out.cell (i := 1) rfl (j := 6) rfl; have f2_6 : World.frozen? _ ⟨g2, 6, none⟩ = false := BX.out.frozen (i := 1) rfl 6; have q2_7 : World.cell? _ ⟨g2, 7, none⟩ = some (.slice none 0 0) := BX.out.cell (i := 1) rfl (j := 7) rfl; have f2_7 : World.frozen? _ ⟨g2, 7, none⟩ = false := BX.out.frozen (i := 1) rfl 7; have q1_0 : World.cell? _ ⟨g1, 0, none⟩ = some (.int .i64 a0_0) := BX.out.cell (i := 2) rfl (j := 0) rfl; have f1_0 : World.frozen? _ ⟨g1, 0, none⟩ = false := BX.out.frozen (i := 2) rfl 0; have q1_1 : World.cell? _ ⟨g1, 1, none⟩ = some (.int .i64 a0_1) := BX.out.cell (i := 2) rfl (j := 1) rfl; have f1_1 : World.frozen? _ ⟨g1, 1, none⟩ = false := BX.out.frozen (i := 2) rfl 1; have q1_2 : World.cell? _ ⟨g1, 2, none⟩ = some (.int .i64 a0_2) := BX.out.cell (i := 2) rfl (j := 2) rfl; have f1_2 : World.frozen? _ ⟨g1, 2, none⟩ = false := BX.out.frozen (i := 2) rfl 2; have q1_3 : World.cell? _ ⟨g1, 3, none⟩ = some (.int .i64 a0_3) := BX.out.cell (i := 2) rfl (j := 3) rfl; have f1_3 : World.frozen? _ ⟨g1, 3, none⟩ = false := BX.out.frozen (i := 2) rfl 3; have q1_4 : World.cell? _ ⟨g1, 4, none⟩ = some (.int .i64 a0_4) := BX.out.cell (i := 2) rfl (j := 4) rfl; have f1_4 : World.frozen? _ ⟨g1, 4, none⟩ = false := BX.out.frozen (i := 2) rfl 4; have q1_5 : World.cell? _ ⟨g1, 5, none⟩ = some (.int .i64 a0_5) := BX.out.cell (i := 2) rfl (j := 5) rfl; have f1_5 : World.frozen? _ ⟨g1, 5, none⟩ = false := BX.out.frozen (i := 2) rfl 5; have q1_6 : World.cell? _ ⟨g1, 6, none⟩ = some (.slice A0_6 l0_6.length c0_6) := BX.out.cell (i := 2) rfl (j := 6) rfl; have f1_6 : World.frozen? _ ⟨g1, 6, none⟩ = false := BX.out.frozen (i := 2) rfl 6) | ((with_reducible refine gate_store (t := 2) (p := 15) rfl ?_); refine boxes_storeC (C := fun W => Kd.R (Kd.int .u8) 5 W w.heap.size (fun _ => True) (.slice Ao l7.length co) l7) (w0 := w) (bs := [(g4, #[.int .i64 a0_1, .int .i64 t2, .int .i64 t3, .int .i64 t4, .int .i64 t5, .int .i64 t6, .slice Ao l7.length co], 53), (g2, #[.int .i64 0, .int .i64 0, .int .i64 0, .int .i64 0, .int .i64 0, .int .i64 0, .int .i64 0, .slice none 0 0], 55), (g1, #[.int .i64 a0_0, .int .i64 a0_1, .int .i64 a0_2, .int .i64 a0_3, .int .i64 a0_4, .int .i64 a0_5, .slice A0_6 l0_6.length c0_6], 53)]) (W1 := World.setCell w8_ ⟨g4, 0, none⟩ (.int .i64 a0_1)) rfl rfl rfl ?hr (Boxes.put (w0 := w) (b1 := []) (b2 := [(g2, #[.int .i64 0, .int .i64 0, .int .i64 0, .int .i64 0, .int .i64 0, .int .i64 0, .int .i64 0, .slice none 0 0], 55), (g1, #[.int .i64 a0_0, .int .i64 a0_1, .int .i64 a0_2, .int .i64 a0_3, .int .i64 a0_4, .int .i64 a0_5, .slice A0_6 l0_6.length c0_6], 53)]) (g := g4) (cs := #[.int .i64 t1, .int .i64 t2, .int .i64 t3, .int .i64 t4, .int .i64 t5, .int .i64 t6, .slice Ao l7.length co]) (t := 53) BX.out 0 (.int .i64 a0_1)) (spec_ReverseWay_fars g4 _ [(0, .int .i64 a0_1)] HV.out ((BX.out).at_ (i := 0) rfl) (by decide)) ?_; (case hr => first | (go_simp; done) | (go_simp; rfl)); intro w20_ BY HV2; clear HV; have HV := Aside0.mk HV2; clear HV2; have BY := Aside0.mk BY; clear BX; have BX := BY; clear BY; clear q4_0 f4_0 q4_1 f4_1 q4_2 f4_2 q4_3 f4_3 q4_4 f4_4 q4_5 f4_5 q4_6 f4_6 q2_0 f2_0 q2_1 f2_1 q2_2 f2_2 q2_3 f2_3 q2_4 f2_4 q2_5 f2_5 q2_6 f2_6 q2_7 f2_7 q1_0 f1_0 q1_1 f1_1 q1_2 f1_2 q1_3 f1_3 q1_4 f1_4 q1_5 f1_5 q1_6 f1_6; have q4_0 : World.cell? _ ⟨g4, 0, none⟩ = some (.int .i64 a0_1) := BX.out.cell (i := 0) rfl (j := 0) rfl; have f4_0 : World.frozen? _ ⟨g4, 0, none⟩ = false := BX.out.frozen (i := 0) rfl 0; have q4_1 : World.cell? _ ⟨g4, 1, none⟩ = some (.int .i64 t2) := BX.out.cell (i := 0) rfl (j := 1) rfl; have f4_1 : World.frozen? _ ⟨g4, 1, none⟩ = false := BX.out.frozen (i := 0) rfl 1; have q4_2 : World.cell? _ ⟨g4, 2, none⟩ = some (.int .i64 t3) := BX.out.cell (i := 0) rfl (j := 2) rfl; have f4_2 : World.frozen? _ ⟨g4, 2, none⟩ = false := BX.out.frozen (i := 0) rfl 2; have q4_3 : World.cell? _ ⟨g4, 3, none⟩ = some (.int .i64 t4) := BX.out.cell (i := 0) rfl (j := 3) rfl; have f4_3 : World.frozen? _ ⟨g4, 3, none⟩ = false := BX.out.frozen (i := 0) rfl 3; have q4_4 : World.cell? _ ⟨g4, 4, none⟩ = some (.int .i64 t5) := BX.out.cell (i := 0) rfl (j := 4) rfl; have f4_4 : World.frozen? _ ⟨g4, 4, none⟩ = false := BX.out.frozen (i := 0) rfl 4; have q4_5 : World.cell? _ ⟨g4, 5, none⟩ = some (.int .i64 t6) := BX.out.cell (i := 0) rfl (j := 5) rfl; have f4_5 : World.frozen? _ ⟨g4, 5, none⟩ = false := BX.out.frozen (i := 0) rfl 5; have q4_6 : World.cell? _ ⟨g4, 6, none⟩ = some (.slice Ao l7.length co) := BX.out.cell (i := 0) rfl (j := 6) rfl; have f4_6 : World.frozen? _ ⟨g4, 6, none⟩ = false := BX.out.frozen (i := 0) rfl 6; have q2_0 : World.cell? _ ⟨g2, 0, none⟩ = some (.int .i64 0) := BX.out.cell (i := 1) rfl (j := 0) rfl; have f2_0 : World.frozen? _ ⟨g2, 0, none⟩ = false := BX.out.frozen (i := 1) rfl 0; have q2_1 : World.cell? _ ⟨g2, 1, none⟩ = some (.int .i64 0) := BX.out.cell (i := 1) rfl (j := 1) rfl; have f2_1 : World.frozen? _ ⟨g2, 1, none⟩ = false := BX.out.frozen (i := 1) rfl 1; have q2_2 : World.cell? _ ⟨g2, 2, none⟩ = some (.int .i64 0) := BX.out.cell (i := 1) rfl (j := 2) rfl; have f2_2 : World.frozen? _ ⟨g2, 2, none⟩ = false := BX.out.frozen (i := 1) rfl 2; have q2_3 : World.cell? _ ⟨g2, 3, none⟩ = some (.int .i64 0) := BX.out.cell (i := 1) rfl (j := 3) rfl; have f2_3 : World.frozen? _ ⟨g2, 3, none⟩ = false := BX.out.frozen (i := 1) rfl 3; have q2_4 : World.cell? _ ⟨g2, 4, none⟩ = some (.int .i64 0) := BX.out.cell (i := 1) rfl (j := 4) rfl; have f2_4 : World.frozen? _ ⟨g2, 4, none⟩ = false := BX.out.frozen (i := 1) rfl 4; have q2_5 : World.cell? _ ⟨g2, 5, none⟩ = some (.int .i64 0) := BX.out.cell (i := 1) rfl (j := 5) rfl; have f2_5 : World.frozen? _ ⟨g2, 5, none⟩ = false := BX.out.frozen (i := 1) rfl 5; have q2_6 : World.cell? _ ⟨g2, 6, none⟩ = some (.int .i64 0) := BX.out.cell (i := 1) rfl (j := 6) rfl; have f2_6 : World.frozen? _ ⟨g2, 6, none⟩ = false := BX.out.frozen (i := 1) rfl 6; have q2_7 : World.cell? _ ⟨g2, 7, none⟩ = some (.slice none 0 0) := BX.out.cell (i := 1) rfl (j := 7) rfl; have f2_7 : World.frozen? _ ⟨g2, 7, none⟩ = false := BX.out.frozen (i := 1) rfl 7; have q1_0 : World.cell? _ ⟨g1, 0, none⟩ = some (.int .i64 a0_0) := BX.out.cell (i := 2) rfl (j := 0) rfl; have f1_0 : World.frozen? _ ⟨g1, 0, none⟩ = false := BX.out.frozen (i := 2) rfl 0; have q1_1 : World.cell? _ ⟨g1, 1, none⟩ = some (.int .i64 a0_1) := BX.out.cell (i := 2) rfl (j := 1) rfl; have f1_1 : World.frozen? _ ⟨g1, 1, none⟩ = false := BX.out.frozen (i := 2) rfl 1; have q1_2 : World.cell? _ ⟨g1, 2, none⟩ = some (.int .i64 a0_2) := BX.out.cell (i := 2) rfl (j := 2) rfl; have f1_2 : World.frozen? _ ⟨g1, 2, none⟩ = false := BX.out.frozen (i := 2) rfl 2; have q1_3 : World.cell? _ ⟨g1, 3, none⟩ = some (.int .i64 a0_3) := BX.out.cell (i := 2) rfl (j := 3) rfl; have f1_3 : World.frozen? _ ⟨g1, 3, none⟩ = false := BX.out.frozen (i := 2) rfl 3; have q1_4 : World.cell? _ ⟨g1, 4, none⟩ = some (.int .i64 a0_4) := BX.out.cell (i := 2) rfl (j := 4) rfl; have f1_4 : World.frozen? _ ⟨g1, 4, none⟩ = false := BX.out.frozen (i := 2) rfl 4; have q1_5 : World.cell? _ ⟨g1, 5, none⟩ = some (.int .i64 a0_5) := BX.out.cell (i := 2) rfl (j := 5) rfl; have f1_5 : World.frozen? _ ⟨g1, 5, none⟩ = false := BX.out.frozen (i := 2) rfl 5; have q1_6 : World.cell? _ ⟨g1, 6, none⟩ = some (.slice A0_6 l0_6.length c0_6) := BX.out.cell (i := 2) rfl (j := 6) rfl; have f1_6 : World.frozen? _ ⟨g1, 6, none⟩ = false := BX.out.frozen (i := 2) rfl 6) | ((with_reducible refine gate_store (t := 2) (p := 18) rfl ?_); refine boxes_storeC (C := fun W => Kd.R (Kd.int .u8) 5 W w.heap.size (fun _ => True) (.slice Ao l7.length co) l7) (w0 := w) (bs := [(g4, #[.int .i64 a0_1, .int .i64 a0_0, .int .i64 t3, .int .i64 t4, .int .i64 t5, .int .i64 t6, .slice Ao l7.length co], 53), (g2, #[.int .i64 0, .int .i64 0, .int .i64 0, .int .i64 0, .int .i64 0, .int .i64 0, .int .i64 0, .slice none 0 0], 55), (g1, #[.int .i64 a0_0, .int .i64 a0_1, .int .i64 a0_2, .int .i64 a0_3, .int .i64 a0_4, .int .i64 a0_5, .slice A0_6 l0_6.length c0_6], 53)]) (W1 := World.setCell w20_ ⟨g4, 1, none⟩ (.int .i64 a0_0)) rfl rfl rfl ?hr (Boxes.put (w0 := w) (b1 := []) (b2 := [(g2, #[.int .i64 0, .int .i64 0, .int .i64 0, .int .i64 0, .int .i64 0, .int .i64 0, .int .i64 0, .slice none 0 0], 55), (g1, #[.int .i64 a0_0, .int .i64 a0_1, .int .i64 a0_2, .int .i64 a0_3, .int .i64 a0_4, .int .i64 a0_5, .slice A0_6 l0_6.length c0_6], 53)]) (g := g4) (cs := #[.int .i64 a0_1, .int .i64 t2, .int .i64 t3, .int .i64 t4, .int .i64 t5, .int .i64 t6, .slice Ao l7.length co]) (t := 53) BX.out 1 (.int .i64 a0_0)) (spec_ReverseWay_fars g4 _ [(1, .int .i64 a0_0)] HV.out ((BX.out).at_ (i := 0) rfl) (by decide)) ?_; (case hr => first | (go_simp; done) | (go_simp; rfl)); intro w21_ BY HV2; clear HV; have HV := Aside0.mk HV2; clear HV2; have BY := Aside0.mk BY; clear BX; have BX := BY; clear BY; clear q4_0 f4_0 q4_1 f4_1 q4_2 f4_2 q4_3 f4_3 q4_4 f4_4 q4_5 f4_5 q4_6 f4_6 q2_0 f2_0 q2_1 f2_1 q2_2 f2_2 q2_3 f2_3 q2_4 f2_4 q2_5 f2_5 q2_6 f2_6 q2_7 f2_7 q1_0 f1_0 q1_1 f1_1 q1_2 f1_2 q1_3 f1_3 q1_4 f1_4 q1_5 f1_5 q1_6 f1_6; have q4_0 : World.cell? _ ⟨g4, 0, none⟩ = some (.int .i64 a0_1) := BX.out.cell (i := 0) rfl (j := 0) rfl; have f4_0 : World.frozen? _ ⟨g4, 0, none⟩ = false := BX.out.frozen (i := 0) rfl 0; have q4_1 : World.cell? _ ⟨g4, 1, none⟩ = some (.int .i64 a0_0) := BX.out.cell (i := 0) rfl (j := 1) rfl; have f4_1 : World.frozen? _ ⟨g4, 1, none⟩ = false := BX.out.frozen (i := 0) rfl 1; have q4_2 : World.cell? _ ⟨g4, 2, none⟩ = some (.int .i64 t3) := BX.out.cell (i := 0) rfl (j := 2) rfl; have f4_2 : World.frozen? _ ⟨g4, 2, none⟩ = false := BX.out.frozen (i := 0) rfl 2; have q4_3 : World.cell? _ ⟨g4, 3, none⟩ = some (.int .i64 t4) := BX.out.cell (i := 0) rfl (j := 3) rfl; have f4_3 : World.frozen? _ ⟨g4, 3, none⟩ = false := BX.out.frozen (i := 0) rfl 3; have q4_4 : World.cell? _ ⟨g4, 4, none⟩ = some (.int .i64 t5) := BX.out.cell (i := 0) rfl (j := 4) rfl; have f4_4 : World.frozen? _ ⟨g4, 4, none⟩ = false := BX.out.frozen (i := 0) rfl 4; have q4_5 : World.cell? _ ⟨g4, 5, none⟩ = some (.int .i64 t6) := BX.out.cell (i := 0) rfl (j := 5) rfl; have f4_5 : World.frozen? _ ⟨g4, 5, none⟩ = false := BX.out.frozen (i := 0) rfl 5; have q4_6 : World.cell? _ ⟨g4, 6, none⟩ = some (.slice Ao l7.length co) := BX.out.cell (i := 0) rfl (j := 6) rfl; have f4_6 : World.frozen? _ ⟨g4, 6, none⟩ = false := BX.out.frozen (i := 0) rfl 6; have q2_0 : World.cell? _ ⟨g2, 0, none⟩ = some (.int .i64 0) := BX.out.cell (i := 1) rfl (j := 0) rfl; have f2_0 : World.frozen? _ ⟨g2, 0, none⟩ = false := BX.out.frozen (i := 1) rfl 0; have q2_1 : World.cell? _ ⟨g2, 1, none⟩ = some (.int .i64 0) := BX.out.cell (i := 1) rfl (j := 1) rfl; have f2_1 : World.frozen? _ ⟨g2, 1, none⟩ = false := BX.out.frozen (i := 1) rfl 1; have q2_2 : World.cell? _ ⟨g2, 2, none⟩ = some (.int .i64 0) := BX.out.cell (i := 1) rfl (j := 2) rfl; have f2_2 : World.frozen? _ ⟨g2, 2, none⟩ = false := BX.out.frozen (i := 1) rfl 2; have q2_3 : World.cell? _ ⟨g2, 3, none⟩ = some (.int .i64 0) := BX.out.cell (i := 1) rfl (j := 3) rfl; have f2_3 : World.frozen? _ ⟨g2, 3, none⟩ = false := BX.out.frozen (i := 1) rfl 3; have q2_4 : World.cell? _ ⟨g2, 4, none⟩ = some (.int .i64 0) := BX.out.cell (i := 1) rfl (j := 4) rfl; have f2_4 : World.frozen? _ ⟨g2, 4, none⟩ = false := BX.out.frozen (i := 1) rfl 4; have q2_5 : World.cell? _ ⟨g2, 5, none⟩ = some (.int .i64 0) := BX.out.cell (i := 1) rfl (j := 5) rfl; have f2_5 : World.frozen? _ ⟨g2, 5, none⟩ = false := BX.out.frozen (i := 1) rfl 5; have q2_6 : World.cell? _ ⟨g2, 6, none⟩ = some (.int .i64 0) := BX.out.cell (i := 1) rfl (j := 6) rfl; have f2_6 : World.frozen? _ ⟨g2, 6, none⟩ = false := BX.out.frozen (i := 1) rfl 6; have q2_7 : World.cell? _ ⟨g2, 7, none⟩ = some (.slice none 0 0) := BX.out.cell (i := 1) rfl (j := 7) rfl; have f2_7 : World.frozen? _ ⟨g2, 7, none⟩ = false := BX.out.frozen (i := 1) rfl 7; have q1_0 : World.cell? _ ⟨g1, 0, none⟩ = some (.int .i64 a0_0) := BX.out.cell (i := 2) rfl (j := 0) rfl; have f1_0 : World.frozen? _ ⟨g1, 0, none⟩ = false := BX.out.frozen (i := 2) rfl 0; have q1_1 : World.cell? _ ⟨g1, 1, none⟩ = some (.int .i64 a0_1) := BX.out.cell (i := 2) rfl (j := 1) rfl; have f1_1 : World.frozen? _ ⟨g1, 1, none⟩ = false := BX.out.frozen (i := 2) rfl 1; have q1_2 : World.cell? _ ⟨g1, 2, none⟩ = some (.int .i64 a0_2) := BX.out.cell (i := 2) rfl (j := 2) rfl; have f1_2 : World.frozen? _ ⟨g1, 2, none⟩ = false := BX.out.frozen (i := 2) rfl 2; have q1_3 : World.cell? _ ⟨g1, 3, none⟩ = some (.int .i64 a0_3) := BX.out.cell (i := 2) rfl (j := 3) rfl; have f1_3 : World.frozen? _ ⟨g1, 3, none⟩ = false := BX.out.frozen (i := 2) rfl 3; have q1_4 : World.cell? _ ⟨g1, 4, none⟩ = some (.int .i64 a0_4) := BX.out.cell (i := 2) rfl (j := 4) rfl; have f1_4 : World.frozen? _ ⟨g1, 4, none⟩ = false := BX.out.frozen (i := 2) rfl 4; have q1_5 : World.cell? _ ⟨g1, 5, none⟩ = some (.int .i64 a0_5) := BX.out.cell (i := 2) rfl (j := 5) rfl; have f1_5 : World.frozen? _ ⟨g1, 5, none⟩ = false := BX.out.frozen (i := 2) rfl 5; have q1_6 : World.cell? _ ⟨g1, 6, none⟩ = some (.slice A0_6 l0_6.length c0_6) := BX.out.cell (i := 2) rfl (j := 6) rfl; have f1_6 : World.frozen? _ ⟨g1, 6, none⟩ = false := BX.out.frozen (i := 2) rfl 6) | ((with_reducible refine gate_store (t := 2) (p := 21) rfl ?_); refine boxes_storeC (C := fun W => Kd.R (Kd.int .u8) 5 W w.heap.size (fun _ => True) (.slice Ao l7.length co) l7) (w0 := w) (bs := [(g4, #[.int .i64 a0_1, .int .i64 a0_0, .int .i64 t3, .int .i64 t4, .int .i64 a0_5, .int .i64 t6, .slice Ao l7.length co], 53), (g2, #[.int .i64 0, .int .i64 0, .int .i64 0, .int .i64 0, .int .i64 0, .int .i64 0, .int .i64 0, .slice none 0 0], 55), (g1, #[.int .i64 a0_0, .int .i64 a0_1, .int .i64 a0_2, .int .i64 a0_3, .int .i64 a0_4, .int .i64 a0_5, .slice A0_6 l0_6.length c0_6], 53)]) (W1 := World.setCell w21_ ⟨g4, 4, none⟩ (.int .i64 a0_5)) rfl rfl rfl ?hr (Boxes.put (w0 := w) (b1 := []) (b2 := [(g2, #[.int .i64 0, .int .i64 0, .int .i64 0, .int .i64 0, .int .i64 0, .int .i64 0, .int .i64 0, .slice none 0 0], 55), (g1, #[.int .i64 a0_0, .int .i64 a0_1, .int .i64 a0_2, .int .i64 a0_3, .int .i64 a0_4, .int .i64 a0_5, .slice A0_6 l0_6.length c0_6], 53)]) (g := g4) (cs := #[.int .i64 a0_1, .int .i64 a0_0, .int .i64 t3, .int .i64 t4, .int .i64 t5, .int .i64 t6, .slice Ao l7.length co]) (t := 53) BX.out 4 (.int .i64 a0_5)) (spec_ReverseWay_fars g4 _ [(4, .int .i64 a0_5)] HV.out ((BX.out).at_ (i := 0) rfl) (by decide)) ?_; (case hr => first | (go_simp; done) | (go_simp; rfl)); intro w22_ BY HV2; clear HV; have HV := Aside0.mk HV2; clear HV2; have BY := Aside0.mk BY; clear BX; have BX := BY; clear BY; clear q4_0 f4_0 q4_1 f4_1 q4_2 f4_2 q4_3 f4_3 q4_4 f4_4 q4_5 f4_5 q4_6 f4_6 q2_0 f2_0 q2_1 f2_1 q2_2 f2_2 q2_3 f2_3 q2_4 f2_4 q2_5 f2_5 q2_6 f2_6 q2_7 f2_7 q1_0 f1_0 q1_1 f1_1 q1_2 f1_2 q1_3 f1_3 q1_4 f1_4 q1_5 f1_5 q1_6 f1_6; have q4_0 : World.cell? _ ⟨g4, 0, none⟩ = some (.int .i64 a0_1) := BX.out.cell (i := 0) rfl (j := 0) rfl; have f4_0 : World.frozen? _ ⟨g4, 0, none⟩ = false := BX.out.frozen (i := 0) rfl 0; have q4_1 : World.cell? _ ⟨g4, 1, none⟩ = some (.int .i64 a0_0) := BX.out.cell (i := 0) rfl (j := 1) rfl; have f4_1 : World.frozen? _ ⟨g4, 1, none⟩ = false := BX.out.frozen (i := 0) rfl 1; have q4_2 : World.cell? _ ⟨g4, 2, none⟩ = some (.int .i64 t3) := BX.out.cell (i := 0) rfl (j := 2) rfl; have f4_2 : World.frozen? _ ⟨g4, 2, none⟩ = false := BX.out.frozen (i := 0) rfl 2; have q4_3 : World.cell? _ ⟨g4, 3, none⟩ = some (.int .i64 t4) := BX.out.cell (i := 0) rfl (j := 3) rfl; have f4_3 : World.frozen? _ ⟨g4, 3, none⟩ = false := BX.out.frozen (i := 0) rfl 3; have q4_4 : World.cell? _ ⟨g4, 4, none⟩ = some (.int .i64 a0_5) := BX.out.cell (i := 0) rfl (j := 4) rfl; have f4_4 : World.frozen? _ ⟨g4, 4, none⟩ = false := BX.out.frozen (i := 0) rfl 4; have q4_5 : World.cell? _ ⟨g4, 5, none⟩ = some (.int .i64 t6) := BX.out.cell (i := 0) rfl (j := 5) rfl; have f4_5 : World.frozen? _ ⟨g4, 5, none⟩ = false := BX.out.frozen (i := 0) rfl 5; have q4_6 : World.cell? _ ⟨g4, 6, none⟩ = some (.slice Ao l7.length co) := BX.out.cell (i := 0) rfl (j := 6) rfl; have f4_6 : World.frozen? _ ⟨g4, 6, none⟩ = false := BX.out.frozen (i := 0) rfl 6; have q2_0 : World.cell? _ ⟨g2, 0, none⟩ = some (.int .i64 0) := BX.out.cell (i := 1) rfl (j := 0) rfl; have f2_0 : World.frozen? _ ⟨g2, 0, none⟩ = false := BX.out.frozen (i := 1) rfl 0; have q2_1 : World.cell? _ ⟨g2, 1, none⟩ = some (.int .i64 0) := BX.out.cell (i := 1) rfl (j := 1) rfl; have f2_1 : World.frozen? _ ⟨g2, 1, none⟩ = false := BX.out.frozen (i := 1) rfl 1; have q2_2 : World.cell? _ ⟨g2, 2, none⟩ = some (.int .i64 0) := BX.out.cell (i := 1) rfl (j := 2) rfl; have f2_2 : World.frozen? _ ⟨g2, 2, none⟩ = false := BX.out.frozen (i := 1) rfl 2; have q2_3 : World.cell? _ ⟨g2, 3, none⟩ = some (.int .i64 0) := BX.out.cell (i := 1) rfl (j := 3) rfl; have f2_3 : World.frozen? _ ⟨g2, 3, none⟩ = false := BX.out.frozen (i := 1) rfl 3; have q2_4 : World.cell? _ ⟨g2, 4, none⟩ = some (.int .i64 0) := BX.out.cell (i := 1) rfl (j := 4) rfl; have f2_4 : World.frozen? _ ⟨g2, 4, none⟩ = false := BX.out.frozen (i := 1) rfl 4; have q2_5 : World.cell? _ ⟨g2, 5, none⟩ = some (.int .i64 0) := BX.out.cell (i := 1) rfl (j := 5) rfl; have f2_5 : World.frozen? _ ⟨g2, 5, none⟩ = false := BX.out.frozen (i := 1) rfl 5; have q2_6 : World.cell? _ ⟨g2, 6, none⟩ = some (.int .i64 0) := BX.out.cell (i := 1) rfl (j := 6) rfl; have f2_6 : World.frozen? _ ⟨g2, 6, none⟩ = false := BX.out.frozen (i := 1) rfl 6; have q2_7 : World.cell? _ ⟨g2, 7, none⟩ = some (.slice none 0 0) := BX.out.cell (i := 1) rfl (j := 7) rfl; have f2_7 : World.frozen? _ ⟨g2, 7, none⟩ = false := BX.out.frozen (i := 1) rfl 7; have q1_0 : World.cell? _ ⟨g1, 0, none⟩ = some (.int .i64 a0_0) := BX.out.cell (i := 2) rfl (j := 0) rfl; have f1_0 : World.frozen? _ ⟨g1, 0, none⟩ = false := BX.out.frozen (i := 2) rfl 0; have q1_1 : World.cell? _ ⟨g1, 1, none⟩ = some (.int .i64 a0_1) := BX.out.cell (i := 2) rfl (j := 1) rfl; have f1_1 : World.frozen? _ ⟨g1, 1, none⟩ = false := BX.out.frozen (i := 2) rfl 1; have q1_2 : World.cell? _ ⟨g1, 2, none⟩ = some (.int .i64 a0_2) := BX.out.cell (i := 2) rfl (j := 2) rfl; have f1_2 : World.frozen? _ ⟨g1, 2, none⟩ = false := BX.out.frozen (i := 2) rfl 2; have q1_3 : World.cell? _ ⟨g1, 3, none⟩ = some (.int .i64 a0_3) := BX.out.cell (i := 2) rfl (j := 3) rfl; have f1_3 : World.frozen? _ ⟨g1, 3, none⟩ = false := BX.out.frozen (i := 2) rfl 3; have q1_4 : World.cell? _ ⟨g1, 4, none⟩ = some (.int .i64 a0_4) := BX.out.cell (i := 2) rfl (j := 4) rfl; have f1_4 : World.frozen? _ ⟨g1, 4, none⟩ = false := BX.out.frozen (i := 2) rfl 4; have q1_5 : World.cell? _ ⟨g1, 5, none⟩ = some (.int .i64 a0_5) := BX.out.cell (i := 2) rfl (j := 5) rfl; have f1_5 : World.frozen? _ ⟨g1, 5, none⟩ = false := BX.out.frozen (i := 2) rfl 5; have q1_6 : World.cell? _ ⟨g1, 6, none⟩ = some (.slice A0_6 l0_6.length c0_6) := BX.out.cell (i := 2) rfl (j := 6) rfl; have f1_6 : World.frozen? _ ⟨g1, 6, none⟩ = false := BX.out.frozen (i := 2) rfl 6) | ((with_reducible refine gate_store (t := 2) (p := 24) rfl ?_); refine boxes_storeC (C := fun W => Kd.R (Kd.int .u8) 5 W w.heap.size (fun _ => True) (.slice Ao l7.length co) l7) (w0 := w) (bs := [(g4, #[.int .i64 a0_1, .int .i64 a0_0, .int .i64 t3, .int .i64 t4, .int .i64 a0_5, .int .i64 a0_4, .slice Ao l7.length co], 53), (g2, #[.int .i64 0, .int .i64 0, .int .i64 0, .int .i64 0, .int .i64 0, .int .i64 0, .int .i64 0, .slice none 0 0], 55), (g1, #[.int .i64 a0_0, .int .i64 a0_1, .int .i64 a0_2, .int .i64 a0_3, .int .i64 a0_4, .int .i64 a0_5, .slice A0_6 l0_6.length c0_6], 53)]) (W1 := World.setCell w22_ ⟨g4, 5, none⟩ (.int .i64 a0_4)) rfl rfl rfl ?hr (Boxes.put (w0 := w) (b1 := []) (b2 := [(g2, #[.int .i64 0, .int .i64 0, .int .i64 0, .int .i64 0, .int .i64 0, .int .i64 0, .int .i64 0, .slice none 0 0], 55), (g1, #[.int .i64 a0_0, .int .i64 a0_1, .int .i64 a0_2, .int .i64 a0_3, .int .i64 a0_4, .int .i64 a0_5, .slice A0_6 l0_6.length c0_6], 53)]) (g := g4) (cs := #[.int .i64 a0_1, .int .i64 a0_0, .int .i64 t3, .int .i64 t4, .int .i64 a0_5, .int .i64 t6, .slice Ao l7.length co]) (t := 53) BX.out 5 (.int .i64 a0_4)) (spec_ReverseWay_fars g4 _ [(5, .int .i64 a0_4)] HV.out ((BX.out).at_ (i := 0) rfl) (by decide)) ?_; (case hr => first | (go_simp; done) | (go_simp; rfl)); intro w23_ BY HV2; clear HV; have HV := Aside0.mk HV2; clear HV2; have BY := Aside0.mk BY; clear BX; have BX := BY; clear BY; clear q4_0 f4_0 q4_1 f4_1 q4_2 f4_2 q4_3 f4_3 q4_4 f4_4 q4_5 f4_5 q4_6 f4_6 q2_0 f2_0 q2_1 f2_1 q2_2 f2_2 q2_3 f2_3 q2_4 f2_4 q2_5 f2_5 q2_6 f2_6 q2_7 f2_7 q1_0 f1_0 q1_1 f1_1 q1_2 f1_2 q1_3 f1_3 q1_4 f1_4 q1_5 f1_5 q1_6 f1_6; have q4_0 : World.cell? _ ⟨g4, 0, none⟩ = some (.int .i64 a0_1) := BX.out.cell (i := 0) rfl (j := 0) rfl; have f4_0 : World.frozen? _ ⟨g4, 0, none⟩ = false := BX.out.frozen (i := 0) rfl 0; have q4_1 : World.cell? _ ⟨g4, 1, none⟩ = some (.int .i64 a0_0) := BX.out.cell (i := 0) rfl (j := 1) rfl; have f4_1 : World.frozen? _ ⟨g4, 1, none⟩ = false := BX.out.frozen (i := 0) rfl 1; have q4_2 : World.cell? _ ⟨g4, 2, none⟩ = some (.int .i64 t3) := BX.out.cell (i := 0) rfl (j := 2) rfl; have f4_2 : World.frozen? _ ⟨g4, 2, none⟩ = false := BX.out.frozen (i := 0) rfl 2; have q4_3 : World.cell? _ ⟨g4, 3, none⟩ = some (.int .i64 t4) := BX.out.cell (i := 0) rfl (j := 3) rfl; have f4_3 : World.frozen? _ ⟨g4, 3, none⟩ = false := BX.out.frozen (i := 0) rfl 3; have q4_4 : World.cell? _ ⟨g4, 4, none⟩ = some (.int .i64 a0_5) := BX.out.cell (i := 0) rfl (j := 4) rfl; have f4_4 : World.frozen? _ ⟨g4, 4, none⟩ = false := BX.out.frozen (i := 0) rfl 4; have q4_5 : World.cell? _ ⟨g4, 5, none⟩ = some (.int .i64 a0_4) := BX.out.cell (i := 0) rfl (j := 5) rfl; have f4_5 : World.frozen? _ ⟨g4, 5, none⟩ = false := BX.out.frozen (i := 0) rfl 5; have q4_6 : World.cell? _ ⟨g4, 6, none⟩ = some (.slice Ao l7.length co) := BX.out.cell (i := 0) rfl (j := 6) rfl; have f4_6 : World.frozen? _ ⟨g4, 6, none⟩ = false := BX.out.frozen (i := 0) rfl 6; have q2_0 : World.cell? _ ⟨g2, 0, none⟩ = some (.int .i64 0) := BX.out.cell (i := 1) rfl (j := 0) rfl; have f2_0 : World.frozen? _ ⟨g2, 0, none⟩ = false := BX.out.frozen (i := 1) rfl 0; have q2_1 : World.cell? _ ⟨g2, 1, none⟩ = some (.int .i64 0) := BX.out.cell (i := 1) rfl (j := 1) rfl; have f2_1 : World.frozen? _ ⟨g2, 1, none⟩ = false := BX.out.frozen (i := 1) rfl 1; have q2_2 : World.cell? _ ⟨g2, 2, none⟩ = some (.int .i64 0) := BX.out.cell (i := 1) rfl (j := 2) rfl; have f2_2 : World.frozen? _ ⟨g2, 2, none⟩ = false := BX.out.frozen (i := 1) rfl 2; have q2_3 : World.cell? _ ⟨g2, 3, none⟩ = some (.int .i64 0) := BX.out.cell (i := 1) rfl (j := 3) rfl; have f2_3 : World.frozen? _ ⟨g2, 3, none⟩ = false := BX.out.frozen (i := 1) rfl 3; have q2_4 : World.cell? _ ⟨g2, 4, none⟩ = some (.int .i64 0) := BX.out.cell (i := 1) rfl (j := 4) rfl; have f2_4 : World.frozen? _ ⟨g2, 4, none⟩ = false := BX.out.frozen (i := 1) rfl 4; have q2_5 : World.cell? _ ⟨g2, 5, none⟩ = some (.int .i64 0) := BX.out.cell (i := 1) rfl (j := 5) rfl; have f2_5 : World.frozen? _ ⟨g2, 5, none⟩ = false := BX.out.frozen (i := 1) rfl 5; have q2_6 : World.cell? _ ⟨g2, 6, none⟩ = some (.int .i64 0) := BX.out.cell (i := 1) rfl (j := 6) rfl; have f2_6 : World.frozen? _ ⟨g2, 6, none⟩ = false := BX.out.frozen (i := 1) rfl 6; have q2_7 : World.cell? _ ⟨g2, 7, none⟩ = some (.slice none 0 0) := BX.out.cell (i := 1) rfl (j := 7) rfl; have f2_7 : World.frozen? _ ⟨g2, 7, none⟩ = false := BX.out.frozen (i := 1) rfl 7; have q1_0 : World.cell? _ ⟨g1, 0, none⟩ = some (.int .i64 a0_0) := BX.out.cell (i := 2) rfl (j := 0) rfl; have f1_0 : World.frozen? _ ⟨g1, 0, none⟩ = false := BX.out.frozen (i := 2) rfl 0; have q1_1 : World.cell? _ ⟨g1, 1, none⟩ = some (.int .i64 a0_1) := BX.out.cell (i := 2) rfl (j := 1) rfl; have f1_1 : World.frozen? _ ⟨g1, 1, none⟩ = false := BX.out.frozen (i := 2) rfl 1; have q1_2 : World.cell? _ ⟨g1, 2, none⟩ = some (.int .i64 a0_2) := BX.out.cell (i := 2) rfl (j := 2) rfl; have f1_2 : World.frozen? _ ⟨g1, 2, none⟩ = false := BX.out.frozen (i := 2) rfl 2; have q1_3 : World.cell? _ ⟨g1, 3, none⟩ = some (.int .i64 a0_3) := BX.out.cell (i := 2) rfl (j := 3) rfl; have f1_3 : World.frozen? _ ⟨g1, 3, none⟩ = false := BX.out.frozen (i := 2) rfl 3; have q1_4 : World.cell? _ ⟨g1, 4, none⟩ = some (.int .i64 a0_4) := BX.out.cell (i := 2) rfl (j := 4) rfl; have f1_4 : World.frozen? _ ⟨g1, 4, none⟩ = false := BX.out.frozen (i := 2) rfl 4; have q1_5 : World.cell? _ ⟨g1, 5, none⟩ = some (.int .i64 a0_5) := BX.out.cell (i := 2) rfl (j := 5) rfl; have f1_5 : World.frozen? _ ⟨g1, 5, none⟩ = false := BX.out.frozen (i := 2) rfl 5; have q1_6 : World.cell? _ ⟨g1, 6, none⟩ = some (.slice A0_6 l0_6.length c0_6) := BX.out.cell (i := 2) rfl (j := 6) rfl; have f1_6 : World.frozen? _ ⟨g1, 6, none⟩ = false := BX.out.frozen (i := 2) rfl 6) | ((with_reducible refine gate_store (t := 55) (p := 2) rfl ?_); refine boxes_storeC (C := fun W => Kd.R (Kd.int .u8) 5 W w.heap.size (fun _ => True) (.slice Ao l7.length co) l7) (w0 := w) (bs := [(g4, #[.int .i64 a0_1, .int .i64 a0_0, .int .i64 t3, .int .i64 t4, .int .i64 a0_5, .int .i64 a0_4, .slice Ao l7.length co], 53), (g2, #[.int .i64 0, .int .i64 a0_1, .int .i64 a0_0, .int .i64 t3, .int .i64 t4, .int .i64 a0_5, .int .i64 a0_4, .slice Ao l7.length co], 55), (g1, #[.int .i64 a0_0, .int .i64 a0_1, .int .i64 a0_2, .int .i64 a0_3, .int .i64 a0_4, .int .i64 a0_5, .slice A0_6 l0_6.length c0_6], 53)]) (W1 := (World.setCell (World.setCell (World.setCell (World.setCell (World.setCell (World.setCell (World.setCell (World.setCell w23_ ⟨g2, 0, none⟩ (.int .i64 0)) ⟨g2, 1, none⟩ (.int .i64 a0_1)) ⟨g2, 2, none⟩ (.int .i64 a0_0)) ⟨g2, 3, none⟩ (.int .i64 t3)) ⟨g2, 4, none⟩ (.int .i64 t4)) ⟨g2, 5, none⟩ (.int .i64 a0_5)) ⟨g2, 6, none⟩ (.int .i64 a0_4)) ⟨g2, 7, none⟩ (.slice Ao l7.length co))) rfl rfl rfl ?hr ((((((((Boxes.put (w0 := w) (b1 := [(g4, #[.int .i64 a0_1, .int .i64 a0_0, .int .i64 t3, .int .i64 t4, .int .i64 a0_5, .int .i64 a0_4, .slice Ao l7.length co], 53)]) (b2 := [(g1, #[.int .i64 a0_0, .int .i64 a0_1, .int .i64 a0_2, .int .i64 a0_3, .int .i64 a0_4, .int .i64 a0_5, .slice A0_6 l0_6.length c0_6], 53)]) (g := g2) (cs := #[.int .i64 0, .int .i64 0, .int .i64 0, .int .i64 0, .int .i64 0, .int .i64 0, .int .i64 0, .slice none 0 0]) (t := 55) BX.out 0 (.int .i64 0)).put (b1 := [(g4, #[.int .i64 a0_1, .int .i64 a0_0, .int .i64 t3, .int .i64 t4, .int .i64 a0_5, .int .i64 a0_4, .slice Ao l7.length co], 53)]) 1 (.int .i64 a0_1)).put (b1 := [(g4, #[.int .i64 a0_1, .int .i64 a0_0, .int .i64 t3, .int .i64 t4, .int .i64 a0_5, .int .i64 a0_4, .slice Ao l7.length co], 53)]) 2 (.int .i64 a0_0)).put (b1 := [(g4, #[.int .i64 a0_1, .int .i64 a0_0, .int .i64 t3, .int .i64 t4, .int .i64 a0_5, .int .i64 a0_4, .slice Ao l7.length co], 53)]) 3 (.int .i64 t3)).put (b1 := [(g4, #[.int .i64 a0_1, .int .i64 a0_0, .int .i64 t3, .int .i64 t4, .int .i64 a0_5, .int .i64 a0_4, .slice Ao l7.length co], 53)]) 4 (.int .i64 t4)).put (b1 := [(g4, #[.int .i64 a0_1, .int .i64 a0_0, .int .i64 t3, .int .i64 t4, .int .i64 a0_5, .int .i64 a0_4, .slice Ao l7.length co], 53)]) 5 (.int .i64 a0_5)).put (b1 := [(g4, #[.int .i64 a0_1, .int .i64 a0_0, .int .i64 t3, .int .i64 t4, .int .i64 a0_5, .int .i64 a0_4, .slice Ao l7.length co], 53)]) 6 (.int .i64 a0_4)).put (b1 := [(g4, #[.int .i64 a0_1, .int .i64 a0_0, .int .i64 t3, .int .i64 t4, .int .i64 a0_5, .int .i64 a0_4, .slice Ao l7.length co], 53)]) 7 (.slice Ao l7.length co)) (spec_ReverseWay_fars g2 _ [(0, .int .i64 0), (1, .int .i64 a0_1), (2, .int .i64 a0_0), (3, .int .i64 t3), (4, .int .i64 t4), (5, .int .i64 a0_5), (6, .int .i64 a0_4), (7, .slice Ao l7.length co)] HV.out ((BX.out).at_ (i := 1) rfl) (by decide)) ?_; (case hr => first | (go_simp; done) | (go_simp; rfl)); intro w12_ BY HV2; clear HV; have HV := Aside0.mk HV2; clear HV2; have BY := Aside0.mk BY; clear BX; have BX := BY; clear BY; clear q4_0 f4_0 q4_1 f4_1 q4_2 f4_2 q4_3 f4_3 q4_4 f4_4 q4_5 f4_5 q4_6 f4_6 q2_0 f2_0 q2_1 f2_1 q2_2 f2_2 q2_3 f2_3 q2_4 f2_4 q2_5 f2_5 q2_6 f2_6 q2_7 f2_7 q1_0 f1_0 q1_1 f1_1 q1_2 f1_2 q1_3 f1_3 q1_4 f1_4 q1_5 f1_5 q1_6 f1_6; have q4_0 : World.cell? _ ⟨g4, 0, none⟩ = some (.int .i64 a0_1) := BX.out.cell (i := 0) rfl (j := 0) rfl; have f4_0 : World.frozen? _ ⟨g4, 0, none⟩ = false := BX.out.frozen (i := 0) rfl 0; have q4_1 : World.cell? _ ⟨g4, 1, none⟩ = some (.int .i64 a0_0) := BX.out.cell (i := 0) rfl (j := 1) rfl; have f4_1 : World.frozen? _ ⟨g4, 1, none⟩ = false := BX.out.frozen (i := 0) rfl 1; have q4_2 : World.cell? _ ⟨g4, 2, none⟩ = some (.int .i64 t3) := BX.out.cell (i := 0) rfl (j := 2) rfl; have f4_2 : World.frozen? _ ⟨g4, 2, none⟩ = false := BX.out.frozen (i := 0) rfl 2; have q4_3 : World.cell? _ ⟨g4, 3, none⟩ = some (.int .i64 t4) := BX.out.cell (i := 0) rfl (j := 3) rfl; have f4_3 : World.frozen? _ ⟨g4, 3, none⟩ = false := BX.out.frozen (i := 0) rfl 3; have q4_4 : World.cell? _ ⟨g4, 4, none⟩ = some (.int .i64 a0_5) := BX.out.cell (i := 0) rfl (j := 4) rfl; have f4_4 : World.frozen? _ ⟨g4, 4, none⟩ = false := BX.out.frozen (i := 0) rfl 4; have q4_5 : World.cell? _ ⟨g4, 5, none⟩ = some (.int .i64 a0_4) := BX.out.cell (i := 0) rfl (j := 5) rfl; have f4_5 : World.frozen? _ ⟨g4, 5, none⟩ = false := BX.out.frozen (i := 0) rfl 5; have q4_6 : World.cell? _ ⟨g4, 6, none⟩ = some (.slice Ao l7.length co) := BX.out.cell (i := 0) rfl (j := 6) rfl; have f4_6 : World.frozen? _ ⟨g4, 6, none⟩ = false := BX.out.frozen (i := 0) rfl 6; have q2_0 : World.cell? _ ⟨g2, 0, none⟩ = some (.int .i64 0) := BX.out.cell (i := 1) rfl (j := 0) rfl; have f2_0 : World.frozen? _ ⟨g2, 0, none⟩ = false := BX.out.frozen (i := 1) rfl 0; have q2_1 : World.cell? _ ⟨g2, 1, none⟩ = some (.int .i64 a0_1) := BX.out.cell (i := 1) rfl (j := 1) rfl; have f2_1 : World.frozen? _ ⟨g2, 1, none⟩ = false := BX.out.frozen (i := 1) rfl 1; have q2_2 : World.cell? _ ⟨g2, 2, none⟩ = some (.int .i64 a0_0) := BX.out.cell (i := 1) rfl (j := 2) rfl; have f2_2 : World.frozen? _ ⟨g2, 2, none⟩ = false := BX.out.frozen (i := 1) rfl 2; have q2_3 : World.cell? _ ⟨g2, 3, none⟩ = some (.int .i64 t3) := BX.out.cell (i := 1) rfl (j := 3) rfl; have f2_3 : World.frozen? _ ⟨g2, 3, none⟩ = false := BX.out.frozen (i := 1) rfl 3; have q2_4 : World.cell? _ ⟨g2, 4, none⟩ = some (.int .i64 t4) := BX.out.cell (i := 1) rfl (j := 4) rfl; have f2_4 : World.frozen? _ ⟨g2, 4, none⟩ = false := BX.out.frozen (i := 1) rfl 4; have q2_5 : World.cell? _ ⟨g2, 5, none⟩ = some (.int .i64 a0_5) := BX.out.cell (i := 1) rfl (j := 5) rfl; have f2_5 : World.frozen? _ ⟨g2, 5, none⟩ = false := BX.out.frozen (i := 1) rfl 5; have q2_6 : World.cell? _ ⟨g2, 6, none⟩ = some (.int .i64 a0_4) := BX.out.cell (i := 1) rfl (j := 6) rfl; have f2_6 : World.frozen? _ ⟨g2, 6, none⟩ = false := BX.out.frozen (i := 1) rfl 6; have q2_7 : World.cell? _ ⟨g2, 7, none⟩ = some (.slice Ao l7.length co) := BX.out.cell (i := 1) rfl (j := 7) rfl; have f2_7 : World.frozen? _ ⟨g2, 7, none⟩ = false := BX.out.frozen (i := 1) rfl 7; have q1_0 : World.cell? _ ⟨g1, 0, none⟩ = some (.int .i64 a0_0) := BX.out.cell (i := 2) rfl (j := 0) rfl; have f1_0 : World.frozen? _ ⟨g1, 0, none⟩ = false := BX.out.frozen (i := 2) rfl 0; have q1_1 : World.cell? _ ⟨g1, 1, none⟩ = some (.int .i64 a0_1) := BX.out.cell (i := 2) rfl (j := 1) rfl; have f1_1 : World.frozen? _ ⟨g1, 1, none⟩ = false := BX.out.frozen (i := 2) rfl 1; have q1_2 : World.cell? _ ⟨g1, 2, none⟩ = some (.int .i64 a0_2) := BX.out.cell (i := 2) rfl (j := 2) rfl; have f1_2 : World.frozen? _ ⟨g1, 2, none⟩ = false := BX.out.frozen (i := 2) rfl 2; have q1_3 : World.cell? _ ⟨g1, 3, none⟩ = some (.int .i64 a0_3) := BX.out.cell (i := 2) rfl (j := 3) rfl; have f1_3 : World.frozen? _ ⟨g1, 3, none⟩ = false := BX.out.frozen (i := 2) rfl 3; have q1_4 : World.cell? _ ⟨g1, 4, none⟩ = some (.int .i64 a0_4) := BX.out.cell (i := 2) rfl (j := 4) rfl; have f1_4 : World.frozen? _ ⟨g1, 4, none⟩ = false := BX.out.frozen (i := 2) rfl 4; have q1_5 : World.cell? _ ⟨g1, 5, none⟩ = some (.int .i64 a0_5) := BX.out.cell (i := 2) rfl (j := 5) rfl; have f1_5 : World.frozen? _ ⟨g1, 5, none⟩ = false := BX.out.frozen (i := 2) rfl 5; have q1_6 : World.cell? _ ⟨g1, 6, none⟩ = some (.slice A0_6 l0_6.length c0_6) := BX.out.cell (i := 2) rfl (j := 6) rfl; have f1_6 : World.frozen? _ ⟨g1, 6, none⟩ = false := BX.out.frozen (i := 2) rfl 6) | fail)
  refine bodyPost_ret (results_cell_row rfl _ _ g2 55 #[.int .i64 0, .int .i64 a0_1, .int .i64 a0_0, .int .i64 t3, .int .i64 t4, .int .i64 a0_5, .int .i64 a0_4, .slice Ao l7.length co] (0, 0) _ rfl (Boxes.at_ (w0 := w) (bs := [(g4, #[.int .i64 a0_1, .int .i64 a0_0, .int .i64 t3, .int .i64 t4, .int .i64 a0_5, .int .i64 a0_4, .slice Ao l7.length co], 53), (g2, #[.int .i64 0, .int .i64 a0_1, .int .i64 a0_0, .int .i64 t3, .int .i64 t4, .int .i64 a0_5, .int .i64 a0_4, .slice Ao l7.length co], 55), (g1, #[.int .i64 a0_0, .int .i64 a0_1, .int .i64 a0_2, .int .i64 a0_3, .int .i64 a0_4, .int .i64 a0_5, .slice A0_6 l0_6.length c0_6], 53)]) (by (with_reducible repeat (first | refine Boxes.drewN ?_ _ | refine Boxes.drew ?_ | refine Boxes.alloc ?_ _)); exact BX.out) (i := 1) rfl) Try.underlying55 rfl (by kernel_rfl)) rfl ?_
  exact ⟨_, rfl, HV.out, Boxes.low (w0 := w) (bs := [(g4, #[.int .i64 a0_1, .int .i64 a0_0, .int .i64 t3, .int .i64 t4, .int .i64 a0_5, .int .i64 a0_4, .slice Ao l7.length co], 53), (g2, #[.int .i64 0, .int .i64 a0_1, .int .i64 a0_0, .int .i64 t3, .int .i64 t4, .int .i64 a0_5, .int .i64 a0_4, .slice Ao l7.length co], 55), (g1, #[.int .i64 a0_0, .int .i64 a0_1, .int .i64 a0_2, .int .i64 a0_3, .int .i64 a0_4, .int .i64 a0_5, .slice A0_6 l0_6.length c0_6], 53)]) (by (with_reducible repeat (first | refine Boxes.drewN ?_ _ | refine Boxes.drew ?_ | refine Boxes.alloc ?_ _)); exact BX.out)⟩
set_option maxHeartbeats 8000000 in
set_option maxRecDepth 100000 in
theorem spec_ReverseWay_bad (k : Nat) (a0_0 : Int) (a0_1 : Int) (a0_2 : Int) (a0_3 : Int) (a0_4 : Int) (a0_5 : Int) (A0_6 : Option Addr) (c0_6 : Nat) (l0_6 : List Int) (c_ : Int) (w : World) (hr0_6 : Kd.C (Kd.int .u8) w A0_6 l0_6.length l0_6) (hc0_6 : l0_6.length ≤ c0_6) (h1 : spec_PacketFault.f k a0_0 a0_1 a0_2 a0_3 a0_4 a0_5 l0_6 = some c_) (hc : (c_ != 0) = true) :
    Calls Try.prog 39 #[.agg #[.int .i64 a0_0, .int .i64 a0_1, .int .i64 a0_2, .int .i64 a0_3, .int .i64 a0_4, .int .i64 a0_5, .slice A0_6 l0_6.length c0_6]] w fun e w' => ∃ v7_ : Value, e = .returned (.agg #[.int .i64 c_, .int .i64 0, .int .i64 0, .int .i64 0, .int .i64 0, .int .i64 0, .int .i64 0, v7_]) ∧ Kd.R (Kd.int .u8) 5 w' w.heap.size (fun _ => True) v7_ [] ∧ Below w.heap.size w w' := by
  have hu53 := Try.underlying53
  have hu55 := Try.underlying55
  have HF := Aside0.mk (fun (W : World) (hb : Below w.heap.size w W) => spec_PacketFault.calls k a0_0 a0_1 a0_2 a0_3 a0_4 a0_5 A0_6 c0_6 l0_6 c_ W (Kd.C_below hr0_6 hb) hc0_6 h1)
  have HL := Aside0.mk (fun (W : World) => spec_ReverseWay_l2 c_ W)
  have BX := Aside0.mk (Boxes.start w)
  clear h1 hr0_6
  go_enter Try.func39, Try.ntmps39
  go_wp2_with (first | ((with_reducible refine gate_dst (N := 1) rfl ?_); refine box_event ?hg (N := 1) ?hd (cs := #[.int .i64 a0_0, .int .i64 a0_1, .int .i64 a0_2, .int .i64 a0_3, .int .i64 a0_4, .int .i64 a0_5, .slice A0_6 l0_6.length c0_6]) (t := 53) ?hr ?_; (case hd => rfl); (case hg => rfl); (case hr => first | (go_simp; done) | (go_simp; rfl)); intro g1 hg w1_ hbox hb; have BY := Aside0.mk (Boxes.new (w0 := w) (bs := []) (by (with_reducible repeat (first | refine Boxes.drewN ?_ _ | refine Boxes.drew ?_ | refine Boxes.alloc ?_ _)); exact BX.out) hg hbox hb); clear BX hb hbox hg; have BX := BY; clear BY; have q1_0 : World.cell? _ ⟨g1, 0, none⟩ = some (.int .i64 a0_0) := BX.out.cell (i := 0) rfl (j := 0) rfl; have f1_0 : World.frozen? _ ⟨g1, 0, none⟩ = false := BX.out.frozen (i := 0) rfl 0; have q1_1 : World.cell? _ ⟨g1, 1, none⟩ = some (.int .i64 a0_1) := BX.out.cell (i := 0) rfl (j := 1) rfl; have f1_1 : World.frozen? _ ⟨g1, 1, none⟩ = false := BX.out.frozen (i := 0) rfl 1; have q1_2 : World.cell? _ ⟨g1, 2, none⟩ = some (.int .i64 a0_2) := BX.out.cell (i := 0) rfl (j := 2) rfl; have f1_2 : World.frozen? _ ⟨g1, 2, none⟩ = false := BX.out.frozen (i := 0) rfl 2; have q1_3 : World.cell? _ ⟨g1, 3, none⟩ = some (.int .i64 a0_3) := BX.out.cell (i := 0) rfl (j := 3) rfl; have f1_3 : World.frozen? _ ⟨g1, 3, none⟩ = false := BX.out.frozen (i := 0) rfl 3; have q1_4 : World.cell? _ ⟨g1, 4, none⟩ = some (.int .i64 a0_4) := BX.out.cell (i := 0) rfl (j := 4) rfl; have f1_4 : World.frozen? _ ⟨g1, 4, none⟩ = false := BX.out.frozen (i := 0) rfl 4; have q1_5 : World.cell? _ ⟨g1, 5, none⟩ = some (.int .i64 a0_5) := BX.out.cell (i := 0) rfl (j := 5) rfl; have f1_5 : World.frozen? _ ⟨g1, 5, none⟩ = false := BX.out.frozen (i := 0) rfl 5; have q1_6 : World.cell? _ ⟨g1, 6, none⟩ = some (.slice A0_6 l0_6.length c0_6) := BX.out.cell (i := 0) rfl (j := 6) rfl; have f1_6 : World.frozen? _ ⟨g1, 6, none⟩ = false := BX.out.frozen (i := 0) rfl 6) | ((with_reducible refine gate_dst (N := 2) rfl ?_); refine box_event ?hg (N := 2) ?hd (cs := #[.int .i64 0, .int .i64 0, .int .i64 0, .int .i64 0, .int .i64 0, .int .i64 0, .int .i64 0, .slice none 0 0]) (t := 55) ?hr ?_; (case hd => rfl); (case hg => rfl); (case hr => first | (go_simp; done) | (go_simp; rfl)); intro g2 hg w2_ hbox hb; have BY := Aside0.mk (Boxes.new (w0 := w) (bs := [(g1, #[.int .i64 a0_0, .int .i64 a0_1, .int .i64 a0_2, .int .i64 a0_3, .int .i64 a0_4, .int .i64 a0_5, .slice A0_6 l0_6.length c0_6], 53)]) (by (with_reducible repeat (first | refine Boxes.drewN ?_ _ | refine Boxes.drew ?_ | refine Boxes.alloc ?_ _)); exact BX.out) hg hbox hb); clear BX hb hbox hg; have BX := BY; clear BY; clear q1_0 f1_0 q1_1 f1_1 q1_2 f1_2 q1_3 f1_3 q1_4 f1_4 q1_5 f1_5 q1_6 f1_6; have q2_0 : World.cell? _ ⟨g2, 0, none⟩ = some (.int .i64 0) := BX.out.cell (i := 0) rfl (j := 0) rfl; have f2_0 : World.frozen? _ ⟨g2, 0, none⟩ = false := BX.out.frozen (i := 0) rfl 0; have q2_1 : World.cell? _ ⟨g2, 1, none⟩ = some (.int .i64 0) := BX.out.cell (i := 0) rfl (j := 1) rfl; have f2_1 : World.frozen? _ ⟨g2, 1, none⟩ = false := BX.out.frozen (i := 0) rfl 1; have q2_2 : World.cell? _ ⟨g2, 2, none⟩ = some (.int .i64 0) := BX.out.cell (i := 0) rfl (j := 2) rfl; have f2_2 : World.frozen? _ ⟨g2, 2, none⟩ = false := BX.out.frozen (i := 0) rfl 2; have q2_3 : World.cell? _ ⟨g2, 3, none⟩ = some (.int .i64 0) := BX.out.cell (i := 0) rfl (j := 3) rfl; have f2_3 : World.frozen? _ ⟨g2, 3, none⟩ = false := BX.out.frozen (i := 0) rfl 3; have q2_4 : World.cell? _ ⟨g2, 4, none⟩ = some (.int .i64 0) := BX.out.cell (i := 0) rfl (j := 4) rfl; have f2_4 : World.frozen? _ ⟨g2, 4, none⟩ = false := BX.out.frozen (i := 0) rfl 4; have q2_5 : World.cell? _ ⟨g2, 5, none⟩ = some (.int .i64 0) := BX.out.cell (i := 0) rfl (j := 5) rfl; have f2_5 : World.frozen? _ ⟨g2, 5, none⟩ = false := BX.out.frozen (i := 0) rfl 5; have q2_6 : World.cell? _ ⟨g2, 6, none⟩ = some (.int .i64 0) := BX.out.cell (i := 0) rfl (j := 6) rfl; have f2_6 : World.frozen? _ ⟨g2, 6, none⟩ = false := BX.out.frozen (i := 0) rfl 6; have q2_7 : World.cell? _ ⟨g2, 7, none⟩ = some (.slice none 0 0) := BX.out.cell (i := 0) rfl (j := 7) rfl; have f2_7 : World.frozen? _ ⟨g2, 7, none⟩ = false := BX.out.frozen (i := 0) rfl 7; have q1_0 : World.cell? _ ⟨g1, 0, none⟩ = some (.int .i64 a0_0) := BX.out.cell (i := 1) rfl (j := 0) rfl; have f1_0 : World.frozen? _ ⟨g1, 0, none⟩ = false := BX.out.frozen (i := 1) rfl 0; have q1_1 : World.cell? _ ⟨g1, 1, none⟩ = some (.int .i64 a0_1) := BX.out.cell (i := 1) rfl (j := 1) rfl; have f1_1 : World.frozen? _ ⟨g1, 1, none⟩ = false := BX.out.frozen (i := 1) rfl 1; have q1_2 : World.cell? _ ⟨g1, 2, none⟩ = some (.int .i64 a0_2) := BX.out.cell (i := 1) rfl (j := 2) rfl; have f1_2 : World.frozen? _ ⟨g1, 2, none⟩ = false := BX.out.frozen (i := 1) rfl 2; have q1_3 : World.cell? _ ⟨g1, 3, none⟩ = some (.int .i64 a0_3) := BX.out.cell (i := 1) rfl (j := 3) rfl; have f1_3 : World.frozen? _ ⟨g1, 3, none⟩ = false := BX.out.frozen (i := 1) rfl 3; have q1_4 : World.cell? _ ⟨g1, 4, none⟩ = some (.int .i64 a0_4) := BX.out.cell (i := 1) rfl (j := 4) rfl; have f1_4 : World.frozen? _ ⟨g1, 4, none⟩ = false := BX.out.frozen (i := 1) rfl 4; have q1_5 : World.cell? _ ⟨g1, 5, none⟩ = some (.int .i64 a0_5) := BX.out.cell (i := 1) rfl (j := 5) rfl; have f1_5 : World.frozen? _ ⟨g1, 5, none⟩ = false := BX.out.frozen (i := 1) rfl 5; have q1_6 : World.cell? _ ⟨g1, 6, none⟩ = some (.slice A0_6 l0_6.length c0_6) := BX.out.cell (i := 1) rfl (j := 6) rfl; have f1_6 : World.frozen? _ ⟨g1, 6, none⟩ = false := BX.out.frozen (i := 1) rfl 6) | (go_at_call 64; (with_reducible refine (HF.out _ (Boxes.low (w0 := w) (bs := [(g2, #[.int .i64 0, .int .i64 0, .int .i64 0, .int .i64 0, .int .i64 0, .int .i64 0, .int .i64 0, .slice none 0 0], 55), (g1, #[.int .i64 a0_0, .int .i64 a0_1, .int .i64 a0_2, .int .i64 a0_3, .int .i64 a0_4, .int .i64 a0_5, .slice A0_6 l0_6.length c0_6], 53)]) (by (with_reducible repeat (first | refine Boxes.drewN ?_ _ | refine Boxes.drew ?_ | refine Boxes.alloc ?_ _)); exact BX.out))).mono ?_); rintro e w5_ ⟨rfl, hb⟩; have BY := Aside0.mk (Boxes.below (w0 := w) (bs := [(g2, #[.int .i64 0, .int .i64 0, .int .i64 0, .int .i64 0, .int .i64 0, .int .i64 0, .int .i64 0, .slice none 0 0], 55), (g1, #[.int .i64 a0_0, .int .i64 a0_1, .int .i64 a0_2, .int .i64 a0_3, .int .i64 a0_4, .int .i64 a0_5, .slice A0_6 l0_6.length c0_6], 53)]) (by (with_reducible repeat (first | refine Boxes.drewN ?_ _ | refine Boxes.drew ?_ | refine Boxes.alloc ?_ _)); exact BX.out) hb); clear BX hb; have BX := BY; clear BY; clear q2_0 f2_0 q2_1 f2_1 q2_2 f2_2 q2_3 f2_3 q2_4 f2_4 q2_5 f2_5 q2_6 f2_6 q2_7 f2_7 q1_0 f1_0 q1_1 f1_1 q1_2 f1_2 q1_3 f1_3 q1_4 f1_4 q1_5 f1_5 q1_6 f1_6; have q2_0 : World.cell? _ ⟨g2, 0, none⟩ = some (.int .i64 0) := BX.out.cell (i := 0) rfl (j := 0) rfl; have f2_0 : World.frozen? _ ⟨g2, 0, none⟩ = false := BX.out.frozen (i := 0) rfl 0; have q2_1 : World.cell? _ ⟨g2, 1, none⟩ = some (.int .i64 0) := BX.out.cell (i := 0) rfl (j := 1) rfl; have f2_1 : World.frozen? _ ⟨g2, 1, none⟩ = false := BX.out.frozen (i := 0) rfl 1; have q2_2 : World.cell? _ ⟨g2, 2, none⟩ = some (.int .i64 0) := BX.out.cell (i := 0) rfl (j := 2) rfl; have f2_2 : World.frozen? _ ⟨g2, 2, none⟩ = false := BX.out.frozen (i := 0) rfl 2; have q2_3 : World.cell? _ ⟨g2, 3, none⟩ = some (.int .i64 0) := BX.out.cell (i := 0) rfl (j := 3) rfl; have f2_3 : World.frozen? _ ⟨g2, 3, none⟩ = false := BX.out.frozen (i := 0) rfl 3; have q2_4 : World.cell? _ ⟨g2, 4, none⟩ = some (.int .i64 0) := BX.out.cell (i := 0) rfl (j := 4) rfl; have f2_4 : World.frozen? _ ⟨g2, 4, none⟩ = false := BX.out.frozen (i := 0) rfl 4; have q2_5 : World.cell? _ ⟨g2, 5, none⟩ = some (.int .i64 0) := BX.out.cell (i := 0) rfl (j := 5) rfl; have f2_5 : World.frozen? _ ⟨g2, 5, none⟩ = false := BX.out.frozen (i := 0) rfl 5; have q2_6 : World.cell? _ ⟨g2, 6, none⟩ = some (.int .i64 0) := BX.out.cell (i := 0) rfl (j := 6) rfl; have f2_6 : World.frozen? _ ⟨g2, 6, none⟩ = false := BX.out.frozen (i := 0) rfl 6; have q2_7 : World.cell? _ ⟨g2, 7, none⟩ = some (.slice none 0 0) := BX.out.cell (i := 0) rfl (j := 7) rfl; have f2_7 : World.frozen? _ ⟨g2, 7, none⟩ = false := BX.out.frozen (i := 0) rfl 7; have q1_0 : World.cell? _ ⟨g1, 0, none⟩ = some (.int .i64 a0_0) := BX.out.cell (i := 1) rfl (j := 0) rfl; have f1_0 : World.frozen? _ ⟨g1, 0, none⟩ = false := BX.out.frozen (i := 1) rfl 0; have q1_1 : World.cell? _ ⟨g1, 1, none⟩ = some (.int .i64 a0_1) := BX.out.cell (i := 1) rfl (j := 1) rfl; have f1_1 : World.frozen? _ ⟨g1, 1, none⟩ = false := BX.out.frozen (i := 1) rfl 1; have q1_2 : World.cell? _ ⟨g1, 2, none⟩ = some (.int .i64 a0_2) := BX.out.cell (i := 1) rfl (j := 2) rfl; have f1_2 : World.frozen? _ ⟨g1, 2, none⟩ = false := BX.out.frozen (i := 1) rfl 2; have q1_3 : World.cell? _ ⟨g1, 3, none⟩ = some (.int .i64 a0_3) := BX.out.cell (i := 1) rfl (j := 3) rfl; have f1_3 : World.frozen? _ ⟨g1, 3, none⟩ = false := BX.out.frozen (i := 1) rfl 3; have q1_4 : World.cell? _ ⟨g1, 4, none⟩ = some (.int .i64 a0_4) := BX.out.cell (i := 1) rfl (j := 4) rfl; have f1_4 : World.frozen? _ ⟨g1, 4, none⟩ = false := BX.out.frozen (i := 1) rfl 4; have q1_5 : World.cell? _ ⟨g1, 5, none⟩ = some (.int .i64 a0_5) := BX.out.cell (i := 1) rfl (j := 5) rfl; have f1_5 : World.frozen? _ ⟨g1, 5, none⟩ = false := BX.out.frozen (i := 1) rfl 5; have q1_6 : World.cell? _ ⟨g1, 6, none⟩ = some (.slice A0_6 l0_6.length c0_6) := BX.out.cell (i := 1) rfl (j := 6) rfl; have f1_6 : World.frozen? _ ⟨g1, 6, none⟩ = false := BX.out.frozen (i := 1) rfl 6) | (go_at_call 58; (with_reducible refine (HL.out _).mono ?_); rintro e w6_ ⟨rfl, hb⟩; have BY := Aside0.mk (Boxes.below (w0 := w) (bs := [(g2, #[.int .i64 0, .int .i64 0, .int .i64 0, .int .i64 0, .int .i64 0, .int .i64 0, .int .i64 0, .slice none 0 0], 55), (g1, #[.int .i64 a0_0, .int .i64 a0_1, .int .i64 a0_2, .int .i64 a0_3, .int .i64 a0_4, .int .i64 a0_5, .slice A0_6 l0_6.length c0_6], 53)]) (by (with_reducible repeat (first | refine Boxes.drewN ?_ _ | refine Boxes.drew ?_ | refine Boxes.alloc ?_ _)); exact BX.out) hb); clear BX hb; have BX := BY; clear BY; clear q2_0 f2_0 q2_1 f2_1 q2_2 f2_2 q2_3 f2_3 q2_4 f2_4 q2_5 f2_5 q2_6 f2_6 q2_7 f2_7 q1_0 f1_0 q1_1 f1_1 q1_2 f1_2 q1_3 f1_3 q1_4 f1_4 q1_5 f1_5 q1_6 f1_6; have q2_0 : World.cell? _ ⟨g2, 0, none⟩ = some (.int .i64 0) := BX.out.cell (i := 0) rfl (j := 0) rfl; have f2_0 : World.frozen? _ ⟨g2, 0, none⟩ = false := BX.out.frozen (i := 0) rfl 0; have q2_1 : World.cell? _ ⟨g2, 1, none⟩ = some (.int .i64 0) := BX.out.cell (i := 0) rfl (j := 1) rfl; have f2_1 : World.frozen? _ ⟨g2, 1, none⟩ = false := BX.out.frozen (i := 0) rfl 1; have q2_2 : World.cell? _ ⟨g2, 2, none⟩ = some (.int .i64 0) := BX.out.cell (i := 0) rfl (j := 2) rfl; have f2_2 : World.frozen? _ ⟨g2, 2, none⟩ = false := BX.out.frozen (i := 0) rfl 2; have q2_3 : World.cell? _ ⟨g2, 3, none⟩ = some (.int .i64 0) := BX.out.cell (i := 0) rfl (j := 3) rfl; have f2_3 : World.frozen? _ ⟨g2, 3, none⟩ = false := BX.out.frozen (i := 0) rfl 3; have q2_4 : World.cell? _ ⟨g2, 4, none⟩ = some (.int .i64 0) := BX.out.cell (i := 0) rfl (j := 4) rfl; have f2_4 : World.frozen? _ ⟨g2, 4, none⟩ = false := BX.out.frozen (i := 0) rfl 4; have q2_5 : World.cell? _ ⟨g2, 5, none⟩ = some (.int .i64 0) := BX.out.cell (i := 0) rfl (j := 5) rfl; have f2_5 : World.frozen? _ ⟨g2, 5, none⟩ = false := BX.out.frozen (i := 0) rfl 5; have q2_6 : World.cell? _ ⟨g2, 6, none⟩ = some (.int .i64 0) := BX.out.cell (i := 0) rfl (j := 6) rfl; have f2_6 : World.frozen? _ ⟨g2, 6, none⟩ = false := BX.out.frozen (i := 0) rfl 6; have q2_7 : World.cell? _ ⟨g2, 7, none⟩ = some (.slice none 0 0) := BX.out.cell (i := 0) rfl (j := 7) rfl; have f2_7 : World.frozen? _ ⟨g2, 7, none⟩ = false := BX.out.frozen (i := 0) rfl 7; have q1_0 : World.cell? _ ⟨g1, 0, none⟩ = some (.int .i64 a0_0) := BX.out.cell (i := 1) rfl (j := 0) rfl; have f1_0 : World.frozen? _ ⟨g1, 0, none⟩ = false := BX.out.frozen (i := 1) rfl 0; have q1_1 : World.cell? _ ⟨g1, 1, none⟩ = some (.int .i64 a0_1) := BX.out.cell (i := 1) rfl (j := 1) rfl; have f1_1 : World.frozen? _ ⟨g1, 1, none⟩ = false := BX.out.frozen (i := 1) rfl 1; have q1_2 : World.cell? _ ⟨g1, 2, none⟩ = some (.int .i64 a0_2) := BX.out.cell (i := 1) rfl (j := 2) rfl; have f1_2 : World.frozen? _ ⟨g1, 2, none⟩ = false := BX.out.frozen (i := 1) rfl 2; have q1_3 : World.cell? _ ⟨g1, 3, none⟩ = some (.int .i64 a0_3) := BX.out.cell (i := 1) rfl (j := 3) rfl; have f1_3 : World.frozen? _ ⟨g1, 3, none⟩ = false := BX.out.frozen (i := 1) rfl 3; have q1_4 : World.cell? _ ⟨g1, 4, none⟩ = some (.int .i64 a0_4) := BX.out.cell (i := 1) rfl (j := 4) rfl; have f1_4 : World.frozen? _ ⟨g1, 4, none⟩ = false := BX.out.frozen (i := 1) rfl 4; have q1_5 : World.cell? _ ⟨g1, 5, none⟩ = some (.int .i64 a0_5) := BX.out.cell (i := 1) rfl (j := 5) rfl; have f1_5 : World.frozen? _ ⟨g1, 5, none⟩ = false := BX.out.frozen (i := 1) rfl 5; have q1_6 : World.cell? _ ⟨g1, 6, none⟩ = some (.slice A0_6 l0_6.length c0_6) := BX.out.cell (i := 1) rfl (j := 6) rfl; have f1_6 : World.frozen? _ ⟨g1, 6, none⟩ = false := BX.out.frozen (i := 1) rfl 6) | ((with_reducible refine gate_store (t := 55) (p := 2) rfl ?_); refine boxes_store (w0 := w) (bs := [(g2, #[.int .i64 c_, .int .i64 0, .int .i64 0, .int .i64 0, .int .i64 0, .int .i64 0, .int .i64 0, .slice none 0 0], 55), (g1, #[.int .i64 a0_0, .int .i64 a0_1, .int .i64 a0_2, .int .i64 a0_3, .int .i64 a0_4, .int .i64 a0_5, .slice A0_6 l0_6.length c0_6], 53)]) (W1 := (World.setCell (World.setCell (World.setCell (World.setCell (World.setCell (World.setCell (World.setCell (World.setCell w6_ ⟨g2, 0, none⟩ (.int .i64 c_)) ⟨g2, 1, none⟩ (.int .i64 0)) ⟨g2, 2, none⟩ (.int .i64 0)) ⟨g2, 3, none⟩ (.int .i64 0)) ⟨g2, 4, none⟩ (.int .i64 0)) ⟨g2, 5, none⟩ (.int .i64 0)) ⟨g2, 6, none⟩ (.int .i64 0)) ⟨g2, 7, none⟩ (.slice none 0 0))) rfl rfl rfl ?hr ((((((((Boxes.put (w0 := w) (b1 := []) (b2 := [(g1, #[.int .i64 a0_0, .int .i64 a0_1, .int .i64 a0_2, .int .i64 a0_3, .int .i64 a0_4, .int .i64 a0_5, .slice A0_6 l0_6.length c0_6], 53)]) (g := g2) (cs := #[.int .i64 0, .int .i64 0, .int .i64 0, .int .i64 0, .int .i64 0, .int .i64 0, .int .i64 0, .slice none 0 0]) (t := 55) BX.out 0 (.int .i64 c_)).put (b1 := []) 1 (.int .i64 0)).put (b1 := []) 2 (.int .i64 0)).put (b1 := []) 3 (.int .i64 0)).put (b1 := []) 4 (.int .i64 0)).put (b1 := []) 5 (.int .i64 0)).put (b1 := []) 6 (.int .i64 0)).put (b1 := []) 7 (.slice none 0 0)) ?_; (case hr => first | (go_simp; done) | (go_simp; rfl)); intro w12_ BY; have BY := Aside0.mk BY; clear BX; have BX := BY; clear BY; clear q2_0 f2_0 q2_1 f2_1 q2_2 f2_2 q2_3 f2_3 q2_4 f2_4 q2_5 f2_5 q2_6 f2_6 q2_7 f2_7 q1_0 f1_0 q1_1 f1_1 q1_2 f1_2 q1_3 f1_3 q1_4 f1_4 q1_5 f1_5 q1_6 f1_6; have q2_0 : World.cell? _ ⟨g2, 0, none⟩ = some (.int .i64 c_) := BX.out.cell (i := 0) rfl (j := 0) rfl; have f2_0 : World.frozen? _ ⟨g2, 0, none⟩ = false := BX.out.frozen (i := 0) rfl 0; have q2_1 : World.cell? _ ⟨g2, 1, none⟩ = some (.int .i64 0) := BX.out.cell (i := 0) rfl (j := 1) rfl; have f2_1 : World.frozen? _ ⟨g2, 1, none⟩ = false := BX.out.frozen (i := 0) rfl 1; have q2_2 : World.cell? _ ⟨g2, 2, none⟩ = some (.int .i64 0) := BX.out.cell (i := 0) rfl (j := 2) rfl; have f2_2 : World.frozen? _ ⟨g2, 2, none⟩ = false := BX.out.frozen (i := 0) rfl 2; have q2_3 : World.cell? _ ⟨g2, 3, none⟩ = some (.int .i64 0) := BX.out.cell (i := 0) rfl (j := 3) rfl; have f2_3 : World.frozen? _ ⟨g2, 3, none⟩ = false := BX.out.frozen (i := 0) rfl 3; have q2_4 : World.cell? _ ⟨g2, 4, none⟩ = some (.int .i64 0) := BX.out.cell (i := 0) rfl (j := 4) rfl; have f2_4 : World.frozen? _ ⟨g2, 4, none⟩ = false := BX.out.frozen (i := 0) rfl 4; have q2_5 : World.cell? _ ⟨g2, 5, none⟩ = some (.int .i64 0) := BX.out.cell (i := 0) rfl (j := 5) rfl; have f2_5 : World.frozen? _ ⟨g2, 5, none⟩ = false := BX.out.frozen (i := 0) rfl 5; have q2_6 : World.cell? _ ⟨g2, 6, none⟩ = some (.int .i64 0) := BX.out.cell (i := 0) rfl (j := 6) rfl; have f2_6 : World.frozen? _ ⟨g2, 6, none⟩ = false := BX.out.frozen (i := 0) rfl 6; have q2_7 : World.cell? _ ⟨g2, 7, none⟩ = some (.slice none 0 0) := BX.out.cell (i := 0) rfl (j := 7) rfl; have f2_7 : World.frozen? _ ⟨g2, 7, none⟩ = false := BX.out.frozen (i := 0) rfl 7; have q1_0 : World.cell? _ ⟨g1, 0, none⟩ = some (.int .i64 a0_0) := BX.out.cell (i := 1) rfl (j := 0) rfl; have f1_0 : World.frozen? _ ⟨g1, 0, none⟩ = false := BX.out.frozen (i := 1) rfl 0; have q1_1 : World.cell? _ ⟨g1, 1, none⟩ = some (.int .i64 a0_1) := BX.out.cell (i := 1) rfl (j := 1) rfl; have f1_1 : World.frozen? _ ⟨g1, 1, none⟩ = false := BX.out.frozen (i := 1) rfl 1; have q1_2 : World.cell? _ ⟨g1, 2, none⟩ = some (.int .i64 a0_2) := BX.out.cell (i := 1) rfl (j := 2) rfl; have f1_2 : World.frozen? _ ⟨g1, 2, none⟩ = false := BX.out.frozen (i := 1) rfl 2; have q1_3 : World.cell? _ ⟨g1, 3, none⟩ = some (.int .i64 a0_3) := BX.out.cell (i := 1) rfl (j := 3) rfl; have f1_3 : World.frozen? _ ⟨g1, 3, none⟩ = false := BX.out.frozen (i := 1) rfl 3; have q1_4 : World.cell? _ ⟨g1, 4, none⟩ = some (.int .i64 a0_4) := BX.out.cell (i := 1) rfl (j := 4) rfl; have f1_4 : World.frozen? _ ⟨g1, 4, none⟩ = false := BX.out.frozen (i := 1) rfl 4; have q1_5 : World.cell? _ ⟨g1, 5, none⟩ = some (.int .i64 a0_5) := BX.out.cell (i := 1) rfl (j := 5) rfl; have f1_5 : World.frozen? _ ⟨g1, 5, none⟩ = false := BX.out.frozen (i := 1) rfl 5; have q1_6 : World.cell? _ ⟨g1, 6, none⟩ = some (.slice A0_6 l0_6.length c0_6) := BX.out.cell (i := 1) rfl (j := 6) rfl; have f1_6 : World.frozen? _ ⟨g1, 6, none⟩ = false := BX.out.frozen (i := 1) rfl 6) | fail)
  refine bodyPost_ret (results_cell_row rfl _ _ g2 55 #[.int .i64 c_, .int .i64 0, .int .i64 0, .int .i64 0, .int .i64 0, .int .i64 0, .int .i64 0, .slice none 0 0] (0, 0) _ rfl (Boxes.at_ (w0 := w) (bs := [(g2, #[.int .i64 c_, .int .i64 0, .int .i64 0, .int .i64 0, .int .i64 0, .int .i64 0, .int .i64 0, .slice none 0 0], 55), (g1, #[.int .i64 a0_0, .int .i64 a0_1, .int .i64 a0_2, .int .i64 a0_3, .int .i64 a0_4, .int .i64 a0_5, .slice A0_6 l0_6.length c0_6], 53)]) (by (with_reducible repeat (first | refine Boxes.drewN ?_ _ | refine Boxes.drew ?_ | refine Boxes.alloc ?_ _)); exact BX.out) (i := 0) rfl) Try.underlying55 rfl (by kernel_rfl)) rfl ?_
  exact ⟨_, rfl, Kd.R_nil _ _ _ _ _, Boxes.low (w0 := w) (bs := [(g2, #[.int .i64 c_, .int .i64 0, .int .i64 0, .int .i64 0, .int .i64 0, .int .i64 0, .int .i64 0, .slice none 0 0], 55), (g1, #[.int .i64 a0_0, .int .i64 a0_1, .int .i64 a0_2, .int .i64 a0_3, .int .i64 a0_4, .int .i64 a0_5, .slice A0_6 l0_6.length c0_6], 53)]) (by (with_reducible repeat (first | refine Boxes.drewN ?_ _ | refine Boxes.drew ?_ | refine Boxes.alloc ?_ _)); exact BX.out)⟩
theorem spec_ReverseWay.calls (k : Nat) (a0_0 : Int) (a0_1 : Int) (a0_2 : Int) (a0_3 : Int) (a0_4 : Int) (a0_5 : Int) (A0_6 : Option Addr) (c0_6 : Nat) (l0_6 : List Int) (r1 : Int) (r2 : Int) (r3 : Int) (r4 : Int) (r5 : Int) (r6 : Int) (r7 : Int) (r8 : List Int) (w : World) (hr0_6 : Kd.C (Kd.int .u8) w A0_6 l0_6.length l0_6) (hc0_6 : l0_6.length ≤ c0_6) (h : spec_ReverseWay.f k a0_0 a0_1 a0_2 a0_3 a0_4 a0_5 l0_6 = some (r1, r2, r3, r4, r5, r6, r7, r8)) :
    Calls Try.prog 39 #[.agg #[.int .i64 a0_0, .int .i64 a0_1, .int .i64 a0_2, .int .i64 a0_3, .int .i64 a0_4, .int .i64 a0_5, .slice A0_6 l0_6.length c0_6]] w fun e w' => ∃ v7_ : Value, e = .returned (.agg #[.int .i64 r1, .int .i64 r2, .int .i64 r3, .int .i64 r4, .int .i64 r5, .int .i64 r6, .int .i64 r7, v7_]) ∧ Kd.R (Kd.int .u8) 5 w' w.heap.size (fun _ => True) v7_ r8 ∧ Below w.heap.size w w' := by
  unfold spec_ReverseWay.f at h
  obtain ⟨c_, h1, h⟩ := Option.bind_eq_some_iff.mp h
  by_cases hc : c_ = 0
  · subst hc
    rw [if_pos rfl] at h
    obtain ⟨⟨t1, t2, t3, t4, t5, t6, l7⟩, h2, h⟩ := Option.bind_eq_some_iff.mp h
    simp only [Option.some.injEq, Prod.mk.injEq] at h
    obtain ⟨rfl, rfl, rfl, rfl, rfl, rfl, rfl, rfl⟩ := h
    exact spec_ReverseWay_good k a0_0 a0_1 a0_2 a0_3 a0_4 a0_5 A0_6 c0_6 l0_6 t1 t2 _ _ t5 t6 _ w hr0_6 hc0_6 h1 h2
  · rw [if_neg hc] at h
    obtain ⟨b_, h2, h⟩ := Option.bind_eq_some_iff.mp h
    obtain rfl := Option.some.inj h2
    simp only [Option.some.injEq, Prod.mk.injEq] at h
    obtain ⟨rfl, rfl, rfl, rfl, rfl, rfl, rfl, rfl⟩ := h
    exact spec_ReverseWay_bad k a0_0 a0_1 a0_2 a0_3 a0_4 a0_5 A0_6 c0_6 l0_6 c_ w hr0_6 hc0_6 h1 (bne_iff_ne.mpr hc)

/-! ### laws_toByteS: function 11 -/
def laws_toByteS.l0 : Nat → List Int → List Int → Int → Option (List Int)
 | 0, _, _, _ => none
 | k + 1, x0, x3, x4 => if x4 < (x0.length : Int) then (if 0 ≤ x4 then (if x4 < (x3.length : Int) then (laws_toByteS.l0 k x0 (x3.set (x4 : Int).toNat (rd x0 x4)) (wrap64 (x4 + 1))) else (none)) else (none)) else (some x3)
def laws_toByteS.f (k : Nat) (l0 : List Int) : Option (List Int) := if 0 ≤ (l0.length : Int) then (if ((l0.length : Int) : Int).toNat ≤ 281474976710656 then (laws_toByteS.l0 k l0 (List.replicate ((l0.length : Int) : Int).toNat 0) 0) else (none)) else (none)
theorem laws_toByteS.mono_l : ∀ k, (∀ y0 y1 y2, LeO (laws_toByteS.l0 k y0 y1 y2) (laws_toByteS.l0 (k + 1) y0 y1 y2))
 | 0 => fun _ _ _ r h => by simp [laws_toByteS.l0] at h
 | k + 1 => by
  have ih0 := laws_toByteS.mono_l k
  ·
   intro y0 y1 y2
   unfold laws_toByteS.l0
   repeat' first
   | (with_reducible exact ih0 _ _ _)
   | (with_reducible exact LeO.refl _)
   | (with_reducible exact LeO.none _)
   | (with_reducible refine LeO.ite ?_ ?_)
   | (with_reducible refine LeO.bind ?_ (fun _ => ?_))
   | exact ih0 _ _ _
   | exact LeO.none _
   | refine LeO.ite ?_ ?_
   | refine LeO.bind ?_ (fun _ => ?_)
theorem laws_toByteS.mono : ∀ a0 k, LeO (laws_toByteS.f k a0) (laws_toByteS.f (k + 1) a0) := by
 intro a0 k
 have ih0 := laws_toByteS.mono_l k
 unfold laws_toByteS.f
 repeat' first
   | (with_reducible exact ih0 _ _ _)
   | (with_reducible exact LeO.refl _)
   | (with_reducible exact LeO.none _)
   | (with_reducible refine LeO.ite ?_ ?_)
   | (with_reducible refine LeO.bind ?_ (fun _ => ?_))
   | exact ih0 _ _ _
   | exact LeO.none _
   | refine LeO.ite ?_ ?_
   | refine LeO.bind ?_ (fun _ => ?_)
set_option maxHeartbeats 8000000 in
set_option maxRecDepth 100000 in
theorem laws_toByteS.calls (k : Nat) (A0 : Option Addr) (c0 : Nat) (l0 : List Int) (r : List Int) (w : World) (hr0 : Kd.C (Kd.int .u8) w A0 l0.length l0) (hc0 : l0.length ≤ c0) (h : laws_toByteS.f k l0 = some r) :
  Calls Try.prog 11 #[.slice A0 l0.length c0] w fun e w' => ∃ v0_ : Value, e = .returned (v0_) ∧ Kd.R (Kd.int .u8) 5 w' w.heap.size (fun _ => True) v0_ r ∧ Below w.heap.size w w' := by
 have HR0 := Aside0.mk hr0
 have HC0 := Aside0.mk hc0
 clear hr0 hc0
 have HB := Aside0.mk (Below.refl w.heap.size w)
 have H : (if 0 ≤ (l0.length : Int) then (if ((l0.length : Int) : Int).toNat ≤ 281474976710656 then (laws_toByteS.l0 k l0 (List.replicate ((l0.length : Int) : Int).toNat 0) 0) else (none)) else (none)) = some r := h
 clear h
 by_cases c2 : 0 ≤ (l0.length : Int)
 ·
  rw [if_pos c2] at H
  have c2b0 := eq_true c2
  have c2b1 : decide (0 ≤ (l0.length : Int)) = true := decide_eq_true c2
  clear c2
  by_cases c3 : ((l0.length : Int) : Int).toNat ≤ 281474976710656
  ·
   rw [if_pos c3] at H
   have c3b0 := eq_true c3
   have c3b1 : decide (((l0.length : Int) : Int).toNat ≤ 281474976710656) = true := decide_eq_true c3
   clear c3
   obtain ⟨y142, hy142⟩ : ∃ y_ : List Int, y_ = (List.replicate ((l0.length : Int) : Int).toNat 0) := ⟨_, rfl⟩
   replace H : (laws_toByteS.l0 k l0 y142 0) = some r := by first | (rw [hy142]; with_reducible exact H) | (have H2_ := (Option.bind_some _ _).symm.trans H; rw [hy142]; with_reducible exact H2_) | (have H2_ := (Option.bind_some _ _).symm.trans H; with_reducible exact H2_) | with_reducible exact H | (rw [hy142]; exact H) | exact H
   have Ny142 := Aside0.mk hy142
   clear hy142
   have H' := Aside0.mk H
   clear H
   go_enter Try.func11, Try.ntmps11
   go_wp2_with (first | ((with_reducible refine gate_dst (N := 7) rfl ?_); refine Kd.R_make (Kd.int .u8) _ 5 rfl (N := 7) rfl 22 _ _ rfl (l0.length : Int) rfl rfl Try.underlying22 (.int .u8 0) 1 info5 rfl (by decide) (by omega) 0 (ok := fun _ => True) (okp := fun _ => True) rfl (fun _ hk => hk) trivial (of_decide_eq_true (by first | (with_reducible assumption) | assumption)) (Nat.le_trans (Nat.mul_le_mul_right _ (of_decide_eq_true (by first | (with_reducible assumption) | assumption) : (l0.length : Int).toNat ≤ 281474976710656)) (by omega)) (Below.refl _ _) (Nat.le_refl _) ?_; intro v143 w4 ho5 hb hg_ hnew_; clear hg_ hnew_; (first | rw [← Ny142.out] at ho5 | (simp only [Int.reduceToNat] at ho5; rw [← Ny142.out] at ho5)); have n0_ := Aside0.mk (Kd.R_lower ho5 (below_size (by repeat (first | (with_reducible first | exact HB.out | apply below_alloc | apply pw_below_drewN | apply below_drew1) | exact HB.out)))); have n1_ := Aside0.mk (below_step (by repeat (first | (with_reducible first | exact HB.out | apply below_alloc | apply pw_below_drewN | apply below_drew1) | exact HB.out)) hb); clear HB; have HO144 := n0_; have HB := n1_; clear n0_ n1_; clear hb ho5))
   go_loopg [4] k (fun kq v4 w' => ∃ (x3_1 : List Int) (x4_1 : Int), v4 = .int .i64 x4_1 ∧ Aside0 (laws_toByteS.l0 kq l0 x3_1 x4_1 = some r) ∧ Aside0 (kq ≤ k) ∧ Aside0 (Kd.R (Kd.int .u8) 5 w' w.heap.size (fun _ => True) v143 x3_1) ∧ Aside0 (Below w.heap.size w w'))
   case atStart => exact ⟨(y142), (0), (by first | rfl | (simp; done) | (simp [*]; done)), H', ⟨Nat.le_refl _⟩, ⟨by (with_reducible repeat (first | apply Kd.R_alloc | apply Kd.R_drewN | apply Kd.R_drew)); exact HO144.out⟩, ⟨by repeat (first | (with_reducible first | exact HB.out | apply below_alloc | apply pw_below_drewN | apply below_drew1) | exact HB.out)⟩⟩
   case round =>
    clear H'
    try clear c1; try clear c2; try clear c2b0; try clear c2b1; try clear p2; try clear c3; try clear c3b0; try clear c3b1
    obtain ⟨x3_1, x4_1, rfl, HA, HK1, HO_3, HB⟩ := hrel
    cases gk with
    | zero => exact absurd HA.out (by simp [laws_toByteS.l0])
    | succ k1 =>
     have H := HA.out
     clear HA
     simp only [laws_toByteS.l0] at H
     by_cases c6 : x4_1 < (l0.length : Int)
     ·
      rw [if_pos c6] at H
      have c6b0 : decide (x4_1 < (l0.length : Int)) = true := decide_eq_true c6
      clear c6
      by_cases c7 : 0 ≤ x4_1
      ·
       rw [if_pos c7] at H
       have c7b0 : decide (0 ≤ x4_1) = true := decide_eq_true c7
       clear c7
       by_cases c8 : x4_1 < (x3_1.length : Int)
       ·
        rw [if_pos c8] at H
        have c8b0 : decide (x4_1 < (x3_1.length : Int)) = true := decide_eq_true c8
        clear c8
        obtain ⟨y146, hy146⟩ : ∃ y_ : List Int, y_ = (x3_1.set (x4_1 : Int).toNat (rd l0 x4_1)) := ⟨_, rfl⟩
        replace H : (laws_toByteS.l0 k1 l0 y146 (wrap64 (x4_1 + 1))) = some r := by first | (rw [hy146]; with_reducible exact H) | (have H2_ := (Option.bind_some _ _).symm.trans H; rw [hy146]; with_reducible exact H2_) | (have H2_ := (Option.bind_some _ _).symm.trans H; with_reducible exact H2_) | with_reducible exact H | (rw [hy146]; exact H) | exact H
        have Ny146 := Aside0.mk hy146
        clear hy146
        have H' := Aside0.mk H
        clear H
        have p145 : 0 ≤ (x4_1 : Int) := of_decide_eq_true (by first | (with_reducible assumption) | assumption)
        have q145 : x4_1 < (l0.length : Int) := of_decide_eq_true (by first | (with_reducible assumption) | assumption)
        obtain ⟨ad145, e145, hx145_0⟩ := Kd.at_int HR0.out x4_1 p145 q145
        cases e145
        replace hx145_0 := (HB.out.cell (World.block_lt_of_cell? w _ hx145_0)).trans hx145_0
        replace p145 := eq_true p145
        replace q145 := eq_true q145
        have p9 : 0 ≤ (x4_1 : Int) := of_decide_eq_true (by first | (with_reducible assumption) | assumption)
        have q9 : (x4_1 : Int) < ((x3_1.length : Int) : Int) := of_decide_eq_true (by first | (with_reducible assumption) | assumption)
        obtain ⟨go9, co9, eo9, gb9, gl9, cl9, HG9⟩ := Kd.R_form HO_3.out (by omega)
        (first | cases eo9 | (injection eo9 with ea_ en_ ec_; (first | subst ea_ | (injection ea_ with ea_; subst ea_)); subst ec_; clear en_))
        have GB9 := Aside0.mk gb9
        have GG9 := Aside0.mk HG9
        clear gb9 gl9 HG9
        obtain ⟨hx9_0, hf9_0⟩ := Kd.R_celln 0 HO_3.out (x4_1 : Int) p9 q9
        replace p9 := eq_true p9
        replace q9 := eq_true q9
        have HP10 := Kd.R_putg HO_3.out (x4_1 : Int) (rd l0 x4_1)
        go_wp2_with (first | ((with_reducible refine gate_store (t := 5) (p := 20) rfl ?_); refine store_event (t := 5) (p := 20) (v := ?vo_w11) (w1 := (wr.setCell ⟨go9, (x4_1 : Int).toNat, none⟩ (.int .u8 (rd l0 x4_1)))) ?hg ?ho ?hn ?hr ?_; (case ho => rfl); (case hg => rfl); (case hn => rfl); (case hr => first | (go_simp; done) | (go_simp; rfl)); intro w11 hw; have hg : wr.grownBy w11 (some go9) := (by rw [hw]; exact HP10.2); have hp_ : Kd.R (Kd.int .u8) 5 w11 w.heap.size (fun _ => True) (.slice (some ⟨go9, 0, none⟩) x3_1.length co9) y146 := (by rw [hw, Ny146.out]; exact HP10.1); clear HP10; have n0_ := Aside0.mk (hp_); have n1_ := Aside0.mk ((by rw [hw]; exact below_set (HB.out) GB9.out : Below w.heap.size w w11)); clear HO_3; clear HB; have HO_3 := n0_; have HB := n1_; clear n0_ n1_; clear hg hw hp_))
        go_roundg k1
        case measure => have := HK1.out; omega
        case rel => exact ⟨(y146), (wrap64 (x4_1 + 1)), (by first | rfl | (simp; done) | (simp [*]; done)), H', ⟨by have := HK1.out; omega⟩, ⟨by (with_reducible repeat (first | apply Kd.R_alloc | apply Kd.R_drewN | apply Kd.R_drew)); exact HO_3.out⟩, ⟨by repeat (first | (with_reducible first | exact HB.out | apply below_alloc | apply pw_below_drewN | apply below_drew1) | exact HB.out)⟩⟩
       ·
        rw [if_neg c8] at H
        exact absurd H (by simp)
      ·
       rw [if_neg c7] at H
       exact absurd H (by simp)
     ·
      rw [if_neg c6] at H
      have c6b0 : decide (x4_1 < (l0.length : Int)) = false := decide_eq_false c6
      clear c6
      obtain rfl := Option.some.inj H
      go_wp2
      go_ret
      exact ⟨_, by first | rfl | (simp [errW_none, errW_some] <;> rfl) | (simp [*, errW_none, errW_some] <;> rfl), by (with_reducible repeat (first | apply Kd.R_alloc | apply Kd.R_drewN | apply Kd.R_drew)); exact HO_3.out, by repeat (first | (with_reducible first | exact HB.out | apply below_alloc | apply pw_below_drewN | apply below_drew1) | exact HB.out)⟩
  ·
   rw [if_neg c3] at H
   exact absurd H (by simp)
 ·
  rw [if_neg c2] at H
  exact absurd H (by simp)

/-! ### laws_toPacket: function 40 -/
def laws_toPacket.f (k : Nat) (a0_0 : Int) (a0_1 : Int) (a0_2 : Int) (a0_3 : Int) (a0_4 : Int) (a0_5 : Int) (l0_6 : List Int) : Option (Int × Int × Int × Int × Int × Int × List Int) := (laws_toByteS.f k l0_6).bind fun t150 => (some (a0_0, a0_1, a0_2, a0_3, a0_4, a0_5, t150))
theorem laws_toPacket.mono : ∀ a0 a1 a2 a3 a4 a5 a6 k, LeO (laws_toPacket.f k a0 a1 a2 a3 a4 a5 a6) (laws_toPacket.f (k + 1) a0 a1 a2 a3 a4 a5 a6) := by
 intro a0 a1 a2 a3 a4 a5 a6 k
 unfold laws_toPacket.f
 repeat' first
   | (with_reducible exact laws_toByteS.mono _ _)
   | (with_reducible exact LeO.refl _)
   | (with_reducible exact LeO.none _)
   | (with_reducible refine LeO.ite ?_ ?_)
   | (with_reducible refine LeO.bind ?_ (fun _ => ?_))
   | exact laws_toByteS.mono _ _
   | exact LeO.none _
   | refine LeO.ite ?_ ?_
   | refine LeO.bind ?_ (fun _ => ?_)
set_option maxHeartbeats 8000000 in
set_option maxRecDepth 100000 in
theorem laws_toPacket.calls (k : Nat) (a0_0 : Int) (a0_1 : Int) (a0_2 : Int) (a0_3 : Int) (a0_4 : Int) (a0_5 : Int) (A0_6 : Option Addr) (c0_6 : Nat) (l0_6 : List Int) (r1 : Int) (r2 : Int) (r3 : Int) (r4 : Int) (r5 : Int) (r6 : Int) (r7 : List Int) (w : World) (hr0_6 : Kd.C (Kd.int .u8) w A0_6 l0_6.length l0_6) (hc0_6 : l0_6.length ≤ c0_6) (h : laws_toPacket.f k a0_0 a0_1 a0_2 a0_3 a0_4 a0_5 l0_6 = some (r1, r2, r3, r4, r5, r6, r7)) :
  Calls Try.prog 40 #[.agg #[.int .i64 a0_0, .int .i64 a0_1, .int .i64 a0_2, .int .i64 a0_3, .int .i64 a0_4, .int .i64 a0_5, .slice A0_6 l0_6.length c0_6]] w fun e w' => ∃ v6_ : Value, e = .returned (.agg #[.int .i64 r1, .int .i64 r2, .int .i64 r3, .int .i64 r4, .int .i64 r5, .int .i64 r6, v6_]) ∧ Kd.R (Kd.int .u8) 5 w' w.heap.size (fun _ => True) v6_ r7 ∧ Below w.heap.size w w' := by
 have hu64 := Try.underlying64
 have hu53 := Try.underlying53
 have HR0_6 := Aside0.mk hr0_6
 have HC0_6 := Aside0.mk hc0_6
 clear hr0_6 hc0_6
 have HB := Aside0.mk (Below.refl w.heap.size w)
 have H : ((laws_toByteS.f k l0_6).bind fun t150 => (some (a0_0, a0_1, a0_2, a0_3, a0_4, a0_5, t150))) = some (r1, r2, r3, r4, r5, r6, r7) := h
 clear h
 replace H := Option.bind_eq_some_iff.mp H
 obtain ⟨t150, A20, H⟩ := H
 replace H : (some (a0_0, a0_1, a0_2, a0_3, a0_4, a0_5, t150)) = some (r1, r2, r3, r4, r5, r6, r7) := H
 have A2 := Aside0.mk A20
 clear A20
 simp only [Option.some.injEq, Prod.mk.injEq] at H
 obtain ⟨rfl, rfl, rfl, rfl, rfl, rfl, rfl⟩ := H
 go_enter Try.func40, Try.ntmps40
 go_wp2_with (first | ((with_reducible refine gate_dst (N := 1) rfl ?_); refine box_event ?hg (N := 1) ?hd (cs := #[.int .i64 a0_0, .int .i64 a0_1, .int .i64 a0_2, .int .i64 a0_3, .int .i64 a0_4, .int .i64 a0_5, .slice A0_6 l0_6.length c0_6]) (t := 64) ?hr ?_; (case hd => rfl); (case hg => rfl); (case hr => first | (go_simp; done) | (go_simp; rfl)); intro gb147 hg w3 hbox hb; have n0_ := Aside0.mk (below_step (by repeat (first | (with_reducible first | exact HB.out | apply below_alloc | apply pw_below_drewN | apply below_drew1) | exact HB.out)) hb); have n1_ := Aside0.mk (hbox); have n2_ := Aside0.mk ((by rw [hg]; exact (below_size (by repeat (first | (with_reducible first | exact HB.out | apply below_alloc | apply pw_below_drewN | apply below_drew1) | exact HB.out))) : w.heap.size ≤ gb147)); have n3_ := Aside0.mk ((by rw [hg]; exact (below_size (by repeat (first | (with_reducible first | exact HB.out | apply below_alloc | apply pw_below_drewN | apply below_drew1) | exact HB.out))) : w.heap.size ≤ gb147)); clear HB; have HB := n0_; have BK147 := n1_; have GW147 := n2_; have GE147 := n3_; clear n0_ n1_ n2_ n3_; clear hb hbox hg) | ((with_reducible refine gate_dst (N := 2) rfl ?_); refine box_event ?hg (N := 2) ?hd (cs := #[.int .i64 0, .int .i64 0, .int .i64 0, .int .i64 0, .int .i64 0, .int .i64 0, .slice none 0 0]) (t := 53) ?hr ?_; (case hd => rfl); (case hg => rfl); (case hr => first | (go_simp; done) | (go_simp; rfl)); intro gb148 hg w4 hbox hb; have n0_ := Aside0.mk (blk_below_u BK147.out hb); have n1_ := Aside0.mk (below_step (by repeat (first | (with_reducible first | exact HB.out | apply below_alloc | apply pw_below_drewN | apply below_drew1 | refine below_set ?_ GE147.out) | exact HB.out)) hb); have n2_ := Aside0.mk (hbox); have n3_ := Aside0.mk ((by rw [hg]; exact (below_size (by repeat (first | (with_reducible first | exact HB.out | apply below_alloc | apply pw_below_drewN | apply below_drew1 | refine below_set ?_ GE147.out) | exact HB.out))) : w.heap.size ≤ gb148)); have n4_ := Aside0.mk ((by rw [hg]; exact (below_size (by repeat (first | (with_reducible first | exact HB.out | apply below_alloc | apply pw_below_drewN | apply below_drew1 | refine below_set ?_ GE147.out) | exact HB.out))) : w.heap.size ≤ gb148)); have n5_ := Aside0.mk ((by rw [hg]; exact Nat.ne_of_lt (blk_lt_u BK147.out) : gb147 ≠ gb148)); have n6_ := Aside0.mk ((by rw [hg]; exact Nat.ne_of_gt (blk_lt_u BK147.out) : gb148 ≠ gb147)); clear BK147; clear HB; have BK147 := n0_; have HB := n1_; have BK148 := n2_; have GW148 := n3_; have GE148 := n4_; have NB147_148 := n5_; have NB148_147 := n6_; clear n0_ n1_ n2_ n3_ n4_ n5_ n6_; clear hb hbox hg) | ((with_reducible refine gate_dst (N := 3) rfl ?_); refine box_event ?hg (N := 3) ?hd (cs := #[.int .i64 0, .int .i64 0, .int .i64 0, .int .i64 0, .int .i64 0, .int .i64 0, .slice none 0 0]) (t := 53) ?hr ?_; (case hd => rfl); (case hg => rfl); (case hr => first | (go_simp; done) | (go_simp; rfl)); intro gb149 hg w5 hbox hb; have n0_ := Aside0.mk (blk_below_u BK147.out hb); have n1_ := Aside0.mk (blk_below_u BK148.out hb); have n2_ := Aside0.mk (below_step (by repeat (first | (with_reducible first | exact HB.out | apply below_alloc | apply pw_below_drewN | apply below_drew1 | refine below_set ?_ GE147.out | refine below_set ?_ GE148.out) | exact HB.out)) hb); have n3_ := Aside0.mk (hbox); have n4_ := Aside0.mk ((by rw [hg]; exact (below_size (by repeat (first | (with_reducible first | exact HB.out | apply below_alloc | apply pw_below_drewN | apply below_drew1 | refine below_set ?_ GE147.out | refine below_set ?_ GE148.out) | exact HB.out))) : w.heap.size ≤ gb149)); have n5_ := Aside0.mk ((by rw [hg]; exact (below_size (by repeat (first | (with_reducible first | exact HB.out | apply below_alloc | apply pw_below_drewN | apply below_drew1 | refine below_set ?_ GE147.out | refine below_set ?_ GE148.out) | exact HB.out))) : w.heap.size ≤ gb149)); have n6_ := Aside0.mk ((by rw [hg]; exact Nat.ne_of_lt (blk_lt_u BK147.out) : gb147 ≠ gb149)); have n7_ := Aside0.mk ((by rw [hg]; exact Nat.ne_of_gt (blk_lt_u BK147.out) : gb149 ≠ gb147)); have n8_ := Aside0.mk ((by rw [hg]; exact Nat.ne_of_lt (blk_lt_u BK148.out) : gb148 ≠ gb149)); have n9_ := Aside0.mk ((by rw [hg]; exact Nat.ne_of_gt (blk_lt_u BK148.out) : gb149 ≠ gb148)); clear BK147; clear BK148; clear HB; have BK147 := n0_; have BK148 := n1_; have HB := n2_; have BK149 := n3_; have GW149 := n4_; have GE149 := n5_; have NB147_149 := n6_; have NB149_147 := n7_; have NB148_149 := n8_; have NB149_148 := n9_; clear n0_ n1_ n2_ n3_ n4_ n5_ n6_ n7_ n8_ n9_; clear hb hbox hg; have hnb6 := NB147_148.out; have hnc6 := NB148_147.out; have hnb7 := NB147_149.out; have hnc7 := NB149_147.out; obtain ⟨hcz8_0, hcz8_1, hcz8_2, hcz8_3, hcz8_4, hcz8_5, hcz8_6⟩ := blk_c7 BK147.out; obtain ⟨hfz8_0, hfz8_1, hfz8_2, hfz8_3, hfz8_4, hfz8_5, hfz8_6⟩ := blk_f7 BK147.out; have hnb9 := NB149_148.out; have hnc9 := NB148_149.out; obtain ⟨hcz10_0, hcz10_1, hcz10_2, hcz10_3, hcz10_4, hcz10_5, hcz10_6⟩ := blk_c7 BK149.out; obtain ⟨hfz10_0, hfz10_1, hfz10_2, hfz10_3, hfz10_4, hfz10_5, hfz10_6⟩ := blk_f7 BK149.out) | ((with_reducible refine gate_callee (f := 11) rfl ?_); refine goesL_ (some 24) rfl rfl Try.func11 (by kernel_rfl) rfl #[.slice A0_6 l0_6.length c0_6] rfl (by (try simp only [List.map_toArray, List.map_cons, List.map_nil]); first | done | rfl | (simp only [List.length_drop, List.length_take]; rfl)) ?_; (with_reducible refine (laws_toByteS.calls k _ _ l0_6 t150 _ ?side1 ?side2 A2.out).mono ?_); (case side1 => exact Kd.C_below HR0_6.out (by repeat (first | (with_reducible first | exact HB.out | apply below_alloc | apply pw_below_drewN | apply below_drew1 | refine below_set ?_ GE147.out | refine below_set ?_ GE148.out | refine below_set ?_ GE149.out) | exact HB.out))); (case side2 => exact HC0_6.out); rintro e w11 ⟨v151, rfl, ho0, hb⟩; refine ⟨_, rfl, ?_⟩; have n0_ := Aside0.mk (Kd.R_lower ho0 (below_size (by repeat (first | (with_reducible first | exact HB.out | apply below_alloc | apply pw_below_drewN | apply below_drew1 | refine below_set ?_ GE147.out | refine below_set ?_ GE148.out | refine below_set ?_ GE149.out) | exact HB.out)))); have n1_ := Aside0.mk (blk_below (g := gb147) (o := .cells #[.int .i64 a0_0, .int .i64 a0_1, .int .i64 a0_2, .int .i64 a0_3, .int .i64 a0_4, .int .i64 a0_5, .slice A0_6 l0_6.length c0_6] 64 (0, 0)) (by (with_reducible repeat (first | refine blk_drewN ?_ _ | refine blk_drew ?_ | refine blk_alloc ?_ _)); refine blk_far ?_ NB147_149.out _; (with_reducible repeat (first | refine blk_drewN ?_ _ | refine blk_drew ?_ | refine blk_alloc ?_ _)); refine blk_far ?_ NB147_149.out _; (with_reducible repeat (first | refine blk_drewN ?_ _ | refine blk_drew ?_ | refine blk_alloc ?_ _)); refine blk_far ?_ NB147_149.out _; (with_reducible repeat (first | refine blk_drewN ?_ _ | refine blk_drew ?_ | refine blk_alloc ?_ _)); refine blk_far ?_ NB147_149.out _; (with_reducible repeat (first | refine blk_drewN ?_ _ | refine blk_drew ?_ | refine blk_alloc ?_ _)); refine blk_far ?_ NB147_149.out _; (with_reducible repeat (first | refine blk_drewN ?_ _ | refine blk_drew ?_ | refine blk_alloc ?_ _)); refine blk_far ?_ NB147_149.out _; (with_reducible repeat (first | refine blk_drewN ?_ _ | refine blk_drew ?_ | refine blk_alloc ?_ _)); exact BK147.out) hb); have n2_ := Aside0.mk (blk_below (g := gb148) (o := .cells #[.int .i64 0, .int .i64 0, .int .i64 0, .int .i64 0, .int .i64 0, .int .i64 0, .slice none 0 0] 53 (0, 0)) (by (with_reducible repeat (first | refine blk_drewN ?_ _ | refine blk_drew ?_ | refine blk_alloc ?_ _)); refine blk_far ?_ NB148_149.out _; (with_reducible repeat (first | refine blk_drewN ?_ _ | refine blk_drew ?_ | refine blk_alloc ?_ _)); refine blk_far ?_ NB148_149.out _; (with_reducible repeat (first | refine blk_drewN ?_ _ | refine blk_drew ?_ | refine blk_alloc ?_ _)); refine blk_far ?_ NB148_149.out _; (with_reducible repeat (first | refine blk_drewN ?_ _ | refine blk_drew ?_ | refine blk_alloc ?_ _)); refine blk_far ?_ NB148_149.out _; (with_reducible repeat (first | refine blk_drewN ?_ _ | refine blk_drew ?_ | refine blk_alloc ?_ _)); refine blk_far ?_ NB148_149.out _; (with_reducible repeat (first | refine blk_drewN ?_ _ | refine blk_drew ?_ | refine blk_alloc ?_ _)); refine blk_far ?_ NB148_149.out _; (with_reducible repeat (first | refine blk_drewN ?_ _ | refine blk_drew ?_ | refine blk_alloc ?_ _)); exact BK148.out) hb); have n3_ := Aside0.mk (blk_below (g := gb149) (o := .cells #[.int .i64 a0_0, .int .i64 a0_1, .int .i64 a0_2, .int .i64 a0_3, .int .i64 a0_4, .int .i64 a0_5, .slice none 0 0] 53 (0, 0)) (by (with_reducible repeat (first | refine blk_drewN ?_ _ | refine blk_drew ?_ | refine blk_alloc ?_ _)); refine blk_put (cs := #[.int .i64 a0_0, .int .i64 a0_1, .int .i64 a0_2, .int .i64 a0_3, .int .i64 a0_4, .int .i64 0, .slice none 0 0]) ?_ 5 _ rfl; (with_reducible repeat (first | refine blk_drewN ?_ _ | refine blk_drew ?_ | refine blk_alloc ?_ _)); refine blk_put (cs := #[.int .i64 a0_0, .int .i64 a0_1, .int .i64 a0_2, .int .i64 a0_3, .int .i64 0, .int .i64 0, .slice none 0 0]) ?_ 4 _ rfl; (with_reducible repeat (first | refine blk_drewN ?_ _ | refine blk_drew ?_ | refine blk_alloc ?_ _)); refine blk_put (cs := #[.int .i64 a0_0, .int .i64 a0_1, .int .i64 a0_2, .int .i64 0, .int .i64 0, .int .i64 0, .slice none 0 0]) ?_ 3 _ rfl; (with_reducible repeat (first | refine blk_drewN ?_ _ | refine blk_drew ?_ | refine blk_alloc ?_ _)); refine blk_put (cs := #[.int .i64 a0_0, .int .i64 a0_1, .int .i64 0, .int .i64 0, .int .i64 0, .int .i64 0, .slice none 0 0]) ?_ 2 _ rfl; (with_reducible repeat (first | refine blk_drewN ?_ _ | refine blk_drew ?_ | refine blk_alloc ?_ _)); refine blk_put (cs := #[.int .i64 a0_0, .int .i64 0, .int .i64 0, .int .i64 0, .int .i64 0, .int .i64 0, .slice none 0 0]) ?_ 1 _ rfl; (with_reducible repeat (first | refine blk_drewN ?_ _ | refine blk_drew ?_ | refine blk_alloc ?_ _)); refine blk_put (cs := #[.int .i64 0, .int .i64 0, .int .i64 0, .int .i64 0, .int .i64 0, .int .i64 0, .slice none 0 0]) ?_ 0 _ rfl; (with_reducible repeat (first | refine blk_drewN ?_ _ | refine blk_drew ?_ | refine blk_alloc ?_ _)); exact BK149.out) hb); have n4_ := Aside0.mk (below_step (by repeat (first | (with_reducible first | exact HB.out | apply below_alloc | apply pw_below_drewN | apply below_drew1 | refine below_set ?_ GE147.out | refine below_set ?_ GE148.out | refine below_set ?_ GE149.out) | exact HB.out)) hb); clear BK147; clear BK148; clear BK149; clear HB; have HO152 := n0_; have BK147 := n1_; have BK148 := n2_; have BK149 := n3_; have HB := n4_; clear n0_ n1_ n2_ n3_ n4_; (try clear hb); (try clear hb2); (try clear hk); (try clear hi); (try clear ho0); obtain ⟨Ao12, co12, eo12⟩ := Kd.R_slice HO152.out; subst eo12; obtain ⟨hcz13_0, hcz13_1, hcz13_2, hcz13_3, hcz13_4, hcz13_5, hcz13_6⟩ := blk_c7 BK149.out; obtain ⟨hfz13_0, hfz13_1, hfz13_2, hfz13_3, hfz13_4, hfz13_5, hfz13_6⟩ := blk_f7 BK149.out; obtain ⟨hcz14_0, hcz14_1, hcz14_2, hcz14_3, hcz14_4, hcz14_5, hcz14_6⟩ := blk_c7 BK148.out; obtain ⟨hfz14_0, hfz14_1, hfz14_2, hfz14_3, hfz14_4, hfz14_5, hfz14_6⟩ := blk_f7 BK148.out))
 refine bodyPost_ret (results_cell_row rfl _ _ gb148 53 #[.int .i64 a0_0, .int .i64 a0_1, .int .i64 a0_2, .int .i64 a0_3, .int .i64 a0_4, .int .i64 a0_5, .slice Ao12 t150.length co12] (0, 0) _ rfl (by (with_reducible repeat (first | refine blk_drewN ?_ _ | refine blk_drew ?_ | refine blk_alloc ?_ _)); refine blk_put (cs := #[.int .i64 a0_0, .int .i64 a0_1, .int .i64 a0_2, .int .i64 a0_3, .int .i64 a0_4, .int .i64 a0_5, .slice none 0 0]) ?_ 6 _ rfl; (with_reducible repeat (first | refine blk_drewN ?_ _ | refine blk_drew ?_ | refine blk_alloc ?_ _)); refine blk_put (cs := #[.int .i64 a0_0, .int .i64 a0_1, .int .i64 a0_2, .int .i64 a0_3, .int .i64 a0_4, .int .i64 0, .slice none 0 0]) ?_ 5 _ rfl; (with_reducible repeat (first | refine blk_drewN ?_ _ | refine blk_drew ?_ | refine blk_alloc ?_ _)); refine blk_put (cs := #[.int .i64 a0_0, .int .i64 a0_1, .int .i64 a0_2, .int .i64 a0_3, .int .i64 0, .int .i64 0, .slice none 0 0]) ?_ 4 _ rfl; (with_reducible repeat (first | refine blk_drewN ?_ _ | refine blk_drew ?_ | refine blk_alloc ?_ _)); refine blk_put (cs := #[.int .i64 a0_0, .int .i64 a0_1, .int .i64 a0_2, .int .i64 0, .int .i64 0, .int .i64 0, .slice none 0 0]) ?_ 3 _ rfl; (with_reducible repeat (first | refine blk_drewN ?_ _ | refine blk_drew ?_ | refine blk_alloc ?_ _)); refine blk_put (cs := #[.int .i64 a0_0, .int .i64 a0_1, .int .i64 0, .int .i64 0, .int .i64 0, .int .i64 0, .slice none 0 0]) ?_ 2 _ rfl; (with_reducible repeat (first | refine blk_drewN ?_ _ | refine blk_drew ?_ | refine blk_alloc ?_ _)); refine blk_put (cs := #[.int .i64 a0_0, .int .i64 0, .int .i64 0, .int .i64 0, .int .i64 0, .int .i64 0, .slice none 0 0]) ?_ 1 _ rfl; (with_reducible repeat (first | refine blk_drewN ?_ _ | refine blk_drew ?_ | refine blk_alloc ?_ _)); refine blk_put (cs := #[.int .i64 0, .int .i64 0, .int .i64 0, .int .i64 0, .int .i64 0, .int .i64 0, .slice none 0 0]) ?_ 0 _ rfl; (with_reducible repeat (first | refine blk_drewN ?_ _ | refine blk_drew ?_ | refine blk_alloc ?_ _)); refine blk_far ?_ NB148_149.out _; (with_reducible repeat (first | refine blk_drewN ?_ _ | refine blk_drew ?_ | refine blk_alloc ?_ _)); exact BK148.out) Try.underlying53 rfl (by kernel_rfl)) rfl ?_
 exact ⟨_, by first | rfl | (simp [errW_none, errW_some] <;> rfl) | (simp [*, errW_none, errW_some] <;> rfl), by (with_reducible repeat (first | apply Kd.R_alloc | apply Kd.R_drewN | apply Kd.R_drew)); exact Kd.R_mono (Kd.R_far (p := ⟨gb148, 6, none⟩) (Kd.R_far (p := ⟨gb148, 5, none⟩) (Kd.R_far (p := ⟨gb148, 4, none⟩) (Kd.R_far (p := ⟨gb148, 3, none⟩) (Kd.R_far (p := ⟨gb148, 2, none⟩) (Kd.R_far (p := ⟨gb148, 1, none⟩) (Kd.R_far (p := ⟨gb148, 0, none⟩) (Kd.R_far (p := ⟨gb149, 6, none⟩) (Kd.R_types (Kd.R_types HO152.out BK149.out (by decide)) BK148.out (by decide)) (fun _ hk => hk.1.2) (.slice Ao12 t150.length co12)) (fun _ hk => hk.2) (.int .i64 a0_0)) (fun _ hk => hk.2) (.int .i64 a0_1)) (fun _ hk => hk.2) (.int .i64 a0_2)) (fun _ hk => hk.2) (.int .i64 a0_3)) (fun _ hk => hk.2) (.int .i64 a0_4)) (fun _ hk => hk.2) (.int .i64 a0_5)) (fun _ hk => hk.2) (.slice Ao12 t150.length co12)) (fun _ hk => trivial), by repeat (first | (with_reducible first | exact HB.out | apply below_alloc | apply pw_below_drewN | apply below_drew1 | refine below_set ?_ GE147.out | refine below_set ?_ GE148.out | refine below_set ?_ GE149.out) | exact HB.out)⟩

/-! ### impl_in: function 51 -/
def impl_in.f (a0 : Int) (a1 : Int) (a2 : Int) : Option (Bool) := if a0 ≥ a1 then (some (decide (a0 ≤ a2))) else (some false)
set_option maxHeartbeats 8000000 in
set_option maxRecDepth 100000 in
theorem impl_in.calls (a0 : Int) (a1 : Int) (a2 : Int) (r : Bool) (w : World) (h : impl_in.f a0 a1 a2 = some r) :
  Calls Try.prog 51 #[.int .i64 a0, .int .i64 a1, .int .i64 a2] w fun e w' => e = .returned (.bool r) ∧ Drawn0 w w' := by
 have H : (if a0 ≥ a1 then (some (decide (a0 ≤ a2))) else (some false)) = some r := h
 clear h
 by_cases c4 : a0 ≥ a1
 ·
  rw [if_pos c4] at H
  have c4b0 : decide (a1 ≤ a0) = true := decide_eq_true c4
  clear c4
  obtain rfl := Option.some.inj H
  go_enter Try.func51, Try.ntmps51
  go_wp2
  go_ret
  exact ⟨by first | rfl | (simp; done) | (simp [*]; done), by repeat (first | exact Drawn0.refl _ | apply Drawn0.step)⟩
 ·
  rw [if_neg c4] at H
  have c4b0 : decide (a1 ≤ a0) = false := decide_eq_false c4
  clear c4
  obtain rfl := Option.some.inj H
  go_enter Try.func51, Try.ntmps51
  go_wp2
  go_ret
  exact ⟨by first | rfl | (simp; done) | (simp [*]; done), by repeat (first | exact Drawn0.refl _ | apply Drawn0.step)⟩

/-! ### impl_HasPorts: function 62 -/
def impl_HasPorts.f (a0 : Int) : Option (Bool) := if a0 = 6 then (some true) else (some (a0 == 17))
set_option maxHeartbeats 8000000 in
set_option maxRecDepth 100000 in
theorem impl_HasPorts.calls (a0 : Int) (r : Bool) (w : World) (h : impl_HasPorts.f a0 = some r) :
  Calls Try.prog 62 #[.int .i64 a0] w fun e w' => e = .returned (.bool r) ∧ Drawn0 w w' := by
 have H : (if a0 = 6 then (some true) else (some (a0 == 17))) = some r := h
 clear h
 by_cases c2 : a0 = 6
 ·
  rw [if_pos c2] at H
  have c2b0 : (a0 == 6) = true := beq_iff_eq.mpr c2
  have c2b1 : (a0 != 6) = false := bne_eq_false_iff_eq.mpr c2
  clear c2
  obtain rfl := Option.some.inj H
  go_enter Try.func62, Try.ntmps62
  go_wp2
  go_ret
  exact ⟨by first | rfl | (simp; done) | (simp [*]; done), by repeat (first | exact Drawn0.refl _ | apply Drawn0.step)⟩
 ·
  rw [if_neg c2] at H
  have c2b0 : (a0 == 6) = false := beq_eq_false_iff_ne.mpr c2
  have c2b1 : (a0 != 6) = true := bne_iff_ne.mpr c2
  obtain rfl := Option.some.inj H
  go_enter Try.func62, Try.ntmps62
  go_wp2
  go_ret
  exact ⟨by first | rfl | (simp; done) | (simp [*]; done), by repeat (first | exact Drawn0.refl _ | apply Drawn0.step)⟩

/-! ### impl_isAddress: function 77 -/
def impl_isAddress.f (a0 : Int) : Option (Bool) := (impl_in.f a0 0 4294967295).bind fun t153 => (some t153)
set_option maxHeartbeats 8000000 in
set_option maxRecDepth 100000 in
theorem impl_isAddress.calls (a0 : Int) (r : Bool) (w : World) (h : impl_isAddress.f a0 = some r) :
  Calls Try.prog 77 #[.int .i64 a0] w fun e w' => e = .returned (.bool r) ∧ Drawn0 w w' := by
 have H : ((impl_in.f a0 0 4294967295).bind fun t153 => (some t153)) = some r := h
 clear h
 replace H := Option.bind_eq_some_iff.mp H
 obtain ⟨t153, A20, H⟩ := H
 replace H : (some t153) = some r := H
 have A2 := Aside0.mk A20
 clear A20
 obtain rfl := Option.some.inj H
 go_enter Try.func77, Try.ntmps77
 go_wp2_with (first | ((with_reducible refine gate_callee (f := 51) rfl ?_); refine goesL_ (some 4) rfl rfl Try.func51 (by kernel_rfl) rfl #[.int .i64 a0, .int .i64 0, .int .i64 4294967295] rfl (by (try simp only [List.map_toArray, List.map_cons, List.map_nil]); first | done | rfl | (simp only [List.length_drop, List.length_take]; rfl)) ?_; (with_reducible refine (impl_in.calls a0 0 4294967295 t153 _ A2.out).mono ?_); rintro e w' ⟨rfl, ⟨nd, rfl⟩⟩; refine ⟨_, rfl, ?_⟩))
 go_ret
 exact ⟨by first | rfl | (simp; done) | (simp [*]; done), by repeat (first | exact Drawn0.refl _ | apply Drawn0.step)⟩

/-! ### impl_isPort: function 78 -/
def impl_isPort.f (a0 : Int) : Option (Bool) := (impl_in.f a0 0 65535).bind fun t154 => (some t154)
set_option maxHeartbeats 8000000 in
set_option maxRecDepth 100000 in
theorem impl_isPort.calls (a0 : Int) (r : Bool) (w : World) (h : impl_isPort.f a0 = some r) :
  Calls Try.prog 78 #[.int .i64 a0] w fun e w' => e = .returned (.bool r) ∧ Drawn0 w w' := by
 have H : ((impl_in.f a0 0 65535).bind fun t154 => (some t154)) = some r := h
 clear h
 replace H := Option.bind_eq_some_iff.mp H
 obtain ⟨t154, A20, H⟩ := H
 replace H : (some t154) = some r := H
 have A2 := Aside0.mk A20
 clear A20
 obtain rfl := Option.some.inj H
 go_enter Try.func78, Try.ntmps78
 go_wp2_with (first | ((with_reducible refine gate_callee (f := 51) rfl ?_); refine goesL_ (some 4) rfl rfl Try.func51 (by kernel_rfl) rfl #[.int .i64 a0, .int .i64 0, .int .i64 65535] rfl (by (try simp only [List.map_toArray, List.map_cons, List.map_nil]); first | done | rfl | (simp only [List.length_drop, List.length_take]; rfl)) ?_; (with_reducible refine (impl_in.calls a0 0 65535 t154 _ A2.out).mono ?_); rintro e w' ⟨rfl, ⟨nd, rfl⟩⟩; refine ⟨_, rfl, ?_⟩))
 go_ret
 exact ⟨by first | rfl | (simp; done) | (simp [*]; done), by repeat (first | exact Drawn0.refl _ | apply Drawn0.step)⟩

end Go.Proofs.Ytodlogjkhnieoaa.PFnExactReverseWay
