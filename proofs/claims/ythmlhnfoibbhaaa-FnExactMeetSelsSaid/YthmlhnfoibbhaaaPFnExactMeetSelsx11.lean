-- Written by wip/tools/myprint.py of this claim's session, over the kit's print, round texts of its own: own text.
import Derived.Test.YthmlhnfoibbhaaaPFnExactMeetSelsx0
import Derived.Test.YthmlhnfoibbhaaaPFnExactMeetSelsx2
import Derived.Test.YthmlhnfoibbhaaaPFnExactMeetSelsx6
import Derived.Test.YthmlhnfoibbhaaaPFnExactMeetSelsx10
namespace Go.Proofs.Ythmlhnfoibbhaaa.PFnExactMeetSels
open Go.RowKit Go.Proofs.YthmlhnfoibbhaaaW.PrintWords Go.Proofs.YthmlhnfoibbhaaaW.PrintLast Go.Proofs.YthmlhnfoibbhaaaW.PrintMore
attribute [local go_sem] max2_int min2_int max_two min_two max_three min_three max_four min_four   -- for this text's walks alone
set_option linter.unusedVariables false
set_option linter.unusedSimpArgs false

/-! ### laws_FnExactMeetSels: function 14 -/
def laws_FnExactMeetSels.f (k : Nat) (a0_0 : Int) (a0_1 : Int) (a0_2 : Int) (a0_3 : Int) (a0_4 : Int) (a0_5 : Int) (a0_6 : Int) (a0_7 : Int) (a0_8 : Int) (a1_0 : Int) (a1_1 : Int) (a1_2 : Int) (a1_3 : Int) (a1_4 : Int) (a1_5 : Int) (a1_6 : Int) (a1_7 : Int) (a1_8 : Int) : Option (Bool) := (laws_toSel.f a0_0 a0_1 a0_2 a0_3 a0_4 a0_5 a0_6 a0_7 a0_8).bind fun bt251 => ((laws_toSel.f a1_0 a1_1 a1_2 a1_3 a1_4 a1_5 a1_6 a1_7 a1_8).bind fun bt260 => ((spec_MeetSels.f k bt251.1 bt251.2.1 bt251.2.2.1 bt251.2.2.2.1 bt251.2.2.2.2.1 bt251.2.2.2.2.2.1 bt251.2.2.2.2.2.2.1 bt251.2.2.2.2.2.2.2.1 bt251.2.2.2.2.2.2.2.2 bt260.1 bt260.2.1 bt260.2.2.1 bt260.2.2.2.1 bt260.2.2.2.2.1 bt260.2.2.2.2.2.1 bt260.2.2.2.2.2.2.1 bt260.2.2.2.2.2.2.2.1 bt260.2.2.2.2.2.2.2.2).bind fun bt269 => ((laws_toSel.f a0_0 a0_1 a0_2 a0_3 a0_4 a0_5 a0_6 a0_7 a0_8).bind fun bt280 => ((laws_toSel.f a1_0 a1_1 a1_2 a1_3 a1_4 a1_5 a1_6 a1_7 a1_8).bind fun bt289 => ((impl_MeetSels.f k bt280.1 bt280.2.1 bt280.2.2.1 bt280.2.2.2.1 bt280.2.2.2.2.1 bt280.2.2.2.2.2.1 bt280.2.2.2.2.2.2.1 bt280.2.2.2.2.2.2.2.1 bt280.2.2.2.2.2.2.2.2 bt289.1 bt289.2.1 bt289.2.2.1 bt289.2.2.2.1 bt289.2.2.2.2.1 bt289.2.2.2.2.2.1 bt289.2.2.2.2.2.2.1 bt289.2.2.2.2.2.2.2.1 bt289.2.2.2.2.2.2.2.2).bind fun bt298 => ((laws_eqSelResult.f bt298.1 bt298.2.1 bt298.2.2.1 bt298.2.2.2.1 bt298.2.2.2.2.1 bt298.2.2.2.2.2.1 bt298.2.2.2.2.2.2.1 bt298.2.2.2.2.2.2.2.1 bt298.2.2.2.2.2.2.2.2.1 bt298.2.2.2.2.2.2.2.2.2 bt269.1 bt269.2.1 bt269.2.2.1 bt269.2.2.2.1 bt269.2.2.2.2.1 bt269.2.2.2.2.2.1 bt269.2.2.2.2.2.2.1 bt269.2.2.2.2.2.2.2.1 bt269.2.2.2.2.2.2.2.2.1 bt269.2.2.2.2.2.2.2.2.2).bind fun t309 => (if t309 = true then (some true) else (some false))))))))
theorem laws_FnExactMeetSels.mono : ∀ a0 a1 a2 a3 a4 a5 a6 a7 a8 a9 a10 a11 a12 a13 a14 a15 a16 a17 k, LeO (laws_FnExactMeetSels.f k a0 a1 a2 a3 a4 a5 a6 a7 a8 a9 a10 a11 a12 a13 a14 a15 a16 a17) (laws_FnExactMeetSels.f (k + 1) a0 a1 a2 a3 a4 a5 a6 a7 a8 a9 a10 a11 a12 a13 a14 a15 a16 a17) := by
 intro a0 a1 a2 a3 a4 a5 a6 a7 a8 a9 a10 a11 a12 a13 a14 a15 a16 a17 k
 unfold laws_FnExactMeetSels.f
 repeat' first
   | (with_reducible exact impl_MeetSels.mono _ _ _ _ _ _ _ _ _ _ _ _ _ _ _ _ _ _ _)
   | (with_reducible exact spec_MeetSels.mono _ _ _ _ _ _ _ _ _ _ _ _ _ _ _ _ _ _ _)
   | (with_reducible exact LeO.refl _)
   | (with_reducible exact LeO.none _)
   | (with_reducible refine LeO.ite ?_ ?_)
   | (with_reducible refine LeO.bind ?_ (fun _ => ?_))
   | exact impl_MeetSels.mono _ _ _ _ _ _ _ _ _ _ _ _ _ _ _ _ _ _ _
   | exact spec_MeetSels.mono _ _ _ _ _ _ _ _ _ _ _ _ _ _ _ _ _ _ _
   | exact LeO.none _
   | refine LeO.ite ?_ ?_
   | refine LeO.bind ?_ (fun _ => ?_)
set_option maxHeartbeats 8000000 in
set_option maxRecDepth 100000 in
theorem laws_FnExactMeetSels.calls (k : Nat) (a0_0 : Int) (a0_1 : Int) (a0_2 : Int) (a0_3 : Int) (a0_4 : Int) (a0_5 : Int) (a0_6 : Int) (a0_7 : Int) (a0_8 : Int) (a1_0 : Int) (a1_1 : Int) (a1_2 : Int) (a1_3 : Int) (a1_4 : Int) (a1_5 : Int) (a1_6 : Int) (a1_7 : Int) (a1_8 : Int) (r : Bool) (hr_ : r = true) (w : World) (h : laws_FnExactMeetSels.f k a0_0 a0_1 a0_2 a0_3 a0_4 a0_5 a0_6 a0_7 a0_8 a1_0 a1_1 a1_2 a1_3 a1_4 a1_5 a1_6 a1_7 a1_8 = some r) :
  Calls Try.prog 14 #[.agg #[.int .i64 a0_0, .int .i64 a0_1, .int .i64 a0_2, .int .i64 a0_3, .int .i64 a0_4, .int .i64 a0_5, .int .i64 a0_6, .int .i64 a0_7, .int .i64 a0_8], .agg #[.int .i64 a1_0, .int .i64 a1_1, .int .i64 a1_2, .int .i64 a1_3, .int .i64 a1_4, .int .i64 a1_5, .int .i64 a1_6, .int .i64 a1_7, .int .i64 a1_8]] w fun e w' => e = .returned (.bool r) ∧ Below w.heap.size w w' := by
 have hu32 := Try.underlying32
 have hu37 := Try.underlying37
 have HB := Aside0.mk (Below.refl w.heap.size w)
 have H : ((laws_toSel.f a0_0 a0_1 a0_2 a0_3 a0_4 a0_5 a0_6 a0_7 a0_8).bind fun bt251 => ((laws_toSel.f a1_0 a1_1 a1_2 a1_3 a1_4 a1_5 a1_6 a1_7 a1_8).bind fun bt260 => ((spec_MeetSels.f k bt251.1 bt251.2.1 bt251.2.2.1 bt251.2.2.2.1 bt251.2.2.2.2.1 bt251.2.2.2.2.2.1 bt251.2.2.2.2.2.2.1 bt251.2.2.2.2.2.2.2.1 bt251.2.2.2.2.2.2.2.2 bt260.1 bt260.2.1 bt260.2.2.1 bt260.2.2.2.1 bt260.2.2.2.2.1 bt260.2.2.2.2.2.1 bt260.2.2.2.2.2.2.1 bt260.2.2.2.2.2.2.2.1 bt260.2.2.2.2.2.2.2.2).bind fun bt269 => ((laws_toSel.f a0_0 a0_1 a0_2 a0_3 a0_4 a0_5 a0_6 a0_7 a0_8).bind fun bt280 => ((laws_toSel.f a1_0 a1_1 a1_2 a1_3 a1_4 a1_5 a1_6 a1_7 a1_8).bind fun bt289 => ((impl_MeetSels.f k bt280.1 bt280.2.1 bt280.2.2.1 bt280.2.2.2.1 bt280.2.2.2.2.1 bt280.2.2.2.2.2.1 bt280.2.2.2.2.2.2.1 bt280.2.2.2.2.2.2.2.1 bt280.2.2.2.2.2.2.2.2 bt289.1 bt289.2.1 bt289.2.2.1 bt289.2.2.2.1 bt289.2.2.2.2.1 bt289.2.2.2.2.2.1 bt289.2.2.2.2.2.2.1 bt289.2.2.2.2.2.2.2.1 bt289.2.2.2.2.2.2.2.2).bind fun bt298 => ((laws_eqSelResult.f bt298.1 bt298.2.1 bt298.2.2.1 bt298.2.2.2.1 bt298.2.2.2.2.1 bt298.2.2.2.2.2.1 bt298.2.2.2.2.2.2.1 bt298.2.2.2.2.2.2.2.1 bt298.2.2.2.2.2.2.2.2.1 bt298.2.2.2.2.2.2.2.2.2 bt269.1 bt269.2.1 bt269.2.2.1 bt269.2.2.2.1 bt269.2.2.2.2.1 bt269.2.2.2.2.2.1 bt269.2.2.2.2.2.2.1 bt269.2.2.2.2.2.2.2.1 bt269.2.2.2.2.2.2.2.2.1 bt269.2.2.2.2.2.2.2.2.2).bind fun t309 => (if t309 = true then (some true) else (some false))))))))) = some r := h
 clear h
 replace H := Option.bind_eq_some_iff.mp H
 obtain ⟨⟨t251, t252, t253, t254, t255, t256, t257, t258, t259⟩, A30, H⟩ := H
 replace H : ((laws_toSel.f a1_0 a1_1 a1_2 a1_3 a1_4 a1_5 a1_6 a1_7 a1_8).bind fun bt260 => ((spec_MeetSels.f k t251 t252 t253 t254 t255 t256 t257 t258 t259 bt260.1 bt260.2.1 bt260.2.2.1 bt260.2.2.2.1 bt260.2.2.2.2.1 bt260.2.2.2.2.2.1 bt260.2.2.2.2.2.2.1 bt260.2.2.2.2.2.2.2.1 bt260.2.2.2.2.2.2.2.2).bind fun bt269 => ((laws_toSel.f a0_0 a0_1 a0_2 a0_3 a0_4 a0_5 a0_6 a0_7 a0_8).bind fun bt280 => ((laws_toSel.f a1_0 a1_1 a1_2 a1_3 a1_4 a1_5 a1_6 a1_7 a1_8).bind fun bt289 => ((impl_MeetSels.f k bt280.1 bt280.2.1 bt280.2.2.1 bt280.2.2.2.1 bt280.2.2.2.2.1 bt280.2.2.2.2.2.1 bt280.2.2.2.2.2.2.1 bt280.2.2.2.2.2.2.2.1 bt280.2.2.2.2.2.2.2.2 bt289.1 bt289.2.1 bt289.2.2.1 bt289.2.2.2.1 bt289.2.2.2.2.1 bt289.2.2.2.2.2.1 bt289.2.2.2.2.2.2.1 bt289.2.2.2.2.2.2.2.1 bt289.2.2.2.2.2.2.2.2).bind fun bt298 => ((laws_eqSelResult.f bt298.1 bt298.2.1 bt298.2.2.1 bt298.2.2.2.1 bt298.2.2.2.2.1 bt298.2.2.2.2.2.1 bt298.2.2.2.2.2.2.1 bt298.2.2.2.2.2.2.2.1 bt298.2.2.2.2.2.2.2.2.1 bt298.2.2.2.2.2.2.2.2.2 bt269.1 bt269.2.1 bt269.2.2.1 bt269.2.2.2.1 bt269.2.2.2.2.1 bt269.2.2.2.2.2.1 bt269.2.2.2.2.2.2.1 bt269.2.2.2.2.2.2.2.1 bt269.2.2.2.2.2.2.2.2.1 bt269.2.2.2.2.2.2.2.2.2).bind fun t309 => (if t309 = true then (some true) else (some false)))))))) = some r := H
 have A3 := Aside0.mk A30
 clear A30
 replace H := Option.bind_eq_some_iff.mp H
 obtain ⟨⟨t260, t261, t262, t263, t264, t265, t266, t267, t268⟩, A40, H⟩ := H
 replace H : ((spec_MeetSels.f k t251 t252 t253 t254 t255 t256 t257 t258 t259 t260 t261 t262 t263 t264 t265 t266 t267 t268).bind fun bt269 => ((laws_toSel.f a0_0 a0_1 a0_2 a0_3 a0_4 a0_5 a0_6 a0_7 a0_8).bind fun bt280 => ((laws_toSel.f a1_0 a1_1 a1_2 a1_3 a1_4 a1_5 a1_6 a1_7 a1_8).bind fun bt289 => ((impl_MeetSels.f k bt280.1 bt280.2.1 bt280.2.2.1 bt280.2.2.2.1 bt280.2.2.2.2.1 bt280.2.2.2.2.2.1 bt280.2.2.2.2.2.2.1 bt280.2.2.2.2.2.2.2.1 bt280.2.2.2.2.2.2.2.2 bt289.1 bt289.2.1 bt289.2.2.1 bt289.2.2.2.1 bt289.2.2.2.2.1 bt289.2.2.2.2.2.1 bt289.2.2.2.2.2.2.1 bt289.2.2.2.2.2.2.2.1 bt289.2.2.2.2.2.2.2.2).bind fun bt298 => ((laws_eqSelResult.f bt298.1 bt298.2.1 bt298.2.2.1 bt298.2.2.2.1 bt298.2.2.2.2.1 bt298.2.2.2.2.2.1 bt298.2.2.2.2.2.2.1 bt298.2.2.2.2.2.2.2.1 bt298.2.2.2.2.2.2.2.2.1 bt298.2.2.2.2.2.2.2.2.2 bt269.1 bt269.2.1 bt269.2.2.1 bt269.2.2.2.1 bt269.2.2.2.2.1 bt269.2.2.2.2.2.1 bt269.2.2.2.2.2.2.1 bt269.2.2.2.2.2.2.2.1 bt269.2.2.2.2.2.2.2.2.1 bt269.2.2.2.2.2.2.2.2.2).bind fun t309 => (if t309 = true then (some true) else (some false))))))) = some r := H
 have A4 := Aside0.mk A40
 clear A40
 replace H := Option.bind_eq_some_iff.mp H
 obtain ⟨⟨t269, t270, t271, t272, t273, t274, t275, t276, t277, t278⟩, A50, H⟩ := H
 replace H : ((laws_toSel.f a0_0 a0_1 a0_2 a0_3 a0_4 a0_5 a0_6 a0_7 a0_8).bind fun bt280 => ((laws_toSel.f a1_0 a1_1 a1_2 a1_3 a1_4 a1_5 a1_6 a1_7 a1_8).bind fun bt289 => ((impl_MeetSels.f k bt280.1 bt280.2.1 bt280.2.2.1 bt280.2.2.2.1 bt280.2.2.2.2.1 bt280.2.2.2.2.2.1 bt280.2.2.2.2.2.2.1 bt280.2.2.2.2.2.2.2.1 bt280.2.2.2.2.2.2.2.2 bt289.1 bt289.2.1 bt289.2.2.1 bt289.2.2.2.1 bt289.2.2.2.2.1 bt289.2.2.2.2.2.1 bt289.2.2.2.2.2.2.1 bt289.2.2.2.2.2.2.2.1 bt289.2.2.2.2.2.2.2.2).bind fun bt298 => ((laws_eqSelResult.f bt298.1 bt298.2.1 bt298.2.2.1 bt298.2.2.2.1 bt298.2.2.2.2.1 bt298.2.2.2.2.2.1 bt298.2.2.2.2.2.2.1 bt298.2.2.2.2.2.2.2.1 bt298.2.2.2.2.2.2.2.2.1 bt298.2.2.2.2.2.2.2.2.2 t269 t270 t271 t272 t273 t274 t275 t276 t277 t278).bind fun t309 => (if t309 = true then (some true) else (some false)))))) = some r := H
 have A5 := Aside0.mk A50
 clear A50
 replace H := Option.bind_eq_some_iff.mp H
 obtain ⟨⟨t280, t281, t282, t283, t284, t285, t286, t287, t288⟩, A60, H⟩ := H
 replace H : ((laws_toSel.f a1_0 a1_1 a1_2 a1_3 a1_4 a1_5 a1_6 a1_7 a1_8).bind fun bt289 => ((impl_MeetSels.f k t280 t281 t282 t283 t284 t285 t286 t287 t288 bt289.1 bt289.2.1 bt289.2.2.1 bt289.2.2.2.1 bt289.2.2.2.2.1 bt289.2.2.2.2.2.1 bt289.2.2.2.2.2.2.1 bt289.2.2.2.2.2.2.2.1 bt289.2.2.2.2.2.2.2.2).bind fun bt298 => ((laws_eqSelResult.f bt298.1 bt298.2.1 bt298.2.2.1 bt298.2.2.2.1 bt298.2.2.2.2.1 bt298.2.2.2.2.2.1 bt298.2.2.2.2.2.2.1 bt298.2.2.2.2.2.2.2.1 bt298.2.2.2.2.2.2.2.2.1 bt298.2.2.2.2.2.2.2.2.2 t269 t270 t271 t272 t273 t274 t275 t276 t277 t278).bind fun t309 => (if t309 = true then (some true) else (some false))))) = some r := H
 have A6 := Aside0.mk A60
 clear A60
 replace H := Option.bind_eq_some_iff.mp H
 obtain ⟨⟨t289, t290, t291, t292, t293, t294, t295, t296, t297⟩, A70, H⟩ := H
 replace H : ((impl_MeetSels.f k t280 t281 t282 t283 t284 t285 t286 t287 t288 t289 t290 t291 t292 t293 t294 t295 t296 t297).bind fun bt298 => ((laws_eqSelResult.f bt298.1 bt298.2.1 bt298.2.2.1 bt298.2.2.2.1 bt298.2.2.2.2.1 bt298.2.2.2.2.2.1 bt298.2.2.2.2.2.2.1 bt298.2.2.2.2.2.2.2.1 bt298.2.2.2.2.2.2.2.2.1 bt298.2.2.2.2.2.2.2.2.2 t269 t270 t271 t272 t273 t274 t275 t276 t277 t278).bind fun t309 => (if t309 = true then (some true) else (some false)))) = some r := H
 have A7 := Aside0.mk A70
 clear A70
 replace H := Option.bind_eq_some_iff.mp H
 obtain ⟨⟨t298, t299, t300, t301, t302, t303, t304, t305, t306, t307⟩, A80, H⟩ := H
 replace H : ((laws_eqSelResult.f t298 t299 t300 t301 t302 t303 t304 t305 t306 t307 t269 t270 t271 t272 t273 t274 t275 t276 t277 t278).bind fun t309 => (if t309 = true then (some true) else (some false))) = some r := H
 have A8 := Aside0.mk A80
 clear A80
 replace H := Option.bind_eq_some_iff.mp H
 obtain ⟨t309, A90, H⟩ := H
 replace H : (if t309 = true then (some true) else (some false)) = some r := H
 have A9 := Aside0.mk A90
 clear A90
 by_cases c10 : t309 = true
 ·
  subst c10
  have H1 : (some true) = some r := by rw [if_pos rfl] at H; exact H
  clear H
  have H := H1
  clear H1
  obtain rfl := Option.some.inj H
  go_enter Try.func14, Try.ntmps14
  try go_wp2_with (first | ((with_reducible refine gate_dst (N := 2) rfl ?_); refine box_event ?hg (N := 2) ?hd (cs := #[.int .i64 a0_0, .int .i64 a0_1, .int .i64 a0_2, .int .i64 a0_3, .int .i64 a0_4, .int .i64 a0_5, .int .i64 a0_6, .int .i64 a0_7, .int .i64 a0_8]) (t := 32) ?hr ?_; (case hd => rfl); (case hg => rfl); (case hr => first | (go_simp; done) | (go_simp; rfl)); intro gb249 hg w11 hbox hb; have n0_ := Aside0.mk (below_step (by repeat (first | (with_reducible first | exact HB.out | apply below_alloc | apply pw_below_drewN | apply below_drew1) | exact HB.out)) hb); have n1_ := Aside0.mk (hbox); have n2_ := Aside0.mk ((by rw [hg]; exact (below_size (by repeat (first | (with_reducible first | exact HB.out | apply below_alloc | apply pw_below_drewN | apply below_drew1) | exact HB.out))) : w.heap.size ≤ gb249)); have n3_ := Aside0.mk ((by rw [hg]; exact (below_size (by repeat (first | (with_reducible first | exact HB.out | apply below_alloc | apply pw_below_drewN | apply below_drew1) | exact HB.out))) : w.heap.size ≤ gb249)); clear HB; have HB := n0_; have BK249 := n1_; have GW249 := n2_; have GE249 := n3_; clear n0_ n1_ n2_ n3_; clear hb hbox hg) | ((with_reducible refine gate_dst (N := 3) rfl ?_); refine box_event ?hg (N := 3) ?hd (cs := #[.int .i64 a1_0, .int .i64 a1_1, .int .i64 a1_2, .int .i64 a1_3, .int .i64 a1_4, .int .i64 a1_5, .int .i64 a1_6, .int .i64 a1_7, .int .i64 a1_8]) (t := 32) ?hr ?_; (case hd => rfl); (case hg => rfl); (case hr => first | (go_simp; done) | (go_simp; rfl)); intro gb250 hg w12 hbox hb; have n0_ := Aside0.mk (blk_below_u BK249.out hb); have n1_ := Aside0.mk (below_step (by repeat (first | (with_reducible first | exact HB.out | apply below_alloc | apply pw_below_drewN | apply below_drew1 | refine below_set ?_ GE249.out) | exact HB.out)) hb); have n2_ := Aside0.mk (hbox); have n3_ := Aside0.mk ((by rw [hg]; exact (below_size (by repeat (first | (with_reducible first | exact HB.out | apply below_alloc | apply pw_below_drewN | apply below_drew1 | refine below_set ?_ GE249.out) | exact HB.out))) : w.heap.size ≤ gb250)); have n4_ := Aside0.mk ((by rw [hg]; exact (below_size (by repeat (first | (with_reducible first | exact HB.out | apply below_alloc | apply pw_below_drewN | apply below_drew1 | refine below_set ?_ GE249.out) | exact HB.out))) : w.heap.size ≤ gb250)); have n5_ := Aside0.mk ((by rw [hg]; exact Nat.ne_of_lt (blk_lt_u BK249.out) : gb249 ≠ gb250)); have n6_ := Aside0.mk ((by rw [hg]; exact Nat.ne_of_gt (blk_lt_u BK249.out) : gb250 ≠ gb249)); clear BK249; clear HB; have BK249 := n0_; have HB := n1_; have BK250 := n2_; have GW250 := n3_; have GE250 := n4_; have NB249_250 := n5_; have NB250_249 := n6_; clear n0_ n1_ n2_ n3_ n4_ n5_ n6_; clear hb hbox hg))
  have n0_ := Aside0.mk (blk_drew BK249.out)
  have n1_ := Aside0.mk (blk_drew BK250.out)
  have n2_ := Aside0.mk (below_drew1 HB.out)
  clear BK249
  clear BK250
  clear HB
  have BK249 := n0_
  have BK250 := n1_
  have HB := n2_
  clear n0_ n1_ n2_
  refine start_ (n := 7) (S := fun w' => w'.cell? ⟨gb249, 0, none⟩ = some (.int .i64 a0_0) ∧ w'.cell? ⟨gb249, 1, none⟩ = some (.int .i64 a0_1) ∧ w'.cell? ⟨gb249, 2, none⟩ = some (.int .i64 a0_2) ∧ w'.cell? ⟨gb249, 3, none⟩ = some (.int .i64 a0_3) ∧ w'.cell? ⟨gb249, 4, none⟩ = some (.int .i64 a0_4) ∧ w'.cell? ⟨gb249, 5, none⟩ = some (.int .i64 a0_5) ∧ w'.cell? ⟨gb249, 6, none⟩ = some (.int .i64 a0_6) ∧ w'.cell? ⟨gb249, 7, none⟩ = some (.int .i64 a0_7) ∧ w'.cell? ⟨gb249, 8, none⟩ = some (.int .i64 a0_8) ∧ w'.cell? ⟨gb250, 0, none⟩ = some (.int .i64 a1_0) ∧ w'.cell? ⟨gb250, 1, none⟩ = some (.int .i64 a1_1) ∧ w'.cell? ⟨gb250, 2, none⟩ = some (.int .i64 a1_2) ∧ w'.cell? ⟨gb250, 3, none⟩ = some (.int .i64 a1_3) ∧ w'.cell? ⟨gb250, 4, none⟩ = some (.int .i64 a1_4) ∧ w'.cell? ⟨gb250, 5, none⟩ = some (.int .i64 a1_5) ∧ w'.cell? ⟨gb250, 6, none⟩ = some (.int .i64 a1_6) ∧ w'.cell? ⟨gb250, 7, none⟩ = some (.int .i64 a1_7) ∧ w'.cell? ⟨gb250, 8, none⟩ = some (.int .i64 a1_8)) (ds := []) #[false, false, false, false, false, false, false] (by kernel_rfl) rfl rfl ⟨(blk_cell BK249.out 0).trans rfl, (blk_cell BK249.out 1).trans rfl, (blk_cell BK249.out 2).trans rfl, (blk_cell BK249.out 3).trans rfl, (blk_cell BK249.out 4).trans rfl, (blk_cell BK249.out 5).trans rfl, (blk_cell BK249.out 6).trans rfl, (blk_cell BK249.out 7).trans rfl, (blk_cell BK249.out 8).trans rfl, (blk_cell BK250.out 0).trans rfl, (blk_cell BK250.out 1).trans rfl, (blk_cell BK250.out 2).trans rfl, (blk_cell BK250.out 3).trans rfl, (blk_cell BK250.out 4).trans rfl, (blk_cell BK250.out 5).trans rfl, (blk_cell BK250.out 6).trans rfl, (blk_cell BK250.out 7).trans rfl, (blk_cell BK250.out 8).trans rfl⟩ (fun hHeld => ?_)
  generalize w12.drew = w13 at BK249 BK250 HB hHeld ⊢
  refine take_ (i := 0) (N := some 7) (v := ?_) (a' := ?_) #[true, false, false, false, false, false, false] rfl rfl (by kernel_rfl) (fun _ _ _ h => h) (Or.inl ⟨by rfl, ?_⟩) hHeld ?_ ?_
  rotate_left
  ·
   rintro w' ⟨s0, s1, s2, s3, s4, s5, s6, s7, s8, s9, s10, s11, s12, s13, s14, s15, s16, s17⟩
   go_simp
   with_reducible rfl
  rotate_left
  ·
   simp only [Act.put, List.setIfInBounds_toArray, List.set_cons_zero, List.set_cons_succ, i64_w, i32_w]
   rfl
  refine take_ (i := 2) (N := some 9) (v := ?_) (a' := ?_) #[true, false, true, false, false, false, false] rfl rfl (by kernel_rfl) (fun _ _ _ h => h) (Or.inl ⟨by rfl, ?_⟩) hHeld ?_ ?_
  rotate_left
  ·
   rintro w' ⟨s0, s1, s2, s3, s4, s5, s6, s7, s8, s9, s10, s11, s12, s13, s14, s15, s16, s17⟩
   go_simp
   with_reducible rfl
  rotate_left
  ·
   simp only [Act.put, List.setIfInBounds_toArray, List.set_cons_zero, List.set_cons_succ, i64_w, i32_w]
   rfl
  refine join_ (σ := Nat) 1 #[true, true, true, true, true, true, false] (fun s_ => [(8, .agg #[.int .i64 t251, .int .i64 t252, .int .i64 t253, .int .i64 t254, .int .i64 t255, .int .i64 t256, .int .i64 t257, .int .i64 t258, .int .i64 t259]), (10, .agg #[.int .i64 t260, .int .i64 t261, .int .i64 t262, .int .i64 t263, .int .i64 t264, .int .i64 t265, .int .i64 t266, .int .i64 t267, .int .i64 t268]), (11, .agg #[.int .i64 t269, .int .i64 t270, .int .i64 t271, .int .i64 t272, .int .i64 t273, .int .i64 t274, .int .i64 t275, .int .i64 t276, .int .i64 t277, .int .i64 t278]), (5, .pointer (some ⟨s_, 0, none⟩))]) (fun s_ w' => (w'.cell? ⟨gb249, 0, none⟩ = some (.int .i64 a0_0) ∧ w'.cell? ⟨gb249, 1, none⟩ = some (.int .i64 a0_1) ∧ w'.cell? ⟨gb249, 2, none⟩ = some (.int .i64 a0_2) ∧ w'.cell? ⟨gb249, 3, none⟩ = some (.int .i64 a0_3) ∧ w'.cell? ⟨gb249, 4, none⟩ = some (.int .i64 a0_4) ∧ w'.cell? ⟨gb249, 5, none⟩ = some (.int .i64 a0_5) ∧ w'.cell? ⟨gb249, 6, none⟩ = some (.int .i64 a0_6) ∧ w'.cell? ⟨gb249, 7, none⟩ = some (.int .i64 a0_7) ∧ w'.cell? ⟨gb249, 8, none⟩ = some (.int .i64 a0_8) ∧ w'.cell? ⟨gb250, 0, none⟩ = some (.int .i64 a1_0) ∧ w'.cell? ⟨gb250, 1, none⟩ = some (.int .i64 a1_1) ∧ w'.cell? ⟨gb250, 2, none⟩ = some (.int .i64 a1_2) ∧ w'.cell? ⟨gb250, 3, none⟩ = some (.int .i64 a1_3) ∧ w'.cell? ⟨gb250, 4, none⟩ = some (.int .i64 a1_4) ∧ w'.cell? ⟨gb250, 5, none⟩ = some (.int .i64 a1_5) ∧ w'.cell? ⟨gb250, 6, none⟩ = some (.int .i64 a1_6) ∧ w'.cell? ⟨gb250, 7, none⟩ = some (.int .i64 a1_7) ∧ w'.cell? ⟨gb250, 8, none⟩ = some (.int .i64 a1_8)) ∧ (w'.heap[gb249]? = some (.cells #[.int .i64 a0_0, .int .i64 a0_1, .int .i64 a0_2, .int .i64 a0_3, .int .i64 a0_4, .int .i64 a0_5, .int .i64 a0_6, .int .i64 a0_7, .int .i64 a0_8] 32 (0, 0))) ∧ (w'.heap[gb250]? = some (.cells #[.int .i64 a1_0, .int .i64 a1_1, .int .i64 a1_2, .int .i64 a1_3, .int .i64 a1_4, .int .i64 a1_5, .int .i64 a1_6, .int .i64 a1_7, .int .i64 a1_8] 32 (0, 0))) ∧ (w'.heap[s_]? = some (.cells #[.int .i64 0, .int .i64 0, .int .i64 0, .int .i64 0, .int .i64 0, .int .i64 0, .int .i64 0, .int .i64 0, .int .i64 0, .int .i64 0] 37 (0, 0))) ∧ (w.heap.size ≤ s_) ∧ (w.heap.size ≤ s_) ∧ (gb249 ≠ s_) ∧ (s_ ≠ gb249) ∧ (gb250 ≠ s_) ∧ (s_ ≠ gb250) ∧ (Below w.heap.size w w')) ?_ ?_
  rotate_left
  ·
   intro hCont
   refine two_ (i := 1) (j := 5) (Ni := some 8) (Nj := some 5) #[true, true, true, false, false, false, false] #[true, false, true, false, false, true, false] rfl rfl rfl rfl (by kernel_rfl) (by decide) (by decide) (fun K hK => ?_) (fun K hK => ?_)
   ·
    skip
    refine goes_ Try.func21 (by kernel_rfl) rfl #[.agg #[.int .i64 a0_0, .int .i64 a0_1, .int .i64 a0_2, .int .i64 a0_3, .int .i64 a0_4, .int .i64 a0_5, .int .i64 a0_6, .int .i64 a0_7, .int .i64 a0_8]] (by rfl) rfl rfl (by (try simp only [List.map_toArray, List.map_cons, List.map_nil]); first | done | rfl | (simp only [List.length_drop, List.length_take]; rfl)) ?_
    with_reducible refine (laws_toSel.calls a0_0 a0_1 a0_2 a0_3 a0_4 a0_5 a0_6 a0_7 a0_8 t251 t252 t253 t254 t255 t256 t257 t258 t259 _ A3.out).mono ?_
    rintro e w14 ⟨rfl, hb⟩
    refine ⟨_, rfl, ?_⟩
    have n0_ := Aside0.mk (blk_below_u BK249.out hb)
    have n1_ := Aside0.mk (blk_below_u BK250.out hb)
    have n2_ := Aside0.mk (below_step (by repeat (first | (with_reducible first | exact HB.out | apply below_alloc | apply pw_below_drewN | apply below_drew1 | refine below_set ?_ GE249.out | refine below_set ?_ GE250.out) | exact HB.out)) hb)
    clear BK249
    clear BK250
    clear HB
    have BK249 := n0_
    have BK250 := n1_
    have HB := n2_
    clear n0_ n1_ n2_
    (try clear hb)
    (try clear hb2)
    (try clear hk)
    (try clear hi)
    refine hK.out _ _ ⟨(blk_cell BK249.out 0).trans rfl, (blk_cell BK249.out 1).trans rfl, (blk_cell BK249.out 2).trans rfl, (blk_cell BK249.out 3).trans rfl, (blk_cell BK249.out 4).trans rfl, (blk_cell BK249.out 5).trans rfl, (blk_cell BK249.out 6).trans rfl, (blk_cell BK249.out 7).trans rfl, (blk_cell BK249.out 8).trans rfl, (blk_cell BK250.out 0).trans rfl, (blk_cell BK250.out 1).trans rfl, (blk_cell BK250.out 2).trans rfl, (blk_cell BK250.out 3).trans rfl, (blk_cell BK250.out 4).trans rfl, (blk_cell BK250.out 5).trans rfl, (blk_cell BK250.out 6).trans rfl, (blk_cell BK250.out 7).trans rfl, (blk_cell BK250.out 8).trans rfl⟩ (fun hHeld => ?_)
    clear hK K
    refine norm_ (a' := ?_) ?_ ?_
    rotate_left
    ·
     show Act.put _ (some 8) _ = _
     simp only [Act.put, List.setIfInBounds_toArray, List.set_cons_zero, List.set_cons_succ, i64_w, i32_w]
     rfl
    refine two_ (i := 3) (j := 5) (Ni := some 10) (Nj := some 5) #[true, true, true, true, false, false, false] #[true, true, true, false, false, true, false] rfl rfl rfl rfl (by kernel_rfl) (by decide) (by decide) (fun K hK => ?_) (fun K hK => ?_)
    ·
     skip
     refine goes_ Try.func21 (by kernel_rfl) rfl #[.agg #[.int .i64 a1_0, .int .i64 a1_1, .int .i64 a1_2, .int .i64 a1_3, .int .i64 a1_4, .int .i64 a1_5, .int .i64 a1_6, .int .i64 a1_7, .int .i64 a1_8]] (by rfl) rfl rfl (by (try simp only [List.map_toArray, List.map_cons, List.map_nil]); first | done | rfl | (simp only [List.length_drop, List.length_take]; rfl)) ?_
     with_reducible refine (laws_toSel.calls a1_0 a1_1 a1_2 a1_3 a1_4 a1_5 a1_6 a1_7 a1_8 t260 t261 t262 t263 t264 t265 t266 t267 t268 _ A4.out).mono ?_
     rintro e w15 ⟨rfl, hb⟩
     refine ⟨_, rfl, ?_⟩
     have n0_ := Aside0.mk (blk_below_u BK249.out hb)
     have n1_ := Aside0.mk (blk_below_u BK250.out hb)
     have n2_ := Aside0.mk (below_step (by repeat (first | (with_reducible first | exact HB.out | apply below_alloc | apply pw_below_drewN | apply below_drew1 | refine below_set ?_ GE249.out | refine below_set ?_ GE250.out) | exact HB.out)) hb)
     clear BK249
     clear BK250
     clear HB
     have BK249 := n0_
     have BK250 := n1_
     have HB := n2_
     clear n0_ n1_ n2_
     (try clear hb)
     (try clear hb2)
     (try clear hk)
     (try clear hi)
     refine hK.out _ _ ⟨(blk_cell BK249.out 0).trans rfl, (blk_cell BK249.out 1).trans rfl, (blk_cell BK249.out 2).trans rfl, (blk_cell BK249.out 3).trans rfl, (blk_cell BK249.out 4).trans rfl, (blk_cell BK249.out 5).trans rfl, (blk_cell BK249.out 6).trans rfl, (blk_cell BK249.out 7).trans rfl, (blk_cell BK249.out 8).trans rfl, (blk_cell BK250.out 0).trans rfl, (blk_cell BK250.out 1).trans rfl, (blk_cell BK250.out 2).trans rfl, (blk_cell BK250.out 3).trans rfl, (blk_cell BK250.out 4).trans rfl, (blk_cell BK250.out 5).trans rfl, (blk_cell BK250.out 6).trans rfl, (blk_cell BK250.out 7).trans rfl, (blk_cell BK250.out 8).trans rfl⟩ (fun hHeld => ?_)
     clear hK K
     refine norm_ (a' := ?_) ?_ ?_
     rotate_left
     ·
      show Act.put _ (some 10) _ = _
      simp only [Act.put, List.setIfInBounds_toArray, List.set_cons_zero, List.set_cons_succ, i64_w, i32_w]
      rfl
     refine two_ (i := 4) (j := 5) (Ni := some 11) (Nj := some 5) #[true, true, true, true, true, false, false] #[true, true, true, true, false, true, false] rfl rfl rfl rfl (by kernel_rfl) (by decide) (by decide) (fun K hK => ?_) (fun K hK => ?_)
     ·
      skip
      refine goes_ Try.func65 (by kernel_rfl) rfl #[.agg #[.int .i64 t251, .int .i64 t252, .int .i64 t253, .int .i64 t254, .int .i64 t255, .int .i64 t256, .int .i64 t257, .int .i64 t258, .int .i64 t259], .agg #[.int .i64 t260, .int .i64 t261, .int .i64 t262, .int .i64 t263, .int .i64 t264, .int .i64 t265, .int .i64 t266, .int .i64 t267, .int .i64 t268]] (by rfl) rfl rfl (by (try simp only [List.map_toArray, List.map_cons, List.map_nil]); first | done | rfl | (simp only [List.length_drop, List.length_take]; rfl)) ?_
      with_reducible refine (spec_MeetSels.calls k t251 t252 t253 t254 t255 t256 t257 t258 t259 t260 t261 t262 t263 t264 t265 t266 t267 t268 t269 t270 t271 t272 t273 t274 t275 t276 t277 t278 _ A5.out).mono ?_
      rintro e w16 ⟨rfl, hb⟩
      refine ⟨_, rfl, ?_⟩
      have n0_ := Aside0.mk (blk_below_u BK249.out hb)
      have n1_ := Aside0.mk (blk_below_u BK250.out hb)
      have n2_ := Aside0.mk (below_step (by repeat (first | (with_reducible first | exact HB.out | apply below_alloc | apply pw_below_drewN | apply below_drew1 | refine below_set ?_ GE249.out | refine below_set ?_ GE250.out) | exact HB.out)) hb)
      clear BK249
      clear BK250
      clear HB
      have BK249 := n0_
      have BK250 := n1_
      have HB := n2_
      clear n0_ n1_ n2_
      (try clear hb)
      (try clear hb2)
      (try clear hk)
      (try clear hi)
      refine hK.out _ _ ⟨(blk_cell BK249.out 0).trans rfl, (blk_cell BK249.out 1).trans rfl, (blk_cell BK249.out 2).trans rfl, (blk_cell BK249.out 3).trans rfl, (blk_cell BK249.out 4).trans rfl, (blk_cell BK249.out 5).trans rfl, (blk_cell BK249.out 6).trans rfl, (blk_cell BK249.out 7).trans rfl, (blk_cell BK249.out 8).trans rfl, (blk_cell BK250.out 0).trans rfl, (blk_cell BK250.out 1).trans rfl, (blk_cell BK250.out 2).trans rfl, (blk_cell BK250.out 3).trans rfl, (blk_cell BK250.out 4).trans rfl, (blk_cell BK250.out 5).trans rfl, (blk_cell BK250.out 6).trans rfl, (blk_cell BK250.out 7).trans rfl, (blk_cell BK250.out 8).trans rfl⟩ (fun hHeld => ?_)
      clear hK K
      refine norm_ (a' := ?_) ?_ ?_
      rotate_left
      ·
       show Act.put _ (some 11) _ = _
       simp only [Act.put, List.setIfInBounds_toArray, List.set_cons_zero, List.set_cons_succ, i64_w, i32_w]
       rfl
      refine one_ (i := 5) (N := some 5) #[true, true, true, true, true, true, false] rfl rfl (by kernel_rfl) (by decide) (fun K hK => ?_)
      refine box_step ?hg (N := 5) ?hd (cs := #[.int .i64 0, .int .i64 0, .int .i64 0, .int .i64 0, .int .i64 0, .int .i64 0, .int .i64 0, .int .i64 0, .int .i64 0, .int .i64 0]) (t := 37) ?hr ?_; (case hd => rfl); (case hg => rfl); (case hr => first | (go_simp; done) | (go_simp; rfl))
      intro gb279 hg w17 hbox hb
      have n0_ := Aside0.mk (blk_below_u BK249.out hb)
      have n1_ := Aside0.mk (blk_below_u BK250.out hb)
      have n2_ := Aside0.mk (below_step (by repeat (first | (with_reducible first | exact HB.out | apply below_alloc | apply pw_below_drewN | apply below_drew1 | refine below_set ?_ GE249.out | refine below_set ?_ GE250.out) | exact HB.out)) hb)
      have n3_ := Aside0.mk (hbox)
      have n4_ := Aside0.mk ((by rw [hg]; exact (below_size (by repeat (first | (with_reducible first | exact HB.out | apply below_alloc | apply pw_below_drewN | apply below_drew1 | refine below_set ?_ GE249.out | refine below_set ?_ GE250.out) | exact HB.out))) : w.heap.size ≤ gb279))
      have n5_ := Aside0.mk ((by rw [hg]; exact (below_size (by repeat (first | (with_reducible first | exact HB.out | apply below_alloc | apply pw_below_drewN | apply below_drew1 | refine below_set ?_ GE249.out | refine below_set ?_ GE250.out) | exact HB.out))) : w.heap.size ≤ gb279))
      have n6_ := Aside0.mk ((by rw [hg]; exact Nat.ne_of_lt (blk_lt_u BK249.out) : gb249 ≠ gb279))
      have n7_ := Aside0.mk ((by rw [hg]; exact Nat.ne_of_gt (blk_lt_u BK249.out) : gb279 ≠ gb249))
      have n8_ := Aside0.mk ((by rw [hg]; exact Nat.ne_of_lt (blk_lt_u BK250.out) : gb250 ≠ gb279))
      have n9_ := Aside0.mk ((by rw [hg]; exact Nat.ne_of_gt (blk_lt_u BK250.out) : gb279 ≠ gb250))
      clear BK249
      clear BK250
      clear HB
      have BK249 := n0_
      have BK250 := n1_
      have HB := n2_
      have BK279 := n3_
      have GW279 := n4_
      have GE279 := n5_
      have NB249_279 := n6_
      have NB279_249 := n7_
      have NB250_279 := n8_
      have NB279_250 := n9_
      clear n0_ n1_ n2_ n3_ n4_ n5_ n6_ n7_ n8_ n9_
      clear hb hbox hg
      refine hK.out _ _ ⟨(blk_cell BK249.out 0).trans rfl, (blk_cell BK249.out 1).trans rfl, (blk_cell BK249.out 2).trans rfl, (blk_cell BK249.out 3).trans rfl, (blk_cell BK249.out 4).trans rfl, (blk_cell BK249.out 5).trans rfl, (blk_cell BK249.out 6).trans rfl, (blk_cell BK249.out 7).trans rfl, (blk_cell BK249.out 8).trans rfl, (blk_cell BK250.out 0).trans rfl, (blk_cell BK250.out 1).trans rfl, (blk_cell BK250.out 2).trans rfl, (blk_cell BK250.out 3).trans rfl, (blk_cell BK250.out 4).trans rfl, (blk_cell BK250.out 5).trans rfl, (blk_cell BK250.out 6).trans rfl, (blk_cell BK250.out 7).trans rfl, (blk_cell BK250.out 8).trans rfl⟩ (fun hHeld => ?_)
      clear hK K
      refine norm_ (a' := ?_) ?_ ?_
      rotate_left
      ·
       show Act.put _ (some 5) _ = _
       simp only [Act.put, List.setIfInBounds_toArray, List.set_cons_zero, List.set_cons_succ, i64_w, i32_w]
       rfl
      exact norm_ (by simp only [putAll, Act.put, List.setIfInBounds_toArray, List.set_cons_zero, List.set_cons_succ]) (hCont (gb279) _ ⟨hHeld, (by (with_reducible repeat (first | refine blk_drewN ?_ _ | refine blk_drew ?_ | refine blk_alloc ?_ _)); exact BK249.out), (by (with_reducible repeat (first | refine blk_drewN ?_ _ | refine blk_drew ?_ | refine blk_alloc ?_ _)); exact BK250.out), (by (with_reducible repeat (first | refine blk_drewN ?_ _ | refine blk_drew ?_ | refine blk_alloc ?_ _)); exact BK279.out), GW279.out, GE279.out, NB249_279.out, NB279_249.out, NB250_279.out, NB279_250.out, (by repeat (first | (with_reducible first | exact HB.out | apply below_alloc | apply pw_below_drewN | apply below_drew1 | refine below_set ?_ GE249.out | refine below_set ?_ GE250.out | refine below_set ?_ GE279.out) | exact HB.out))⟩)
     ·
      skip
      refine box_step ?hg (N := 5) ?hd (cs := #[.int .i64 0, .int .i64 0, .int .i64 0, .int .i64 0, .int .i64 0, .int .i64 0, .int .i64 0, .int .i64 0, .int .i64 0, .int .i64 0]) (t := 37) ?hr ?_; (case hd => rfl); (case hg => rfl); (case hr => first | (go_simp; done) | (go_simp; rfl))
      intro gb279 hg w16 hbox hb
      have n0_ := Aside0.mk (blk_below_u BK249.out hb)
      have n1_ := Aside0.mk (blk_below_u BK250.out hb)
      have n2_ := Aside0.mk (below_step (by repeat (first | (with_reducible first | exact HB.out | apply below_alloc | apply pw_below_drewN | apply below_drew1 | refine below_set ?_ GE249.out | refine below_set ?_ GE250.out) | exact HB.out)) hb)
      have n3_ := Aside0.mk (hbox)
      have n4_ := Aside0.mk ((by rw [hg]; exact (below_size (by repeat (first | (with_reducible first | exact HB.out | apply below_alloc | apply pw_below_drewN | apply below_drew1 | refine below_set ?_ GE249.out | refine below_set ?_ GE250.out) | exact HB.out))) : w.heap.size ≤ gb279))
      have n5_ := Aside0.mk ((by rw [hg]; exact (below_size (by repeat (first | (with_reducible first | exact HB.out | apply below_alloc | apply pw_below_drewN | apply below_drew1 | refine below_set ?_ GE249.out | refine below_set ?_ GE250.out) | exact HB.out))) : w.heap.size ≤ gb279))
      have n6_ := Aside0.mk ((by rw [hg]; exact Nat.ne_of_lt (blk_lt_u BK249.out) : gb249 ≠ gb279))
      have n7_ := Aside0.mk ((by rw [hg]; exact Nat.ne_of_gt (blk_lt_u BK249.out) : gb279 ≠ gb249))
      have n8_ := Aside0.mk ((by rw [hg]; exact Nat.ne_of_lt (blk_lt_u BK250.out) : gb250 ≠ gb279))
      have n9_ := Aside0.mk ((by rw [hg]; exact Nat.ne_of_gt (blk_lt_u BK250.out) : gb279 ≠ gb250))
      clear BK249
      clear BK250
      clear HB
      have BK249 := n0_
      have BK250 := n1_
      have HB := n2_
      have BK279 := n3_
      have GW279 := n4_
      have GE279 := n5_
      have NB249_279 := n6_
      have NB279_249 := n7_
      have NB250_279 := n8_
      have NB279_250 := n9_
      clear n0_ n1_ n2_ n3_ n4_ n5_ n6_ n7_ n8_ n9_
      clear hb hbox hg
      refine hK.out _ _ ⟨(blk_cell BK249.out 0).trans rfl, (blk_cell BK249.out 1).trans rfl, (blk_cell BK249.out 2).trans rfl, (blk_cell BK249.out 3).trans rfl, (blk_cell BK249.out 4).trans rfl, (blk_cell BK249.out 5).trans rfl, (blk_cell BK249.out 6).trans rfl, (blk_cell BK249.out 7).trans rfl, (blk_cell BK249.out 8).trans rfl, (blk_cell BK250.out 0).trans rfl, (blk_cell BK250.out 1).trans rfl, (blk_cell BK250.out 2).trans rfl, (blk_cell BK250.out 3).trans rfl, (blk_cell BK250.out 4).trans rfl, (blk_cell BK250.out 5).trans rfl, (blk_cell BK250.out 6).trans rfl, (blk_cell BK250.out 7).trans rfl, (blk_cell BK250.out 8).trans rfl⟩ (fun hHeld => ?_)
      clear hK K
      refine norm_ (a' := ?_) ?_ ?_
      rotate_left
      ·
       show Act.put _ (some 5) _ = _
       simp only [Act.put, List.setIfInBounds_toArray, List.set_cons_zero, List.set_cons_succ, i64_w, i32_w]
       rfl
      refine one_ (i := 4) (N := some 11) #[true, true, true, true, true, true, false] rfl rfl (by kernel_rfl) (by decide) (fun K hK => ?_)
      refine goes_ Try.func65 (by kernel_rfl) rfl #[.agg #[.int .i64 t251, .int .i64 t252, .int .i64 t253, .int .i64 t254, .int .i64 t255, .int .i64 t256, .int .i64 t257, .int .i64 t258, .int .i64 t259], .agg #[.int .i64 t260, .int .i64 t261, .int .i64 t262, .int .i64 t263, .int .i64 t264, .int .i64 t265, .int .i64 t266, .int .i64 t267, .int .i64 t268]] (by rfl) rfl rfl (by (try simp only [List.map_toArray, List.map_cons, List.map_nil]); first | done | rfl | (simp only [List.length_drop, List.length_take]; rfl)) ?_
      with_reducible refine (spec_MeetSels.calls k t251 t252 t253 t254 t255 t256 t257 t258 t259 t260 t261 t262 t263 t264 t265 t266 t267 t268 t269 t270 t271 t272 t273 t274 t275 t276 t277 t278 _ A5.out).mono ?_
      rintro e w17 ⟨rfl, hb⟩
      refine ⟨_, rfl, ?_⟩
      have n0_ := Aside0.mk (blk_below_u BK249.out hb)
      have n1_ := Aside0.mk (blk_below_u BK250.out hb)
      have n2_ := Aside0.mk (blk_below_u BK279.out hb)
      have n3_ := Aside0.mk (below_step (by repeat (first | (with_reducible first | exact HB.out | apply below_alloc | apply pw_below_drewN | apply below_drew1 | refine below_set ?_ GE249.out | refine below_set ?_ GE250.out | refine below_set ?_ GE279.out) | exact HB.out)) hb)
      clear BK249
      clear BK250
      clear BK279
      clear HB
      have BK249 := n0_
      have BK250 := n1_
      have BK279 := n2_
      have HB := n3_
      clear n0_ n1_ n2_ n3_
      (try clear hb)
      (try clear hb2)
      (try clear hk)
      (try clear hi)
      refine hK.out _ _ ⟨(blk_cell BK249.out 0).trans rfl, (blk_cell BK249.out 1).trans rfl, (blk_cell BK249.out 2).trans rfl, (blk_cell BK249.out 3).trans rfl, (blk_cell BK249.out 4).trans rfl, (blk_cell BK249.out 5).trans rfl, (blk_cell BK249.out 6).trans rfl, (blk_cell BK249.out 7).trans rfl, (blk_cell BK249.out 8).trans rfl, (blk_cell BK250.out 0).trans rfl, (blk_cell BK250.out 1).trans rfl, (blk_cell BK250.out 2).trans rfl, (blk_cell BK250.out 3).trans rfl, (blk_cell BK250.out 4).trans rfl, (blk_cell BK250.out 5).trans rfl, (blk_cell BK250.out 6).trans rfl, (blk_cell BK250.out 7).trans rfl, (blk_cell BK250.out 8).trans rfl⟩ (fun hHeld => ?_)
      clear hK K
      refine norm_ (a' := ?_) ?_ ?_
      rotate_left
      ·
       show Act.put _ (some 11) _ = _
       simp only [Act.put, List.setIfInBounds_toArray, List.set_cons_zero, List.set_cons_succ, i64_w, i32_w]
       rfl
      exact norm_ (by simp only [putAll, Act.put, List.setIfInBounds_toArray, List.set_cons_zero, List.set_cons_succ]) (hCont (gb279) _ ⟨hHeld, (by (with_reducible repeat (first | refine blk_drewN ?_ _ | refine blk_drew ?_ | refine blk_alloc ?_ _)); exact BK249.out), (by (with_reducible repeat (first | refine blk_drewN ?_ _ | refine blk_drew ?_ | refine blk_alloc ?_ _)); exact BK250.out), (by (with_reducible repeat (first | refine blk_drewN ?_ _ | refine blk_drew ?_ | refine blk_alloc ?_ _)); exact BK279.out), GW279.out, GE279.out, NB249_279.out, NB279_249.out, NB250_279.out, NB279_250.out, (by repeat (first | (with_reducible first | exact HB.out | apply below_alloc | apply pw_below_drewN | apply below_drew1 | refine below_set ?_ GE249.out | refine below_set ?_ GE250.out | refine below_set ?_ GE279.out) | exact HB.out))⟩)
    ·
     skip
     refine box_step ?hg (N := 5) ?hd (cs := #[.int .i64 0, .int .i64 0, .int .i64 0, .int .i64 0, .int .i64 0, .int .i64 0, .int .i64 0, .int .i64 0, .int .i64 0, .int .i64 0]) (t := 37) ?hr ?_; (case hd => rfl); (case hg => rfl); (case hr => first | (go_simp; done) | (go_simp; rfl))
     intro gb279 hg w15 hbox hb
     have n0_ := Aside0.mk (blk_below_u BK249.out hb)
     have n1_ := Aside0.mk (blk_below_u BK250.out hb)
     have n2_ := Aside0.mk (below_step (by repeat (first | (with_reducible first | exact HB.out | apply below_alloc | apply pw_below_drewN | apply below_drew1 | refine below_set ?_ GE249.out | refine below_set ?_ GE250.out) | exact HB.out)) hb)
     have n3_ := Aside0.mk (hbox)
     have n4_ := Aside0.mk ((by rw [hg]; exact (below_size (by repeat (first | (with_reducible first | exact HB.out | apply below_alloc | apply pw_below_drewN | apply below_drew1 | refine below_set ?_ GE249.out | refine below_set ?_ GE250.out) | exact HB.out))) : w.heap.size ≤ gb279))
     have n5_ := Aside0.mk ((by rw [hg]; exact (below_size (by repeat (first | (with_reducible first | exact HB.out | apply below_alloc | apply pw_below_drewN | apply below_drew1 | refine below_set ?_ GE249.out | refine below_set ?_ GE250.out) | exact HB.out))) : w.heap.size ≤ gb279))
     have n6_ := Aside0.mk ((by rw [hg]; exact Nat.ne_of_lt (blk_lt_u BK249.out) : gb249 ≠ gb279))
     have n7_ := Aside0.mk ((by rw [hg]; exact Nat.ne_of_gt (blk_lt_u BK249.out) : gb279 ≠ gb249))
     have n8_ := Aside0.mk ((by rw [hg]; exact Nat.ne_of_lt (blk_lt_u BK250.out) : gb250 ≠ gb279))
     have n9_ := Aside0.mk ((by rw [hg]; exact Nat.ne_of_gt (blk_lt_u BK250.out) : gb279 ≠ gb250))
     clear BK249
     clear BK250
     clear HB
     have BK249 := n0_
     have BK250 := n1_
     have HB := n2_
     have BK279 := n3_
     have GW279 := n4_
     have GE279 := n5_
     have NB249_279 := n6_
     have NB279_249 := n7_
     have NB250_279 := n8_
     have NB279_250 := n9_
     clear n0_ n1_ n2_ n3_ n4_ n5_ n6_ n7_ n8_ n9_
     clear hb hbox hg
     refine hK.out _ _ ⟨(blk_cell BK249.out 0).trans rfl, (blk_cell BK249.out 1).trans rfl, (blk_cell BK249.out 2).trans rfl, (blk_cell BK249.out 3).trans rfl, (blk_cell BK249.out 4).trans rfl, (blk_cell BK249.out 5).trans rfl, (blk_cell BK249.out 6).trans rfl, (blk_cell BK249.out 7).trans rfl, (blk_cell BK249.out 8).trans rfl, (blk_cell BK250.out 0).trans rfl, (blk_cell BK250.out 1).trans rfl, (blk_cell BK250.out 2).trans rfl, (blk_cell BK250.out 3).trans rfl, (blk_cell BK250.out 4).trans rfl, (blk_cell BK250.out 5).trans rfl, (blk_cell BK250.out 6).trans rfl, (blk_cell BK250.out 7).trans rfl, (blk_cell BK250.out 8).trans rfl⟩ (fun hHeld => ?_)
     clear hK K
     refine norm_ (a' := ?_) ?_ ?_
     rotate_left
     ·
      show Act.put _ (some 5) _ = _
      simp only [Act.put, List.setIfInBounds_toArray, List.set_cons_zero, List.set_cons_succ, i64_w, i32_w]
      rfl
     refine one_ (i := 3) (N := some 10) #[true, true, true, true, false, true, false] rfl rfl (by kernel_rfl) (by decide) (fun K hK => ?_)
     refine goes_ Try.func21 (by kernel_rfl) rfl #[.agg #[.int .i64 a1_0, .int .i64 a1_1, .int .i64 a1_2, .int .i64 a1_3, .int .i64 a1_4, .int .i64 a1_5, .int .i64 a1_6, .int .i64 a1_7, .int .i64 a1_8]] (by rfl) rfl rfl (by (try simp only [List.map_toArray, List.map_cons, List.map_nil]); first | done | rfl | (simp only [List.length_drop, List.length_take]; rfl)) ?_
     with_reducible refine (laws_toSel.calls a1_0 a1_1 a1_2 a1_3 a1_4 a1_5 a1_6 a1_7 a1_8 t260 t261 t262 t263 t264 t265 t266 t267 t268 _ A4.out).mono ?_
     rintro e w16 ⟨rfl, hb⟩
     refine ⟨_, rfl, ?_⟩
     have n0_ := Aside0.mk (blk_below_u BK249.out hb)
     have n1_ := Aside0.mk (blk_below_u BK250.out hb)
     have n2_ := Aside0.mk (blk_below_u BK279.out hb)
     have n3_ := Aside0.mk (below_step (by repeat (first | (with_reducible first | exact HB.out | apply below_alloc | apply pw_below_drewN | apply below_drew1 | refine below_set ?_ GE249.out | refine below_set ?_ GE250.out | refine below_set ?_ GE279.out) | exact HB.out)) hb)
     clear BK249
     clear BK250
     clear BK279
     clear HB
     have BK249 := n0_
     have BK250 := n1_
     have BK279 := n2_
     have HB := n3_
     clear n0_ n1_ n2_ n3_
     (try clear hb)
     (try clear hb2)
     (try clear hk)
     (try clear hi)
     refine hK.out _ _ ⟨(blk_cell BK249.out 0).trans rfl, (blk_cell BK249.out 1).trans rfl, (blk_cell BK249.out 2).trans rfl, (blk_cell BK249.out 3).trans rfl, (blk_cell BK249.out 4).trans rfl, (blk_cell BK249.out 5).trans rfl, (blk_cell BK249.out 6).trans rfl, (blk_cell BK249.out 7).trans rfl, (blk_cell BK249.out 8).trans rfl, (blk_cell BK250.out 0).trans rfl, (blk_cell BK250.out 1).trans rfl, (blk_cell BK250.out 2).trans rfl, (blk_cell BK250.out 3).trans rfl, (blk_cell BK250.out 4).trans rfl, (blk_cell BK250.out 5).trans rfl, (blk_cell BK250.out 6).trans rfl, (blk_cell BK250.out 7).trans rfl, (blk_cell BK250.out 8).trans rfl⟩ (fun hHeld => ?_)
     clear hK K
     refine norm_ (a' := ?_) ?_ ?_
     rotate_left
     ·
      show Act.put _ (some 10) _ = _
      simp only [Act.put, List.setIfInBounds_toArray, List.set_cons_zero, List.set_cons_succ, i64_w, i32_w]
      rfl
     refine one_ (i := 4) (N := some 11) #[true, true, true, true, true, true, false] rfl rfl (by kernel_rfl) (by decide) (fun K hK => ?_)
     refine goes_ Try.func65 (by kernel_rfl) rfl #[.agg #[.int .i64 t251, .int .i64 t252, .int .i64 t253, .int .i64 t254, .int .i64 t255, .int .i64 t256, .int .i64 t257, .int .i64 t258, .int .i64 t259], .agg #[.int .i64 t260, .int .i64 t261, .int .i64 t262, .int .i64 t263, .int .i64 t264, .int .i64 t265, .int .i64 t266, .int .i64 t267, .int .i64 t268]] (by rfl) rfl rfl (by (try simp only [List.map_toArray, List.map_cons, List.map_nil]); first | done | rfl | (simp only [List.length_drop, List.length_take]; rfl)) ?_
     with_reducible refine (spec_MeetSels.calls k t251 t252 t253 t254 t255 t256 t257 t258 t259 t260 t261 t262 t263 t264 t265 t266 t267 t268 t269 t270 t271 t272 t273 t274 t275 t276 t277 t278 _ A5.out).mono ?_
     rintro e w17 ⟨rfl, hb⟩
     refine ⟨_, rfl, ?_⟩
     have n0_ := Aside0.mk (blk_below_u BK249.out hb)
     have n1_ := Aside0.mk (blk_below_u BK250.out hb)
     have n2_ := Aside0.mk (blk_below_u BK279.out hb)
     have n3_ := Aside0.mk (below_step (by repeat (first | (with_reducible first | exact HB.out | apply below_alloc | apply pw_below_drewN | apply below_drew1 | refine below_set ?_ GE249.out | refine below_set ?_ GE250.out | refine below_set ?_ GE279.out) | exact HB.out)) hb)
     clear BK249
     clear BK250
     clear BK279
     clear HB
     have BK249 := n0_
     have BK250 := n1_
     have BK279 := n2_
     have HB := n3_
     clear n0_ n1_ n2_ n3_
     (try clear hb)
     (try clear hb2)
     (try clear hk)
     (try clear hi)
     refine hK.out _ _ ⟨(blk_cell BK249.out 0).trans rfl, (blk_cell BK249.out 1).trans rfl, (blk_cell BK249.out 2).trans rfl, (blk_cell BK249.out 3).trans rfl, (blk_cell BK249.out 4).trans rfl, (blk_cell BK249.out 5).trans rfl, (blk_cell BK249.out 6).trans rfl, (blk_cell BK249.out 7).trans rfl, (blk_cell BK249.out 8).trans rfl, (blk_cell BK250.out 0).trans rfl, (blk_cell BK250.out 1).trans rfl, (blk_cell BK250.out 2).trans rfl, (blk_cell BK250.out 3).trans rfl, (blk_cell BK250.out 4).trans rfl, (blk_cell BK250.out 5).trans rfl, (blk_cell BK250.out 6).trans rfl, (blk_cell BK250.out 7).trans rfl, (blk_cell BK250.out 8).trans rfl⟩ (fun hHeld => ?_)
     clear hK K
     refine norm_ (a' := ?_) ?_ ?_
     rotate_left
     ·
      show Act.put _ (some 11) _ = _
      simp only [Act.put, List.setIfInBounds_toArray, List.set_cons_zero, List.set_cons_succ, i64_w, i32_w]
      rfl
     exact norm_ (by simp only [putAll, Act.put, List.setIfInBounds_toArray, List.set_cons_zero, List.set_cons_succ]) (hCont (gb279) _ ⟨hHeld, (by (with_reducible repeat (first | refine blk_drewN ?_ _ | refine blk_drew ?_ | refine blk_alloc ?_ _)); exact BK249.out), (by (with_reducible repeat (first | refine blk_drewN ?_ _ | refine blk_drew ?_ | refine blk_alloc ?_ _)); exact BK250.out), (by (with_reducible repeat (first | refine blk_drewN ?_ _ | refine blk_drew ?_ | refine blk_alloc ?_ _)); exact BK279.out), GW279.out, GE279.out, NB249_279.out, NB279_249.out, NB250_279.out, NB279_250.out, (by repeat (first | (with_reducible first | exact HB.out | apply below_alloc | apply pw_below_drewN | apply below_drew1 | refine below_set ?_ GE249.out | refine below_set ?_ GE250.out | refine below_set ?_ GE279.out) | exact HB.out))⟩)
   ·
    skip
    refine box_step ?hg (N := 5) ?hd (cs := #[.int .i64 0, .int .i64 0, .int .i64 0, .int .i64 0, .int .i64 0, .int .i64 0, .int .i64 0, .int .i64 0, .int .i64 0, .int .i64 0]) (t := 37) ?hr ?_; (case hd => rfl); (case hg => rfl); (case hr => first | (go_simp; done) | (go_simp; rfl))
    intro gb279 hg w14 hbox hb
    have n0_ := Aside0.mk (blk_below_u BK249.out hb)
    have n1_ := Aside0.mk (blk_below_u BK250.out hb)
    have n2_ := Aside0.mk (below_step (by repeat (first | (with_reducible first | exact HB.out | apply below_alloc | apply pw_below_drewN | apply below_drew1 | refine below_set ?_ GE249.out | refine below_set ?_ GE250.out) | exact HB.out)) hb)
    have n3_ := Aside0.mk (hbox)
    have n4_ := Aside0.mk ((by rw [hg]; exact (below_size (by repeat (first | (with_reducible first | exact HB.out | apply below_alloc | apply pw_below_drewN | apply below_drew1 | refine below_set ?_ GE249.out | refine below_set ?_ GE250.out) | exact HB.out))) : w.heap.size ≤ gb279))
    have n5_ := Aside0.mk ((by rw [hg]; exact (below_size (by repeat (first | (with_reducible first | exact HB.out | apply below_alloc | apply pw_below_drewN | apply below_drew1 | refine below_set ?_ GE249.out | refine below_set ?_ GE250.out) | exact HB.out))) : w.heap.size ≤ gb279))
    have n6_ := Aside0.mk ((by rw [hg]; exact Nat.ne_of_lt (blk_lt_u BK249.out) : gb249 ≠ gb279))
    have n7_ := Aside0.mk ((by rw [hg]; exact Nat.ne_of_gt (blk_lt_u BK249.out) : gb279 ≠ gb249))
    have n8_ := Aside0.mk ((by rw [hg]; exact Nat.ne_of_lt (blk_lt_u BK250.out) : gb250 ≠ gb279))
    have n9_ := Aside0.mk ((by rw [hg]; exact Nat.ne_of_gt (blk_lt_u BK250.out) : gb279 ≠ gb250))
    clear BK249
    clear BK250
    clear HB
    have BK249 := n0_
    have BK250 := n1_
    have HB := n2_
    have BK279 := n3_
    have GW279 := n4_
    have GE279 := n5_
    have NB249_279 := n6_
    have NB279_249 := n7_
    have NB250_279 := n8_
    have NB279_250 := n9_
    clear n0_ n1_ n2_ n3_ n4_ n5_ n6_ n7_ n8_ n9_
    clear hb hbox hg
    refine hK.out _ _ ⟨(blk_cell BK249.out 0).trans rfl, (blk_cell BK249.out 1).trans rfl, (blk_cell BK249.out 2).trans rfl, (blk_cell BK249.out 3).trans rfl, (blk_cell BK249.out 4).trans rfl, (blk_cell BK249.out 5).trans rfl, (blk_cell BK249.out 6).trans rfl, (blk_cell BK249.out 7).trans rfl, (blk_cell BK249.out 8).trans rfl, (blk_cell BK250.out 0).trans rfl, (blk_cell BK250.out 1).trans rfl, (blk_cell BK250.out 2).trans rfl, (blk_cell BK250.out 3).trans rfl, (blk_cell BK250.out 4).trans rfl, (blk_cell BK250.out 5).trans rfl, (blk_cell BK250.out 6).trans rfl, (blk_cell BK250.out 7).trans rfl, (blk_cell BK250.out 8).trans rfl⟩ (fun hHeld => ?_)
    clear hK K
    refine norm_ (a' := ?_) ?_ ?_
    rotate_left
    ·
     show Act.put _ (some 5) _ = _
     simp only [Act.put, List.setIfInBounds_toArray, List.set_cons_zero, List.set_cons_succ, i64_w, i32_w]
     rfl
    refine one_ (i := 1) (N := some 8) #[true, true, true, false, false, true, false] rfl rfl (by kernel_rfl) (by decide) (fun K hK => ?_)
    refine goes_ Try.func21 (by kernel_rfl) rfl #[.agg #[.int .i64 a0_0, .int .i64 a0_1, .int .i64 a0_2, .int .i64 a0_3, .int .i64 a0_4, .int .i64 a0_5, .int .i64 a0_6, .int .i64 a0_7, .int .i64 a0_8]] (by rfl) rfl rfl (by (try simp only [List.map_toArray, List.map_cons, List.map_nil]); first | done | rfl | (simp only [List.length_drop, List.length_take]; rfl)) ?_
    with_reducible refine (laws_toSel.calls a0_0 a0_1 a0_2 a0_3 a0_4 a0_5 a0_6 a0_7 a0_8 t251 t252 t253 t254 t255 t256 t257 t258 t259 _ A3.out).mono ?_
    rintro e w15 ⟨rfl, hb⟩
    refine ⟨_, rfl, ?_⟩
    have n0_ := Aside0.mk (blk_below_u BK249.out hb)
    have n1_ := Aside0.mk (blk_below_u BK250.out hb)
    have n2_ := Aside0.mk (blk_below_u BK279.out hb)
    have n3_ := Aside0.mk (below_step (by repeat (first | (with_reducible first | exact HB.out | apply below_alloc | apply pw_below_drewN | apply below_drew1 | refine below_set ?_ GE249.out | refine below_set ?_ GE250.out | refine below_set ?_ GE279.out) | exact HB.out)) hb)
    clear BK249
    clear BK250
    clear BK279
    clear HB
    have BK249 := n0_
    have BK250 := n1_
    have BK279 := n2_
    have HB := n3_
    clear n0_ n1_ n2_ n3_
    (try clear hb)
    (try clear hb2)
    (try clear hk)
    (try clear hi)
    refine hK.out _ _ ⟨(blk_cell BK249.out 0).trans rfl, (blk_cell BK249.out 1).trans rfl, (blk_cell BK249.out 2).trans rfl, (blk_cell BK249.out 3).trans rfl, (blk_cell BK249.out 4).trans rfl, (blk_cell BK249.out 5).trans rfl, (blk_cell BK249.out 6).trans rfl, (blk_cell BK249.out 7).trans rfl, (blk_cell BK249.out 8).trans rfl, (blk_cell BK250.out 0).trans rfl, (blk_cell BK250.out 1).trans rfl, (blk_cell BK250.out 2).trans rfl, (blk_cell BK250.out 3).trans rfl, (blk_cell BK250.out 4).trans rfl, (blk_cell BK250.out 5).trans rfl, (blk_cell BK250.out 6).trans rfl, (blk_cell BK250.out 7).trans rfl, (blk_cell BK250.out 8).trans rfl⟩ (fun hHeld => ?_)
    clear hK K
    refine norm_ (a' := ?_) ?_ ?_
    rotate_left
    ·
     show Act.put _ (some 8) _ = _
     simp only [Act.put, List.setIfInBounds_toArray, List.set_cons_zero, List.set_cons_succ, i64_w, i32_w]
     rfl
    refine one_ (i := 3) (N := some 10) #[true, true, true, true, false, true, false] rfl rfl (by kernel_rfl) (by decide) (fun K hK => ?_)
    refine goes_ Try.func21 (by kernel_rfl) rfl #[.agg #[.int .i64 a1_0, .int .i64 a1_1, .int .i64 a1_2, .int .i64 a1_3, .int .i64 a1_4, .int .i64 a1_5, .int .i64 a1_6, .int .i64 a1_7, .int .i64 a1_8]] (by rfl) rfl rfl (by (try simp only [List.map_toArray, List.map_cons, List.map_nil]); first | done | rfl | (simp only [List.length_drop, List.length_take]; rfl)) ?_
    with_reducible refine (laws_toSel.calls a1_0 a1_1 a1_2 a1_3 a1_4 a1_5 a1_6 a1_7 a1_8 t260 t261 t262 t263 t264 t265 t266 t267 t268 _ A4.out).mono ?_
    rintro e w16 ⟨rfl, hb⟩
    refine ⟨_, rfl, ?_⟩
    have n0_ := Aside0.mk (blk_below_u BK249.out hb)
    have n1_ := Aside0.mk (blk_below_u BK250.out hb)
    have n2_ := Aside0.mk (blk_below_u BK279.out hb)
    have n3_ := Aside0.mk (below_step (by repeat (first | (with_reducible first | exact HB.out | apply below_alloc | apply pw_below_drewN | apply below_drew1 | refine below_set ?_ GE249.out | refine below_set ?_ GE250.out | refine below_set ?_ GE279.out) | exact HB.out)) hb)
    clear BK249
    clear BK250
    clear BK279
    clear HB
    have BK249 := n0_
    have BK250 := n1_
    have BK279 := n2_
    have HB := n3_
    clear n0_ n1_ n2_ n3_
    (try clear hb)
    (try clear hb2)
    (try clear hk)
    (try clear hi)
    refine hK.out _ _ ⟨(blk_cell BK249.out 0).trans rfl, (blk_cell BK249.out 1).trans rfl, (blk_cell BK249.out 2).trans rfl, (blk_cell BK249.out 3).trans rfl, (blk_cell BK249.out 4).trans rfl, (blk_cell BK249.out 5).trans rfl, (blk_cell BK249.out 6).trans rfl, (blk_cell BK249.out 7).trans rfl, (blk_cell BK249.out 8).trans rfl, (blk_cell BK250.out 0).trans rfl, (blk_cell BK250.out 1).trans rfl, (blk_cell BK250.out 2).trans rfl, (blk_cell BK250.out 3).trans rfl, (blk_cell BK250.out 4).trans rfl, (blk_cell BK250.out 5).trans rfl, (blk_cell BK250.out 6).trans rfl, (blk_cell BK250.out 7).trans rfl, (blk_cell BK250.out 8).trans rfl⟩ (fun hHeld => ?_)
    clear hK K
    refine norm_ (a' := ?_) ?_ ?_
    rotate_left
    ·
     show Act.put _ (some 10) _ = _
     simp only [Act.put, List.setIfInBounds_toArray, List.set_cons_zero, List.set_cons_succ, i64_w, i32_w]
     rfl
    refine one_ (i := 4) (N := some 11) #[true, true, true, true, true, true, false] rfl rfl (by kernel_rfl) (by decide) (fun K hK => ?_)
    refine goes_ Try.func65 (by kernel_rfl) rfl #[.agg #[.int .i64 t251, .int .i64 t252, .int .i64 t253, .int .i64 t254, .int .i64 t255, .int .i64 t256, .int .i64 t257, .int .i64 t258, .int .i64 t259], .agg #[.int .i64 t260, .int .i64 t261, .int .i64 t262, .int .i64 t263, .int .i64 t264, .int .i64 t265, .int .i64 t266, .int .i64 t267, .int .i64 t268]] (by rfl) rfl rfl (by (try simp only [List.map_toArray, List.map_cons, List.map_nil]); first | done | rfl | (simp only [List.length_drop, List.length_take]; rfl)) ?_
    with_reducible refine (spec_MeetSels.calls k t251 t252 t253 t254 t255 t256 t257 t258 t259 t260 t261 t262 t263 t264 t265 t266 t267 t268 t269 t270 t271 t272 t273 t274 t275 t276 t277 t278 _ A5.out).mono ?_
    rintro e w17 ⟨rfl, hb⟩
    refine ⟨_, rfl, ?_⟩
    have n0_ := Aside0.mk (blk_below_u BK249.out hb)
    have n1_ := Aside0.mk (blk_below_u BK250.out hb)
    have n2_ := Aside0.mk (blk_below_u BK279.out hb)
    have n3_ := Aside0.mk (below_step (by repeat (first | (with_reducible first | exact HB.out | apply below_alloc | apply pw_below_drewN | apply below_drew1 | refine below_set ?_ GE249.out | refine below_set ?_ GE250.out | refine below_set ?_ GE279.out) | exact HB.out)) hb)
    clear BK249
    clear BK250
    clear BK279
    clear HB
    have BK249 := n0_
    have BK250 := n1_
    have BK279 := n2_
    have HB := n3_
    clear n0_ n1_ n2_ n3_
    (try clear hb)
    (try clear hb2)
    (try clear hk)
    (try clear hi)
    refine hK.out _ _ ⟨(blk_cell BK249.out 0).trans rfl, (blk_cell BK249.out 1).trans rfl, (blk_cell BK249.out 2).trans rfl, (blk_cell BK249.out 3).trans rfl, (blk_cell BK249.out 4).trans rfl, (blk_cell BK249.out 5).trans rfl, (blk_cell BK249.out 6).trans rfl, (blk_cell BK249.out 7).trans rfl, (blk_cell BK249.out 8).trans rfl, (blk_cell BK250.out 0).trans rfl, (blk_cell BK250.out 1).trans rfl, (blk_cell BK250.out 2).trans rfl, (blk_cell BK250.out 3).trans rfl, (blk_cell BK250.out 4).trans rfl, (blk_cell BK250.out 5).trans rfl, (blk_cell BK250.out 6).trans rfl, (blk_cell BK250.out 7).trans rfl, (blk_cell BK250.out 8).trans rfl⟩ (fun hHeld => ?_)
    clear hK K
    refine norm_ (a' := ?_) ?_ ?_
    rotate_left
    ·
     show Act.put _ (some 11) _ = _
     simp only [Act.put, List.setIfInBounds_toArray, List.set_cons_zero, List.set_cons_succ, i64_w, i32_w]
     rfl
    exact norm_ (by simp only [putAll, Act.put, List.setIfInBounds_toArray, List.set_cons_zero, List.set_cons_succ]) (hCont (gb279) _ ⟨hHeld, (by (with_reducible repeat (first | refine blk_drewN ?_ _ | refine blk_drew ?_ | refine blk_alloc ?_ _)); exact BK249.out), (by (with_reducible repeat (first | refine blk_drewN ?_ _ | refine blk_drew ?_ | refine blk_alloc ?_ _)); exact BK250.out), (by (with_reducible repeat (first | refine blk_drewN ?_ _ | refine blk_drew ?_ | refine blk_alloc ?_ _)); exact BK279.out), GW279.out, GE279.out, NB249_279.out, NB279_249.out, NB250_279.out, NB279_250.out, (by repeat (first | (with_reducible first | exact HB.out | apply below_alloc | apply pw_below_drewN | apply below_drew1 | refine below_set ?_ GE249.out | refine below_set ?_ GE250.out | refine below_set ?_ GE279.out) | exact HB.out))⟩)
  rintro gb279 w18 ⟨hS_, h0_, h1_, h2_, h3_, h4_, h5_, h6_, h7_, h8_, h9_⟩
  have n0_ : Aside0 (w18.heap[gb249]? = some (.cells #[.int .i64 a0_0, .int .i64 a0_1, .int .i64 a0_2, .int .i64 a0_3, .int .i64 a0_4, .int .i64 a0_5, .int .i64 a0_6, .int .i64 a0_7, .int .i64 a0_8] 32 (0, 0))) := ⟨h0_⟩
  have n1_ : Aside0 (w18.heap[gb250]? = some (.cells #[.int .i64 a1_0, .int .i64 a1_1, .int .i64 a1_2, .int .i64 a1_3, .int .i64 a1_4, .int .i64 a1_5, .int .i64 a1_6, .int .i64 a1_7, .int .i64 a1_8] 32 (0, 0))) := ⟨h1_⟩
  have n2_ : Aside0 (w18.heap[gb279]? = some (.cells #[.int .i64 0, .int .i64 0, .int .i64 0, .int .i64 0, .int .i64 0, .int .i64 0, .int .i64 0, .int .i64 0, .int .i64 0, .int .i64 0] 37 (0, 0))) := ⟨h2_⟩
  have n3_ : Aside0 (w.heap.size ≤ gb279) := ⟨h3_⟩
  have n4_ : Aside0 (w.heap.size ≤ gb279) := ⟨h4_⟩
  have n5_ : Aside0 (gb249 ≠ gb279) := ⟨h5_⟩
  have n6_ : Aside0 (gb279 ≠ gb249) := ⟨h6_⟩
  have n7_ : Aside0 (gb250 ≠ gb279) := ⟨h7_⟩
  have n8_ : Aside0 (gb279 ≠ gb250) := ⟨h8_⟩
  have n9_ : Aside0 (Below w.heap.size w w18) := ⟨h9_⟩
  clear BK249
  clear BK250
  clear HB
  clear h0_ h1_ h2_ h3_ h4_ h5_ h6_ h7_ h8_ h9_
  have BK249 := n0_
  have BK250 := n1_
  have BK279 := n2_
  have GW279 := n3_
  have GE279 := n4_
  have NB249_279 := n5_
  have NB279_249 := n6_
  have NB250_279 := n7_
  have NB279_250 := n8_
  have HB := n9_
  clear n0_ n1_ n2_ n3_ n4_ n5_ n6_ n7_ n8_ n9_
  have hHeld : w18.cell? ⟨gb249, 0, none⟩ = some (.int .i64 a0_0) ∧ w18.cell? ⟨gb249, 1, none⟩ = some (.int .i64 a0_1) ∧ w18.cell? ⟨gb249, 2, none⟩ = some (.int .i64 a0_2) ∧ w18.cell? ⟨gb249, 3, none⟩ = some (.int .i64 a0_3) ∧ w18.cell? ⟨gb249, 4, none⟩ = some (.int .i64 a0_4) ∧ w18.cell? ⟨gb249, 5, none⟩ = some (.int .i64 a0_5) ∧ w18.cell? ⟨gb249, 6, none⟩ = some (.int .i64 a0_6) ∧ w18.cell? ⟨gb249, 7, none⟩ = some (.int .i64 a0_7) ∧ w18.cell? ⟨gb249, 8, none⟩ = some (.int .i64 a0_8) ∧ w18.cell? ⟨gb250, 0, none⟩ = some (.int .i64 a1_0) ∧ w18.cell? ⟨gb250, 1, none⟩ = some (.int .i64 a1_1) ∧ w18.cell? ⟨gb250, 2, none⟩ = some (.int .i64 a1_2) ∧ w18.cell? ⟨gb250, 3, none⟩ = some (.int .i64 a1_3) ∧ w18.cell? ⟨gb250, 4, none⟩ = some (.int .i64 a1_4) ∧ w18.cell? ⟨gb250, 5, none⟩ = some (.int .i64 a1_5) ∧ w18.cell? ⟨gb250, 6, none⟩ = some (.int .i64 a1_6) ∧ w18.cell? ⟨gb250, 7, none⟩ = some (.int .i64 a1_7) ∧ w18.cell? ⟨gb250, 8, none⟩ = some (.int .i64 a1_8) := hS_
  refine norm_ (a' := ?_) ?_ ?_
  rotate_left
  ·
   simp only [putAll, Act.put, List.setIfInBounds_toArray, List.set_cons_zero, List.set_cons_succ]
   rfl
  refine one_ (i := 6) (N := none) #[true, true, true, true, true, true, true] rfl rfl (by kernel_rfl) (by decide) (fun K hK => ?_)
  have hs19 : w18.cell? ⟨gb279, 0, none⟩ = some (.int .i64 0) := (blk_cell BK279.out 0).trans rfl
  have hfs19 := blk_frozen BK279.out 0
  have hns19_0 := NB249_279.out
  have hns19_1 := NB250_279.out
  have hms19_0 := NB279_249.out
  have hms19_1 := NB279_250.out
  have hs20 : w18.cell? ⟨gb279, 1, none⟩ = some (.int .i64 0) := (blk_cell BK279.out 1).trans rfl
  have hfs20 := blk_frozen BK279.out 1
  have hns20_0 := NB249_279.out
  have hns20_1 := NB250_279.out
  have hms20_0 := NB279_249.out
  have hms20_1 := NB279_250.out
  have hs21 : w18.cell? ⟨gb279, 2, none⟩ = some (.int .i64 0) := (blk_cell BK279.out 2).trans rfl
  have hfs21 := blk_frozen BK279.out 2
  have hns21_0 := NB249_279.out
  have hns21_1 := NB250_279.out
  have hms21_0 := NB279_249.out
  have hms21_1 := NB279_250.out
  have hs22 : w18.cell? ⟨gb279, 3, none⟩ = some (.int .i64 0) := (blk_cell BK279.out 3).trans rfl
  have hfs22 := blk_frozen BK279.out 3
  have hns22_0 := NB249_279.out
  have hns22_1 := NB250_279.out
  have hms22_0 := NB279_249.out
  have hms22_1 := NB279_250.out
  have hs23 : w18.cell? ⟨gb279, 4, none⟩ = some (.int .i64 0) := (blk_cell BK279.out 4).trans rfl
  have hfs23 := blk_frozen BK279.out 4
  have hns23_0 := NB249_279.out
  have hns23_1 := NB250_279.out
  have hms23_0 := NB279_249.out
  have hms23_1 := NB279_250.out
  have hs24 : w18.cell? ⟨gb279, 5, none⟩ = some (.int .i64 0) := (blk_cell BK279.out 5).trans rfl
  have hfs24 := blk_frozen BK279.out 5
  have hns24_0 := NB249_279.out
  have hns24_1 := NB250_279.out
  have hms24_0 := NB279_249.out
  have hms24_1 := NB279_250.out
  have hs25 : w18.cell? ⟨gb279, 6, none⟩ = some (.int .i64 0) := (blk_cell BK279.out 6).trans rfl
  have hfs25 := blk_frozen BK279.out 6
  have hns25_0 := NB249_279.out
  have hns25_1 := NB250_279.out
  have hms25_0 := NB279_249.out
  have hms25_1 := NB279_250.out
  have hs26 : w18.cell? ⟨gb279, 7, none⟩ = some (.int .i64 0) := (blk_cell BK279.out 7).trans rfl
  have hfs26 := blk_frozen BK279.out 7
  have hns26_0 := NB249_279.out
  have hns26_1 := NB250_279.out
  have hms26_0 := NB279_249.out
  have hms26_1 := NB279_250.out
  have hs27 : w18.cell? ⟨gb279, 8, none⟩ = some (.int .i64 0) := (blk_cell BK279.out 8).trans rfl
  have hfs27 := blk_frozen BK279.out 8
  have hns27_0 := NB249_279.out
  have hns27_1 := NB250_279.out
  have hms27_0 := NB279_249.out
  have hms27_1 := NB279_250.out
  have hs28 : w18.cell? ⟨gb279, 9, none⟩ = some (.int .i64 0) := (blk_cell BK279.out 9).trans rfl
  have hfs28 := blk_frozen BK279.out 9
  have hns28_0 := NB249_279.out
  have hns28_1 := NB250_279.out
  have hms28_0 := NB279_249.out
  have hms28_1 := NB279_250.out
  refine skip_ (w1 := ?_) (by rfl) rfl ?_ ?_
  rotate_left
  ·
   go_simp
   rfl
  refine hK.out _ _ ⟨((cell_far (p := ⟨gb279, _, none⟩) NB249_279.out _).trans (((cell_far (p := ⟨gb279, _, none⟩) NB249_279.out _).trans (((cell_far (p := ⟨gb279, _, none⟩) NB249_279.out _).trans (((cell_far (p := ⟨gb279, _, none⟩) NB249_279.out _).trans (((cell_far (p := ⟨gb279, _, none⟩) NB249_279.out _).trans (((cell_far (p := ⟨gb279, _, none⟩) NB249_279.out _).trans (((cell_far (p := ⟨gb279, _, none⟩) NB249_279.out _).trans (((cell_far (p := ⟨gb279, _, none⟩) NB249_279.out _).trans (((cell_far (p := ⟨gb279, _, none⟩) NB249_279.out _).trans (((cell_far (p := ⟨gb279, _, none⟩) NB249_279.out _).trans (hHeld.1)))))))))))))))))))), ((cell_far (p := ⟨gb279, _, none⟩) NB249_279.out _).trans (((cell_far (p := ⟨gb279, _, none⟩) NB249_279.out _).trans (((cell_far (p := ⟨gb279, _, none⟩) NB249_279.out _).trans (((cell_far (p := ⟨gb279, _, none⟩) NB249_279.out _).trans (((cell_far (p := ⟨gb279, _, none⟩) NB249_279.out _).trans (((cell_far (p := ⟨gb279, _, none⟩) NB249_279.out _).trans (((cell_far (p := ⟨gb279, _, none⟩) NB249_279.out _).trans (((cell_far (p := ⟨gb279, _, none⟩) NB249_279.out _).trans (((cell_far (p := ⟨gb279, _, none⟩) NB249_279.out _).trans (((cell_far (p := ⟨gb279, _, none⟩) NB249_279.out _).trans (hHeld.2.1)))))))))))))))))))), ((cell_far (p := ⟨gb279, _, none⟩) NB249_279.out _).trans (((cell_far (p := ⟨gb279, _, none⟩) NB249_279.out _).trans (((cell_far (p := ⟨gb279, _, none⟩) NB249_279.out _).trans (((cell_far (p := ⟨gb279, _, none⟩) NB249_279.out _).trans (((cell_far (p := ⟨gb279, _, none⟩) NB249_279.out _).trans (((cell_far (p := ⟨gb279, _, none⟩) NB249_279.out _).trans (((cell_far (p := ⟨gb279, _, none⟩) NB249_279.out _).trans (((cell_far (p := ⟨gb279, _, none⟩) NB249_279.out _).trans (((cell_far (p := ⟨gb279, _, none⟩) NB249_279.out _).trans (((cell_far (p := ⟨gb279, _, none⟩) NB249_279.out _).trans (hHeld.2.2.1)))))))))))))))))))), ((cell_far (p := ⟨gb279, _, none⟩) NB249_279.out _).trans (((cell_far (p := ⟨gb279, _, none⟩) NB249_279.out _).trans (((cell_far (p := ⟨gb279, _, none⟩) NB249_279.out _).trans (((cell_far (p := ⟨gb279, _, none⟩) NB249_279.out _).trans (((cell_far (p := ⟨gb279, _, none⟩) NB249_279.out _).trans (((cell_far (p := ⟨gb279, _, none⟩) NB249_279.out _).trans (((cell_far (p := ⟨gb279, _, none⟩) NB249_279.out _).trans (((cell_far (p := ⟨gb279, _, none⟩) NB249_279.out _).trans (((cell_far (p := ⟨gb279, _, none⟩) NB249_279.out _).trans (((cell_far (p := ⟨gb279, _, none⟩) NB249_279.out _).trans (hHeld.2.2.2.1)))))))))))))))))))), ((cell_far (p := ⟨gb279, _, none⟩) NB249_279.out _).trans (((cell_far (p := ⟨gb279, _, none⟩) NB249_279.out _).trans (((cell_far (p := ⟨gb279, _, none⟩) NB249_279.out _).trans (((cell_far (p := ⟨gb279, _, none⟩) NB249_279.out _).trans (((cell_far (p := ⟨gb279, _, none⟩) NB249_279.out _).trans (((cell_far (p := ⟨gb279, _, none⟩) NB249_279.out _).trans (((cell_far (p := ⟨gb279, _, none⟩) NB249_279.out _).trans (((cell_far (p := ⟨gb279, _, none⟩) NB249_279.out _).trans (((cell_far (p := ⟨gb279, _, none⟩) NB249_279.out _).trans (((cell_far (p := ⟨gb279, _, none⟩) NB249_279.out _).trans (hHeld.2.2.2.2.1)))))))))))))))))))), ((cell_far (p := ⟨gb279, _, none⟩) NB249_279.out _).trans (((cell_far (p := ⟨gb279, _, none⟩) NB249_279.out _).trans (((cell_far (p := ⟨gb279, _, none⟩) NB249_279.out _).trans (((cell_far (p := ⟨gb279, _, none⟩) NB249_279.out _).trans (((cell_far (p := ⟨gb279, _, none⟩) NB249_279.out _).trans (((cell_far (p := ⟨gb279, _, none⟩) NB249_279.out _).trans (((cell_far (p := ⟨gb279, _, none⟩) NB249_279.out _).trans (((cell_far (p := ⟨gb279, _, none⟩) NB249_279.out _).trans (((cell_far (p := ⟨gb279, _, none⟩) NB249_279.out _).trans (((cell_far (p := ⟨gb279, _, none⟩) NB249_279.out _).trans (hHeld.2.2.2.2.2.1)))))))))))))))))))), ((cell_far (p := ⟨gb279, _, none⟩) NB249_279.out _).trans (((cell_far (p := ⟨gb279, _, none⟩) NB249_279.out _).trans (((cell_far (p := ⟨gb279, _, none⟩) NB249_279.out _).trans (((cell_far (p := ⟨gb279, _, none⟩) NB249_279.out _).trans (((cell_far (p := ⟨gb279, _, none⟩) NB249_279.out _).trans (((cell_far (p := ⟨gb279, _, none⟩) NB249_279.out _).trans (((cell_far (p := ⟨gb279, _, none⟩) NB249_279.out _).trans (((cell_far (p := ⟨gb279, _, none⟩) NB249_279.out _).trans (((cell_far (p := ⟨gb279, _, none⟩) NB249_279.out _).trans (((cell_far (p := ⟨gb279, _, none⟩) NB249_279.out _).trans (hHeld.2.2.2.2.2.2.1)))))))))))))))))))), ((cell_far (p := ⟨gb279, _, none⟩) NB249_279.out _).trans (((cell_far (p := ⟨gb279, _, none⟩) NB249_279.out _).trans (((cell_far (p := ⟨gb279, _, none⟩) NB249_279.out _).trans (((cell_far (p := ⟨gb279, _, none⟩) NB249_279.out _).trans (((cell_far (p := ⟨gb279, _, none⟩) NB249_279.out _).trans (((cell_far (p := ⟨gb279, _, none⟩) NB249_279.out _).trans (((cell_far (p := ⟨gb279, _, none⟩) NB249_279.out _).trans (((cell_far (p := ⟨gb279, _, none⟩) NB249_279.out _).trans (((cell_far (p := ⟨gb279, _, none⟩) NB249_279.out _).trans (((cell_far (p := ⟨gb279, _, none⟩) NB249_279.out _).trans (hHeld.2.2.2.2.2.2.2.1)))))))))))))))))))), ((cell_far (p := ⟨gb279, _, none⟩) NB249_279.out _).trans (((cell_far (p := ⟨gb279, _, none⟩) NB249_279.out _).trans (((cell_far (p := ⟨gb279, _, none⟩) NB249_279.out _).trans (((cell_far (p := ⟨gb279, _, none⟩) NB249_279.out _).trans (((cell_far (p := ⟨gb279, _, none⟩) NB249_279.out _).trans (((cell_far (p := ⟨gb279, _, none⟩) NB249_279.out _).trans (((cell_far (p := ⟨gb279, _, none⟩) NB249_279.out _).trans (((cell_far (p := ⟨gb279, _, none⟩) NB249_279.out _).trans (((cell_far (p := ⟨gb279, _, none⟩) NB249_279.out _).trans (((cell_far (p := ⟨gb279, _, none⟩) NB249_279.out _).trans (hHeld.2.2.2.2.2.2.2.2.1)))))))))))))))))))), ((cell_far (p := ⟨gb279, _, none⟩) NB250_279.out _).trans (((cell_far (p := ⟨gb279, _, none⟩) NB250_279.out _).trans (((cell_far (p := ⟨gb279, _, none⟩) NB250_279.out _).trans (((cell_far (p := ⟨gb279, _, none⟩) NB250_279.out _).trans (((cell_far (p := ⟨gb279, _, none⟩) NB250_279.out _).trans (((cell_far (p := ⟨gb279, _, none⟩) NB250_279.out _).trans (((cell_far (p := ⟨gb279, _, none⟩) NB250_279.out _).trans (((cell_far (p := ⟨gb279, _, none⟩) NB250_279.out _).trans (((cell_far (p := ⟨gb279, _, none⟩) NB250_279.out _).trans (((cell_far (p := ⟨gb279, _, none⟩) NB250_279.out _).trans (hHeld.2.2.2.2.2.2.2.2.2.1)))))))))))))))))))), ((cell_far (p := ⟨gb279, _, none⟩) NB250_279.out _).trans (((cell_far (p := ⟨gb279, _, none⟩) NB250_279.out _).trans (((cell_far (p := ⟨gb279, _, none⟩) NB250_279.out _).trans (((cell_far (p := ⟨gb279, _, none⟩) NB250_279.out _).trans (((cell_far (p := ⟨gb279, _, none⟩) NB250_279.out _).trans (((cell_far (p := ⟨gb279, _, none⟩) NB250_279.out _).trans (((cell_far (p := ⟨gb279, _, none⟩) NB250_279.out _).trans (((cell_far (p := ⟨gb279, _, none⟩) NB250_279.out _).trans (((cell_far (p := ⟨gb279, _, none⟩) NB250_279.out _).trans (((cell_far (p := ⟨gb279, _, none⟩) NB250_279.out _).trans (hHeld.2.2.2.2.2.2.2.2.2.2.1)))))))))))))))))))), ((cell_far (p := ⟨gb279, _, none⟩) NB250_279.out _).trans (((cell_far (p := ⟨gb279, _, none⟩) NB250_279.out _).trans (((cell_far (p := ⟨gb279, _, none⟩) NB250_279.out _).trans (((cell_far (p := ⟨gb279, _, none⟩) NB250_279.out _).trans (((cell_far (p := ⟨gb279, _, none⟩) NB250_279.out _).trans (((cell_far (p := ⟨gb279, _, none⟩) NB250_279.out _).trans (((cell_far (p := ⟨gb279, _, none⟩) NB250_279.out _).trans (((cell_far (p := ⟨gb279, _, none⟩) NB250_279.out _).trans (((cell_far (p := ⟨gb279, _, none⟩) NB250_279.out _).trans (((cell_far (p := ⟨gb279, _, none⟩) NB250_279.out _).trans (hHeld.2.2.2.2.2.2.2.2.2.2.2.1)))))))))))))))))))), ((cell_far (p := ⟨gb279, _, none⟩) NB250_279.out _).trans (((cell_far (p := ⟨gb279, _, none⟩) NB250_279.out _).trans (((cell_far (p := ⟨gb279, _, none⟩) NB250_279.out _).trans (((cell_far (p := ⟨gb279, _, none⟩) NB250_279.out _).trans (((cell_far (p := ⟨gb279, _, none⟩) NB250_279.out _).trans (((cell_far (p := ⟨gb279, _, none⟩) NB250_279.out _).trans (((cell_far (p := ⟨gb279, _, none⟩) NB250_279.out _).trans (((cell_far (p := ⟨gb279, _, none⟩) NB250_279.out _).trans (((cell_far (p := ⟨gb279, _, none⟩) NB250_279.out _).trans (((cell_far (p := ⟨gb279, _, none⟩) NB250_279.out _).trans (hHeld.2.2.2.2.2.2.2.2.2.2.2.2.1)))))))))))))))))))), ((cell_far (p := ⟨gb279, _, none⟩) NB250_279.out _).trans (((cell_far (p := ⟨gb279, _, none⟩) NB250_279.out _).trans (((cell_far (p := ⟨gb279, _, none⟩) NB250_279.out _).trans (((cell_far (p := ⟨gb279, _, none⟩) NB250_279.out _).trans (((cell_far (p := ⟨gb279, _, none⟩) NB250_279.out _).trans (((cell_far (p := ⟨gb279, _, none⟩) NB250_279.out _).trans (((cell_far (p := ⟨gb279, _, none⟩) NB250_279.out _).trans (((cell_far (p := ⟨gb279, _, none⟩) NB250_279.out _).trans (((cell_far (p := ⟨gb279, _, none⟩) NB250_279.out _).trans (((cell_far (p := ⟨gb279, _, none⟩) NB250_279.out _).trans (hHeld.2.2.2.2.2.2.2.2.2.2.2.2.2.1)))))))))))))))))))), ((cell_far (p := ⟨gb279, _, none⟩) NB250_279.out _).trans (((cell_far (p := ⟨gb279, _, none⟩) NB250_279.out _).trans (((cell_far (p := ⟨gb279, _, none⟩) NB250_279.out _).trans (((cell_far (p := ⟨gb279, _, none⟩) NB250_279.out _).trans (((cell_far (p := ⟨gb279, _, none⟩) NB250_279.out _).trans (((cell_far (p := ⟨gb279, _, none⟩) NB250_279.out _).trans (((cell_far (p := ⟨gb279, _, none⟩) NB250_279.out _).trans (((cell_far (p := ⟨gb279, _, none⟩) NB250_279.out _).trans (((cell_far (p := ⟨gb279, _, none⟩) NB250_279.out _).trans (((cell_far (p := ⟨gb279, _, none⟩) NB250_279.out _).trans (hHeld.2.2.2.2.2.2.2.2.2.2.2.2.2.2.1)))))))))))))))))))), ((cell_far (p := ⟨gb279, _, none⟩) NB250_279.out _).trans (((cell_far (p := ⟨gb279, _, none⟩) NB250_279.out _).trans (((cell_far (p := ⟨gb279, _, none⟩) NB250_279.out _).trans (((cell_far (p := ⟨gb279, _, none⟩) NB250_279.out _).trans (((cell_far (p := ⟨gb279, _, none⟩) NB250_279.out _).trans (((cell_far (p := ⟨gb279, _, none⟩) NB250_279.out _).trans (((cell_far (p := ⟨gb279, _, none⟩) NB250_279.out _).trans (((cell_far (p := ⟨gb279, _, none⟩) NB250_279.out _).trans (((cell_far (p := ⟨gb279, _, none⟩) NB250_279.out _).trans (((cell_far (p := ⟨gb279, _, none⟩) NB250_279.out _).trans (hHeld.2.2.2.2.2.2.2.2.2.2.2.2.2.2.2.1)))))))))))))))))))), ((cell_far (p := ⟨gb279, _, none⟩) NB250_279.out _).trans (((cell_far (p := ⟨gb279, _, none⟩) NB250_279.out _).trans (((cell_far (p := ⟨gb279, _, none⟩) NB250_279.out _).trans (((cell_far (p := ⟨gb279, _, none⟩) NB250_279.out _).trans (((cell_far (p := ⟨gb279, _, none⟩) NB250_279.out _).trans (((cell_far (p := ⟨gb279, _, none⟩) NB250_279.out _).trans (((cell_far (p := ⟨gb279, _, none⟩) NB250_279.out _).trans (((cell_far (p := ⟨gb279, _, none⟩) NB250_279.out _).trans (((cell_far (p := ⟨gb279, _, none⟩) NB250_279.out _).trans (((cell_far (p := ⟨gb279, _, none⟩) NB250_279.out _).trans (hHeld.2.2.2.2.2.2.2.2.2.2.2.2.2.2.2.2.1)))))))))))))))))))), ((cell_far (p := ⟨gb279, _, none⟩) NB250_279.out _).trans (((cell_far (p := ⟨gb279, _, none⟩) NB250_279.out _).trans (((cell_far (p := ⟨gb279, _, none⟩) NB250_279.out _).trans (((cell_far (p := ⟨gb279, _, none⟩) NB250_279.out _).trans (((cell_far (p := ⟨gb279, _, none⟩) NB250_279.out _).trans (((cell_far (p := ⟨gb279, _, none⟩) NB250_279.out _).trans (((cell_far (p := ⟨gb279, _, none⟩) NB250_279.out _).trans (((cell_far (p := ⟨gb279, _, none⟩) NB250_279.out _).trans (((cell_far (p := ⟨gb279, _, none⟩) NB250_279.out _).trans (((cell_far (p := ⟨gb279, _, none⟩) NB250_279.out _).trans (hHeld.2.2.2.2.2.2.2.2.2.2.2.2.2.2.2.2.2))))))))))))))))))))⟩ (fun hHeld => ?_)
  clear hK K
  refine done_ (by kernel_rfl) ?_
  try go_wp2
  have n0_ : Aside0 (((((((((((w18.setCell ⟨gb279, 0, none⟩ (.int .i64 t269)).setCell ⟨gb279, 1, none⟩ (.int .i64 t270)).setCell ⟨gb279, 2, none⟩ (.int .i64 t271)).setCell ⟨gb279, 3, none⟩ (.int .i64 t272)).setCell ⟨gb279, 4, none⟩ (.int .i64 t273)).setCell ⟨gb279, 5, none⟩ (.int .i64 t274)).setCell ⟨gb279, 6, none⟩ (.int .i64 t275)).setCell ⟨gb279, 7, none⟩ (.int .i64 t276)).setCell ⟨gb279, 8, none⟩ (.int .i64 t277)).setCell ⟨gb279, 9, none⟩ (.int .i64 t278)).heap[gb249]? = some (.cells #[.int .i64 a0_0, .int .i64 a0_1, .int .i64 a0_2, .int .i64 a0_3, .int .i64 a0_4, .int .i64 a0_5, .int .i64 a0_6, .int .i64 a0_7, .int .i64 a0_8] 32 (0, 0))) := ⟨by (with_reducible repeat (first | refine blk_drewN ?_ _ | refine blk_drew ?_ | refine blk_alloc ?_ _)); refine blk_far ?_ NB249_279.out _; (with_reducible repeat (first | refine blk_drewN ?_ _ | refine blk_drew ?_ | refine blk_alloc ?_ _)); refine blk_far ?_ NB249_279.out _; (with_reducible repeat (first | refine blk_drewN ?_ _ | refine blk_drew ?_ | refine blk_alloc ?_ _)); refine blk_far ?_ NB249_279.out _; (with_reducible repeat (first | refine blk_drewN ?_ _ | refine blk_drew ?_ | refine blk_alloc ?_ _)); refine blk_far ?_ NB249_279.out _; (with_reducible repeat (first | refine blk_drewN ?_ _ | refine blk_drew ?_ | refine blk_alloc ?_ _)); refine blk_far ?_ NB249_279.out _; (with_reducible repeat (first | refine blk_drewN ?_ _ | refine blk_drew ?_ | refine blk_alloc ?_ _)); refine blk_far ?_ NB249_279.out _; (with_reducible repeat (first | refine blk_drewN ?_ _ | refine blk_drew ?_ | refine blk_alloc ?_ _)); refine blk_far ?_ NB249_279.out _; (with_reducible repeat (first | refine blk_drewN ?_ _ | refine blk_drew ?_ | refine blk_alloc ?_ _)); refine blk_far ?_ NB249_279.out _; (with_reducible repeat (first | refine blk_drewN ?_ _ | refine blk_drew ?_ | refine blk_alloc ?_ _)); refine blk_far ?_ NB249_279.out _; (with_reducible repeat (first | refine blk_drewN ?_ _ | refine blk_drew ?_ | refine blk_alloc ?_ _)); refine blk_far ?_ NB249_279.out _; (with_reducible repeat (first | refine blk_drewN ?_ _ | refine blk_drew ?_ | refine blk_alloc ?_ _)); exact BK249.out⟩
  have n1_ : Aside0 (((((((((((w18.setCell ⟨gb279, 0, none⟩ (.int .i64 t269)).setCell ⟨gb279, 1, none⟩ (.int .i64 t270)).setCell ⟨gb279, 2, none⟩ (.int .i64 t271)).setCell ⟨gb279, 3, none⟩ (.int .i64 t272)).setCell ⟨gb279, 4, none⟩ (.int .i64 t273)).setCell ⟨gb279, 5, none⟩ (.int .i64 t274)).setCell ⟨gb279, 6, none⟩ (.int .i64 t275)).setCell ⟨gb279, 7, none⟩ (.int .i64 t276)).setCell ⟨gb279, 8, none⟩ (.int .i64 t277)).setCell ⟨gb279, 9, none⟩ (.int .i64 t278)).heap[gb250]? = some (.cells #[.int .i64 a1_0, .int .i64 a1_1, .int .i64 a1_2, .int .i64 a1_3, .int .i64 a1_4, .int .i64 a1_5, .int .i64 a1_6, .int .i64 a1_7, .int .i64 a1_8] 32 (0, 0))) := ⟨by (with_reducible repeat (first | refine blk_drewN ?_ _ | refine blk_drew ?_ | refine blk_alloc ?_ _)); refine blk_far ?_ NB250_279.out _; (with_reducible repeat (first | refine blk_drewN ?_ _ | refine blk_drew ?_ | refine blk_alloc ?_ _)); refine blk_far ?_ NB250_279.out _; (with_reducible repeat (first | refine blk_drewN ?_ _ | refine blk_drew ?_ | refine blk_alloc ?_ _)); refine blk_far ?_ NB250_279.out _; (with_reducible repeat (first | refine blk_drewN ?_ _ | refine blk_drew ?_ | refine blk_alloc ?_ _)); refine blk_far ?_ NB250_279.out _; (with_reducible repeat (first | refine blk_drewN ?_ _ | refine blk_drew ?_ | refine blk_alloc ?_ _)); refine blk_far ?_ NB250_279.out _; (with_reducible repeat (first | refine blk_drewN ?_ _ | refine blk_drew ?_ | refine blk_alloc ?_ _)); refine blk_far ?_ NB250_279.out _; (with_reducible repeat (first | refine blk_drewN ?_ _ | refine blk_drew ?_ | refine blk_alloc ?_ _)); refine blk_far ?_ NB250_279.out _; (with_reducible repeat (first | refine blk_drewN ?_ _ | refine blk_drew ?_ | refine blk_alloc ?_ _)); refine blk_far ?_ NB250_279.out _; (with_reducible repeat (first | refine blk_drewN ?_ _ | refine blk_drew ?_ | refine blk_alloc ?_ _)); refine blk_far ?_ NB250_279.out _; (with_reducible repeat (first | refine blk_drewN ?_ _ | refine blk_drew ?_ | refine blk_alloc ?_ _)); refine blk_far ?_ NB250_279.out _; (with_reducible repeat (first | refine blk_drewN ?_ _ | refine blk_drew ?_ | refine blk_alloc ?_ _)); exact BK250.out⟩
  have n2_ : Aside0 (((((((((((w18.setCell ⟨gb279, 0, none⟩ (.int .i64 t269)).setCell ⟨gb279, 1, none⟩ (.int .i64 t270)).setCell ⟨gb279, 2, none⟩ (.int .i64 t271)).setCell ⟨gb279, 3, none⟩ (.int .i64 t272)).setCell ⟨gb279, 4, none⟩ (.int .i64 t273)).setCell ⟨gb279, 5, none⟩ (.int .i64 t274)).setCell ⟨gb279, 6, none⟩ (.int .i64 t275)).setCell ⟨gb279, 7, none⟩ (.int .i64 t276)).setCell ⟨gb279, 8, none⟩ (.int .i64 t277)).setCell ⟨gb279, 9, none⟩ (.int .i64 t278)).heap[gb279]? = some (.cells #[.int .i64 t269, .int .i64 t270, .int .i64 t271, .int .i64 t272, .int .i64 t273, .int .i64 t274, .int .i64 t275, .int .i64 t276, .int .i64 t277, .int .i64 t278] 37 (0, 0))) := ⟨by (with_reducible repeat (first | refine blk_drewN ?_ _ | refine blk_drew ?_ | refine blk_alloc ?_ _)); refine blk_put (cs := #[.int .i64 t269, .int .i64 t270, .int .i64 t271, .int .i64 t272, .int .i64 t273, .int .i64 t274, .int .i64 t275, .int .i64 t276, .int .i64 t277, .int .i64 0]) ?_ 9 _ rfl; (with_reducible repeat (first | refine blk_drewN ?_ _ | refine blk_drew ?_ | refine blk_alloc ?_ _)); refine blk_put (cs := #[.int .i64 t269, .int .i64 t270, .int .i64 t271, .int .i64 t272, .int .i64 t273, .int .i64 t274, .int .i64 t275, .int .i64 t276, .int .i64 0, .int .i64 0]) ?_ 8 _ rfl; (with_reducible repeat (first | refine blk_drewN ?_ _ | refine blk_drew ?_ | refine blk_alloc ?_ _)); refine blk_put (cs := #[.int .i64 t269, .int .i64 t270, .int .i64 t271, .int .i64 t272, .int .i64 t273, .int .i64 t274, .int .i64 t275, .int .i64 0, .int .i64 0, .int .i64 0]) ?_ 7 _ rfl; (with_reducible repeat (first | refine blk_drewN ?_ _ | refine blk_drew ?_ | refine blk_alloc ?_ _)); refine blk_put (cs := #[.int .i64 t269, .int .i64 t270, .int .i64 t271, .int .i64 t272, .int .i64 t273, .int .i64 t274, .int .i64 0, .int .i64 0, .int .i64 0, .int .i64 0]) ?_ 6 _ rfl; (with_reducible repeat (first | refine blk_drewN ?_ _ | refine blk_drew ?_ | refine blk_alloc ?_ _)); refine blk_put (cs := #[.int .i64 t269, .int .i64 t270, .int .i64 t271, .int .i64 t272, .int .i64 t273, .int .i64 0, .int .i64 0, .int .i64 0, .int .i64 0, .int .i64 0]) ?_ 5 _ rfl; (with_reducible repeat (first | refine blk_drewN ?_ _ | refine blk_drew ?_ | refine blk_alloc ?_ _)); refine blk_put (cs := #[.int .i64 t269, .int .i64 t270, .int .i64 t271, .int .i64 t272, .int .i64 0, .int .i64 0, .int .i64 0, .int .i64 0, .int .i64 0, .int .i64 0]) ?_ 4 _ rfl; (with_reducible repeat (first | refine blk_drewN ?_ _ | refine blk_drew ?_ | refine blk_alloc ?_ _)); refine blk_put (cs := #[.int .i64 t269, .int .i64 t270, .int .i64 t271, .int .i64 0, .int .i64 0, .int .i64 0, .int .i64 0, .int .i64 0, .int .i64 0, .int .i64 0]) ?_ 3 _ rfl; (with_reducible repeat (first | refine blk_drewN ?_ _ | refine blk_drew ?_ | refine blk_alloc ?_ _)); refine blk_put (cs := #[.int .i64 t269, .int .i64 t270, .int .i64 0, .int .i64 0, .int .i64 0, .int .i64 0, .int .i64 0, .int .i64 0, .int .i64 0, .int .i64 0]) ?_ 2 _ rfl; (with_reducible repeat (first | refine blk_drewN ?_ _ | refine blk_drew ?_ | refine blk_alloc ?_ _)); refine blk_put (cs := #[.int .i64 t269, .int .i64 0, .int .i64 0, .int .i64 0, .int .i64 0, .int .i64 0, .int .i64 0, .int .i64 0, .int .i64 0, .int .i64 0]) ?_ 1 _ rfl; (with_reducible repeat (first | refine blk_drewN ?_ _ | refine blk_drew ?_ | refine blk_alloc ?_ _)); refine blk_put (cs := #[.int .i64 0, .int .i64 0, .int .i64 0, .int .i64 0, .int .i64 0, .int .i64 0, .int .i64 0, .int .i64 0, .int .i64 0, .int .i64 0]) ?_ 0 _ rfl; (with_reducible repeat (first | refine blk_drewN ?_ _ | refine blk_drew ?_ | refine blk_alloc ?_ _)); exact BK279.out⟩
  have n3_ : Aside0 (Below w.heap.size w ((((((((((w18.setCell ⟨gb279, 0, none⟩ (.int .i64 t269)).setCell ⟨gb279, 1, none⟩ (.int .i64 t270)).setCell ⟨gb279, 2, none⟩ (.int .i64 t271)).setCell ⟨gb279, 3, none⟩ (.int .i64 t272)).setCell ⟨gb279, 4, none⟩ (.int .i64 t273)).setCell ⟨gb279, 5, none⟩ (.int .i64 t274)).setCell ⟨gb279, 6, none⟩ (.int .i64 t275)).setCell ⟨gb279, 7, none⟩ (.int .i64 t276)).setCell ⟨gb279, 8, none⟩ (.int .i64 t277)).setCell ⟨gb279, 9, none⟩ (.int .i64 t278))) := ⟨by repeat (first | (with_reducible first | exact HB.out | apply below_alloc | apply pw_below_drewN | apply below_drew1 | refine below_set ?_ GE249.out | refine below_set ?_ GE250.out | refine below_set ?_ GE279.out) | exact HB.out)⟩
  (try clear BK249)
  (try clear BK250)
  (try clear BK279)
  (try clear HB)
  generalize ((((((((((w18.setCell ⟨gb279, 0, none⟩ (.int .i64 t269)).setCell ⟨gb279, 1, none⟩ (.int .i64 t270)).setCell ⟨gb279, 2, none⟩ (.int .i64 t271)).setCell ⟨gb279, 3, none⟩ (.int .i64 t272)).setCell ⟨gb279, 4, none⟩ (.int .i64 t273)).setCell ⟨gb279, 5, none⟩ (.int .i64 t274)).setCell ⟨gb279, 6, none⟩ (.int .i64 t275)).setCell ⟨gb279, 7, none⟩ (.int .i64 t276)).setCell ⟨gb279, 8, none⟩ (.int .i64 t277)).setCell ⟨gb279, 9, none⟩ (.int .i64 t278)) = w29 at n0_ n1_ n2_ n3_ ⊢
  have BK249 := n0_
  have BK250 := n1_
  have BK279 := n2_
  have HB := n3_
  clear n0_ n1_ n2_ n3_
  have n0_ := Aside0.mk (blk_drew BK249.out)
  have n1_ := Aside0.mk (blk_drew BK250.out)
  have n2_ := Aside0.mk (blk_drew BK279.out)
  have n3_ := Aside0.mk (below_drew1 HB.out)
  clear BK249
  clear BK250
  clear BK279
  clear HB
  have BK249 := n0_
  have BK250 := n1_
  have BK279 := n2_
  have HB := n3_
  clear n0_ n1_ n2_ n3_
  refine start_ (n := 7) (S := fun w' => w'.cell? ⟨gb249, 0, none⟩ = some (.int .i64 a0_0) ∧ w'.cell? ⟨gb249, 1, none⟩ = some (.int .i64 a0_1) ∧ w'.cell? ⟨gb249, 2, none⟩ = some (.int .i64 a0_2) ∧ w'.cell? ⟨gb249, 3, none⟩ = some (.int .i64 a0_3) ∧ w'.cell? ⟨gb249, 4, none⟩ = some (.int .i64 a0_4) ∧ w'.cell? ⟨gb249, 5, none⟩ = some (.int .i64 a0_5) ∧ w'.cell? ⟨gb249, 6, none⟩ = some (.int .i64 a0_6) ∧ w'.cell? ⟨gb249, 7, none⟩ = some (.int .i64 a0_7) ∧ w'.cell? ⟨gb249, 8, none⟩ = some (.int .i64 a0_8) ∧ w'.cell? ⟨gb250, 0, none⟩ = some (.int .i64 a1_0) ∧ w'.cell? ⟨gb250, 1, none⟩ = some (.int .i64 a1_1) ∧ w'.cell? ⟨gb250, 2, none⟩ = some (.int .i64 a1_2) ∧ w'.cell? ⟨gb250, 3, none⟩ = some (.int .i64 a1_3) ∧ w'.cell? ⟨gb250, 4, none⟩ = some (.int .i64 a1_4) ∧ w'.cell? ⟨gb250, 5, none⟩ = some (.int .i64 a1_5) ∧ w'.cell? ⟨gb250, 6, none⟩ = some (.int .i64 a1_6) ∧ w'.cell? ⟨gb250, 7, none⟩ = some (.int .i64 a1_7) ∧ w'.cell? ⟨gb250, 8, none⟩ = some (.int .i64 a1_8)) (ds := []) #[false, false, false, false, false, false, false] (by kernel_rfl) rfl rfl ⟨(blk_cell BK249.out 0).trans rfl, (blk_cell BK249.out 1).trans rfl, (blk_cell BK249.out 2).trans rfl, (blk_cell BK249.out 3).trans rfl, (blk_cell BK249.out 4).trans rfl, (blk_cell BK249.out 5).trans rfl, (blk_cell BK249.out 6).trans rfl, (blk_cell BK249.out 7).trans rfl, (blk_cell BK249.out 8).trans rfl, (blk_cell BK250.out 0).trans rfl, (blk_cell BK250.out 1).trans rfl, (blk_cell BK250.out 2).trans rfl, (blk_cell BK250.out 3).trans rfl, (blk_cell BK250.out 4).trans rfl, (blk_cell BK250.out 5).trans rfl, (blk_cell BK250.out 6).trans rfl, (blk_cell BK250.out 7).trans rfl, (blk_cell BK250.out 8).trans rfl⟩ (fun hHeld => ?_)
  generalize w29.drew = w30 at BK249 BK250 BK279 HB hHeld ⊢
  refine take_ (i := 0) (N := some 12) (v := ?_) (a' := ?_) #[true, false, false, false, false, false, false] rfl rfl (by kernel_rfl) (fun _ _ _ h => h) (Or.inl ⟨by rfl, ?_⟩) hHeld ?_ ?_
  rotate_left
  ·
   rintro w' ⟨s0, s1, s2, s3, s4, s5, s6, s7, s8, s9, s10, s11, s12, s13, s14, s15, s16, s17⟩
   go_simp
   with_reducible rfl
  rotate_left
  ·
   simp only [Act.put, List.setIfInBounds_toArray, List.set_cons_zero, List.set_cons_succ, i64_w, i32_w]
   rfl
  refine take_ (i := 2) (N := some 14) (v := ?_) (a' := ?_) #[true, false, true, false, false, false, false] rfl rfl (by kernel_rfl) (fun _ _ _ h => h) (Or.inl ⟨by rfl, ?_⟩) hHeld ?_ ?_
  rotate_left
  ·
   rintro w' ⟨s0, s1, s2, s3, s4, s5, s6, s7, s8, s9, s10, s11, s12, s13, s14, s15, s16, s17⟩
   go_simp
   with_reducible rfl
  rotate_left
  ·
   simp only [Act.put, List.setIfInBounds_toArray, List.set_cons_zero, List.set_cons_succ, i64_w, i32_w]
   rfl
  refine join_ (σ := Nat) 1 #[true, true, true, true, true, true, false] (fun s_ => [(13, .agg #[.int .i64 t280, .int .i64 t281, .int .i64 t282, .int .i64 t283, .int .i64 t284, .int .i64 t285, .int .i64 t286, .int .i64 t287, .int .i64 t288]), (15, .agg #[.int .i64 t289, .int .i64 t290, .int .i64 t291, .int .i64 t292, .int .i64 t293, .int .i64 t294, .int .i64 t295, .int .i64 t296, .int .i64 t297]), (16, .agg #[.int .i64 t298, .int .i64 t299, .int .i64 t300, .int .i64 t301, .int .i64 t302, .int .i64 t303, .int .i64 t304, .int .i64 t305, .int .i64 t306, .int .i64 t307]), (6, .pointer (some ⟨s_, 0, none⟩))]) (fun s_ w' => (w'.cell? ⟨gb249, 0, none⟩ = some (.int .i64 a0_0) ∧ w'.cell? ⟨gb249, 1, none⟩ = some (.int .i64 a0_1) ∧ w'.cell? ⟨gb249, 2, none⟩ = some (.int .i64 a0_2) ∧ w'.cell? ⟨gb249, 3, none⟩ = some (.int .i64 a0_3) ∧ w'.cell? ⟨gb249, 4, none⟩ = some (.int .i64 a0_4) ∧ w'.cell? ⟨gb249, 5, none⟩ = some (.int .i64 a0_5) ∧ w'.cell? ⟨gb249, 6, none⟩ = some (.int .i64 a0_6) ∧ w'.cell? ⟨gb249, 7, none⟩ = some (.int .i64 a0_7) ∧ w'.cell? ⟨gb249, 8, none⟩ = some (.int .i64 a0_8) ∧ w'.cell? ⟨gb250, 0, none⟩ = some (.int .i64 a1_0) ∧ w'.cell? ⟨gb250, 1, none⟩ = some (.int .i64 a1_1) ∧ w'.cell? ⟨gb250, 2, none⟩ = some (.int .i64 a1_2) ∧ w'.cell? ⟨gb250, 3, none⟩ = some (.int .i64 a1_3) ∧ w'.cell? ⟨gb250, 4, none⟩ = some (.int .i64 a1_4) ∧ w'.cell? ⟨gb250, 5, none⟩ = some (.int .i64 a1_5) ∧ w'.cell? ⟨gb250, 6, none⟩ = some (.int .i64 a1_6) ∧ w'.cell? ⟨gb250, 7, none⟩ = some (.int .i64 a1_7) ∧ w'.cell? ⟨gb250, 8, none⟩ = some (.int .i64 a1_8)) ∧ (w'.heap[gb249]? = some (.cells #[.int .i64 a0_0, .int .i64 a0_1, .int .i64 a0_2, .int .i64 a0_3, .int .i64 a0_4, .int .i64 a0_5, .int .i64 a0_6, .int .i64 a0_7, .int .i64 a0_8] 32 (0, 0))) ∧ (w'.heap[gb250]? = some (.cells #[.int .i64 a1_0, .int .i64 a1_1, .int .i64 a1_2, .int .i64 a1_3, .int .i64 a1_4, .int .i64 a1_5, .int .i64 a1_6, .int .i64 a1_7, .int .i64 a1_8] 32 (0, 0))) ∧ (w'.heap[gb279]? = some (.cells #[.int .i64 t269, .int .i64 t270, .int .i64 t271, .int .i64 t272, .int .i64 t273, .int .i64 t274, .int .i64 t275, .int .i64 t276, .int .i64 t277, .int .i64 t278] 37 (0, 0))) ∧ (w'.heap[s_]? = some (.cells #[.int .i64 0, .int .i64 0, .int .i64 0, .int .i64 0, .int .i64 0, .int .i64 0, .int .i64 0, .int .i64 0, .int .i64 0, .int .i64 0] 37 (0, 0))) ∧ (w.heap.size ≤ s_) ∧ (w.heap.size ≤ s_) ∧ (gb249 ≠ s_) ∧ (s_ ≠ gb249) ∧ (gb250 ≠ s_) ∧ (s_ ≠ gb250) ∧ (gb279 ≠ s_) ∧ (s_ ≠ gb279) ∧ (Below w.heap.size w w')) ?_ ?_
  rotate_left
  ·
   intro hCont
   refine two_ (i := 1) (j := 5) (Ni := some 13) (Nj := some 6) #[true, true, true, false, false, false, false] #[true, false, true, false, false, true, false] rfl rfl rfl rfl (by kernel_rfl) (by decide) (by decide) (fun K hK => ?_) (fun K hK => ?_)
   ·
    skip
    refine goes_ Try.func21 (by kernel_rfl) rfl #[.agg #[.int .i64 a0_0, .int .i64 a0_1, .int .i64 a0_2, .int .i64 a0_3, .int .i64 a0_4, .int .i64 a0_5, .int .i64 a0_6, .int .i64 a0_7, .int .i64 a0_8]] (by rfl) rfl rfl (by (try simp only [List.map_toArray, List.map_cons, List.map_nil]); first | done | rfl | (simp only [List.length_drop, List.length_take]; rfl)) ?_
    with_reducible refine (laws_toSel.calls a0_0 a0_1 a0_2 a0_3 a0_4 a0_5 a0_6 a0_7 a0_8 t280 t281 t282 t283 t284 t285 t286 t287 t288 _ A6.out).mono ?_
    rintro e w31 ⟨rfl, hb⟩
    refine ⟨_, rfl, ?_⟩
    have n0_ := Aside0.mk (blk_below_u BK249.out hb)
    have n1_ := Aside0.mk (blk_below_u BK250.out hb)
    have n2_ := Aside0.mk (blk_below_u BK279.out hb)
    have n3_ := Aside0.mk (below_step (by repeat (first | (with_reducible first | exact HB.out | apply below_alloc | apply pw_below_drewN | apply below_drew1 | refine below_set ?_ GE249.out | refine below_set ?_ GE250.out | refine below_set ?_ GE279.out) | exact HB.out)) hb)
    clear BK249
    clear BK250
    clear BK279
    clear HB
    have BK249 := n0_
    have BK250 := n1_
    have BK279 := n2_
    have HB := n3_
    clear n0_ n1_ n2_ n3_
    (try clear hb)
    (try clear hb2)
    (try clear hk)
    (try clear hi)
    refine hK.out _ _ ⟨(blk_cell BK249.out 0).trans rfl, (blk_cell BK249.out 1).trans rfl, (blk_cell BK249.out 2).trans rfl, (blk_cell BK249.out 3).trans rfl, (blk_cell BK249.out 4).trans rfl, (blk_cell BK249.out 5).trans rfl, (blk_cell BK249.out 6).trans rfl, (blk_cell BK249.out 7).trans rfl, (blk_cell BK249.out 8).trans rfl, (blk_cell BK250.out 0).trans rfl, (blk_cell BK250.out 1).trans rfl, (blk_cell BK250.out 2).trans rfl, (blk_cell BK250.out 3).trans rfl, (blk_cell BK250.out 4).trans rfl, (blk_cell BK250.out 5).trans rfl, (blk_cell BK250.out 6).trans rfl, (blk_cell BK250.out 7).trans rfl, (blk_cell BK250.out 8).trans rfl⟩ (fun hHeld => ?_)
    clear hK K
    refine norm_ (a' := ?_) ?_ ?_
    rotate_left
    ·
     show Act.put _ (some 13) _ = _
     simp only [Act.put, List.setIfInBounds_toArray, List.set_cons_zero, List.set_cons_succ, i64_w, i32_w]
     rfl
    refine two_ (i := 3) (j := 5) (Ni := some 15) (Nj := some 6) #[true, true, true, true, false, false, false] #[true, true, true, false, false, true, false] rfl rfl rfl rfl (by kernel_rfl) (by decide) (by decide) (fun K hK => ?_) (fun K hK => ?_)
    ·
     skip
     refine goes_ Try.func21 (by kernel_rfl) rfl #[.agg #[.int .i64 a1_0, .int .i64 a1_1, .int .i64 a1_2, .int .i64 a1_3, .int .i64 a1_4, .int .i64 a1_5, .int .i64 a1_6, .int .i64 a1_7, .int .i64 a1_8]] (by rfl) rfl rfl (by (try simp only [List.map_toArray, List.map_cons, List.map_nil]); first | done | rfl | (simp only [List.length_drop, List.length_take]; rfl)) ?_
     with_reducible refine (laws_toSel.calls a1_0 a1_1 a1_2 a1_3 a1_4 a1_5 a1_6 a1_7 a1_8 t289 t290 t291 t292 t293 t294 t295 t296 t297 _ A7.out).mono ?_
     rintro e w32 ⟨rfl, hb⟩
     refine ⟨_, rfl, ?_⟩
     have n0_ := Aside0.mk (blk_below_u BK249.out hb)
     have n1_ := Aside0.mk (blk_below_u BK250.out hb)
     have n2_ := Aside0.mk (blk_below_u BK279.out hb)
     have n3_ := Aside0.mk (below_step (by repeat (first | (with_reducible first | exact HB.out | apply below_alloc | apply pw_below_drewN | apply below_drew1 | refine below_set ?_ GE249.out | refine below_set ?_ GE250.out | refine below_set ?_ GE279.out) | exact HB.out)) hb)
     clear BK249
     clear BK250
     clear BK279
     clear HB
     have BK249 := n0_
     have BK250 := n1_
     have BK279 := n2_
     have HB := n3_
     clear n0_ n1_ n2_ n3_
     (try clear hb)
     (try clear hb2)
     (try clear hk)
     (try clear hi)
     refine hK.out _ _ ⟨(blk_cell BK249.out 0).trans rfl, (blk_cell BK249.out 1).trans rfl, (blk_cell BK249.out 2).trans rfl, (blk_cell BK249.out 3).trans rfl, (blk_cell BK249.out 4).trans rfl, (blk_cell BK249.out 5).trans rfl, (blk_cell BK249.out 6).trans rfl, (blk_cell BK249.out 7).trans rfl, (blk_cell BK249.out 8).trans rfl, (blk_cell BK250.out 0).trans rfl, (blk_cell BK250.out 1).trans rfl, (blk_cell BK250.out 2).trans rfl, (blk_cell BK250.out 3).trans rfl, (blk_cell BK250.out 4).trans rfl, (blk_cell BK250.out 5).trans rfl, (blk_cell BK250.out 6).trans rfl, (blk_cell BK250.out 7).trans rfl, (blk_cell BK250.out 8).trans rfl⟩ (fun hHeld => ?_)
     clear hK K
     refine norm_ (a' := ?_) ?_ ?_
     rotate_left
     ·
      show Act.put _ (some 15) _ = _
      simp only [Act.put, List.setIfInBounds_toArray, List.set_cons_zero, List.set_cons_succ, i64_w, i32_w]
      rfl
     refine two_ (i := 4) (j := 5) (Ni := some 16) (Nj := some 6) #[true, true, true, true, true, false, false] #[true, true, true, true, false, true, false] rfl rfl rfl rfl (by kernel_rfl) (by decide) (by decide) (fun K hK => ?_) (fun K hK => ?_)
     ·
      skip
      refine goes_ Try.func66 (by kernel_rfl) rfl #[.agg #[.int .i64 t280, .int .i64 t281, .int .i64 t282, .int .i64 t283, .int .i64 t284, .int .i64 t285, .int .i64 t286, .int .i64 t287, .int .i64 t288], .agg #[.int .i64 t289, .int .i64 t290, .int .i64 t291, .int .i64 t292, .int .i64 t293, .int .i64 t294, .int .i64 t295, .int .i64 t296, .int .i64 t297]] (by rfl) rfl rfl (by (try simp only [List.map_toArray, List.map_cons, List.map_nil]); first | done | rfl | (simp only [List.length_drop, List.length_take]; rfl)) ?_
      with_reducible refine (impl_MeetSels.calls k t280 t281 t282 t283 t284 t285 t286 t287 t288 t289 t290 t291 t292 t293 t294 t295 t296 t297 t298 t299 t300 t301 t302 t303 t304 t305 t306 t307 _ A8.out).mono ?_
      rintro e w33 ⟨rfl, hb⟩
      refine ⟨_, rfl, ?_⟩
      have n0_ := Aside0.mk (blk_below_u BK249.out hb)
      have n1_ := Aside0.mk (blk_below_u BK250.out hb)
      have n2_ := Aside0.mk (blk_below_u BK279.out hb)
      have n3_ := Aside0.mk (below_step (by repeat (first | (with_reducible first | exact HB.out | apply below_alloc | apply pw_below_drewN | apply below_drew1 | refine below_set ?_ GE249.out | refine below_set ?_ GE250.out | refine below_set ?_ GE279.out) | exact HB.out)) hb)
      clear BK249
      clear BK250
      clear BK279
      clear HB
      have BK249 := n0_
      have BK250 := n1_
      have BK279 := n2_
      have HB := n3_
      clear n0_ n1_ n2_ n3_
      (try clear hb)
      (try clear hb2)
      (try clear hk)
      (try clear hi)
      refine hK.out _ _ ⟨(blk_cell BK249.out 0).trans rfl, (blk_cell BK249.out 1).trans rfl, (blk_cell BK249.out 2).trans rfl, (blk_cell BK249.out 3).trans rfl, (blk_cell BK249.out 4).trans rfl, (blk_cell BK249.out 5).trans rfl, (blk_cell BK249.out 6).trans rfl, (blk_cell BK249.out 7).trans rfl, (blk_cell BK249.out 8).trans rfl, (blk_cell BK250.out 0).trans rfl, (blk_cell BK250.out 1).trans rfl, (blk_cell BK250.out 2).trans rfl, (blk_cell BK250.out 3).trans rfl, (blk_cell BK250.out 4).trans rfl, (blk_cell BK250.out 5).trans rfl, (blk_cell BK250.out 6).trans rfl, (blk_cell BK250.out 7).trans rfl, (blk_cell BK250.out 8).trans rfl⟩ (fun hHeld => ?_)
      clear hK K
      refine norm_ (a' := ?_) ?_ ?_
      rotate_left
      ·
       show Act.put _ (some 16) _ = _
       simp only [Act.put, List.setIfInBounds_toArray, List.set_cons_zero, List.set_cons_succ, i64_w, i32_w]
       rfl
      refine one_ (i := 5) (N := some 6) #[true, true, true, true, true, true, false] rfl rfl (by kernel_rfl) (by decide) (fun K hK => ?_)
      refine box_step ?hg (N := 6) ?hd (cs := #[.int .i64 0, .int .i64 0, .int .i64 0, .int .i64 0, .int .i64 0, .int .i64 0, .int .i64 0, .int .i64 0, .int .i64 0, .int .i64 0]) (t := 37) ?hr ?_; (case hd => rfl); (case hg => rfl); (case hr => first | (go_simp; done) | (go_simp; rfl))
      intro gb308 hg w34 hbox hb
      have n0_ := Aside0.mk (blk_below_u BK249.out hb)
      have n1_ := Aside0.mk (blk_below_u BK250.out hb)
      have n2_ := Aside0.mk (blk_below_u BK279.out hb)
      have n3_ := Aside0.mk (below_step (by repeat (first | (with_reducible first | exact HB.out | apply below_alloc | apply pw_below_drewN | apply below_drew1 | refine below_set ?_ GE249.out | refine below_set ?_ GE250.out | refine below_set ?_ GE279.out) | exact HB.out)) hb)
      have n4_ := Aside0.mk (hbox)
      have n5_ := Aside0.mk ((by rw [hg]; exact (below_size (by repeat (first | (with_reducible first | exact HB.out | apply below_alloc | apply pw_below_drewN | apply below_drew1 | refine below_set ?_ GE249.out | refine below_set ?_ GE250.out | refine below_set ?_ GE279.out) | exact HB.out))) : w.heap.size ≤ gb308))
      have n6_ := Aside0.mk ((by rw [hg]; exact (below_size (by repeat (first | (with_reducible first | exact HB.out | apply below_alloc | apply pw_below_drewN | apply below_drew1 | refine below_set ?_ GE249.out | refine below_set ?_ GE250.out | refine below_set ?_ GE279.out) | exact HB.out))) : w.heap.size ≤ gb308))
      have n7_ := Aside0.mk ((by rw [hg]; exact Nat.ne_of_lt (blk_lt_u BK249.out) : gb249 ≠ gb308))
      have n8_ := Aside0.mk ((by rw [hg]; exact Nat.ne_of_gt (blk_lt_u BK249.out) : gb308 ≠ gb249))
      have n9_ := Aside0.mk ((by rw [hg]; exact Nat.ne_of_lt (blk_lt_u BK250.out) : gb250 ≠ gb308))
      have n10_ := Aside0.mk ((by rw [hg]; exact Nat.ne_of_gt (blk_lt_u BK250.out) : gb308 ≠ gb250))
      have n11_ := Aside0.mk ((by rw [hg]; exact Nat.ne_of_lt (blk_lt_u BK279.out) : gb279 ≠ gb308))
      have n12_ := Aside0.mk ((by rw [hg]; exact Nat.ne_of_gt (blk_lt_u BK279.out) : gb308 ≠ gb279))
      clear BK249
      clear BK250
      clear BK279
      clear HB
      have BK249 := n0_
      have BK250 := n1_
      have BK279 := n2_
      have HB := n3_
      have BK308 := n4_
      have GW308 := n5_
      have GE308 := n6_
      have NB249_308 := n7_
      have NB308_249 := n8_
      have NB250_308 := n9_
      have NB308_250 := n10_
      have NB279_308 := n11_
      have NB308_279 := n12_
      clear n0_ n1_ n2_ n3_ n4_ n5_ n6_ n7_ n8_ n9_ n10_ n11_ n12_
      clear hb hbox hg
      refine hK.out _ _ ⟨(blk_cell BK249.out 0).trans rfl, (blk_cell BK249.out 1).trans rfl, (blk_cell BK249.out 2).trans rfl, (blk_cell BK249.out 3).trans rfl, (blk_cell BK249.out 4).trans rfl, (blk_cell BK249.out 5).trans rfl, (blk_cell BK249.out 6).trans rfl, (blk_cell BK249.out 7).trans rfl, (blk_cell BK249.out 8).trans rfl, (blk_cell BK250.out 0).trans rfl, (blk_cell BK250.out 1).trans rfl, (blk_cell BK250.out 2).trans rfl, (blk_cell BK250.out 3).trans rfl, (blk_cell BK250.out 4).trans rfl, (blk_cell BK250.out 5).trans rfl, (blk_cell BK250.out 6).trans rfl, (blk_cell BK250.out 7).trans rfl, (blk_cell BK250.out 8).trans rfl⟩ (fun hHeld => ?_)
      clear hK K
      refine norm_ (a' := ?_) ?_ ?_
      rotate_left
      ·
       show Act.put _ (some 6) _ = _
       simp only [Act.put, List.setIfInBounds_toArray, List.set_cons_zero, List.set_cons_succ, i64_w, i32_w]
       rfl
      exact norm_ (by simp only [putAll, Act.put, List.setIfInBounds_toArray, List.set_cons_zero, List.set_cons_succ]) (hCont (gb308) _ ⟨hHeld, (by (with_reducible repeat (first | refine blk_drewN ?_ _ | refine blk_drew ?_ | refine blk_alloc ?_ _)); exact BK249.out), (by (with_reducible repeat (first | refine blk_drewN ?_ _ | refine blk_drew ?_ | refine blk_alloc ?_ _)); exact BK250.out), (by (with_reducible repeat (first | refine blk_drewN ?_ _ | refine blk_drew ?_ | refine blk_alloc ?_ _)); exact BK279.out), (by (with_reducible repeat (first | refine blk_drewN ?_ _ | refine blk_drew ?_ | refine blk_alloc ?_ _)); exact BK308.out), GW308.out, GE308.out, NB249_308.out, NB308_249.out, NB250_308.out, NB308_250.out, NB279_308.out, NB308_279.out, (by repeat (first | (with_reducible first | exact HB.out | apply below_alloc | apply pw_below_drewN | apply below_drew1 | refine below_set ?_ GE249.out | refine below_set ?_ GE250.out | refine below_set ?_ GE279.out | refine below_set ?_ GE308.out) | exact HB.out))⟩)
     ·
      skip
      refine box_step ?hg (N := 6) ?hd (cs := #[.int .i64 0, .int .i64 0, .int .i64 0, .int .i64 0, .int .i64 0, .int .i64 0, .int .i64 0, .int .i64 0, .int .i64 0, .int .i64 0]) (t := 37) ?hr ?_; (case hd => rfl); (case hg => rfl); (case hr => first | (go_simp; done) | (go_simp; rfl))
      intro gb308 hg w33 hbox hb
      have n0_ := Aside0.mk (blk_below_u BK249.out hb)
      have n1_ := Aside0.mk (blk_below_u BK250.out hb)
      have n2_ := Aside0.mk (blk_below_u BK279.out hb)
      have n3_ := Aside0.mk (below_step (by repeat (first | (with_reducible first | exact HB.out | apply below_alloc | apply pw_below_drewN | apply below_drew1 | refine below_set ?_ GE249.out | refine below_set ?_ GE250.out | refine below_set ?_ GE279.out) | exact HB.out)) hb)
      have n4_ := Aside0.mk (hbox)
      have n5_ := Aside0.mk ((by rw [hg]; exact (below_size (by repeat (first | (with_reducible first | exact HB.out | apply below_alloc | apply pw_below_drewN | apply below_drew1 | refine below_set ?_ GE249.out | refine below_set ?_ GE250.out | refine below_set ?_ GE279.out) | exact HB.out))) : w.heap.size ≤ gb308))
      have n6_ := Aside0.mk ((by rw [hg]; exact (below_size (by repeat (first | (with_reducible first | exact HB.out | apply below_alloc | apply pw_below_drewN | apply below_drew1 | refine below_set ?_ GE249.out | refine below_set ?_ GE250.out | refine below_set ?_ GE279.out) | exact HB.out))) : w.heap.size ≤ gb308))
      have n7_ := Aside0.mk ((by rw [hg]; exact Nat.ne_of_lt (blk_lt_u BK249.out) : gb249 ≠ gb308))
      have n8_ := Aside0.mk ((by rw [hg]; exact Nat.ne_of_gt (blk_lt_u BK249.out) : gb308 ≠ gb249))
      have n9_ := Aside0.mk ((by rw [hg]; exact Nat.ne_of_lt (blk_lt_u BK250.out) : gb250 ≠ gb308))
      have n10_ := Aside0.mk ((by rw [hg]; exact Nat.ne_of_gt (blk_lt_u BK250.out) : gb308 ≠ gb250))
      have n11_ := Aside0.mk ((by rw [hg]; exact Nat.ne_of_lt (blk_lt_u BK279.out) : gb279 ≠ gb308))
      have n12_ := Aside0.mk ((by rw [hg]; exact Nat.ne_of_gt (blk_lt_u BK279.out) : gb308 ≠ gb279))
      clear BK249
      clear BK250
      clear BK279
      clear HB
      have BK249 := n0_
      have BK250 := n1_
      have BK279 := n2_
      have HB := n3_
      have BK308 := n4_
      have GW308 := n5_
      have GE308 := n6_
      have NB249_308 := n7_
      have NB308_249 := n8_
      have NB250_308 := n9_
      have NB308_250 := n10_
      have NB279_308 := n11_
      have NB308_279 := n12_
      clear n0_ n1_ n2_ n3_ n4_ n5_ n6_ n7_ n8_ n9_ n10_ n11_ n12_
      clear hb hbox hg
      refine hK.out _ _ ⟨(blk_cell BK249.out 0).trans rfl, (blk_cell BK249.out 1).trans rfl, (blk_cell BK249.out 2).trans rfl, (blk_cell BK249.out 3).trans rfl, (blk_cell BK249.out 4).trans rfl, (blk_cell BK249.out 5).trans rfl, (blk_cell BK249.out 6).trans rfl, (blk_cell BK249.out 7).trans rfl, (blk_cell BK249.out 8).trans rfl, (blk_cell BK250.out 0).trans rfl, (blk_cell BK250.out 1).trans rfl, (blk_cell BK250.out 2).trans rfl, (blk_cell BK250.out 3).trans rfl, (blk_cell BK250.out 4).trans rfl, (blk_cell BK250.out 5).trans rfl, (blk_cell BK250.out 6).trans rfl, (blk_cell BK250.out 7).trans rfl, (blk_cell BK250.out 8).trans rfl⟩ (fun hHeld => ?_)
      clear hK K
      refine norm_ (a' := ?_) ?_ ?_
      rotate_left
      ·
       show Act.put _ (some 6) _ = _
       simp only [Act.put, List.setIfInBounds_toArray, List.set_cons_zero, List.set_cons_succ, i64_w, i32_w]
       rfl
      refine one_ (i := 4) (N := some 16) #[true, true, true, true, true, true, false] rfl rfl (by kernel_rfl) (by decide) (fun K hK => ?_)
      refine goes_ Try.func66 (by kernel_rfl) rfl #[.agg #[.int .i64 t280, .int .i64 t281, .int .i64 t282, .int .i64 t283, .int .i64 t284, .int .i64 t285, .int .i64 t286, .int .i64 t287, .int .i64 t288], .agg #[.int .i64 t289, .int .i64 t290, .int .i64 t291, .int .i64 t292, .int .i64 t293, .int .i64 t294, .int .i64 t295, .int .i64 t296, .int .i64 t297]] (by rfl) rfl rfl (by (try simp only [List.map_toArray, List.map_cons, List.map_nil]); first | done | rfl | (simp only [List.length_drop, List.length_take]; rfl)) ?_
      with_reducible refine (impl_MeetSels.calls k t280 t281 t282 t283 t284 t285 t286 t287 t288 t289 t290 t291 t292 t293 t294 t295 t296 t297 t298 t299 t300 t301 t302 t303 t304 t305 t306 t307 _ A8.out).mono ?_
      rintro e w34 ⟨rfl, hb⟩
      refine ⟨_, rfl, ?_⟩
      have n0_ := Aside0.mk (blk_below_u BK249.out hb)
      have n1_ := Aside0.mk (blk_below_u BK250.out hb)
      have n2_ := Aside0.mk (blk_below_u BK279.out hb)
      have n3_ := Aside0.mk (blk_below_u BK308.out hb)
      have n4_ := Aside0.mk (below_step (by repeat (first | (with_reducible first | exact HB.out | apply below_alloc | apply pw_below_drewN | apply below_drew1 | refine below_set ?_ GE249.out | refine below_set ?_ GE250.out | refine below_set ?_ GE279.out | refine below_set ?_ GE308.out) | exact HB.out)) hb)
      clear BK249
      clear BK250
      clear BK279
      clear BK308
      clear HB
      have BK249 := n0_
      have BK250 := n1_
      have BK279 := n2_
      have BK308 := n3_
      have HB := n4_
      clear n0_ n1_ n2_ n3_ n4_
      (try clear hb)
      (try clear hb2)
      (try clear hk)
      (try clear hi)
      refine hK.out _ _ ⟨(blk_cell BK249.out 0).trans rfl, (blk_cell BK249.out 1).trans rfl, (blk_cell BK249.out 2).trans rfl, (blk_cell BK249.out 3).trans rfl, (blk_cell BK249.out 4).trans rfl, (blk_cell BK249.out 5).trans rfl, (blk_cell BK249.out 6).trans rfl, (blk_cell BK249.out 7).trans rfl, (blk_cell BK249.out 8).trans rfl, (blk_cell BK250.out 0).trans rfl, (blk_cell BK250.out 1).trans rfl, (blk_cell BK250.out 2).trans rfl, (blk_cell BK250.out 3).trans rfl, (blk_cell BK250.out 4).trans rfl, (blk_cell BK250.out 5).trans rfl, (blk_cell BK250.out 6).trans rfl, (blk_cell BK250.out 7).trans rfl, (blk_cell BK250.out 8).trans rfl⟩ (fun hHeld => ?_)
      clear hK K
      refine norm_ (a' := ?_) ?_ ?_
      rotate_left
      ·
       show Act.put _ (some 16) _ = _
       simp only [Act.put, List.setIfInBounds_toArray, List.set_cons_zero, List.set_cons_succ, i64_w, i32_w]
       rfl
      exact norm_ (by simp only [putAll, Act.put, List.setIfInBounds_toArray, List.set_cons_zero, List.set_cons_succ]) (hCont (gb308) _ ⟨hHeld, (by (with_reducible repeat (first | refine blk_drewN ?_ _ | refine blk_drew ?_ | refine blk_alloc ?_ _)); exact BK249.out), (by (with_reducible repeat (first | refine blk_drewN ?_ _ | refine blk_drew ?_ | refine blk_alloc ?_ _)); exact BK250.out), (by (with_reducible repeat (first | refine blk_drewN ?_ _ | refine blk_drew ?_ | refine blk_alloc ?_ _)); exact BK279.out), (by (with_reducible repeat (first | refine blk_drewN ?_ _ | refine blk_drew ?_ | refine blk_alloc ?_ _)); exact BK308.out), GW308.out, GE308.out, NB249_308.out, NB308_249.out, NB250_308.out, NB308_250.out, NB279_308.out, NB308_279.out, (by repeat (first | (with_reducible first | exact HB.out | apply below_alloc | apply pw_below_drewN | apply below_drew1 | refine below_set ?_ GE249.out | refine below_set ?_ GE250.out | refine below_set ?_ GE279.out | refine below_set ?_ GE308.out) | exact HB.out))⟩)
    ·
     skip
     refine box_step ?hg (N := 6) ?hd (cs := #[.int .i64 0, .int .i64 0, .int .i64 0, .int .i64 0, .int .i64 0, .int .i64 0, .int .i64 0, .int .i64 0, .int .i64 0, .int .i64 0]) (t := 37) ?hr ?_; (case hd => rfl); (case hg => rfl); (case hr => first | (go_simp; done) | (go_simp; rfl))
     intro gb308 hg w32 hbox hb
     have n0_ := Aside0.mk (blk_below_u BK249.out hb)
     have n1_ := Aside0.mk (blk_below_u BK250.out hb)
     have n2_ := Aside0.mk (blk_below_u BK279.out hb)
     have n3_ := Aside0.mk (below_step (by repeat (first | (with_reducible first | exact HB.out | apply below_alloc | apply pw_below_drewN | apply below_drew1 | refine below_set ?_ GE249.out | refine below_set ?_ GE250.out | refine below_set ?_ GE279.out) | exact HB.out)) hb)
     have n4_ := Aside0.mk (hbox)
     have n5_ := Aside0.mk ((by rw [hg]; exact (below_size (by repeat (first | (with_reducible first | exact HB.out | apply below_alloc | apply pw_below_drewN | apply below_drew1 | refine below_set ?_ GE249.out | refine below_set ?_ GE250.out | refine below_set ?_ GE279.out) | exact HB.out))) : w.heap.size ≤ gb308))
     have n6_ := Aside0.mk ((by rw [hg]; exact (below_size (by repeat (first | (with_reducible first | exact HB.out | apply below_alloc | apply pw_below_drewN | apply below_drew1 | refine below_set ?_ GE249.out | refine below_set ?_ GE250.out | refine below_set ?_ GE279.out) | exact HB.out))) : w.heap.size ≤ gb308))
     have n7_ := Aside0.mk ((by rw [hg]; exact Nat.ne_of_lt (blk_lt_u BK249.out) : gb249 ≠ gb308))
     have n8_ := Aside0.mk ((by rw [hg]; exact Nat.ne_of_gt (blk_lt_u BK249.out) : gb308 ≠ gb249))
     have n9_ := Aside0.mk ((by rw [hg]; exact Nat.ne_of_lt (blk_lt_u BK250.out) : gb250 ≠ gb308))
     have n10_ := Aside0.mk ((by rw [hg]; exact Nat.ne_of_gt (blk_lt_u BK250.out) : gb308 ≠ gb250))
     have n11_ := Aside0.mk ((by rw [hg]; exact Nat.ne_of_lt (blk_lt_u BK279.out) : gb279 ≠ gb308))
     have n12_ := Aside0.mk ((by rw [hg]; exact Nat.ne_of_gt (blk_lt_u BK279.out) : gb308 ≠ gb279))
     clear BK249
     clear BK250
     clear BK279
     clear HB
     have BK249 := n0_
     have BK250 := n1_
     have BK279 := n2_
     have HB := n3_
     have BK308 := n4_
     have GW308 := n5_
     have GE308 := n6_
     have NB249_308 := n7_
     have NB308_249 := n8_
     have NB250_308 := n9_
     have NB308_250 := n10_
     have NB279_308 := n11_
     have NB308_279 := n12_
     clear n0_ n1_ n2_ n3_ n4_ n5_ n6_ n7_ n8_ n9_ n10_ n11_ n12_
     clear hb hbox hg
     refine hK.out _ _ ⟨(blk_cell BK249.out 0).trans rfl, (blk_cell BK249.out 1).trans rfl, (blk_cell BK249.out 2).trans rfl, (blk_cell BK249.out 3).trans rfl, (blk_cell BK249.out 4).trans rfl, (blk_cell BK249.out 5).trans rfl, (blk_cell BK249.out 6).trans rfl, (blk_cell BK249.out 7).trans rfl, (blk_cell BK249.out 8).trans rfl, (blk_cell BK250.out 0).trans rfl, (blk_cell BK250.out 1).trans rfl, (blk_cell BK250.out 2).trans rfl, (blk_cell BK250.out 3).trans rfl, (blk_cell BK250.out 4).trans rfl, (blk_cell BK250.out 5).trans rfl, (blk_cell BK250.out 6).trans rfl, (blk_cell BK250.out 7).trans rfl, (blk_cell BK250.out 8).trans rfl⟩ (fun hHeld => ?_)
     clear hK K
     refine norm_ (a' := ?_) ?_ ?_
     rotate_left
     ·
      show Act.put _ (some 6) _ = _
      simp only [Act.put, List.setIfInBounds_toArray, List.set_cons_zero, List.set_cons_succ, i64_w, i32_w]
      rfl
     refine one_ (i := 3) (N := some 15) #[true, true, true, true, false, true, false] rfl rfl (by kernel_rfl) (by decide) (fun K hK => ?_)
     refine goes_ Try.func21 (by kernel_rfl) rfl #[.agg #[.int .i64 a1_0, .int .i64 a1_1, .int .i64 a1_2, .int .i64 a1_3, .int .i64 a1_4, .int .i64 a1_5, .int .i64 a1_6, .int .i64 a1_7, .int .i64 a1_8]] (by rfl) rfl rfl (by (try simp only [List.map_toArray, List.map_cons, List.map_nil]); first | done | rfl | (simp only [List.length_drop, List.length_take]; rfl)) ?_
     with_reducible refine (laws_toSel.calls a1_0 a1_1 a1_2 a1_3 a1_4 a1_5 a1_6 a1_7 a1_8 t289 t290 t291 t292 t293 t294 t295 t296 t297 _ A7.out).mono ?_
     rintro e w33 ⟨rfl, hb⟩
     refine ⟨_, rfl, ?_⟩
     have n0_ := Aside0.mk (blk_below_u BK249.out hb)
     have n1_ := Aside0.mk (blk_below_u BK250.out hb)
     have n2_ := Aside0.mk (blk_below_u BK279.out hb)
     have n3_ := Aside0.mk (blk_below_u BK308.out hb)
     have n4_ := Aside0.mk (below_step (by repeat (first | (with_reducible first | exact HB.out | apply below_alloc | apply pw_below_drewN | apply below_drew1 | refine below_set ?_ GE249.out | refine below_set ?_ GE250.out | refine below_set ?_ GE279.out | refine below_set ?_ GE308.out) | exact HB.out)) hb)
     clear BK249
     clear BK250
     clear BK279
     clear BK308
     clear HB
     have BK249 := n0_
     have BK250 := n1_
     have BK279 := n2_
     have BK308 := n3_
     have HB := n4_
     clear n0_ n1_ n2_ n3_ n4_
     (try clear hb)
     (try clear hb2)
     (try clear hk)
     (try clear hi)
     refine hK.out _ _ ⟨(blk_cell BK249.out 0).trans rfl, (blk_cell BK249.out 1).trans rfl, (blk_cell BK249.out 2).trans rfl, (blk_cell BK249.out 3).trans rfl, (blk_cell BK249.out 4).trans rfl, (blk_cell BK249.out 5).trans rfl, (blk_cell BK249.out 6).trans rfl, (blk_cell BK249.out 7).trans rfl, (blk_cell BK249.out 8).trans rfl, (blk_cell BK250.out 0).trans rfl, (blk_cell BK250.out 1).trans rfl, (blk_cell BK250.out 2).trans rfl, (blk_cell BK250.out 3).trans rfl, (blk_cell BK250.out 4).trans rfl, (blk_cell BK250.out 5).trans rfl, (blk_cell BK250.out 6).trans rfl, (blk_cell BK250.out 7).trans rfl, (blk_cell BK250.out 8).trans rfl⟩ (fun hHeld => ?_)
     clear hK K
     refine norm_ (a' := ?_) ?_ ?_
     rotate_left
     ·
      show Act.put _ (some 15) _ = _
      simp only [Act.put, List.setIfInBounds_toArray, List.set_cons_zero, List.set_cons_succ, i64_w, i32_w]
      rfl
     refine one_ (i := 4) (N := some 16) #[true, true, true, true, true, true, false] rfl rfl (by kernel_rfl) (by decide) (fun K hK => ?_)
     refine goes_ Try.func66 (by kernel_rfl) rfl #[.agg #[.int .i64 t280, .int .i64 t281, .int .i64 t282, .int .i64 t283, .int .i64 t284, .int .i64 t285, .int .i64 t286, .int .i64 t287, .int .i64 t288], .agg #[.int .i64 t289, .int .i64 t290, .int .i64 t291, .int .i64 t292, .int .i64 t293, .int .i64 t294, .int .i64 t295, .int .i64 t296, .int .i64 t297]] (by rfl) rfl rfl (by (try simp only [List.map_toArray, List.map_cons, List.map_nil]); first | done | rfl | (simp only [List.length_drop, List.length_take]; rfl)) ?_
     with_reducible refine (impl_MeetSels.calls k t280 t281 t282 t283 t284 t285 t286 t287 t288 t289 t290 t291 t292 t293 t294 t295 t296 t297 t298 t299 t300 t301 t302 t303 t304 t305 t306 t307 _ A8.out).mono ?_
     rintro e w34 ⟨rfl, hb⟩
     refine ⟨_, rfl, ?_⟩
     have n0_ := Aside0.mk (blk_below_u BK249.out hb)
     have n1_ := Aside0.mk (blk_below_u BK250.out hb)
     have n2_ := Aside0.mk (blk_below_u BK279.out hb)
     have n3_ := Aside0.mk (blk_below_u BK308.out hb)
     have n4_ := Aside0.mk (below_step (by repeat (first | (with_reducible first | exact HB.out | apply below_alloc | apply pw_below_drewN | apply below_drew1 | refine below_set ?_ GE249.out | refine below_set ?_ GE250.out | refine below_set ?_ GE279.out | refine below_set ?_ GE308.out) | exact HB.out)) hb)
     clear BK249
     clear BK250
     clear BK279
     clear BK308
     clear HB
     have BK249 := n0_
     have BK250 := n1_
     have BK279 := n2_
     have BK308 := n3_
     have HB := n4_
     clear n0_ n1_ n2_ n3_ n4_
     (try clear hb)
     (try clear hb2)
     (try clear hk)
     (try clear hi)
     refine hK.out _ _ ⟨(blk_cell BK249.out 0).trans rfl, (blk_cell BK249.out 1).trans rfl, (blk_cell BK249.out 2).trans rfl, (blk_cell BK249.out 3).trans rfl, (blk_cell BK249.out 4).trans rfl, (blk_cell BK249.out 5).trans rfl, (blk_cell BK249.out 6).trans rfl, (blk_cell BK249.out 7).trans rfl, (blk_cell BK249.out 8).trans rfl, (blk_cell BK250.out 0).trans rfl, (blk_cell BK250.out 1).trans rfl, (blk_cell BK250.out 2).trans rfl, (blk_cell BK250.out 3).trans rfl, (blk_cell BK250.out 4).trans rfl, (blk_cell BK250.out 5).trans rfl, (blk_cell BK250.out 6).trans rfl, (blk_cell BK250.out 7).trans rfl, (blk_cell BK250.out 8).trans rfl⟩ (fun hHeld => ?_)
     clear hK K
     refine norm_ (a' := ?_) ?_ ?_
     rotate_left
     ·
      show Act.put _ (some 16) _ = _
      simp only [Act.put, List.setIfInBounds_toArray, List.set_cons_zero, List.set_cons_succ, i64_w, i32_w]
      rfl
     exact norm_ (by simp only [putAll, Act.put, List.setIfInBounds_toArray, List.set_cons_zero, List.set_cons_succ]) (hCont (gb308) _ ⟨hHeld, (by (with_reducible repeat (first | refine blk_drewN ?_ _ | refine blk_drew ?_ | refine blk_alloc ?_ _)); exact BK249.out), (by (with_reducible repeat (first | refine blk_drewN ?_ _ | refine blk_drew ?_ | refine blk_alloc ?_ _)); exact BK250.out), (by (with_reducible repeat (first | refine blk_drewN ?_ _ | refine blk_drew ?_ | refine blk_alloc ?_ _)); exact BK279.out), (by (with_reducible repeat (first | refine blk_drewN ?_ _ | refine blk_drew ?_ | refine blk_alloc ?_ _)); exact BK308.out), GW308.out, GE308.out, NB249_308.out, NB308_249.out, NB250_308.out, NB308_250.out, NB279_308.out, NB308_279.out, (by repeat (first | (with_reducible first | exact HB.out | apply below_alloc | apply pw_below_drewN | apply below_drew1 | refine below_set ?_ GE249.out | refine below_set ?_ GE250.out | refine below_set ?_ GE279.out | refine below_set ?_ GE308.out) | exact HB.out))⟩)
   ·
    skip
    refine box_step ?hg (N := 6) ?hd (cs := #[.int .i64 0, .int .i64 0, .int .i64 0, .int .i64 0, .int .i64 0, .int .i64 0, .int .i64 0, .int .i64 0, .int .i64 0, .int .i64 0]) (t := 37) ?hr ?_; (case hd => rfl); (case hg => rfl); (case hr => first | (go_simp; done) | (go_simp; rfl))
    intro gb308 hg w31 hbox hb
    have n0_ := Aside0.mk (blk_below_u BK249.out hb)
    have n1_ := Aside0.mk (blk_below_u BK250.out hb)
    have n2_ := Aside0.mk (blk_below_u BK279.out hb)
    have n3_ := Aside0.mk (below_step (by repeat (first | (with_reducible first | exact HB.out | apply below_alloc | apply pw_below_drewN | apply below_drew1 | refine below_set ?_ GE249.out | refine below_set ?_ GE250.out | refine below_set ?_ GE279.out) | exact HB.out)) hb)
    have n4_ := Aside0.mk (hbox)
    have n5_ := Aside0.mk ((by rw [hg]; exact (below_size (by repeat (first | (with_reducible first | exact HB.out | apply below_alloc | apply pw_below_drewN | apply below_drew1 | refine below_set ?_ GE249.out | refine below_set ?_ GE250.out | refine below_set ?_ GE279.out) | exact HB.out))) : w.heap.size ≤ gb308))
    have n6_ := Aside0.mk ((by rw [hg]; exact (below_size (by repeat (first | (with_reducible first | exact HB.out | apply below_alloc | apply pw_below_drewN | apply below_drew1 | refine below_set ?_ GE249.out | refine below_set ?_ GE250.out | refine below_set ?_ GE279.out) | exact HB.out))) : w.heap.size ≤ gb308))
    have n7_ := Aside0.mk ((by rw [hg]; exact Nat.ne_of_lt (blk_lt_u BK249.out) : gb249 ≠ gb308))
    have n8_ := Aside0.mk ((by rw [hg]; exact Nat.ne_of_gt (blk_lt_u BK249.out) : gb308 ≠ gb249))
    have n9_ := Aside0.mk ((by rw [hg]; exact Nat.ne_of_lt (blk_lt_u BK250.out) : gb250 ≠ gb308))
    have n10_ := Aside0.mk ((by rw [hg]; exact Nat.ne_of_gt (blk_lt_u BK250.out) : gb308 ≠ gb250))
    have n11_ := Aside0.mk ((by rw [hg]; exact Nat.ne_of_lt (blk_lt_u BK279.out) : gb279 ≠ gb308))
    have n12_ := Aside0.mk ((by rw [hg]; exact Nat.ne_of_gt (blk_lt_u BK279.out) : gb308 ≠ gb279))
    clear BK249
    clear BK250
    clear BK279
    clear HB
    have BK249 := n0_
    have BK250 := n1_
    have BK279 := n2_
    have HB := n3_
    have BK308 := n4_
    have GW308 := n5_
    have GE308 := n6_
    have NB249_308 := n7_
    have NB308_249 := n8_
    have NB250_308 := n9_
    have NB308_250 := n10_
    have NB279_308 := n11_
    have NB308_279 := n12_
    clear n0_ n1_ n2_ n3_ n4_ n5_ n6_ n7_ n8_ n9_ n10_ n11_ n12_
    clear hb hbox hg
    refine hK.out _ _ ⟨(blk_cell BK249.out 0).trans rfl, (blk_cell BK249.out 1).trans rfl, (blk_cell BK249.out 2).trans rfl, (blk_cell BK249.out 3).trans rfl, (blk_cell BK249.out 4).trans rfl, (blk_cell BK249.out 5).trans rfl, (blk_cell BK249.out 6).trans rfl, (blk_cell BK249.out 7).trans rfl, (blk_cell BK249.out 8).trans rfl, (blk_cell BK250.out 0).trans rfl, (blk_cell BK250.out 1).trans rfl, (blk_cell BK250.out 2).trans rfl, (blk_cell BK250.out 3).trans rfl, (blk_cell BK250.out 4).trans rfl, (blk_cell BK250.out 5).trans rfl, (blk_cell BK250.out 6).trans rfl, (blk_cell BK250.out 7).trans rfl, (blk_cell BK250.out 8).trans rfl⟩ (fun hHeld => ?_)
    clear hK K
    refine norm_ (a' := ?_) ?_ ?_
    rotate_left
    ·
     show Act.put _ (some 6) _ = _
     simp only [Act.put, List.setIfInBounds_toArray, List.set_cons_zero, List.set_cons_succ, i64_w, i32_w]
     rfl
    refine one_ (i := 1) (N := some 13) #[true, true, true, false, false, true, false] rfl rfl (by kernel_rfl) (by decide) (fun K hK => ?_)
    refine goes_ Try.func21 (by kernel_rfl) rfl #[.agg #[.int .i64 a0_0, .int .i64 a0_1, .int .i64 a0_2, .int .i64 a0_3, .int .i64 a0_4, .int .i64 a0_5, .int .i64 a0_6, .int .i64 a0_7, .int .i64 a0_8]] (by rfl) rfl rfl (by (try simp only [List.map_toArray, List.map_cons, List.map_nil]); first | done | rfl | (simp only [List.length_drop, List.length_take]; rfl)) ?_
    with_reducible refine (laws_toSel.calls a0_0 a0_1 a0_2 a0_3 a0_4 a0_5 a0_6 a0_7 a0_8 t280 t281 t282 t283 t284 t285 t286 t287 t288 _ A6.out).mono ?_
    rintro e w32 ⟨rfl, hb⟩
    refine ⟨_, rfl, ?_⟩
    have n0_ := Aside0.mk (blk_below_u BK249.out hb)
    have n1_ := Aside0.mk (blk_below_u BK250.out hb)
    have n2_ := Aside0.mk (blk_below_u BK279.out hb)
    have n3_ := Aside0.mk (blk_below_u BK308.out hb)
    have n4_ := Aside0.mk (below_step (by repeat (first | (with_reducible first | exact HB.out | apply below_alloc | apply pw_below_drewN | apply below_drew1 | refine below_set ?_ GE249.out | refine below_set ?_ GE250.out | refine below_set ?_ GE279.out | refine below_set ?_ GE308.out) | exact HB.out)) hb)
    clear BK249
    clear BK250
    clear BK279
    clear BK308
    clear HB
    have BK249 := n0_
    have BK250 := n1_
    have BK279 := n2_
    have BK308 := n3_
    have HB := n4_
    clear n0_ n1_ n2_ n3_ n4_
    (try clear hb)
    (try clear hb2)
    (try clear hk)
    (try clear hi)
    refine hK.out _ _ ⟨(blk_cell BK249.out 0).trans rfl, (blk_cell BK249.out 1).trans rfl, (blk_cell BK249.out 2).trans rfl, (blk_cell BK249.out 3).trans rfl, (blk_cell BK249.out 4).trans rfl, (blk_cell BK249.out 5).trans rfl, (blk_cell BK249.out 6).trans rfl, (blk_cell BK249.out 7).trans rfl, (blk_cell BK249.out 8).trans rfl, (blk_cell BK250.out 0).trans rfl, (blk_cell BK250.out 1).trans rfl, (blk_cell BK250.out 2).trans rfl, (blk_cell BK250.out 3).trans rfl, (blk_cell BK250.out 4).trans rfl, (blk_cell BK250.out 5).trans rfl, (blk_cell BK250.out 6).trans rfl, (blk_cell BK250.out 7).trans rfl, (blk_cell BK250.out 8).trans rfl⟩ (fun hHeld => ?_)
    clear hK K
    refine norm_ (a' := ?_) ?_ ?_
    rotate_left
    ·
     show Act.put _ (some 13) _ = _
     simp only [Act.put, List.setIfInBounds_toArray, List.set_cons_zero, List.set_cons_succ, i64_w, i32_w]
     rfl
    refine one_ (i := 3) (N := some 15) #[true, true, true, true, false, true, false] rfl rfl (by kernel_rfl) (by decide) (fun K hK => ?_)
    refine goes_ Try.func21 (by kernel_rfl) rfl #[.agg #[.int .i64 a1_0, .int .i64 a1_1, .int .i64 a1_2, .int .i64 a1_3, .int .i64 a1_4, .int .i64 a1_5, .int .i64 a1_6, .int .i64 a1_7, .int .i64 a1_8]] (by rfl) rfl rfl (by (try simp only [List.map_toArray, List.map_cons, List.map_nil]); first | done | rfl | (simp only [List.length_drop, List.length_take]; rfl)) ?_
    with_reducible refine (laws_toSel.calls a1_0 a1_1 a1_2 a1_3 a1_4 a1_5 a1_6 a1_7 a1_8 t289 t290 t291 t292 t293 t294 t295 t296 t297 _ A7.out).mono ?_
    rintro e w33 ⟨rfl, hb⟩
    refine ⟨_, rfl, ?_⟩
    have n0_ := Aside0.mk (blk_below_u BK249.out hb)
    have n1_ := Aside0.mk (blk_below_u BK250.out hb)
    have n2_ := Aside0.mk (blk_below_u BK279.out hb)
    have n3_ := Aside0.mk (blk_below_u BK308.out hb)
    have n4_ := Aside0.mk (below_step (by repeat (first | (with_reducible first | exact HB.out | apply below_alloc | apply pw_below_drewN | apply below_drew1 | refine below_set ?_ GE249.out | refine below_set ?_ GE250.out | refine below_set ?_ GE279.out | refine below_set ?_ GE308.out) | exact HB.out)) hb)
    clear BK249
    clear BK250
    clear BK279
    clear BK308
    clear HB
    have BK249 := n0_
    have BK250 := n1_
    have BK279 := n2_
    have BK308 := n3_
    have HB := n4_
    clear n0_ n1_ n2_ n3_ n4_
    (try clear hb)
    (try clear hb2)
    (try clear hk)
    (try clear hi)
    refine hK.out _ _ ⟨(blk_cell BK249.out 0).trans rfl, (blk_cell BK249.out 1).trans rfl, (blk_cell BK249.out 2).trans rfl, (blk_cell BK249.out 3).trans rfl, (blk_cell BK249.out 4).trans rfl, (blk_cell BK249.out 5).trans rfl, (blk_cell BK249.out 6).trans rfl, (blk_cell BK249.out 7).trans rfl, (blk_cell BK249.out 8).trans rfl, (blk_cell BK250.out 0).trans rfl, (blk_cell BK250.out 1).trans rfl, (blk_cell BK250.out 2).trans rfl, (blk_cell BK250.out 3).trans rfl, (blk_cell BK250.out 4).trans rfl, (blk_cell BK250.out 5).trans rfl, (blk_cell BK250.out 6).trans rfl, (blk_cell BK250.out 7).trans rfl, (blk_cell BK250.out 8).trans rfl⟩ (fun hHeld => ?_)
    clear hK K
    refine norm_ (a' := ?_) ?_ ?_
    rotate_left
    ·
     show Act.put _ (some 15) _ = _
     simp only [Act.put, List.setIfInBounds_toArray, List.set_cons_zero, List.set_cons_succ, i64_w, i32_w]
     rfl
    refine one_ (i := 4) (N := some 16) #[true, true, true, true, true, true, false] rfl rfl (by kernel_rfl) (by decide) (fun K hK => ?_)
    refine goes_ Try.func66 (by kernel_rfl) rfl #[.agg #[.int .i64 t280, .int .i64 t281, .int .i64 t282, .int .i64 t283, .int .i64 t284, .int .i64 t285, .int .i64 t286, .int .i64 t287, .int .i64 t288], .agg #[.int .i64 t289, .int .i64 t290, .int .i64 t291, .int .i64 t292, .int .i64 t293, .int .i64 t294, .int .i64 t295, .int .i64 t296, .int .i64 t297]] (by rfl) rfl rfl (by (try simp only [List.map_toArray, List.map_cons, List.map_nil]); first | done | rfl | (simp only [List.length_drop, List.length_take]; rfl)) ?_
    with_reducible refine (impl_MeetSels.calls k t280 t281 t282 t283 t284 t285 t286 t287 t288 t289 t290 t291 t292 t293 t294 t295 t296 t297 t298 t299 t300 t301 t302 t303 t304 t305 t306 t307 _ A8.out).mono ?_
    rintro e w34 ⟨rfl, hb⟩
    refine ⟨_, rfl, ?_⟩
    have n0_ := Aside0.mk (blk_below_u BK249.out hb)
    have n1_ := Aside0.mk (blk_below_u BK250.out hb)
    have n2_ := Aside0.mk (blk_below_u BK279.out hb)
    have n3_ := Aside0.mk (blk_below_u BK308.out hb)
    have n4_ := Aside0.mk (below_step (by repeat (first | (with_reducible first | exact HB.out | apply below_alloc | apply pw_below_drewN | apply below_drew1 | refine below_set ?_ GE249.out | refine below_set ?_ GE250.out | refine below_set ?_ GE279.out | refine below_set ?_ GE308.out) | exact HB.out)) hb)
    clear BK249
    clear BK250
    clear BK279
    clear BK308
    clear HB
    have BK249 := n0_
    have BK250 := n1_
    have BK279 := n2_
    have BK308 := n3_
    have HB := n4_
    clear n0_ n1_ n2_ n3_ n4_
    (try clear hb)
    (try clear hb2)
    (try clear hk)
    (try clear hi)
    refine hK.out _ _ ⟨(blk_cell BK249.out 0).trans rfl, (blk_cell BK249.out 1).trans rfl, (blk_cell BK249.out 2).trans rfl, (blk_cell BK249.out 3).trans rfl, (blk_cell BK249.out 4).trans rfl, (blk_cell BK249.out 5).trans rfl, (blk_cell BK249.out 6).trans rfl, (blk_cell BK249.out 7).trans rfl, (blk_cell BK249.out 8).trans rfl, (blk_cell BK250.out 0).trans rfl, (blk_cell BK250.out 1).trans rfl, (blk_cell BK250.out 2).trans rfl, (blk_cell BK250.out 3).trans rfl, (blk_cell BK250.out 4).trans rfl, (blk_cell BK250.out 5).trans rfl, (blk_cell BK250.out 6).trans rfl, (blk_cell BK250.out 7).trans rfl, (blk_cell BK250.out 8).trans rfl⟩ (fun hHeld => ?_)
    clear hK K
    refine norm_ (a' := ?_) ?_ ?_
    rotate_left
    ·
     show Act.put _ (some 16) _ = _
     simp only [Act.put, List.setIfInBounds_toArray, List.set_cons_zero, List.set_cons_succ, i64_w, i32_w]
     rfl
    exact norm_ (by simp only [putAll, Act.put, List.setIfInBounds_toArray, List.set_cons_zero, List.set_cons_succ]) (hCont (gb308) _ ⟨hHeld, (by (with_reducible repeat (first | refine blk_drewN ?_ _ | refine blk_drew ?_ | refine blk_alloc ?_ _)); exact BK249.out), (by (with_reducible repeat (first | refine blk_drewN ?_ _ | refine blk_drew ?_ | refine blk_alloc ?_ _)); exact BK250.out), (by (with_reducible repeat (first | refine blk_drewN ?_ _ | refine blk_drew ?_ | refine blk_alloc ?_ _)); exact BK279.out), (by (with_reducible repeat (first | refine blk_drewN ?_ _ | refine blk_drew ?_ | refine blk_alloc ?_ _)); exact BK308.out), GW308.out, GE308.out, NB249_308.out, NB308_249.out, NB250_308.out, NB308_250.out, NB279_308.out, NB308_279.out, (by repeat (first | (with_reducible first | exact HB.out | apply below_alloc | apply pw_below_drewN | apply below_drew1 | refine below_set ?_ GE249.out | refine below_set ?_ GE250.out | refine below_set ?_ GE279.out | refine below_set ?_ GE308.out) | exact HB.out))⟩)
  rintro gb308 w35 ⟨hS_, h0_, h1_, h2_, h3_, h4_, h5_, h6_, h7_, h8_, h9_, h10_, h11_, h12_⟩
  have n0_ : Aside0 (w35.heap[gb249]? = some (.cells #[.int .i64 a0_0, .int .i64 a0_1, .int .i64 a0_2, .int .i64 a0_3, .int .i64 a0_4, .int .i64 a0_5, .int .i64 a0_6, .int .i64 a0_7, .int .i64 a0_8] 32 (0, 0))) := ⟨h0_⟩
  have n1_ : Aside0 (w35.heap[gb250]? = some (.cells #[.int .i64 a1_0, .int .i64 a1_1, .int .i64 a1_2, .int .i64 a1_3, .int .i64 a1_4, .int .i64 a1_5, .int .i64 a1_6, .int .i64 a1_7, .int .i64 a1_8] 32 (0, 0))) := ⟨h1_⟩
  have n2_ : Aside0 (w35.heap[gb279]? = some (.cells #[.int .i64 t269, .int .i64 t270, .int .i64 t271, .int .i64 t272, .int .i64 t273, .int .i64 t274, .int .i64 t275, .int .i64 t276, .int .i64 t277, .int .i64 t278] 37 (0, 0))) := ⟨h2_⟩
  have n3_ : Aside0 (w35.heap[gb308]? = some (.cells #[.int .i64 0, .int .i64 0, .int .i64 0, .int .i64 0, .int .i64 0, .int .i64 0, .int .i64 0, .int .i64 0, .int .i64 0, .int .i64 0] 37 (0, 0))) := ⟨h3_⟩
  have n4_ : Aside0 (w.heap.size ≤ gb308) := ⟨h4_⟩
  have n5_ : Aside0 (w.heap.size ≤ gb308) := ⟨h5_⟩
  have n6_ : Aside0 (gb249 ≠ gb308) := ⟨h6_⟩
  have n7_ : Aside0 (gb308 ≠ gb249) := ⟨h7_⟩
  have n8_ : Aside0 (gb250 ≠ gb308) := ⟨h8_⟩
  have n9_ : Aside0 (gb308 ≠ gb250) := ⟨h9_⟩
  have n10_ : Aside0 (gb279 ≠ gb308) := ⟨h10_⟩
  have n11_ : Aside0 (gb308 ≠ gb279) := ⟨h11_⟩
  have n12_ : Aside0 (Below w.heap.size w w35) := ⟨h12_⟩
  clear BK249
  clear BK250
  clear BK279
  clear HB
  clear h0_ h1_ h2_ h3_ h4_ h5_ h6_ h7_ h8_ h9_ h10_ h11_ h12_
  have BK249 := n0_
  have BK250 := n1_
  have BK279 := n2_
  have BK308 := n3_
  have GW308 := n4_
  have GE308 := n5_
  have NB249_308 := n6_
  have NB308_249 := n7_
  have NB250_308 := n8_
  have NB308_250 := n9_
  have NB279_308 := n10_
  have NB308_279 := n11_
  have HB := n12_
  clear n0_ n1_ n2_ n3_ n4_ n5_ n6_ n7_ n8_ n9_ n10_ n11_ n12_
  have hHeld : w35.cell? ⟨gb249, 0, none⟩ = some (.int .i64 a0_0) ∧ w35.cell? ⟨gb249, 1, none⟩ = some (.int .i64 a0_1) ∧ w35.cell? ⟨gb249, 2, none⟩ = some (.int .i64 a0_2) ∧ w35.cell? ⟨gb249, 3, none⟩ = some (.int .i64 a0_3) ∧ w35.cell? ⟨gb249, 4, none⟩ = some (.int .i64 a0_4) ∧ w35.cell? ⟨gb249, 5, none⟩ = some (.int .i64 a0_5) ∧ w35.cell? ⟨gb249, 6, none⟩ = some (.int .i64 a0_6) ∧ w35.cell? ⟨gb249, 7, none⟩ = some (.int .i64 a0_7) ∧ w35.cell? ⟨gb249, 8, none⟩ = some (.int .i64 a0_8) ∧ w35.cell? ⟨gb250, 0, none⟩ = some (.int .i64 a1_0) ∧ w35.cell? ⟨gb250, 1, none⟩ = some (.int .i64 a1_1) ∧ w35.cell? ⟨gb250, 2, none⟩ = some (.int .i64 a1_2) ∧ w35.cell? ⟨gb250, 3, none⟩ = some (.int .i64 a1_3) ∧ w35.cell? ⟨gb250, 4, none⟩ = some (.int .i64 a1_4) ∧ w35.cell? ⟨gb250, 5, none⟩ = some (.int .i64 a1_5) ∧ w35.cell? ⟨gb250, 6, none⟩ = some (.int .i64 a1_6) ∧ w35.cell? ⟨gb250, 7, none⟩ = some (.int .i64 a1_7) ∧ w35.cell? ⟨gb250, 8, none⟩ = some (.int .i64 a1_8) := hS_
  refine norm_ (a' := ?_) ?_ ?_
  rotate_left
  ·
   simp only [putAll, Act.put, List.setIfInBounds_toArray, List.set_cons_zero, List.set_cons_succ]
   rfl
  refine one_ (i := 6) (N := none) #[true, true, true, true, true, true, true] rfl rfl (by kernel_rfl) (by decide) (fun K hK => ?_)
  have hs36 : w35.cell? ⟨gb308, 0, none⟩ = some (.int .i64 0) := (blk_cell BK308.out 0).trans rfl
  have hfs36 := blk_frozen BK308.out 0
  have hns36_0 := NB249_308.out
  have hns36_1 := NB250_308.out
  have hns36_2 := NB279_308.out
  have hms36_0 := NB308_249.out
  have hms36_1 := NB308_250.out
  have hms36_2 := NB308_279.out
  have hs37 : w35.cell? ⟨gb308, 1, none⟩ = some (.int .i64 0) := (blk_cell BK308.out 1).trans rfl
  have hfs37 := blk_frozen BK308.out 1
  have hns37_0 := NB249_308.out
  have hns37_1 := NB250_308.out
  have hns37_2 := NB279_308.out
  have hms37_0 := NB308_249.out
  have hms37_1 := NB308_250.out
  have hms37_2 := NB308_279.out
  have hs38 : w35.cell? ⟨gb308, 2, none⟩ = some (.int .i64 0) := (blk_cell BK308.out 2).trans rfl
  have hfs38 := blk_frozen BK308.out 2
  have hns38_0 := NB249_308.out
  have hns38_1 := NB250_308.out
  have hns38_2 := NB279_308.out
  have hms38_0 := NB308_249.out
  have hms38_1 := NB308_250.out
  have hms38_2 := NB308_279.out
  have hs39 : w35.cell? ⟨gb308, 3, none⟩ = some (.int .i64 0) := (blk_cell BK308.out 3).trans rfl
  have hfs39 := blk_frozen BK308.out 3
  have hns39_0 := NB249_308.out
  have hns39_1 := NB250_308.out
  have hns39_2 := NB279_308.out
  have hms39_0 := NB308_249.out
  have hms39_1 := NB308_250.out
  have hms39_2 := NB308_279.out
  have hs40 : w35.cell? ⟨gb308, 4, none⟩ = some (.int .i64 0) := (blk_cell BK308.out 4).trans rfl
  have hfs40 := blk_frozen BK308.out 4
  have hns40_0 := NB249_308.out
  have hns40_1 := NB250_308.out
  have hns40_2 := NB279_308.out
  have hms40_0 := NB308_249.out
  have hms40_1 := NB308_250.out
  have hms40_2 := NB308_279.out
  have hs41 : w35.cell? ⟨gb308, 5, none⟩ = some (.int .i64 0) := (blk_cell BK308.out 5).trans rfl
  have hfs41 := blk_frozen BK308.out 5
  have hns41_0 := NB249_308.out
  have hns41_1 := NB250_308.out
  have hns41_2 := NB279_308.out
  have hms41_0 := NB308_249.out
  have hms41_1 := NB308_250.out
  have hms41_2 := NB308_279.out
  have hs42 : w35.cell? ⟨gb308, 6, none⟩ = some (.int .i64 0) := (blk_cell BK308.out 6).trans rfl
  have hfs42 := blk_frozen BK308.out 6
  have hns42_0 := NB249_308.out
  have hns42_1 := NB250_308.out
  have hns42_2 := NB279_308.out
  have hms42_0 := NB308_249.out
  have hms42_1 := NB308_250.out
  have hms42_2 := NB308_279.out
  have hs43 : w35.cell? ⟨gb308, 7, none⟩ = some (.int .i64 0) := (blk_cell BK308.out 7).trans rfl
  have hfs43 := blk_frozen BK308.out 7
  have hns43_0 := NB249_308.out
  have hns43_1 := NB250_308.out
  have hns43_2 := NB279_308.out
  have hms43_0 := NB308_249.out
  have hms43_1 := NB308_250.out
  have hms43_2 := NB308_279.out
  have hs44 : w35.cell? ⟨gb308, 8, none⟩ = some (.int .i64 0) := (blk_cell BK308.out 8).trans rfl
  have hfs44 := blk_frozen BK308.out 8
  have hns44_0 := NB249_308.out
  have hns44_1 := NB250_308.out
  have hns44_2 := NB279_308.out
  have hms44_0 := NB308_249.out
  have hms44_1 := NB308_250.out
  have hms44_2 := NB308_279.out
  have hs45 : w35.cell? ⟨gb308, 9, none⟩ = some (.int .i64 0) := (blk_cell BK308.out 9).trans rfl
  have hfs45 := blk_frozen BK308.out 9
  have hns45_0 := NB249_308.out
  have hns45_1 := NB250_308.out
  have hns45_2 := NB279_308.out
  have hms45_0 := NB308_249.out
  have hms45_1 := NB308_250.out
  have hms45_2 := NB308_279.out
  refine skip_ (w1 := ?_) (by rfl) rfl ?_ ?_
  rotate_left
  ·
   go_simp
   rfl
  refine hK.out _ _ ⟨((cell_far (p := ⟨gb308, _, none⟩) NB249_308.out _).trans (((cell_far (p := ⟨gb308, _, none⟩) NB249_308.out _).trans (((cell_far (p := ⟨gb308, _, none⟩) NB249_308.out _).trans (((cell_far (p := ⟨gb308, _, none⟩) NB249_308.out _).trans (((cell_far (p := ⟨gb308, _, none⟩) NB249_308.out _).trans (((cell_far (p := ⟨gb308, _, none⟩) NB249_308.out _).trans (((cell_far (p := ⟨gb308, _, none⟩) NB249_308.out _).trans (((cell_far (p := ⟨gb308, _, none⟩) NB249_308.out _).trans (((cell_far (p := ⟨gb308, _, none⟩) NB249_308.out _).trans (((cell_far (p := ⟨gb308, _, none⟩) NB249_308.out _).trans (hHeld.1)))))))))))))))))))), ((cell_far (p := ⟨gb308, _, none⟩) NB249_308.out _).trans (((cell_far (p := ⟨gb308, _, none⟩) NB249_308.out _).trans (((cell_far (p := ⟨gb308, _, none⟩) NB249_308.out _).trans (((cell_far (p := ⟨gb308, _, none⟩) NB249_308.out _).trans (((cell_far (p := ⟨gb308, _, none⟩) NB249_308.out _).trans (((cell_far (p := ⟨gb308, _, none⟩) NB249_308.out _).trans (((cell_far (p := ⟨gb308, _, none⟩) NB249_308.out _).trans (((cell_far (p := ⟨gb308, _, none⟩) NB249_308.out _).trans (((cell_far (p := ⟨gb308, _, none⟩) NB249_308.out _).trans (((cell_far (p := ⟨gb308, _, none⟩) NB249_308.out _).trans (hHeld.2.1)))))))))))))))))))), ((cell_far (p := ⟨gb308, _, none⟩) NB249_308.out _).trans (((cell_far (p := ⟨gb308, _, none⟩) NB249_308.out _).trans (((cell_far (p := ⟨gb308, _, none⟩) NB249_308.out _).trans (((cell_far (p := ⟨gb308, _, none⟩) NB249_308.out _).trans (((cell_far (p := ⟨gb308, _, none⟩) NB249_308.out _).trans (((cell_far (p := ⟨gb308, _, none⟩) NB249_308.out _).trans (((cell_far (p := ⟨gb308, _, none⟩) NB249_308.out _).trans (((cell_far (p := ⟨gb308, _, none⟩) NB249_308.out _).trans (((cell_far (p := ⟨gb308, _, none⟩) NB249_308.out _).trans (((cell_far (p := ⟨gb308, _, none⟩) NB249_308.out _).trans (hHeld.2.2.1)))))))))))))))))))), ((cell_far (p := ⟨gb308, _, none⟩) NB249_308.out _).trans (((cell_far (p := ⟨gb308, _, none⟩) NB249_308.out _).trans (((cell_far (p := ⟨gb308, _, none⟩) NB249_308.out _).trans (((cell_far (p := ⟨gb308, _, none⟩) NB249_308.out _).trans (((cell_far (p := ⟨gb308, _, none⟩) NB249_308.out _).trans (((cell_far (p := ⟨gb308, _, none⟩) NB249_308.out _).trans (((cell_far (p := ⟨gb308, _, none⟩) NB249_308.out _).trans (((cell_far (p := ⟨gb308, _, none⟩) NB249_308.out _).trans (((cell_far (p := ⟨gb308, _, none⟩) NB249_308.out _).trans (((cell_far (p := ⟨gb308, _, none⟩) NB249_308.out _).trans (hHeld.2.2.2.1)))))))))))))))))))), ((cell_far (p := ⟨gb308, _, none⟩) NB249_308.out _).trans (((cell_far (p := ⟨gb308, _, none⟩) NB249_308.out _).trans (((cell_far (p := ⟨gb308, _, none⟩) NB249_308.out _).trans (((cell_far (p := ⟨gb308, _, none⟩) NB249_308.out _).trans (((cell_far (p := ⟨gb308, _, none⟩) NB249_308.out _).trans (((cell_far (p := ⟨gb308, _, none⟩) NB249_308.out _).trans (((cell_far (p := ⟨gb308, _, none⟩) NB249_308.out _).trans (((cell_far (p := ⟨gb308, _, none⟩) NB249_308.out _).trans (((cell_far (p := ⟨gb308, _, none⟩) NB249_308.out _).trans (((cell_far (p := ⟨gb308, _, none⟩) NB249_308.out _).trans (hHeld.2.2.2.2.1)))))))))))))))))))), ((cell_far (p := ⟨gb308, _, none⟩) NB249_308.out _).trans (((cell_far (p := ⟨gb308, _, none⟩) NB249_308.out _).trans (((cell_far (p := ⟨gb308, _, none⟩) NB249_308.out _).trans (((cell_far (p := ⟨gb308, _, none⟩) NB249_308.out _).trans (((cell_far (p := ⟨gb308, _, none⟩) NB249_308.out _).trans (((cell_far (p := ⟨gb308, _, none⟩) NB249_308.out _).trans (((cell_far (p := ⟨gb308, _, none⟩) NB249_308.out _).trans (((cell_far (p := ⟨gb308, _, none⟩) NB249_308.out _).trans (((cell_far (p := ⟨gb308, _, none⟩) NB249_308.out _).trans (((cell_far (p := ⟨gb308, _, none⟩) NB249_308.out _).trans (hHeld.2.2.2.2.2.1)))))))))))))))))))), ((cell_far (p := ⟨gb308, _, none⟩) NB249_308.out _).trans (((cell_far (p := ⟨gb308, _, none⟩) NB249_308.out _).trans (((cell_far (p := ⟨gb308, _, none⟩) NB249_308.out _).trans (((cell_far (p := ⟨gb308, _, none⟩) NB249_308.out _).trans (((cell_far (p := ⟨gb308, _, none⟩) NB249_308.out _).trans (((cell_far (p := ⟨gb308, _, none⟩) NB249_308.out _).trans (((cell_far (p := ⟨gb308, _, none⟩) NB249_308.out _).trans (((cell_far (p := ⟨gb308, _, none⟩) NB249_308.out _).trans (((cell_far (p := ⟨gb308, _, none⟩) NB249_308.out _).trans (((cell_far (p := ⟨gb308, _, none⟩) NB249_308.out _).trans (hHeld.2.2.2.2.2.2.1)))))))))))))))))))), ((cell_far (p := ⟨gb308, _, none⟩) NB249_308.out _).trans (((cell_far (p := ⟨gb308, _, none⟩) NB249_308.out _).trans (((cell_far (p := ⟨gb308, _, none⟩) NB249_308.out _).trans (((cell_far (p := ⟨gb308, _, none⟩) NB249_308.out _).trans (((cell_far (p := ⟨gb308, _, none⟩) NB249_308.out _).trans (((cell_far (p := ⟨gb308, _, none⟩) NB249_308.out _).trans (((cell_far (p := ⟨gb308, _, none⟩) NB249_308.out _).trans (((cell_far (p := ⟨gb308, _, none⟩) NB249_308.out _).trans (((cell_far (p := ⟨gb308, _, none⟩) NB249_308.out _).trans (((cell_far (p := ⟨gb308, _, none⟩) NB249_308.out _).trans (hHeld.2.2.2.2.2.2.2.1)))))))))))))))))))), ((cell_far (p := ⟨gb308, _, none⟩) NB249_308.out _).trans (((cell_far (p := ⟨gb308, _, none⟩) NB249_308.out _).trans (((cell_far (p := ⟨gb308, _, none⟩) NB249_308.out _).trans (((cell_far (p := ⟨gb308, _, none⟩) NB249_308.out _).trans (((cell_far (p := ⟨gb308, _, none⟩) NB249_308.out _).trans (((cell_far (p := ⟨gb308, _, none⟩) NB249_308.out _).trans (((cell_far (p := ⟨gb308, _, none⟩) NB249_308.out _).trans (((cell_far (p := ⟨gb308, _, none⟩) NB249_308.out _).trans (((cell_far (p := ⟨gb308, _, none⟩) NB249_308.out _).trans (((cell_far (p := ⟨gb308, _, none⟩) NB249_308.out _).trans (hHeld.2.2.2.2.2.2.2.2.1)))))))))))))))))))), ((cell_far (p := ⟨gb308, _, none⟩) NB250_308.out _).trans (((cell_far (p := ⟨gb308, _, none⟩) NB250_308.out _).trans (((cell_far (p := ⟨gb308, _, none⟩) NB250_308.out _).trans (((cell_far (p := ⟨gb308, _, none⟩) NB250_308.out _).trans (((cell_far (p := ⟨gb308, _, none⟩) NB250_308.out _).trans (((cell_far (p := ⟨gb308, _, none⟩) NB250_308.out _).trans (((cell_far (p := ⟨gb308, _, none⟩) NB250_308.out _).trans (((cell_far (p := ⟨gb308, _, none⟩) NB250_308.out _).trans (((cell_far (p := ⟨gb308, _, none⟩) NB250_308.out _).trans (((cell_far (p := ⟨gb308, _, none⟩) NB250_308.out _).trans (hHeld.2.2.2.2.2.2.2.2.2.1)))))))))))))))))))), ((cell_far (p := ⟨gb308, _, none⟩) NB250_308.out _).trans (((cell_far (p := ⟨gb308, _, none⟩) NB250_308.out _).trans (((cell_far (p := ⟨gb308, _, none⟩) NB250_308.out _).trans (((cell_far (p := ⟨gb308, _, none⟩) NB250_308.out _).trans (((cell_far (p := ⟨gb308, _, none⟩) NB250_308.out _).trans (((cell_far (p := ⟨gb308, _, none⟩) NB250_308.out _).trans (((cell_far (p := ⟨gb308, _, none⟩) NB250_308.out _).trans (((cell_far (p := ⟨gb308, _, none⟩) NB250_308.out _).trans (((cell_far (p := ⟨gb308, _, none⟩) NB250_308.out _).trans (((cell_far (p := ⟨gb308, _, none⟩) NB250_308.out _).trans (hHeld.2.2.2.2.2.2.2.2.2.2.1)))))))))))))))))))), ((cell_far (p := ⟨gb308, _, none⟩) NB250_308.out _).trans (((cell_far (p := ⟨gb308, _, none⟩) NB250_308.out _).trans (((cell_far (p := ⟨gb308, _, none⟩) NB250_308.out _).trans (((cell_far (p := ⟨gb308, _, none⟩) NB250_308.out _).trans (((cell_far (p := ⟨gb308, _, none⟩) NB250_308.out _).trans (((cell_far (p := ⟨gb308, _, none⟩) NB250_308.out _).trans (((cell_far (p := ⟨gb308, _, none⟩) NB250_308.out _).trans (((cell_far (p := ⟨gb308, _, none⟩) NB250_308.out _).trans (((cell_far (p := ⟨gb308, _, none⟩) NB250_308.out _).trans (((cell_far (p := ⟨gb308, _, none⟩) NB250_308.out _).trans (hHeld.2.2.2.2.2.2.2.2.2.2.2.1)))))))))))))))))))), ((cell_far (p := ⟨gb308, _, none⟩) NB250_308.out _).trans (((cell_far (p := ⟨gb308, _, none⟩) NB250_308.out _).trans (((cell_far (p := ⟨gb308, _, none⟩) NB250_308.out _).trans (((cell_far (p := ⟨gb308, _, none⟩) NB250_308.out _).trans (((cell_far (p := ⟨gb308, _, none⟩) NB250_308.out _).trans (((cell_far (p := ⟨gb308, _, none⟩) NB250_308.out _).trans (((cell_far (p := ⟨gb308, _, none⟩) NB250_308.out _).trans (((cell_far (p := ⟨gb308, _, none⟩) NB250_308.out _).trans (((cell_far (p := ⟨gb308, _, none⟩) NB250_308.out _).trans (((cell_far (p := ⟨gb308, _, none⟩) NB250_308.out _).trans (hHeld.2.2.2.2.2.2.2.2.2.2.2.2.1)))))))))))))))))))), ((cell_far (p := ⟨gb308, _, none⟩) NB250_308.out _).trans (((cell_far (p := ⟨gb308, _, none⟩) NB250_308.out _).trans (((cell_far (p := ⟨gb308, _, none⟩) NB250_308.out _).trans (((cell_far (p := ⟨gb308, _, none⟩) NB250_308.out _).trans (((cell_far (p := ⟨gb308, _, none⟩) NB250_308.out _).trans (((cell_far (p := ⟨gb308, _, none⟩) NB250_308.out _).trans (((cell_far (p := ⟨gb308, _, none⟩) NB250_308.out _).trans (((cell_far (p := ⟨gb308, _, none⟩) NB250_308.out _).trans (((cell_far (p := ⟨gb308, _, none⟩) NB250_308.out _).trans (((cell_far (p := ⟨gb308, _, none⟩) NB250_308.out _).trans (hHeld.2.2.2.2.2.2.2.2.2.2.2.2.2.1)))))))))))))))))))), ((cell_far (p := ⟨gb308, _, none⟩) NB250_308.out _).trans (((cell_far (p := ⟨gb308, _, none⟩) NB250_308.out _).trans (((cell_far (p := ⟨gb308, _, none⟩) NB250_308.out _).trans (((cell_far (p := ⟨gb308, _, none⟩) NB250_308.out _).trans (((cell_far (p := ⟨gb308, _, none⟩) NB250_308.out _).trans (((cell_far (p := ⟨gb308, _, none⟩) NB250_308.out _).trans (((cell_far (p := ⟨gb308, _, none⟩) NB250_308.out _).trans (((cell_far (p := ⟨gb308, _, none⟩) NB250_308.out _).trans (((cell_far (p := ⟨gb308, _, none⟩) NB250_308.out _).trans (((cell_far (p := ⟨gb308, _, none⟩) NB250_308.out _).trans (hHeld.2.2.2.2.2.2.2.2.2.2.2.2.2.2.1)))))))))))))))))))), ((cell_far (p := ⟨gb308, _, none⟩) NB250_308.out _).trans (((cell_far (p := ⟨gb308, _, none⟩) NB250_308.out _).trans (((cell_far (p := ⟨gb308, _, none⟩) NB250_308.out _).trans (((cell_far (p := ⟨gb308, _, none⟩) NB250_308.out _).trans (((cell_far (p := ⟨gb308, _, none⟩) NB250_308.out _).trans (((cell_far (p := ⟨gb308, _, none⟩) NB250_308.out _).trans (((cell_far (p := ⟨gb308, _, none⟩) NB250_308.out _).trans (((cell_far (p := ⟨gb308, _, none⟩) NB250_308.out _).trans (((cell_far (p := ⟨gb308, _, none⟩) NB250_308.out _).trans (((cell_far (p := ⟨gb308, _, none⟩) NB250_308.out _).trans (hHeld.2.2.2.2.2.2.2.2.2.2.2.2.2.2.2.1)))))))))))))))))))), ((cell_far (p := ⟨gb308, _, none⟩) NB250_308.out _).trans (((cell_far (p := ⟨gb308, _, none⟩) NB250_308.out _).trans (((cell_far (p := ⟨gb308, _, none⟩) NB250_308.out _).trans (((cell_far (p := ⟨gb308, _, none⟩) NB250_308.out _).trans (((cell_far (p := ⟨gb308, _, none⟩) NB250_308.out _).trans (((cell_far (p := ⟨gb308, _, none⟩) NB250_308.out _).trans (((cell_far (p := ⟨gb308, _, none⟩) NB250_308.out _).trans (((cell_far (p := ⟨gb308, _, none⟩) NB250_308.out _).trans (((cell_far (p := ⟨gb308, _, none⟩) NB250_308.out _).trans (((cell_far (p := ⟨gb308, _, none⟩) NB250_308.out _).trans (hHeld.2.2.2.2.2.2.2.2.2.2.2.2.2.2.2.2.1)))))))))))))))))))), ((cell_far (p := ⟨gb308, _, none⟩) NB250_308.out _).trans (((cell_far (p := ⟨gb308, _, none⟩) NB250_308.out _).trans (((cell_far (p := ⟨gb308, _, none⟩) NB250_308.out _).trans (((cell_far (p := ⟨gb308, _, none⟩) NB250_308.out _).trans (((cell_far (p := ⟨gb308, _, none⟩) NB250_308.out _).trans (((cell_far (p := ⟨gb308, _, none⟩) NB250_308.out _).trans (((cell_far (p := ⟨gb308, _, none⟩) NB250_308.out _).trans (((cell_far (p := ⟨gb308, _, none⟩) NB250_308.out _).trans (((cell_far (p := ⟨gb308, _, none⟩) NB250_308.out _).trans (((cell_far (p := ⟨gb308, _, none⟩) NB250_308.out _).trans (hHeld.2.2.2.2.2.2.2.2.2.2.2.2.2.2.2.2.2))))))))))))))))))))⟩ (fun hHeld => ?_)
  clear hK K
  refine done_ (by kernel_rfl) ?_
  have hnb46 := NB308_249.out
  have hnc46 := NB249_308.out
  have hnb47 := NB308_250.out
  have hnc47 := NB250_308.out
  have hnb48 := NB308_279.out
  have hnc48 := NB279_308.out
  obtain ⟨hcz49_0, hcz49_1, hcz49_2, hcz49_3, hcz49_4, hcz49_5, hcz49_6, hcz49_7, hcz49_8, hcz49_9⟩ := blk_c10 BK308.out
  obtain ⟨hfz49_0, hfz49_1, hfz49_2, hfz49_3, hfz49_4, hfz49_5, hfz49_6, hfz49_7, hfz49_8, hfz49_9⟩ := blk_f10 BK308.out
  have hnb50 := NB279_249.out
  have hnc50 := NB249_279.out
  have hnb51 := NB279_250.out
  have hnc51 := NB250_279.out
  obtain ⟨hcz52_0, hcz52_1, hcz52_2, hcz52_3, hcz52_4, hcz52_5, hcz52_6, hcz52_7, hcz52_8, hcz52_9⟩ := blk_c10 BK279.out
  obtain ⟨hfz52_0, hfz52_1, hfz52_2, hfz52_3, hfz52_4, hfz52_5, hfz52_6, hfz52_7, hfz52_8, hfz52_9⟩ := blk_f10 BK279.out
  try go_wp2_with (first | ((with_reducible refine gate_callee (f := 23) rfl ?_); refine goesL_ (some 19) rfl rfl Try.func23 (by kernel_rfl) rfl #[.agg #[.int .i64 t298, .int .i64 t299, .int .i64 t300, .int .i64 t301, .int .i64 t302, .int .i64 t303, .int .i64 t304, .int .i64 t305, .int .i64 t306, .int .i64 t307], .agg #[.int .i64 t269, .int .i64 t270, .int .i64 t271, .int .i64 t272, .int .i64 t273, .int .i64 t274, .int .i64 t275, .int .i64 t276, .int .i64 t277, .int .i64 t278]] rfl (by (try simp only [List.map_toArray, List.map_cons, List.map_nil]); first | done | rfl | (simp only [List.length_drop, List.length_take]; rfl)) ?_; (with_reducible refine (laws_eqSelResult.calls t298 t299 t300 t301 t302 t303 t304 t305 t306 t307 t269 t270 t271 t272 t273 t274 t275 t276 t277 t278 true _ A9.out).mono ?_); rintro e w53 ⟨rfl, hb⟩; refine ⟨_, rfl, ?_⟩; have n0_ := Aside0.mk (blk_below (g := gb249) (o := .cells #[.int .i64 a0_0, .int .i64 a0_1, .int .i64 a0_2, .int .i64 a0_3, .int .i64 a0_4, .int .i64 a0_5, .int .i64 a0_6, .int .i64 a0_7, .int .i64 a0_8] 32 (0, 0)) (by (with_reducible repeat (first | refine blk_drewN ?_ _ | refine blk_drew ?_ | refine blk_alloc ?_ _)); refine blk_far ?_ NB249_308.out _; (with_reducible repeat (first | refine blk_drewN ?_ _ | refine blk_drew ?_ | refine blk_alloc ?_ _)); refine blk_far ?_ NB249_308.out _; (with_reducible repeat (first | refine blk_drewN ?_ _ | refine blk_drew ?_ | refine blk_alloc ?_ _)); refine blk_far ?_ NB249_308.out _; (with_reducible repeat (first | refine blk_drewN ?_ _ | refine blk_drew ?_ | refine blk_alloc ?_ _)); refine blk_far ?_ NB249_308.out _; (with_reducible repeat (first | refine blk_drewN ?_ _ | refine blk_drew ?_ | refine blk_alloc ?_ _)); refine blk_far ?_ NB249_308.out _; (with_reducible repeat (first | refine blk_drewN ?_ _ | refine blk_drew ?_ | refine blk_alloc ?_ _)); refine blk_far ?_ NB249_308.out _; (with_reducible repeat (first | refine blk_drewN ?_ _ | refine blk_drew ?_ | refine blk_alloc ?_ _)); refine blk_far ?_ NB249_308.out _; (with_reducible repeat (first | refine blk_drewN ?_ _ | refine blk_drew ?_ | refine blk_alloc ?_ _)); refine blk_far ?_ NB249_308.out _; (with_reducible repeat (first | refine blk_drewN ?_ _ | refine blk_drew ?_ | refine blk_alloc ?_ _)); refine blk_far ?_ NB249_308.out _; (with_reducible repeat (first | refine blk_drewN ?_ _ | refine blk_drew ?_ | refine blk_alloc ?_ _)); refine blk_far ?_ NB249_308.out _; (with_reducible repeat (first | refine blk_drewN ?_ _ | refine blk_drew ?_ | refine blk_alloc ?_ _)); exact BK249.out) hb); have n1_ := Aside0.mk (blk_below (g := gb250) (o := .cells #[.int .i64 a1_0, .int .i64 a1_1, .int .i64 a1_2, .int .i64 a1_3, .int .i64 a1_4, .int .i64 a1_5, .int .i64 a1_6, .int .i64 a1_7, .int .i64 a1_8] 32 (0, 0)) (by (with_reducible repeat (first | refine blk_drewN ?_ _ | refine blk_drew ?_ | refine blk_alloc ?_ _)); refine blk_far ?_ NB250_308.out _; (with_reducible repeat (first | refine blk_drewN ?_ _ | refine blk_drew ?_ | refine blk_alloc ?_ _)); refine blk_far ?_ NB250_308.out _; (with_reducible repeat (first | refine blk_drewN ?_ _ | refine blk_drew ?_ | refine blk_alloc ?_ _)); refine blk_far ?_ NB250_308.out _; (with_reducible repeat (first | refine blk_drewN ?_ _ | refine blk_drew ?_ | refine blk_alloc ?_ _)); refine blk_far ?_ NB250_308.out _; (with_reducible repeat (first | refine blk_drewN ?_ _ | refine blk_drew ?_ | refine blk_alloc ?_ _)); refine blk_far ?_ NB250_308.out _; (with_reducible repeat (first | refine blk_drewN ?_ _ | refine blk_drew ?_ | refine blk_alloc ?_ _)); refine blk_far ?_ NB250_308.out _; (with_reducible repeat (first | refine blk_drewN ?_ _ | refine blk_drew ?_ | refine blk_alloc ?_ _)); refine blk_far ?_ NB250_308.out _; (with_reducible repeat (first | refine blk_drewN ?_ _ | refine blk_drew ?_ | refine blk_alloc ?_ _)); refine blk_far ?_ NB250_308.out _; (with_reducible repeat (first | refine blk_drewN ?_ _ | refine blk_drew ?_ | refine blk_alloc ?_ _)); refine blk_far ?_ NB250_308.out _; (with_reducible repeat (first | refine blk_drewN ?_ _ | refine blk_drew ?_ | refine blk_alloc ?_ _)); refine blk_far ?_ NB250_308.out _; (with_reducible repeat (first | refine blk_drewN ?_ _ | refine blk_drew ?_ | refine blk_alloc ?_ _)); exact BK250.out) hb); have n2_ := Aside0.mk (blk_below (g := gb279) (o := .cells #[.int .i64 t269, .int .i64 t270, .int .i64 t271, .int .i64 t272, .int .i64 t273, .int .i64 t274, .int .i64 t275, .int .i64 t276, .int .i64 t277, .int .i64 t278] 37 (0, 0)) (by (with_reducible repeat (first | refine blk_drewN ?_ _ | refine blk_drew ?_ | refine blk_alloc ?_ _)); refine blk_far ?_ NB279_308.out _; (with_reducible repeat (first | refine blk_drewN ?_ _ | refine blk_drew ?_ | refine blk_alloc ?_ _)); refine blk_far ?_ NB279_308.out _; (with_reducible repeat (first | refine blk_drewN ?_ _ | refine blk_drew ?_ | refine blk_alloc ?_ _)); refine blk_far ?_ NB279_308.out _; (with_reducible repeat (first | refine blk_drewN ?_ _ | refine blk_drew ?_ | refine blk_alloc ?_ _)); refine blk_far ?_ NB279_308.out _; (with_reducible repeat (first | refine blk_drewN ?_ _ | refine blk_drew ?_ | refine blk_alloc ?_ _)); refine blk_far ?_ NB279_308.out _; (with_reducible repeat (first | refine blk_drewN ?_ _ | refine blk_drew ?_ | refine blk_alloc ?_ _)); refine blk_far ?_ NB279_308.out _; (with_reducible repeat (first | refine blk_drewN ?_ _ | refine blk_drew ?_ | refine blk_alloc ?_ _)); refine blk_far ?_ NB279_308.out _; (with_reducible repeat (first | refine blk_drewN ?_ _ | refine blk_drew ?_ | refine blk_alloc ?_ _)); refine blk_far ?_ NB279_308.out _; (with_reducible repeat (first | refine blk_drewN ?_ _ | refine blk_drew ?_ | refine blk_alloc ?_ _)); refine blk_far ?_ NB279_308.out _; (with_reducible repeat (first | refine blk_drewN ?_ _ | refine blk_drew ?_ | refine blk_alloc ?_ _)); refine blk_far ?_ NB279_308.out _; (with_reducible repeat (first | refine blk_drewN ?_ _ | refine blk_drew ?_ | refine blk_alloc ?_ _)); exact BK279.out) hb); have n3_ := Aside0.mk (blk_below (g := gb308) (o := .cells #[.int .i64 t298, .int .i64 t299, .int .i64 t300, .int .i64 t301, .int .i64 t302, .int .i64 t303, .int .i64 t304, .int .i64 t305, .int .i64 t306, .int .i64 t307] 37 (0, 0)) (by (with_reducible repeat (first | refine blk_drewN ?_ _ | refine blk_drew ?_ | refine blk_alloc ?_ _)); refine blk_put (cs := #[.int .i64 t298, .int .i64 t299, .int .i64 t300, .int .i64 t301, .int .i64 t302, .int .i64 t303, .int .i64 t304, .int .i64 t305, .int .i64 t306, .int .i64 0]) ?_ 9 _ rfl; (with_reducible repeat (first | refine blk_drewN ?_ _ | refine blk_drew ?_ | refine blk_alloc ?_ _)); refine blk_put (cs := #[.int .i64 t298, .int .i64 t299, .int .i64 t300, .int .i64 t301, .int .i64 t302, .int .i64 t303, .int .i64 t304, .int .i64 t305, .int .i64 0, .int .i64 0]) ?_ 8 _ rfl; (with_reducible repeat (first | refine blk_drewN ?_ _ | refine blk_drew ?_ | refine blk_alloc ?_ _)); refine blk_put (cs := #[.int .i64 t298, .int .i64 t299, .int .i64 t300, .int .i64 t301, .int .i64 t302, .int .i64 t303, .int .i64 t304, .int .i64 0, .int .i64 0, .int .i64 0]) ?_ 7 _ rfl; (with_reducible repeat (first | refine blk_drewN ?_ _ | refine blk_drew ?_ | refine blk_alloc ?_ _)); refine blk_put (cs := #[.int .i64 t298, .int .i64 t299, .int .i64 t300, .int .i64 t301, .int .i64 t302, .int .i64 t303, .int .i64 0, .int .i64 0, .int .i64 0, .int .i64 0]) ?_ 6 _ rfl; (with_reducible repeat (first | refine blk_drewN ?_ _ | refine blk_drew ?_ | refine blk_alloc ?_ _)); refine blk_put (cs := #[.int .i64 t298, .int .i64 t299, .int .i64 t300, .int .i64 t301, .int .i64 t302, .int .i64 0, .int .i64 0, .int .i64 0, .int .i64 0, .int .i64 0]) ?_ 5 _ rfl; (with_reducible repeat (first | refine blk_drewN ?_ _ | refine blk_drew ?_ | refine blk_alloc ?_ _)); refine blk_put (cs := #[.int .i64 t298, .int .i64 t299, .int .i64 t300, .int .i64 t301, .int .i64 0, .int .i64 0, .int .i64 0, .int .i64 0, .int .i64 0, .int .i64 0]) ?_ 4 _ rfl; (with_reducible repeat (first | refine blk_drewN ?_ _ | refine blk_drew ?_ | refine blk_alloc ?_ _)); refine blk_put (cs := #[.int .i64 t298, .int .i64 t299, .int .i64 t300, .int .i64 0, .int .i64 0, .int .i64 0, .int .i64 0, .int .i64 0, .int .i64 0, .int .i64 0]) ?_ 3 _ rfl; (with_reducible repeat (first | refine blk_drewN ?_ _ | refine blk_drew ?_ | refine blk_alloc ?_ _)); refine blk_put (cs := #[.int .i64 t298, .int .i64 t299, .int .i64 0, .int .i64 0, .int .i64 0, .int .i64 0, .int .i64 0, .int .i64 0, .int .i64 0, .int .i64 0]) ?_ 2 _ rfl; (with_reducible repeat (first | refine blk_drewN ?_ _ | refine blk_drew ?_ | refine blk_alloc ?_ _)); refine blk_put (cs := #[.int .i64 t298, .int .i64 0, .int .i64 0, .int .i64 0, .int .i64 0, .int .i64 0, .int .i64 0, .int .i64 0, .int .i64 0, .int .i64 0]) ?_ 1 _ rfl; (with_reducible repeat (first | refine blk_drewN ?_ _ | refine blk_drew ?_ | refine blk_alloc ?_ _)); refine blk_put (cs := #[.int .i64 0, .int .i64 0, .int .i64 0, .int .i64 0, .int .i64 0, .int .i64 0, .int .i64 0, .int .i64 0, .int .i64 0, .int .i64 0]) ?_ 0 _ rfl; (with_reducible repeat (first | refine blk_drewN ?_ _ | refine blk_drew ?_ | refine blk_alloc ?_ _)); exact BK308.out) hb); have n4_ := Aside0.mk (below_step (by repeat (first | (with_reducible first | exact HB.out | apply below_alloc | apply pw_below_drewN | apply below_drew1 | refine below_set ?_ GE249.out | refine below_set ?_ GE250.out | refine below_set ?_ GE279.out | refine below_set ?_ GE308.out) | exact HB.out)) hb); clear BK249; clear BK250; clear BK279; clear BK308; clear HB; have BK249 := n0_; have BK250 := n1_; have BK279 := n2_; have BK308 := n3_; have HB := n4_; clear n0_ n1_ n2_ n3_ n4_; (try clear hb); (try clear hb2); (try clear hk); (try clear hi)))
  go_ret
  exact ⟨by first | rfl | (simp [errW_none, errW_some] <;> rfl) | (simp [*, errW_none, errW_some] <;> rfl), by repeat (first | (with_reducible first | exact HB.out | apply below_alloc | apply pw_below_drewN | apply below_drew1 | refine below_set ?_ GE249.out | refine below_set ?_ GE250.out | refine below_set ?_ GE279.out | refine below_set ?_ GE308.out) | exact HB.out)⟩
 ·
  replace c10 := Bool.eq_false_iff.mpr c10
  subst c10
  have H1 : (some false) = some r := by rw [if_neg (show ¬ (false = true) by decide)] at H; exact H
  clear H
  have H := H1
  clear H1
  exact absurd (Option.some.inj H) (by rw [hr_]; decide)

end Go.Proofs.Ythmlhnfoibbhaaa.PFnExactMeetSels
