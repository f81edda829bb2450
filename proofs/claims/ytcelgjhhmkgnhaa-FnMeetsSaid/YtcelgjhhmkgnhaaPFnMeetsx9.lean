-- Written by wip/tools/myprint.py of this claim's session, over the kit's print, round texts of its own: own text.
import Derived.Test.YtcelgjhhmkgnhaaPFnMeetsx0
import Derived.Test.YtcelgjhhmkgnhaaPFnMeetsx2
import Derived.Test.YtcelgjhhmkgnhaaPFnMeetsx6
import Derived.Test.YtcelgjhhmkgnhaaPFnMeetsx7
import Derived.Test.YtcelgjhhmkgnhaaPFnMeetsx8
namespace Go.Proofs.Ytcelgjhhmkgnhaa.PFnMeets
open Go.RowKit Go.Proofs.YtcelgjhhmkgnhaaW.PrintWords Go.Proofs.YtcelgjhhmkgnhaaW.PrintLast Go.Proofs.YtcelgjhhmkgnhaaW.PrintMore
attribute [local go_sem] max2_int min2_int max_two min_two max_three min_three max_four min_four   -- for this text's walks alone
set_option linter.unusedVariables false
set_option linter.unusedSimpArgs false

/-! ### spec_l2Bent: function 100 -/
def spec_l2Bent.f (k : Nat) (s0_0 : List Int) (s0_1 : Int) : Option (Int × Int × Int × Int × Int × Int × List Int × Int) := (spec_l2Packet.f k s0_0 s0_1).bind fun bt295 => ((spec_l1Next.f s0_0 bt295.2.2.2.2.2.2.2 20).bind fun bt306 => (if bt306.1 = 0 then ((spec_l1Pick.f s0_0 bt306.2 (([(-1), 4294967296] : List Int))).bind fun bt311 => (some (bt311.1, bt295.2.1, bt295.2.2.1, bt295.2.2.2.1, bt295.2.2.2.2.1, bt295.2.2.2.2.2.1, bt295.2.2.2.2.2.2.1, bt311.2))) else (if bt306.1 = 1 then ((spec_l1Pick.f s0_0 bt306.2 (([(-1), 4294967296] : List Int))).bind fun bt316 => (some (bt295.1, bt316.1, bt295.2.2.1, bt295.2.2.2.1, bt295.2.2.2.2.1, bt295.2.2.2.2.2.1, bt295.2.2.2.2.2.2.1, bt316.2))) else (if bt306.1 = 2 then ((spec_l1Pick.f s0_0 bt306.2 (([0, 256, 255, (-1)] : List Int))).bind fun bt321 => (some (bt295.1, bt295.2.1, bt321.1, bt295.2.2.2.1, bt295.2.2.2.2.1, bt295.2.2.2.2.2.1, bt295.2.2.2.2.2.2.1, bt321.2))) else (if bt306.1 = 3 then ((spec_l1Pick.f s0_0 bt306.2 (([0, 256, (-1)] : List Int))).bind fun bt326 => (some (bt295.1, bt295.2.1, bt295.2.2.1, bt326.1, bt295.2.2.2.2.1, bt295.2.2.2.2.2.1, bt295.2.2.2.2.2.2.1, bt326.2))) else (if bt306.1 = 4 then ((spec_l1Pick.f s0_0 bt306.2 (([(-1), 65536, 5] : List Int))).bind fun bt331 => (some (bt295.1, bt295.2.1, bt295.2.2.1, bt295.2.2.2.1, bt331.1, bt295.2.2.2.2.2.1, bt295.2.2.2.2.2.2.1, bt331.2))) else (if bt306.1 = 5 then ((spec_l1Pick.f s0_0 bt306.2 (([(-1), 65536, 5] : List Int))).bind fun bt336 => (some (bt295.1, bt295.2.1, bt295.2.2.1, bt295.2.2.2.1, bt295.2.2.2.2.1, bt336.1, bt295.2.2.2.2.2.2.1, bt336.2))) else (if bt306.1 = 6 then ((spec_l1Next.f s0_0 bt306.2 2).bind fun bt338 => (if 0 ≤ (wrap64 (200 + bt338.1)) then (if (wrap64 (200 + bt338.1) : Int).toNat ≤ 281474976710656 then (some (bt295.1, bt295.2.1, bt295.2.2.1, bt295.2.2.2.1, bt295.2.2.2.2.1, bt295.2.2.2.2.2.1, (List.replicate (wrap64 (200 + bt338.1) : Int).toNat 0), bt338.2)) else (none)) else (none))) else (some (bt295.1, bt295.2.1, bt295.2.2.1, bt295.2.2.2.1, bt295.2.2.2.2.1, bt295.2.2.2.2.2.1, bt295.2.2.2.2.2.2.1, bt306.2))))))))))
theorem spec_l2Bent.mono : ∀ a0 a1 k, LeO (spec_l2Bent.f k a0 a1) (spec_l2Bent.f (k + 1) a0 a1) := by
 intro a0 a1 k
 unfold spec_l2Bent.f
 repeat' first
   | (with_reducible exact spec_l2Packet.mono _ _ _)
   | (with_reducible exact LeO.refl _)
   | (with_reducible exact LeO.none _)
   | (with_reducible refine LeO.ite ?_ ?_)
   | (with_reducible refine LeO.bind ?_ (fun _ => ?_))
   | exact spec_l2Packet.mono _ _ _
   | exact LeO.none _
   | refine LeO.ite ?_ ?_
   | refine LeO.bind ?_ (fun _ => ?_)
set_option maxHeartbeats 4000000 in
set_option maxRecDepth 100000 in
theorem spec_l2Bent.calls (k : Nat) (g : Nat) (s0_0 : List Int) (s0_1 : Int) (r1 : Int) (r2 : Int) (r3 : Int) (r4 : Int) (r5 : Int) (r6 : Int) (r7 : List Int) (r8 : Int) (w0 w : World) (hI : IsS151 w0 w g s0_0 s0_1) (hB : Below w0.heap.size w0 w) (h : spec_l2Bent.f k s0_0 s0_1 = some (r1, r2, r3, r4, r5, r6, r7, r8)) :
  Calls Try.prog 100 #[.pointer (some ⟨g, 0, none⟩)] w fun e w' => ∃ v6_ : Value, e = .returned (.agg #[.int .i64 r1, .int .i64 r2, .int .i64 r3, .int .i64 r4, .int .i64 r5, .int .i64 r6, v6_]) ∧ Kd.R (Kd.int .u8) 5 w' w.heap.size (fun _ => True) v6_ r7 ∧ IsS151 w0 w' g s0_0 r8 ∧ Below w0.heap.size w0 w' ∧ KeepBut w w' g none := by
  have hu71 := Try.underlying71
  have D := Aside0.mk (CS.startS hI hB)
  clear hI hB
  have H := h
  clear h
  unfold spec_l2Bent.f at H
  (repeat' with_reducible first
    | (have H1 := bindS (x := spec_l2Packet.f _ _ _) H; clear H; obtain ⟨⟨_, _, _, _, _, _, _, _⟩, _, H⟩ := H1; try dsimp only at H)
    | (have H1 := bindS (x := spec_l1Next.f _ _ _) H; clear H; obtain ⟨⟨_, _⟩, _, H⟩ := H1; try dsimp only at H)
    | (have H1 := bindS (x := spec_l1Pick.f _ _ _) H; clear H; obtain ⟨⟨_, _⟩, _, H⟩ := H1; try dsimp only at H)
    | (have H1 := ifE H; clear H; rcases H1 with ⟨_, _, H⟩ | ⟨_, _, H⟩)
    | (have H1 := ifB H; clear H; rcases H1 with ⟨rfl, H⟩ | ⟨rfl, H⟩)
    | (have H1 := ifB H; clear H; rcases H1 with ⟨_, H⟩ | ⟨_, H⟩)
    | (have H1 := ifD H; clear H; rcases H1 with ⟨_, H⟩ | ⟨_, H⟩)
    | (exact noneE H))
  all_goals
    simp only [Option.some.injEq, Prod.mk.injEq] at H
    obtain ⟨rfl, rfl, rfl, rfl, rfl, rfl, rfl, rfl⟩ := H
    go_enter Try.func100, Try.ntmps100
    go_wp2_with (first
      | ((with_reducible refine gate_al rfl ?_); refine ev_box ?_; intro _ _ hD; clear D; have D := Aside0.mk hD; clear hD; (try clear q0 f0); (try clear q1 f1); (try (have q0 := D.out.c 0 rfl; have f0 := D.out.f 0 rfl)); (try (have q1 := D.out.c 1 rfl; have f1 := D.out.f 1 rfl)))
      | ((with_reducible refine gate_st rfl ?_); refine ev_store ?_; intro w1 hD; clear D; simp only [List.set_cons_zero, List.set_cons_succ, List.setIfInBounds_toArray] at hD; have D := Aside0.mk hD; clear hD; (try clear q0 f0); (try clear q1 f1); (try (have q0 := D.out.c 0 rfl; have f0 := D.out.f 0 rfl)); (try (have q1 := D.out.c 1 rfl; have f1 := D.out.f 1 rfl)))
      | (go_at_call 130; with_reducible refine Calls.mono (CS.viaSR D.out (spec_l2Packet.calls _ _ _ _ _ _ _ _ _ _ _ _ _ _ D.out.is D.out.lo (Aside0.out (by with_reducible assumption)))) ?_; rintro e w1 ⟨_, _, rfl, hD⟩; clear D; have D := Aside0.mk hD; clear hD; (try clear q0 f0); (try clear q1 f1); (try (have q0 := D.out.c 0 rfl; have f0 := D.out.f 0 rfl)); (try (have q1 := D.out.c 1 rfl; have f1 := D.out.f 1 rfl)))
      | (go_at_call 74; with_reducible refine Calls.mono (CS.viaS D.out (spec_l1Next.calls _ _ _ _ _ _ _ _ D.out.is D.out.lo (Aside0.out (by with_reducible assumption)))) ?_; rintro e w1 ⟨rfl, hD⟩; clear D; have D := Aside0.mk hD; clear hD; (try clear q0 f0); (try clear q1 f1); (try (have q0 := D.out.c 0 rfl; have f0 := D.out.f 0 rfl)); (try (have q1 := D.out.c 1 rfl; have f1 := D.out.f 1 rfl)))
      | ((with_reducible refine gate_lit rfl ?_); refine ev_lit ?_; intro _ _ hD; clear D; have D := Aside0.mk hD; clear hD; (try clear q0 f0); (try clear q1 f1); (try (have q0 := D.out.c 0 rfl; have f0 := D.out.f 0 rfl)); (try (have q1 := D.out.c 1 rfl; have f1 := D.out.f 1 rfl)))
      | (go_at_call 76; with_reducible refine Calls.mono (CS.pick D.out (by with_reducible assumption) rfl rfl (by decide)) ?_; rintro e w1 ⟨rfl, hD⟩; clear D; have D := Aside0.mk hD; clear hD; (try clear q0 f0); (try clear q1 f1); (try (have q0 := D.out.c 0 rfl; have f0 := D.out.f 0 rfl)); (try (have q1 := D.out.c 1 rfl; have f1 := D.out.f 1 rfl)))
      | ((with_reducible refine gate_mk rfl ?_); refine ev_make (Kd.int .u8) _ 22 5 1 (.int .u8 0) ?_ (of_decide_eq_true (by assumption)) (by have h_ := of_decide_eq_true (by assumption : decide (_ ≤ 281474976710656) = true); omega); intro _ _ w1 hD; clear D; have D := Aside0.mk hD; clear hD; (try clear q0 f0); (try clear q1 f1); (try (have q0 := D.out.c 0 rfl; have f0 := D.out.f 0 rfl)); (try (have q1 := D.out.c 1 rfl; have f1 := D.out.f 1 rfl))))
    refine bodyPost_ret (results_cell_row rfl _ _ _ 71 _ (0, 0) _ rfl (D.out.at_ 1 rfl) Try.underlying71 rfl (by kernel_rfl)) rfl ?_
    first | exact ⟨_, rfl, D.out.row 0 rfl, D.out.is, D.out.lo, D.out.ke⟩ | exact ⟨_, rfl, D.out.row 1 rfl, D.out.is, D.out.lo, D.out.ke⟩ | exact ⟨_, rfl, Kd.R_nil _ _ _ _ _, D.out.is, D.out.lo, D.out.ke⟩

/-! ### spec_l2Bad: function 131 -/
def spec_l2Bad.f (a0 : Int) : Option (Int × Int × Int × Int × Int × Int × Int × List Int) := some (a0, 0, 0, 0, 0, 0, 0, ([] : List Int))
set_option maxHeartbeats 8000000 in
set_option maxRecDepth 100000 in
theorem spec_l2Bad.calls (a0 : Int) (r1 : Int) (r2 : Int) (r3 : Int) (r4 : Int) (r5 : Int) (r6 : Int) (r7 : Int) (r8 : List Int) (w : World) (h : spec_l2Bad.f a0 = some (r1, r2, r3, r4, r5, r6, r7, r8)) :
  Calls Try.prog 131 #[.int .i64 a0] w fun e w' => ∃ v7_ : Value, e = .returned (.agg #[.int .i64 r1, .int .i64 r2, .int .i64 r3, .int .i64 r4, .int .i64 r5, .int .i64 r6, .int .i64 r7, v7_]) ∧ Kd.R (Kd.int .u8) 5 w' w.heap.size (fun _ => True) v7_ r8 ∧ Below w.heap.size w w' := by
 have hu79 := Try.underlying79; have HB := A_ (Below.refl w.heap.size w); have H : (some (a0, 0, 0, 0, 0, 0, 0, ([] : List Int))) = some (r1, r2, r3, r4, r5, r6, r7, r8) := h; clear h; simp only [Option.some.injEq, Prod.mk.injEq] at H; obtain ⟨rfl, rfl, rfl, rfl, rfl, rfl, rfl, rfl⟩ := H; go_enter Try.func131, Try.ntmps131; go_wp2_with (first | ((with_reducible refine gate_dst (N := 2) rfl ?_); refine box_event ?hg (N := 2) ?hd (cs := #[.int .i64 0, .int .i64 0, .int .i64 0, .int .i64 0, .int .i64 0, .int .i64 0, .int .i64 0, .slice none 0 0]) (t := 79) ?hr ?_; (case hd => rfl); (case hg => rfl); (case hr => go_simp <;> rfl); intro gb343 hg w2 hbox hb; have n0_ := A_ (below_step (lowU HB.out) hb); have n1_ := A_ (hbox); have n2_ := A_ ((by rw [hg]; exact (below_size (lowU HB.out)) : w.heap.size ≤ gb343)); have n3_ := A_ ((by rw [hg]; exact (below_size (lowU HB.out)) : w.heap.size ≤ gb343)); clear HB; have HB := n0_; have BK343 := n1_; have GW343 := n2_; have GE343 := n3_; clear n0_ n1_ n2_ n3_; clear hb hbox hg; obtain ⟨hcz3_0, hcz3_1, hcz3_2, hcz3_3, hcz3_4, hcz3_5, hcz3_6, hcz3_7⟩ := blk_c8 BK343.out; obtain ⟨hfz3_0, hfz3_1, hfz3_2, hfz3_3, hfz3_4, hfz3_5, hfz3_6, hfz3_7⟩ := blk_f8 BK343.out)); refine bodyPost_ret (results_cell_row rfl _ _ gb343 79 #[.int .i64 a0, .int .i64 0, .int .i64 0, .int .i64 0, .int .i64 0, .int .i64 0, .int .i64 0, .slice none 0 0] (0, 0) _ rfl (by (with_reducible repeat (first | refine blk_drewN ?_ _ | refine blk_drew ?_ | refine blk_alloc ?_ _)); refine blk_put (cs := #[.int .i64 a0, .int .i64 0, .int .i64 0, .int .i64 0, .int .i64 0, .int .i64 0, .int .i64 0, .slice none 0 0]) ?_ 7 _ rfl; (with_reducible repeat (first | refine blk_drewN ?_ _ | refine blk_drew ?_ | refine blk_alloc ?_ _)); refine blk_put (cs := #[.int .i64 a0, .int .i64 0, .int .i64 0, .int .i64 0, .int .i64 0, .int .i64 0, .int .i64 0, .slice none 0 0]) ?_ 6 _ rfl; (with_reducible repeat (first | refine blk_drewN ?_ _ | refine blk_drew ?_ | refine blk_alloc ?_ _)); refine blk_put (cs := #[.int .i64 a0, .int .i64 0, .int .i64 0, .int .i64 0, .int .i64 0, .int .i64 0, .int .i64 0, .slice none 0 0]) ?_ 5 _ rfl; (with_reducible repeat (first | refine blk_drewN ?_ _ | refine blk_drew ?_ | refine blk_alloc ?_ _)); refine blk_put (cs := #[.int .i64 a0, .int .i64 0, .int .i64 0, .int .i64 0, .int .i64 0, .int .i64 0, .int .i64 0, .slice none 0 0]) ?_ 4 _ rfl; (with_reducible repeat (first | refine blk_drewN ?_ _ | refine blk_drew ?_ | refine blk_alloc ?_ _)); refine blk_put (cs := #[.int .i64 a0, .int .i64 0, .int .i64 0, .int .i64 0, .int .i64 0, .int .i64 0, .int .i64 0, .slice none 0 0]) ?_ 3 _ rfl; (with_reducible repeat (first | refine blk_drewN ?_ _ | refine blk_drew ?_ | refine blk_alloc ?_ _)); refine blk_put (cs := #[.int .i64 a0, .int .i64 0, .int .i64 0, .int .i64 0, .int .i64 0, .int .i64 0, .int .i64 0, .slice none 0 0]) ?_ 2 _ rfl; (with_reducible repeat (first | refine blk_drewN ?_ _ | refine blk_drew ?_ | refine blk_alloc ?_ _)); refine blk_put (cs := #[.int .i64 a0, .int .i64 0, .int .i64 0, .int .i64 0, .int .i64 0, .int .i64 0, .int .i64 0, .slice none 0 0]) ?_ 1 _ rfl; (with_reducible repeat (first | refine blk_drewN ?_ _ | refine blk_drew ?_ | refine blk_alloc ?_ _)); refine blk_put (cs := #[.int .i64 0, .int .i64 0, .int .i64 0, .int .i64 0, .int .i64 0, .int .i64 0, .int .i64 0, .slice none 0 0]) ?_ 0 _ rfl; exact bup BK343.out) Try.underlying79 rfl (by kernel_rfl)) rfl ?_; exact ⟨_, by first | rfl | (simp [errW_none, errW_some] <;> rfl) | (simp [*, errW_none, errW_some] <;> rfl), by first | exact Kd.R_nil _ _ _ _ _ | exact Kd.N_nil _ _ _ _ _ | exact Kd.V_nil _ _ _ _ _ | exact Kd.Q_nil _ _ _ _ _ | exact Kd.S_nil _ _ _ _ _, bq⟩

/-! ### (my own text) boxWords -/
-- the call's own boxes (blocks of cells), beside what was there when it began
structure Boxes (w0 W : World) (bs : List (Nat × Array Value × TypeId)) : Prop where
  low : Below w0.heap.size w0 W
  blk : ∀ x ∈ bs, W.heap[x.1]? = some (.cells x.2.1 x.2.2 (0, 0))
  ge : ∀ x ∈ bs, w0.heap.size ≤ x.1
  ne : bs.Pairwise (fun x y => x.1 ≠ y.1)
theorem Boxes.start (w : World) : Boxes w w [] := ⟨Below.refl _ _, by simp, by simp, List.Pairwise.nil⟩
theorem Boxes.drewN {w0 W : World} {bs : List (Nat × Array Value × TypeId)} (h : Boxes w0 W bs) (n : Nat) : Boxes w0 (W.drewN n) bs := ⟨pw_below_drewN h.low n, h.blk, h.ge, h.ne⟩
theorem Boxes.drew {w0 W : World} {bs : List (Nat × Array Value × TypeId)} (h : Boxes w0 W bs) : Boxes w0 W.drew bs := ⟨below_drew1 h.low, h.blk, h.ge, h.ne⟩
theorem Boxes.below {w0 W W1 : World} {bs : List (Nat × Array Value × TypeId)} (h : Boxes w0 W bs) (hb : Below W.heap.size W W1) : Boxes w0 W1 bs :=
  ⟨below_step h.low hb, fun x hx => blk_below (h.blk x hx) hb, h.ge, h.ne⟩
theorem Boxes.alloc {w0 W : World} {bs : List (Nat × Array Value × TypeId)} (h : Boxes w0 W bs) (o : Obj) : Boxes w0 (W.alloc o) bs := h.below (below_alloc (Below.refl _ _) o)
theorem Boxes.new {w0 W W1 : World} {bs : List (Nat × Array Value × TypeId)} (h : Boxes w0 W bs) {g : Nat} {cs : Array Value} {t : TypeId} (hg : g = W.heap.size) (hbox : W1.heap[g]? = some (.cells cs t (0, 0))) (hb : Below W.heap.size W W1) :
    Boxes w0 W1 ((g, cs, t) :: bs) := by
  have h1 := h.below hb
  refine ⟨h1.low, fun x hx => ?_, fun x hx => ?_, List.pairwise_cons.2 ⟨fun y hy => ?_, h.ne⟩⟩
  · rcases List.mem_cons.1 hx with rfl | hx
    · exact hbox
    · exact h1.blk x hx
  · rcases List.mem_cons.1 hx with rfl | hx
    · rw [hg]
      exact h.low.size
    · exact h.ge x hx
  · rw [hg]
    exact Nat.ne_of_gt (blk_lt (h.blk y hy))
theorem Boxes.at_ {w0 W : World} {bs : List (Nat × Array Value × TypeId)} (h : Boxes w0 W bs) {i g : Nat} {cs : Array Value} {t : TypeId} (hi : bs[i]? = some (g, cs, t)) : W.heap[g]? = some (.cells cs t (0, 0)) := h.blk (g, cs, t) (List.mem_of_getElem? hi)
theorem Boxes.cell {w0 W : World} {bs : List (Nat × Array Value × TypeId)} (h : Boxes w0 W bs) {i g : Nat} {cs : Array Value} {t : TypeId} (hi : bs[i]? = some (g, cs, t)) {j : Nat} {v : Value} (hj : cs[j]? = some v) : W.cell? ⟨g, j, none⟩ = some v := (blk_cell (h.at_ hi) j).trans hj
theorem Boxes.c {w0 W : World} {bs : List (Nat × Array Value × TypeId)} (h : Boxes w0 W bs) (i j : Nat) {g : Nat} {cs : Array Value} {t : TypeId} {v : Value} (hi : bs[i]? = some (g, cs, t)) (hj : cs[j]? = some v) : W.cell? ⟨g, j, none⟩ = some v := h.cell hi hj
theorem Boxes.frozen {w0 W : World} {bs : List (Nat × Array Value × TypeId)} (h : Boxes w0 W bs) {i g : Nat} {cs : Array Value} {t : TypeId} (hi : bs[i]? = some (g, cs, t)) (j : Nat) : W.frozen? ⟨g, j, none⟩ = false := blk_frozen (h.at_ hi) j
theorem Boxes.f {w0 W : World} {bs : List (Nat × Array Value × TypeId)} (h : Boxes w0 W bs) (i j : Nat) {g : Nat} {cs : Array Value} {t : TypeId} (hi : bs[i]? = some (g, cs, t)) : W.frozen? ⟨g, j, none⟩ = false := h.frozen hi j
theorem Boxes.lt {w0 W : World} {bs : List (Nat × Array Value × TypeId)} (h : Boxes w0 W bs) {i g : Nat} {cs : Array Value} {t : TypeId} (hi : bs[i]? = some (g, cs, t)) : g < W.heap.size := blk_lt (h.at_ hi)
theorem Boxes.put {w0 W : World} {b1 b2 : List (Nat × Array Value × TypeId)} {g : Nat} {cs : Array Value} {t : TypeId} (h : Boxes w0 W (b1 ++ (g, cs, t) :: b2)) (i : Nat) (u : Value) :
    Boxes w0 (W.setCell ⟨g, i, none⟩ u) (b1 ++ (g, cs.setIfInBounds i u, t) :: b2) := by
  have hg : w0.heap.size ≤ g := h.ge (g, cs, t) (by simp)
  have hne : ∀ x, x ∈ b1 ∨ x ∈ b2 → x.1 ≠ g := by
    intro x hx
    have h1 := List.pairwise_append.1 h.ne
    rcases hx with hx | hx
    · exact h1.2.2 x hx (g, cs, t) (by simp)
    · exact ((List.pairwise_cons.1 h1.2.1).1 x hx).symm
  refine ⟨below_set h.low hg, fun x hx => ?_, fun x hx => ?_, ?_⟩
  · rw [List.mem_append, List.mem_cons] at hx
    rcases hx with hx | rfl | hx
    · exact blk_far (h.blk x (by simp [hx])) (hne x (.inl hx)) _
    · exact blk_set (h.blk (g, cs, t) (by simp)) i u
    · exact blk_far (h.blk x (by simp [hx])) (hne x (.inr hx)) _
  · rw [List.mem_append, List.mem_cons] at hx
    rcases hx with hx | rfl | hx
    · exact h.ge x (by simp [hx])
    · exact hg
    · exact h.ge x (by simp [hx])
  · have h1 := h.ne
    rw [List.pairwise_append, List.pairwise_cons] at h1 ⊢
    refine ⟨h1.1, ⟨h1.2.1.1, h1.2.1.2⟩, fun a ha b hb => ?_⟩
    rcases List.mem_cons.1 hb with rfl | hb
    · exact hne a (.inl ha)
    · exact h1.2.2 a ha b (by simp [hb])
theorem boxes_store {P : Program} {ops : Array Oper} {rest : List Oper} {o : Oper} {a : Act} {Q : Exit → Act → World → Prop} {w0 W W1 : World} {bs : List (Nat × Array Value × TypeId)} {t : TypeId} {p : Tmp} {v : Operand} (hgd : o.guard = none) (ho : o.op = .store t (.tmp p) v) (hN : o.dst = none)
    (hr : (execOp a.eval o).run P W = .ok .skip W1) (hB : Boxes w0 W1 bs) (h : ∀ w', Boxes w0 w' bs → wpList P ops Q rest a w') : wpList P ops Q (o :: rest) a W := by
  refine store_event hgd ho hN hr ?_
  rintro w' rfl
  exact h _ hB

end Go.Proofs.Ytcelgjhhmkgnhaa.PFnMeets
