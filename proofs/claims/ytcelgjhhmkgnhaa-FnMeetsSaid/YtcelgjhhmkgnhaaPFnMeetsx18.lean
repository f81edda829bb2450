-- Written by wip/tools/myprint.py of this claim's session, over the kit's print, round texts of its own: own text.
import Derived.Test.YtcelgjhhmkgnhaaPFnMeetsx0
import Derived.Test.YtcelgjhhmkgnhaaPFnMeetsx2
import Derived.Test.YtcelgjhhmkgnhaaPFnMeetsx3
import Derived.Test.YtcelgjhhmkgnhaaPFnMeetsx5
import Derived.Test.YtcelgjhhmkgnhaaPFnMeetsx6
import Derived.Test.YtcelgjhhmkgnhaaPFnMeetsx11
import Derived.Test.YtcelgjhhmkgnhaaPFnMeetsx13
import Derived.Test.YtcelgjhhmkgnhaaPFnMeetsx14
import Derived.Test.YtcelgjhhmkgnhaaPFnMeetsx15
import Derived.Test.YtcelgjhhmkgnhaaPFnMeetsx17
namespace Go.Proofs.Ytcelgjhhmkgnhaa.PFnMeets
open Go.RowKit Go.Proofs.YtcelgjhhmkgnhaaW.PrintWords Go.Proofs.YtcelgjhhmkgnhaaW.PrintLast Go.Proofs.YtcelgjhhmkgnhaaW.PrintMore
attribute [local go_sem] max2_int min2_int max_two min_two max_three min_three max_four min_four   -- for this text's walks alone
set_option linter.unusedVariables false
set_option linter.unusedSimpArgs false

/-! ### laws_FnMeets: function 8 (my own text) -/
attribute [local go_sem] Instr.field asAgg
theorem laws_FnMeets.mkF (W : World) (ok : Nat → Prop) (x : S71) {A6 : Option Addr} {c6 : Nat} (l6 : x.f6.length ≤ c6) (g6 : Kd.F (Kd.int .u8) W ok A6 x.f6.length x.f6) : Kd.FK k71 W ok x [.int .i64 x.f0, .int .i64 x.f1, .int .i64 x.f2, .int .i64 x.f3, .int .i64 x.f4, .int .i64 x.f5, .slice A6 x.f6.length c6] := fun W2 hW => k71_mk W2 x l6 (g6 W2 hW)
def laws_FnMeets.ho (k : Nat) (s : S65) (p : S71) : Option Bool := impl_Holds.f k s.f0.f0 s.f0.f1 s.f1.f0 s.f1.f1 s.f2.f0 s.f2.f1 s.f3.f0 s.f3.f1 s.f4 p.f0 p.f1 p.f2 p.f3 p.f4 p.f5 p.f6
def laws_FnMeets.smp (k : Nat) (s : S65) : Option S71 := (impl_SampleOf.f k s.f0.f0 s.f0.f1 s.f1.f0 s.f1.f1 s.f2.f0 s.f2.f1 s.f3.f0 s.f3.f1 s.f4).bind fun t => some ⟨t.2.1, t.2.2.1, t.2.2.2.1, t.2.2.2.2.1, t.2.2.2.2.2.1, t.2.2.2.2.2.2.1, t.2.2.2.2.2.2.2⟩
def laws_FnMeets.two (k : Nat) (a b : S65) (p : S71) : Option Bool := (laws_FnMeets.ho k a p).bind fun x => if x = true then laws_FnMeets.ho k b p else some false
def laws_FnMeets.sel (k : Nat) (c : Int) (m : S65) (p : S71) : Option Bool := if c = 0 then laws_FnMeets.ho k m p else some false
def laws_FnMeets.chk (k : Nat) (a b m : S65) (c : Int) : List S71 → Option Unit
  | [] => some ()
  | p :: ps => (laws_FnMeets.two k a b p).bind fun x => (laws_FnMeets.sel k c m p).bind fun y => if x = y then laws_FnMeets.chk k a b m c ps else none
def laws_FnMeets.fin (k : Nat) (a b : S65) (c : Int) (L : List S71) : Option Bool := if 1 < L.length then (laws_FnMeets.ho k a (rd_T71 L 1)).bind fun x => if x = true then (impl_WithinSel.f k a.f0.f0 a.f0.f1 a.f1.f0 a.f1.f1 a.f2.f0 a.f2.f1 a.f3.f0 a.f3.f1 a.f4 a.f0.f0 a.f0.f1 a.f1.f0 a.f1.f1 a.f2.f0 a.f2.f1 a.f3.f0 a.f3.f1 a.f4).bind fun y => if y = true then (impl_MeetSels.f k b.f0.f0 b.f0.f1 b.f1.f0 b.f1.f1 b.f2.f0 b.f2.f1 b.f3.f0 b.f3.f1 b.f4 a.f0.f0 a.f0.f1 a.f1.f0 a.f1.f1 a.f2.f0 a.f2.f1 a.f3.f0 a.f3.f1 a.f4).bind fun z => if c = z.1 then some true else none else none else none else none
def laws_FnMeets.rest (k : Nat) (a b m : S65) (c : Int) (L : List S71) : Option Bool := (laws_FnMeets.chk k a b m c L).bind fun _ => laws_FnMeets.fin k a b c L
def laws_FnMeets.good (k : Nat) (l0 : List Int) (a b m : S65) (c : Int) : Option Bool := if l0.length < 140737488355320 then (spec_DrawHolds.f k ([3] ++ l0)).bind fun h => (laws_FnMeets.smp k a).bind fun pa => (laws_FnMeets.smp k b).bind fun pb => if c = 0 then (laws_FnMeets.smp k m).bind fun pm => (impl_SelFault.f k m.f0.f0 m.f0.f1 m.f1.f0 m.f1.f1 m.f2.f0 m.f2.f1 m.f3.f0 m.f3.f1 m.f4).bind fun fm => if fm = 0 then (laws_FnMeets.ho k m pm).bind fun hm => if hm = true then laws_FnMeets.rest k a b m c [⟨h.2.2.2.2.2.2.2.2.2.1, h.2.2.2.2.2.2.2.2.2.2.1, h.2.2.2.2.2.2.2.2.2.2.2.1, h.2.2.2.2.2.2.2.2.2.2.2.2.1, h.2.2.2.2.2.2.2.2.2.2.2.2.2.1, h.2.2.2.2.2.2.2.2.2.2.2.2.2.2.1, h.2.2.2.2.2.2.2.2.2.2.2.2.2.2.2⟩, pa, pb, pm] else none else none else laws_FnMeets.rest k a b m c [⟨h.2.2.2.2.2.2.2.2.2.1, h.2.2.2.2.2.2.2.2.2.2.1, h.2.2.2.2.2.2.2.2.2.2.2.1, h.2.2.2.2.2.2.2.2.2.2.2.2.1, h.2.2.2.2.2.2.2.2.2.2.2.2.2.1, h.2.2.2.2.2.2.2.2.2.2.2.2.2.2.1, h.2.2.2.2.2.2.2.2.2.2.2.2.2.2.2⟩, pa, pb] else none
def laws_FnMeets.bad (k : Nat) (a b : S65) (c : Int) : Option Bool := (spec_MeetSels.f k a.f0.f0 a.f0.f1 a.f1.f0 a.f1.f1 a.f2.f0 a.f2.f1 a.f3.f0 a.f3.f1 a.f4 b.f0.f0 b.f0.f1 b.f1.f0 b.f1.f1 b.f2.f0 b.f2.f1 b.f3.f0 b.f3.f1 b.f4).bind fun s => if s.1 = c then some true else none
def laws_FnMeets.g (k : Nat) (l0 : List Int) (a b : S65) : Option Bool := (impl_MeetSels.f k a.f0.f0 a.f0.f1 a.f1.f0 a.f1.f1 a.f2.f0 a.f2.f1 a.f3.f0 a.f3.f1 a.f4 b.f0.f0 b.f0.f1 b.f1.f0 b.f1.f1 b.f2.f0 b.f2.f1 b.f3.f0 b.f3.f1 b.f4).bind fun m => (spec_SelFault.f k a.f0.f0 a.f0.f1 a.f1.f0 a.f1.f1 a.f2.f0 a.f2.f1 a.f3.f0 a.f3.f1 a.f4).bind fun fa => if fa = 0 then (spec_SelFault.f k b.f0.f0 b.f0.f1 b.f1.f0 b.f1.f1 b.f2.f0 b.f2.f1 b.f3.f0 b.f3.f1 b.f4).bind fun fb => if fb = 0 then laws_FnMeets.good k l0 a b ⟨⟨m.2.1, m.2.2.1⟩, ⟨m.2.2.2.1, m.2.2.2.2.1⟩, ⟨m.2.2.2.2.2.1, m.2.2.2.2.2.2.1⟩, ⟨m.2.2.2.2.2.2.2.1, m.2.2.2.2.2.2.2.2.1⟩, m.2.2.2.2.2.2.2.2.2⟩ m.1 else laws_FnMeets.bad k a b m.1 else laws_FnMeets.bad k a b m.1
def laws_FnMeets.f (k : Nat) (l0 : List Int) : Option Bool := (laws_lwBig.f l0).bind fun big => if big = true then some true else (spec_DrawMeetSels.f k l0).bind fun d => laws_FnMeets.g k l0 ⟨⟨d.1, d.2.1⟩, ⟨d.2.2.1, d.2.2.2.1⟩, ⟨d.2.2.2.2.1, d.2.2.2.2.2.1⟩, ⟨d.2.2.2.2.2.2.1, d.2.2.2.2.2.2.2.1⟩, d.2.2.2.2.2.2.2.2.1⟩ ⟨⟨d.2.2.2.2.2.2.2.2.2.1, d.2.2.2.2.2.2.2.2.2.2.1⟩, ⟨d.2.2.2.2.2.2.2.2.2.2.2.1, d.2.2.2.2.2.2.2.2.2.2.2.2.1⟩, ⟨d.2.2.2.2.2.2.2.2.2.2.2.2.2.1, d.2.2.2.2.2.2.2.2.2.2.2.2.2.2.1⟩, ⟨d.2.2.2.2.2.2.2.2.2.2.2.2.2.2.2.1, d.2.2.2.2.2.2.2.2.2.2.2.2.2.2.2.2.1⟩, d.2.2.2.2.2.2.2.2.2.2.2.2.2.2.2.2.2⟩
set_option maxHeartbeats 8000000 in
set_option maxRecDepth 100000 in
theorem laws_FnMeets.calls (k : Nat) (A0 : Option Addr) (c0 : Nat) (l0 : List Int) (w : World) (hr0 : Kd.C (Kd.int .u8) w A0 l0.length l0) (hc0 : l0.length ≤ c0) (h : laws_FnMeets.f k l0 = some true) :
    Calls Try.prog 8 #[.slice A0 l0.length c0] w fun e w' => e = .returned (.bool true) ∧ Below w.heap.size w w' := by
  have HR := Aside0.mk hr0
  have HC := Aside0.mk hc0
  clear hr0 hc0
  have hu65 := Try.underlying65
  have hu75 := Try.underlying75
  have hu71 := Try.underlying71
  obtain ⟨big, hb0, h1⟩ := Option.bind_eq_some_iff.mp h
  have HBig := Aside0.mk hb0
  clear h hb0
  rcases ifB h1 with ⟨rfl, h2⟩ | ⟨rfl, h2⟩
  · have D := Aside0.mk (CS.startB w)
    clear h1 h2
    go_enter Try.func8, Try.ntmps8
    go_wp2_with (first | (go_at_call 12; with_reducible refine Calls.mono (CS.viaQ D.out (laws_lwBig.calls _ _ _ _ _ (Kd.C_below HR.out D.out.bel) HC.out HBig.out)) ?_; rintro e w1 ⟨rfl, hD⟩; clear D; have D := Aside0.mk hD; clear hD))
    go_ret
    exact ⟨rfl, D.out.bel⟩
  clear h1
  obtain ⟨⟨a0, a1, a2, a3, a4, a5, a6, a7, a8, g0, g1, g2, g3, g4, g5, g6, g7, g8⟩, hd, h3⟩ := Option.bind_eq_some_iff.mp h2
  have HD := Aside0.mk hd
  clear hd h2
  simp only [laws_FnMeets.g] at h3
  obtain ⟨⟨m0, m1, m2, m3, m4, m5, m6, m7, m8, m9⟩, hm, h4⟩ := Option.bind_eq_some_iff.mp h3
  obtain ⟨fa, hfa, h5⟩ := Option.bind_eq_some_iff.mp h4
  have HM := Aside0.mk hm
  have HFa := Aside0.mk hfa
  clear h3 h4 hm hfa
  simp only at h5
  have D := Aside0.mk (CS.startB w)
  have h6 := ifE h5
  clear h5
  rcases h6 with ⟨ea, na, h7⟩ | ⟨ea, na, h7⟩
  case inr =>
    unfold laws_FnMeets.bad at h7
    obtain ⟨⟨z0, z1, z2, z3, z4, z5, z6, z7, z8, z9⟩, hz, h10⟩ := Option.bind_eq_some_iff.mp h7
    have h11 := ifD h10
    rcases h11 with ⟨hzz, _⟩ | ⟨_, h12⟩
    case inr => exact noneE h12
    obtain rfl := (of_decide_eq_true hzz).symm
    have HZ := Aside0.mk hz
    simp only at HZ
    clear h7 h10 hz hzz
    go_enter Try.func8, Try.ntmps8
    go_wp2_with (first
      | (go_at_call 12; with_reducible refine Calls.mono (CS.viaQ D.out (laws_lwBig.calls _ _ _ _ _ (Kd.C_below HR.out D.out.bel) HC.out HBig.out)) ?_; rintro e w1 ⟨rfl, hD⟩; clear D; have D := Aside0.mk hD; clear hD)
      | (go_at_call 52; with_reducible refine Calls.mono (CS.via D.out (spec_DrawMeetSels.calls k _ _ _ _ _ _ _ _ _ _ _ _ _ _ _ _ _ _ _ _ _ _ (Kd.C_below HR.out D.out.bel) HC.out HD.out)) ?_; rintro e w1 ⟨rfl, hD⟩; clear D; have D := Aside0.mk hD; clear hD)
      | ((with_reducible refine gate_dst (N := 3) rfl ?_); refine ev_box ?_; intro b3 _ hD; clear D; have D := Aside0.mk hD; clear hD; (try clear q0 f0); (try clear q1 f1); (try clear q2 f2); (try (have q0 := D.out.c 0 rfl; have f0 := D.out.f 0 rfl)); (try (have q1 := D.out.c 1 rfl; have f1 := D.out.f 1 rfl)); (try (have q2 := D.out.c 2 rfl; have f2 := D.out.f 2 rfl)))
      | ((with_reducible refine gate_dst (N := 4) rfl ?_); refine ev_box ?_; intro b4 _ hD; clear D; have D := Aside0.mk hD; clear hD; (try clear q0 f0); (try clear q1 f1); (try clear q2 f2); (try (have q0 := D.out.c 0 rfl; have f0 := D.out.f 0 rfl)); (try (have q1 := D.out.c 1 rfl; have f1 := D.out.f 1 rfl)); (try (have q2 := D.out.c 2 rfl; have f2 := D.out.f 2 rfl)))
      | ((with_reducible refine gate_dst (N := 5) rfl ?_); refine ev_box ?_; intro b5 _ hD; clear D; have D := Aside0.mk hD; clear hD; (try clear q0 f0); (try clear q1 f1); (try clear q2 f2); (try (have q0 := D.out.c 0 rfl; have f0 := D.out.f 0 rfl)); (try (have q1 := D.out.c 1 rfl; have f1 := D.out.f 1 rfl)); (try (have q2 := D.out.c 2 rfl; have f2 := D.out.f 2 rfl)))
      | ((with_reducible refine gate_dst (N := 6) rfl ?_); refine ev_box ?_; intro b6 _ hD; clear D; have D := Aside0.mk hD; clear hD; (try clear q0 f0); (try clear q1 f1); (try clear q2 f2); (try (have q0 := D.out.c 0 rfl; have f0 := D.out.f 0 rfl)); (try (have q1 := D.out.c 1 rfl; have f1 := D.out.f 1 rfl)); (try (have q2 := D.out.c 2 rfl; have f2 := D.out.f 2 rfl)))
      | ((with_reducible refine gate_dst (N := 7) rfl ?_); refine ev_box ?_; intro b7 _ hD; clear D; have D := Aside0.mk hD; clear hD; (try clear q0 f0); (try clear q1 f1); (try clear q2 f2); (try (have q0 := D.out.c 0 rfl; have f0 := D.out.f 0 rfl)); (try (have q1 := D.out.c 1 rfl; have f1 := D.out.f 1 rfl)); (try (have q2 := D.out.c 2 rfl; have f2 := D.out.f 2 rfl)))
      | ((with_reducible refine gate_st rfl ?_); refine ev_store ?_; intro w1 hD; clear D; simp only [List.set_cons_zero, List.set_cons_succ, List.setIfInBounds_toArray] at hD; have D := Aside0.mk hD; clear hD; (try clear q0 f0); (try clear q1 f1); (try clear q2 f2); (try (have q0 := D.out.c 0 rfl; have f0 := D.out.f 0 rfl)); (try (have q1 := D.out.c 1 rfl; have f1 := D.out.f 1 rfl)); (try (have q2 := D.out.c 2 rfl; have f2 := D.out.f 2 rfl)))
      | (go_at_call 47; with_reducible refine Calls.mono (CS.via D.out (impl_MeetSels.calls k _ _ _ _ _ _ _ _ _ _ _ _ _ _ _ _ _ _ _ _ _ _ _ _ _ _ _ _ _ HM.out)) ?_; rintro e w1 ⟨rfl, hD⟩; clear D; have D := Aside0.mk hD; clear hD; (try clear q0 f0); (try clear q1 f1); (try clear q2 f2); (try (have q0 := D.out.c 0 rfl; have f0 := D.out.f 0 rfl)); (try (have q1 := D.out.c 1 rfl; have f1 := D.out.f 1 rfl)); (try (have q2 := D.out.c 2 rfl; have f2 := D.out.f 2 rfl)))
      | (go_at_call 44; with_reducible refine Calls.mono (CS.via D.out (spec_SelFault.calls k _ _ _ _ _ _ _ _ _ _ _ (Aside0.out (by with_reducible assumption)))) ?_; rintro e w1 ⟨rfl, hD⟩; clear D; have D := Aside0.mk hD; clear hD; (try clear q0 f0); (try clear q1 f1); (try clear q2 f2); (try (have q0 := D.out.c 0 rfl; have f0 := D.out.f 0 rfl)); (try (have q1 := D.out.c 1 rfl; have f1 := D.out.f 1 rfl)); (try (have q2 := D.out.c 2 rfl; have f2 := D.out.f 2 rfl))))
    have B5w := D.out.at_ 0 rfl
    have B4w := D.out.at_ 1 rfl
    have B3w := D.out.at_ 2 rfl
    have EB := Aside0.mk D.out.bel
    refine rg_start (n := 8) (S := fun w' => w'.cell? ⟨b3, 0, none⟩ = some (.int .i64 a0) ∧ w'.cell? ⟨b3, 1, none⟩ = some (.int .i64 a1) ∧ w'.cell? ⟨b3, 2, none⟩ = some (.int .i64 a2) ∧ w'.cell? ⟨b3, 3, none⟩ = some (.int .i64 a3) ∧ w'.cell? ⟨b3, 4, none⟩ = some (.int .i64 a4) ∧ w'.cell? ⟨b3, 5, none⟩ = some (.int .i64 a5) ∧ w'.cell? ⟨b3, 6, none⟩ = some (.int .i64 a6) ∧ w'.cell? ⟨b3, 7, none⟩ = some (.int .i64 a7) ∧ w'.cell? ⟨b3, 8, none⟩ = some (.int .i64 a8) ∧ w'.cell? ⟨b4, 0, none⟩ = some (.int .i64 g0) ∧ w'.cell? ⟨b4, 1, none⟩ = some (.int .i64 g1) ∧ w'.cell? ⟨b4, 2, none⟩ = some (.int .i64 g2) ∧ w'.cell? ⟨b4, 3, none⟩ = some (.int .i64 g3) ∧ w'.cell? ⟨b4, 4, none⟩ = some (.int .i64 g4) ∧ w'.cell? ⟨b4, 5, none⟩ = some (.int .i64 g5) ∧ w'.cell? ⟨b4, 6, none⟩ = some (.int .i64 g6) ∧ w'.cell? ⟨b4, 7, none⟩ = some (.int .i64 g7) ∧ w'.cell? ⟨b4, 8, none⟩ = some (.int .i64 g8) ∧ w'.cell? ⟨b5, 0, none⟩ = some (.int .i64 m0) ∧ w'.cell? ⟨b5, 1, none⟩ = some (.int .i64 m1) ∧ w'.cell? ⟨b5, 2, none⟩ = some (.int .i64 m2) ∧ w'.cell? ⟨b5, 3, none⟩ = some (.int .i64 m3) ∧ w'.cell? ⟨b5, 4, none⟩ = some (.int .i64 m4) ∧ w'.cell? ⟨b5, 5, none⟩ = some (.int .i64 m5) ∧ w'.cell? ⟨b5, 6, none⟩ = some (.int .i64 m6) ∧ w'.cell? ⟨b5, 7, none⟩ = some (.int .i64 m7) ∧ w'.cell? ⟨b5, 8, none⟩ = some (.int .i64 m8) ∧ w'.cell? ⟨b5, 9, none⟩ = some (.int .i64 m9)) #[false, false, false, false, false, false, false, false] (fun W' hb => ⟨cB hb ((blk_cell B3w 0).trans rfl), cB hb ((blk_cell B3w 1).trans rfl), cB hb ((blk_cell B3w 2).trans rfl), cB hb ((blk_cell B3w 3).trans rfl), cB hb ((blk_cell B3w 4).trans rfl), cB hb ((blk_cell B3w 5).trans rfl), cB hb ((blk_cell B3w 6).trans rfl), cB hb ((blk_cell B3w 7).trans rfl), cB hb ((blk_cell B3w 8).trans rfl), cB hb ((blk_cell B4w 0).trans rfl), cB hb ((blk_cell B4w 1).trans rfl), cB hb ((blk_cell B4w 2).trans rfl), cB hb ((blk_cell B4w 3).trans rfl), cB hb ((blk_cell B4w 4).trans rfl), cB hb ((blk_cell B4w 5).trans rfl), cB hb ((blk_cell B4w 6).trans rfl), cB hb ((blk_cell B4w 7).trans rfl), cB hb ((blk_cell B4w 8).trans rfl), cB hb ((blk_cell B5w 0).trans rfl), cB hb ((blk_cell B5w 1).trans rfl), cB hb ((blk_cell B5w 2).trans rfl), cB hb ((blk_cell B5w 3).trans rfl), cB hb ((blk_cell B5w 4).trans rfl), cB hb ((blk_cell B5w 5).trans rfl), cB hb ((blk_cell B5w 6).trans rfl), cB hb ((blk_cell B5w 7).trans rfl), cB hb ((blk_cell B5w 8).trans rfl), cB hb ((blk_cell B5w 9).trans rfl)⟩) (fun w8 hb hH => ?_)
    have n0 := Aside0.mk (below_then EB.out EB.out.size hb); clear EB; have EB := n0; clear n0
    clear hb B3w B4w B5w D
    (try clear q0 f0 q1 f1 q2 f2)
    refine pz 4 (some 33) #[false, false, false, false, true, false, false, false] ?_
    refine tz 0 (some 29) #[true, false, false, false, true, false, false, false] hH ?_
    refine tz 1 (some 30) #[true, true, false, false, true, false, false, false] hH ?_
    refine tz 5 (some 34) #[true, true, false, false, true, true, false, false] hH ?_
    refine one_ (i := 2) (N := some 31) #[true, true, true, false, true, true, false, false] rfl rfl (by kernel_rfl) (by decide) (fun K hK => ?_)
    refine goes_ Try.func53 (by kernel_rfl) rfl #[.agg #[.int .i64 a0, .int .i64 a1, .int .i64 a2, .int .i64 a3, .int .i64 a4, .int .i64 a5, .int .i64 a6, .int .i64 a7, .int .i64 a8], .agg #[.int .i64 g0, .int .i64 g1, .int .i64 g2, .int .i64 g3, .int .i64 g4, .int .i64 g5, .int .i64 g6, .int .i64 g7, .int .i64 g8]] (by rfl) rfl rfl (by (try simp only [List.map_toArray, List.map_cons, List.map_nil]); first | done | (go_simp; done) | rfl | (go_simp; rfl)) ?_
    with_reducible refine (spec_MeetSels.calls k a0 a1 a2 a3 a4 a5 a6 a7 a8 g0 g1 g2 g3 g4 g5 g6 g7 g8 m0 z1 z2 z3 z4 z5 z6 z7 z8 z9 _ HZ.out).mono ?_
    rintro e wq ⟨rfl, hb⟩
    refine ⟨_, rfl, ?_⟩
    have n0 := Aside0.mk (below_then EB.out EB.out.size hb); clear EB; have EB := n0; clear n0
    refine hK.out _ _ ⟨cB hb hH.1, cB hb hH.2.1, cB hb hH.2.2.1, cB hb hH.2.2.2.1, cB hb hH.2.2.2.2.1, cB hb hH.2.2.2.2.2.1, cB hb hH.2.2.2.2.2.2.1, cB hb hH.2.2.2.2.2.2.2.1, cB hb hH.2.2.2.2.2.2.2.2.1, cB hb hH.2.2.2.2.2.2.2.2.2.1, cB hb hH.2.2.2.2.2.2.2.2.2.2.1, cB hb hH.2.2.2.2.2.2.2.2.2.2.2.1, cB hb hH.2.2.2.2.2.2.2.2.2.2.2.2.1, cB hb hH.2.2.2.2.2.2.2.2.2.2.2.2.2.1, cB hb hH.2.2.2.2.2.2.2.2.2.2.2.2.2.2.1, cB hb hH.2.2.2.2.2.2.2.2.2.2.2.2.2.2.2.1, cB hb hH.2.2.2.2.2.2.2.2.2.2.2.2.2.2.2.2.1, cB hb hH.2.2.2.2.2.2.2.2.2.2.2.2.2.2.2.2.2.1, cB hb hH.2.2.2.2.2.2.2.2.2.2.2.2.2.2.2.2.2.2.1, cB hb hH.2.2.2.2.2.2.2.2.2.2.2.2.2.2.2.2.2.2.2.1, cB hb hH.2.2.2.2.2.2.2.2.2.2.2.2.2.2.2.2.2.2.2.2.1, cB hb hH.2.2.2.2.2.2.2.2.2.2.2.2.2.2.2.2.2.2.2.2.2.1, cB hb hH.2.2.2.2.2.2.2.2.2.2.2.2.2.2.2.2.2.2.2.2.2.2.1, cB hb hH.2.2.2.2.2.2.2.2.2.2.2.2.2.2.2.2.2.2.2.2.2.2.2.1, cB hb hH.2.2.2.2.2.2.2.2.2.2.2.2.2.2.2.2.2.2.2.2.2.2.2.2.1, cB hb hH.2.2.2.2.2.2.2.2.2.2.2.2.2.2.2.2.2.2.2.2.2.2.2.2.2.1, cB hb hH.2.2.2.2.2.2.2.2.2.2.2.2.2.2.2.2.2.2.2.2.2.2.2.2.2.2.1, cB hb hH.2.2.2.2.2.2.2.2.2.2.2.2.2.2.2.2.2.2.2.2.2.2.2.2.2.2.2⟩ (fun hH2 => ?_)
    clear hK K hH
    have hH := hH2
    clear hH2 hb
    refine norm_ (a' := ?_) ?_ ?_
    rotate_left
    · (show Act.put _ (some 31) _ = _; simp only [Act.put, List.setIfInBounds_toArray, List.set_cons_zero, List.set_cons_succ, i64_w, i32_w]; rfl)
    refine pz 3 (some 32) #[true, true, true, true, true, true, false, false] ?_
    refine pz 6 (some 35) #[true, true, true, true, true, true, true, false] ?_
    refine pz 7 (some 2) #[true, true, true, true, true, true, true, true] ?_
    refine done_ (by kernel_rfl) ?_
    go_wp2
    go_ret
    exact ⟨rfl, EB.out⟩
  obtain rfl := beq_iff_eq.mp ea
  clear ea na
  obtain ⟨fb, hfb, h8⟩ := Option.bind_eq_some_iff.mp h7
  have HFb := Aside0.mk hfb
  clear h7 hfb
  have h9 := ifE h8
  clear h8
  rcases h9 with ⟨eb, nb, h7⟩ | ⟨eb, nb, h7⟩
  case inr =>
    unfold laws_FnMeets.bad at h7
    obtain ⟨⟨z0, z1, z2, z3, z4, z5, z6, z7, z8, z9⟩, hz, h10⟩ := Option.bind_eq_some_iff.mp h7
    have h11 := ifD h10
    rcases h11 with ⟨hzz, _⟩ | ⟨_, h12⟩
    case inr => exact noneE h12
    obtain rfl := (of_decide_eq_true hzz).symm
    have HZ := Aside0.mk hz
    simp only at HZ
    clear h7 h10 hz hzz
    go_enter Try.func8, Try.ntmps8
    go_wp2_with (first
      | (go_at_call 12; with_reducible refine Calls.mono (CS.viaQ D.out (laws_lwBig.calls _ _ _ _ _ (Kd.C_below HR.out D.out.bel) HC.out HBig.out)) ?_; rintro e w1 ⟨rfl, hD⟩; clear D; have D := Aside0.mk hD; clear hD)
      | (go_at_call 52; with_reducible refine Calls.mono (CS.via D.out (spec_DrawMeetSels.calls k _ _ _ _ _ _ _ _ _ _ _ _ _ _ _ _ _ _ _ _ _ _ (Kd.C_below HR.out D.out.bel) HC.out HD.out)) ?_; rintro e w1 ⟨rfl, hD⟩; clear D; have D := Aside0.mk hD; clear hD)
      | ((with_reducible refine gate_dst (N := 3) rfl ?_); refine ev_box ?_; intro b3 _ hD; clear D; have D := Aside0.mk hD; clear hD; (try clear q0 f0); (try clear q1 f1); (try clear q2 f2); (try (have q0 := D.out.c 0 rfl; have f0 := D.out.f 0 rfl)); (try (have q1 := D.out.c 1 rfl; have f1 := D.out.f 1 rfl)); (try (have q2 := D.out.c 2 rfl; have f2 := D.out.f 2 rfl)))
      | ((with_reducible refine gate_dst (N := 4) rfl ?_); refine ev_box ?_; intro b4 _ hD; clear D; have D := Aside0.mk hD; clear hD; (try clear q0 f0); (try clear q1 f1); (try clear q2 f2); (try (have q0 := D.out.c 0 rfl; have f0 := D.out.f 0 rfl)); (try (have q1 := D.out.c 1 rfl; have f1 := D.out.f 1 rfl)); (try (have q2 := D.out.c 2 rfl; have f2 := D.out.f 2 rfl)))
      | ((with_reducible refine gate_dst (N := 5) rfl ?_); refine ev_box ?_; intro b5 _ hD; clear D; have D := Aside0.mk hD; clear hD; (try clear q0 f0); (try clear q1 f1); (try clear q2 f2); (try (have q0 := D.out.c 0 rfl; have f0 := D.out.f 0 rfl)); (try (have q1 := D.out.c 1 rfl; have f1 := D.out.f 1 rfl)); (try (have q2 := D.out.c 2 rfl; have f2 := D.out.f 2 rfl)))
      | ((with_reducible refine gate_dst (N := 6) rfl ?_); refine ev_box ?_; intro b6 _ hD; clear D; have D := Aside0.mk hD; clear hD; (try clear q0 f0); (try clear q1 f1); (try clear q2 f2); (try (have q0 := D.out.c 0 rfl; have f0 := D.out.f 0 rfl)); (try (have q1 := D.out.c 1 rfl; have f1 := D.out.f 1 rfl)); (try (have q2 := D.out.c 2 rfl; have f2 := D.out.f 2 rfl)))
      | ((with_reducible refine gate_dst (N := 7) rfl ?_); refine ev_box ?_; intro b7 _ hD; clear D; have D := Aside0.mk hD; clear hD; (try clear q0 f0); (try clear q1 f1); (try clear q2 f2); (try (have q0 := D.out.c 0 rfl; have f0 := D.out.f 0 rfl)); (try (have q1 := D.out.c 1 rfl; have f1 := D.out.f 1 rfl)); (try (have q2 := D.out.c 2 rfl; have f2 := D.out.f 2 rfl)))
      | ((with_reducible refine gate_st rfl ?_); refine ev_store ?_; intro w1 hD; clear D; simp only [List.set_cons_zero, List.set_cons_succ, List.setIfInBounds_toArray] at hD; have D := Aside0.mk hD; clear hD; (try clear q0 f0); (try clear q1 f1); (try clear q2 f2); (try (have q0 := D.out.c 0 rfl; have f0 := D.out.f 0 rfl)); (try (have q1 := D.out.c 1 rfl; have f1 := D.out.f 1 rfl)); (try (have q2 := D.out.c 2 rfl; have f2 := D.out.f 2 rfl)))
      | (go_at_call 47; with_reducible refine Calls.mono (CS.via D.out (impl_MeetSels.calls k _ _ _ _ _ _ _ _ _ _ _ _ _ _ _ _ _ _ _ _ _ _ _ _ _ _ _ _ _ HM.out)) ?_; rintro e w1 ⟨rfl, hD⟩; clear D; have D := Aside0.mk hD; clear hD; (try clear q0 f0); (try clear q1 f1); (try clear q2 f2); (try (have q0 := D.out.c 0 rfl; have f0 := D.out.f 0 rfl)); (try (have q1 := D.out.c 1 rfl; have f1 := D.out.f 1 rfl)); (try (have q2 := D.out.c 2 rfl; have f2 := D.out.f 2 rfl)))
      | (go_at_call 44; with_reducible refine Calls.mono (CS.via D.out (spec_SelFault.calls k _ _ _ _ _ _ _ _ _ _ _ (Aside0.out (by with_reducible assumption)))) ?_; rintro e w1 ⟨rfl, hD⟩; clear D; have D := Aside0.mk hD; clear hD; (try clear q0 f0); (try clear q1 f1); (try clear q2 f2); (try (have q0 := D.out.c 0 rfl; have f0 := D.out.f 0 rfl)); (try (have q1 := D.out.c 1 rfl; have f1 := D.out.f 1 rfl)); (try (have q2 := D.out.c 2 rfl; have f2 := D.out.f 2 rfl))))
    have B5w := D.out.at_ 0 rfl
    have B4w := D.out.at_ 1 rfl
    have B3w := D.out.at_ 2 rfl
    have EB := Aside0.mk D.out.bel
    refine rg_start (n := 8) (S := fun w' => w'.cell? ⟨b3, 0, none⟩ = some (.int .i64 a0) ∧ w'.cell? ⟨b3, 1, none⟩ = some (.int .i64 a1) ∧ w'.cell? ⟨b3, 2, none⟩ = some (.int .i64 a2) ∧ w'.cell? ⟨b3, 3, none⟩ = some (.int .i64 a3) ∧ w'.cell? ⟨b3, 4, none⟩ = some (.int .i64 a4) ∧ w'.cell? ⟨b3, 5, none⟩ = some (.int .i64 a5) ∧ w'.cell? ⟨b3, 6, none⟩ = some (.int .i64 a6) ∧ w'.cell? ⟨b3, 7, none⟩ = some (.int .i64 a7) ∧ w'.cell? ⟨b3, 8, none⟩ = some (.int .i64 a8) ∧ w'.cell? ⟨b4, 0, none⟩ = some (.int .i64 g0) ∧ w'.cell? ⟨b4, 1, none⟩ = some (.int .i64 g1) ∧ w'.cell? ⟨b4, 2, none⟩ = some (.int .i64 g2) ∧ w'.cell? ⟨b4, 3, none⟩ = some (.int .i64 g3) ∧ w'.cell? ⟨b4, 4, none⟩ = some (.int .i64 g4) ∧ w'.cell? ⟨b4, 5, none⟩ = some (.int .i64 g5) ∧ w'.cell? ⟨b4, 6, none⟩ = some (.int .i64 g6) ∧ w'.cell? ⟨b4, 7, none⟩ = some (.int .i64 g7) ∧ w'.cell? ⟨b4, 8, none⟩ = some (.int .i64 g8) ∧ w'.cell? ⟨b5, 0, none⟩ = some (.int .i64 m0) ∧ w'.cell? ⟨b5, 1, none⟩ = some (.int .i64 m1) ∧ w'.cell? ⟨b5, 2, none⟩ = some (.int .i64 m2) ∧ w'.cell? ⟨b5, 3, none⟩ = some (.int .i64 m3) ∧ w'.cell? ⟨b5, 4, none⟩ = some (.int .i64 m4) ∧ w'.cell? ⟨b5, 5, none⟩ = some (.int .i64 m5) ∧ w'.cell? ⟨b5, 6, none⟩ = some (.int .i64 m6) ∧ w'.cell? ⟨b5, 7, none⟩ = some (.int .i64 m7) ∧ w'.cell? ⟨b5, 8, none⟩ = some (.int .i64 m8) ∧ w'.cell? ⟨b5, 9, none⟩ = some (.int .i64 m9)) #[false, false, false, false, false, false, false, false] (fun W' hb => ⟨cB hb ((blk_cell B3w 0).trans rfl), cB hb ((blk_cell B3w 1).trans rfl), cB hb ((blk_cell B3w 2).trans rfl), cB hb ((blk_cell B3w 3).trans rfl), cB hb ((blk_cell B3w 4).trans rfl), cB hb ((blk_cell B3w 5).trans rfl), cB hb ((blk_cell B3w 6).trans rfl), cB hb ((blk_cell B3w 7).trans rfl), cB hb ((blk_cell B3w 8).trans rfl), cB hb ((blk_cell B4w 0).trans rfl), cB hb ((blk_cell B4w 1).trans rfl), cB hb ((blk_cell B4w 2).trans rfl), cB hb ((blk_cell B4w 3).trans rfl), cB hb ((blk_cell B4w 4).trans rfl), cB hb ((blk_cell B4w 5).trans rfl), cB hb ((blk_cell B4w 6).trans rfl), cB hb ((blk_cell B4w 7).trans rfl), cB hb ((blk_cell B4w 8).trans rfl), cB hb ((blk_cell B5w 0).trans rfl), cB hb ((blk_cell B5w 1).trans rfl), cB hb ((blk_cell B5w 2).trans rfl), cB hb ((blk_cell B5w 3).trans rfl), cB hb ((blk_cell B5w 4).trans rfl), cB hb ((blk_cell B5w 5).trans rfl), cB hb ((blk_cell B5w 6).trans rfl), cB hb ((blk_cell B5w 7).trans rfl), cB hb ((blk_cell B5w 8).trans rfl), cB hb ((blk_cell B5w 9).trans rfl)⟩) (fun w8 hb hH => ?_)
    have n0 := Aside0.mk (below_then EB.out EB.out.size hb); clear EB; have EB := n0; clear n0
    clear hb B3w B4w B5w D
    (try clear q0 f0 q1 f1 q2 f2)
    refine pz 4 (some 33) #[false, false, false, false, true, false, false, false] ?_
    refine tz 0 (some 29) #[true, false, false, false, true, false, false, false] hH ?_
    refine tz 1 (some 30) #[true, true, false, false, true, false, false, false] hH ?_
    refine tz 5 (some 34) #[true, true, false, false, true, true, false, false] hH ?_
    refine one_ (i := 2) (N := some 31) #[true, true, true, false, true, true, false, false] rfl rfl (by kernel_rfl) (by decide) (fun K hK => ?_)
    refine goes_ Try.func53 (by kernel_rfl) rfl #[.agg #[.int .i64 a0, .int .i64 a1, .int .i64 a2, .int .i64 a3, .int .i64 a4, .int .i64 a5, .int .i64 a6, .int .i64 a7, .int .i64 a8], .agg #[.int .i64 g0, .int .i64 g1, .int .i64 g2, .int .i64 g3, .int .i64 g4, .int .i64 g5, .int .i64 g6, .int .i64 g7, .int .i64 g8]] (by rfl) rfl rfl (by (try simp only [List.map_toArray, List.map_cons, List.map_nil]); first | done | (go_simp; done) | rfl | (go_simp; rfl)) ?_
    with_reducible refine (spec_MeetSels.calls k a0 a1 a2 a3 a4 a5 a6 a7 a8 g0 g1 g2 g3 g4 g5 g6 g7 g8 m0 z1 z2 z3 z4 z5 z6 z7 z8 z9 _ HZ.out).mono ?_
    rintro e wq ⟨rfl, hb⟩
    refine ⟨_, rfl, ?_⟩
    have n0 := Aside0.mk (below_then EB.out EB.out.size hb); clear EB; have EB := n0; clear n0
    refine hK.out _ _ ⟨cB hb hH.1, cB hb hH.2.1, cB hb hH.2.2.1, cB hb hH.2.2.2.1, cB hb hH.2.2.2.2.1, cB hb hH.2.2.2.2.2.1, cB hb hH.2.2.2.2.2.2.1, cB hb hH.2.2.2.2.2.2.2.1, cB hb hH.2.2.2.2.2.2.2.2.1, cB hb hH.2.2.2.2.2.2.2.2.2.1, cB hb hH.2.2.2.2.2.2.2.2.2.2.1, cB hb hH.2.2.2.2.2.2.2.2.2.2.2.1, cB hb hH.2.2.2.2.2.2.2.2.2.2.2.2.1, cB hb hH.2.2.2.2.2.2.2.2.2.2.2.2.2.1, cB hb hH.2.2.2.2.2.2.2.2.2.2.2.2.2.2.1, cB hb hH.2.2.2.2.2.2.2.2.2.2.2.2.2.2.2.1, cB hb hH.2.2.2.2.2.2.2.2.2.2.2.2.2.2.2.2.1, cB hb hH.2.2.2.2.2.2.2.2.2.2.2.2.2.2.2.2.2.1, cB hb hH.2.2.2.2.2.2.2.2.2.2.2.2.2.2.2.2.2.2.1, cB hb hH.2.2.2.2.2.2.2.2.2.2.2.2.2.2.2.2.2.2.2.1, cB hb hH.2.2.2.2.2.2.2.2.2.2.2.2.2.2.2.2.2.2.2.2.1, cB hb hH.2.2.2.2.2.2.2.2.2.2.2.2.2.2.2.2.2.2.2.2.2.1, cB hb hH.2.2.2.2.2.2.2.2.2.2.2.2.2.2.2.2.2.2.2.2.2.2.1, cB hb hH.2.2.2.2.2.2.2.2.2.2.2.2.2.2.2.2.2.2.2.2.2.2.2.1, cB hb hH.2.2.2.2.2.2.2.2.2.2.2.2.2.2.2.2.2.2.2.2.2.2.2.2.1, cB hb hH.2.2.2.2.2.2.2.2.2.2.2.2.2.2.2.2.2.2.2.2.2.2.2.2.2.1, cB hb hH.2.2.2.2.2.2.2.2.2.2.2.2.2.2.2.2.2.2.2.2.2.2.2.2.2.2.1, cB hb hH.2.2.2.2.2.2.2.2.2.2.2.2.2.2.2.2.2.2.2.2.2.2.2.2.2.2.2⟩ (fun hH2 => ?_)
    clear hK K hH
    have hH := hH2
    clear hH2 hb
    refine norm_ (a' := ?_) ?_ ?_
    rotate_left
    · (show Act.put _ (some 31) _ = _; simp only [Act.put, List.setIfInBounds_toArray, List.set_cons_zero, List.set_cons_succ, i64_w, i32_w]; rfl)
    refine pz 3 (some 32) #[true, true, true, true, true, true, false, false] ?_
    refine pz 6 (some 35) #[true, true, true, true, true, true, true, false] ?_
    refine pz 7 (some 2) #[true, true, true, true, true, true, true, true] ?_
    refine done_ (by kernel_rfl) ?_
    go_wp2
    go_ret
    exact ⟨rfl, EB.out⟩
  obtain rfl := beq_iff_eq.mp eb
  clear eb nb
  unfold laws_FnMeets.good at h7
  have h8 := ifD h7
  clear h7
  rcases h8 with ⟨hlm, h7⟩ | ⟨_, h7⟩
  case inr => exact noneE h7
  have LM := Aside0.mk (of_decide_eq_true hlm)
  obtain ⟨⟨d0, d1, d2, d3, d4, d5, d6, d7, d8, p0, p1, p2, p3, p4, p5, ld⟩, hh, h8⟩ := Option.bind_eq_some_iff.mp h7
  have HH := Aside0.mk hh
  clear hh h7 hlm
  obtain ⟨pa, hpa, h9⟩ := Option.bind_eq_some_iff.mp h8
  obtain ⟨pb, hpb, h7⟩ := Option.bind_eq_some_iff.mp h9
  clear h8 h9
  unfold laws_FnMeets.smp at hpa hpb
  obtain ⟨⟨x0, x1, x2, x3, x4, x5, x6, x7⟩, hsa, hpa2⟩ := Option.bind_eq_some_iff.mp hpa
  obtain rfl := Option.some.inj hpa2
  obtain ⟨⟨y0, y1, y2, y3, y4, y5, y6, y7⟩, hsb, hpb2⟩ := Option.bind_eq_some_iff.mp hpb
  obtain rfl := Option.some.inj hpb2
  have HSa := Aside0.mk hsa
  have HSb := Aside0.mk hsb
  have HG := Aside0.mk h7
  clear hpa hpb hpa2 hpb2 hsa hsb h7
  simp only at HG HSa HSb
  go_enter Try.func8, Try.ntmps8
  go_wp2_with (first
    | (go_at_call 12; with_reducible refine Calls.mono (CS.viaQ D.out (laws_lwBig.calls _ _ _ _ _ (Kd.C_below HR.out D.out.bel) HC.out HBig.out)) ?_; rintro e w1 ⟨rfl, hD⟩; clear D; have D := Aside0.mk hD; clear hD)
    | (go_at_call 52; with_reducible refine Calls.mono (CS.via D.out (spec_DrawMeetSels.calls k _ _ _ _ _ _ _ _ _ _ _ _ _ _ _ _ _ _ _ _ _ _ (Kd.C_below HR.out D.out.bel) HC.out HD.out)) ?_; rintro e w1 ⟨rfl, hD⟩; clear D; have D := Aside0.mk hD; clear hD)
    | ((with_reducible refine gate_dst (N := 3) rfl ?_); refine ev_box ?_; intro b3 _ hD; clear D; have D := Aside0.mk hD; clear hD; (try clear q0 f0); (try clear q1 f1); (try clear q2 f2); (try (have q0 := D.out.c 0 rfl; have f0 := D.out.f 0 rfl)); (try (have q1 := D.out.c 1 rfl; have f1 := D.out.f 1 rfl)); (try (have q2 := D.out.c 2 rfl; have f2 := D.out.f 2 rfl)))
    | ((with_reducible refine gate_dst (N := 4) rfl ?_); refine ev_box ?_; intro b4 _ hD; clear D; have D := Aside0.mk hD; clear hD; (try clear q0 f0); (try clear q1 f1); (try clear q2 f2); (try (have q0 := D.out.c 0 rfl; have f0 := D.out.f 0 rfl)); (try (have q1 := D.out.c 1 rfl; have f1 := D.out.f 1 rfl)); (try (have q2 := D.out.c 2 rfl; have f2 := D.out.f 2 rfl)))
    | ((with_reducible refine gate_dst (N := 5) rfl ?_); refine ev_box ?_; intro b5 _ hD; clear D; have D := Aside0.mk hD; clear hD; (try clear q0 f0); (try clear q1 f1); (try clear q2 f2); (try (have q0 := D.out.c 0 rfl; have f0 := D.out.f 0 rfl)); (try (have q1 := D.out.c 1 rfl; have f1 := D.out.f 1 rfl)); (try (have q2 := D.out.c 2 rfl; have f2 := D.out.f 2 rfl)))
    | ((with_reducible refine gate_dst (N := 6) rfl ?_); refine ev_box ?_; intro b6 _ hD; clear D; have D := Aside0.mk hD; clear hD; (try clear q0 f0); (try clear q1 f1); (try clear q2 f2); (try (have q0 := D.out.c 0 rfl; have f0 := D.out.f 0 rfl)); (try (have q1 := D.out.c 1 rfl; have f1 := D.out.f 1 rfl)); (try (have q2 := D.out.c 2 rfl; have f2 := D.out.f 2 rfl)))
    | ((with_reducible refine gate_dst (N := 7) rfl ?_); refine ev_box ?_; intro b7 _ hD; clear D; have D := Aside0.mk hD; clear hD; (try clear q0 f0); (try clear q1 f1); (try clear q2 f2); (try (have q0 := D.out.c 0 rfl; have f0 := D.out.f 0 rfl)); (try (have q1 := D.out.c 1 rfl; have f1 := D.out.f 1 rfl)); (try (have q2 := D.out.c 2 rfl; have f2 := D.out.f 2 rfl)))
    | ((with_reducible refine gate_st rfl ?_); refine ev_store ?_; intro w1 hD; clear D; simp only [List.set_cons_zero, List.set_cons_succ, List.setIfInBounds_toArray] at hD; have D := Aside0.mk hD; clear hD; (try clear q0 f0); (try clear q1 f1); (try clear q2 f2); (try (have q0 := D.out.c 0 rfl; have f0 := D.out.f 0 rfl)); (try (have q1 := D.out.c 1 rfl; have f1 := D.out.f 1 rfl)); (try (have q2 := D.out.c 2 rfl; have f2 := D.out.f 2 rfl)))
    | (go_at_call 47; with_reducible refine Calls.mono (CS.via D.out (impl_MeetSels.calls k _ _ _ _ _ _ _ _ _ _ _ _ _ _ _ _ _ _ _ _ _ _ _ _ _ _ _ _ _ HM.out)) ?_; rintro e w1 ⟨rfl, hD⟩; clear D; have D := Aside0.mk hD; clear hD; (try clear q0 f0); (try clear q1 f1); (try clear q2 f2); (try (have q0 := D.out.c 0 rfl; have f0 := D.out.f 0 rfl)); (try (have q1 := D.out.c 1 rfl; have f1 := D.out.f 1 rfl)); (try (have q2 := D.out.c 2 rfl; have f2 := D.out.f 2 rfl)))
    | (go_at_call 44; with_reducible refine Calls.mono (CS.via D.out (spec_SelFault.calls k _ _ _ _ _ _ _ _ _ _ _ (Aside0.out (by with_reducible assumption)))) ?_; rintro e w1 ⟨rfl, hD⟩; clear D; have D := Aside0.mk hD; clear hD; (try clear q0 f0); (try clear q1 f1); (try clear q2 f2); (try (have q0 := D.out.c 0 rfl; have f0 := D.out.f 0 rfl)); (try (have q1 := D.out.c 1 rfl; have f1 := D.out.f 1 rfl)); (try (have q2 := D.out.c 2 rfl; have f2 := D.out.f 2 rfl)))
    | ((with_reducible refine gate_lit (t := 22) rfl ?_); have B5 := Aside0.mk (D.out.at_ 0 rfl); have B4 := Aside0.mk (D.out.at_ 1 rfl); have B3 := Aside0.mk (D.out.at_ 2 rfl); have E2 := Aside0.mk D.out.bel; refine lit_row (bs := []) (Kd.int .u8) 5 [3] [.int .u8 3] ?_ (CS.startB _) (Reps.one rfl (Reps.none _ _)) (by simp); intro A6 c6 w3 hD; clear D q0 f0 q1 f1 q2 f2; have D := Aside0.mk hD; clear hD)
    | ((with_reducible refine gate_ap (ts := #[22, 22]) rfl ?_); refine ev_appends (Kd.int .u8) 22 5 (.int .u8 0) 1 (.tmp 37) (.tmp 38) (ys := l0) ?_ (by have := LM.out; simp only [List.length_cons, List.length_nil]; omega) D.out (Kd.C_below (Kd.C_below HR.out E2.out) D.out.bel) (fun _ _ h => h); intro A6 c6 w4 hD; clear D; have D := Aside0.mk hD; clear hD)
    | (go_at_call 46; with_reducible refine Calls.mono (spec_DrawHolds.calls k _ _ _ _ _ _ _ _ _ _ _ _ _ _ _ _ _ _ _ _ (Kd.R_reads' (D.out.row 0 rfl)).2.2 (Kd.R_reads' (D.out.row 0 rfl)).2.1 HH.out) ?_; rintro e w5 ⟨v7, rfl, hR7, hb⟩; obtain ⟨A7, c7, rfl⟩ := Kd.R_slice hR7; have E3 := Aside0.mk (below_then D.out.bel D.out.bel.size hb); have HP := Aside0.mk hR7; clear D hR7 hb; have D := Aside0.mk (CS.startB w5)))
  have E4 := Aside0.mk D.out.bel
  have B7 := D.out.at_ 0 rfl
  have EW := Aside0.mk (below_then (below_then E2.out E2.out.size E3.out) (Nat.le_trans E2.out.size E3.out.size) E4.out)
  have B35 := Aside0.mk (blk_b (blk_b B3.out E3.out) E4.out)
  have B45 := Aside0.mk (blk_b (blk_b B4.out E3.out) E4.out)
  have B55 := Aside0.mk (blk_b (blk_b B5.out E3.out) E4.out)
  have HPl := Aside0.mk (Kd.R_reads' HP.out).2.1
  have HF7 := Aside0.mk (Kd.F_below (Kd.R_F HP.out) E4.out)
  have EB := Aside0.mk (Below.refl w1.heap.size w1)
  clear HR HC HBig HD HH HP E2 E3 E4 B3 B4 B5 LM q0 f0 q1 f1
  (try clear q2 f2)
  refine rg_start (n := 9) (S := fun w' => w'.cell? ⟨b7, 0, none⟩ = some (.int .i64 p0) ∧ w'.cell? ⟨b7, 1, none⟩ = some (.int .i64 p1) ∧ w'.cell? ⟨b7, 2, none⟩ = some (.int .i64 p2) ∧ w'.cell? ⟨b7, 3, none⟩ = some (.int .i64 p3) ∧ w'.cell? ⟨b7, 4, none⟩ = some (.int .i64 p4) ∧ w'.cell? ⟨b7, 5, none⟩ = some (.int .i64 p5) ∧ w'.cell? ⟨b7, 6, none⟩ = some (.slice A7 ld.length c7) ∧ w'.cell? ⟨b3, 0, none⟩ = some (.int .i64 a0) ∧ w'.cell? ⟨b3, 1, none⟩ = some (.int .i64 a1) ∧ w'.cell? ⟨b3, 2, none⟩ = some (.int .i64 a2) ∧ w'.cell? ⟨b3, 3, none⟩ = some (.int .i64 a3) ∧ w'.cell? ⟨b3, 4, none⟩ = some (.int .i64 a4) ∧ w'.cell? ⟨b3, 5, none⟩ = some (.int .i64 a5) ∧ w'.cell? ⟨b3, 6, none⟩ = some (.int .i64 a6) ∧ w'.cell? ⟨b3, 7, none⟩ = some (.int .i64 a7) ∧ w'.cell? ⟨b3, 8, none⟩ = some (.int .i64 a8) ∧ w'.cell? ⟨b4, 0, none⟩ = some (.int .i64 g0) ∧ w'.cell? ⟨b4, 1, none⟩ = some (.int .i64 g1) ∧ w'.cell? ⟨b4, 2, none⟩ = some (.int .i64 g2) ∧ w'.cell? ⟨b4, 3, none⟩ = some (.int .i64 g3) ∧ w'.cell? ⟨b4, 4, none⟩ = some (.int .i64 g4) ∧ w'.cell? ⟨b4, 5, none⟩ = some (.int .i64 g5) ∧ w'.cell? ⟨b4, 6, none⟩ = some (.int .i64 g6) ∧ w'.cell? ⟨b4, 7, none⟩ = some (.int .i64 g7) ∧ w'.cell? ⟨b4, 8, none⟩ = some (.int .i64 g8)) #[false, false, false, false, false, false, false, false, false] (fun W' hb => ⟨cB hb ((blk_cell B7 0).trans rfl), cB hb ((blk_cell B7 1).trans rfl), cB hb ((blk_cell B7 2).trans rfl), cB hb ((blk_cell B7 3).trans rfl), cB hb ((blk_cell B7 4).trans rfl), cB hb ((blk_cell B7 5).trans rfl), cB hb ((blk_cell B7 6).trans rfl), cB hb ((blk_cell B35.out 0).trans rfl), cB hb ((blk_cell B35.out 1).trans rfl), cB hb ((blk_cell B35.out 2).trans rfl), cB hb ((blk_cell B35.out 3).trans rfl), cB hb ((blk_cell B35.out 4).trans rfl), cB hb ((blk_cell B35.out 5).trans rfl), cB hb ((blk_cell B35.out 6).trans rfl), cB hb ((blk_cell B35.out 7).trans rfl), cB hb ((blk_cell B35.out 8).trans rfl), cB hb ((blk_cell B45.out 0).trans rfl), cB hb ((blk_cell B45.out 1).trans rfl), cB hb ((blk_cell B45.out 2).trans rfl), cB hb ((blk_cell B45.out 3).trans rfl), cB hb ((blk_cell B45.out 4).trans rfl), cB hb ((blk_cell B45.out 5).trans rfl), cB hb ((blk_cell B45.out 6).trans rfl), cB hb ((blk_cell B45.out 7).trans rfl), cB hb ((blk_cell B45.out 8).trans rfl)⟩) (fun w8 hb hH => ?_)
  have n0 := Aside0.mk (below_then EB.out EB.out.size hb); have n1 := Aside0.mk (Kd.F_below HF7.out hb); clear EB HF7; have EB := n0; have HF7 := n1; clear n0 n1
  clear hb B7 D
  refine tz 0 (some 43) #[true, false, false, false, false, false, false, false, false] hH ?_
  refine tz 1 (some 44) #[true, true, false, false, false, false, false, false, false] hH ?_
  refine tz 4 (some 47) #[true, true, false, false, true, false, false, false, false] hH ?_
  refine one_ (i := 2) (N := some 45) #[true, true, true, false, true, false, false, false, false] rfl rfl (by kernel_rfl) (by decide) (fun K hK => ?_)
  refine goes_ Try.func54 (by kernel_rfl) rfl #[.agg #[.int .i64 a0, .int .i64 a1, .int .i64 a2, .int .i64 a3, .int .i64 a4, .int .i64 a5, .int .i64 a6, .int .i64 a7, .int .i64 a8]] (by rfl) rfl rfl (by (try simp only [List.map_toArray, List.map_cons, List.map_nil]); first | done | (go_simp; done) | rfl | (go_simp; rfl)) ?_
  with_reducible refine (impl_SampleOf.calls k a0 a1 a2 a3 a4 a5 a6 a7 a8 x0 x1 x2 x3 x4 x5 x6 x7 _ HSa.out).mono ?_
  rintro e w9 ⟨v8, rfl, hRa, hb⟩
  obtain ⟨A8, c8, rfl⟩ := Kd.R_slice hRa
  have HFa := Aside0.mk (Kd.R_F hRa)
  have HLa := Aside0.mk (Kd.R_reads' hRa).2.1
  clear hRa
  refine ⟨_, rfl, ?_⟩
  have n0 := Aside0.mk (below_then EB.out EB.out.size hb); have n1 := Aside0.mk (Kd.F_below HF7.out hb); clear EB HF7; have EB := n0; have HF7 := n1; clear n0 n1
  refine hK.out _ _ ⟨cB hb hH.1, cB hb hH.2.1, cB hb hH.2.2.1, cB hb hH.2.2.2.1, cB hb hH.2.2.2.2.1, cB hb hH.2.2.2.2.2.1, cB hb hH.2.2.2.2.2.2.1, cB hb hH.2.2.2.2.2.2.2.1, cB hb hH.2.2.2.2.2.2.2.2.1, cB hb hH.2.2.2.2.2.2.2.2.2.1, cB hb hH.2.2.2.2.2.2.2.2.2.2.1, cB hb hH.2.2.2.2.2.2.2.2.2.2.2.1, cB hb hH.2.2.2.2.2.2.2.2.2.2.2.2.1, cB hb hH.2.2.2.2.2.2.2.2.2.2.2.2.2.1, cB hb hH.2.2.2.2.2.2.2.2.2.2.2.2.2.2.1, cB hb hH.2.2.2.2.2.2.2.2.2.2.2.2.2.2.2.1, cB hb hH.2.2.2.2.2.2.2.2.2.2.2.2.2.2.2.2.1, cB hb hH.2.2.2.2.2.2.2.2.2.2.2.2.2.2.2.2.2.1, cB hb hH.2.2.2.2.2.2.2.2.2.2.2.2.2.2.2.2.2.2.1, cB hb hH.2.2.2.2.2.2.2.2.2.2.2.2.2.2.2.2.2.2.2.1, cB hb hH.2.2.2.2.2.2.2.2.2.2.2.2.2.2.2.2.2.2.2.2.1, cB hb hH.2.2.2.2.2.2.2.2.2.2.2.2.2.2.2.2.2.2.2.2.2.1, cB hb hH.2.2.2.2.2.2.2.2.2.2.2.2.2.2.2.2.2.2.2.2.2.2.1, cB hb hH.2.2.2.2.2.2.2.2.2.2.2.2.2.2.2.2.2.2.2.2.2.2.2.1, cB hb hH.2.2.2.2.2.2.2.2.2.2.2.2.2.2.2.2.2.2.2.2.2.2.2.2⟩ (fun hH2 => ?_)
  clear hK K hH
  have hH := hH2
  clear hH2 hb
  refine norm_ (a' := ?_) ?_ ?_
  rotate_left
  · (show Act.put _ (some 45) _ = _; simp only [Act.put, List.setIfInBounds_toArray, List.set_cons_zero, List.set_cons_succ, i64_w, i32_w]; rfl)
  refine pz 3 (some 46) #[true, true, true, true, true, false, false, false, false] ?_
  refine one_ (i := 5) (N := some 48) #[true, true, true, true, true, true, false, false, false] rfl rfl (by kernel_rfl) (by decide) (fun K hK => ?_)
  refine goes_ Try.func54 (by kernel_rfl) rfl #[.agg #[.int .i64 g0, .int .i64 g1, .int .i64 g2, .int .i64 g3, .int .i64 g4, .int .i64 g5, .int .i64 g6, .int .i64 g7, .int .i64 g8]] (by rfl) rfl rfl (by (try simp only [List.map_toArray, List.map_cons, List.map_nil]); first | done | (go_simp; done) | rfl | (go_simp; rfl)) ?_
  with_reducible refine (impl_SampleOf.calls k g0 g1 g2 g3 g4 g5 g6 g7 g8 y0 y1 y2 y3 y4 y5 y6 y7 _ HSb.out).mono ?_
  rintro e w9 ⟨v8, rfl, hRb, hb⟩
  obtain ⟨A9, c9, rfl⟩ := Kd.R_slice hRb
  have HFb := Aside0.mk (Kd.R_F hRb)
  have HLb := Aside0.mk (Kd.R_reads' hRb).2.1
  clear hRb
  refine ⟨_, rfl, ?_⟩
  have n0 := Aside0.mk (below_then EB.out EB.out.size hb); have n1 := Aside0.mk (Kd.F_below HF7.out hb); have n2 := Aside0.mk (Kd.F_below HFa.out hb); clear EB HF7 HFa; have EB := n0; have HF7 := n1; have HFa := n2; clear n0 n1 n2
  refine hK.out _ _ ⟨cB hb hH.1, cB hb hH.2.1, cB hb hH.2.2.1, cB hb hH.2.2.2.1, cB hb hH.2.2.2.2.1, cB hb hH.2.2.2.2.2.1, cB hb hH.2.2.2.2.2.2.1, cB hb hH.2.2.2.2.2.2.2.1, cB hb hH.2.2.2.2.2.2.2.2.1, cB hb hH.2.2.2.2.2.2.2.2.2.1, cB hb hH.2.2.2.2.2.2.2.2.2.2.1, cB hb hH.2.2.2.2.2.2.2.2.2.2.2.1, cB hb hH.2.2.2.2.2.2.2.2.2.2.2.2.1, cB hb hH.2.2.2.2.2.2.2.2.2.2.2.2.2.1, cB hb hH.2.2.2.2.2.2.2.2.2.2.2.2.2.2.1, cB hb hH.2.2.2.2.2.2.2.2.2.2.2.2.2.2.2.1, cB hb hH.2.2.2.2.2.2.2.2.2.2.2.2.2.2.2.2.1, cB hb hH.2.2.2.2.2.2.2.2.2.2.2.2.2.2.2.2.2.1, cB hb hH.2.2.2.2.2.2.2.2.2.2.2.2.2.2.2.2.2.2.1, cB hb hH.2.2.2.2.2.2.2.2.2.2.2.2.2.2.2.2.2.2.2.1, cB hb hH.2.2.2.2.2.2.2.2.2.2.2.2.2.2.2.2.2.2.2.2.1, cB hb hH.2.2.2.2.2.2.2.2.2.2.2.2.2.2.2.2.2.2.2.2.2.1, cB hb hH.2.2.2.2.2.2.2.2.2.2.2.2.2.2.2.2.2.2.2.2.2.2.1, cB hb hH.2.2.2.2.2.2.2.2.2.2.2.2.2.2.2.2.2.2.2.2.2.2.2.1, cB hb hH.2.2.2.2.2.2.2.2.2.2.2.2.2.2.2.2.2.2.2.2.2.2.2.2⟩ (fun hH2 => ?_)
  clear hK K hH
  have hH := hH2
  clear hH2 hb
  refine norm_ (a' := ?_) ?_ ?_
  rotate_left
  · (show Act.put _ (some 48) _ = _; simp only [Act.put, List.setIfInBounds_toArray, List.set_cons_zero, List.set_cons_succ, i64_w, i32_w]; rfl)
  refine pz 6 (some 49) #[true, true, true, true, true, true, true, false, false] ?_
  refine one_ (i := 7) (N := some 50) #[true, true, true, true, true, true, true, true, false] rfl rfl (by kernel_rfl) (by decide) (fun K hK => ?_)
  refine pk_lits k71 71 [(⟨p0, p1, p2, p3, p4, p5, ld⟩ : S71), (⟨x1, x2, x3, x4, x5, x6, x7⟩ : S71), (⟨y1, y2, y3, y4, y5, y6, y7⟩ : S71)] [.int .i64 p0, .int .i64 p1, .int .i64 p2, .int .i64 p3, .int .i64 p4, .int .i64 p5, .slice A7 ld.length c7, .int .i64 x1, .int .i64 x2, .int .i64 x3, .int .i64 x4, .int .i64 x5, .int .i64 x6, .slice A8 x7.length c8, .int .i64 y1, .int .i64 y2, .int .i64 y3, .int .i64 y4, .int .i64 y5, .int .i64 y6, .slice A9 y7.length c9] ?_ (show Reps (Kd.FK k71 _ (fun _ => True)) 7 [(⟨p0, p1, p2, p3, p4, p5, ld⟩ : S71), (⟨x1, x2, x3, x4, x5, x6, x7⟩ : S71), (⟨y1, y2, y3, y4, y5, y6, y7⟩ : S71)] [.int .i64 p0, .int .i64 p1, .int .i64 p2, .int .i64 p3, .int .i64 p4, .int .i64 p5, .slice A7 ld.length c7, .int .i64 x1, .int .i64 x2, .int .i64 x3, .int .i64 x4, .int .i64 x5, .int .i64 x6, .slice A8 x7.length c8, .int .i64 y1, .int .i64 y2, .int .i64 y3, .int .i64 y4, .int .i64 y5, .int .i64 y6, .slice A9 y7.length c9] from Reps.snoc (Reps.snoc (Reps.snoc (Reps.none _ _) (laws_FnMeets.mkF _ _ (⟨p0, p1, p2, p3, p4, p5, ld⟩ : S71) HPl.out HF7.out) rfl) (laws_FnMeets.mkF _ _ (⟨x1, x2, x3, x4, x5, x6, x7⟩ : S71) HLa.out HFa.out) rfl) (laws_FnMeets.mkF _ _ (⟨y1, y2, y3, y4, y5, y6, y7⟩ : S71) HLb.out HFb.out) rfl) (by simp)
  intro A10 c10 w10 hL hb
  refine hK.out _ _ ⟨cB hb hH.1, cB hb hH.2.1, cB hb hH.2.2.1, cB hb hH.2.2.2.1, cB hb hH.2.2.2.2.1, cB hb hH.2.2.2.2.2.1, cB hb hH.2.2.2.2.2.2.1, cB hb hH.2.2.2.2.2.2.2.1, cB hb hH.2.2.2.2.2.2.2.2.1, cB hb hH.2.2.2.2.2.2.2.2.2.1, cB hb hH.2.2.2.2.2.2.2.2.2.2.1, cB hb hH.2.2.2.2.2.2.2.2.2.2.2.1, cB hb hH.2.2.2.2.2.2.2.2.2.2.2.2.1, cB hb hH.2.2.2.2.2.2.2.2.2.2.2.2.2.1, cB hb hH.2.2.2.2.2.2.2.2.2.2.2.2.2.2.1, cB hb hH.2.2.2.2.2.2.2.2.2.2.2.2.2.2.2.1, cB hb hH.2.2.2.2.2.2.2.2.2.2.2.2.2.2.2.2.1, cB hb hH.2.2.2.2.2.2.2.2.2.2.2.2.2.2.2.2.2.1, cB hb hH.2.2.2.2.2.2.2.2.2.2.2.2.2.2.2.2.2.2.1, cB hb hH.2.2.2.2.2.2.2.2.2.2.2.2.2.2.2.2.2.2.2.1, cB hb hH.2.2.2.2.2.2.2.2.2.2.2.2.2.2.2.2.2.2.2.2.1, cB hb hH.2.2.2.2.2.2.2.2.2.2.2.2.2.2.2.2.2.2.2.2.2.1, cB hb hH.2.2.2.2.2.2.2.2.2.2.2.2.2.2.2.2.2.2.2.2.2.2.1, cB hb hH.2.2.2.2.2.2.2.2.2.2.2.2.2.2.2.2.2.2.2.2.2.2.2.1, cB hb hH.2.2.2.2.2.2.2.2.2.2.2.2.2.2.2.2.2.2.2.2.2.2.2.2⟩ (fun hH2 => ?_)
  clear hK K hH hH2
  have B36 := Aside0.mk (blk_b B35.out EB.out)
  have B46 := Aside0.mk (blk_b B45.out EB.out)
  have B56 := Aside0.mk (blk_b B55.out EB.out)
  have EW6 := Aside0.mk (below_then EW.out EW.out.size EB.out)
  clear EB EW B35 B45 B55 HF7 HFa HFb HPl HLa HLb HSa HSb
  have EB := Aside0.mk hb
  have HL := Aside0.mk hL
  clear hb hL
  refine norm_ (a' := ?_) ?_ ?_
  rotate_left
  · (show Act.put _ (some 50) _ = _; simp only [Act.put, List.setIfInBounds_toArray, List.set_cons_zero, List.set_cons_succ, i64_w, i32_w]; rfl)
  refine pz 8 (some 8) #[true, true, true, true, true, true, true, true, true] ?_
  refine done_ (by kernel_rfl) ?_
  have q5 := blk_cell (blk_b B56.out EB.out)
  have HG2 := ifE HG.out
  clear HG
  rcases HG2 with ⟨em, nm, H⟩ | ⟨em, nm, H⟩
  case inl =>
    obtain rfl := beq_iff_eq.mp em
    unfold laws_FnMeets.smp at H
    obtain ⟨pm, hpm, H2⟩ := Option.bind_eq_some_iff.mp H
    obtain ⟨⟨w0_, w1_, w2_, w3_, w4_, w5_, w6_, w7_⟩, hsm, hpm2⟩ := Option.bind_eq_some_iff.mp hpm
    obtain rfl := Option.some.inj hpm2
    obtain ⟨fm, hfm, H3⟩ := Option.bind_eq_some_iff.mp H2
    have H4 := ifD H3
    rcases H4 with ⟨hf0, H5⟩ | ⟨_, H5⟩
    case inr => exact noneE H5
    obtain rfl := of_decide_eq_true hf0
    obtain ⟨xh, hxh, H6⟩ := Option.bind_eq_some_iff.mp H5
    have H7 := ifB H6
    rcases H7 with ⟨rfl, H8⟩ | ⟨_, H8⟩
    case inr => exact noneE H8
    have HSm : Aside0 (impl_SampleOf.f k m1 m2 m3 m4 m5 m6 m7 m8 m9 = some _) := ⟨hsm⟩
    have HFm : Aside0 (impl_SelFault.f k m1 m2 m3 m4 m5 m6 m7 m8 m9 = some 0) := ⟨hfm⟩
    have HHm := Aside0.mk hxh
    have H := H8
    clear H2 H3 H5 H6 H8 hpm hsm hpm2 hfm hf0 hxh
    have f5 := blk_frozen (blk_b B56.out EB.out)
    go_wp2_with (first
    | (go_at_call 54; with_reducible refine Calls.mono (impl_SampleOf.calls k _ _ _ _ _ _ _ _ _ w0_ w1_ w2_ w3_ w4_ w5_ w6_ w7_ _ HSm.out) ?_; rintro e w8 ⟨v8, rfl, hR, hb⟩; obtain ⟨A11, c11, rfl⟩ := Kd.R_slice hR; have HK := Aside0.mk (laws_FnMeets.mkF _ _ (⟨w1_, w2_, w3_, w4_, w5_, w6_, w7_⟩ : S71) (Kd.R_reads' hR).2.1 (pk_fresh HL.out hR)); have HL2 := Aside0.mk (Kd.N_below HL.out hb); have EB2 := Aside0.mk (below_then EB.out EB.out.size hb); clear HL EB q5 f5 hR hb; have q5 := blk_cell (blk_b B56.out EB2.out))
    | ((with_reducible refine gate_ap (ts := #[83, 83]) rfl ?_); refine pk_append (w0 := w9) k71 83 71 (.agg #[.int .i64 0, .int .i64 0, .int .i64 0, .int .i64 0, .int .i64 0, .int .i64 0, .slice none 0 0]) 72 (.tmp 54) (.tmp 59) (xs := [(⟨p0, p1, p2, p3, p4, p5, ld⟩ : S71), (⟨x1, x2, x3, x4, x5, x6, x7⟩ : S71), (⟨y1, y2, y3, y4, y5, y6, y7⟩ : S71)]) (⟨w1_, w2_, w3_, w4_, w5_, w6_, w7_⟩ : S71) [.int .i64 w1_, .int .i64 w2_, .int .i64 w3_, .int .i64 w4_, .int .i64 w5_, .int .i64 w6_, .slice A11 w7_.length c11] ?_ (by simp) HL2.out EB2.out EB2.out.size HK.out; intro A12 c12 w11 hN hb; clear HL2 EB2 HK q5; have HL := Aside0.mk hN; have EB := Aside0.mk hb; clear hN hb))
    obtain ⟨out, hout⟩ : ∃ out : List S71, out = [(⟨p0, p1, p2, p3, p4, p5, ld⟩ : S71), (⟨x1, x2, x3, x4, x5, x6, x7⟩ : S71), (⟨y1, y2, y3, y4, y5, y6, y7⟩ : S71), (⟨w1_, w2_, w3_, w4_, w5_, w6_, w7_⟩ : S71)] := ⟨_, rfl⟩
    have HL3 : Aside0 (Kd.N k71 71 _ w9.heap.size (fun _ => True) (.slice A12 out.length c12) out) := ⟨by rw [hout]; exact HL.out⟩
    clear HL
    have HL := HL3
    clear HL3
    rw [← hout] at H
    have hl3 : out.length = 4 := by rw [hout]; rfl
    have e3 : rd_T71 out 3 = (⟨w1_, w2_, w3_, w4_, w5_, w6_, w7_⟩ : S71) := by rw [hout]; rfl
    obtain ⟨adz, Ap, cp, e, hx0, hx1, hx2, hx3, hx4, hx5, hx6, hl6, hc6⟩ := at_T71 (Kd.N_reads' HL.out).2.2 (3 : Int) (by decide) (by omega)
    cases e.symm
    simp only [show (3 : Int).toNat * 7 = 21 from rfl, show adz.add 21 = (⟨adz.block, adz.off + 21, none⟩ : Addr) from rfl] at hx0 hx1 hx2 hx3 hx4 hx5 hx6
    have HP6 := Aside0.mk hc6
    have HPl := Aside0.mk hl6
    clear hc6 hl6
    have HHm3 : Aside0 (impl_Holds.f k m1 m2 m3 m4 m5 m6 m7 m8 m9 (rd_T71 out 3).f0 (rd_T71 out 3).f1 (rd_T71 out 3).f2 (rd_T71 out 3).f3 (rd_T71 out 3).f4 (rd_T71 out 3).f5 (rd_T71 out 3).f6 = some true) := ⟨by rw [e3]; exact HHm.out⟩
    have B3w := blk_b B36.out EB.out
    have B4w := blk_b B46.out EB.out
    have B5w := blk_b B56.out EB.out
    refine rg_start (n := 13) (S := fun w' => w'.cell? ⟨b3, 0, none⟩ = some (.int .i64 a0) ∧ w'.cell? ⟨b3, 1, none⟩ = some (.int .i64 a1) ∧ w'.cell? ⟨b3, 2, none⟩ = some (.int .i64 a2) ∧ w'.cell? ⟨b3, 3, none⟩ = some (.int .i64 a3) ∧ w'.cell? ⟨b3, 4, none⟩ = some (.int .i64 a4) ∧ w'.cell? ⟨b3, 5, none⟩ = some (.int .i64 a5) ∧ w'.cell? ⟨b3, 6, none⟩ = some (.int .i64 a6) ∧ w'.cell? ⟨b3, 7, none⟩ = some (.int .i64 a7) ∧ w'.cell? ⟨b3, 8, none⟩ = some (.int .i64 a8) ∧ w'.cell? ⟨b4, 0, none⟩ = some (.int .i64 g0) ∧ w'.cell? ⟨b4, 1, none⟩ = some (.int .i64 g1) ∧ w'.cell? ⟨b4, 2, none⟩ = some (.int .i64 g2) ∧ w'.cell? ⟨b4, 3, none⟩ = some (.int .i64 g3) ∧ w'.cell? ⟨b4, 4, none⟩ = some (.int .i64 g4) ∧ w'.cell? ⟨b4, 5, none⟩ = some (.int .i64 g5) ∧ w'.cell? ⟨b4, 6, none⟩ = some (.int .i64 g6) ∧ w'.cell? ⟨b4, 7, none⟩ = some (.int .i64 g7) ∧ w'.cell? ⟨b4, 8, none⟩ = some (.int .i64 g8) ∧ w'.cell? ⟨b5, 0, none⟩ = some (.int .i64 0) ∧ w'.cell? ⟨b5, 1, none⟩ = some (.int .i64 m1) ∧ w'.cell? ⟨b5, 2, none⟩ = some (.int .i64 m2) ∧ w'.cell? ⟨b5, 3, none⟩ = some (.int .i64 m3) ∧ w'.cell? ⟨b5, 4, none⟩ = some (.int .i64 m4) ∧ w'.cell? ⟨b5, 5, none⟩ = some (.int .i64 m5) ∧ w'.cell? ⟨b5, 6, none⟩ = some (.int .i64 m6) ∧ w'.cell? ⟨b5, 7, none⟩ = some (.int .i64 m7) ∧ w'.cell? ⟨b5, 8, none⟩ = some (.int .i64 m8) ∧ w'.cell? ⟨b5, 9, none⟩ = some (.int .i64 m9) ∧ w'.cell? ⟨adz.block, adz.off + 21, none⟩ = some (.int .i64 (rd_T71 out 3).f0) ∧ w'.cell? ⟨adz.block, adz.off + 21 + 1, none⟩ = some (.int .i64 (rd_T71 out 3).f1) ∧ w'.cell? ⟨adz.block, adz.off + 21 + 2, none⟩ = some (.int .i64 (rd_T71 out 3).f2) ∧ w'.cell? ⟨adz.block, adz.off + 21 + 3, none⟩ = some (.int .i64 (rd_T71 out 3).f3) ∧ w'.cell? ⟨adz.block, adz.off + 21 + 4, none⟩ = some (.int .i64 (rd_T71 out 3).f4) ∧ w'.cell? ⟨adz.block, adz.off + 21 + 5, none⟩ = some (.int .i64 (rd_T71 out 3).f5) ∧ w'.cell? ⟨adz.block, adz.off + 21 + 6, none⟩ = some (.slice Ap (rd_T71 out 3).f6.length cp)) #[false, false, false, false, false, false, false, false, false, false, false, false, false] (fun W' hb => ⟨cB hb ((blk_cell B3w 0).trans rfl), cB hb ((blk_cell B3w 1).trans rfl), cB hb ((blk_cell B3w 2).trans rfl), cB hb ((blk_cell B3w 3).trans rfl), cB hb ((blk_cell B3w 4).trans rfl), cB hb ((blk_cell B3w 5).trans rfl), cB hb ((blk_cell B3w 6).trans rfl), cB hb ((blk_cell B3w 7).trans rfl), cB hb ((blk_cell B3w 8).trans rfl), cB hb ((blk_cell B4w 0).trans rfl), cB hb ((blk_cell B4w 1).trans rfl), cB hb ((blk_cell B4w 2).trans rfl), cB hb ((blk_cell B4w 3).trans rfl), cB hb ((blk_cell B4w 4).trans rfl), cB hb ((blk_cell B4w 5).trans rfl), cB hb ((blk_cell B4w 6).trans rfl), cB hb ((blk_cell B4w 7).trans rfl), cB hb ((blk_cell B4w 8).trans rfl), cB hb ((blk_cell B5w 0).trans rfl), cB hb ((blk_cell B5w 1).trans rfl), cB hb ((blk_cell B5w 2).trans rfl), cB hb ((blk_cell B5w 3).trans rfl), cB hb ((blk_cell B5w 4).trans rfl), cB hb ((blk_cell B5w 5).trans rfl), cB hb ((blk_cell B5w 6).trans rfl), cB hb ((blk_cell B5w 7).trans rfl), cB hb ((blk_cell B5w 8).trans rfl), cB hb ((blk_cell B5w 9).trans rfl), cB hb hx0, cB hb hx1, cB hb hx2, cB hb hx3, cB hb hx4, cB hb hx5, cB hb hx6⟩) (fun w8 hb hH => ?_)
    have n0 := Aside0.mk (below_then EB.out EB.out.size hb); have n1 := Aside0.mk (Kd.N_below HL.out hb); have n2 := Aside0.mk (Kd.C_below HP6.out hb); clear EB HL HP6; have EB := n0; have HL := n1; have HP6 := n2; clear n0 n1 n2
    clear hb
    refine pz 0 (some 61) #[true, false, false, false, false, false, false, false, false, false, false, false, false] ?_
    refine tz 1 (some 62) #[true, true, false, false, false, false, false, false, false, false, false, false, false] hH ?_
    refine one_ (i := 2) (N := some 63) #[true, true, true, false, false, false, false, false, false, false, false, false, false] rfl rfl (by kernel_rfl) (by decide) (fun K hK => ?_)
    refine goes_ Try.func55 (by kernel_rfl) rfl #[.agg #[.int .i64 m1, .int .i64 m2, .int .i64 m3, .int .i64 m4, .int .i64 m5, .int .i64 m6, .int .i64 m7, .int .i64 m8, .int .i64 m9]] (by rfl) rfl rfl (by (try simp only [List.map_toArray, List.map_cons, List.map_nil]); first | done | (go_simp; done) | rfl | (go_simp; rfl)) ?_
    with_reducible refine (impl_SelFault.calls k m1 m2 m3 m4 m5 m6 m7 m8 m9 0 _ HFm.out).mono ?_
    rintro e wq ⟨rfl, hb⟩
    refine ⟨_, rfl, ?_⟩
    have n0 := Aside0.mk (below_then EB.out EB.out.size hb); have n1 := Aside0.mk (Kd.N_below HL.out hb); have n2 := Aside0.mk (Kd.C_below HP6.out hb); clear EB HL HP6; have EB := n0; have HL := n1; have HP6 := n2; clear n0 n1 n2
    refine hK.out _ _ ⟨cB hb hH.1, cB hb hH.2.1, cB hb hH.2.2.1, cB hb hH.2.2.2.1, cB hb hH.2.2.2.2.1, cB hb hH.2.2.2.2.2.1, cB hb hH.2.2.2.2.2.2.1, cB hb hH.2.2.2.2.2.2.2.1, cB hb hH.2.2.2.2.2.2.2.2.1, cB hb hH.2.2.2.2.2.2.2.2.2.1, cB hb hH.2.2.2.2.2.2.2.2.2.2.1, cB hb hH.2.2.2.2.2.2.2.2.2.2.2.1, cB hb hH.2.2.2.2.2.2.2.2.2.2.2.2.1, cB hb hH.2.2.2.2.2.2.2.2.2.2.2.2.2.1, cB hb hH.2.2.2.2.2.2.2.2.2.2.2.2.2.2.1, cB hb hH.2.2.2.2.2.2.2.2.2.2.2.2.2.2.2.1, cB hb hH.2.2.2.2.2.2.2.2.2.2.2.2.2.2.2.2.1, cB hb hH.2.2.2.2.2.2.2.2.2.2.2.2.2.2.2.2.2.1, cB hb hH.2.2.2.2.2.2.2.2.2.2.2.2.2.2.2.2.2.2.1, cB hb hH.2.2.2.2.2.2.2.2.2.2.2.2.2.2.2.2.2.2.2.1, cB hb hH.2.2.2.2.2.2.2.2.2.2.2.2.2.2.2.2.2.2.2.2.1, cB hb hH.2.2.2.2.2.2.2.2.2.2.2.2.2.2.2.2.2.2.2.2.2.1, cB hb hH.2.2.2.2.2.2.2.2.2.2.2.2.2.2.2.2.2.2.2.2.2.2.1, cB hb hH.2.2.2.2.2.2.2.2.2.2.2.2.2.2.2.2.2.2.2.2.2.2.2.1, cB hb hH.2.2.2.2.2.2.2.2.2.2.2.2.2.2.2.2.2.2.2.2.2.2.2.2.1, cB hb hH.2.2.2.2.2.2.2.2.2.2.2.2.2.2.2.2.2.2.2.2.2.2.2.2.2.1, cB hb hH.2.2.2.2.2.2.2.2.2.2.2.2.2.2.2.2.2.2.2.2.2.2.2.2.2.2.1, cB hb hH.2.2.2.2.2.2.2.2.2.2.2.2.2.2.2.2.2.2.2.2.2.2.2.2.2.2.2.1, cB hb hH.2.2.2.2.2.2.2.2.2.2.2.2.2.2.2.2.2.2.2.2.2.2.2.2.2.2.2.2.1, cB hb hH.2.2.2.2.2.2.2.2.2.2.2.2.2.2.2.2.2.2.2.2.2.2.2.2.2.2.2.2.2.1, cB hb hH.2.2.2.2.2.2.2.2.2.2.2.2.2.2.2.2.2.2.2.2.2.2.2.2.2.2.2.2.2.2.1, cB hb hH.2.2.2.2.2.2.2.2.2.2.2.2.2.2.2.2.2.2.2.2.2.2.2.2.2.2.2.2.2.2.2.1, cB hb hH.2.2.2.2.2.2.2.2.2.2.2.2.2.2.2.2.2.2.2.2.2.2.2.2.2.2.2.2.2.2.2.2.1, cB hb hH.2.2.2.2.2.2.2.2.2.2.2.2.2.2.2.2.2.2.2.2.2.2.2.2.2.2.2.2.2.2.2.2.2.1, cB hb hH.2.2.2.2.2.2.2.2.2.2.2.2.2.2.2.2.2.2.2.2.2.2.2.2.2.2.2.2.2.2.2.2.2.2⟩ (fun hH2 => ?_)
    clear hK K hH
    have hH := hH2
    clear hH2 hb
    refine norm_ (a' := ?_) ?_ ?_
    rotate_left
    · (show Act.put _ (some 63) _ = _; simp only [Act.put, List.setIfInBounds_toArray, List.set_cons_zero, List.set_cons_succ, i64_w, i32_w]; rfl)
    refine pz 3 (some 64) #[true, true, true, true, false, false, false, false, false, false, false, false, false] ?_
    refine pz 4 (some 65) #[true, true, true, true, true, false, false, false, false, false, false, false, false] ?_
    refine pz 5 (some 66) #[true, true, true, true, true, true, false, false, false, false, false, false, false] ?_
    refine pz 7 (some 68) #[true, true, true, true, true, true, false, true, false, false, false, false, false] ?_
    refine pz 8 (some 69) #[true, true, true, true, true, true, false, true, true, false, false, false, false] ?_
    refine tz 6 (some 67) #[true, true, true, true, true, true, true, true, true, false, false, false, false] hH ?_
    refine tz 9 (some 70) #[true, true, true, true, true, true, true, true, true, true, false, false, false] hH ?_
    refine one_ (i := 10) (N := some 71) #[true, true, true, true, true, true, true, true, true, true, true, false, false] rfl rfl (by kernel_rfl) (by decide) (fun K hK => ?_)
    refine goes_ Try.func50 (by kernel_rfl) rfl #[.agg #[.int .i64 m1, .int .i64 m2, .int .i64 m3, .int .i64 m4, .int .i64 m5, .int .i64 m6, .int .i64 m7, .int .i64 m8, .int .i64 m9], .agg #[.int .i64 (rd_T71 out 3).f0, .int .i64 (rd_T71 out 3).f1, .int .i64 (rd_T71 out 3).f2, .int .i64 (rd_T71 out 3).f3, .int .i64 (rd_T71 out 3).f4, .int .i64 (rd_T71 out 3).f5, .slice Ap (rd_T71 out 3).f6.length cp]] (by rfl) rfl rfl (by (try simp only [List.map_toArray, List.map_cons, List.map_nil]); first | done | (go_simp; done) | rfl | (go_simp; rfl)) ?_
    with_reducible refine (impl_Holds.calls k m1 m2 m3 m4 m5 m6 m7 m8 m9 _ _ _ _ _ _ _ _ _ true _ HP6.out HPl.out HHm3.out).mono ?_
    rintro e wq ⟨rfl, hb⟩
    refine ⟨_, rfl, ?_⟩
    have n0 := Aside0.mk (below_then EB.out EB.out.size hb); have n1 := Aside0.mk (Kd.N_below HL.out hb); have n2 := Aside0.mk (Kd.C_below HP6.out hb); clear EB HL HP6; have EB := n0; have HL := n1; have HP6 := n2; clear n0 n1 n2
    refine hK.out _ _ ⟨cB hb hH.1, cB hb hH.2.1, cB hb hH.2.2.1, cB hb hH.2.2.2.1, cB hb hH.2.2.2.2.1, cB hb hH.2.2.2.2.2.1, cB hb hH.2.2.2.2.2.2.1, cB hb hH.2.2.2.2.2.2.2.1, cB hb hH.2.2.2.2.2.2.2.2.1, cB hb hH.2.2.2.2.2.2.2.2.2.1, cB hb hH.2.2.2.2.2.2.2.2.2.2.1, cB hb hH.2.2.2.2.2.2.2.2.2.2.2.1, cB hb hH.2.2.2.2.2.2.2.2.2.2.2.2.1, cB hb hH.2.2.2.2.2.2.2.2.2.2.2.2.2.1, cB hb hH.2.2.2.2.2.2.2.2.2.2.2.2.2.2.1, cB hb hH.2.2.2.2.2.2.2.2.2.2.2.2.2.2.2.1, cB hb hH.2.2.2.2.2.2.2.2.2.2.2.2.2.2.2.2.1, cB hb hH.2.2.2.2.2.2.2.2.2.2.2.2.2.2.2.2.2.1, cB hb hH.2.2.2.2.2.2.2.2.2.2.2.2.2.2.2.2.2.2.1, cB hb hH.2.2.2.2.2.2.2.2.2.2.2.2.2.2.2.2.2.2.2.1, cB hb hH.2.2.2.2.2.2.2.2.2.2.2.2.2.2.2.2.2.2.2.2.1, cB hb hH.2.2.2.2.2.2.2.2.2.2.2.2.2.2.2.2.2.2.2.2.2.1, cB hb hH.2.2.2.2.2.2.2.2.2.2.2.2.2.2.2.2.2.2.2.2.2.2.1, cB hb hH.2.2.2.2.2.2.2.2.2.2.2.2.2.2.2.2.2.2.2.2.2.2.2.1, cB hb hH.2.2.2.2.2.2.2.2.2.2.2.2.2.2.2.2.2.2.2.2.2.2.2.2.1, cB hb hH.2.2.2.2.2.2.2.2.2.2.2.2.2.2.2.2.2.2.2.2.2.2.2.2.2.1, cB hb hH.2.2.2.2.2.2.2.2.2.2.2.2.2.2.2.2.2.2.2.2.2.2.2.2.2.2.1, cB hb hH.2.2.2.2.2.2.2.2.2.2.2.2.2.2.2.2.2.2.2.2.2.2.2.2.2.2.2.1, cB hb hH.2.2.2.2.2.2.2.2.2.2.2.2.2.2.2.2.2.2.2.2.2.2.2.2.2.2.2.2.1, cB hb hH.2.2.2.2.2.2.2.2.2.2.2.2.2.2.2.2.2.2.2.2.2.2.2.2.2.2.2.2.2.1, cB hb hH.2.2.2.2.2.2.2.2.2.2.2.2.2.2.2.2.2.2.2.2.2.2.2.2.2.2.2.2.2.2.1, cB hb hH.2.2.2.2.2.2.2.2.2.2.2.2.2.2.2.2.2.2.2.2.2.2.2.2.2.2.2.2.2.2.2.1, cB hb hH.2.2.2.2.2.2.2.2.2.2.2.2.2.2.2.2.2.2.2.2.2.2.2.2.2.2.2.2.2.2.2.2.1, cB hb hH.2.2.2.2.2.2.2.2.2.2.2.2.2.2.2.2.2.2.2.2.2.2.2.2.2.2.2.2.2.2.2.2.2.1, cB hb hH.2.2.2.2.2.2.2.2.2.2.2.2.2.2.2.2.2.2.2.2.2.2.2.2.2.2.2.2.2.2.2.2.2.2⟩ (fun hH2 => ?_)
    clear hK K hH
    have hH := hH2
    clear hH2 hb
    refine norm_ (a' := ?_) ?_ ?_
    rotate_left
    · (show Act.put _ (some 71) _ = _; simp only [Act.put, List.setIfInBounds_toArray, List.set_cons_zero, List.set_cons_succ, i64_w, i32_w]; rfl)
    refine pz 11 (some 72) #[true, true, true, true, true, true, true, true, true, true, true, true, false] ?_
    refine pz 12 (some 73) #[true, true, true, true, true, true, true, true, true, true, true, true, true] ?_
    refine done_ (by kernel_rfl) ?_
    clear hH B3w B4w B5w HP6 HPl HHm3 HHm HFm HSm hx0 hx1 hx2 hx3 hx4 hx5 hx6
    go_wp2
    unfold laws_FnMeets.rest at H
    obtain ⟨_, hck, hfi⟩ := Option.bind_eq_some_iff.mp H
    have HCk := Aside0.mk hck
    have HFi := Aside0.mk hfi
    clear H hck hfi
    go_loopg [9] out.length (fun gg v9 w' => ∃ (ii : Nat), v9 = .int .i64 ii ∧ ii ≤ out.length ∧ out.length - ii ≤ gg ∧ Aside0 (Kd.N k71 71 w' w9.heap.size (fun _ => True) (.slice (some adz) out.length c12) out) ∧ Aside0 (Below w9.heap.size w9 w') ∧ Aside0 (laws_FnMeets.chk k (⟨⟨a0, a1⟩, ⟨a2, a3⟩, ⟨a4, a5⟩, ⟨a6, a7⟩, a8⟩ : S65) (⟨⟨g0, g1⟩, ⟨g2, g3⟩, ⟨g4, g5⟩, ⟨g6, g7⟩, g8⟩ : S65) (⟨⟨m1, m2⟩, ⟨m3, m4⟩, ⟨m5, m6⟩, ⟨m7, m8⟩, m9⟩ : S65) 0 (out.drop ii) = some ()))
    case atStart => exact ⟨0, rfl, Nat.zero_le _, by omega, HL, EB, HCk⟩
    case round =>
      clear HL EB HCk
      obtain ⟨ii, rfl, hii, hg, HL, EB, HCk⟩ := hrel
      have hm6 : out.length ≤ 9223372036854775807 := (Kd.N_reads' HL.out).2.2.2.1
      by_cases hlt : ii < out.length
      · have hltz : (ii : Int) < (out.length : Int) := by omega
        have hl3 : out.length = 4 := by rw [hout]; rfl
        have hltz3 : (ii : Int) < 4 := by omega
        have hi0 : (0 : Int) ≤ (ii : Int) := by omega
        obtain ⟨ad, Ap, cp, e, hx0, hx1, hx2, hx3, hx4, hx5, hx6, hl6, hc6⟩ := at_T71 (Kd.N_reads' HL.out).2.2 (ii : Int) hi0 hltz
        have A2 := HCk.out
        rw [List.drop_eq_getElem_cons hlt, laws_FnMeets.chk, ← gD out z71 ii hlt] at A2
        change (laws_FnMeets.two k (⟨⟨a0, a1⟩, ⟨a2, a3⟩, ⟨a4, a5⟩, ⟨a6, a7⟩, a8⟩ : S65) (⟨⟨g0, g1⟩, ⟨g2, g3⟩, ⟨g4, g5⟩, ⟨g6, g7⟩, g8⟩ : S65) (rd_T71 out (ii : Int))).bind _ = some () at A2
        obtain ⟨bt, ht, A3⟩ := Option.bind_eq_some_iff.mp A2
        obtain ⟨bs, hs, A4⟩ := Option.bind_eq_some_iff.mp A3
        obtain ⟨rfl, A6⟩ := ifB' A4
        have HC2 := Aside0.mk A6
        have HSel := Aside0.mk hs
        unfold laws_FnMeets.two at ht
        obtain ⟨ba, hba, ht2⟩ := Option.bind_eq_some_iff.mp ht
        have HBa : Aside0 (impl_Holds.f k a0 a1 a2 a3 a4 a5 a6 a7 a8 (rd_T71 out (ii : Int)).f0 (rd_T71 out (ii : Int)).f1 (rd_T71 out (ii : Int)).f2 (rd_T71 out (ii : Int)).f3 (rd_T71 out (ii : Int)).f4 (rd_T71 out (ii : Int)).f5 (rd_T71 out (ii : Int)).f6 = some ba) := ⟨hba⟩
        clear A2 A3 A4 A6 hs ht hba HCk
        cases e.symm
        simp only [Int.toNat_natCast] at hx0 hx1 hx2 hx3 hx4 hx5 hx6
        have HP6 := Aside0.mk hc6
        have HPl := Aside0.mk hl6
        clear hc6 hl6
        have HSl : Aside0 (impl_Holds.f k m1 m2 m3 m4 m5 m6 m7 m8 m9 (rd_T71 out (ii : Int)).f0 (rd_T71 out (ii : Int)).f1 (rd_T71 out (ii : Int)).f2 (rd_T71 out (ii : Int)).f3 (rd_T71 out (ii : Int)).f4 (rd_T71 out (ii : Int)).f5 (rd_T71 out (ii : Int)).f6 = some bt) := ⟨HSel.out⟩
        go_wp2
        have B3w := blk_b B36.out EB.out
        have B4w := blk_b B46.out EB.out
        have B5w := blk_b B56.out EB.out
        cases ba
        case true =>
          have HBb : Aside0 (impl_Holds.f k g0 g1 g2 g3 g4 g5 g6 g7 g8 (rd_T71 out (ii : Int)).f0 (rd_T71 out (ii : Int)).f1 (rd_T71 out (ii : Int)).f2 (rd_T71 out (ii : Int)).f3 (rd_T71 out (ii : Int)).f4 (rd_T71 out (ii : Int)).f5 (rd_T71 out (ii : Int)).f6 = some bt) := ⟨(if_pos rfl).symm.trans ht2⟩
          clear ht2
          refine rg_start (n := 15) (S := fun w' => w'.cell? ⟨b3, 0, none⟩ = some (.int .i64 a0) ∧ w'.cell? ⟨b3, 1, none⟩ = some (.int .i64 a1) ∧ w'.cell? ⟨b3, 2, none⟩ = some (.int .i64 a2) ∧ w'.cell? ⟨b3, 3, none⟩ = some (.int .i64 a3) ∧ w'.cell? ⟨b3, 4, none⟩ = some (.int .i64 a4) ∧ w'.cell? ⟨b3, 5, none⟩ = some (.int .i64 a5) ∧ w'.cell? ⟨b3, 6, none⟩ = some (.int .i64 a6) ∧ w'.cell? ⟨b3, 7, none⟩ = some (.int .i64 a7) ∧ w'.cell? ⟨b3, 8, none⟩ = some (.int .i64 a8) ∧ w'.cell? ⟨b4, 0, none⟩ = some (.int .i64 g0) ∧ w'.cell? ⟨b4, 1, none⟩ = some (.int .i64 g1) ∧ w'.cell? ⟨b4, 2, none⟩ = some (.int .i64 g2) ∧ w'.cell? ⟨b4, 3, none⟩ = some (.int .i64 g3) ∧ w'.cell? ⟨b4, 4, none⟩ = some (.int .i64 g4) ∧ w'.cell? ⟨b4, 5, none⟩ = some (.int .i64 g5) ∧ w'.cell? ⟨b4, 6, none⟩ = some (.int .i64 g6) ∧ w'.cell? ⟨b4, 7, none⟩ = some (.int .i64 g7) ∧ w'.cell? ⟨b4, 8, none⟩ = some (.int .i64 g8) ∧ w'.cell? ⟨b5, 0, none⟩ = some (.int .i64 0) ∧ w'.cell? ⟨b5, 1, none⟩ = some (.int .i64 m1) ∧ w'.cell? ⟨b5, 2, none⟩ = some (.int .i64 m2) ∧ w'.cell? ⟨b5, 3, none⟩ = some (.int .i64 m3) ∧ w'.cell? ⟨b5, 4, none⟩ = some (.int .i64 m4) ∧ w'.cell? ⟨b5, 5, none⟩ = some (.int .i64 m5) ∧ w'.cell? ⟨b5, 6, none⟩ = some (.int .i64 m6) ∧ w'.cell? ⟨b5, 7, none⟩ = some (.int .i64 m7) ∧ w'.cell? ⟨b5, 8, none⟩ = some (.int .i64 m8) ∧ w'.cell? ⟨b5, 9, none⟩ = some (.int .i64 m9) ∧ w'.cell? (adz.add (ii * 7)) = some (.int .i64 (rd_T71 out (ii : Int)).f0) ∧ w'.cell? ⟨(adz.add (ii * 7)).block, (adz.add (ii * 7)).off + 1, none⟩ = some (.int .i64 (rd_T71 out (ii : Int)).f1) ∧ w'.cell? ⟨(adz.add (ii * 7)).block, (adz.add (ii * 7)).off + 2, none⟩ = some (.int .i64 (rd_T71 out (ii : Int)).f2) ∧ w'.cell? ⟨(adz.add (ii * 7)).block, (adz.add (ii * 7)).off + 3, none⟩ = some (.int .i64 (rd_T71 out (ii : Int)).f3) ∧ w'.cell? ⟨(adz.add (ii * 7)).block, (adz.add (ii * 7)).off + 4, none⟩ = some (.int .i64 (rd_T71 out (ii : Int)).f4) ∧ w'.cell? ⟨(adz.add (ii * 7)).block, (adz.add (ii * 7)).off + 5, none⟩ = some (.int .i64 (rd_T71 out (ii : Int)).f5) ∧ w'.cell? ⟨(adz.add (ii * 7)).block, (adz.add (ii * 7)).off + 6, none⟩ = some (.slice Ap (rd_T71 out (ii : Int)).f6.length cp)) #[false, false, false, false, false, false, false, false, false, false, false, false, false, false, false] (fun W' hb => ⟨cB hb ((blk_cell B3w 0).trans rfl), cB hb ((blk_cell B3w 1).trans rfl), cB hb ((blk_cell B3w 2).trans rfl), cB hb ((blk_cell B3w 3).trans rfl), cB hb ((blk_cell B3w 4).trans rfl), cB hb ((blk_cell B3w 5).trans rfl), cB hb ((blk_cell B3w 6).trans rfl), cB hb ((blk_cell B3w 7).trans rfl), cB hb ((blk_cell B3w 8).trans rfl), cB hb ((blk_cell B4w 0).trans rfl), cB hb ((blk_cell B4w 1).trans rfl), cB hb ((blk_cell B4w 2).trans rfl), cB hb ((blk_cell B4w 3).trans rfl), cB hb ((blk_cell B4w 4).trans rfl), cB hb ((blk_cell B4w 5).trans rfl), cB hb ((blk_cell B4w 6).trans rfl), cB hb ((blk_cell B4w 7).trans rfl), cB hb ((blk_cell B4w 8).trans rfl), cB hb ((blk_cell B5w 0).trans rfl), cB hb ((blk_cell B5w 1).trans rfl), cB hb ((blk_cell B5w 2).trans rfl), cB hb ((blk_cell B5w 3).trans rfl), cB hb ((blk_cell B5w 4).trans rfl), cB hb ((blk_cell B5w 5).trans rfl), cB hb ((blk_cell B5w 6).trans rfl), cB hb ((blk_cell B5w 7).trans rfl), cB hb ((blk_cell B5w 8).trans rfl), cB hb ((blk_cell B5w 9).trans rfl), cB hb hx0, cB hb hx1, cB hb hx2, cB hb hx3, cB hb hx4, cB hb hx5, cB hb hx6⟩) (fun w8 hb hH => ?_)
          have n0 := Aside0.mk (below_then EB.out EB.out.size hb); have n1 := Aside0.mk (Kd.N_below HL.out hb); have n2 := Aside0.mk (Kd.C_below HP6.out hb); clear EB HL HP6; have EB := n0; have HL := n1; have HP6 := n2; clear n0 n1 n2
          clear hb
          refine pz 1 (some 81) #[false, true, false, false, false, false, false, false, false, false, false, false, false, false, false] ?_
          refine pz 2 (some 82) #[false, true, true, false, false, false, false, false, false, false, false, false, false, false, false] ?_
          refine pz 3 (some 83) #[false, true, true, true, false, false, false, false, false, false, false, false, false, false, false] ?_
          refine tz 0 (some 80) #[true, true, true, true, false, false, false, false, false, false, false, false, false, false, false] hH ?_
          refine tz 4 (some 84) #[true, true, true, true, true, false, false, false, false, false, false, false, false, false, false] hH ?_
          refine one_ (i := 5) (N := some 85) #[true, true, true, true, true, true, false, false, false, false, false, false, false, false, false] rfl rfl (by kernel_rfl) (by decide) (fun K hK => ?_)
          refine goes_ Try.func50 (by kernel_rfl) rfl #[.agg #[.int .i64 a0, .int .i64 a1, .int .i64 a2, .int .i64 a3, .int .i64 a4, .int .i64 a5, .int .i64 a6, .int .i64 a7, .int .i64 a8], .agg #[.int .i64 (rd_T71 out (ii : Int)).f0, .int .i64 (rd_T71 out (ii : Int)).f1, .int .i64 (rd_T71 out (ii : Int)).f2, .int .i64 (rd_T71 out (ii : Int)).f3, .int .i64 (rd_T71 out (ii : Int)).f4, .int .i64 (rd_T71 out (ii : Int)).f5, .slice Ap (rd_T71 out (ii : Int)).f6.length cp]] (by rfl) rfl rfl (by (try simp only [List.map_toArray, List.map_cons, List.map_nil]); first | done | (go_simp; done) | rfl | (go_simp; rfl)) ?_
          with_reducible refine (impl_Holds.calls k a0 a1 a2 a3 a4 a5 a6 a7 a8 _ _ _ _ _ _ _ _ _ _ _ HP6.out HPl.out HBa.out).mono ?_
          rintro e wq ⟨rfl, hb⟩
          refine ⟨_, rfl, ?_⟩
          have n0 := Aside0.mk (below_then EB.out EB.out.size hb); have n1 := Aside0.mk (Kd.N_below HL.out hb); have n2 := Aside0.mk (Kd.C_below HP6.out hb); clear EB HL HP6; have EB := n0; have HL := n1; have HP6 := n2; clear n0 n1 n2
          refine hK.out _ _ ⟨cB hb hH.1, cB hb hH.2.1, cB hb hH.2.2.1, cB hb hH.2.2.2.1, cB hb hH.2.2.2.2.1, cB hb hH.2.2.2.2.2.1, cB hb hH.2.2.2.2.2.2.1, cB hb hH.2.2.2.2.2.2.2.1, cB hb hH.2.2.2.2.2.2.2.2.1, cB hb hH.2.2.2.2.2.2.2.2.2.1, cB hb hH.2.2.2.2.2.2.2.2.2.2.1, cB hb hH.2.2.2.2.2.2.2.2.2.2.2.1, cB hb hH.2.2.2.2.2.2.2.2.2.2.2.2.1, cB hb hH.2.2.2.2.2.2.2.2.2.2.2.2.2.1, cB hb hH.2.2.2.2.2.2.2.2.2.2.2.2.2.2.1, cB hb hH.2.2.2.2.2.2.2.2.2.2.2.2.2.2.2.1, cB hb hH.2.2.2.2.2.2.2.2.2.2.2.2.2.2.2.2.1, cB hb hH.2.2.2.2.2.2.2.2.2.2.2.2.2.2.2.2.2.1, cB hb hH.2.2.2.2.2.2.2.2.2.2.2.2.2.2.2.2.2.2.1, cB hb hH.2.2.2.2.2.2.2.2.2.2.2.2.2.2.2.2.2.2.2.1, cB hb hH.2.2.2.2.2.2.2.2.2.2.2.2.2.2.2.2.2.2.2.2.1, cB hb hH.2.2.2.2.2.2.2.2.2.2.2.2.2.2.2.2.2.2.2.2.2.1, cB hb hH.2.2.2.2.2.2.2.2.2.2.2.2.2.2.2.2.2.2.2.2.2.2.1, cB hb hH.2.2.2.2.2.2.2.2.2.2.2.2.2.2.2.2.2.2.2.2.2.2.2.1, cB hb hH.2.2.2.2.2.2.2.2.2.2.2.2.2.2.2.2.2.2.2.2.2.2.2.2.1, cB hb hH.2.2.2.2.2.2.2.2.2.2.2.2.2.2.2.2.2.2.2.2.2.2.2.2.2.1, cB hb hH.2.2.2.2.2.2.2.2.2.2.2.2.2.2.2.2.2.2.2.2.2.2.2.2.2.2.1, cB hb hH.2.2.2.2.2.2.2.2.2.2.2.2.2.2.2.2.2.2.2.2.2.2.2.2.2.2.2.1, cB hb hH.2.2.2.2.2.2.2.2.2.2.2.2.2.2.2.2.2.2.2.2.2.2.2.2.2.2.2.2.1, cB hb hH.2.2.2.2.2.2.2.2.2.2.2.2.2.2.2.2.2.2.2.2.2.2.2.2.2.2.2.2.2.1, cB hb hH.2.2.2.2.2.2.2.2.2.2.2.2.2.2.2.2.2.2.2.2.2.2.2.2.2.2.2.2.2.2.1, cB hb hH.2.2.2.2.2.2.2.2.2.2.2.2.2.2.2.2.2.2.2.2.2.2.2.2.2.2.2.2.2.2.2.1, cB hb hH.2.2.2.2.2.2.2.2.2.2.2.2.2.2.2.2.2.2.2.2.2.2.2.2.2.2.2.2.2.2.2.2.1, cB hb hH.2.2.2.2.2.2.2.2.2.2.2.2.2.2.2.2.2.2.2.2.2.2.2.2.2.2.2.2.2.2.2.2.2.1, cB hb hH.2.2.2.2.2.2.2.2.2.2.2.2.2.2.2.2.2.2.2.2.2.2.2.2.2.2.2.2.2.2.2.2.2.2⟩ (fun hH2 => ?_)
          clear hK K hH
          have hH := hH2
          clear hH2 hb
          refine norm_ (a' := ?_) ?_ ?_
          rotate_left
          · (show Act.put _ (some 85) _ = _; simp only [Act.put, List.setIfInBounds_toArray, List.set_cons_zero, List.set_cons_succ, i64_w, i32_w]; rfl)
          refine pz 6 (some 86) #[true, true, true, true, true, true, true, false, false, false, false, false, false, false, false] ?_
          refine pz 8 (some 88) #[true, true, true, true, true, true, true, false, true, false, false, false, false, false, false] ?_
          refine pz 9 (some 89) #[true, true, true, true, true, true, true, false, true, true, false, false, false, false, false] ?_
          refine pz 10 (some 90) #[true, true, true, true, true, true, true, false, true, true, true, false, false, false, false] ?_
          refine tz 7 (some 87) #[true, true, true, true, true, true, true, true, true, true, true, false, false, false, false] hH ?_
          refine tz 11 (some 91) #[true, true, true, true, true, true, true, true, true, true, true, true, false, false, false] hH ?_
          refine one_ (i := 12) (N := some 92) #[true, true, true, true, true, true, true, true, true, true, true, true, true, false, false] rfl rfl (by kernel_rfl) (by decide) (fun K hK => ?_)
          refine goes_ Try.func50 (by kernel_rfl) rfl #[.agg #[.int .i64 g0, .int .i64 g1, .int .i64 g2, .int .i64 g3, .int .i64 g4, .int .i64 g5, .int .i64 g6, .int .i64 g7, .int .i64 g8], .agg #[.int .i64 (rd_T71 out (ii : Int)).f0, .int .i64 (rd_T71 out (ii : Int)).f1, .int .i64 (rd_T71 out (ii : Int)).f2, .int .i64 (rd_T71 out (ii : Int)).f3, .int .i64 (rd_T71 out (ii : Int)).f4, .int .i64 (rd_T71 out (ii : Int)).f5, .slice Ap (rd_T71 out (ii : Int)).f6.length cp]] (by rfl) rfl rfl (by (try simp only [List.map_toArray, List.map_cons, List.map_nil]); first | done | (go_simp; done) | rfl | (go_simp; rfl)) ?_
          with_reducible refine (impl_Holds.calls k g0 g1 g2 g3 g4 g5 g6 g7 g8 _ _ _ _ _ _ _ _ _ _ _ HP6.out HPl.out HBb.out).mono ?_
          rintro e wq ⟨rfl, hb⟩
          refine ⟨_, rfl, ?_⟩
          have n0 := Aside0.mk (below_then EB.out EB.out.size hb); have n1 := Aside0.mk (Kd.N_below HL.out hb); have n2 := Aside0.mk (Kd.C_below HP6.out hb); clear EB HL HP6; have EB := n0; have HL := n1; have HP6 := n2; clear n0 n1 n2
          refine hK.out _ _ ⟨cB hb hH.1, cB hb hH.2.1, cB hb hH.2.2.1, cB hb hH.2.2.2.1, cB hb hH.2.2.2.2.1, cB hb hH.2.2.2.2.2.1, cB hb hH.2.2.2.2.2.2.1, cB hb hH.2.2.2.2.2.2.2.1, cB hb hH.2.2.2.2.2.2.2.2.1, cB hb hH.2.2.2.2.2.2.2.2.2.1, cB hb hH.2.2.2.2.2.2.2.2.2.2.1, cB hb hH.2.2.2.2.2.2.2.2.2.2.2.1, cB hb hH.2.2.2.2.2.2.2.2.2.2.2.2.1, cB hb hH.2.2.2.2.2.2.2.2.2.2.2.2.2.1, cB hb hH.2.2.2.2.2.2.2.2.2.2.2.2.2.2.1, cB hb hH.2.2.2.2.2.2.2.2.2.2.2.2.2.2.2.1, cB hb hH.2.2.2.2.2.2.2.2.2.2.2.2.2.2.2.2.1, cB hb hH.2.2.2.2.2.2.2.2.2.2.2.2.2.2.2.2.2.1, cB hb hH.2.2.2.2.2.2.2.2.2.2.2.2.2.2.2.2.2.2.1, cB hb hH.2.2.2.2.2.2.2.2.2.2.2.2.2.2.2.2.2.2.2.1, cB hb hH.2.2.2.2.2.2.2.2.2.2.2.2.2.2.2.2.2.2.2.2.1, cB hb hH.2.2.2.2.2.2.2.2.2.2.2.2.2.2.2.2.2.2.2.2.2.1, cB hb hH.2.2.2.2.2.2.2.2.2.2.2.2.2.2.2.2.2.2.2.2.2.2.1, cB hb hH.2.2.2.2.2.2.2.2.2.2.2.2.2.2.2.2.2.2.2.2.2.2.2.1, cB hb hH.2.2.2.2.2.2.2.2.2.2.2.2.2.2.2.2.2.2.2.2.2.2.2.2.1, cB hb hH.2.2.2.2.2.2.2.2.2.2.2.2.2.2.2.2.2.2.2.2.2.2.2.2.2.1, cB hb hH.2.2.2.2.2.2.2.2.2.2.2.2.2.2.2.2.2.2.2.2.2.2.2.2.2.2.1, cB hb hH.2.2.2.2.2.2.2.2.2.2.2.2.2.2.2.2.2.2.2.2.2.2.2.2.2.2.2.1, cB hb hH.2.2.2.2.2.2.2.2.2.2.2.2.2.2.2.2.2.2.2.2.2.2.2.2.2.2.2.2.1, cB hb hH.2.2.2.2.2.2.2.2.2.2.2.2.2.2.2.2.2.2.2.2.2.2.2.2.2.2.2.2.2.1, cB hb hH.2.2.2.2.2.2.2.2.2.2.2.2.2.2.2.2.2.2.2.2.2.2.2.2.2.2.2.2.2.2.1, cB hb hH.2.2.2.2.2.2.2.2.2.2.2.2.2.2.2.2.2.2.2.2.2.2.2.2.2.2.2.2.2.2.2.1, cB hb hH.2.2.2.2.2.2.2.2.2.2.2.2.2.2.2.2.2.2.2.2.2.2.2.2.2.2.2.2.2.2.2.2.1, cB hb hH.2.2.2.2.2.2.2.2.2.2.2.2.2.2.2.2.2.2.2.2.2.2.2.2.2.2.2.2.2.2.2.2.2.1, cB hb hH.2.2.2.2.2.2.2.2.2.2.2.2.2.2.2.2.2.2.2.2.2.2.2.2.2.2.2.2.2.2.2.2.2.2⟩ (fun hH2 => ?_)
          clear hK K hH
          have hH := hH2
          clear hH2 hb
          refine norm_ (a' := ?_) ?_ ?_
          rotate_left
          · (show Act.put _ (some 92) _ = _; simp only [Act.put, List.setIfInBounds_toArray, List.set_cons_zero, List.set_cons_succ, i64_w, i32_w]; rfl)
          refine pz 13 (some 93) #[true, true, true, true, true, true, true, true, true, true, true, true, true, true, false] ?_
          refine pz 14 (some 10) #[true, true, true, true, true, true, true, true, true, true, true, true, true, true, true] ?_
          refine done_ (by kernel_rfl) ?_
          clear B3w B4w B5w
          go_wp2
          refine rg_start (n := 14) (S := fun w' => w'.cell? ⟨b3, 0, none⟩ = some (.int .i64 a0) ∧ w'.cell? ⟨b3, 1, none⟩ = some (.int .i64 a1) ∧ w'.cell? ⟨b3, 2, none⟩ = some (.int .i64 a2) ∧ w'.cell? ⟨b3, 3, none⟩ = some (.int .i64 a3) ∧ w'.cell? ⟨b3, 4, none⟩ = some (.int .i64 a4) ∧ w'.cell? ⟨b3, 5, none⟩ = some (.int .i64 a5) ∧ w'.cell? ⟨b3, 6, none⟩ = some (.int .i64 a6) ∧ w'.cell? ⟨b3, 7, none⟩ = some (.int .i64 a7) ∧ w'.cell? ⟨b3, 8, none⟩ = some (.int .i64 a8) ∧ w'.cell? ⟨b4, 0, none⟩ = some (.int .i64 g0) ∧ w'.cell? ⟨b4, 1, none⟩ = some (.int .i64 g1) ∧ w'.cell? ⟨b4, 2, none⟩ = some (.int .i64 g2) ∧ w'.cell? ⟨b4, 3, none⟩ = some (.int .i64 g3) ∧ w'.cell? ⟨b4, 4, none⟩ = some (.int .i64 g4) ∧ w'.cell? ⟨b4, 5, none⟩ = some (.int .i64 g5) ∧ w'.cell? ⟨b4, 6, none⟩ = some (.int .i64 g6) ∧ w'.cell? ⟨b4, 7, none⟩ = some (.int .i64 g7) ∧ w'.cell? ⟨b4, 8, none⟩ = some (.int .i64 g8) ∧ w'.cell? ⟨b5, 0, none⟩ = some (.int .i64 0) ∧ w'.cell? ⟨b5, 1, none⟩ = some (.int .i64 m1) ∧ w'.cell? ⟨b5, 2, none⟩ = some (.int .i64 m2) ∧ w'.cell? ⟨b5, 3, none⟩ = some (.int .i64 m3) ∧ w'.cell? ⟨b5, 4, none⟩ = some (.int .i64 m4) ∧ w'.cell? ⟨b5, 5, none⟩ = some (.int .i64 m5) ∧ w'.cell? ⟨b5, 6, none⟩ = some (.int .i64 m6) ∧ w'.cell? ⟨b5, 7, none⟩ = some (.int .i64 m7) ∧ w'.cell? ⟨b5, 8, none⟩ = some (.int .i64 m8) ∧ w'.cell? ⟨b5, 9, none⟩ = some (.int .i64 m9) ∧ w'.cell? (adz.add (ii * 7)) = some (.int .i64 (rd_T71 out (ii : Int)).f0) ∧ w'.cell? ⟨(adz.add (ii * 7)).block, (adz.add (ii * 7)).off + 1, none⟩ = some (.int .i64 (rd_T71 out (ii : Int)).f1) ∧ w'.cell? ⟨(adz.add (ii * 7)).block, (adz.add (ii * 7)).off + 2, none⟩ = some (.int .i64 (rd_T71 out (ii : Int)).f2) ∧ w'.cell? ⟨(adz.add (ii * 7)).block, (adz.add (ii * 7)).off + 3, none⟩ = some (.int .i64 (rd_T71 out (ii : Int)).f3) ∧ w'.cell? ⟨(adz.add (ii * 7)).block, (adz.add (ii * 7)).off + 4, none⟩ = some (.int .i64 (rd_T71 out (ii : Int)).f4) ∧ w'.cell? ⟨(adz.add (ii * 7)).block, (adz.add (ii * 7)).off + 5, none⟩ = some (.int .i64 (rd_T71 out (ii : Int)).f5) ∧ w'.cell? ⟨(adz.add (ii * 7)).block, (adz.add (ii * 7)).off + 6, none⟩ = some (.slice Ap (rd_T71 out (ii : Int)).f6.length cp)) #[false, false, false, false, false, false, false, false, false, false, false, false, false, false] (fun W' hb => ⟨cB hb hH.1, cB hb hH.2.1, cB hb hH.2.2.1, cB hb hH.2.2.2.1, cB hb hH.2.2.2.2.1, cB hb hH.2.2.2.2.2.1, cB hb hH.2.2.2.2.2.2.1, cB hb hH.2.2.2.2.2.2.2.1, cB hb hH.2.2.2.2.2.2.2.2.1, cB hb hH.2.2.2.2.2.2.2.2.2.1, cB hb hH.2.2.2.2.2.2.2.2.2.2.1, cB hb hH.2.2.2.2.2.2.2.2.2.2.2.1, cB hb hH.2.2.2.2.2.2.2.2.2.2.2.2.1, cB hb hH.2.2.2.2.2.2.2.2.2.2.2.2.2.1, cB hb hH.2.2.2.2.2.2.2.2.2.2.2.2.2.2.1, cB hb hH.2.2.2.2.2.2.2.2.2.2.2.2.2.2.2.1, cB hb hH.2.2.2.2.2.2.2.2.2.2.2.2.2.2.2.2.1, cB hb hH.2.2.2.2.2.2.2.2.2.2.2.2.2.2.2.2.2.1, cB hb hH.2.2.2.2.2.2.2.2.2.2.2.2.2.2.2.2.2.2.1, cB hb hH.2.2.2.2.2.2.2.2.2.2.2.2.2.2.2.2.2.2.2.1, cB hb hH.2.2.2.2.2.2.2.2.2.2.2.2.2.2.2.2.2.2.2.2.1, cB hb hH.2.2.2.2.2.2.2.2.2.2.2.2.2.2.2.2.2.2.2.2.2.1, cB hb hH.2.2.2.2.2.2.2.2.2.2.2.2.2.2.2.2.2.2.2.2.2.2.1, cB hb hH.2.2.2.2.2.2.2.2.2.2.2.2.2.2.2.2.2.2.2.2.2.2.2.1, cB hb hH.2.2.2.2.2.2.2.2.2.2.2.2.2.2.2.2.2.2.2.2.2.2.2.2.1, cB hb hH.2.2.2.2.2.2.2.2.2.2.2.2.2.2.2.2.2.2.2.2.2.2.2.2.2.1, cB hb hH.2.2.2.2.2.2.2.2.2.2.2.2.2.2.2.2.2.2.2.2.2.2.2.2.2.2.1, cB hb hH.2.2.2.2.2.2.2.2.2.2.2.2.2.2.2.2.2.2.2.2.2.2.2.2.2.2.2.1, cB hb hH.2.2.2.2.2.2.2.2.2.2.2.2.2.2.2.2.2.2.2.2.2.2.2.2.2.2.2.2.1, cB hb hH.2.2.2.2.2.2.2.2.2.2.2.2.2.2.2.2.2.2.2.2.2.2.2.2.2.2.2.2.2.1, cB hb hH.2.2.2.2.2.2.2.2.2.2.2.2.2.2.2.2.2.2.2.2.2.2.2.2.2.2.2.2.2.2.1, cB hb hH.2.2.2.2.2.2.2.2.2.2.2.2.2.2.2.2.2.2.2.2.2.2.2.2.2.2.2.2.2.2.2.1, cB hb hH.2.2.2.2.2.2.2.2.2.2.2.2.2.2.2.2.2.2.2.2.2.2.2.2.2.2.2.2.2.2.2.2.1, cB hb hH.2.2.2.2.2.2.2.2.2.2.2.2.2.2.2.2.2.2.2.2.2.2.2.2.2.2.2.2.2.2.2.2.2.1, cB hb hH.2.2.2.2.2.2.2.2.2.2.2.2.2.2.2.2.2.2.2.2.2.2.2.2.2.2.2.2.2.2.2.2.2.2⟩) (fun w8 hb hH2 => ?_)
          have n0 := Aside0.mk (below_then EB.out EB.out.size hb); have n1 := Aside0.mk (Kd.N_below HL.out hb); have n2 := Aside0.mk (Kd.C_below HP6.out hb); clear EB HL HP6; have EB := n0; have HL := n1; have HP6 := n2; clear n0 n1 n2
          clear hb hH
          have hH := hH2
          clear hH2
          refine pz 0 (some 94) #[true, false, false, false, false, false, false, false, false, false, false, false, false, false] ?_
          refine pz 1 (some 95) #[true, true, false, false, false, false, false, false, false, false, false, false, false, false] ?_
          refine tz 2 (some 96) #[true, true, true, false, false, false, false, false, false, false, false, false, false, false] hH ?_
          refine pz 3 (some 97) #[true, true, true, true, false, false, false, false, false, false, false, false, false, false] ?_
          refine pz 4 (some 98) #[true, true, true, true, true, false, false, false, false, false, false, false, false, false] ?_
          refine pz 5 (some 99) #[true, true, true, true, true, true, false, false, false, false, false, false, false, false] ?_
          refine pz 7 (some 101) #[true, true, true, true, true, true, false, true, false, false, false, false, false, false] ?_
          refine pz 8 (some 102) #[true, true, true, true, true, true, false, true, true, false, false, false, false, false] ?_
          refine pz 9 (some 103) #[true, true, true, true, true, true, false, true, true, true, false, false, false, false] ?_
          refine tz 6 (some 100) #[true, true, true, true, true, true, true, true, true, true, false, false, false, false] hH ?_
          refine tz 10 (some 104) #[true, true, true, true, true, true, true, true, true, true, true, false, false, false] hH ?_
          refine one_ (i := 11) (N := some 105) #[true, true, true, true, true, true, true, true, true, true, true, true, false, false] rfl rfl (by kernel_rfl) (by decide) (fun K hK => ?_)
          refine goes_ Try.func50 (by kernel_rfl) rfl #[.agg #[.int .i64 m1, .int .i64 m2, .int .i64 m3, .int .i64 m4, .int .i64 m5, .int .i64 m6, .int .i64 m7, .int .i64 m8, .int .i64 m9], .agg #[.int .i64 (rd_T71 out (ii : Int)).f0, .int .i64 (rd_T71 out (ii : Int)).f1, .int .i64 (rd_T71 out (ii : Int)).f2, .int .i64 (rd_T71 out (ii : Int)).f3, .int .i64 (rd_T71 out (ii : Int)).f4, .int .i64 (rd_T71 out (ii : Int)).f5, .slice Ap (rd_T71 out (ii : Int)).f6.length cp]] (by rfl) rfl rfl (by (try simp only [List.map_toArray, List.map_cons, List.map_nil]); first | done | (go_simp; done) | rfl | (go_simp; rfl)) ?_
          with_reducible refine (impl_Holds.calls k m1 m2 m3 m4 m5 m6 m7 m8 m9 _ _ _ _ _ _ _ _ _ _ _ HP6.out HPl.out HSl.out).mono ?_
          rintro e wq ⟨rfl, hb⟩
          refine ⟨_, rfl, ?_⟩
          have n0 := Aside0.mk (below_then EB.out EB.out.size hb); have n1 := Aside0.mk (Kd.N_below HL.out hb); have n2 := Aside0.mk (Kd.C_below HP6.out hb); clear EB HL HP6; have EB := n0; have HL := n1; have HP6 := n2; clear n0 n1 n2
          refine hK.out _ _ ⟨cB hb hH.1, cB hb hH.2.1, cB hb hH.2.2.1, cB hb hH.2.2.2.1, cB hb hH.2.2.2.2.1, cB hb hH.2.2.2.2.2.1, cB hb hH.2.2.2.2.2.2.1, cB hb hH.2.2.2.2.2.2.2.1, cB hb hH.2.2.2.2.2.2.2.2.1, cB hb hH.2.2.2.2.2.2.2.2.2.1, cB hb hH.2.2.2.2.2.2.2.2.2.2.1, cB hb hH.2.2.2.2.2.2.2.2.2.2.2.1, cB hb hH.2.2.2.2.2.2.2.2.2.2.2.2.1, cB hb hH.2.2.2.2.2.2.2.2.2.2.2.2.2.1, cB hb hH.2.2.2.2.2.2.2.2.2.2.2.2.2.2.1, cB hb hH.2.2.2.2.2.2.2.2.2.2.2.2.2.2.2.1, cB hb hH.2.2.2.2.2.2.2.2.2.2.2.2.2.2.2.2.1, cB hb hH.2.2.2.2.2.2.2.2.2.2.2.2.2.2.2.2.2.1, cB hb hH.2.2.2.2.2.2.2.2.2.2.2.2.2.2.2.2.2.2.1, cB hb hH.2.2.2.2.2.2.2.2.2.2.2.2.2.2.2.2.2.2.2.1, cB hb hH.2.2.2.2.2.2.2.2.2.2.2.2.2.2.2.2.2.2.2.2.1, cB hb hH.2.2.2.2.2.2.2.2.2.2.2.2.2.2.2.2.2.2.2.2.2.1, cB hb hH.2.2.2.2.2.2.2.2.2.2.2.2.2.2.2.2.2.2.2.2.2.2.1, cB hb hH.2.2.2.2.2.2.2.2.2.2.2.2.2.2.2.2.2.2.2.2.2.2.2.1, cB hb hH.2.2.2.2.2.2.2.2.2.2.2.2.2.2.2.2.2.2.2.2.2.2.2.2.1, cB hb hH.2.2.2.2.2.2.2.2.2.2.2.2.2.2.2.2.2.2.2.2.2.2.2.2.2.1, cB hb hH.2.2.2.2.2.2.2.2.2.2.2.2.2.2.2.2.2.2.2.2.2.2.2.2.2.2.1, cB hb hH.2.2.2.2.2.2.2.2.2.2.2.2.2.2.2.2.2.2.2.2.2.2.2.2.2.2.2.1, cB hb hH.2.2.2.2.2.2.2.2.2.2.2.2.2.2.2.2.2.2.2.2.2.2.2.2.2.2.2.2.1, cB hb hH.2.2.2.2.2.2.2.2.2.2.2.2.2.2.2.2.2.2.2.2.2.2.2.2.2.2.2.2.2.1, cB hb hH.2.2.2.2.2.2.2.2.2.2.2.2.2.2.2.2.2.2.2.2.2.2.2.2.2.2.2.2.2.2.1, cB hb hH.2.2.2.2.2.2.2.2.2.2.2.2.2.2.2.2.2.2.2.2.2.2.2.2.2.2.2.2.2.2.2.1, cB hb hH.2.2.2.2.2.2.2.2.2.2.2.2.2.2.2.2.2.2.2.2.2.2.2.2.2.2.2.2.2.2.2.2.1, cB hb hH.2.2.2.2.2.2.2.2.2.2.2.2.2.2.2.2.2.2.2.2.2.2.2.2.2.2.2.2.2.2.2.2.2.1, cB hb hH.2.2.2.2.2.2.2.2.2.2.2.2.2.2.2.2.2.2.2.2.2.2.2.2.2.2.2.2.2.2.2.2.2.2⟩ (fun hH2 => ?_)
          clear hK K hH
          have hH := hH2
          clear hH2 hb
          refine norm_ (a' := ?_) ?_ ?_
          rotate_left
          · (show Act.put _ (some 105) _ = _; simp only [Act.put, List.setIfInBounds_toArray, List.set_cons_zero, List.set_cons_succ, i64_w, i32_w]; rfl)
          refine pz 12 (some 106) #[true, true, true, true, true, true, true, true, true, true, true, true, true, false] ?_
          refine pz 13 (some 107) #[true, true, true, true, true, true, true, true, true, true, true, true, true, true] ?_
          refine done_ (by kernel_rfl) ?_
          go_wp2
          go_roundg (out.length - (ii + 1))
          case measure => omega
          case rel => exact ⟨ii + 1, by go_num, by omega, by omega, HL, EB, HC2⟩
        case false =>
          obtain rfl : bt = false := (Option.some.inj ((if_neg (by decide)).symm.trans ht2)).symm
          clear ht2
          refine rg_start (n := 15) (S := fun w' => w'.cell? ⟨b3, 0, none⟩ = some (.int .i64 a0) ∧ w'.cell? ⟨b3, 1, none⟩ = some (.int .i64 a1) ∧ w'.cell? ⟨b3, 2, none⟩ = some (.int .i64 a2) ∧ w'.cell? ⟨b3, 3, none⟩ = some (.int .i64 a3) ∧ w'.cell? ⟨b3, 4, none⟩ = some (.int .i64 a4) ∧ w'.cell? ⟨b3, 5, none⟩ = some (.int .i64 a5) ∧ w'.cell? ⟨b3, 6, none⟩ = some (.int .i64 a6) ∧ w'.cell? ⟨b3, 7, none⟩ = some (.int .i64 a7) ∧ w'.cell? ⟨b3, 8, none⟩ = some (.int .i64 a8) ∧ w'.cell? ⟨b4, 0, none⟩ = some (.int .i64 g0) ∧ w'.cell? ⟨b4, 1, none⟩ = some (.int .i64 g1) ∧ w'.cell? ⟨b4, 2, none⟩ = some (.int .i64 g2) ∧ w'.cell? ⟨b4, 3, none⟩ = some (.int .i64 g3) ∧ w'.cell? ⟨b4, 4, none⟩ = some (.int .i64 g4) ∧ w'.cell? ⟨b4, 5, none⟩ = some (.int .i64 g5) ∧ w'.cell? ⟨b4, 6, none⟩ = some (.int .i64 g6) ∧ w'.cell? ⟨b4, 7, none⟩ = some (.int .i64 g7) ∧ w'.cell? ⟨b4, 8, none⟩ = some (.int .i64 g8) ∧ w'.cell? ⟨b5, 0, none⟩ = some (.int .i64 0) ∧ w'.cell? ⟨b5, 1, none⟩ = some (.int .i64 m1) ∧ w'.cell? ⟨b5, 2, none⟩ = some (.int .i64 m2) ∧ w'.cell? ⟨b5, 3, none⟩ = some (.int .i64 m3) ∧ w'.cell? ⟨b5, 4, none⟩ = some (.int .i64 m4) ∧ w'.cell? ⟨b5, 5, none⟩ = some (.int .i64 m5) ∧ w'.cell? ⟨b5, 6, none⟩ = some (.int .i64 m6) ∧ w'.cell? ⟨b5, 7, none⟩ = some (.int .i64 m7) ∧ w'.cell? ⟨b5, 8, none⟩ = some (.int .i64 m8) ∧ w'.cell? ⟨b5, 9, none⟩ = some (.int .i64 m9) ∧ w'.cell? (adz.add (ii * 7)) = some (.int .i64 (rd_T71 out (ii : Int)).f0) ∧ w'.cell? ⟨(adz.add (ii * 7)).block, (adz.add (ii * 7)).off + 1, none⟩ = some (.int .i64 (rd_T71 out (ii : Int)).f1) ∧ w'.cell? ⟨(adz.add (ii * 7)).block, (adz.add (ii * 7)).off + 2, none⟩ = some (.int .i64 (rd_T71 out (ii : Int)).f2) ∧ w'.cell? ⟨(adz.add (ii * 7)).block, (adz.add (ii * 7)).off + 3, none⟩ = some (.int .i64 (rd_T71 out (ii : Int)).f3) ∧ w'.cell? ⟨(adz.add (ii * 7)).block, (adz.add (ii * 7)).off + 4, none⟩ = some (.int .i64 (rd_T71 out (ii : Int)).f4) ∧ w'.cell? ⟨(adz.add (ii * 7)).block, (adz.add (ii * 7)).off + 5, none⟩ = some (.int .i64 (rd_T71 out (ii : Int)).f5) ∧ w'.cell? ⟨(adz.add (ii * 7)).block, (adz.add (ii * 7)).off + 6, none⟩ = some (.slice Ap (rd_T71 out (ii : Int)).f6.length cp)) #[false, false, false, false, false, false, false, false, false, false, false, false, false, false, false] (fun W' hb => ⟨cB hb ((blk_cell B3w 0).trans rfl), cB hb ((blk_cell B3w 1).trans rfl), cB hb ((blk_cell B3w 2).trans rfl), cB hb ((blk_cell B3w 3).trans rfl), cB hb ((blk_cell B3w 4).trans rfl), cB hb ((blk_cell B3w 5).trans rfl), cB hb ((blk_cell B3w 6).trans rfl), cB hb ((blk_cell B3w 7).trans rfl), cB hb ((blk_cell B3w 8).trans rfl), cB hb ((blk_cell B4w 0).trans rfl), cB hb ((blk_cell B4w 1).trans rfl), cB hb ((blk_cell B4w 2).trans rfl), cB hb ((blk_cell B4w 3).trans rfl), cB hb ((blk_cell B4w 4).trans rfl), cB hb ((blk_cell B4w 5).trans rfl), cB hb ((blk_cell B4w 6).trans rfl), cB hb ((blk_cell B4w 7).trans rfl), cB hb ((blk_cell B4w 8).trans rfl), cB hb ((blk_cell B5w 0).trans rfl), cB hb ((blk_cell B5w 1).trans rfl), cB hb ((blk_cell B5w 2).trans rfl), cB hb ((blk_cell B5w 3).trans rfl), cB hb ((blk_cell B5w 4).trans rfl), cB hb ((blk_cell B5w 5).trans rfl), cB hb ((blk_cell B5w 6).trans rfl), cB hb ((blk_cell B5w 7).trans rfl), cB hb ((blk_cell B5w 8).trans rfl), cB hb ((blk_cell B5w 9).trans rfl), cB hb hx0, cB hb hx1, cB hb hx2, cB hb hx3, cB hb hx4, cB hb hx5, cB hb hx6⟩) (fun w8 hb hH => ?_)
          have n0 := Aside0.mk (below_then EB.out EB.out.size hb); have n1 := Aside0.mk (Kd.N_below HL.out hb); have n2 := Aside0.mk (Kd.C_below HP6.out hb); clear EB HL HP6; have EB := n0; have HL := n1; have HP6 := n2; clear n0 n1 n2
          clear hb
          refine pz 1 (some 81) #[false, true, false, false, false, false, false, false, false, false, false, false, false, false, false] ?_
          refine pz 2 (some 82) #[false, true, true, false, false, false, false, false, false, false, false, false, false, false, false] ?_
          refine pz 3 (some 83) #[false, true, true, true, false, false, false, false, false, false, false, false, false, false, false] ?_
          refine tz 0 (some 80) #[true, true, true, true, false, false, false, false, false, false, false, false, false, false, false] hH ?_
          refine tz 4 (some 84) #[true, true, true, true, true, false, false, false, false, false, false, false, false, false, false] hH ?_
          refine one_ (i := 5) (N := some 85) #[true, true, true, true, true, true, false, false, false, false, false, false, false, false, false] rfl rfl (by kernel_rfl) (by decide) (fun K hK => ?_)
          refine goes_ Try.func50 (by kernel_rfl) rfl #[.agg #[.int .i64 a0, .int .i64 a1, .int .i64 a2, .int .i64 a3, .int .i64 a4, .int .i64 a5, .int .i64 a6, .int .i64 a7, .int .i64 a8], .agg #[.int .i64 (rd_T71 out (ii : Int)).f0, .int .i64 (rd_T71 out (ii : Int)).f1, .int .i64 (rd_T71 out (ii : Int)).f2, .int .i64 (rd_T71 out (ii : Int)).f3, .int .i64 (rd_T71 out (ii : Int)).f4, .int .i64 (rd_T71 out (ii : Int)).f5, .slice Ap (rd_T71 out (ii : Int)).f6.length cp]] (by rfl) rfl rfl (by (try simp only [List.map_toArray, List.map_cons, List.map_nil]); first | done | (go_simp; done) | rfl | (go_simp; rfl)) ?_
          with_reducible refine (impl_Holds.calls k a0 a1 a2 a3 a4 a5 a6 a7 a8 _ _ _ _ _ _ _ _ _ _ _ HP6.out HPl.out HBa.out).mono ?_
          rintro e wq ⟨rfl, hb⟩
          refine ⟨_, rfl, ?_⟩
          have n0 := Aside0.mk (below_then EB.out EB.out.size hb); have n1 := Aside0.mk (Kd.N_below HL.out hb); have n2 := Aside0.mk (Kd.C_below HP6.out hb); clear EB HL HP6; have EB := n0; have HL := n1; have HP6 := n2; clear n0 n1 n2
          refine hK.out _ _ ⟨cB hb hH.1, cB hb hH.2.1, cB hb hH.2.2.1, cB hb hH.2.2.2.1, cB hb hH.2.2.2.2.1, cB hb hH.2.2.2.2.2.1, cB hb hH.2.2.2.2.2.2.1, cB hb hH.2.2.2.2.2.2.2.1, cB hb hH.2.2.2.2.2.2.2.2.1, cB hb hH.2.2.2.2.2.2.2.2.2.1, cB hb hH.2.2.2.2.2.2.2.2.2.2.1, cB hb hH.2.2.2.2.2.2.2.2.2.2.2.1, cB hb hH.2.2.2.2.2.2.2.2.2.2.2.2.1, cB hb hH.2.2.2.2.2.2.2.2.2.2.2.2.2.1, cB hb hH.2.2.2.2.2.2.2.2.2.2.2.2.2.2.1, cB hb hH.2.2.2.2.2.2.2.2.2.2.2.2.2.2.2.1, cB hb hH.2.2.2.2.2.2.2.2.2.2.2.2.2.2.2.2.1, cB hb hH.2.2.2.2.2.2.2.2.2.2.2.2.2.2.2.2.2.1, cB hb hH.2.2.2.2.2.2.2.2.2.2.2.2.2.2.2.2.2.2.1, cB hb hH.2.2.2.2.2.2.2.2.2.2.2.2.2.2.2.2.2.2.2.1, cB hb hH.2.2.2.2.2.2.2.2.2.2.2.2.2.2.2.2.2.2.2.2.1, cB hb hH.2.2.2.2.2.2.2.2.2.2.2.2.2.2.2.2.2.2.2.2.2.1, cB hb hH.2.2.2.2.2.2.2.2.2.2.2.2.2.2.2.2.2.2.2.2.2.2.1, cB hb hH.2.2.2.2.2.2.2.2.2.2.2.2.2.2.2.2.2.2.2.2.2.2.2.1, cB hb hH.2.2.2.2.2.2.2.2.2.2.2.2.2.2.2.2.2.2.2.2.2.2.2.2.1, cB hb hH.2.2.2.2.2.2.2.2.2.2.2.2.2.2.2.2.2.2.2.2.2.2.2.2.2.1, cB hb hH.2.2.2.2.2.2.2.2.2.2.2.2.2.2.2.2.2.2.2.2.2.2.2.2.2.2.1, cB hb hH.2.2.2.2.2.2.2.2.2.2.2.2.2.2.2.2.2.2.2.2.2.2.2.2.2.2.2.1, cB hb hH.2.2.2.2.2.2.2.2.2.2.2.2.2.2.2.2.2.2.2.2.2.2.2.2.2.2.2.2.1, cB hb hH.2.2.2.2.2.2.2.2.2.2.2.2.2.2.2.2.2.2.2.2.2.2.2.2.2.2.2.2.2.1, cB hb hH.2.2.2.2.2.2.2.2.2.2.2.2.2.2.2.2.2.2.2.2.2.2.2.2.2.2.2.2.2.2.1, cB hb hH.2.2.2.2.2.2.2.2.2.2.2.2.2.2.2.2.2.2.2.2.2.2.2.2.2.2.2.2.2.2.2.1, cB hb hH.2.2.2.2.2.2.2.2.2.2.2.2.2.2.2.2.2.2.2.2.2.2.2.2.2.2.2.2.2.2.2.2.1, cB hb hH.2.2.2.2.2.2.2.2.2.2.2.2.2.2.2.2.2.2.2.2.2.2.2.2.2.2.2.2.2.2.2.2.2.1, cB hb hH.2.2.2.2.2.2.2.2.2.2.2.2.2.2.2.2.2.2.2.2.2.2.2.2.2.2.2.2.2.2.2.2.2.2⟩ (fun hH2 => ?_)
          clear hK K hH
          have hH := hH2
          clear hH2 hb
          refine norm_ (a' := ?_) ?_ ?_
          rotate_left
          · (show Act.put _ (some 85) _ = _; simp only [Act.put, List.setIfInBounds_toArray, List.set_cons_zero, List.set_cons_succ, i64_w, i32_w]; rfl)
          refine pz 6 (some 86) #[true, true, true, true, true, true, true, false, false, false, false, false, false, false, false] ?_
          refine pu 7 (some 87) #[true, true, true, true, true, true, true, true, false, false, false, false, false, false, false] ?_
          refine pu 8 (some 88) #[true, true, true, true, true, true, true, true, true, false, false, false, false, false, false] ?_
          refine pu 9 (some 89) #[true, true, true, true, true, true, true, true, true, true, false, false, false, false, false] ?_
          refine pu 10 (some 90) #[true, true, true, true, true, true, true, true, true, true, true, false, false, false, false] ?_
          refine pu 11 (some 91) #[true, true, true, true, true, true, true, true, true, true, true, true, false, false, false] ?_
          refine pu 12 (some 92) #[true, true, true, true, true, true, true, true, true, true, true, true, true, false, false] ?_
          refine pz 13 (some 93) #[true, true, true, true, true, true, true, true, true, true, true, true, true, true, false] ?_
          refine pz 14 (some 10) #[true, true, true, true, true, true, true, true, true, true, true, true, true, true, true] ?_
          refine done_ (by kernel_rfl) ?_
          clear B3w B4w B5w
          go_wp2
          refine rg_start (n := 14) (S := fun w' => w'.cell? ⟨b3, 0, none⟩ = some (.int .i64 a0) ∧ w'.cell? ⟨b3, 1, none⟩ = some (.int .i64 a1) ∧ w'.cell? ⟨b3, 2, none⟩ = some (.int .i64 a2) ∧ w'.cell? ⟨b3, 3, none⟩ = some (.int .i64 a3) ∧ w'.cell? ⟨b3, 4, none⟩ = some (.int .i64 a4) ∧ w'.cell? ⟨b3, 5, none⟩ = some (.int .i64 a5) ∧ w'.cell? ⟨b3, 6, none⟩ = some (.int .i64 a6) ∧ w'.cell? ⟨b3, 7, none⟩ = some (.int .i64 a7) ∧ w'.cell? ⟨b3, 8, none⟩ = some (.int .i64 a8) ∧ w'.cell? ⟨b4, 0, none⟩ = some (.int .i64 g0) ∧ w'.cell? ⟨b4, 1, none⟩ = some (.int .i64 g1) ∧ w'.cell? ⟨b4, 2, none⟩ = some (.int .i64 g2) ∧ w'.cell? ⟨b4, 3, none⟩ = some (.int .i64 g3) ∧ w'.cell? ⟨b4, 4, none⟩ = some (.int .i64 g4) ∧ w'.cell? ⟨b4, 5, none⟩ = some (.int .i64 g5) ∧ w'.cell? ⟨b4, 6, none⟩ = some (.int .i64 g6) ∧ w'.cell? ⟨b4, 7, none⟩ = some (.int .i64 g7) ∧ w'.cell? ⟨b4, 8, none⟩ = some (.int .i64 g8) ∧ w'.cell? ⟨b5, 0, none⟩ = some (.int .i64 0) ∧ w'.cell? ⟨b5, 1, none⟩ = some (.int .i64 m1) ∧ w'.cell? ⟨b5, 2, none⟩ = some (.int .i64 m2) ∧ w'.cell? ⟨b5, 3, none⟩ = some (.int .i64 m3) ∧ w'.cell? ⟨b5, 4, none⟩ = some (.int .i64 m4) ∧ w'.cell? ⟨b5, 5, none⟩ = some (.int .i64 m5) ∧ w'.cell? ⟨b5, 6, none⟩ = some (.int .i64 m6) ∧ w'.cell? ⟨b5, 7, none⟩ = some (.int .i64 m7) ∧ w'.cell? ⟨b5, 8, none⟩ = some (.int .i64 m8) ∧ w'.cell? ⟨b5, 9, none⟩ = some (.int .i64 m9) ∧ w'.cell? (adz.add (ii * 7)) = some (.int .i64 (rd_T71 out (ii : Int)).f0) ∧ w'.cell? ⟨(adz.add (ii * 7)).block, (adz.add (ii * 7)).off + 1, none⟩ = some (.int .i64 (rd_T71 out (ii : Int)).f1) ∧ w'.cell? ⟨(adz.add (ii * 7)).block, (adz.add (ii * 7)).off + 2, none⟩ = some (.int .i64 (rd_T71 out (ii : Int)).f2) ∧ w'.cell? ⟨(adz.add (ii * 7)).block, (adz.add (ii * 7)).off + 3, none⟩ = some (.int .i64 (rd_T71 out (ii : Int)).f3) ∧ w'.cell? ⟨(adz.add (ii * 7)).block, (adz.add (ii * 7)).off + 4, none⟩ = some (.int .i64 (rd_T71 out (ii : Int)).f4) ∧ w'.cell? ⟨(adz.add (ii * 7)).block, (adz.add (ii * 7)).off + 5, none⟩ = some (.int .i64 (rd_T71 out (ii : Int)).f5) ∧ w'.cell? ⟨(adz.add (ii * 7)).block, (adz.add (ii * 7)).off + 6, none⟩ = some (.slice Ap (rd_T71 out (ii : Int)).f6.length cp)) #[false, false, false, false, false, false, false, false, false, false, false, false, false, false] (fun W' hb => ⟨cB hb hH.1, cB hb hH.2.1, cB hb hH.2.2.1, cB hb hH.2.2.2.1, cB hb hH.2.2.2.2.1, cB hb hH.2.2.2.2.2.1, cB hb hH.2.2.2.2.2.2.1, cB hb hH.2.2.2.2.2.2.2.1, cB hb hH.2.2.2.2.2.2.2.2.1, cB hb hH.2.2.2.2.2.2.2.2.2.1, cB hb hH.2.2.2.2.2.2.2.2.2.2.1, cB hb hH.2.2.2.2.2.2.2.2.2.2.2.1, cB hb hH.2.2.2.2.2.2.2.2.2.2.2.2.1, cB hb hH.2.2.2.2.2.2.2.2.2.2.2.2.2.1, cB hb hH.2.2.2.2.2.2.2.2.2.2.2.2.2.2.1, cB hb hH.2.2.2.2.2.2.2.2.2.2.2.2.2.2.2.1, cB hb hH.2.2.2.2.2.2.2.2.2.2.2.2.2.2.2.2.1, cB hb hH.2.2.2.2.2.2.2.2.2.2.2.2.2.2.2.2.2.1, cB hb hH.2.2.2.2.2.2.2.2.2.2.2.2.2.2.2.2.2.2.1, cB hb hH.2.2.2.2.2.2.2.2.2.2.2.2.2.2.2.2.2.2.2.1, cB hb hH.2.2.2.2.2.2.2.2.2.2.2.2.2.2.2.2.2.2.2.2.1, cB hb hH.2.2.2.2.2.2.2.2.2.2.2.2.2.2.2.2.2.2.2.2.2.1, cB hb hH.2.2.2.2.2.2.2.2.2.2.2.2.2.2.2.2.2.2.2.2.2.2.1, cB hb hH.2.2.2.2.2.2.2.2.2.2.2.2.2.2.2.2.2.2.2.2.2.2.2.1, cB hb hH.2.2.2.2.2.2.2.2.2.2.2.2.2.2.2.2.2.2.2.2.2.2.2.2.1, cB hb hH.2.2.2.2.2.2.2.2.2.2.2.2.2.2.2.2.2.2.2.2.2.2.2.2.2.1, cB hb hH.2.2.2.2.2.2.2.2.2.2.2.2.2.2.2.2.2.2.2.2.2.2.2.2.2.2.1, cB hb hH.2.2.2.2.2.2.2.2.2.2.2.2.2.2.2.2.2.2.2.2.2.2.2.2.2.2.2.1, cB hb hH.2.2.2.2.2.2.2.2.2.2.2.2.2.2.2.2.2.2.2.2.2.2.2.2.2.2.2.2.1, cB hb hH.2.2.2.2.2.2.2.2.2.2.2.2.2.2.2.2.2.2.2.2.2.2.2.2.2.2.2.2.2.1, cB hb hH.2.2.2.2.2.2.2.2.2.2.2.2.2.2.2.2.2.2.2.2.2.2.2.2.2.2.2.2.2.2.1, cB hb hH.2.2.2.2.2.2.2.2.2.2.2.2.2.2.2.2.2.2.2.2.2.2.2.2.2.2.2.2.2.2.2.1, cB hb hH.2.2.2.2.2.2.2.2.2.2.2.2.2.2.2.2.2.2.2.2.2.2.2.2.2.2.2.2.2.2.2.2.1, cB hb hH.2.2.2.2.2.2.2.2.2.2.2.2.2.2.2.2.2.2.2.2.2.2.2.2.2.2.2.2.2.2.2.2.2.1, cB hb hH.2.2.2.2.2.2.2.2.2.2.2.2.2.2.2.2.2.2.2.2.2.2.2.2.2.2.2.2.2.2.2.2.2.2⟩) (fun w8 hb hH2 => ?_)
          have n0 := Aside0.mk (below_then EB.out EB.out.size hb); have n1 := Aside0.mk (Kd.N_below HL.out hb); have n2 := Aside0.mk (Kd.C_below HP6.out hb); clear EB HL HP6; have EB := n0; have HL := n1; have HP6 := n2; clear n0 n1 n2
          clear hb hH
          have hH := hH2
          clear hH2
          refine pz 0 (some 94) #[true, false, false, false, false, false, false, false, false, false, false, false, false, false] ?_
          refine pz 1 (some 95) #[true, true, false, false, false, false, false, false, false, false, false, false, false, false] ?_
          refine tz 2 (some 96) #[true, true, true, false, false, false, false, false, false, false, false, false, false, false] hH ?_
          refine pz 3 (some 97) #[true, true, true, true, false, false, false, false, false, false, false, false, false, false] ?_
          refine pz 4 (some 98) #[true, true, true, true, true, false, false, false, false, false, false, false, false, false] ?_
          refine pz 5 (some 99) #[true, true, true, true, true, true, false, false, false, false, false, false, false, false] ?_
          refine pz 7 (some 101) #[true, true, true, true, true, true, false, true, false, false, false, false, false, false] ?_
          refine pz 8 (some 102) #[true, true, true, true, true, true, false, true, true, false, false, false, false, false] ?_
          refine pz 9 (some 103) #[true, true, true, true, true, true, false, true, true, true, false, false, false, false] ?_
          refine tz 6 (some 100) #[true, true, true, true, true, true, true, true, true, true, false, false, false, false] hH ?_
          refine tz 10 (some 104) #[true, true, true, true, true, true, true, true, true, true, true, false, false, false] hH ?_
          refine one_ (i := 11) (N := some 105) #[true, true, true, true, true, true, true, true, true, true, true, true, false, false] rfl rfl (by kernel_rfl) (by decide) (fun K hK => ?_)
          refine goes_ Try.func50 (by kernel_rfl) rfl #[.agg #[.int .i64 m1, .int .i64 m2, .int .i64 m3, .int .i64 m4, .int .i64 m5, .int .i64 m6, .int .i64 m7, .int .i64 m8, .int .i64 m9], .agg #[.int .i64 (rd_T71 out (ii : Int)).f0, .int .i64 (rd_T71 out (ii : Int)).f1, .int .i64 (rd_T71 out (ii : Int)).f2, .int .i64 (rd_T71 out (ii : Int)).f3, .int .i64 (rd_T71 out (ii : Int)).f4, .int .i64 (rd_T71 out (ii : Int)).f5, .slice Ap (rd_T71 out (ii : Int)).f6.length cp]] (by rfl) rfl rfl (by (try simp only [List.map_toArray, List.map_cons, List.map_nil]); first | done | (go_simp; done) | rfl | (go_simp; rfl)) ?_
          with_reducible refine (impl_Holds.calls k m1 m2 m3 m4 m5 m6 m7 m8 m9 _ _ _ _ _ _ _ _ _ _ _ HP6.out HPl.out HSl.out).mono ?_
          rintro e wq ⟨rfl, hb⟩
          refine ⟨_, rfl, ?_⟩
          have n0 := Aside0.mk (below_then EB.out EB.out.size hb); have n1 := Aside0.mk (Kd.N_below HL.out hb); have n2 := Aside0.mk (Kd.C_below HP6.out hb); clear EB HL HP6; have EB := n0; have HL := n1; have HP6 := n2; clear n0 n1 n2
          refine hK.out _ _ ⟨cB hb hH.1, cB hb hH.2.1, cB hb hH.2.2.1, cB hb hH.2.2.2.1, cB hb hH.2.2.2.2.1, cB hb hH.2.2.2.2.2.1, cB hb hH.2.2.2.2.2.2.1, cB hb hH.2.2.2.2.2.2.2.1, cB hb hH.2.2.2.2.2.2.2.2.1, cB hb hH.2.2.2.2.2.2.2.2.2.1, cB hb hH.2.2.2.2.2.2.2.2.2.2.1, cB hb hH.2.2.2.2.2.2.2.2.2.2.2.1, cB hb hH.2.2.2.2.2.2.2.2.2.2.2.2.1, cB hb hH.2.2.2.2.2.2.2.2.2.2.2.2.2.1, cB hb hH.2.2.2.2.2.2.2.2.2.2.2.2.2.2.1, cB hb hH.2.2.2.2.2.2.2.2.2.2.2.2.2.2.2.1, cB hb hH.2.2.2.2.2.2.2.2.2.2.2.2.2.2.2.2.1, cB hb hH.2.2.2.2.2.2.2.2.2.2.2.2.2.2.2.2.2.1, cB hb hH.2.2.2.2.2.2.2.2.2.2.2.2.2.2.2.2.2.2.1, cB hb hH.2.2.2.2.2.2.2.2.2.2.2.2.2.2.2.2.2.2.2.1, cB hb hH.2.2.2.2.2.2.2.2.2.2.2.2.2.2.2.2.2.2.2.2.1, cB hb hH.2.2.2.2.2.2.2.2.2.2.2.2.2.2.2.2.2.2.2.2.2.1, cB hb hH.2.2.2.2.2.2.2.2.2.2.2.2.2.2.2.2.2.2.2.2.2.2.1, cB hb hH.2.2.2.2.2.2.2.2.2.2.2.2.2.2.2.2.2.2.2.2.2.2.2.1, cB hb hH.2.2.2.2.2.2.2.2.2.2.2.2.2.2.2.2.2.2.2.2.2.2.2.2.1, cB hb hH.2.2.2.2.2.2.2.2.2.2.2.2.2.2.2.2.2.2.2.2.2.2.2.2.2.1, cB hb hH.2.2.2.2.2.2.2.2.2.2.2.2.2.2.2.2.2.2.2.2.2.2.2.2.2.2.1, cB hb hH.2.2.2.2.2.2.2.2.2.2.2.2.2.2.2.2.2.2.2.2.2.2.2.2.2.2.2.1, cB hb hH.2.2.2.2.2.2.2.2.2.2.2.2.2.2.2.2.2.2.2.2.2.2.2.2.2.2.2.2.1, cB hb hH.2.2.2.2.2.2.2.2.2.2.2.2.2.2.2.2.2.2.2.2.2.2.2.2.2.2.2.2.2.1, cB hb hH.2.2.2.2.2.2.2.2.2.2.2.2.2.2.2.2.2.2.2.2.2.2.2.2.2.2.2.2.2.2.1, cB hb hH.2.2.2.2.2.2.2.2.2.2.2.2.2.2.2.2.2.2.2.2.2.2.2.2.2.2.2.2.2.2.2.1, cB hb hH.2.2.2.2.2.2.2.2.2.2.2.2.2.2.2.2.2.2.2.2.2.2.2.2.2.2.2.2.2.2.2.2.1, cB hb hH.2.2.2.2.2.2.2.2.2.2.2.2.2.2.2.2.2.2.2.2.2.2.2.2.2.2.2.2.2.2.2.2.2.1, cB hb hH.2.2.2.2.2.2.2.2.2.2.2.2.2.2.2.2.2.2.2.2.2.2.2.2.2.2.2.2.2.2.2.2.2.2⟩ (fun hH2 => ?_)
          clear hK K hH
          have hH := hH2
          clear hH2 hb
          refine norm_ (a' := ?_) ?_ ?_
          rotate_left
          · (show Act.put _ (some 105) _ = _; simp only [Act.put, List.setIfInBounds_toArray, List.set_cons_zero, List.set_cons_succ, i64_w, i32_w]; rfl)
          refine pz 12 (some 106) #[true, true, true, true, true, true, true, true, true, true, true, true, true, false] ?_
          refine pz 13 (some 107) #[true, true, true, true, true, true, true, true, true, true, true, true, true, true] ?_
          refine done_ (by kernel_rfl) ?_
          go_wp2
          go_roundg (out.length - (ii + 1))
          case measure => omega
          case rel => exact ⟨ii + 1, by go_num, by omega, by omega, HL, EB, HC2⟩
      · have hltz : ¬ (ii : Int) < (out.length : Int) := by omega
        have hl3 : out.length = 4 := by rw [hout]; rfl
        have hltz3 : ¬ (ii : Int) < 4 := by omega
        have hie : ii = out.length := by omega
        subst hie
        have H0 := HFi.out
        unfold laws_FnMeets.fin at H0
        have H1 := ifD H0
        rcases H1 with ⟨hl1, H2⟩ | ⟨_, H2⟩
        case inr => exact noneE H2
        replace hl1 := of_decide_eq_true hl1
        obtain ⟨xa, hxa, H3⟩ := Option.bind_eq_some_iff.mp H2
        have H4 := ifB H3
        rcases H4 with ⟨rfl, H5⟩ | ⟨_, H5⟩
        case inr => exact noneE H5
        obtain ⟨xw, hxw, H6⟩ := Option.bind_eq_some_iff.mp H5
        have H7 := ifB H6
        rcases H7 with ⟨rfl, H8⟩ | ⟨_, H8⟩
        case inr => exact noneE H8
        obtain ⟨⟨z0, z1, z2, z3, z4, z5, z6, z7, z8, z9⟩, hz, H9⟩ := Option.bind_eq_some_iff.mp H8
        have H10 := ifD H9
        rcases H10 with ⟨hzz, _⟩ | ⟨_, H11⟩
        case inr => exact noneE H11
        obtain rfl := of_decide_eq_true hzz
        have HBa : Aside0 (impl_Holds.f k a0 a1 a2 a3 a4 a5 a6 a7 a8 (rd_T71 out 1).f0 (rd_T71 out 1).f1 (rd_T71 out 1).f2 (rd_T71 out 1).f3 (rd_T71 out 1).f4 (rd_T71 out 1).f5 (rd_T71 out 1).f6 = some true) := ⟨hxa⟩
        have HWs := Aside0.mk hxw
        have HMz := Aside0.mk hz
        simp only at HWs HMz
        clear H0 H2 H3 H5 H6 H8 H9 hxa hxw hz hzz HFi HCk
        obtain ⟨ad, Ap, cp, e, hx0, hx1, hx2, hx3, hx4, hx5, hx6, hl6, hc6⟩ := at_T71 (Kd.N_reads' HL.out).2.2 (1 : Int) (by decide) (by omega)
        cases e.symm
        simp only [show (1 : Int).toNat * 7 = 7 from rfl, show adz.add 7 = (⟨adz.block, adz.off + 7, none⟩ : Addr) from rfl] at hx0 hx1 hx2 hx3 hx4 hx5 hx6
        have hone : (1 : Int) < (out.length : Int) := by omega
        have HP6 := Aside0.mk hc6
        have HPl := Aside0.mk hl6
        clear hc6 hl6
        go_wp2
        have B3w := blk_b B36.out EB.out
        have B4w := blk_b B46.out EB.out
        have B5w := blk_b B56.out EB.out
        refine rg_start (n := 20) (S := fun w' => w'.cell? ⟨b3, 0, none⟩ = some (.int .i64 a0) ∧ w'.cell? ⟨b3, 1, none⟩ = some (.int .i64 a1) ∧ w'.cell? ⟨b3, 2, none⟩ = some (.int .i64 a2) ∧ w'.cell? ⟨b3, 3, none⟩ = some (.int .i64 a3) ∧ w'.cell? ⟨b3, 4, none⟩ = some (.int .i64 a4) ∧ w'.cell? ⟨b3, 5, none⟩ = some (.int .i64 a5) ∧ w'.cell? ⟨b3, 6, none⟩ = some (.int .i64 a6) ∧ w'.cell? ⟨b3, 7, none⟩ = some (.int .i64 a7) ∧ w'.cell? ⟨b3, 8, none⟩ = some (.int .i64 a8) ∧ w'.cell? ⟨b4, 0, none⟩ = some (.int .i64 g0) ∧ w'.cell? ⟨b4, 1, none⟩ = some (.int .i64 g1) ∧ w'.cell? ⟨b4, 2, none⟩ = some (.int .i64 g2) ∧ w'.cell? ⟨b4, 3, none⟩ = some (.int .i64 g3) ∧ w'.cell? ⟨b4, 4, none⟩ = some (.int .i64 g4) ∧ w'.cell? ⟨b4, 5, none⟩ = some (.int .i64 g5) ∧ w'.cell? ⟨b4, 6, none⟩ = some (.int .i64 g6) ∧ w'.cell? ⟨b4, 7, none⟩ = some (.int .i64 g7) ∧ w'.cell? ⟨b4, 8, none⟩ = some (.int .i64 g8) ∧ w'.cell? ⟨b5, 0, none⟩ = some (.int .i64 0) ∧ w'.cell? ⟨b5, 1, none⟩ = some (.int .i64 m1) ∧ w'.cell? ⟨b5, 2, none⟩ = some (.int .i64 m2) ∧ w'.cell? ⟨b5, 3, none⟩ = some (.int .i64 m3) ∧ w'.cell? ⟨b5, 4, none⟩ = some (.int .i64 m4) ∧ w'.cell? ⟨b5, 5, none⟩ = some (.int .i64 m5) ∧ w'.cell? ⟨b5, 6, none⟩ = some (.int .i64 m6) ∧ w'.cell? ⟨b5, 7, none⟩ = some (.int .i64 m7) ∧ w'.cell? ⟨b5, 8, none⟩ = some (.int .i64 m8) ∧ w'.cell? ⟨b5, 9, none⟩ = some (.int .i64 m9) ∧ w'.cell? ⟨adz.block, adz.off + 7, none⟩ = some (.int .i64 (rd_T71 out 1).f0) ∧ w'.cell? ⟨adz.block, adz.off + 7 + 1, none⟩ = some (.int .i64 (rd_T71 out 1).f1) ∧ w'.cell? ⟨adz.block, adz.off + 7 + 2, none⟩ = some (.int .i64 (rd_T71 out 1).f2) ∧ w'.cell? ⟨adz.block, adz.off + 7 + 3, none⟩ = some (.int .i64 (rd_T71 out 1).f3) ∧ w'.cell? ⟨adz.block, adz.off + 7 + 4, none⟩ = some (.int .i64 (rd_T71 out 1).f4) ∧ w'.cell? ⟨adz.block, adz.off + 7 + 5, none⟩ = some (.int .i64 (rd_T71 out 1).f5) ∧ w'.cell? ⟨adz.block, adz.off + 7 + 6, none⟩ = some (.slice Ap (rd_T71 out 1).f6.length cp)) #[false, false, false, false, false, false, false, false, false, false, false, false, false, false, false, false, false, false, false, false] (fun W' hb => ⟨cB hb ((blk_cell B3w 0).trans rfl), cB hb ((blk_cell B3w 1).trans rfl), cB hb ((blk_cell B3w 2).trans rfl), cB hb ((blk_cell B3w 3).trans rfl), cB hb ((blk_cell B3w 4).trans rfl), cB hb ((blk_cell B3w 5).trans rfl), cB hb ((blk_cell B3w 6).trans rfl), cB hb ((blk_cell B3w 7).trans rfl), cB hb ((blk_cell B3w 8).trans rfl), cB hb ((blk_cell B4w 0).trans rfl), cB hb ((blk_cell B4w 1).trans rfl), cB hb ((blk_cell B4w 2).trans rfl), cB hb ((blk_cell B4w 3).trans rfl), cB hb ((blk_cell B4w 4).trans rfl), cB hb ((blk_cell B4w 5).trans rfl), cB hb ((blk_cell B4w 6).trans rfl), cB hb ((blk_cell B4w 7).trans rfl), cB hb ((blk_cell B4w 8).trans rfl), cB hb ((blk_cell B5w 0).trans rfl), cB hb ((blk_cell B5w 1).trans rfl), cB hb ((blk_cell B5w 2).trans rfl), cB hb ((blk_cell B5w 3).trans rfl), cB hb ((blk_cell B5w 4).trans rfl), cB hb ((blk_cell B5w 5).trans rfl), cB hb ((blk_cell B5w 6).trans rfl), cB hb ((blk_cell B5w 7).trans rfl), cB hb ((blk_cell B5w 8).trans rfl), cB hb ((blk_cell B5w 9).trans rfl), cB hb hx0, cB hb hx1, cB hb hx2, cB hb hx3, cB hb hx4, cB hb hx5, cB hb hx6⟩) (fun w8 hb hH => ?_)
        have n0 := Aside0.mk (below_then EB.out EB.out.size hb); have n1 := Aside0.mk (Kd.N_below HL.out hb); have n2 := Aside0.mk (Kd.C_below HP6.out hb); clear EB HL HP6; have EB := n0; have HL := n1; have HP6 := n2; clear n0 n1 n2
        clear hb
        refine pz 1 (some 109) #[false, true, false, false, false, false, false, false, false, false, false, false, false, false, false, false, false, false, false, false] ?_
        refine pz 2 (some 110) #[false, true, true, false, false, false, false, false, false, false, false, false, false, false, false, false, false, false, false, false] ?_
        refine tz 0 (some 108) #[true, true, true, false, false, false, false, false, false, false, false, false, false, false, false, false, false, false, false, false] hH ?_
        refine tz 3 (some 111) #[true, true, true, true, false, false, false, false, false, false, false, false, false, false, false, false, false, false, false, false] hH ?_
        refine one_ (i := 4) (N := some 112) #[true, true, true, true, true, false, false, false, false, false, false, false, false, false, false, false, false, false, false, false] rfl rfl (by kernel_rfl) (by decide) (fun K hK => ?_)
        refine goes_ Try.func50 (by kernel_rfl) rfl #[.agg #[.int .i64 a0, .int .i64 a1, .int .i64 a2, .int .i64 a3, .int .i64 a4, .int .i64 a5, .int .i64 a6, .int .i64 a7, .int .i64 a8], .agg #[.int .i64 (rd_T71 out 1).f0, .int .i64 (rd_T71 out 1).f1, .int .i64 (rd_T71 out 1).f2, .int .i64 (rd_T71 out 1).f3, .int .i64 (rd_T71 out 1).f4, .int .i64 (rd_T71 out 1).f5, .slice Ap (rd_T71 out 1).f6.length cp]] (by rfl) rfl rfl (by (try simp only [List.map_toArray, List.map_cons, List.map_nil]); first | done | (go_simp; done) | rfl | (go_simp; rfl)) ?_
        with_reducible refine (impl_Holds.calls k a0 a1 a2 a3 a4 a5 a6 a7 a8 _ _ _ _ _ _ _ _ _ true _ HP6.out HPl.out HBa.out).mono ?_
        rintro e wq ⟨rfl, hb⟩
        refine ⟨_, rfl, ?_⟩
        have n0 := Aside0.mk (below_then EB.out EB.out.size hb); have n1 := Aside0.mk (Kd.N_below HL.out hb); have n2 := Aside0.mk (Kd.C_below HP6.out hb); clear EB HL HP6; have EB := n0; have HL := n1; have HP6 := n2; clear n0 n1 n2
        refine hK.out _ _ ⟨cB hb hH.1, cB hb hH.2.1, cB hb hH.2.2.1, cB hb hH.2.2.2.1, cB hb hH.2.2.2.2.1, cB hb hH.2.2.2.2.2.1, cB hb hH.2.2.2.2.2.2.1, cB hb hH.2.2.2.2.2.2.2.1, cB hb hH.2.2.2.2.2.2.2.2.1, cB hb hH.2.2.2.2.2.2.2.2.2.1, cB hb hH.2.2.2.2.2.2.2.2.2.2.1, cB hb hH.2.2.2.2.2.2.2.2.2.2.2.1, cB hb hH.2.2.2.2.2.2.2.2.2.2.2.2.1, cB hb hH.2.2.2.2.2.2.2.2.2.2.2.2.2.1, cB hb hH.2.2.2.2.2.2.2.2.2.2.2.2.2.2.1, cB hb hH.2.2.2.2.2.2.2.2.2.2.2.2.2.2.2.1, cB hb hH.2.2.2.2.2.2.2.2.2.2.2.2.2.2.2.2.1, cB hb hH.2.2.2.2.2.2.2.2.2.2.2.2.2.2.2.2.2.1, cB hb hH.2.2.2.2.2.2.2.2.2.2.2.2.2.2.2.2.2.2.1, cB hb hH.2.2.2.2.2.2.2.2.2.2.2.2.2.2.2.2.2.2.2.1, cB hb hH.2.2.2.2.2.2.2.2.2.2.2.2.2.2.2.2.2.2.2.2.1, cB hb hH.2.2.2.2.2.2.2.2.2.2.2.2.2.2.2.2.2.2.2.2.2.1, cB hb hH.2.2.2.2.2.2.2.2.2.2.2.2.2.2.2.2.2.2.2.2.2.2.1, cB hb hH.2.2.2.2.2.2.2.2.2.2.2.2.2.2.2.2.2.2.2.2.2.2.2.1, cB hb hH.2.2.2.2.2.2.2.2.2.2.2.2.2.2.2.2.2.2.2.2.2.2.2.2.1, cB hb hH.2.2.2.2.2.2.2.2.2.2.2.2.2.2.2.2.2.2.2.2.2.2.2.2.2.1, cB hb hH.2.2.2.2.2.2.2.2.2.2.2.2.2.2.2.2.2.2.2.2.2.2.2.2.2.2.1, cB hb hH.2.2.2.2.2.2.2.2.2.2.2.2.2.2.2.2.2.2.2.2.2.2.2.2.2.2.2.1, cB hb hH.2.2.2.2.2.2.2.2.2.2.2.2.2.2.2.2.2.2.2.2.2.2.2.2.2.2.2.2.1, cB hb hH.2.2.2.2.2.2.2.2.2.2.2.2.2.2.2.2.2.2.2.2.2.2.2.2.2.2.2.2.2.1, cB hb hH.2.2.2.2.2.2.2.2.2.2.2.2.2.2.2.2.2.2.2.2.2.2.2.2.2.2.2.2.2.2.1, cB hb hH.2.2.2.2.2.2.2.2.2.2.2.2.2.2.2.2.2.2.2.2.2.2.2.2.2.2.2.2.2.2.2.1, cB hb hH.2.2.2.2.2.2.2.2.2.2.2.2.2.2.2.2.2.2.2.2.2.2.2.2.2.2.2.2.2.2.2.2.1, cB hb hH.2.2.2.2.2.2.2.2.2.2.2.2.2.2.2.2.2.2.2.2.2.2.2.2.2.2.2.2.2.2.2.2.2.1, cB hb hH.2.2.2.2.2.2.2.2.2.2.2.2.2.2.2.2.2.2.2.2.2.2.2.2.2.2.2.2.2.2.2.2.2.2⟩ (fun hH2 => ?_)
        clear hK K hH
        have hH := hH2
        clear hH2 hb
        refine norm_ (a' := ?_) ?_ ?_
        rotate_left
        · (show Act.put _ (some 112) _ = _; simp only [Act.put, List.setIfInBounds_toArray, List.set_cons_zero, List.set_cons_succ, i64_w, i32_w]; rfl)
        refine pz 5 (some 113) #[true, true, true, true, true, true, false, false, false, false, false, false, false, false, false, false, false, false, false, false] ?_
        refine tz 6 (some 114) #[true, true, true, true, true, true, true, false, false, false, false, false, false, false, false, false, false, false, false, false] hH ?_
        refine tz 7 (some 115) #[true, true, true, true, true, true, true, true, false, false, false, false, false, false, false, false, false, false, false, false] hH ?_
        refine one_ (i := 8) (N := some 116) #[true, true, true, true, true, true, true, true, true, false, false, false, false, false, false, false, false, false, false, false] rfl rfl (by kernel_rfl) (by decide) (fun K hK => ?_)
        refine goes_ Try.func45 (by kernel_rfl) rfl #[.agg #[.int .i64 a0, .int .i64 a1, .int .i64 a2, .int .i64 a3, .int .i64 a4, .int .i64 a5, .int .i64 a6, .int .i64 a7, .int .i64 a8], .agg #[.int .i64 a0, .int .i64 a1, .int .i64 a2, .int .i64 a3, .int .i64 a4, .int .i64 a5, .int .i64 a6, .int .i64 a7, .int .i64 a8]] (by rfl) rfl rfl (by (try simp only [List.map_toArray, List.map_cons, List.map_nil]); first | done | (go_simp; done) | rfl | (go_simp; rfl)) ?_
        with_reducible refine (impl_WithinSel.calls k a0 a1 a2 a3 a4 a5 a6 a7 a8 a0 a1 a2 a3 a4 a5 a6 a7 a8 true _ HWs.out).mono ?_
        rintro e wq ⟨rfl, hb⟩
        refine ⟨_, rfl, ?_⟩
        have n0 := Aside0.mk (below_then EB.out EB.out.size hb); have n1 := Aside0.mk (Kd.N_below HL.out hb); have n2 := Aside0.mk (Kd.C_below HP6.out hb); clear EB HL HP6; have EB := n0; have HL := n1; have HP6 := n2; clear n0 n1 n2
        refine hK.out _ _ ⟨cB hb hH.1, cB hb hH.2.1, cB hb hH.2.2.1, cB hb hH.2.2.2.1, cB hb hH.2.2.2.2.1, cB hb hH.2.2.2.2.2.1, cB hb hH.2.2.2.2.2.2.1, cB hb hH.2.2.2.2.2.2.2.1, cB hb hH.2.2.2.2.2.2.2.2.1, cB hb hH.2.2.2.2.2.2.2.2.2.1, cB hb hH.2.2.2.2.2.2.2.2.2.2.1, cB hb hH.2.2.2.2.2.2.2.2.2.2.2.1, cB hb hH.2.2.2.2.2.2.2.2.2.2.2.2.1, cB hb hH.2.2.2.2.2.2.2.2.2.2.2.2.2.1, cB hb hH.2.2.2.2.2.2.2.2.2.2.2.2.2.2.1, cB hb hH.2.2.2.2.2.2.2.2.2.2.2.2.2.2.2.1, cB hb hH.2.2.2.2.2.2.2.2.2.2.2.2.2.2.2.2.1, cB hb hH.2.2.2.2.2.2.2.2.2.2.2.2.2.2.2.2.2.1, cB hb hH.2.2.2.2.2.2.2.2.2.2.2.2.2.2.2.2.2.2.1, cB hb hH.2.2.2.2.2.2.2.2.2.2.2.2.2.2.2.2.2.2.2.1, cB hb hH.2.2.2.2.2.2.2.2.2.2.2.2.2.2.2.2.2.2.2.2.1, cB hb hH.2.2.2.2.2.2.2.2.2.2.2.2.2.2.2.2.2.2.2.2.2.1, cB hb hH.2.2.2.2.2.2.2.2.2.2.2.2.2.2.2.2.2.2.2.2.2.2.1, cB hb hH.2.2.2.2.2.2.2.2.2.2.2.2.2.2.2.2.2.2.2.2.2.2.2.1, cB hb hH.2.2.2.2.2.2.2.2.2.2.2.2.2.2.2.2.2.2.2.2.2.2.2.2.1, cB hb hH.2.2.2.2.2.2.2.2.2.2.2.2.2.2.2.2.2.2.2.2.2.2.2.2.2.1, cB hb hH.2.2.2.2.2.2.2.2.2.2.2.2.2.2.2.2.2.2.2.2.2.2.2.2.2.2.1, cB hb hH.2.2.2.2.2.2.2.2.2.2.2.2.2.2.2.2.2.2.2.2.2.2.2.2.2.2.2.1, cB hb hH.2.2.2.2.2.2.2.2.2.2.2.2.2.2.2.2.2.2.2.2.2.2.2.2.2.2.2.2.1, cB hb hH.2.2.2.2.2.2.2.2.2.2.2.2.2.2.2.2.2.2.2.2.2.2.2.2.2.2.2.2.2.1, cB hb hH.2.2.2.2.2.2.2.2.2.2.2.2.2.2.2.2.2.2.2.2.2.2.2.2.2.2.2.2.2.2.1, cB hb hH.2.2.2.2.2.2.2.2.2.2.2.2.2.2.2.2.2.2.2.2.2.2.2.2.2.2.2.2.2.2.2.1, cB hb hH.2.2.2.2.2.2.2.2.2.2.2.2.2.2.2.2.2.2.2.2.2.2.2.2.2.2.2.2.2.2.2.2.1, cB hb hH.2.2.2.2.2.2.2.2.2.2.2.2.2.2.2.2.2.2.2.2.2.2.2.2.2.2.2.2.2.2.2.2.2.1, cB hb hH.2.2.2.2.2.2.2.2.2.2.2.2.2.2.2.2.2.2.2.2.2.2.2.2.2.2.2.2.2.2.2.2.2.2⟩ (fun hH2 => ?_)
        clear hK K hH
        have hH := hH2
        clear hH2 hb
        refine norm_ (a' := ?_) ?_ ?_
        rotate_left
        · (show Act.put _ (some 116) _ = _; simp only [Act.put, List.setIfInBounds_toArray, List.set_cons_zero, List.set_cons_succ, i64_w, i32_w]; rfl)
        refine pz 9 (some 117) #[true, true, true, true, true, true, true, true, true, true, false, false, false, false, false, false, false, false, false, false] ?_
        refine pz 10 (some 118) #[true, true, true, true, true, true, true, true, true, true, true, false, false, false, false, false, false, false, false, false] ?_
        refine pz 11 (some 119) #[true, true, true, true, true, true, true, true, true, true, true, true, false, false, false, false, false, false, false, false] ?_
        refine tz 12 (some 120) #[true, true, true, true, true, true, true, true, true, true, true, true, true, false, false, false, false, false, false, false] hH ?_
        refine tz 13 (some 121) #[true, true, true, true, true, true, true, true, true, true, true, true, true, true, false, false, false, false, false, false] hH ?_
        refine tz 14 (some 122) #[true, true, true, true, true, true, true, true, true, true, true, true, true, true, true, false, false, false, false, false] hH ?_
        refine one_ (i := 15) (N := some 123) #[true, true, true, true, true, true, true, true, true, true, true, true, true, true, true, true, false, false, false, false] rfl rfl (by kernel_rfl) (by decide) (fun K hK => ?_)
        refine goes_ Try.func47 (by kernel_rfl) rfl #[.agg #[.int .i64 g0, .int .i64 g1, .int .i64 g2, .int .i64 g3, .int .i64 g4, .int .i64 g5, .int .i64 g6, .int .i64 g7, .int .i64 g8], .agg #[.int .i64 a0, .int .i64 a1, .int .i64 a2, .int .i64 a3, .int .i64 a4, .int .i64 a5, .int .i64 a6, .int .i64 a7, .int .i64 a8]] (by rfl) rfl rfl (by (try simp only [List.map_toArray, List.map_cons, List.map_nil]); first | done | (go_simp; done) | rfl | (go_simp; rfl)) ?_
        with_reducible refine (impl_MeetSels.calls k g0 g1 g2 g3 g4 g5 g6 g7 g8 a0 a1 a2 a3 a4 a5 a6 a7 a8 0 z1 z2 z3 z4 z5 z6 z7 z8 z9 _ HMz.out).mono ?_
        rintro e wq ⟨rfl, hb⟩
        refine ⟨_, rfl, ?_⟩
        have n0 := Aside0.mk (below_then EB.out EB.out.size hb); have n1 := Aside0.mk (Kd.N_below HL.out hb); have n2 := Aside0.mk (Kd.C_below HP6.out hb); clear EB HL HP6; have EB := n0; have HL := n1; have HP6 := n2; clear n0 n1 n2
        refine hK.out _ _ ⟨cB hb hH.1, cB hb hH.2.1, cB hb hH.2.2.1, cB hb hH.2.2.2.1, cB hb hH.2.2.2.2.1, cB hb hH.2.2.2.2.2.1, cB hb hH.2.2.2.2.2.2.1, cB hb hH.2.2.2.2.2.2.2.1, cB hb hH.2.2.2.2.2.2.2.2.1, cB hb hH.2.2.2.2.2.2.2.2.2.1, cB hb hH.2.2.2.2.2.2.2.2.2.2.1, cB hb hH.2.2.2.2.2.2.2.2.2.2.2.1, cB hb hH.2.2.2.2.2.2.2.2.2.2.2.2.1, cB hb hH.2.2.2.2.2.2.2.2.2.2.2.2.2.1, cB hb hH.2.2.2.2.2.2.2.2.2.2.2.2.2.2.1, cB hb hH.2.2.2.2.2.2.2.2.2.2.2.2.2.2.2.1, cB hb hH.2.2.2.2.2.2.2.2.2.2.2.2.2.2.2.2.1, cB hb hH.2.2.2.2.2.2.2.2.2.2.2.2.2.2.2.2.2.1, cB hb hH.2.2.2.2.2.2.2.2.2.2.2.2.2.2.2.2.2.2.1, cB hb hH.2.2.2.2.2.2.2.2.2.2.2.2.2.2.2.2.2.2.2.1, cB hb hH.2.2.2.2.2.2.2.2.2.2.2.2.2.2.2.2.2.2.2.2.1, cB hb hH.2.2.2.2.2.2.2.2.2.2.2.2.2.2.2.2.2.2.2.2.2.1, cB hb hH.2.2.2.2.2.2.2.2.2.2.2.2.2.2.2.2.2.2.2.2.2.2.1, cB hb hH.2.2.2.2.2.2.2.2.2.2.2.2.2.2.2.2.2.2.2.2.2.2.2.1, cB hb hH.2.2.2.2.2.2.2.2.2.2.2.2.2.2.2.2.2.2.2.2.2.2.2.2.1, cB hb hH.2.2.2.2.2.2.2.2.2.2.2.2.2.2.2.2.2.2.2.2.2.2.2.2.2.1, cB hb hH.2.2.2.2.2.2.2.2.2.2.2.2.2.2.2.2.2.2.2.2.2.2.2.2.2.2.1, cB hb hH.2.2.2.2.2.2.2.2.2.2.2.2.2.2.2.2.2.2.2.2.2.2.2.2.2.2.2.1, cB hb hH.2.2.2.2.2.2.2.2.2.2.2.2.2.2.2.2.2.2.2.2.2.2.2.2.2.2.2.2.1, cB hb hH.2.2.2.2.2.2.2.2.2.2.2.2.2.2.2.2.2.2.2.2.2.2.2.2.2.2.2.2.2.1, cB hb hH.2.2.2.2.2.2.2.2.2.2.2.2.2.2.2.2.2.2.2.2.2.2.2.2.2.2.2.2.2.2.1, cB hb hH.2.2.2.2.2.2.2.2.2.2.2.2.2.2.2.2.2.2.2.2.2.2.2.2.2.2.2.2.2.2.2.1, cB hb hH.2.2.2.2.2.2.2.2.2.2.2.2.2.2.2.2.2.2.2.2.2.2.2.2.2.2.2.2.2.2.2.2.1, cB hb hH.2.2.2.2.2.2.2.2.2.2.2.2.2.2.2.2.2.2.2.2.2.2.2.2.2.2.2.2.2.2.2.2.2.1, cB hb hH.2.2.2.2.2.2.2.2.2.2.2.2.2.2.2.2.2.2.2.2.2.2.2.2.2.2.2.2.2.2.2.2.2.2⟩ (fun hH2 => ?_)
        clear hK K hH
        have hH := hH2
        clear hH2 hb
        refine norm_ (a' := ?_) ?_ ?_
        rotate_left
        · (show Act.put _ (some 123) _ = _; simp only [Act.put, List.setIfInBounds_toArray, List.set_cons_zero, List.set_cons_succ, i64_w, i32_w]; rfl)
        refine pz 16 (some 124) #[true, true, true, true, true, true, true, true, true, true, true, true, true, true, true, true, true, false, false, false] ?_
        refine pz 17 (some 125) #[true, true, true, true, true, true, true, true, true, true, true, true, true, true, true, true, true, true, false, false] ?_
        refine pz 18 (some 126) #[true, true, true, true, true, true, true, true, true, true, true, true, true, true, true, true, true, true, true, false] ?_
        refine pz 19 (some 2) #[true, true, true, true, true, true, true, true, true, true, true, true, true, true, true, true, true, true, true, true] ?_
        refine done_ (by kernel_rfl) ?_
        go_wp2
        go_ret
        exact ⟨rfl, below_then EW6.out EW6.out.size EB.out⟩
  case inr =>
    obtain ⟨out, hout⟩ : ∃ out : List S71, out = [(⟨p0, p1, p2, p3, p4, p5, ld⟩ : S71), (⟨x1, x2, x3, x4, x5, x6, x7⟩ : S71), (⟨y1, y2, y3, y4, y5, y6, y7⟩ : S71)] := ⟨_, rfl⟩
    rw [← hout] at H HL
    go_wp2
    unfold laws_FnMeets.rest at H
    obtain ⟨_, hck, hfi⟩ := Option.bind_eq_some_iff.mp H
    have HCk := Aside0.mk hck
    have HFi := Aside0.mk hfi
    clear H hck hfi
    go_loopg [9] out.length (fun gg v9 w' => ∃ (ii : Nat), v9 = .int .i64 ii ∧ ii ≤ out.length ∧ out.length - ii ≤ gg ∧ Aside0 (Kd.N k71 71 w' w9.heap.size (fun _ => True) (.slice A10 out.length c10) out) ∧ Aside0 (Below w9.heap.size w9 w') ∧ Aside0 (laws_FnMeets.chk k (⟨⟨a0, a1⟩, ⟨a2, a3⟩, ⟨a4, a5⟩, ⟨a6, a7⟩, a8⟩ : S65) (⟨⟨g0, g1⟩, ⟨g2, g3⟩, ⟨g4, g5⟩, ⟨g6, g7⟩, g8⟩ : S65) (⟨⟨m1, m2⟩, ⟨m3, m4⟩, ⟨m5, m6⟩, ⟨m7, m8⟩, m9⟩ : S65) m0 (out.drop ii) = some ()))
    case atStart => exact ⟨0, rfl, Nat.zero_le _, by omega, HL, EB, HCk⟩
    case round =>
      clear HL EB HCk
      obtain ⟨ii, rfl, hii, hg, HL, EB, HCk⟩ := hrel
      have hm6 : out.length ≤ 9223372036854775807 := (Kd.N_reads' HL.out).2.2.2.1
      by_cases hlt : ii < out.length
      · have hltz : (ii : Int) < (out.length : Int) := by omega
        have hl3 : out.length = 3 := by rw [hout]; rfl
        have hltz3 : (ii : Int) < 3 := by omega
        have hi0 : (0 : Int) ≤ (ii : Int) := by omega
        obtain ⟨ad, Ap, cp, e, hx0, hx1, hx2, hx3, hx4, hx5, hx6, hl6, hc6⟩ := at_T71 (Kd.N_reads' HL.out).2.2 (ii : Int) hi0 hltz
        have A2 := HCk.out
        rw [List.drop_eq_getElem_cons hlt, laws_FnMeets.chk, ← gD out z71 ii hlt] at A2
        change (laws_FnMeets.two k (⟨⟨a0, a1⟩, ⟨a2, a3⟩, ⟨a4, a5⟩, ⟨a6, a7⟩, a8⟩ : S65) (⟨⟨g0, g1⟩, ⟨g2, g3⟩, ⟨g4, g5⟩, ⟨g6, g7⟩, g8⟩ : S65) (rd_T71 out (ii : Int))).bind _ = some () at A2
        obtain ⟨bt, ht, A3⟩ := Option.bind_eq_some_iff.mp A2
        obtain ⟨bs, hs, A4⟩ := Option.bind_eq_some_iff.mp A3
        obtain ⟨rfl, A6⟩ := ifB' A4
        have HC2 := Aside0.mk A6
        have HSel := Aside0.mk hs
        unfold laws_FnMeets.two at ht
        obtain ⟨ba, hba, ht2⟩ := Option.bind_eq_some_iff.mp ht
        have HBa : Aside0 (impl_Holds.f k a0 a1 a2 a3 a4 a5 a6 a7 a8 (rd_T71 out (ii : Int)).f0 (rd_T71 out (ii : Int)).f1 (rd_T71 out (ii : Int)).f2 (rd_T71 out (ii : Int)).f3 (rd_T71 out (ii : Int)).f4 (rd_T71 out (ii : Int)).f5 (rd_T71 out (ii : Int)).f6 = some ba) := ⟨hba⟩
        clear A2 A3 A4 A6 hs ht hba HCk
        cases e.symm
        simp only [Int.toNat_natCast] at hx0 hx1 hx2 hx3 hx4 hx5 hx6
        have HP6 := Aside0.mk hc6
        have HPl := Aside0.mk hl6
        clear hc6 hl6
        obtain rfl : bt = false := (Option.some.inj ((if_neg (by simpa using em)).symm.trans HSel.out)).symm
        go_wp2
        have B3w := blk_b B36.out EB.out
        have B4w := blk_b B46.out EB.out
        have B5w := blk_b B56.out EB.out
        cases ba
        case true =>
          have HBb : Aside0 (impl_Holds.f k g0 g1 g2 g3 g4 g5 g6 g7 g8 (rd_T71 out (ii : Int)).f0 (rd_T71 out (ii : Int)).f1 (rd_T71 out (ii : Int)).f2 (rd_T71 out (ii : Int)).f3 (rd_T71 out (ii : Int)).f4 (rd_T71 out (ii : Int)).f5 (rd_T71 out (ii : Int)).f6 = some false) := ⟨(if_pos rfl).symm.trans ht2⟩
          clear ht2
          refine rg_start (n := 15) (S := fun w' => w'.cell? ⟨b3, 0, none⟩ = some (.int .i64 a0) ∧ w'.cell? ⟨b3, 1, none⟩ = some (.int .i64 a1) ∧ w'.cell? ⟨b3, 2, none⟩ = some (.int .i64 a2) ∧ w'.cell? ⟨b3, 3, none⟩ = some (.int .i64 a3) ∧ w'.cell? ⟨b3, 4, none⟩ = some (.int .i64 a4) ∧ w'.cell? ⟨b3, 5, none⟩ = some (.int .i64 a5) ∧ w'.cell? ⟨b3, 6, none⟩ = some (.int .i64 a6) ∧ w'.cell? ⟨b3, 7, none⟩ = some (.int .i64 a7) ∧ w'.cell? ⟨b3, 8, none⟩ = some (.int .i64 a8) ∧ w'.cell? ⟨b4, 0, none⟩ = some (.int .i64 g0) ∧ w'.cell? ⟨b4, 1, none⟩ = some (.int .i64 g1) ∧ w'.cell? ⟨b4, 2, none⟩ = some (.int .i64 g2) ∧ w'.cell? ⟨b4, 3, none⟩ = some (.int .i64 g3) ∧ w'.cell? ⟨b4, 4, none⟩ = some (.int .i64 g4) ∧ w'.cell? ⟨b4, 5, none⟩ = some (.int .i64 g5) ∧ w'.cell? ⟨b4, 6, none⟩ = some (.int .i64 g6) ∧ w'.cell? ⟨b4, 7, none⟩ = some (.int .i64 g7) ∧ w'.cell? ⟨b4, 8, none⟩ = some (.int .i64 g8) ∧ w'.cell? ⟨b5, 0, none⟩ = some (.int .i64 m0) ∧ w'.cell? ⟨b5, 1, none⟩ = some (.int .i64 m1) ∧ w'.cell? ⟨b5, 2, none⟩ = some (.int .i64 m2) ∧ w'.cell? ⟨b5, 3, none⟩ = some (.int .i64 m3) ∧ w'.cell? ⟨b5, 4, none⟩ = some (.int .i64 m4) ∧ w'.cell? ⟨b5, 5, none⟩ = some (.int .i64 m5) ∧ w'.cell? ⟨b5, 6, none⟩ = some (.int .i64 m6) ∧ w'.cell? ⟨b5, 7, none⟩ = some (.int .i64 m7) ∧ w'.cell? ⟨b5, 8, none⟩ = some (.int .i64 m8) ∧ w'.cell? ⟨b5, 9, none⟩ = some (.int .i64 m9) ∧ w'.cell? (ad.add (ii * 7)) = some (.int .i64 (rd_T71 out (ii : Int)).f0) ∧ w'.cell? ⟨(ad.add (ii * 7)).block, (ad.add (ii * 7)).off + 1, none⟩ = some (.int .i64 (rd_T71 out (ii : Int)).f1) ∧ w'.cell? ⟨(ad.add (ii * 7)).block, (ad.add (ii * 7)).off + 2, none⟩ = some (.int .i64 (rd_T71 out (ii : Int)).f2) ∧ w'.cell? ⟨(ad.add (ii * 7)).block, (ad.add (ii * 7)).off + 3, none⟩ = some (.int .i64 (rd_T71 out (ii : Int)).f3) ∧ w'.cell? ⟨(ad.add (ii * 7)).block, (ad.add (ii * 7)).off + 4, none⟩ = some (.int .i64 (rd_T71 out (ii : Int)).f4) ∧ w'.cell? ⟨(ad.add (ii * 7)).block, (ad.add (ii * 7)).off + 5, none⟩ = some (.int .i64 (rd_T71 out (ii : Int)).f5) ∧ w'.cell? ⟨(ad.add (ii * 7)).block, (ad.add (ii * 7)).off + 6, none⟩ = some (.slice Ap (rd_T71 out (ii : Int)).f6.length cp)) #[false, false, false, false, false, false, false, false, false, false, false, false, false, false, false] (fun W' hb => ⟨cB hb ((blk_cell B3w 0).trans rfl), cB hb ((blk_cell B3w 1).trans rfl), cB hb ((blk_cell B3w 2).trans rfl), cB hb ((blk_cell B3w 3).trans rfl), cB hb ((blk_cell B3w 4).trans rfl), cB hb ((blk_cell B3w 5).trans rfl), cB hb ((blk_cell B3w 6).trans rfl), cB hb ((blk_cell B3w 7).trans rfl), cB hb ((blk_cell B3w 8).trans rfl), cB hb ((blk_cell B4w 0).trans rfl), cB hb ((blk_cell B4w 1).trans rfl), cB hb ((blk_cell B4w 2).trans rfl), cB hb ((blk_cell B4w 3).trans rfl), cB hb ((blk_cell B4w 4).trans rfl), cB hb ((blk_cell B4w 5).trans rfl), cB hb ((blk_cell B4w 6).trans rfl), cB hb ((blk_cell B4w 7).trans rfl), cB hb ((blk_cell B4w 8).trans rfl), cB hb ((blk_cell B5w 0).trans rfl), cB hb ((blk_cell B5w 1).trans rfl), cB hb ((blk_cell B5w 2).trans rfl), cB hb ((blk_cell B5w 3).trans rfl), cB hb ((blk_cell B5w 4).trans rfl), cB hb ((blk_cell B5w 5).trans rfl), cB hb ((blk_cell B5w 6).trans rfl), cB hb ((blk_cell B5w 7).trans rfl), cB hb ((blk_cell B5w 8).trans rfl), cB hb ((blk_cell B5w 9).trans rfl), cB hb hx0, cB hb hx1, cB hb hx2, cB hb hx3, cB hb hx4, cB hb hx5, cB hb hx6⟩) (fun w8 hb hH => ?_)
          have n0 := Aside0.mk (below_then EB.out EB.out.size hb); have n1 := Aside0.mk (Kd.N_below HL.out hb); have n2 := Aside0.mk (Kd.C_below HP6.out hb); clear EB HL HP6; have EB := n0; have HL := n1; have HP6 := n2; clear n0 n1 n2
          clear hb
          refine pz 1 (some 81) #[false, true, false, false, false, false, false, false, false, false, false, false, false, false, false] ?_
          refine pz 2 (some 82) #[false, true, true, false, false, false, false, false, false, false, false, false, false, false, false] ?_
          refine pz 3 (some 83) #[false, true, true, true, false, false, false, false, false, false, false, false, false, false, false] ?_
          refine tz 0 (some 80) #[true, true, true, true, false, false, false, false, false, false, false, false, false, false, false] hH ?_
          refine tz 4 (some 84) #[true, true, true, true, true, false, false, false, false, false, false, false, false, false, false] hH ?_
          refine one_ (i := 5) (N := some 85) #[true, true, true, true, true, true, false, false, false, false, false, false, false, false, false] rfl rfl (by kernel_rfl) (by decide) (fun K hK => ?_)
          refine goes_ Try.func50 (by kernel_rfl) rfl #[.agg #[.int .i64 a0, .int .i64 a1, .int .i64 a2, .int .i64 a3, .int .i64 a4, .int .i64 a5, .int .i64 a6, .int .i64 a7, .int .i64 a8], .agg #[.int .i64 (rd_T71 out (ii : Int)).f0, .int .i64 (rd_T71 out (ii : Int)).f1, .int .i64 (rd_T71 out (ii : Int)).f2, .int .i64 (rd_T71 out (ii : Int)).f3, .int .i64 (rd_T71 out (ii : Int)).f4, .int .i64 (rd_T71 out (ii : Int)).f5, .slice Ap (rd_T71 out (ii : Int)).f6.length cp]] (by rfl) rfl rfl (by (try simp only [List.map_toArray, List.map_cons, List.map_nil]); first | done | (go_simp; done) | rfl | (go_simp; rfl)) ?_
          with_reducible refine (impl_Holds.calls k a0 a1 a2 a3 a4 a5 a6 a7 a8 _ _ _ _ _ _ _ _ _ _ _ HP6.out HPl.out HBa.out).mono ?_
          rintro e wq ⟨rfl, hb⟩
          refine ⟨_, rfl, ?_⟩
          have n0 := Aside0.mk (below_then EB.out EB.out.size hb); have n1 := Aside0.mk (Kd.N_below HL.out hb); have n2 := Aside0.mk (Kd.C_below HP6.out hb); clear EB HL HP6; have EB := n0; have HL := n1; have HP6 := n2; clear n0 n1 n2
          refine hK.out _ _ ⟨cB hb hH.1, cB hb hH.2.1, cB hb hH.2.2.1, cB hb hH.2.2.2.1, cB hb hH.2.2.2.2.1, cB hb hH.2.2.2.2.2.1, cB hb hH.2.2.2.2.2.2.1, cB hb hH.2.2.2.2.2.2.2.1, cB hb hH.2.2.2.2.2.2.2.2.1, cB hb hH.2.2.2.2.2.2.2.2.2.1, cB hb hH.2.2.2.2.2.2.2.2.2.2.1, cB hb hH.2.2.2.2.2.2.2.2.2.2.2.1, cB hb hH.2.2.2.2.2.2.2.2.2.2.2.2.1, cB hb hH.2.2.2.2.2.2.2.2.2.2.2.2.2.1, cB hb hH.2.2.2.2.2.2.2.2.2.2.2.2.2.2.1, cB hb hH.2.2.2.2.2.2.2.2.2.2.2.2.2.2.2.1, cB hb hH.2.2.2.2.2.2.2.2.2.2.2.2.2.2.2.2.1, cB hb hH.2.2.2.2.2.2.2.2.2.2.2.2.2.2.2.2.2.1, cB hb hH.2.2.2.2.2.2.2.2.2.2.2.2.2.2.2.2.2.2.1, cB hb hH.2.2.2.2.2.2.2.2.2.2.2.2.2.2.2.2.2.2.2.1, cB hb hH.2.2.2.2.2.2.2.2.2.2.2.2.2.2.2.2.2.2.2.2.1, cB hb hH.2.2.2.2.2.2.2.2.2.2.2.2.2.2.2.2.2.2.2.2.2.1, cB hb hH.2.2.2.2.2.2.2.2.2.2.2.2.2.2.2.2.2.2.2.2.2.2.1, cB hb hH.2.2.2.2.2.2.2.2.2.2.2.2.2.2.2.2.2.2.2.2.2.2.2.1, cB hb hH.2.2.2.2.2.2.2.2.2.2.2.2.2.2.2.2.2.2.2.2.2.2.2.2.1, cB hb hH.2.2.2.2.2.2.2.2.2.2.2.2.2.2.2.2.2.2.2.2.2.2.2.2.2.1, cB hb hH.2.2.2.2.2.2.2.2.2.2.2.2.2.2.2.2.2.2.2.2.2.2.2.2.2.2.1, cB hb hH.2.2.2.2.2.2.2.2.2.2.2.2.2.2.2.2.2.2.2.2.2.2.2.2.2.2.2.1, cB hb hH.2.2.2.2.2.2.2.2.2.2.2.2.2.2.2.2.2.2.2.2.2.2.2.2.2.2.2.2.1, cB hb hH.2.2.2.2.2.2.2.2.2.2.2.2.2.2.2.2.2.2.2.2.2.2.2.2.2.2.2.2.2.1, cB hb hH.2.2.2.2.2.2.2.2.2.2.2.2.2.2.2.2.2.2.2.2.2.2.2.2.2.2.2.2.2.2.1, cB hb hH.2.2.2.2.2.2.2.2.2.2.2.2.2.2.2.2.2.2.2.2.2.2.2.2.2.2.2.2.2.2.2.1, cB hb hH.2.2.2.2.2.2.2.2.2.2.2.2.2.2.2.2.2.2.2.2.2.2.2.2.2.2.2.2.2.2.2.2.1, cB hb hH.2.2.2.2.2.2.2.2.2.2.2.2.2.2.2.2.2.2.2.2.2.2.2.2.2.2.2.2.2.2.2.2.2.1, cB hb hH.2.2.2.2.2.2.2.2.2.2.2.2.2.2.2.2.2.2.2.2.2.2.2.2.2.2.2.2.2.2.2.2.2.2⟩ (fun hH2 => ?_)
          clear hK K hH
          have hH := hH2
          clear hH2 hb
          refine norm_ (a' := ?_) ?_ ?_
          rotate_left
          · (show Act.put _ (some 85) _ = _; simp only [Act.put, List.setIfInBounds_toArray, List.set_cons_zero, List.set_cons_succ, i64_w, i32_w]; rfl)
          refine pz 6 (some 86) #[true, true, true, true, true, true, true, false, false, false, false, false, false, false, false] ?_
          refine pz 8 (some 88) #[true, true, true, true, true, true, true, false, true, false, false, false, false, false, false] ?_
          refine pz 9 (some 89) #[true, true, true, true, true, true, true, false, true, true, false, false, false, false, false] ?_
          refine pz 10 (some 90) #[true, true, true, true, true, true, true, false, true, true, true, false, false, false, false] ?_
          refine tz 7 (some 87) #[true, true, true, true, true, true, true, true, true, true, true, false, false, false, false] hH ?_
          refine tz 11 (some 91) #[true, true, true, true, true, true, true, true, true, true, true, true, false, false, false] hH ?_
          refine one_ (i := 12) (N := some 92) #[true, true, true, true, true, true, true, true, true, true, true, true, true, false, false] rfl rfl (by kernel_rfl) (by decide) (fun K hK => ?_)
          refine goes_ Try.func50 (by kernel_rfl) rfl #[.agg #[.int .i64 g0, .int .i64 g1, .int .i64 g2, .int .i64 g3, .int .i64 g4, .int .i64 g5, .int .i64 g6, .int .i64 g7, .int .i64 g8], .agg #[.int .i64 (rd_T71 out (ii : Int)).f0, .int .i64 (rd_T71 out (ii : Int)).f1, .int .i64 (rd_T71 out (ii : Int)).f2, .int .i64 (rd_T71 out (ii : Int)).f3, .int .i64 (rd_T71 out (ii : Int)).f4, .int .i64 (rd_T71 out (ii : Int)).f5, .slice Ap (rd_T71 out (ii : Int)).f6.length cp]] (by rfl) rfl rfl (by (try simp only [List.map_toArray, List.map_cons, List.map_nil]); first | done | (go_simp; done) | rfl | (go_simp; rfl)) ?_
          with_reducible refine (impl_Holds.calls k g0 g1 g2 g3 g4 g5 g6 g7 g8 _ _ _ _ _ _ _ _ _ _ _ HP6.out HPl.out HBb.out).mono ?_
          rintro e wq ⟨rfl, hb⟩
          refine ⟨_, rfl, ?_⟩
          have n0 := Aside0.mk (below_then EB.out EB.out.size hb); have n1 := Aside0.mk (Kd.N_below HL.out hb); have n2 := Aside0.mk (Kd.C_below HP6.out hb); clear EB HL HP6; have EB := n0; have HL := n1; have HP6 := n2; clear n0 n1 n2
          refine hK.out _ _ ⟨cB hb hH.1, cB hb hH.2.1, cB hb hH.2.2.1, cB hb hH.2.2.2.1, cB hb hH.2.2.2.2.1, cB hb hH.2.2.2.2.2.1, cB hb hH.2.2.2.2.2.2.1, cB hb hH.2.2.2.2.2.2.2.1, cB hb hH.2.2.2.2.2.2.2.2.1, cB hb hH.2.2.2.2.2.2.2.2.2.1, cB hb hH.2.2.2.2.2.2.2.2.2.2.1, cB hb hH.2.2.2.2.2.2.2.2.2.2.2.1, cB hb hH.2.2.2.2.2.2.2.2.2.2.2.2.1, cB hb hH.2.2.2.2.2.2.2.2.2.2.2.2.2.1, cB hb hH.2.2.2.2.2.2.2.2.2.2.2.2.2.2.1, cB hb hH.2.2.2.2.2.2.2.2.2.2.2.2.2.2.2.1, cB hb hH.2.2.2.2.2.2.2.2.2.2.2.2.2.2.2.2.1, cB hb hH.2.2.2.2.2.2.2.2.2.2.2.2.2.2.2.2.2.1, cB hb hH.2.2.2.2.2.2.2.2.2.2.2.2.2.2.2.2.2.2.1, cB hb hH.2.2.2.2.2.2.2.2.2.2.2.2.2.2.2.2.2.2.2.1, cB hb hH.2.2.2.2.2.2.2.2.2.2.2.2.2.2.2.2.2.2.2.2.1, cB hb hH.2.2.2.2.2.2.2.2.2.2.2.2.2.2.2.2.2.2.2.2.2.1, cB hb hH.2.2.2.2.2.2.2.2.2.2.2.2.2.2.2.2.2.2.2.2.2.2.1, cB hb hH.2.2.2.2.2.2.2.2.2.2.2.2.2.2.2.2.2.2.2.2.2.2.2.1, cB hb hH.2.2.2.2.2.2.2.2.2.2.2.2.2.2.2.2.2.2.2.2.2.2.2.2.1, cB hb hH.2.2.2.2.2.2.2.2.2.2.2.2.2.2.2.2.2.2.2.2.2.2.2.2.2.1, cB hb hH.2.2.2.2.2.2.2.2.2.2.2.2.2.2.2.2.2.2.2.2.2.2.2.2.2.2.1, cB hb hH.2.2.2.2.2.2.2.2.2.2.2.2.2.2.2.2.2.2.2.2.2.2.2.2.2.2.2.1, cB hb hH.2.2.2.2.2.2.2.2.2.2.2.2.2.2.2.2.2.2.2.2.2.2.2.2.2.2.2.2.1, cB hb hH.2.2.2.2.2.2.2.2.2.2.2.2.2.2.2.2.2.2.2.2.2.2.2.2.2.2.2.2.2.1, cB hb hH.2.2.2.2.2.2.2.2.2.2.2.2.2.2.2.2.2.2.2.2.2.2.2.2.2.2.2.2.2.2.1, cB hb hH.2.2.2.2.2.2.2.2.2.2.2.2.2.2.2.2.2.2.2.2.2.2.2.2.2.2.2.2.2.2.2.1, cB hb hH.2.2.2.2.2.2.2.2.2.2.2.2.2.2.2.2.2.2.2.2.2.2.2.2.2.2.2.2.2.2.2.2.1, cB hb hH.2.2.2.2.2.2.2.2.2.2.2.2.2.2.2.2.2.2.2.2.2.2.2.2.2.2.2.2.2.2.2.2.2.1, cB hb hH.2.2.2.2.2.2.2.2.2.2.2.2.2.2.2.2.2.2.2.2.2.2.2.2.2.2.2.2.2.2.2.2.2.2⟩ (fun hH2 => ?_)
          clear hK K hH
          have hH := hH2
          clear hH2 hb
          refine norm_ (a' := ?_) ?_ ?_
          rotate_left
          · (show Act.put _ (some 92) _ = _; simp only [Act.put, List.setIfInBounds_toArray, List.set_cons_zero, List.set_cons_succ, i64_w, i32_w]; rfl)
          refine pz 13 (some 93) #[true, true, true, true, true, true, true, true, true, true, true, true, true, true, false] ?_
          refine pz 14 (some 10) #[true, true, true, true, true, true, true, true, true, true, true, true, true, true, true] ?_
          refine done_ (by kernel_rfl) ?_
          clear B3w B4w B5w
          go_wp2
          refine rg_start (n := 14) (S := fun w' => w'.cell? ⟨b3, 0, none⟩ = some (.int .i64 a0) ∧ w'.cell? ⟨b3, 1, none⟩ = some (.int .i64 a1) ∧ w'.cell? ⟨b3, 2, none⟩ = some (.int .i64 a2) ∧ w'.cell? ⟨b3, 3, none⟩ = some (.int .i64 a3) ∧ w'.cell? ⟨b3, 4, none⟩ = some (.int .i64 a4) ∧ w'.cell? ⟨b3, 5, none⟩ = some (.int .i64 a5) ∧ w'.cell? ⟨b3, 6, none⟩ = some (.int .i64 a6) ∧ w'.cell? ⟨b3, 7, none⟩ = some (.int .i64 a7) ∧ w'.cell? ⟨b3, 8, none⟩ = some (.int .i64 a8) ∧ w'.cell? ⟨b4, 0, none⟩ = some (.int .i64 g0) ∧ w'.cell? ⟨b4, 1, none⟩ = some (.int .i64 g1) ∧ w'.cell? ⟨b4, 2, none⟩ = some (.int .i64 g2) ∧ w'.cell? ⟨b4, 3, none⟩ = some (.int .i64 g3) ∧ w'.cell? ⟨b4, 4, none⟩ = some (.int .i64 g4) ∧ w'.cell? ⟨b4, 5, none⟩ = some (.int .i64 g5) ∧ w'.cell? ⟨b4, 6, none⟩ = some (.int .i64 g6) ∧ w'.cell? ⟨b4, 7, none⟩ = some (.int .i64 g7) ∧ w'.cell? ⟨b4, 8, none⟩ = some (.int .i64 g8) ∧ w'.cell? ⟨b5, 0, none⟩ = some (.int .i64 m0) ∧ w'.cell? ⟨b5, 1, none⟩ = some (.int .i64 m1) ∧ w'.cell? ⟨b5, 2, none⟩ = some (.int .i64 m2) ∧ w'.cell? ⟨b5, 3, none⟩ = some (.int .i64 m3) ∧ w'.cell? ⟨b5, 4, none⟩ = some (.int .i64 m4) ∧ w'.cell? ⟨b5, 5, none⟩ = some (.int .i64 m5) ∧ w'.cell? ⟨b5, 6, none⟩ = some (.int .i64 m6) ∧ w'.cell? ⟨b5, 7, none⟩ = some (.int .i64 m7) ∧ w'.cell? ⟨b5, 8, none⟩ = some (.int .i64 m8) ∧ w'.cell? ⟨b5, 9, none⟩ = some (.int .i64 m9) ∧ w'.cell? (ad.add (ii * 7)) = some (.int .i64 (rd_T71 out (ii : Int)).f0) ∧ w'.cell? ⟨(ad.add (ii * 7)).block, (ad.add (ii * 7)).off + 1, none⟩ = some (.int .i64 (rd_T71 out (ii : Int)).f1) ∧ w'.cell? ⟨(ad.add (ii * 7)).block, (ad.add (ii * 7)).off + 2, none⟩ = some (.int .i64 (rd_T71 out (ii : Int)).f2) ∧ w'.cell? ⟨(ad.add (ii * 7)).block, (ad.add (ii * 7)).off + 3, none⟩ = some (.int .i64 (rd_T71 out (ii : Int)).f3) ∧ w'.cell? ⟨(ad.add (ii * 7)).block, (ad.add (ii * 7)).off + 4, none⟩ = some (.int .i64 (rd_T71 out (ii : Int)).f4) ∧ w'.cell? ⟨(ad.add (ii * 7)).block, (ad.add (ii * 7)).off + 5, none⟩ = some (.int .i64 (rd_T71 out (ii : Int)).f5) ∧ w'.cell? ⟨(ad.add (ii * 7)).block, (ad.add (ii * 7)).off + 6, none⟩ = some (.slice Ap (rd_T71 out (ii : Int)).f6.length cp)) #[false, false, false, false, false, false, false, false, false, false, false, false, false, false] (fun W' hb => ⟨cB hb hH.1, cB hb hH.2.1, cB hb hH.2.2.1, cB hb hH.2.2.2.1, cB hb hH.2.2.2.2.1, cB hb hH.2.2.2.2.2.1, cB hb hH.2.2.2.2.2.2.1, cB hb hH.2.2.2.2.2.2.2.1, cB hb hH.2.2.2.2.2.2.2.2.1, cB hb hH.2.2.2.2.2.2.2.2.2.1, cB hb hH.2.2.2.2.2.2.2.2.2.2.1, cB hb hH.2.2.2.2.2.2.2.2.2.2.2.1, cB hb hH.2.2.2.2.2.2.2.2.2.2.2.2.1, cB hb hH.2.2.2.2.2.2.2.2.2.2.2.2.2.1, cB hb hH.2.2.2.2.2.2.2.2.2.2.2.2.2.2.1, cB hb hH.2.2.2.2.2.2.2.2.2.2.2.2.2.2.2.1, cB hb hH.2.2.2.2.2.2.2.2.2.2.2.2.2.2.2.2.1, cB hb hH.2.2.2.2.2.2.2.2.2.2.2.2.2.2.2.2.2.1, cB hb hH.2.2.2.2.2.2.2.2.2.2.2.2.2.2.2.2.2.2.1, cB hb hH.2.2.2.2.2.2.2.2.2.2.2.2.2.2.2.2.2.2.2.1, cB hb hH.2.2.2.2.2.2.2.2.2.2.2.2.2.2.2.2.2.2.2.2.1, cB hb hH.2.2.2.2.2.2.2.2.2.2.2.2.2.2.2.2.2.2.2.2.2.1, cB hb hH.2.2.2.2.2.2.2.2.2.2.2.2.2.2.2.2.2.2.2.2.2.2.1, cB hb hH.2.2.2.2.2.2.2.2.2.2.2.2.2.2.2.2.2.2.2.2.2.2.2.1, cB hb hH.2.2.2.2.2.2.2.2.2.2.2.2.2.2.2.2.2.2.2.2.2.2.2.2.1, cB hb hH.2.2.2.2.2.2.2.2.2.2.2.2.2.2.2.2.2.2.2.2.2.2.2.2.2.1, cB hb hH.2.2.2.2.2.2.2.2.2.2.2.2.2.2.2.2.2.2.2.2.2.2.2.2.2.2.1, cB hb hH.2.2.2.2.2.2.2.2.2.2.2.2.2.2.2.2.2.2.2.2.2.2.2.2.2.2.2.1, cB hb hH.2.2.2.2.2.2.2.2.2.2.2.2.2.2.2.2.2.2.2.2.2.2.2.2.2.2.2.2.1, cB hb hH.2.2.2.2.2.2.2.2.2.2.2.2.2.2.2.2.2.2.2.2.2.2.2.2.2.2.2.2.2.1, cB hb hH.2.2.2.2.2.2.2.2.2.2.2.2.2.2.2.2.2.2.2.2.2.2.2.2.2.2.2.2.2.2.1, cB hb hH.2.2.2.2.2.2.2.2.2.2.2.2.2.2.2.2.2.2.2.2.2.2.2.2.2.2.2.2.2.2.2.1, cB hb hH.2.2.2.2.2.2.2.2.2.2.2.2.2.2.2.2.2.2.2.2.2.2.2.2.2.2.2.2.2.2.2.2.1, cB hb hH.2.2.2.2.2.2.2.2.2.2.2.2.2.2.2.2.2.2.2.2.2.2.2.2.2.2.2.2.2.2.2.2.2.1, cB hb hH.2.2.2.2.2.2.2.2.2.2.2.2.2.2.2.2.2.2.2.2.2.2.2.2.2.2.2.2.2.2.2.2.2.2⟩) (fun w8 hb hH2 => ?_)
          have n0 := Aside0.mk (below_then EB.out EB.out.size hb); have n1 := Aside0.mk (Kd.N_below HL.out hb); have n2 := Aside0.mk (Kd.C_below HP6.out hb); clear EB HL HP6; have EB := n0; have HL := n1; have HP6 := n2; clear n0 n1 n2
          clear hb hH
          have hH := hH2
          clear hH2
          refine pz 0 (some 94) #[true, false, false, false, false, false, false, false, false, false, false, false, false, false] ?_
          refine pz 1 (some 95) #[true, true, false, false, false, false, false, false, false, false, false, false, false, false] ?_
          refine tz 2 (some 96) #[true, true, true, false, false, false, false, false, false, false, false, false, false, false] hH ?_
          refine pz 3 (some 97) #[true, true, true, true, false, false, false, false, false, false, false, false, false, false] ?_
          refine pz 4 (some 98) #[true, true, true, true, true, false, false, false, false, false, false, false, false, false] ?_
          refine pu 5 (some 99) #[true, true, true, true, true, true, false, false, false, false, false, false, false, false] ?_
          refine pu 6 (some 100) #[true, true, true, true, true, true, true, false, false, false, false, false, false, false] ?_
          refine pu 7 (some 101) #[true, true, true, true, true, true, true, true, false, false, false, false, false, false] ?_
          refine pu 8 (some 102) #[true, true, true, true, true, true, true, true, true, false, false, false, false, false] ?_
          refine pu 9 (some 103) #[true, true, true, true, true, true, true, true, true, true, false, false, false, false] ?_
          refine pu 10 (some 104) #[true, true, true, true, true, true, true, true, true, true, true, false, false, false] ?_
          refine pu 11 (some 105) #[true, true, true, true, true, true, true, true, true, true, true, true, false, false] ?_
          refine pz 12 (some 106) #[true, true, true, true, true, true, true, true, true, true, true, true, true, false] ?_
          refine pz 13 (some 107) #[true, true, true, true, true, true, true, true, true, true, true, true, true, true] ?_
          refine done_ (by kernel_rfl) ?_
          go_wp2
          go_roundg (out.length - (ii + 1))
          case measure => omega
          case rel => exact ⟨ii + 1, by go_num, by omega, by omega, HL, EB, HC2⟩
        case false =>
          clear ht2
          refine rg_start (n := 15) (S := fun w' => w'.cell? ⟨b3, 0, none⟩ = some (.int .i64 a0) ∧ w'.cell? ⟨b3, 1, none⟩ = some (.int .i64 a1) ∧ w'.cell? ⟨b3, 2, none⟩ = some (.int .i64 a2) ∧ w'.cell? ⟨b3, 3, none⟩ = some (.int .i64 a3) ∧ w'.cell? ⟨b3, 4, none⟩ = some (.int .i64 a4) ∧ w'.cell? ⟨b3, 5, none⟩ = some (.int .i64 a5) ∧ w'.cell? ⟨b3, 6, none⟩ = some (.int .i64 a6) ∧ w'.cell? ⟨b3, 7, none⟩ = some (.int .i64 a7) ∧ w'.cell? ⟨b3, 8, none⟩ = some (.int .i64 a8) ∧ w'.cell? ⟨b4, 0, none⟩ = some (.int .i64 g0) ∧ w'.cell? ⟨b4, 1, none⟩ = some (.int .i64 g1) ∧ w'.cell? ⟨b4, 2, none⟩ = some (.int .i64 g2) ∧ w'.cell? ⟨b4, 3, none⟩ = some (.int .i64 g3) ∧ w'.cell? ⟨b4, 4, none⟩ = some (.int .i64 g4) ∧ w'.cell? ⟨b4, 5, none⟩ = some (.int .i64 g5) ∧ w'.cell? ⟨b4, 6, none⟩ = some (.int .i64 g6) ∧ w'.cell? ⟨b4, 7, none⟩ = some (.int .i64 g7) ∧ w'.cell? ⟨b4, 8, none⟩ = some (.int .i64 g8) ∧ w'.cell? ⟨b5, 0, none⟩ = some (.int .i64 m0) ∧ w'.cell? ⟨b5, 1, none⟩ = some (.int .i64 m1) ∧ w'.cell? ⟨b5, 2, none⟩ = some (.int .i64 m2) ∧ w'.cell? ⟨b5, 3, none⟩ = some (.int .i64 m3) ∧ w'.cell? ⟨b5, 4, none⟩ = some (.int .i64 m4) ∧ w'.cell? ⟨b5, 5, none⟩ = some (.int .i64 m5) ∧ w'.cell? ⟨b5, 6, none⟩ = some (.int .i64 m6) ∧ w'.cell? ⟨b5, 7, none⟩ = some (.int .i64 m7) ∧ w'.cell? ⟨b5, 8, none⟩ = some (.int .i64 m8) ∧ w'.cell? ⟨b5, 9, none⟩ = some (.int .i64 m9) ∧ w'.cell? (ad.add (ii * 7)) = some (.int .i64 (rd_T71 out (ii : Int)).f0) ∧ w'.cell? ⟨(ad.add (ii * 7)).block, (ad.add (ii * 7)).off + 1, none⟩ = some (.int .i64 (rd_T71 out (ii : Int)).f1) ∧ w'.cell? ⟨(ad.add (ii * 7)).block, (ad.add (ii * 7)).off + 2, none⟩ = some (.int .i64 (rd_T71 out (ii : Int)).f2) ∧ w'.cell? ⟨(ad.add (ii * 7)).block, (ad.add (ii * 7)).off + 3, none⟩ = some (.int .i64 (rd_T71 out (ii : Int)).f3) ∧ w'.cell? ⟨(ad.add (ii * 7)).block, (ad.add (ii * 7)).off + 4, none⟩ = some (.int .i64 (rd_T71 out (ii : Int)).f4) ∧ w'.cell? ⟨(ad.add (ii * 7)).block, (ad.add (ii * 7)).off + 5, none⟩ = some (.int .i64 (rd_T71 out (ii : Int)).f5) ∧ w'.cell? ⟨(ad.add (ii * 7)).block, (ad.add (ii * 7)).off + 6, none⟩ = some (.slice Ap (rd_T71 out (ii : Int)).f6.length cp)) #[false, false, false, false, false, false, false, false, false, false, false, false, false, false, false] (fun W' hb => ⟨cB hb ((blk_cell B3w 0).trans rfl), cB hb ((blk_cell B3w 1).trans rfl), cB hb ((blk_cell B3w 2).trans rfl), cB hb ((blk_cell B3w 3).trans rfl), cB hb ((blk_cell B3w 4).trans rfl), cB hb ((blk_cell B3w 5).trans rfl), cB hb ((blk_cell B3w 6).trans rfl), cB hb ((blk_cell B3w 7).trans rfl), cB hb ((blk_cell B3w 8).trans rfl), cB hb ((blk_cell B4w 0).trans rfl), cB hb ((blk_cell B4w 1).trans rfl), cB hb ((blk_cell B4w 2).trans rfl), cB hb ((blk_cell B4w 3).trans rfl), cB hb ((blk_cell B4w 4).trans rfl), cB hb ((blk_cell B4w 5).trans rfl), cB hb ((blk_cell B4w 6).trans rfl), cB hb ((blk_cell B4w 7).trans rfl), cB hb ((blk_cell B4w 8).trans rfl), cB hb ((blk_cell B5w 0).trans rfl), cB hb ((blk_cell B5w 1).trans rfl), cB hb ((blk_cell B5w 2).trans rfl), cB hb ((blk_cell B5w 3).trans rfl), cB hb ((blk_cell B5w 4).trans rfl), cB hb ((blk_cell B5w 5).trans rfl), cB hb ((blk_cell B5w 6).trans rfl), cB hb ((blk_cell B5w 7).trans rfl), cB hb ((blk_cell B5w 8).trans rfl), cB hb ((blk_cell B5w 9).trans rfl), cB hb hx0, cB hb hx1, cB hb hx2, cB hb hx3, cB hb hx4, cB hb hx5, cB hb hx6⟩) (fun w8 hb hH => ?_)
          have n0 := Aside0.mk (below_then EB.out EB.out.size hb); have n1 := Aside0.mk (Kd.N_below HL.out hb); have n2 := Aside0.mk (Kd.C_below HP6.out hb); clear EB HL HP6; have EB := n0; have HL := n1; have HP6 := n2; clear n0 n1 n2
          clear hb
          refine pz 1 (some 81) #[false, true, false, false, false, false, false, false, false, false, false, false, false, false, false] ?_
          refine pz 2 (some 82) #[false, true, true, false, false, false, false, false, false, false, false, false, false, false, false] ?_
          refine pz 3 (some 83) #[false, true, true, true, false, false, false, false, false, false, false, false, false, false, false] ?_
          refine tz 0 (some 80) #[true, true, true, true, false, false, false, false, false, false, false, false, false, false, false] hH ?_
          refine tz 4 (some 84) #[true, true, true, true, true, false, false, false, false, false, false, false, false, false, false] hH ?_
          refine one_ (i := 5) (N := some 85) #[true, true, true, true, true, true, false, false, false, false, false, false, false, false, false] rfl rfl (by kernel_rfl) (by decide) (fun K hK => ?_)
          refine goes_ Try.func50 (by kernel_rfl) rfl #[.agg #[.int .i64 a0, .int .i64 a1, .int .i64 a2, .int .i64 a3, .int .i64 a4, .int .i64 a5, .int .i64 a6, .int .i64 a7, .int .i64 a8], .agg #[.int .i64 (rd_T71 out (ii : Int)).f0, .int .i64 (rd_T71 out (ii : Int)).f1, .int .i64 (rd_T71 out (ii : Int)).f2, .int .i64 (rd_T71 out (ii : Int)).f3, .int .i64 (rd_T71 out (ii : Int)).f4, .int .i64 (rd_T71 out (ii : Int)).f5, .slice Ap (rd_T71 out (ii : Int)).f6.length cp]] (by rfl) rfl rfl (by (try simp only [List.map_toArray, List.map_cons, List.map_nil]); first | done | (go_simp; done) | rfl | (go_simp; rfl)) ?_
          with_reducible refine (impl_Holds.calls k a0 a1 a2 a3 a4 a5 a6 a7 a8 _ _ _ _ _ _ _ _ _ _ _ HP6.out HPl.out HBa.out).mono ?_
          rintro e wq ⟨rfl, hb⟩
          refine ⟨_, rfl, ?_⟩
          have n0 := Aside0.mk (below_then EB.out EB.out.size hb); have n1 := Aside0.mk (Kd.N_below HL.out hb); have n2 := Aside0.mk (Kd.C_below HP6.out hb); clear EB HL HP6; have EB := n0; have HL := n1; have HP6 := n2; clear n0 n1 n2
          refine hK.out _ _ ⟨cB hb hH.1, cB hb hH.2.1, cB hb hH.2.2.1, cB hb hH.2.2.2.1, cB hb hH.2.2.2.2.1, cB hb hH.2.2.2.2.2.1, cB hb hH.2.2.2.2.2.2.1, cB hb hH.2.2.2.2.2.2.2.1, cB hb hH.2.2.2.2.2.2.2.2.1, cB hb hH.2.2.2.2.2.2.2.2.2.1, cB hb hH.2.2.2.2.2.2.2.2.2.2.1, cB hb hH.2.2.2.2.2.2.2.2.2.2.2.1, cB hb hH.2.2.2.2.2.2.2.2.2.2.2.2.1, cB hb hH.2.2.2.2.2.2.2.2.2.2.2.2.2.1, cB hb hH.2.2.2.2.2.2.2.2.2.2.2.2.2.2.1, cB hb hH.2.2.2.2.2.2.2.2.2.2.2.2.2.2.2.1, cB hb hH.2.2.2.2.2.2.2.2.2.2.2.2.2.2.2.2.1, cB hb hH.2.2.2.2.2.2.2.2.2.2.2.2.2.2.2.2.2.1, cB hb hH.2.2.2.2.2.2.2.2.2.2.2.2.2.2.2.2.2.2.1, cB hb hH.2.2.2.2.2.2.2.2.2.2.2.2.2.2.2.2.2.2.2.1, cB hb hH.2.2.2.2.2.2.2.2.2.2.2.2.2.2.2.2.2.2.2.2.1, cB hb hH.2.2.2.2.2.2.2.2.2.2.2.2.2.2.2.2.2.2.2.2.2.1, cB hb hH.2.2.2.2.2.2.2.2.2.2.2.2.2.2.2.2.2.2.2.2.2.2.1, cB hb hH.2.2.2.2.2.2.2.2.2.2.2.2.2.2.2.2.2.2.2.2.2.2.2.1, cB hb hH.2.2.2.2.2.2.2.2.2.2.2.2.2.2.2.2.2.2.2.2.2.2.2.2.1, cB hb hH.2.2.2.2.2.2.2.2.2.2.2.2.2.2.2.2.2.2.2.2.2.2.2.2.2.1, cB hb hH.2.2.2.2.2.2.2.2.2.2.2.2.2.2.2.2.2.2.2.2.2.2.2.2.2.2.1, cB hb hH.2.2.2.2.2.2.2.2.2.2.2.2.2.2.2.2.2.2.2.2.2.2.2.2.2.2.2.1, cB hb hH.2.2.2.2.2.2.2.2.2.2.2.2.2.2.2.2.2.2.2.2.2.2.2.2.2.2.2.2.1, cB hb hH.2.2.2.2.2.2.2.2.2.2.2.2.2.2.2.2.2.2.2.2.2.2.2.2.2.2.2.2.2.1, cB hb hH.2.2.2.2.2.2.2.2.2.2.2.2.2.2.2.2.2.2.2.2.2.2.2.2.2.2.2.2.2.2.1, cB hb hH.2.2.2.2.2.2.2.2.2.2.2.2.2.2.2.2.2.2.2.2.2.2.2.2.2.2.2.2.2.2.2.1, cB hb hH.2.2.2.2.2.2.2.2.2.2.2.2.2.2.2.2.2.2.2.2.2.2.2.2.2.2.2.2.2.2.2.2.1, cB hb hH.2.2.2.2.2.2.2.2.2.2.2.2.2.2.2.2.2.2.2.2.2.2.2.2.2.2.2.2.2.2.2.2.2.1, cB hb hH.2.2.2.2.2.2.2.2.2.2.2.2.2.2.2.2.2.2.2.2.2.2.2.2.2.2.2.2.2.2.2.2.2.2⟩ (fun hH2 => ?_)
          clear hK K hH
          have hH := hH2
          clear hH2 hb
          refine norm_ (a' := ?_) ?_ ?_
          rotate_left
          · (show Act.put _ (some 85) _ = _; simp only [Act.put, List.setIfInBounds_toArray, List.set_cons_zero, List.set_cons_succ, i64_w, i32_w]; rfl)
          refine pz 6 (some 86) #[true, true, true, true, true, true, true, false, false, false, false, false, false, false, false] ?_
          refine pu 7 (some 87) #[true, true, true, true, true, true, true, true, false, false, false, false, false, false, false] ?_
          refine pu 8 (some 88) #[true, true, true, true, true, true, true, true, true, false, false, false, false, false, false] ?_
          refine pu 9 (some 89) #[true, true, true, true, true, true, true, true, true, true, false, false, false, false, false] ?_
          refine pu 10 (some 90) #[true, true, true, true, true, true, true, true, true, true, true, false, false, false, false] ?_
          refine pu 11 (some 91) #[true, true, true, true, true, true, true, true, true, true, true, true, false, false, false] ?_
          refine pu 12 (some 92) #[true, true, true, true, true, true, true, true, true, true, true, true, true, false, false] ?_
          refine pz 13 (some 93) #[true, true, true, true, true, true, true, true, true, true, true, true, true, true, false] ?_
          refine pz 14 (some 10) #[true, true, true, true, true, true, true, true, true, true, true, true, true, true, true] ?_
          refine done_ (by kernel_rfl) ?_
          clear B3w B4w B5w
          go_wp2
          refine rg_start (n := 14) (S := fun w' => w'.cell? ⟨b3, 0, none⟩ = some (.int .i64 a0) ∧ w'.cell? ⟨b3, 1, none⟩ = some (.int .i64 a1) ∧ w'.cell? ⟨b3, 2, none⟩ = some (.int .i64 a2) ∧ w'.cell? ⟨b3, 3, none⟩ = some (.int .i64 a3) ∧ w'.cell? ⟨b3, 4, none⟩ = some (.int .i64 a4) ∧ w'.cell? ⟨b3, 5, none⟩ = some (.int .i64 a5) ∧ w'.cell? ⟨b3, 6, none⟩ = some (.int .i64 a6) ∧ w'.cell? ⟨b3, 7, none⟩ = some (.int .i64 a7) ∧ w'.cell? ⟨b3, 8, none⟩ = some (.int .i64 a8) ∧ w'.cell? ⟨b4, 0, none⟩ = some (.int .i64 g0) ∧ w'.cell? ⟨b4, 1, none⟩ = some (.int .i64 g1) ∧ w'.cell? ⟨b4, 2, none⟩ = some (.int .i64 g2) ∧ w'.cell? ⟨b4, 3, none⟩ = some (.int .i64 g3) ∧ w'.cell? ⟨b4, 4, none⟩ = some (.int .i64 g4) ∧ w'.cell? ⟨b4, 5, none⟩ = some (.int .i64 g5) ∧ w'.cell? ⟨b4, 6, none⟩ = some (.int .i64 g6) ∧ w'.cell? ⟨b4, 7, none⟩ = some (.int .i64 g7) ∧ w'.cell? ⟨b4, 8, none⟩ = some (.int .i64 g8) ∧ w'.cell? ⟨b5, 0, none⟩ = some (.int .i64 m0) ∧ w'.cell? ⟨b5, 1, none⟩ = some (.int .i64 m1) ∧ w'.cell? ⟨b5, 2, none⟩ = some (.int .i64 m2) ∧ w'.cell? ⟨b5, 3, none⟩ = some (.int .i64 m3) ∧ w'.cell? ⟨b5, 4, none⟩ = some (.int .i64 m4) ∧ w'.cell? ⟨b5, 5, none⟩ = some (.int .i64 m5) ∧ w'.cell? ⟨b5, 6, none⟩ = some (.int .i64 m6) ∧ w'.cell? ⟨b5, 7, none⟩ = some (.int .i64 m7) ∧ w'.cell? ⟨b5, 8, none⟩ = some (.int .i64 m8) ∧ w'.cell? ⟨b5, 9, none⟩ = some (.int .i64 m9) ∧ w'.cell? (ad.add (ii * 7)) = some (.int .i64 (rd_T71 out (ii : Int)).f0) ∧ w'.cell? ⟨(ad.add (ii * 7)).block, (ad.add (ii * 7)).off + 1, none⟩ = some (.int .i64 (rd_T71 out (ii : Int)).f1) ∧ w'.cell? ⟨(ad.add (ii * 7)).block, (ad.add (ii * 7)).off + 2, none⟩ = some (.int .i64 (rd_T71 out (ii : Int)).f2) ∧ w'.cell? ⟨(ad.add (ii * 7)).block, (ad.add (ii * 7)).off + 3, none⟩ = some (.int .i64 (rd_T71 out (ii : Int)).f3) ∧ w'.cell? ⟨(ad.add (ii * 7)).block, (ad.add (ii * 7)).off + 4, none⟩ = some (.int .i64 (rd_T71 out (ii : Int)).f4) ∧ w'.cell? ⟨(ad.add (ii * 7)).block, (ad.add (ii * 7)).off + 5, none⟩ = some (.int .i64 (rd_T71 out (ii : Int)).f5) ∧ w'.cell? ⟨(ad.add (ii * 7)).block, (ad.add (ii * 7)).off + 6, none⟩ = some (.slice Ap (rd_T71 out (ii : Int)).f6.length cp)) #[false, false, false, false, false, false, false, false, false, false, false, false, false, false] (fun W' hb => ⟨cB hb hH.1, cB hb hH.2.1, cB hb hH.2.2.1, cB hb hH.2.2.2.1, cB hb hH.2.2.2.2.1, cB hb hH.2.2.2.2.2.1, cB hb hH.2.2.2.2.2.2.1, cB hb hH.2.2.2.2.2.2.2.1, cB hb hH.2.2.2.2.2.2.2.2.1, cB hb hH.2.2.2.2.2.2.2.2.2.1, cB hb hH.2.2.2.2.2.2.2.2.2.2.1, cB hb hH.2.2.2.2.2.2.2.2.2.2.2.1, cB hb hH.2.2.2.2.2.2.2.2.2.2.2.2.1, cB hb hH.2.2.2.2.2.2.2.2.2.2.2.2.2.1, cB hb hH.2.2.2.2.2.2.2.2.2.2.2.2.2.2.1, cB hb hH.2.2.2.2.2.2.2.2.2.2.2.2.2.2.2.1, cB hb hH.2.2.2.2.2.2.2.2.2.2.2.2.2.2.2.2.1, cB hb hH.2.2.2.2.2.2.2.2.2.2.2.2.2.2.2.2.2.1, cB hb hH.2.2.2.2.2.2.2.2.2.2.2.2.2.2.2.2.2.2.1, cB hb hH.2.2.2.2.2.2.2.2.2.2.2.2.2.2.2.2.2.2.2.1, cB hb hH.2.2.2.2.2.2.2.2.2.2.2.2.2.2.2.2.2.2.2.2.1, cB hb hH.2.2.2.2.2.2.2.2.2.2.2.2.2.2.2.2.2.2.2.2.2.1, cB hb hH.2.2.2.2.2.2.2.2.2.2.2.2.2.2.2.2.2.2.2.2.2.2.1, cB hb hH.2.2.2.2.2.2.2.2.2.2.2.2.2.2.2.2.2.2.2.2.2.2.2.1, cB hb hH.2.2.2.2.2.2.2.2.2.2.2.2.2.2.2.2.2.2.2.2.2.2.2.2.1, cB hb hH.2.2.2.2.2.2.2.2.2.2.2.2.2.2.2.2.2.2.2.2.2.2.2.2.2.1, cB hb hH.2.2.2.2.2.2.2.2.2.2.2.2.2.2.2.2.2.2.2.2.2.2.2.2.2.2.1, cB hb hH.2.2.2.2.2.2.2.2.2.2.2.2.2.2.2.2.2.2.2.2.2.2.2.2.2.2.2.1, cB hb hH.2.2.2.2.2.2.2.2.2.2.2.2.2.2.2.2.2.2.2.2.2.2.2.2.2.2.2.2.1, cB hb hH.2.2.2.2.2.2.2.2.2.2.2.2.2.2.2.2.2.2.2.2.2.2.2.2.2.2.2.2.2.1, cB hb hH.2.2.2.2.2.2.2.2.2.2.2.2.2.2.2.2.2.2.2.2.2.2.2.2.2.2.2.2.2.2.1, cB hb hH.2.2.2.2.2.2.2.2.2.2.2.2.2.2.2.2.2.2.2.2.2.2.2.2.2.2.2.2.2.2.2.1, cB hb hH.2.2.2.2.2.2.2.2.2.2.2.2.2.2.2.2.2.2.2.2.2.2.2.2.2.2.2.2.2.2.2.2.1, cB hb hH.2.2.2.2.2.2.2.2.2.2.2.2.2.2.2.2.2.2.2.2.2.2.2.2.2.2.2.2.2.2.2.2.2.1, cB hb hH.2.2.2.2.2.2.2.2.2.2.2.2.2.2.2.2.2.2.2.2.2.2.2.2.2.2.2.2.2.2.2.2.2.2⟩) (fun w8 hb hH2 => ?_)
          have n0 := Aside0.mk (below_then EB.out EB.out.size hb); have n1 := Aside0.mk (Kd.N_below HL.out hb); have n2 := Aside0.mk (Kd.C_below HP6.out hb); clear EB HL HP6; have EB := n0; have HL := n1; have HP6 := n2; clear n0 n1 n2
          clear hb hH
          have hH := hH2
          clear hH2
          refine pz 0 (some 94) #[true, false, false, false, false, false, false, false, false, false, false, false, false, false] ?_
          refine pz 1 (some 95) #[true, true, false, false, false, false, false, false, false, false, false, false, false, false] ?_
          refine tz 2 (some 96) #[true, true, true, false, false, false, false, false, false, false, false, false, false, false] hH ?_
          refine pz 3 (some 97) #[true, true, true, true, false, false, false, false, false, false, false, false, false, false] ?_
          refine pz 4 (some 98) #[true, true, true, true, true, false, false, false, false, false, false, false, false, false] ?_
          refine pu 5 (some 99) #[true, true, true, true, true, true, false, false, false, false, false, false, false, false] ?_
          refine pu 6 (some 100) #[true, true, true, true, true, true, true, false, false, false, false, false, false, false] ?_
          refine pu 7 (some 101) #[true, true, true, true, true, true, true, true, false, false, false, false, false, false] ?_
          refine pu 8 (some 102) #[true, true, true, true, true, true, true, true, true, false, false, false, false, false] ?_
          refine pu 9 (some 103) #[true, true, true, true, true, true, true, true, true, true, false, false, false, false] ?_
          refine pu 10 (some 104) #[true, true, true, true, true, true, true, true, true, true, true, false, false, false] ?_
          refine pu 11 (some 105) #[true, true, true, true, true, true, true, true, true, true, true, true, false, false] ?_
          refine pz 12 (some 106) #[true, true, true, true, true, true, true, true, true, true, true, true, true, false] ?_
          refine pz 13 (some 107) #[true, true, true, true, true, true, true, true, true, true, true, true, true, true] ?_
          refine done_ (by kernel_rfl) ?_
          go_wp2
          go_roundg (out.length - (ii + 1))
          case measure => omega
          case rel => exact ⟨ii + 1, by go_num, by omega, by omega, HL, EB, HC2⟩
      · have hltz : ¬ (ii : Int) < (out.length : Int) := by omega
        have hl3 : out.length = 3 := by rw [hout]; rfl
        have hltz3 : ¬ (ii : Int) < 3 := by omega
        have hie : ii = out.length := by omega
        subst hie
        have H0 := HFi.out
        unfold laws_FnMeets.fin at H0
        have H1 := ifD H0
        rcases H1 with ⟨hl1, H2⟩ | ⟨_, H2⟩
        case inr => exact noneE H2
        replace hl1 := of_decide_eq_true hl1
        obtain ⟨xa, hxa, H3⟩ := Option.bind_eq_some_iff.mp H2
        have H4 := ifB H3
        rcases H4 with ⟨rfl, H5⟩ | ⟨_, H5⟩
        case inr => exact noneE H5
        obtain ⟨xw, hxw, H6⟩ := Option.bind_eq_some_iff.mp H5
        have H7 := ifB H6
        rcases H7 with ⟨rfl, H8⟩ | ⟨_, H8⟩
        case inr => exact noneE H8
        obtain ⟨⟨z0, z1, z2, z3, z4, z5, z6, z7, z8, z9⟩, hz, H9⟩ := Option.bind_eq_some_iff.mp H8
        have H10 := ifD H9
        rcases H10 with ⟨hzz, _⟩ | ⟨_, H11⟩
        case inr => exact noneE H11
        obtain rfl := of_decide_eq_true hzz
        have HBa : Aside0 (impl_Holds.f k a0 a1 a2 a3 a4 a5 a6 a7 a8 (rd_T71 out 1).f0 (rd_T71 out 1).f1 (rd_T71 out 1).f2 (rd_T71 out 1).f3 (rd_T71 out 1).f4 (rd_T71 out 1).f5 (rd_T71 out 1).f6 = some true) := ⟨hxa⟩
        have HWs := Aside0.mk hxw
        have HMz := Aside0.mk hz
        simp only at HWs HMz
        clear H0 H2 H3 H5 H6 H8 H9 hxa hxw hz hzz HFi HCk
        obtain ⟨ad, Ap, cp, e, hx0, hx1, hx2, hx3, hx4, hx5, hx6, hl6, hc6⟩ := at_T71 (Kd.N_reads' HL.out).2.2 (1 : Int) (by decide) (by omega)
        cases e.symm
        simp only [show (1 : Int).toNat * 7 = 7 from rfl, show ad.add 7 = (⟨ad.block, ad.off + 7, none⟩ : Addr) from rfl] at hx0 hx1 hx2 hx3 hx4 hx5 hx6
        have hone : (1 : Int) < (out.length : Int) := by omega
        have HP6 := Aside0.mk hc6
        have HPl := Aside0.mk hl6
        clear hc6 hl6
        go_wp2
        have B3w := blk_b B36.out EB.out
        have B4w := blk_b B46.out EB.out
        have B5w := blk_b B56.out EB.out
        refine rg_start (n := 20) (S := fun w' => w'.cell? ⟨b3, 0, none⟩ = some (.int .i64 a0) ∧ w'.cell? ⟨b3, 1, none⟩ = some (.int .i64 a1) ∧ w'.cell? ⟨b3, 2, none⟩ = some (.int .i64 a2) ∧ w'.cell? ⟨b3, 3, none⟩ = some (.int .i64 a3) ∧ w'.cell? ⟨b3, 4, none⟩ = some (.int .i64 a4) ∧ w'.cell? ⟨b3, 5, none⟩ = some (.int .i64 a5) ∧ w'.cell? ⟨b3, 6, none⟩ = some (.int .i64 a6) ∧ w'.cell? ⟨b3, 7, none⟩ = some (.int .i64 a7) ∧ w'.cell? ⟨b3, 8, none⟩ = some (.int .i64 a8) ∧ w'.cell? ⟨b4, 0, none⟩ = some (.int .i64 g0) ∧ w'.cell? ⟨b4, 1, none⟩ = some (.int .i64 g1) ∧ w'.cell? ⟨b4, 2, none⟩ = some (.int .i64 g2) ∧ w'.cell? ⟨b4, 3, none⟩ = some (.int .i64 g3) ∧ w'.cell? ⟨b4, 4, none⟩ = some (.int .i64 g4) ∧ w'.cell? ⟨b4, 5, none⟩ = some (.int .i64 g5) ∧ w'.cell? ⟨b4, 6, none⟩ = some (.int .i64 g6) ∧ w'.cell? ⟨b4, 7, none⟩ = some (.int .i64 g7) ∧ w'.cell? ⟨b4, 8, none⟩ = some (.int .i64 g8) ∧ w'.cell? ⟨b5, 0, none⟩ = some (.int .i64 m0) ∧ w'.cell? ⟨b5, 1, none⟩ = some (.int .i64 m1) ∧ w'.cell? ⟨b5, 2, none⟩ = some (.int .i64 m2) ∧ w'.cell? ⟨b5, 3, none⟩ = some (.int .i64 m3) ∧ w'.cell? ⟨b5, 4, none⟩ = some (.int .i64 m4) ∧ w'.cell? ⟨b5, 5, none⟩ = some (.int .i64 m5) ∧ w'.cell? ⟨b5, 6, none⟩ = some (.int .i64 m6) ∧ w'.cell? ⟨b5, 7, none⟩ = some (.int .i64 m7) ∧ w'.cell? ⟨b5, 8, none⟩ = some (.int .i64 m8) ∧ w'.cell? ⟨b5, 9, none⟩ = some (.int .i64 m9) ∧ w'.cell? ⟨ad.block, ad.off + 7, none⟩ = some (.int .i64 (rd_T71 out 1).f0) ∧ w'.cell? ⟨ad.block, ad.off + 7 + 1, none⟩ = some (.int .i64 (rd_T71 out 1).f1) ∧ w'.cell? ⟨ad.block, ad.off + 7 + 2, none⟩ = some (.int .i64 (rd_T71 out 1).f2) ∧ w'.cell? ⟨ad.block, ad.off + 7 + 3, none⟩ = some (.int .i64 (rd_T71 out 1).f3) ∧ w'.cell? ⟨ad.block, ad.off + 7 + 4, none⟩ = some (.int .i64 (rd_T71 out 1).f4) ∧ w'.cell? ⟨ad.block, ad.off + 7 + 5, none⟩ = some (.int .i64 (rd_T71 out 1).f5) ∧ w'.cell? ⟨ad.block, ad.off + 7 + 6, none⟩ = some (.slice Ap (rd_T71 out 1).f6.length cp)) #[false, false, false, false, false, false, false, false, false, false, false, false, false, false, false, false, false, false, false, false] (fun W' hb => ⟨cB hb ((blk_cell B3w 0).trans rfl), cB hb ((blk_cell B3w 1).trans rfl), cB hb ((blk_cell B3w 2).trans rfl), cB hb ((blk_cell B3w 3).trans rfl), cB hb ((blk_cell B3w 4).trans rfl), cB hb ((blk_cell B3w 5).trans rfl), cB hb ((blk_cell B3w 6).trans rfl), cB hb ((blk_cell B3w 7).trans rfl), cB hb ((blk_cell B3w 8).trans rfl), cB hb ((blk_cell B4w 0).trans rfl), cB hb ((blk_cell B4w 1).trans rfl), cB hb ((blk_cell B4w 2).trans rfl), cB hb ((blk_cell B4w 3).trans rfl), cB hb ((blk_cell B4w 4).trans rfl), cB hb ((blk_cell B4w 5).trans rfl), cB hb ((blk_cell B4w 6).trans rfl), cB hb ((blk_cell B4w 7).trans rfl), cB hb ((blk_cell B4w 8).trans rfl), cB hb ((blk_cell B5w 0).trans rfl), cB hb ((blk_cell B5w 1).trans rfl), cB hb ((blk_cell B5w 2).trans rfl), cB hb ((blk_cell B5w 3).trans rfl), cB hb ((blk_cell B5w 4).trans rfl), cB hb ((blk_cell B5w 5).trans rfl), cB hb ((blk_cell B5w 6).trans rfl), cB hb ((blk_cell B5w 7).trans rfl), cB hb ((blk_cell B5w 8).trans rfl), cB hb ((blk_cell B5w 9).trans rfl), cB hb hx0, cB hb hx1, cB hb hx2, cB hb hx3, cB hb hx4, cB hb hx5, cB hb hx6⟩) (fun w8 hb hH => ?_)
        have n0 := Aside0.mk (below_then EB.out EB.out.size hb); have n1 := Aside0.mk (Kd.N_below HL.out hb); have n2 := Aside0.mk (Kd.C_below HP6.out hb); clear EB HL HP6; have EB := n0; have HL := n1; have HP6 := n2; clear n0 n1 n2
        clear hb
        refine pz 1 (some 109) #[false, true, false, false, false, false, false, false, false, false, false, false, false, false, false, false, false, false, false, false] ?_
        refine pz 2 (some 110) #[false, true, true, false, false, false, false, false, false, false, false, false, false, false, false, false, false, false, false, false] ?_
        refine tz 0 (some 108) #[true, true, true, false, false, false, false, false, false, false, false, false, false, false, false, false, false, false, false, false] hH ?_
        refine tz 3 (some 111) #[true, true, true, true, false, false, false, false, false, false, false, false, false, false, false, false, false, false, false, false] hH ?_
        refine one_ (i := 4) (N := some 112) #[true, true, true, true, true, false, false, false, false, false, false, false, false, false, false, false, false, false, false, false] rfl rfl (by kernel_rfl) (by decide) (fun K hK => ?_)
        refine goes_ Try.func50 (by kernel_rfl) rfl #[.agg #[.int .i64 a0, .int .i64 a1, .int .i64 a2, .int .i64 a3, .int .i64 a4, .int .i64 a5, .int .i64 a6, .int .i64 a7, .int .i64 a8], .agg #[.int .i64 (rd_T71 out 1).f0, .int .i64 (rd_T71 out 1).f1, .int .i64 (rd_T71 out 1).f2, .int .i64 (rd_T71 out 1).f3, .int .i64 (rd_T71 out 1).f4, .int .i64 (rd_T71 out 1).f5, .slice Ap (rd_T71 out 1).f6.length cp]] (by rfl) rfl rfl (by (try simp only [List.map_toArray, List.map_cons, List.map_nil]); first | done | (go_simp; done) | rfl | (go_simp; rfl)) ?_
        with_reducible refine (impl_Holds.calls k a0 a1 a2 a3 a4 a5 a6 a7 a8 _ _ _ _ _ _ _ _ _ true _ HP6.out HPl.out HBa.out).mono ?_
        rintro e wq ⟨rfl, hb⟩
        refine ⟨_, rfl, ?_⟩
        have n0 := Aside0.mk (below_then EB.out EB.out.size hb); have n1 := Aside0.mk (Kd.N_below HL.out hb); have n2 := Aside0.mk (Kd.C_below HP6.out hb); clear EB HL HP6; have EB := n0; have HL := n1; have HP6 := n2; clear n0 n1 n2
        refine hK.out _ _ ⟨cB hb hH.1, cB hb hH.2.1, cB hb hH.2.2.1, cB hb hH.2.2.2.1, cB hb hH.2.2.2.2.1, cB hb hH.2.2.2.2.2.1, cB hb hH.2.2.2.2.2.2.1, cB hb hH.2.2.2.2.2.2.2.1, cB hb hH.2.2.2.2.2.2.2.2.1, cB hb hH.2.2.2.2.2.2.2.2.2.1, cB hb hH.2.2.2.2.2.2.2.2.2.2.1, cB hb hH.2.2.2.2.2.2.2.2.2.2.2.1, cB hb hH.2.2.2.2.2.2.2.2.2.2.2.2.1, cB hb hH.2.2.2.2.2.2.2.2.2.2.2.2.2.1, cB hb hH.2.2.2.2.2.2.2.2.2.2.2.2.2.2.1, cB hb hH.2.2.2.2.2.2.2.2.2.2.2.2.2.2.2.1, cB hb hH.2.2.2.2.2.2.2.2.2.2.2.2.2.2.2.2.1, cB hb hH.2.2.2.2.2.2.2.2.2.2.2.2.2.2.2.2.2.1, cB hb hH.2.2.2.2.2.2.2.2.2.2.2.2.2.2.2.2.2.2.1, cB hb hH.2.2.2.2.2.2.2.2.2.2.2.2.2.2.2.2.2.2.2.1, cB hb hH.2.2.2.2.2.2.2.2.2.2.2.2.2.2.2.2.2.2.2.2.1, cB hb hH.2.2.2.2.2.2.2.2.2.2.2.2.2.2.2.2.2.2.2.2.2.1, cB hb hH.2.2.2.2.2.2.2.2.2.2.2.2.2.2.2.2.2.2.2.2.2.2.1, cB hb hH.2.2.2.2.2.2.2.2.2.2.2.2.2.2.2.2.2.2.2.2.2.2.2.1, cB hb hH.2.2.2.2.2.2.2.2.2.2.2.2.2.2.2.2.2.2.2.2.2.2.2.2.1, cB hb hH.2.2.2.2.2.2.2.2.2.2.2.2.2.2.2.2.2.2.2.2.2.2.2.2.2.1, cB hb hH.2.2.2.2.2.2.2.2.2.2.2.2.2.2.2.2.2.2.2.2.2.2.2.2.2.2.1, cB hb hH.2.2.2.2.2.2.2.2.2.2.2.2.2.2.2.2.2.2.2.2.2.2.2.2.2.2.2.1, cB hb hH.2.2.2.2.2.2.2.2.2.2.2.2.2.2.2.2.2.2.2.2.2.2.2.2.2.2.2.2.1, cB hb hH.2.2.2.2.2.2.2.2.2.2.2.2.2.2.2.2.2.2.2.2.2.2.2.2.2.2.2.2.2.1, cB hb hH.2.2.2.2.2.2.2.2.2.2.2.2.2.2.2.2.2.2.2.2.2.2.2.2.2.2.2.2.2.2.1, cB hb hH.2.2.2.2.2.2.2.2.2.2.2.2.2.2.2.2.2.2.2.2.2.2.2.2.2.2.2.2.2.2.2.1, cB hb hH.2.2.2.2.2.2.2.2.2.2.2.2.2.2.2.2.2.2.2.2.2.2.2.2.2.2.2.2.2.2.2.2.1, cB hb hH.2.2.2.2.2.2.2.2.2.2.2.2.2.2.2.2.2.2.2.2.2.2.2.2.2.2.2.2.2.2.2.2.2.1, cB hb hH.2.2.2.2.2.2.2.2.2.2.2.2.2.2.2.2.2.2.2.2.2.2.2.2.2.2.2.2.2.2.2.2.2.2⟩ (fun hH2 => ?_)
        clear hK K hH
        have hH := hH2
        clear hH2 hb
        refine norm_ (a' := ?_) ?_ ?_
        rotate_left
        · (show Act.put _ (some 112) _ = _; simp only [Act.put, List.setIfInBounds_toArray, List.set_cons_zero, List.set_cons_succ, i64_w, i32_w]; rfl)
        refine pz 5 (some 113) #[true, true, true, true, true, true, false, false, false, false, false, false, false, false, false, false, false, false, false, false] ?_
        refine tz 6 (some 114) #[true, true, true, true, true, true, true, false, false, false, false, false, false, false, false, false, false, false, false, false] hH ?_
        refine tz 7 (some 115) #[true, true, true, true, true, true, true, true, false, false, false, false, false, false, false, false, false, false, false, false] hH ?_
        refine one_ (i := 8) (N := some 116) #[true, true, true, true, true, true, true, true, true, false, false, false, false, false, false, false, false, false, false, false] rfl rfl (by kernel_rfl) (by decide) (fun K hK => ?_)
        refine goes_ Try.func45 (by kernel_rfl) rfl #[.agg #[.int .i64 a0, .int .i64 a1, .int .i64 a2, .int .i64 a3, .int .i64 a4, .int .i64 a5, .int .i64 a6, .int .i64 a7, .int .i64 a8], .agg #[.int .i64 a0, .int .i64 a1, .int .i64 a2, .int .i64 a3, .int .i64 a4, .int .i64 a5, .int .i64 a6, .int .i64 a7, .int .i64 a8]] (by rfl) rfl rfl (by (try simp only [List.map_toArray, List.map_cons, List.map_nil]); first | done | (go_simp; done) | rfl | (go_simp; rfl)) ?_
        with_reducible refine (impl_WithinSel.calls k a0 a1 a2 a3 a4 a5 a6 a7 a8 a0 a1 a2 a3 a4 a5 a6 a7 a8 true _ HWs.out).mono ?_
        rintro e wq ⟨rfl, hb⟩
        refine ⟨_, rfl, ?_⟩
        have n0 := Aside0.mk (below_then EB.out EB.out.size hb); have n1 := Aside0.mk (Kd.N_below HL.out hb); have n2 := Aside0.mk (Kd.C_below HP6.out hb); clear EB HL HP6; have EB := n0; have HL := n1; have HP6 := n2; clear n0 n1 n2
        refine hK.out _ _ ⟨cB hb hH.1, cB hb hH.2.1, cB hb hH.2.2.1, cB hb hH.2.2.2.1, cB hb hH.2.2.2.2.1, cB hb hH.2.2.2.2.2.1, cB hb hH.2.2.2.2.2.2.1, cB hb hH.2.2.2.2.2.2.2.1, cB hb hH.2.2.2.2.2.2.2.2.1, cB hb hH.2.2.2.2.2.2.2.2.2.1, cB hb hH.2.2.2.2.2.2.2.2.2.2.1, cB hb hH.2.2.2.2.2.2.2.2.2.2.2.1, cB hb hH.2.2.2.2.2.2.2.2.2.2.2.2.1, cB hb hH.2.2.2.2.2.2.2.2.2.2.2.2.2.1, cB hb hH.2.2.2.2.2.2.2.2.2.2.2.2.2.2.1, cB hb hH.2.2.2.2.2.2.2.2.2.2.2.2.2.2.2.1, cB hb hH.2.2.2.2.2.2.2.2.2.2.2.2.2.2.2.2.1, cB hb hH.2.2.2.2.2.2.2.2.2.2.2.2.2.2.2.2.2.1, cB hb hH.2.2.2.2.2.2.2.2.2.2.2.2.2.2.2.2.2.2.1, cB hb hH.2.2.2.2.2.2.2.2.2.2.2.2.2.2.2.2.2.2.2.1, cB hb hH.2.2.2.2.2.2.2.2.2.2.2.2.2.2.2.2.2.2.2.2.1, cB hb hH.2.2.2.2.2.2.2.2.2.2.2.2.2.2.2.2.2.2.2.2.2.1, cB hb hH.2.2.2.2.2.2.2.2.2.2.2.2.2.2.2.2.2.2.2.2.2.2.1, cB hb hH.2.2.2.2.2.2.2.2.2.2.2.2.2.2.2.2.2.2.2.2.2.2.2.1, cB hb hH.2.2.2.2.2.2.2.2.2.2.2.2.2.2.2.2.2.2.2.2.2.2.2.2.1, cB hb hH.2.2.2.2.2.2.2.2.2.2.2.2.2.2.2.2.2.2.2.2.2.2.2.2.2.1, cB hb hH.2.2.2.2.2.2.2.2.2.2.2.2.2.2.2.2.2.2.2.2.2.2.2.2.2.2.1, cB hb hH.2.2.2.2.2.2.2.2.2.2.2.2.2.2.2.2.2.2.2.2.2.2.2.2.2.2.2.1, cB hb hH.2.2.2.2.2.2.2.2.2.2.2.2.2.2.2.2.2.2.2.2.2.2.2.2.2.2.2.2.1, cB hb hH.2.2.2.2.2.2.2.2.2.2.2.2.2.2.2.2.2.2.2.2.2.2.2.2.2.2.2.2.2.1, cB hb hH.2.2.2.2.2.2.2.2.2.2.2.2.2.2.2.2.2.2.2.2.2.2.2.2.2.2.2.2.2.2.1, cB hb hH.2.2.2.2.2.2.2.2.2.2.2.2.2.2.2.2.2.2.2.2.2.2.2.2.2.2.2.2.2.2.2.1, cB hb hH.2.2.2.2.2.2.2.2.2.2.2.2.2.2.2.2.2.2.2.2.2.2.2.2.2.2.2.2.2.2.2.2.1, cB hb hH.2.2.2.2.2.2.2.2.2.2.2.2.2.2.2.2.2.2.2.2.2.2.2.2.2.2.2.2.2.2.2.2.2.1, cB hb hH.2.2.2.2.2.2.2.2.2.2.2.2.2.2.2.2.2.2.2.2.2.2.2.2.2.2.2.2.2.2.2.2.2.2⟩ (fun hH2 => ?_)
        clear hK K hH
        have hH := hH2
        clear hH2 hb
        refine norm_ (a' := ?_) ?_ ?_
        rotate_left
        · (show Act.put _ (some 116) _ = _; simp only [Act.put, List.setIfInBounds_toArray, List.set_cons_zero, List.set_cons_succ, i64_w, i32_w]; rfl)
        refine pz 9 (some 117) #[true, true, true, true, true, true, true, true, true, true, false, false, false, false, false, false, false, false, false, false] ?_
        refine pz 10 (some 118) #[true, true, true, true, true, true, true, true, true, true, true, false, false, false, false, false, false, false, false, false] ?_
        refine pz 11 (some 119) #[true, true, true, true, true, true, true, true, true, true, true, true, false, false, false, false, false, false, false, false] ?_
        refine tz 12 (some 120) #[true, true, true, true, true, true, true, true, true, true, true, true, true, false, false, false, false, false, false, false] hH ?_
        refine tz 13 (some 121) #[true, true, true, true, true, true, true, true, true, true, true, true, true, true, false, false, false, false, false, false] hH ?_
        refine tz 14 (some 122) #[true, true, true, true, true, true, true, true, true, true, true, true, true, true, true, false, false, false, false, false] hH ?_
        refine one_ (i := 15) (N := some 123) #[true, true, true, true, true, true, true, true, true, true, true, true, true, true, true, true, false, false, false, false] rfl rfl (by kernel_rfl) (by decide) (fun K hK => ?_)
        refine goes_ Try.func47 (by kernel_rfl) rfl #[.agg #[.int .i64 g0, .int .i64 g1, .int .i64 g2, .int .i64 g3, .int .i64 g4, .int .i64 g5, .int .i64 g6, .int .i64 g7, .int .i64 g8], .agg #[.int .i64 a0, .int .i64 a1, .int .i64 a2, .int .i64 a3, .int .i64 a4, .int .i64 a5, .int .i64 a6, .int .i64 a7, .int .i64 a8]] (by rfl) rfl rfl (by (try simp only [List.map_toArray, List.map_cons, List.map_nil]); first | done | (go_simp; done) | rfl | (go_simp; rfl)) ?_
        with_reducible refine (impl_MeetSels.calls k g0 g1 g2 g3 g4 g5 g6 g7 g8 a0 a1 a2 a3 a4 a5 a6 a7 a8 m0 z1 z2 z3 z4 z5 z6 z7 z8 z9 _ HMz.out).mono ?_
        rintro e wq ⟨rfl, hb⟩
        refine ⟨_, rfl, ?_⟩
        have n0 := Aside0.mk (below_then EB.out EB.out.size hb); have n1 := Aside0.mk (Kd.N_below HL.out hb); have n2 := Aside0.mk (Kd.C_below HP6.out hb); clear EB HL HP6; have EB := n0; have HL := n1; have HP6 := n2; clear n0 n1 n2
        refine hK.out _ _ ⟨cB hb hH.1, cB hb hH.2.1, cB hb hH.2.2.1, cB hb hH.2.2.2.1, cB hb hH.2.2.2.2.1, cB hb hH.2.2.2.2.2.1, cB hb hH.2.2.2.2.2.2.1, cB hb hH.2.2.2.2.2.2.2.1, cB hb hH.2.2.2.2.2.2.2.2.1, cB hb hH.2.2.2.2.2.2.2.2.2.1, cB hb hH.2.2.2.2.2.2.2.2.2.2.1, cB hb hH.2.2.2.2.2.2.2.2.2.2.2.1, cB hb hH.2.2.2.2.2.2.2.2.2.2.2.2.1, cB hb hH.2.2.2.2.2.2.2.2.2.2.2.2.2.1, cB hb hH.2.2.2.2.2.2.2.2.2.2.2.2.2.2.1, cB hb hH.2.2.2.2.2.2.2.2.2.2.2.2.2.2.2.1, cB hb hH.2.2.2.2.2.2.2.2.2.2.2.2.2.2.2.2.1, cB hb hH.2.2.2.2.2.2.2.2.2.2.2.2.2.2.2.2.2.1, cB hb hH.2.2.2.2.2.2.2.2.2.2.2.2.2.2.2.2.2.2.1, cB hb hH.2.2.2.2.2.2.2.2.2.2.2.2.2.2.2.2.2.2.2.1, cB hb hH.2.2.2.2.2.2.2.2.2.2.2.2.2.2.2.2.2.2.2.2.1, cB hb hH.2.2.2.2.2.2.2.2.2.2.2.2.2.2.2.2.2.2.2.2.2.1, cB hb hH.2.2.2.2.2.2.2.2.2.2.2.2.2.2.2.2.2.2.2.2.2.2.1, cB hb hH.2.2.2.2.2.2.2.2.2.2.2.2.2.2.2.2.2.2.2.2.2.2.2.1, cB hb hH.2.2.2.2.2.2.2.2.2.2.2.2.2.2.2.2.2.2.2.2.2.2.2.2.1, cB hb hH.2.2.2.2.2.2.2.2.2.2.2.2.2.2.2.2.2.2.2.2.2.2.2.2.2.1, cB hb hH.2.2.2.2.2.2.2.2.2.2.2.2.2.2.2.2.2.2.2.2.2.2.2.2.2.2.1, cB hb hH.2.2.2.2.2.2.2.2.2.2.2.2.2.2.2.2.2.2.2.2.2.2.2.2.2.2.2.1, cB hb hH.2.2.2.2.2.2.2.2.2.2.2.2.2.2.2.2.2.2.2.2.2.2.2.2.2.2.2.2.1, cB hb hH.2.2.2.2.2.2.2.2.2.2.2.2.2.2.2.2.2.2.2.2.2.2.2.2.2.2.2.2.2.1, cB hb hH.2.2.2.2.2.2.2.2.2.2.2.2.2.2.2.2.2.2.2.2.2.2.2.2.2.2.2.2.2.2.1, cB hb hH.2.2.2.2.2.2.2.2.2.2.2.2.2.2.2.2.2.2.2.2.2.2.2.2.2.2.2.2.2.2.2.1, cB hb hH.2.2.2.2.2.2.2.2.2.2.2.2.2.2.2.2.2.2.2.2.2.2.2.2.2.2.2.2.2.2.2.2.1, cB hb hH.2.2.2.2.2.2.2.2.2.2.2.2.2.2.2.2.2.2.2.2.2.2.2.2.2.2.2.2.2.2.2.2.2.1, cB hb hH.2.2.2.2.2.2.2.2.2.2.2.2.2.2.2.2.2.2.2.2.2.2.2.2.2.2.2.2.2.2.2.2.2.2⟩ (fun hH2 => ?_)
        clear hK K hH
        have hH := hH2
        clear hH2 hb
        refine norm_ (a' := ?_) ?_ ?_
        rotate_left
        · (show Act.put _ (some 123) _ = _; simp only [Act.put, List.setIfInBounds_toArray, List.set_cons_zero, List.set_cons_succ, i64_w, i32_w]; rfl)
        refine pz 16 (some 124) #[true, true, true, true, true, true, true, true, true, true, true, true, true, true, true, true, true, false, false, false] ?_
        refine pz 17 (some 125) #[true, true, true, true, true, true, true, true, true, true, true, true, true, true, true, true, true, true, false, false] ?_
        refine pz 18 (some 126) #[true, true, true, true, true, true, true, true, true, true, true, true, true, true, true, true, true, true, true, false] ?_
        refine pz 19 (some 2) #[true, true, true, true, true, true, true, true, true, true, true, true, true, true, true, true, true, true, true, true] ?_
        refine done_ (by kernel_rfl) ?_
        go_wp2
        go_ret
        exact ⟨rfl, below_then EW6.out EW6.out.size EB.out⟩
def laws_FnMeets.Pure : Prop := ∀ (l0 : List Int), l0.length ≤ maxLen → l0.length * 1 ≤ 140737488351232 → (∀ x ∈ l0, (Lit.int .u8 x).wf = true) → ∃ k, laws_FnMeets.f k l0 = some true
theorem laws_FnMeets.walk (P : laws_FnMeets.Pure) (a0 : Option Addr) (len0 cap0 : Nat) (z0 : List Int) (w : World) (w0 : (a0 = none ∧ len0 = 0 ∧ cap0 = 0 ∧ z0 = []) ∨ ∃ x, a0 = some x ∧ len0 ≤ cap0 ∧ cap0 ≤ maxLen ∧ z0.length = cap0 ∧ (∀ i, i < z0.length → w.cell? (x.add i) = some (.int .u8 (z0.getD i 0))) ∧ ∀ n ∈ z0, (Lit.int .u8 n).wf = true) (y0 : len0 * 1 ≤ 140737488351232) :
    Calls Try.prog 8 #[.slice a0 len0 cap0] w fun e w' => e = .returned (.bool true) ∧ Below w.heap.size w w' := by
  obtain ⟨l0, rfl, hr0, hm0, hw0, hc0⟩ := ReadsInt.ofRowC w0
  obtain ⟨k, h⟩ := P l0 hm0 y0 hw0
  exact laws_FnMeets.calls k _ _ l0 w (Kd.C_of_reads (d := (0 : Int)) (h1 := fun _ => rfl) hr0) hc0 h

end Go.Proofs.Ytcelgjhhmkgnhaa.PFnMeets
