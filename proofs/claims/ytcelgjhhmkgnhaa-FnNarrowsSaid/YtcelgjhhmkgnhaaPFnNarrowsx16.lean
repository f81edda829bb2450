-- Written by wip/tools/myprint.py of this claim's session, over the kit's print, round texts of its own: own text.
import Derived.Test.YtcelgjhhmkgnhaaPFnNarrowsx0
import Derived.Test.YtcelgjhhmkgnhaaPFnNarrowsx2
import Derived.Test.YtcelgjhhmkgnhaaPFnNarrowsx7
import Derived.Test.YtcelgjhhmkgnhaaPFnNarrowsx10
import Derived.Test.YtcelgjhhmkgnhaaPFnNarrowsx11
import Derived.Test.YtcelgjhhmkgnhaaPFnNarrowsx13
import Derived.Test.YtcelgjhhmkgnhaaPFnNarrowsx14
import Derived.Test.YtcelgjhhmkgnhaaPFnNarrowsx15
namespace Go.Proofs.Ytcelgjhhmkgnhaa.PFnNarrows
open Go.RowKit Go.Proofs.YtcelgjhhmkgnhaaW.PrintWords Go.Proofs.YtcelgjhhmkgnhaaW.PrintLast Go.Proofs.YtcelgjhhmkgnhaaW.PrintMore
attribute [local go_sem] max2_int min2_int max_two min_two max_three min_three max_four min_four   -- for this text's walks alone
set_option linter.unusedVariables false
set_option linter.unusedSimpArgs false

/-! ### laws_FnNarrows: function 10 (my own text) -/
attribute [local go_sem] Instr.field asAgg
theorem laws_FnNarrows.mkF (W : World) (ok : Nat → Prop) (x : S71) {A6 : Option Addr} {c6 : Nat} (l6 : x.f6.length ≤ c6) (g6 : Kd.F (Kd.int .u8) W ok A6 x.f6.length x.f6) : Kd.FK k71 W ok x [.int .i64 x.f0, .int .i64 x.f1, .int .i64 x.f2, .int .i64 x.f3, .int .i64 x.f4, .int .i64 x.f5, .slice A6 x.f6.length c6] := fun W2 hW => k71_mk W2 x l6 (g6 W2 hW)
def laws_FnNarrows.smp (k : Nat) : List S65 → List S71 → Option (List S71)
  | [], out => some out
  | s :: ss, out => (impl_SampleOf.f k s.f0.f0 s.f0.f1 s.f1.f0 s.f1.f1 s.f2.f0 s.f2.f1 s.f3.f0 s.f3.f1 s.f4).bind fun t => if out.length < 1954687338268 then laws_FnNarrows.smp k ss (out ++ [⟨t.2.1, t.2.2.1, t.2.2.2.1, t.2.2.2.2.1, t.2.2.2.2.2.1, t.2.2.2.2.2.2.1, t.2.2.2.2.2.2.2⟩]) else none
def laws_FnNarrows.ho (k : Nat) (l : List S65) (p : S71) : Option Bool := impl_HoldsAny.f k l p.f0 p.f1 p.f2 p.f3 p.f4 p.f5 p.f6
def laws_FnNarrows.two (k : Nat) (l0 l1 : List S65) (p : S71) : Option Bool := (laws_FnNarrows.ho k l0 p).bind fun a => if a = true then laws_FnNarrows.ho k l1 p else some false
def laws_FnNarrows.sel (k : Nat) (c : Int) (l : List S65) (p : S71) : Option Bool := if c = 0 then laws_FnNarrows.ho k l p else some false
def laws_FnNarrows.chk (k : Nat) (l0 l1 rs : List S65) (c : Int) : List S71 → Option Unit
  | [] => some ()
  | p :: ps => (laws_FnNarrows.two k l0 l1 p).bind fun a => (laws_FnNarrows.sel k c rs p).bind fun b => if a = b then laws_FnNarrows.chk k l0 l1 rs c ps else none
def laws_FnNarrows.fin (k : Nat) (l0 l1 : List S65) (c : Int) (L : List S71) : Option Bool := if 1 < L.length then (laws_FnNarrows.ho k l0 (rd_T71 L 1)).bind fun a => if a = true then ((spec_NarrowSels.f k l0 l1).bind fun s => if c = s.1 then some true else none) else none else none
def laws_FnNarrows.go (k : Nat) (l0 : List Int) (mine theirs rs : List S65) (c : Int) : Option Bool := if l0.length < 140737488355320 then ((spec_DrawHoldsAny.f k ([3] ++ l0)).bind fun h => (laws_FnNarrows.smp k mine [⟨h.2.1, h.2.2.1, h.2.2.2.1, h.2.2.2.2.1, h.2.2.2.2.2.1, h.2.2.2.2.2.2.1, h.2.2.2.2.2.2.2⟩]).bind fun L => (laws_FnNarrows.chk k mine theirs rs c L).bind fun _ => laws_FnNarrows.fin k mine theirs c L) else none
def laws_FnNarrows.f (k : Nat) (l0 : List Int) : Option Bool := (laws_lwBig.f l0).bind fun big => if big = true then some true else (spec_DrawNarrowSels.f k l0).bind fun d => (impl_NarrowSels.f k d.1 d.2).bind fun r => if r.1 = 0 then laws_FnNarrows.go k l0 d.1 d.2 r.2 r.1 else if r.1 = 4 then laws_FnNarrows.go k l0 d.1 d.2 r.2 r.1 else ((spec_NarrowSels.f k d.1 d.2).bind fun s => if s.1 = r.1 then some true else none)
set_option maxHeartbeats 8000000 in
set_option maxRecDepth 100000 in
theorem laws_FnNarrows.calls (k : Nat) (A0 : Option Addr) (c0 : Nat) (l0 : List Int) (w : World) (hr0 : Kd.C (Kd.int .u8) w A0 l0.length l0) (hc0 : l0.length ≤ c0) (h : laws_FnNarrows.f k l0 = some true) :
    Calls Try.prog 10 #[.slice A0 l0.length c0] w fun e w' => e = .returned (.bool true) ∧ Below w.heap.size w w' := by
  have HR := Aside0.mk hr0
  have HC := Aside0.mk hc0
  clear hr0 hc0
  have hu42 := Try.underlying42
  have hu71 := Try.underlying71
  obtain ⟨big, hb0, h1⟩ := Option.bind_eq_some_iff.mp h
  have HBig := Aside0.mk hb0
  clear h hb0
  rcases ifB h1 with ⟨rfl, h2⟩ | ⟨rfl, h2⟩
  · have D := Aside0.mk (CS.startB w)
    clear h1 h2
    go_enter Try.func10, Try.ntmps10
    go_wp2_with (first | (go_at_call 12; with_reducible refine Calls.mono (CS.viaQ D.out (laws_lwBig.calls _ _ _ _ _ (Kd.C_below HR.out D.out.bel) HC.out HBig.out)) ?_; rintro e w1 ⟨rfl, hD⟩; clear D; have D := Aside0.mk hD; clear hD))
    go_ret
    exact ⟨rfl, D.out.bel⟩
  clear h1
  obtain ⟨⟨mine, theirs⟩, hd, h3⟩ := Option.bind_eq_some_iff.mp h2
  obtain ⟨⟨rc, rs⟩, hn, h4⟩ := Option.bind_eq_some_iff.mp h3
  have HD := Aside0.mk hd
  have HN := Aside0.mk hn
  simp only at h4
  clear hd h2 h3 hn
  have h5 : (rc = 0 ∧ laws_FnNarrows.go k l0 mine theirs rs rc = some true) ∨ (rc = 4 ∧ laws_FnNarrows.go k l0 mine theirs rs rc = some true) ∨ (rc ≠ 0 ∧ rc ≠ 4 ∧ (((spec_NarrowSels.f k mine theirs).bind fun s => if s.1 = rc then some true else none) = some true)) := by
    by_cases c0 : rc = 0
    · exact .inl ⟨c0, (if_pos c0).symm.trans h4⟩
    · rw [if_neg c0] at h4
      by_cases c4 : rc = 4
      · exact .inr (.inl ⟨c4, (if_pos c4).symm.trans h4⟩)
      · exact .inr (.inr ⟨c0, c4, (if_neg c4).symm.trans h4⟩)
  clear h4
  have D := Aside0.mk (CS.startB w)
  have EV : True := trivial
  rcases h5 with ⟨rfl, H⟩ | ⟨rfl, H⟩ | ⟨n0, n4, H⟩
  case inr.inr =>
    obtain ⟨⟨sc, ss⟩, hsn, H6⟩ := Option.bind_eq_some_iff.mp H
    have H7 := ifD H6
    rcases H7 with ⟨hsc, _⟩ | ⟨_, H8⟩
    case inr => exact noneE H8
    obtain rfl := (of_decide_eq_true hsc).symm
    have HSn := Aside0.mk hsn
    clear H H6 hsn hsc
    have e0 : (rc != 0) = true := bne_iff_ne.mpr n0
    have e4 : (rc != 4) = true := bne_iff_ne.mpr n4
    go_enter Try.func10, Try.ntmps10
    go_wp2_with (first
      | (go_at_call 12; with_reducible refine Calls.mono (CS.viaQ D.out (laws_lwBig.calls _ _ _ _ _ (Kd.C_below HR.out D.out.bel) HC.out HBig.out)) ?_; rintro e w1 ⟨rfl, hD⟩; clear D; have D := Aside0.mk hD; clear hD)
      | (go_at_call 60; with_reducible refine Calls.mono (spec_DrawNarrowSels.calls _ _ _ _ _ _ _ (Kd.C_below HR.out D.out.bel) HC.out HD.out) ?_; rintro e w1 ⟨v0, v1, rfl, hR0, hR1, hb⟩; obtain ⟨A3, c3, rfl⟩ := Kd.R_slice hR0; obtain ⟨A4, c4, rfl⟩ := Kd.R_slice hR1; have E1 := Aside0.mk (below_then D.out.bel D.out.bel.size hb); have HM := Aside0.mk (Kd.R_reads' hR0).2; have HT := Aside0.mk (Kd.R_reads' hR1).2; clear D hR0 hR1 hb; have D := Aside0.mk (CS.startB w1))
      | (go_at_call 28; with_reducible refine Calls.mono (CS.viaR D.out (impl_NarrowSels.calls _ _ _ _ _ _ _ _ _ _ (Kd.C_below HM.out.2 D.out.bel) HM.out.1 (Kd.C_below HT.out.2 D.out.bel) HT.out.1 HN.out)) ?_; rintro e w2 ⟨A5, c5, rfl, hD⟩; clear D; have D := Aside0.mk hD; clear hD)
      | ((with_reducible refine gate_al (t := 71) rfl ?_); refine ev_box ?_; intro b7 _ hD; clear D; have D := Aside0.mk hD; clear hD; have q0 := D.out.c 0 rfl; have f0 := D.out.f 0 rfl)
      | ((with_reducible refine gate_al rfl ?_); refine ev_box ?_; intro b5 _ hD; clear D; have D := Aside0.mk hD; clear hD; have q0 := D.out.c 0 rfl; have f0 := D.out.f 0 rfl)
      | ((with_reducible refine gate_st rfl ?_); refine ev_store ?_; intro w1 hD; clear D; simp only [List.set_cons_zero, List.set_cons_succ, List.setIfInBounds_toArray] at hD; have D := Aside0.mk hD; clear hD; clear q0 f0; have q0 := D.out.c 0 rfl; have f0 := D.out.f 0 rfl)
      | ((with_reducible refine gate_lit (t := 22) rfl ?_); have HS := Aside0.mk (Kd.R_reads' (D.out.row 0 rfl)).2; have B5 := Aside0.mk (D.out.at_ 0 rfl); have E2 := Aside0.mk D.out.bel; refine lit_row (bs := []) (Kd.int .u8) 5 [3] [.int .u8 3] ?_ (CS.startB _) (Reps.one rfl (Reps.none _ _)) (by simp); intro A6 c6 w3 hD; clear D q0 f0; have D := Aside0.mk hD; clear hD)
      | ((with_reducible refine gate_ap (ts := #[22, 22]) rfl ?_); refine ev_appends (Kd.int .u8) 22 5 (.int .u8 0) 1 (.tmp 38) (.tmp 39) (ys := l0) ?_ (by have := LM.out; simp only [List.length_cons, List.length_nil]; omega) D.out (Kd.C_below (Kd.C_below (Kd.C_below HR.out E1.out) E2.out) D.out.bel) (fun _ _ h => h); intro A6 c6 w4 hD; clear D; have D := Aside0.mk hD; clear hD)
      | (go_at_call 61; with_reducible refine Calls.mono (spec_DrawHoldsAny.calls _ _ _ _ _ _ _ _ _ _ _ _ _ (Kd.R_reads' (D.out.row 0 rfl)).2.2 (Kd.R_reads' (D.out.row 0 rfl)).2.1 HH.out) ?_; rintro e w5 ⟨v0, v7, rfl, _, hR7, hb⟩; obtain ⟨A7, c7, rfl⟩ := Kd.R_slice hR7; have E3 := Aside0.mk (below_then D.out.bel D.out.bel.size hb); have HP := Aside0.mk hR7; clear D hR7 hb; have D := Aside0.mk (CS.startB w5))
      | ((with_reducible refine gate_lit (t := 83) rfl ?_); have E4 := Aside0.mk D.out.bel; refine pk_lit k71 71 (⟨p0, p1, p2, p3, p4, p5, ld⟩ : S71) [.int .i64 p0, .int .i64 p1, .int .i64 p2, .int .i64 p3, .int .i64 p4, .int .i64 p5, .slice A7 ld.length c7] ?_ (laws_FnNarrows.mkF _ _ (⟨p0, p1, p2, p3, p4, p5, ld⟩ : S71) (Kd.R_reads' HP.out).2.1 (Kd.F_below (Kd.R_F HP.out) E4.out)) rfl; intro A8 c8 w6 hL hb; clear D q0 f0; have HL := Aside0.mk hL; have EB := Aside0.mk hb; clear hL hb))
    have EB := Aside0.mk D.out.bel
    have B5w := D.out.at_ 0 rfl
    refine rg_start (n := 8) (S := fun w' => w'.cell? ⟨b5, 0, none⟩ = some (.int .i64 rc)) #[false, false, false, false, false, false, false, false] (fun W' hb => cB hb ((blk_cell B5w 0).trans rfl)) (fun w8 hb hH => ?_)
    have n0' := Aside0.mk (below_then EB.out EB.out.size hb)
    clear EB hb B5w D q0 f0
    have EB := n0'
    clear n0'
    refine pz 4 (some 34) #[false, false, false, false, true, false, false, false] ?_
    refine pz 0 (some 30) #[true, false, false, false, true, false, false, false] ?_
    refine pz 1 (some 31) #[true, true, false, false, true, false, false, false] ?_
    refine tz 5 (some 35) #[true, true, false, false, true, true, false, false] hH ?_
    refine one_ (i := 2) (N := some 32) #[true, true, true, false, true, true, false, false] rfl rfl (by kernel_rfl) (by decide) (fun K hK => ?_)
    refine goes_ Try.func26 (by kernel_rfl) rfl #[.slice A3 mine.length c3, .slice A4 theirs.length c4] (by rfl) rfl rfl (by (try simp only [List.map_toArray, List.map_cons, List.map_nil]); try rfl) ?_
    with_reducible refine (spec_NarrowSels.calls k _ _ mine _ _ theirs _ ss _ (Kd.C_below HM.out.2 EB.out) HM.out.1 (Kd.C_below HT.out.2 EB.out) HT.out.1 HSn.out).mono ?_
    rintro e w9 ⟨v9, rfl, _, hb⟩
    refine ⟨_, rfl, ?_⟩
    have n1' := Aside0.mk (below_then EB.out EB.out.size hb); clear EB; have EB := n1'; clear n1'
    refine hK.out _ _ (cB hb hH) (fun hH2 => ?_)
    clear hK K hH
    have hH := hH2
    clear hH2 hb
    refine norm_ (a' := ?_) ?_ ?_
    rotate_left
    · (show Act.put _ (some 32) _ = _; simp only [Act.put, List.setIfInBounds_toArray, List.set_cons_zero, List.set_cons_succ, i64_w, i32_w]; rfl)
    refine pz 3 (some 33) #[true, true, true, true, true, true, false, false] ?_
    refine pz 6 (some 36) #[true, true, true, true, true, true, true, false] ?_
    refine pz 7 (some 2) #[true, true, true, true, true, true, true, true] ?_
    refine done_ (by kernel_rfl) ?_
    go_wp2
    go_ret
    exact ⟨rfl, below_then E1.out E1.out.size EB.out⟩
  case inl =>
    clear EV
    unfold laws_FnNarrows.go at H
    have H1 := ifD H
    clear H
    rcases H1 with ⟨hlm, H⟩ | ⟨_, H⟩
    case inr => exact noneE H
    replace hlm := of_decide_eq_true hlm
    obtain ⟨⟨hs0, p0, p1, p2, p3, p4, p5, ld⟩, hh, H1⟩ := Option.bind_eq_some_iff.mp H
    obtain ⟨L, hsm, H2⟩ := Option.bind_eq_some_iff.mp H1
    obtain ⟨_, hck, hfi⟩ := Option.bind_eq_some_iff.mp H2
    have LM := Aside0.mk hlm
    have HH := Aside0.mk hh
    have HSm := Aside0.mk hsm
    have HCk := Aside0.mk hck
    have HFi := Aside0.mk hfi
    clear H H1 H2 hlm hh hsm hck hfi
    go_enter Try.func10, Try.ntmps10
    go_wp2_with (first
      | (go_at_call 12; with_reducible refine Calls.mono (CS.viaQ D.out (laws_lwBig.calls _ _ _ _ _ (Kd.C_below HR.out D.out.bel) HC.out HBig.out)) ?_; rintro e w1 ⟨rfl, hD⟩; clear D; have D := Aside0.mk hD; clear hD)
      | (go_at_call 60; with_reducible refine Calls.mono (spec_DrawNarrowSels.calls _ _ _ _ _ _ _ (Kd.C_below HR.out D.out.bel) HC.out HD.out) ?_; rintro e w1 ⟨v0, v1, rfl, hR0, hR1, hb⟩; obtain ⟨A3, c3, rfl⟩ := Kd.R_slice hR0; obtain ⟨A4, c4, rfl⟩ := Kd.R_slice hR1; have E1 := Aside0.mk (below_then D.out.bel D.out.bel.size hb); have HM := Aside0.mk (Kd.R_reads' hR0).2; have HT := Aside0.mk (Kd.R_reads' hR1).2; clear D hR0 hR1 hb; have D := Aside0.mk (CS.startB w1))
      | (go_at_call 28; with_reducible refine Calls.mono (CS.viaR D.out (impl_NarrowSels.calls _ _ _ _ _ _ _ _ _ _ (Kd.C_below HM.out.2 D.out.bel) HM.out.1 (Kd.C_below HT.out.2 D.out.bel) HT.out.1 HN.out)) ?_; rintro e w2 ⟨A5, c5, rfl, hD⟩; clear D; have D := Aside0.mk hD; clear hD)
      | ((with_reducible refine gate_al (t := 71) rfl ?_); refine ev_box ?_; intro b7 _ hD; clear D; have D := Aside0.mk hD; clear hD; have q0 := D.out.c 0 rfl; have f0 := D.out.f 0 rfl)
      | ((with_reducible refine gate_al rfl ?_); refine ev_box ?_; intro b5 _ hD; clear D; have D := Aside0.mk hD; clear hD; have q0 := D.out.c 0 rfl; have f0 := D.out.f 0 rfl)
      | ((with_reducible refine gate_st rfl ?_); refine ev_store ?_; intro w1 hD; clear D; simp only [List.set_cons_zero, List.set_cons_succ, List.setIfInBounds_toArray] at hD; have D := Aside0.mk hD; clear hD; clear q0 f0; have q0 := D.out.c 0 rfl; have f0 := D.out.f 0 rfl)
      | ((with_reducible refine gate_lit (t := 22) rfl ?_); have HS := Aside0.mk (Kd.R_reads' (D.out.row 0 rfl)).2; have B5 := Aside0.mk (D.out.at_ 0 rfl); have E2 := Aside0.mk D.out.bel; refine lit_row (bs := []) (Kd.int .u8) 5 [3] [.int .u8 3] ?_ (CS.startB _) (Reps.one rfl (Reps.none _ _)) (by simp); intro A6 c6 w3 hD; clear D q0 f0; have D := Aside0.mk hD; clear hD)
      | ((with_reducible refine gate_ap (ts := #[22, 22]) rfl ?_); refine ev_appends (Kd.int .u8) 22 5 (.int .u8 0) 1 (.tmp 38) (.tmp 39) (ys := l0) ?_ (by have := LM.out; simp only [List.length_cons, List.length_nil]; omega) D.out (Kd.C_below (Kd.C_below (Kd.C_below HR.out E1.out) E2.out) D.out.bel) (fun _ _ h => h); intro A6 c6 w4 hD; clear D; have D := Aside0.mk hD; clear hD)
      | (go_at_call 61; with_reducible refine Calls.mono (spec_DrawHoldsAny.calls _ _ _ _ _ _ _ _ _ _ _ _ _ (Kd.R_reads' (D.out.row 0 rfl)).2.2 (Kd.R_reads' (D.out.row 0 rfl)).2.1 HH.out) ?_; rintro e w5 ⟨v0, v7, rfl, _, hR7, hb⟩; obtain ⟨A7, c7, rfl⟩ := Kd.R_slice hR7; have E3 := Aside0.mk (below_then D.out.bel D.out.bel.size hb); have HP := Aside0.mk hR7; clear D hR7 hb; have D := Aside0.mk (CS.startB w5))
      | ((with_reducible refine gate_lit (t := 83) rfl ?_); have E4 := Aside0.mk D.out.bel; refine pk_lit k71 71 (⟨p0, p1, p2, p3, p4, p5, ld⟩ : S71) [.int .i64 p0, .int .i64 p1, .int .i64 p2, .int .i64 p3, .int .i64 p4, .int .i64 p5, .slice A7 ld.length c7] ?_ (laws_FnNarrows.mkF _ _ (⟨p0, p1, p2, p3, p4, p5, ld⟩ : S71) (Kd.R_reads' HP.out).2.1 (Kd.F_below (Kd.R_F HP.out) E4.out)) rfl; intro A8 c8 w6 hL hb; clear D q0 f0; have HL := Aside0.mk hL; have EB := Aside0.mk hb; clear hL hb))
    have hm5 : mine.length ≤ 9223372036854775807 := HM.out.2.2.1
    have EW := Aside0.mk (below_then (below_then (below_then E1.out E1.out.size E2.out) (Nat.le_trans E1.out.size E2.out.size) E3.out) (Nat.le_trans (Nat.le_trans E1.out.size E2.out.size) E3.out.size) E4.out)
    have HM5 := Aside0.mk (Kd.C_below (Kd.C_below (Kd.C_below HM.out.2 E2.out) E3.out) E4.out)
    have HT5 := Aside0.mk (Kd.C_below (Kd.C_below (Kd.C_below HT.out.2 E2.out) E3.out) E4.out)
    have HS5 := Aside0.mk (Kd.C_below (Kd.C_below HS.out.2 E3.out) E4.out)
    have B55 := Aside0.mk (blk_b (blk_b B5.out E3.out) E4.out)
    have lm := HM.out.1
    have lt := HT.out.1
    have ls := HS.out.1
    have HLm := Aside0.mk lm
    have HLt := Aside0.mk lt
    have HLs := Aside0.mk ls
    clear HR HC E1 E2 E3 E4 HH HP HD HN B5 HM HT HS LM HBig lm lt ls
    go_loopg [8, 9] mine.length (fun gg v8 v9 w' => ∃ (out : List S71) (A : Option Addr) (c : Nat) (kk : Nat), v8 = .slice A out.length c ∧ v9 = .int .i64 kk ∧ kk ≤ mine.length ∧ mine.length - kk ≤ gg ∧ Aside0 (Kd.N k71 71 w' w1.heap.size (fun _ => True) (.slice A out.length c) out) ∧ Aside0 (Below w1.heap.size w1 w') ∧ Aside0 (laws_FnNarrows.smp k (mine.drop kk) out = some L))
    case atStart => exact ⟨_, _, _, 0, rfl, rfl, Nat.zero_le _, by omega, HL, EB, HSm⟩
    case round =>
      clear HL EB HSm
      obtain ⟨out, A, c, kk, rfl, rfl, hkk, hg, HL, EB, HSm⟩ := hrel
      by_cases hlt : kk < mine.length
      · have hltz : (kk : Int) < (mine.length : Int) := by omega
        obtain ⟨ad, e, hx0, hx1, hx2, hx3, hx4, hx5, hx6, hx7, hx8⟩ := at_T65 (Kd.C_below HM5.out EB.out) (kk : Int) (by omega) hltz
        have A2 := HSm.out
        rw [List.drop_eq_getElem_cons hlt, laws_FnNarrows.smp, ← getD_at mine z65 kk hlt] at A2
        change (impl_SampleOf.f k (rd_T65 mine (kk : Int)).f0.f0 (rd_T65 mine (kk : Int)).f0.f1 (rd_T65 mine (kk : Int)).f1.f0 (rd_T65 mine (kk : Int)).f1.f1 (rd_T65 mine (kk : Int)).f2.f0 (rd_T65 mine (kk : Int)).f2.f1 (rd_T65 mine (kk : Int)).f3.f0 (rd_T65 mine (kk : Int)).f3.f1 (rd_T65 mine (kk : Int)).f4).bind _ = some L at A2
        obtain ⟨⟨s0, s1, s2, s3, s4, s5, s6, s7⟩, hs, A3⟩ := Option.bind_eq_some_iff.mp A2
        have HSp := Aside0.mk hs
        have A4 := ifD A3
        rcases A4 with ⟨hlo, A4⟩ | ⟨_, A4⟩
        case inr => exact noneE A4
        have HLo := Aside0.mk (of_decide_eq_true hlo)
        have HS2 := Aside0.mk A4
        clear A2 A3 A4 hs hlo HSm
        subst e
        simp only [Int.toNat_natCast] at hx0 hx1 hx2 hx3 hx4 hx5 hx6 hx7 hx8
        go_wp2_with (first
          | (go_at_call 54; with_reducible refine Calls.mono (impl_SampleOf.calls k _ _ _ _ _ _ _ _ _ s0 s1 s2 s3 s4 s5 s6 s7 _ HSp.out) ?_; rintro e w8 ⟨v7, rfl, hR, hb⟩; obtain ⟨A9, c9, rfl⟩ := Kd.R_slice hR; have HK := Aside0.mk (laws_FnNarrows.mkF _ _ (⟨s1, s2, s3, s4, s5, s6, s7⟩ : S71) (Kd.R_reads' hR).2.1 (pk_fresh HL.out hR)); have HL2 := Aside0.mk (Kd.N_below HL.out hb); have EB2 := Aside0.mk (below_then EB.out EB.out.size hb); clear HL EB hR hb)
          | ((with_reducible refine gate_ap (ts := #[83, 83]) rfl ?_); refine pk_append (w0 := w1) k71 83 71 (.agg #[.int .i64 0, .int .i64 0, .int .i64 0, .int .i64 0, .int .i64 0, .int .i64 0, .slice none 0 0]) 72 (.tmp 52) (.tmp 59) (⟨s1, s2, s3, s4, s5, s6, s7⟩ : S71) [.int .i64 s1, .int .i64 s2, .int .i64 s3, .int .i64 s4, .int .i64 s5, .int .i64 s6, .slice A9 s7.length c9] ?_ (by have := HLo.out; omega) HL2.out EB2.out EB2.out.size HK.out; intro A1 c1 w9 hN hb; clear HL2 EB2; have HL2 := Aside0.mk hN; have EB2 := Aside0.mk hb; clear hN hb))
        go_roundg (mine.length - (kk + 1))
        case measure => omega
        case rel => exact ⟨_, A1, c1, kk + 1, by rw [List.length_append]; rfl, by go_num, by omega, by omega, HL2, EB2, HS2⟩
      · have hltz : ¬ (kk : Int) < (mine.length : Int) := by omega
        have hke : kk = mine.length := by omega
        subst hke
        obtain rfl : out = L := Option.some.inj ((by rw [List.drop_length, laws_FnNarrows.smp] : laws_FnNarrows.smp k (mine.drop mine.length) out = some out).symm.trans HSm.out)
        clear HSm hkk hg
        have hm6 : out.length ≤ 9223372036854775807 := (Kd.N_reads' HL.out).2.2.2.1
        go_wp2
        go_loopg [10] out.length (fun gg v10 w' => ∃ (ii : Nat), v10 = .int .i64 ii ∧ ii ≤ out.length ∧ out.length - ii ≤ gg ∧ Aside0 (Kd.N k71 71 w' w1.heap.size (fun _ => True) (.slice A out.length c) out) ∧ Aside0 (Below w1.heap.size w1 w') ∧ Aside0 (laws_FnNarrows.chk k mine theirs rs 0 (out.drop ii) = some ()))
        case atStart => exact ⟨0, rfl, Nat.zero_le _, by omega, HL, EB, HCk⟩
        case round =>
          clear HL EB HCk
          obtain ⟨ii, rfl, hii, hg, HL, EB, HCk⟩ := hrel
          by_cases hlt : ii < out.length
          · have hltz : (ii : Int) < (out.length : Int) := by omega
            have hi0 : (0 : Int) ≤ (ii : Int) := by omega
            obtain ⟨ad, Ap, cp, e, hx0, hx1, hx2, hx3, hx4, hx5, hx6, hl6, hc6⟩ := at_T71 (Kd.N_reads' HL.out).2.2 (ii : Int) hi0 hltz
            have A2 := HCk.out
            rw [List.drop_eq_getElem_cons hlt, laws_FnNarrows.chk, ← getD_at out z71 ii hlt] at A2
            change (laws_FnNarrows.two k mine theirs (rd_T71 out (ii : Int))).bind _ = some () at A2
            obtain ⟨bt, ht, A3⟩ := Option.bind_eq_some_iff.mp A2
            obtain ⟨bs, hs, A4⟩ := Option.bind_eq_some_iff.mp A3
            have A5' := ifB' A4
            obtain ⟨rfl, A6⟩ := A5'
            have HC2 := Aside0.mk A6
            have HSel := Aside0.mk hs
            unfold laws_FnNarrows.two at ht
            obtain ⟨ba, hba, ht2⟩ := Option.bind_eq_some_iff.mp ht
            have HBa : Aside0 (impl_HoldsAny.f k mine (rd_T71 out (ii : Int)).f0 (rd_T71 out (ii : Int)).f1 (rd_T71 out (ii : Int)).f2 (rd_T71 out (ii : Int)).f3 (rd_T71 out (ii : Int)).f4 (rd_T71 out (ii : Int)).f5 (rd_T71 out (ii : Int)).f6 = some ba) := ⟨hba⟩
            clear A2 A3 A4 A6 hs ht hba HCk
            subst e
            simp only [Int.toNat_natCast] at hx0 hx1 hx2 hx3 hx4 hx5 hx6
            have HP6 := Aside0.mk hc6
            have HPl := Aside0.mk hl6
            clear hc6 hl6
            cases bt <;> cases ba
            all_goals first | (simp at ht2; done) | skip
            all_goals
              (try have HBb : Aside0 (impl_HoldsAny.f k theirs (rd_T71 out (ii : Int)).f0 (rd_T71 out (ii : Int)).f1 (rd_T71 out (ii : Int)).f2 (rd_T71 out (ii : Int)).f3 (rd_T71 out (ii : Int)).f4 (rd_T71 out (ii : Int)).f5 (rd_T71 out (ii : Int)).f6 = some _) := ⟨(if_pos rfl).symm.trans ht2⟩)
              clear ht2
              go_wp2_with (first
                | (go_at_call 62; with_reducible refine Calls.mono (impl_HoldsAny.calls k _ _ mine _ _ _ _ _ _ _ _ _ _ _ (Kd.C_below HM5.out EB.out) HLm.out HP6.out HPl.out HBa.out) ?_; rintro e w7 ⟨rfl, hb⟩; have n0 := Aside0.mk (below_then EB.out EB.out.size hb); have n1 := Aside0.mk (Kd.N_below HL.out hb); have n2 := Aside0.mk (Kd.C_below HP6.out hb); clear EB HL HP6; have EB := n0; have HL := n1; have HP6 := n2; clear n0 n1 n2; replace hx0 := cB hb hx0; replace hx1 := cB hb hx1; replace hx2 := cB hb hx2; replace hx3 := cB hb hx3; replace hx4 := cB hb hx4; replace hx5 := cB hb hx5; replace hx6 := cB hb hx6; clear hb)
                | (go_at_call 62; with_reducible refine Calls.mono (impl_HoldsAny.calls k _ _ theirs _ _ _ _ _ _ _ _ _ _ _ (Kd.C_below HT5.out EB.out) HLt.out HP6.out HPl.out HBb.out) ?_; rintro e w7 ⟨rfl, hb⟩; have n0 := Aside0.mk (below_then EB.out EB.out.size hb); have n1 := Aside0.mk (Kd.N_below HL.out hb); have n2 := Aside0.mk (Kd.C_below HP6.out hb); clear EB HL HP6; have EB := n0; have HL := n1; have HP6 := n2; clear n0 n1 n2; replace hx0 := cB hb hx0; replace hx1 := cB hb hx1; replace hx2 := cB hb hx2; replace hx3 := cB hb hx3; replace hx4 := cB hb hx4; replace hx5 := cB hb hx5; replace hx6 := cB hb hx6; clear hb))
              have B5w := blk_b B55.out EB.out
              refine rg_start (n := 14) (S := fun w' => w'.cell? ⟨b5, 0, none⟩ = some (.int .i64 0) ∧ w'.cell? ⟨b5, 1, none⟩ = some (.slice A5 rs.length c5) ∧ w'.cell? (ad.add (ii * 7)) = some (.int .i64 (rd_T71 out (ii : Int)).f0) ∧ w'.cell? ⟨(ad.add (ii * 7)).block, (ad.add (ii * 7)).off + 1, none⟩ = some (.int .i64 (rd_T71 out (ii : Int)).f1) ∧ w'.cell? ⟨(ad.add (ii * 7)).block, (ad.add (ii * 7)).off + 2, none⟩ = some (.int .i64 (rd_T71 out (ii : Int)).f2) ∧ w'.cell? ⟨(ad.add (ii * 7)).block, (ad.add (ii * 7)).off + 3, none⟩ = some (.int .i64 (rd_T71 out (ii : Int)).f3) ∧ w'.cell? ⟨(ad.add (ii * 7)).block, (ad.add (ii * 7)).off + 4, none⟩ = some (.int .i64 (rd_T71 out (ii : Int)).f4) ∧ w'.cell? ⟨(ad.add (ii * 7)).block, (ad.add (ii * 7)).off + 5, none⟩ = some (.int .i64 (rd_T71 out (ii : Int)).f5) ∧ w'.cell? ⟨(ad.add (ii * 7)).block, (ad.add (ii * 7)).off + 6, none⟩ = some (.slice Ap (rd_T71 out (ii : Int)).f6.length cp)) #[false, false, false, false, false, false, false, false, false, false, false, false, false, false] (fun W' hb => ⟨cB hb ((blk_cell B5w 0).trans rfl), cB hb ((blk_cell B5w 1).trans rfl), cB hb hx0, cB hb hx1, cB hb hx2, cB hb hx3, cB hb hx4, cB hb hx5, cB hb hx6⟩) (fun w8 hb hH => ?_)
              have n0 := Aside0.mk (below_then EB.out EB.out.size hb); have n1 := Aside0.mk (Kd.N_below HL.out hb); have n2 := Aside0.mk (Kd.C_below HP6.out hb); clear EB HL HP6; have EB := n0; have HL := n1; have HP6 := n2; clear n0 n1 n2
              clear hb B5w hx0 hx1 hx2 hx3 hx4 hx5 hx6
              have HSl : Aside0 (impl_HoldsAny.f k rs (rd_T71 out (ii : Int)).f0 (rd_T71 out (ii : Int)).f1 (rd_T71 out (ii : Int)).f2 (rd_T71 out (ii : Int)).f3 (rd_T71 out (ii : Int)).f4 (rd_T71 out (ii : Int)).f5 (rd_T71 out (ii : Int)).f6 = some _) := ⟨HSel.out⟩
              refine pz 0 (some 81) #[true, false, false, false, false, false, false, false, false, false, false, false, false, false] ?_
              refine pz 1 (some 82) #[true, true, false, false, false, false, false, false, false, false, false, false, false, false] ?_
              refine tz 2 (some 83) #[true, true, true, false, false, false, false, false, false, false, false, false, false, false] hH ?_
              refine pz 3 (some 84) #[true, true, true, true, false, false, false, false, false, false, false, false, false, false] ?_
              refine pz 4 (some 85) #[true, true, true, true, true, false, false, false, false, false, false, false, false, false] ?_
              refine pz 5 (some 86) #[true, true, true, true, true, true, false, false, false, false, false, false, false, false] ?_
              refine pz 7 (some 88) #[true, true, true, true, true, true, false, true, false, false, false, false, false, false] ?_
              refine pz 8 (some 89) #[true, true, true, true, true, true, false, true, true, false, false, false, false, false] ?_
              refine pz 9 (some 90) #[true, true, true, true, true, true, false, true, true, true, false, false, false, false] ?_
              refine tz 6 (some 87) #[true, true, true, true, true, true, true, true, true, true, false, false, false, false] hH ?_
              refine tz 10 (some 91) #[true, true, true, true, true, true, true, true, true, true, true, false, false, false] hH ?_
              refine one_ (i := 11) (N := some 92) #[true, true, true, true, true, true, true, true, true, true, true, true, false, false] rfl rfl (by kernel_rfl) (by decide) (fun K hK => ?_)
              refine goes_ Try.func62 (by kernel_rfl) rfl #[.slice A5 rs.length c5, .agg #[.int .i64 (rd_T71 out (ii : Int)).f0, .int .i64 (rd_T71 out (ii : Int)).f1, .int .i64 (rd_T71 out (ii : Int)).f2, .int .i64 (rd_T71 out (ii : Int)).f3, .int .i64 (rd_T71 out (ii : Int)).f4, .int .i64 (rd_T71 out (ii : Int)).f5, .slice Ap (rd_T71 out (ii : Int)).f6.length cp]] (by rfl) rfl rfl (by (try simp only [List.map_toArray, List.map_cons, List.map_nil]); try rfl) ?_
              with_reducible refine (impl_HoldsAny.calls k _ _ rs _ _ _ _ _ _ _ _ _ _ _ (Kd.C_below HS5.out EB.out) HLs.out HP6.out HPl.out HSl.out).mono ?_
              rintro e w9 ⟨rfl, hb⟩
              refine ⟨_, rfl, ?_⟩
              have n0 := Aside0.mk (below_then EB.out EB.out.size hb); have n1 := Aside0.mk (Kd.N_below HL.out hb); have n2 := Aside0.mk (Kd.C_below HP6.out hb); clear EB HL HP6; have EB := n0; have HL := n1; have HP6 := n2; clear n0 n1 n2
              refine hK.out _ _ ⟨cB hb hH.1, cB hb hH.2.1, cB hb hH.2.2.1, cB hb hH.2.2.2.1, cB hb hH.2.2.2.2.1, cB hb hH.2.2.2.2.2.1, cB hb hH.2.2.2.2.2.2.1, cB hb hH.2.2.2.2.2.2.2.1, cB hb hH.2.2.2.2.2.2.2.2⟩ (fun hH2 => ?_)
              clear hK K hH
              have hH := hH2
              clear hH2 hb
              refine norm_ (a' := ?_) ?_ ?_
              rotate_left
              · (show Act.put _ (some 92) _ = _; simp only [Act.put, List.setIfInBounds_toArray, List.set_cons_zero, List.set_cons_succ, i64_w, i32_w]; rfl)
              refine pz 12 (some 93) #[true, true, true, true, true, true, true, true, true, true, true, true, true, false] ?_
              refine pz 13 (some 94) #[true, true, true, true, true, true, true, true, true, true, true, true, true, true] ?_
              refine done_ (by kernel_rfl) ?_
              go_wp2
              go_roundg (out.length - (ii + 1))
              case measure => omega
              case rel => exact ⟨ii + 1, by go_num, by omega, by omega, HL, EB, HC2⟩
          · have hltz : ¬ (ii : Int) < (out.length : Int) := by omega
            have hie : ii = out.length := by omega
            subst hie
            have H0 := HFi.out
            unfold laws_FnNarrows.fin at H0
            have H1 := ifD H0
            rcases H1 with ⟨hl1, H2⟩ | ⟨_, H2⟩
            case inr => exact noneE H2
            replace hl1 := of_decide_eq_true hl1
            obtain ⟨ba, hba, H3⟩ := Option.bind_eq_some_iff.mp H2
            have H4 := ifB H3
            rcases H4 with ⟨rfl, H5⟩ | ⟨_, H5⟩
            case inr => exact noneE H5
            obtain ⟨⟨sc, ss⟩, hsn, H6⟩ := Option.bind_eq_some_iff.mp H5
            have H7 := ifD H6
            rcases H7 with ⟨hsc, _⟩ | ⟨_, H8⟩
            case inr => exact noneE H8
            obtain rfl := of_decide_eq_true hsc
            have HBa : Aside0 (impl_HoldsAny.f k mine (rd_T71 out 1).f0 (rd_T71 out 1).f1 (rd_T71 out 1).f2 (rd_T71 out 1).f3 (rd_T71 out 1).f4 (rd_T71 out 1).f5 (rd_T71 out 1).f6 = some true) := ⟨hba⟩
            have HSn := Aside0.mk hsn
            clear H0 H2 H3 H5 H6 hba hsn hsc HFi HCk
            obtain ⟨ad, Ap, cp, e, hx0, hx1, hx2, hx3, hx4, hx5, hx6, hl6, hc6⟩ := at_T71 (Kd.N_reads' HL.out).2.2 (1 : Int) (by decide) (by omega)
            subst e
            simp only [show (1 : Int).toNat * 7 = 7 from rfl, show ad.add 7 = (⟨ad.block, ad.off + 7, none⟩ : Addr) from rfl] at hx0 hx1 hx2 hx3 hx4 hx5 hx6
            have hone : (1 : Int) < (out.length : Int) := by omega
            have HP6 := Aside0.mk hc6
            have HPl := Aside0.mk hl6
            clear hc6 hl6
            go_wp2
            have B5w := blk_b B55.out EB.out
            refine rg_start (n := 15) (S := fun w' => w'.cell? ⟨b5, 0, none⟩ = some (.int .i64 0) ∧ w'.cell? ⟨b5, 1, none⟩ = some (.slice A5 rs.length c5) ∧ w'.cell? ⟨ad.block, ad.off + 7, none⟩ = some (.int .i64 (rd_T71 out 1).f0) ∧ w'.cell? ⟨ad.block, ad.off + 7 + 1, none⟩ = some (.int .i64 (rd_T71 out 1).f1) ∧ w'.cell? ⟨ad.block, ad.off + 7 + 2, none⟩ = some (.int .i64 (rd_T71 out 1).f2) ∧ w'.cell? ⟨ad.block, ad.off + 7 + 3, none⟩ = some (.int .i64 (rd_T71 out 1).f3) ∧ w'.cell? ⟨ad.block, ad.off + 7 + 4, none⟩ = some (.int .i64 (rd_T71 out 1).f4) ∧ w'.cell? ⟨ad.block, ad.off + 7 + 5, none⟩ = some (.int .i64 (rd_T71 out 1).f5) ∧ w'.cell? ⟨ad.block, ad.off + 7 + 6, none⟩ = some (.slice Ap (rd_T71 out 1).f6.length cp)) #[false, false, false, false, false, false, false, false, false, false, false, false, false, false, false] (fun W' hb => ⟨cB hb ((blk_cell B5w 0).trans rfl), cB hb ((blk_cell B5w 1).trans rfl), cB hb hx0, cB hb hx1, cB hb hx2, cB hb hx3, cB hb hx4, cB hb hx5, cB hb hx6⟩) (fun w8 hb hH => ?_)
            have n0 := Aside0.mk (below_then EB.out EB.out.size hb); have n1 := Aside0.mk (Kd.N_below HL.out hb); have n2 := Aside0.mk (Kd.C_below HP6.out hb); clear EB HL HP6; have EB := n0; have HL := n1; have HP6 := n2; clear n0 n1 n2
            clear hb B5w hx0 hx1 hx2 hx3 hx4 hx5 hx6
            refine pz 0 (some 95) #[true, false, false, false, false, false, false, false, false, false, false, false, false, false, false] ?_
            refine pz 1 (some 96) #[true, true, false, false, false, false, false, false, false, false, false, false, false, false, false] ?_
            refine pz 2 (some 97) #[true, true, true, false, false, false, false, false, false, false, false, false, false, false, false] ?_
            refine tz 3 (some 98) #[true, true, true, true, false, false, false, false, false, false, false, false, false, false, false] hH ?_
            refine one_ (i := 4) (N := some 99) #[true, true, true, true, true, false, false, false, false, false, false, false, false, false, false] rfl rfl (by kernel_rfl) (by decide) (fun K hK => ?_)
            refine goes_ Try.func62 (by kernel_rfl) rfl #[.slice A3 mine.length c3, .agg #[.int .i64 (rd_T71 out 1).f0, .int .i64 (rd_T71 out 1).f1, .int .i64 (rd_T71 out 1).f2, .int .i64 (rd_T71 out 1).f3, .int .i64 (rd_T71 out 1).f4, .int .i64 (rd_T71 out 1).f5, .slice Ap (rd_T71 out 1).f6.length cp]] (by rfl) rfl rfl (by (try simp only [List.map_toArray, List.map_cons, List.map_nil]); try rfl) ?_
            with_reducible refine (impl_HoldsAny.calls k _ _ mine _ _ _ _ _ _ _ _ _ true _ (Kd.C_below HM5.out EB.out) HLm.out HP6.out HPl.out HBa.out).mono ?_
            rintro e w9 ⟨rfl, hb⟩
            refine ⟨_, rfl, ?_⟩
            have n0 := Aside0.mk (below_then EB.out EB.out.size hb); have n1 := Aside0.mk (Kd.N_below HL.out hb); have n2 := Aside0.mk (Kd.C_below HP6.out hb); clear EB HL HP6; have EB := n0; have HL := n1; have HP6 := n2; clear n0 n1 n2
            refine hK.out _ _ ⟨cB hb hH.1, cB hb hH.2.1, cB hb hH.2.2.1, cB hb hH.2.2.2.1, cB hb hH.2.2.2.2.1, cB hb hH.2.2.2.2.2.1, cB hb hH.2.2.2.2.2.2.1, cB hb hH.2.2.2.2.2.2.2.1, cB hb hH.2.2.2.2.2.2.2.2⟩ (fun hH2 => ?_)
            clear hK K hH
            have hH := hH2
            clear hH2 hb
            refine norm_ (a' := ?_) ?_ ?_
            rotate_left
            · (show Act.put _ (some 99) _ = _; simp only [Act.put, List.setIfInBounds_toArray, List.set_cons_zero, List.set_cons_succ, i64_w, i32_w]; rfl)
            refine pz 5 (some 100) #[true, true, true, true, true, true, false, false, false, false, false, false, false, false, false] ?_
            refine pz 6 (some 101) #[true, true, true, true, true, true, true, false, false, false, false, false, false, false, false] ?_
            refine pz 8 (some 103) #[true, true, true, true, true, true, true, false, true, false, false, false, false, false, false] ?_
            refine pz 9 (some 104) #[true, true, true, true, true, true, true, false, true, true, false, false, false, false, false] ?_
            refine tz 7 (some 102) #[true, true, true, true, true, true, true, true, true, true, false, false, false, false, false] hH ?_
            refine one_ (i := 10) (N := some 105) #[true, true, true, true, true, true, true, true, true, true, true, false, false, false, false] rfl rfl (by kernel_rfl) (by decide) (fun K hK => ?_)
            refine goes_ Try.func26 (by kernel_rfl) rfl #[.slice A3 mine.length c3, .slice A4 theirs.length c4] (by rfl) rfl rfl (by (try simp only [List.map_toArray, List.map_cons, List.map_nil]); try rfl) ?_
            with_reducible refine (spec_NarrowSels.calls k _ _ mine _ _ theirs _ ss _ (Kd.C_below HM5.out EB.out) HLm.out (Kd.C_below HT5.out EB.out) HLt.out HSn.out).mono ?_
            rintro e w9 ⟨v9, rfl, _, hb⟩
            refine ⟨_, rfl, ?_⟩
            have n0 := Aside0.mk (below_then EB.out EB.out.size hb); have n1 := Aside0.mk (Kd.N_below HL.out hb); have n2 := Aside0.mk (Kd.C_below HP6.out hb); clear EB HL HP6; have EB := n0; have HL := n1; have HP6 := n2; clear n0 n1 n2
            refine hK.out _ _ ⟨cB hb hH.1, cB hb hH.2.1, cB hb hH.2.2.1, cB hb hH.2.2.2.1, cB hb hH.2.2.2.2.1, cB hb hH.2.2.2.2.2.1, cB hb hH.2.2.2.2.2.2.1, cB hb hH.2.2.2.2.2.2.2.1, cB hb hH.2.2.2.2.2.2.2.2⟩ (fun hH2 => ?_)
            clear hK K hH
            have hH := hH2
            clear hH2 hb
            refine norm_ (a' := ?_) ?_ ?_
            rotate_left
            · (show Act.put _ (some 105) _ = _; simp only [Act.put, List.setIfInBounds_toArray, List.set_cons_zero, List.set_cons_succ, i64_w, i32_w]; rfl)
            refine pz 11 (some 106) #[true, true, true, true, true, true, true, true, true, true, true, true, false, false, false] ?_
            refine pz 12 (some 107) #[true, true, true, true, true, true, true, true, true, true, true, true, true, false, false] ?_
            refine pz 13 (some 108) #[true, true, true, true, true, true, true, true, true, true, true, true, true, true, false] ?_
            refine pz 14 (some 2) #[true, true, true, true, true, true, true, true, true, true, true, true, true, true, true] ?_
            refine done_ (by kernel_rfl) ?_
            go_wp2
            go_ret
            exact ⟨rfl, below_then EW.out EW.out.size EB.out⟩
  case inr.inl =>
    clear EV
    unfold laws_FnNarrows.go at H
    have H1 := ifD H
    clear H
    rcases H1 with ⟨hlm, H⟩ | ⟨_, H⟩
    case inr => exact noneE H
    replace hlm := of_decide_eq_true hlm
    obtain ⟨⟨hs0, p0, p1, p2, p3, p4, p5, ld⟩, hh, H1⟩ := Option.bind_eq_some_iff.mp H
    obtain ⟨L, hsm, H2⟩ := Option.bind_eq_some_iff.mp H1
    obtain ⟨_, hck, hfi⟩ := Option.bind_eq_some_iff.mp H2
    have LM := Aside0.mk hlm
    have HH := Aside0.mk hh
    have HSm := Aside0.mk hsm
    have HCk := Aside0.mk hck
    have HFi := Aside0.mk hfi
    clear H H1 H2 hlm hh hsm hck hfi
    go_enter Try.func10, Try.ntmps10
    go_wp2_with (first
      | (go_at_call 12; with_reducible refine Calls.mono (CS.viaQ D.out (laws_lwBig.calls _ _ _ _ _ (Kd.C_below HR.out D.out.bel) HC.out HBig.out)) ?_; rintro e w1 ⟨rfl, hD⟩; clear D; have D := Aside0.mk hD; clear hD)
      | (go_at_call 60; with_reducible refine Calls.mono (spec_DrawNarrowSels.calls _ _ _ _ _ _ _ (Kd.C_below HR.out D.out.bel) HC.out HD.out) ?_; rintro e w1 ⟨v0, v1, rfl, hR0, hR1, hb⟩; obtain ⟨A3, c3, rfl⟩ := Kd.R_slice hR0; obtain ⟨A4, c4, rfl⟩ := Kd.R_slice hR1; have E1 := Aside0.mk (below_then D.out.bel D.out.bel.size hb); have HM := Aside0.mk (Kd.R_reads' hR0).2; have HT := Aside0.mk (Kd.R_reads' hR1).2; clear D hR0 hR1 hb; have D := Aside0.mk (CS.startB w1))
      | (go_at_call 28; with_reducible refine Calls.mono (CS.viaR D.out (impl_NarrowSels.calls _ _ _ _ _ _ _ _ _ _ (Kd.C_below HM.out.2 D.out.bel) HM.out.1 (Kd.C_below HT.out.2 D.out.bel) HT.out.1 HN.out)) ?_; rintro e w2 ⟨A5, c5, rfl, hD⟩; clear D; have D := Aside0.mk hD; clear hD)
      | ((with_reducible refine gate_al (t := 71) rfl ?_); refine ev_box ?_; intro b7 _ hD; clear D; have D := Aside0.mk hD; clear hD; have q0 := D.out.c 0 rfl; have f0 := D.out.f 0 rfl)
      | ((with_reducible refine gate_al rfl ?_); refine ev_box ?_; intro b5 _ hD; clear D; have D := Aside0.mk hD; clear hD; have q0 := D.out.c 0 rfl; have f0 := D.out.f 0 rfl)
      | ((with_reducible refine gate_st rfl ?_); refine ev_store ?_; intro w1 hD; clear D; simp only [List.set_cons_zero, List.set_cons_succ, List.setIfInBounds_toArray] at hD; have D := Aside0.mk hD; clear hD; clear q0 f0; have q0 := D.out.c 0 rfl; have f0 := D.out.f 0 rfl)
      | ((with_reducible refine gate_lit (t := 22) rfl ?_); have HS := Aside0.mk (Kd.R_reads' (D.out.row 0 rfl)).2; have B5 := Aside0.mk (D.out.at_ 0 rfl); have E2 := Aside0.mk D.out.bel; refine lit_row (bs := []) (Kd.int .u8) 5 [3] [.int .u8 3] ?_ (CS.startB _) (Reps.one rfl (Reps.none _ _)) (by simp); intro A6 c6 w3 hD; clear D q0 f0; have D := Aside0.mk hD; clear hD)
      | ((with_reducible refine gate_ap (ts := #[22, 22]) rfl ?_); refine ev_appends (Kd.int .u8) 22 5 (.int .u8 0) 1 (.tmp 38) (.tmp 39) (ys := l0) ?_ (by have := LM.out; simp only [List.length_cons, List.length_nil]; omega) D.out (Kd.C_below (Kd.C_below (Kd.C_below HR.out E1.out) E2.out) D.out.bel) (fun _ _ h => h); intro A6 c6 w4 hD; clear D; have D := Aside0.mk hD; clear hD)
      | (go_at_call 61; with_reducible refine Calls.mono (spec_DrawHoldsAny.calls _ _ _ _ _ _ _ _ _ _ _ _ _ (Kd.R_reads' (D.out.row 0 rfl)).2.2 (Kd.R_reads' (D.out.row 0 rfl)).2.1 HH.out) ?_; rintro e w5 ⟨v0, v7, rfl, _, hR7, hb⟩; obtain ⟨A7, c7, rfl⟩ := Kd.R_slice hR7; have E3 := Aside0.mk (below_then D.out.bel D.out.bel.size hb); have HP := Aside0.mk hR7; clear D hR7 hb; have D := Aside0.mk (CS.startB w5))
      | ((with_reducible refine gate_lit (t := 83) rfl ?_); have E4 := Aside0.mk D.out.bel; refine pk_lit k71 71 (⟨p0, p1, p2, p3, p4, p5, ld⟩ : S71) [.int .i64 p0, .int .i64 p1, .int .i64 p2, .int .i64 p3, .int .i64 p4, .int .i64 p5, .slice A7 ld.length c7] ?_ (laws_FnNarrows.mkF _ _ (⟨p0, p1, p2, p3, p4, p5, ld⟩ : S71) (Kd.R_reads' HP.out).2.1 (Kd.F_below (Kd.R_F HP.out) E4.out)) rfl; intro A8 c8 w6 hL hb; clear D q0 f0; have HL := Aside0.mk hL; have EB := Aside0.mk hb; clear hL hb))
    have hm5 : mine.length ≤ 9223372036854775807 := HM.out.2.2.1
    have EW := Aside0.mk (below_then (below_then (below_then E1.out E1.out.size E2.out) (Nat.le_trans E1.out.size E2.out.size) E3.out) (Nat.le_trans (Nat.le_trans E1.out.size E2.out.size) E3.out.size) E4.out)
    have HM5 := Aside0.mk (Kd.C_below (Kd.C_below (Kd.C_below HM.out.2 E2.out) E3.out) E4.out)
    have HT5 := Aside0.mk (Kd.C_below (Kd.C_below (Kd.C_below HT.out.2 E2.out) E3.out) E4.out)
    have HS5 := Aside0.mk (Kd.C_below (Kd.C_below HS.out.2 E3.out) E4.out)
    have B55 := Aside0.mk (blk_b (blk_b B5.out E3.out) E4.out)
    have lm := HM.out.1
    have lt := HT.out.1
    have ls := HS.out.1
    have HLm := Aside0.mk lm
    have HLt := Aside0.mk lt
    have HLs := Aside0.mk ls
    clear HR HC E1 E2 E3 E4 HH HP HD HN B5 HM HT HS LM HBig lm lt ls
    go_loopg [8, 9] mine.length (fun gg v8 v9 w' => ∃ (out : List S71) (A : Option Addr) (c : Nat) (kk : Nat), v8 = .slice A out.length c ∧ v9 = .int .i64 kk ∧ kk ≤ mine.length ∧ mine.length - kk ≤ gg ∧ Aside0 (Kd.N k71 71 w' w1.heap.size (fun _ => True) (.slice A out.length c) out) ∧ Aside0 (Below w1.heap.size w1 w') ∧ Aside0 (laws_FnNarrows.smp k (mine.drop kk) out = some L))
    case atStart => exact ⟨_, _, _, 0, rfl, rfl, Nat.zero_le _, by omega, HL, EB, HSm⟩
    case round =>
      clear HL EB HSm
      obtain ⟨out, A, c, kk, rfl, rfl, hkk, hg, HL, EB, HSm⟩ := hrel
      by_cases hlt : kk < mine.length
      · have hltz : (kk : Int) < (mine.length : Int) := by omega
        obtain ⟨ad, e, hx0, hx1, hx2, hx3, hx4, hx5, hx6, hx7, hx8⟩ := at_T65 (Kd.C_below HM5.out EB.out) (kk : Int) (by omega) hltz
        have A2 := HSm.out
        rw [List.drop_eq_getElem_cons hlt, laws_FnNarrows.smp, ← getD_at mine z65 kk hlt] at A2
        change (impl_SampleOf.f k (rd_T65 mine (kk : Int)).f0.f0 (rd_T65 mine (kk : Int)).f0.f1 (rd_T65 mine (kk : Int)).f1.f0 (rd_T65 mine (kk : Int)).f1.f1 (rd_T65 mine (kk : Int)).f2.f0 (rd_T65 mine (kk : Int)).f2.f1 (rd_T65 mine (kk : Int)).f3.f0 (rd_T65 mine (kk : Int)).f3.f1 (rd_T65 mine (kk : Int)).f4).bind _ = some L at A2
        obtain ⟨⟨s0, s1, s2, s3, s4, s5, s6, s7⟩, hs, A3⟩ := Option.bind_eq_some_iff.mp A2
        have HSp := Aside0.mk hs
        have A4 := ifD A3
        rcases A4 with ⟨hlo, A4⟩ | ⟨_, A4⟩
        case inr => exact noneE A4
        have HLo := Aside0.mk (of_decide_eq_true hlo)
        have HS2 := Aside0.mk A4
        clear A2 A3 A4 hs hlo HSm
        subst e
        simp only [Int.toNat_natCast] at hx0 hx1 hx2 hx3 hx4 hx5 hx6 hx7 hx8
        go_wp2_with (first
          | (go_at_call 54; with_reducible refine Calls.mono (impl_SampleOf.calls k _ _ _ _ _ _ _ _ _ s0 s1 s2 s3 s4 s5 s6 s7 _ HSp.out) ?_; rintro e w8 ⟨v7, rfl, hR, hb⟩; obtain ⟨A9, c9, rfl⟩ := Kd.R_slice hR; have HK := Aside0.mk (laws_FnNarrows.mkF _ _ (⟨s1, s2, s3, s4, s5, s6, s7⟩ : S71) (Kd.R_reads' hR).2.1 (pk_fresh HL.out hR)); have HL2 := Aside0.mk (Kd.N_below HL.out hb); have EB2 := Aside0.mk (below_then EB.out EB.out.size hb); clear HL EB hR hb)
          | ((with_reducible refine gate_ap (ts := #[83, 83]) rfl ?_); refine pk_append (w0 := w1) k71 83 71 (.agg #[.int .i64 0, .int .i64 0, .int .i64 0, .int .i64 0, .int .i64 0, .int .i64 0, .slice none 0 0]) 72 (.tmp 52) (.tmp 59) (⟨s1, s2, s3, s4, s5, s6, s7⟩ : S71) [.int .i64 s1, .int .i64 s2, .int .i64 s3, .int .i64 s4, .int .i64 s5, .int .i64 s6, .slice A9 s7.length c9] ?_ (by have := HLo.out; omega) HL2.out EB2.out EB2.out.size HK.out; intro A1 c1 w9 hN hb; clear HL2 EB2; have HL2 := Aside0.mk hN; have EB2 := Aside0.mk hb; clear hN hb))
        go_roundg (mine.length - (kk + 1))
        case measure => omega
        case rel => exact ⟨_, A1, c1, kk + 1, by rw [List.length_append]; rfl, by go_num, by omega, by omega, HL2, EB2, HS2⟩
      · have hltz : ¬ (kk : Int) < (mine.length : Int) := by omega
        have hke : kk = mine.length := by omega
        subst hke
        obtain rfl : out = L := Option.some.inj ((by rw [List.drop_length, laws_FnNarrows.smp] : laws_FnNarrows.smp k (mine.drop mine.length) out = some out).symm.trans HSm.out)
        clear HSm hkk hg
        have hm6 : out.length ≤ 9223372036854775807 := (Kd.N_reads' HL.out).2.2.2.1
        go_wp2
        go_loopg [10] out.length (fun gg v10 w' => ∃ (ii : Nat), v10 = .int .i64 ii ∧ ii ≤ out.length ∧ out.length - ii ≤ gg ∧ Aside0 (Kd.N k71 71 w' w1.heap.size (fun _ => True) (.slice A out.length c) out) ∧ Aside0 (Below w1.heap.size w1 w') ∧ Aside0 (laws_FnNarrows.chk k mine theirs rs 4 (out.drop ii) = some ()))
        case atStart => exact ⟨0, rfl, Nat.zero_le _, by omega, HL, EB, HCk⟩
        case round =>
          clear HL EB HCk
          obtain ⟨ii, rfl, hii, hg, HL, EB, HCk⟩ := hrel
          by_cases hlt : ii < out.length
          · have hltz : (ii : Int) < (out.length : Int) := by omega
            have hi0 : (0 : Int) ≤ (ii : Int) := by omega
            obtain ⟨ad, Ap, cp, e, hx0, hx1, hx2, hx3, hx4, hx5, hx6, hl6, hc6⟩ := at_T71 (Kd.N_reads' HL.out).2.2 (ii : Int) hi0 hltz
            have A2 := HCk.out
            rw [List.drop_eq_getElem_cons hlt, laws_FnNarrows.chk, ← getD_at out z71 ii hlt] at A2
            change (laws_FnNarrows.two k mine theirs (rd_T71 out (ii : Int))).bind _ = some () at A2
            obtain ⟨bt, ht, A3⟩ := Option.bind_eq_some_iff.mp A2
            obtain ⟨bs, hs, A4⟩ := Option.bind_eq_some_iff.mp A3
            have A5' := ifB' A4
            obtain ⟨rfl, A6⟩ := A5'
            have HC2 := Aside0.mk A6
            have HSel := Aside0.mk hs
            unfold laws_FnNarrows.two at ht
            obtain ⟨ba, hba, ht2⟩ := Option.bind_eq_some_iff.mp ht
            have HBa : Aside0 (impl_HoldsAny.f k mine (rd_T71 out (ii : Int)).f0 (rd_T71 out (ii : Int)).f1 (rd_T71 out (ii : Int)).f2 (rd_T71 out (ii : Int)).f3 (rd_T71 out (ii : Int)).f4 (rd_T71 out (ii : Int)).f5 (rd_T71 out (ii : Int)).f6 = some ba) := ⟨hba⟩
            clear A2 A3 A4 A6 hs ht hba HCk
            subst e
            simp only [Int.toNat_natCast] at hx0 hx1 hx2 hx3 hx4 hx5 hx6
            have HP6 := Aside0.mk hc6
            have HPl := Aside0.mk hl6
            clear hc6 hl6
            cases bt <;> cases ba
            all_goals first | (simp at ht2; done) | skip
            all_goals first | (have HSl := Option.some.inj HSel.out; cases HSl; done) | skip
            all_goals
              (try have HBb : Aside0 (impl_HoldsAny.f k theirs (rd_T71 out (ii : Int)).f0 (rd_T71 out (ii : Int)).f1 (rd_T71 out (ii : Int)).f2 (rd_T71 out (ii : Int)).f3 (rd_T71 out (ii : Int)).f4 (rd_T71 out (ii : Int)).f5 (rd_T71 out (ii : Int)).f6 = some _) := ⟨(if_pos rfl).symm.trans ht2⟩)
              clear ht2
              go_wp2_with (first
                | (go_at_call 62; with_reducible refine Calls.mono (impl_HoldsAny.calls k _ _ mine _ _ _ _ _ _ _ _ _ _ _ (Kd.C_below HM5.out EB.out) HLm.out HP6.out HPl.out HBa.out) ?_; rintro e w7 ⟨rfl, hb⟩; have n0 := Aside0.mk (below_then EB.out EB.out.size hb); have n1 := Aside0.mk (Kd.N_below HL.out hb); have n2 := Aside0.mk (Kd.C_below HP6.out hb); clear EB HL HP6; have EB := n0; have HL := n1; have HP6 := n2; clear n0 n1 n2; replace hx0 := cB hb hx0; replace hx1 := cB hb hx1; replace hx2 := cB hb hx2; replace hx3 := cB hb hx3; replace hx4 := cB hb hx4; replace hx5 := cB hb hx5; replace hx6 := cB hb hx6; clear hb)
                | (go_at_call 62; with_reducible refine Calls.mono (impl_HoldsAny.calls k _ _ theirs _ _ _ _ _ _ _ _ _ _ _ (Kd.C_below HT5.out EB.out) HLt.out HP6.out HPl.out HBb.out) ?_; rintro e w7 ⟨rfl, hb⟩; have n0 := Aside0.mk (below_then EB.out EB.out.size hb); have n1 := Aside0.mk (Kd.N_below HL.out hb); have n2 := Aside0.mk (Kd.C_below HP6.out hb); clear EB HL HP6; have EB := n0; have HL := n1; have HP6 := n2; clear n0 n1 n2; replace hx0 := cB hb hx0; replace hx1 := cB hb hx1; replace hx2 := cB hb hx2; replace hx3 := cB hb hx3; replace hx4 := cB hb hx4; replace hx5 := cB hb hx5; replace hx6 := cB hb hx6; clear hb))
              have B5w := blk_b B55.out EB.out
              refine rg_start (n := 14) (S := fun w' => w'.cell? ⟨b5, 0, none⟩ = some (.int .i64 4) ∧ w'.cell? ⟨b5, 1, none⟩ = some (.slice A5 rs.length c5) ∧ w'.cell? (ad.add (ii * 7)) = some (.int .i64 (rd_T71 out (ii : Int)).f0) ∧ w'.cell? ⟨(ad.add (ii * 7)).block, (ad.add (ii * 7)).off + 1, none⟩ = some (.int .i64 (rd_T71 out (ii : Int)).f1) ∧ w'.cell? ⟨(ad.add (ii * 7)).block, (ad.add (ii * 7)).off + 2, none⟩ = some (.int .i64 (rd_T71 out (ii : Int)).f2) ∧ w'.cell? ⟨(ad.add (ii * 7)).block, (ad.add (ii * 7)).off + 3, none⟩ = some (.int .i64 (rd_T71 out (ii : Int)).f3) ∧ w'.cell? ⟨(ad.add (ii * 7)).block, (ad.add (ii * 7)).off + 4, none⟩ = some (.int .i64 (rd_T71 out (ii : Int)).f4) ∧ w'.cell? ⟨(ad.add (ii * 7)).block, (ad.add (ii * 7)).off + 5, none⟩ = some (.int .i64 (rd_T71 out (ii : Int)).f5) ∧ w'.cell? ⟨(ad.add (ii * 7)).block, (ad.add (ii * 7)).off + 6, none⟩ = some (.slice Ap (rd_T71 out (ii : Int)).f6.length cp)) #[false, false, false, false, false, false, false, false, false, false, false, false, false, false] (fun W' hb => ⟨cB hb ((blk_cell B5w 0).trans rfl), cB hb ((blk_cell B5w 1).trans rfl), cB hb hx0, cB hb hx1, cB hb hx2, cB hb hx3, cB hb hx4, cB hb hx5, cB hb hx6⟩) (fun w8 hb hH => ?_)
              have n0 := Aside0.mk (below_then EB.out EB.out.size hb); have n1 := Aside0.mk (Kd.N_below HL.out hb); have n2 := Aside0.mk (Kd.C_below HP6.out hb); clear EB HL HP6; have EB := n0; have HL := n1; have HP6 := n2; clear n0 n1 n2
              clear hb B5w hx0 hx1 hx2 hx3 hx4 hx5 hx6
              refine pz 0 (some 81) #[true, false, false, false, false, false, false, false, false, false, false, false, false, false] ?_
              refine pz 1 (some 82) #[true, true, false, false, false, false, false, false, false, false, false, false, false, false] ?_
              refine tz 2 (some 83) #[true, true, true, false, false, false, false, false, false, false, false, false, false, false] hH ?_
              refine pz 3 (some 84) #[true, true, true, true, false, false, false, false, false, false, false, false, false, false] ?_
              refine pz 4 (some 85) #[true, true, true, true, true, false, false, false, false, false, false, false, false, false] ?_
              refine pu 5 (some 86) #[true, true, true, true, true, true, false, false, false, false, false, false, false, false] ?_
              refine pu 6 (some 87) #[true, true, true, true, true, true, true, false, false, false, false, false, false, false] ?_
              refine pu 7 (some 88) #[true, true, true, true, true, true, true, true, false, false, false, false, false, false] ?_
              refine pu 8 (some 89) #[true, true, true, true, true, true, true, true, true, false, false, false, false, false] ?_
              refine pu 9 (some 90) #[true, true, true, true, true, true, true, true, true, true, false, false, false, false] ?_
              refine pu 10 (some 91) #[true, true, true, true, true, true, true, true, true, true, true, false, false, false] ?_
              refine pu 11 (some 92) #[true, true, true, true, true, true, true, true, true, true, true, true, false, false] ?_
              refine pz 12 (some 93) #[true, true, true, true, true, true, true, true, true, true, true, true, true, false] ?_
              refine pz 13 (some 94) #[true, true, true, true, true, true, true, true, true, true, true, true, true, true] ?_
              refine done_ (by kernel_rfl) ?_
              go_wp2
              go_roundg (out.length - (ii + 1))
              case measure => omega
              case rel => exact ⟨ii + 1, by go_num, by omega, by omega, HL, EB, HC2⟩
          · have hltz : ¬ (ii : Int) < (out.length : Int) := by omega
            have hie : ii = out.length := by omega
            subst hie
            have H0 := HFi.out
            unfold laws_FnNarrows.fin at H0
            have H1 := ifD H0
            rcases H1 with ⟨hl1, H2⟩ | ⟨_, H2⟩
            case inr => exact noneE H2
            replace hl1 := of_decide_eq_true hl1
            obtain ⟨ba, hba, H3⟩ := Option.bind_eq_some_iff.mp H2
            have H4 := ifB H3
            rcases H4 with ⟨rfl, H5⟩ | ⟨_, H5⟩
            case inr => exact noneE H5
            obtain ⟨⟨sc, ss⟩, hsn, H6⟩ := Option.bind_eq_some_iff.mp H5
            have H7 := ifD H6
            rcases H7 with ⟨hsc, _⟩ | ⟨_, H8⟩
            case inr => exact noneE H8
            obtain rfl := of_decide_eq_true hsc
            have HBa : Aside0 (impl_HoldsAny.f k mine (rd_T71 out 1).f0 (rd_T71 out 1).f1 (rd_T71 out 1).f2 (rd_T71 out 1).f3 (rd_T71 out 1).f4 (rd_T71 out 1).f5 (rd_T71 out 1).f6 = some true) := ⟨hba⟩
            have HSn := Aside0.mk hsn
            clear H0 H2 H3 H5 H6 hba hsn hsc HFi HCk
            obtain ⟨ad, Ap, cp, e, hx0, hx1, hx2, hx3, hx4, hx5, hx6, hl6, hc6⟩ := at_T71 (Kd.N_reads' HL.out).2.2 (1 : Int) (by decide) (by omega)
            subst e
            simp only [show (1 : Int).toNat * 7 = 7 from rfl, show ad.add 7 = (⟨ad.block, ad.off + 7, none⟩ : Addr) from rfl] at hx0 hx1 hx2 hx3 hx4 hx5 hx6
            have hone : (1 : Int) < (out.length : Int) := by omega
            have HP6 := Aside0.mk hc6
            have HPl := Aside0.mk hl6
            clear hc6 hl6
            go_wp2
            have B5w := blk_b B55.out EB.out
            refine rg_start (n := 15) (S := fun w' => w'.cell? ⟨b5, 0, none⟩ = some (.int .i64 4) ∧ w'.cell? ⟨b5, 1, none⟩ = some (.slice A5 rs.length c5) ∧ w'.cell? ⟨ad.block, ad.off + 7, none⟩ = some (.int .i64 (rd_T71 out 1).f0) ∧ w'.cell? ⟨ad.block, ad.off + 7 + 1, none⟩ = some (.int .i64 (rd_T71 out 1).f1) ∧ w'.cell? ⟨ad.block, ad.off + 7 + 2, none⟩ = some (.int .i64 (rd_T71 out 1).f2) ∧ w'.cell? ⟨ad.block, ad.off + 7 + 3, none⟩ = some (.int .i64 (rd_T71 out 1).f3) ∧ w'.cell? ⟨ad.block, ad.off + 7 + 4, none⟩ = some (.int .i64 (rd_T71 out 1).f4) ∧ w'.cell? ⟨ad.block, ad.off + 7 + 5, none⟩ = some (.int .i64 (rd_T71 out 1).f5) ∧ w'.cell? ⟨ad.block, ad.off + 7 + 6, none⟩ = some (.slice Ap (rd_T71 out 1).f6.length cp)) #[false, false, false, false, false, false, false, false, false, false, false, false, false, false, false] (fun W' hb => ⟨cB hb ((blk_cell B5w 0).trans rfl), cB hb ((blk_cell B5w 1).trans rfl), cB hb hx0, cB hb hx1, cB hb hx2, cB hb hx3, cB hb hx4, cB hb hx5, cB hb hx6⟩) (fun w8 hb hH => ?_)
            have n0 := Aside0.mk (below_then EB.out EB.out.size hb); have n1 := Aside0.mk (Kd.N_below HL.out hb); have n2 := Aside0.mk (Kd.C_below HP6.out hb); clear EB HL HP6; have EB := n0; have HL := n1; have HP6 := n2; clear n0 n1 n2
            clear hb B5w hx0 hx1 hx2 hx3 hx4 hx5 hx6
            refine pz 0 (some 95) #[true, false, false, false, false, false, false, false, false, false, false, false, false, false, false] ?_
            refine pz 1 (some 96) #[true, true, false, false, false, false, false, false, false, false, false, false, false, false, false] ?_
            refine pz 2 (some 97) #[true, true, true, false, false, false, false, false, false, false, false, false, false, false, false] ?_
            refine tz 3 (some 98) #[true, true, true, true, false, false, false, false, false, false, false, false, false, false, false] hH ?_
            refine one_ (i := 4) (N := some 99) #[true, true, true, true, true, false, false, false, false, false, false, false, false, false, false] rfl rfl (by kernel_rfl) (by decide) (fun K hK => ?_)
            refine goes_ Try.func62 (by kernel_rfl) rfl #[.slice A3 mine.length c3, .agg #[.int .i64 (rd_T71 out 1).f0, .int .i64 (rd_T71 out 1).f1, .int .i64 (rd_T71 out 1).f2, .int .i64 (rd_T71 out 1).f3, .int .i64 (rd_T71 out 1).f4, .int .i64 (rd_T71 out 1).f5, .slice Ap (rd_T71 out 1).f6.length cp]] (by rfl) rfl rfl (by (try simp only [List.map_toArray, List.map_cons, List.map_nil]); try rfl) ?_
            with_reducible refine (impl_HoldsAny.calls k _ _ mine _ _ _ _ _ _ _ _ _ true _ (Kd.C_below HM5.out EB.out) HLm.out HP6.out HPl.out HBa.out).mono ?_
            rintro e w9 ⟨rfl, hb⟩
            refine ⟨_, rfl, ?_⟩
            have n0 := Aside0.mk (below_then EB.out EB.out.size hb); have n1 := Aside0.mk (Kd.N_below HL.out hb); have n2 := Aside0.mk (Kd.C_below HP6.out hb); clear EB HL HP6; have EB := n0; have HL := n1; have HP6 := n2; clear n0 n1 n2
            refine hK.out _ _ ⟨cB hb hH.1, cB hb hH.2.1, cB hb hH.2.2.1, cB hb hH.2.2.2.1, cB hb hH.2.2.2.2.1, cB hb hH.2.2.2.2.2.1, cB hb hH.2.2.2.2.2.2.1, cB hb hH.2.2.2.2.2.2.2.1, cB hb hH.2.2.2.2.2.2.2.2⟩ (fun hH2 => ?_)
            clear hK K hH
            have hH := hH2
            clear hH2 hb
            refine norm_ (a' := ?_) ?_ ?_
            rotate_left
            · (show Act.put _ (some 99) _ = _; simp only [Act.put, List.setIfInBounds_toArray, List.set_cons_zero, List.set_cons_succ, i64_w, i32_w]; rfl)
            refine pz 5 (some 100) #[true, true, true, true, true, true, false, false, false, false, false, false, false, false, false] ?_
            refine pz 6 (some 101) #[true, true, true, true, true, true, true, false, false, false, false, false, false, false, false] ?_
            refine pz 8 (some 103) #[true, true, true, true, true, true, true, false, true, false, false, false, false, false, false] ?_
            refine pz 9 (some 104) #[true, true, true, true, true, true, true, false, true, true, false, false, false, false, false] ?_
            refine tz 7 (some 102) #[true, true, true, true, true, true, true, true, true, true, false, false, false, false, false] hH ?_
            refine one_ (i := 10) (N := some 105) #[true, true, true, true, true, true, true, true, true, true, true, false, false, false, false] rfl rfl (by kernel_rfl) (by decide) (fun K hK => ?_)
            refine goes_ Try.func26 (by kernel_rfl) rfl #[.slice A3 mine.length c3, .slice A4 theirs.length c4] (by rfl) rfl rfl (by (try simp only [List.map_toArray, List.map_cons, List.map_nil]); try rfl) ?_
            with_reducible refine (spec_NarrowSels.calls k _ _ mine _ _ theirs _ ss _ (Kd.C_below HM5.out EB.out) HLm.out (Kd.C_below HT5.out EB.out) HLt.out HSn.out).mono ?_
            rintro e w9 ⟨v9, rfl, _, hb⟩
            refine ⟨_, rfl, ?_⟩
            have n0 := Aside0.mk (below_then EB.out EB.out.size hb); have n1 := Aside0.mk (Kd.N_below HL.out hb); have n2 := Aside0.mk (Kd.C_below HP6.out hb); clear EB HL HP6; have EB := n0; have HL := n1; have HP6 := n2; clear n0 n1 n2
            refine hK.out _ _ ⟨cB hb hH.1, cB hb hH.2.1, cB hb hH.2.2.1, cB hb hH.2.2.2.1, cB hb hH.2.2.2.2.1, cB hb hH.2.2.2.2.2.1, cB hb hH.2.2.2.2.2.2.1, cB hb hH.2.2.2.2.2.2.2.1, cB hb hH.2.2.2.2.2.2.2.2⟩ (fun hH2 => ?_)
            clear hK K hH
            have hH := hH2
            clear hH2 hb
            refine norm_ (a' := ?_) ?_ ?_
            rotate_left
            · (show Act.put _ (some 105) _ = _; simp only [Act.put, List.setIfInBounds_toArray, List.set_cons_zero, List.set_cons_succ, i64_w, i32_w]; rfl)
            refine pz 11 (some 106) #[true, true, true, true, true, true, true, true, true, true, true, true, false, false, false] ?_
            refine pz 12 (some 107) #[true, true, true, true, true, true, true, true, true, true, true, true, true, false, false] ?_
            refine pz 13 (some 108) #[true, true, true, true, true, true, true, true, true, true, true, true, true, true, false] ?_
            refine pz 14 (some 2) #[true, true, true, true, true, true, true, true, true, true, true, true, true, true, true] ?_
            refine done_ (by kernel_rfl) ?_
            go_wp2
            go_ret
            exact ⟨rfl, below_then EW.out EW.out.size EB.out⟩
def laws_FnNarrows.Pure : Prop := ∀ (l0 : List Int), l0.length ≤ maxLen → l0.length * 1 ≤ 140737488351232 → (∀ x ∈ l0, (Lit.int .u8 x).wf = true) → ∃ k, laws_FnNarrows.f k l0 = some true
theorem laws_FnNarrows.walk (P : laws_FnNarrows.Pure) (a0 : Option Addr) (len0 cap0 : Nat) (z0 : List Int) (w : World) (w0 : (a0 = none ∧ len0 = 0 ∧ cap0 = 0 ∧ z0 = []) ∨ ∃ x, a0 = some x ∧ len0 ≤ cap0 ∧ cap0 ≤ maxLen ∧ z0.length = cap0 ∧ (∀ i, i < z0.length → w.cell? (x.add i) = some (.int .u8 (z0.getD i 0))) ∧ ∀ n ∈ z0, (Lit.int .u8 n).wf = true) (y0 : len0 * 1 ≤ 140737488351232) :
    Calls Try.prog 10 #[.slice a0 len0 cap0] w fun e w' => e = .returned (.bool true) ∧ Below w.heap.size w w' := by
  obtain ⟨l0, rfl, hr0, hm0, hw0, hc0⟩ := ReadsInt.ofRowC w0
  obtain ⟨k, h⟩ := P l0 hm0 y0 hw0
  exact laws_FnNarrows.calls k _ _ l0 w (Kd.C_of_reads (d := (0 : Int)) (h1 := fun _ => rfl) hr0) hc0 h

end Go.Proofs.Ytcelgjhhmkgnhaa.PFnNarrows
