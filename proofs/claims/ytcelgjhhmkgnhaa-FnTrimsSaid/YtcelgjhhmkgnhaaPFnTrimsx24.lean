-- Written by wip/tools/myprint.py of this claim's session, over the kit's print, round texts of its own: own text.
import Derived.Test.YtcelgjhhmkgnhaaPFnTrimsx0
import Derived.Test.YtcelgjhhmkgnhaaPFnTrimsx2
import Derived.Test.YtcelgjhhmkgnhaaPFnTrimsx7
import Derived.Test.YtcelgjhhmkgnhaaPFnTrimsx10
import Derived.Test.YtcelgjhhmkgnhaaPFnTrimsx11
import Derived.Test.YtcelgjhhmkgnhaaPFnTrimsx12
import Derived.Test.YtcelgjhhmkgnhaaPFnTrimsx17
import Derived.Test.YtcelgjhhmkgnhaaPFnTrimsx18
import Derived.Test.YtcelgjhhmkgnhaaPFnTrimsx19
import Derived.Test.YtcelgjhhmkgnhaaPFnTrimsx20
import Derived.Test.YtcelgjhhmkgnhaaPFnTrimsx21
import Derived.Test.YtcelgjhhmkgnhaaPFnTrimsx23
namespace Go.Proofs.Ytcelgjhhmkgnhaa.PFnTrims
open Go.RowKit Go.Proofs.YtcelgjhhmkgnhaaW.PrintWords Go.Proofs.YtcelgjhhmkgnhaaW.PrintLast Go.Proofs.YtcelgjhhmkgnhaaW.PrintMore
attribute [local go_sem] max2_int min2_int max_two min_two max_three min_three max_four min_four   -- for this text's walks alone
set_option linter.unusedVariables false
set_option linter.unusedSimpArgs false

/-! ### laws_FnTrims: function 11 (my own text) -/
attribute [local go_sem] Instr.field asAgg
theorem CS.join1 {P : Program} {ops : Array Oper} {Q : Exit → Act → World → Prop} {ds : List Nat} {w0 W : World} {G : World → Prop} {z : Option Nat} {bs : Bx} {rs : List Rw} {S : World → Prop} {md : Region.Mode} {fuel : Nat} {l : Array Bool} {a : Act} (_D : CS w0 G z bs rs W) (fuel' : Nat) (l' : Array Bool) (ns : Nat → List (Tmp × Value)) (c1 : Array Value) (t1 : TypeId)
    (hc : ∀ (s : Nat) w', CS w0 G z ((s, c1, t1) :: bs) rs w' → wpAnyLast P md ops Q S ds fuel' l' (putAll a (ns s)) w')
    (h : (∀ (s : Nat) w', CS w0 G z ((s, c1, t1) :: bs) rs w' → wpAnyLast P md ops Q S ds fuel' l' (putAll a (ns s)) w') → wpAnyLast P md ops Q S ds fuel l a W) : wpAnyLast P md ops Q S ds fuel l a W := h hc
theorem startOf {w W : World} (_h : Aside0 (Below w.heap.size w W)) : CS W (Gb W) none [] [] W := CS.startB W
theorem laws_FnTrims.mkF (W : World) (ok : Nat → Prop) (x : S71) {A6 : Option Addr} {c6 : Nat} (l6 : x.f6.length ≤ c6) (g6 : Kd.F (Kd.int .u8) W ok A6 x.f6.length x.f6) : Kd.FK k71 W ok x [.int .i64 x.f0, .int .i64 x.f1, .int .i64 x.f2, .int .i64 x.f3, .int .i64 x.f4, .int .i64 x.f5, .slice A6 x.f6.length c6] := fun W2 hW => k71_mk W2 x l6 (g6 W2 hW)
def laws_FnTrims.smp (k : Nat) : List S87 → List S71 → Option (List S71)
  | [], out => some out
  | r :: rs, out => (impl_SampleOf.f k r.f0.f0.f0 r.f0.f0.f1 r.f0.f1.f0 r.f0.f1.f1 r.f0.f2.f0 r.f0.f2.f1 r.f0.f3.f0 r.f0.f3.f1 r.f0.f4).bind fun t => if out.length < 1954687338268 then laws_FnTrims.smp k rs (out ++ [⟨t.2.1, t.2.2.1, t.2.2.2.1, t.2.2.2.2.1, t.2.2.2.2.2.1, t.2.2.2.2.2.2.1, t.2.2.2.2.2.2.2⟩]) else none
def laws_FnTrims.sel (k : Nat) (c : Int) (l sw : List S87) (p : S71) : Option Unit := if c = 0 then ((impl_ActionFor.f k sw p.f0 p.f1 p.f2 p.f3 p.f4 p.f5 p.f6).bind fun x => (impl_ActionFor.f k l p.f0 p.f1 p.f2 p.f3 p.f4 p.f5 p.f6).bind fun y => if x = y then some () else none) else some ()
def laws_FnTrims.two (k : Nat) (l tr : List S87) (p : S71) : Option Unit := (impl_FirstRule.f k l p.f0 p.f1 p.f2 p.f3 p.f4 p.f5 p.f6).bind fun x => (impl_FirstRule.f k tr p.f0 p.f1 p.f2 p.f3 p.f4 p.f5 p.f6).bind fun y => if x.1 = y.1 ∧ x.2.2.1 = y.2.2.1 ∧ x.2.2.2.1 = y.2.2.2.1 ∧ x.2.2.2.2.1 = y.2.2.2.2.1 ∧ x.2.2.2.2.2.1 = y.2.2.2.2.2.1 ∧ x.2.2.2.2.2.2.1 = y.2.2.2.2.2.2.1 ∧ x.2.2.2.2.2.2.2.1 = y.2.2.2.2.2.2.2.1 ∧ x.2.2.2.2.2.2.2.2.1 = y.2.2.2.2.2.2.2.2.1 ∧ x.2.2.2.2.2.2.2.2.2.1 = y.2.2.2.2.2.2.2.2.2.1 ∧ x.2.2.2.2.2.2.2.2.2.2.1 = y.2.2.2.2.2.2.2.2.2.2.1 ∧ x.2.2.2.2.2.2.2.2.2.2.2.1 = y.2.2.2.2.2.2.2.2.2.2.2.1 ∧ x.2.2.2.2.2.2.2.2.2.2.2.2 = y.2.2.2.2.2.2.2.2.2.2.2.2 then some () else none
def laws_FnTrims.chk (k : Nat) (l tr sw : List S87) (c : Int) : List S71 → Option Unit
  | [] => some ()
  | p :: ps => (laws_FnTrims.two k l tr p).bind fun _ => (laws_FnTrims.sel k c l sw p).bind fun _ => laws_FnTrims.chk k l tr sw c ps
def laws_FnTrims.fin (k : Nat) (tr : List S87) : Option Bool := (impl_PolicyFault.f k tr).bind fun e => if e = 0 then some true else none
def laws_FnTrims.rest (k : Nat) (l0 : List Int) (l tr sw : List S87) (c : Int) : Option Bool := if l0.length < 140737488355320 then ((spec_DrawFirstRule.f k ([3] ++ l0)).bind fun h => (laws_FnTrims.smp k l [⟨h.2.1, h.2.2.1, h.2.2.2.1, h.2.2.2.2.1, h.2.2.2.2.2.1, h.2.2.2.2.2.2.1, h.2.2.2.2.2.2.2⟩]).bind fun L => (laws_FnTrims.chk k l tr sw c L).bind fun _ => laws_FnTrims.fin k tr) else none
def laws_FnTrims.good (k : Nat) (l0 : List Int) (l tr : List S87) (i : Int) : Option Bool := (impl_SwapRules.f k l i).bind fun s => (spec_SwapRules.f k l i).bind fun s2 => if s.1 = s2.1 then ((impl_ShadowedRules.f k l).bind fun sh => if (tr.length : Int) = wrap64 ((l.length : Int) - (sh.2.length : Int)) then ((spec_TrimPolicy.f k l).bind fun t2 => if (tr.length : Int) = (t2.2.length : Int) then laws_FnTrims.rest k l0 l tr s.2 s.1 else none) else none) else none
def laws_FnTrims.bad (k : Nat) (l : List S87) (c : Int) : Option Bool := (spec_TrimPolicy.f k l).bind fun s => if s.1 = c then some true else none
def laws_FnTrims.g (k : Nat) (l0 : List Int) (l : List S87) (i : Int) : Option Bool := (impl_TrimPolicy.f k l).bind fun t => if t.1 = 0 then laws_FnTrims.good k l0 l t.2 i else laws_FnTrims.bad k l t.1
def laws_FnTrims.f (k : Nat) (l0 : List Int) : Option Bool := (laws_lwBig.f l0).bind fun big => if big = true then some true else (spec_DrawSwapRules.f k l0).bind fun d => laws_FnTrims.g k l0 d.1 d.2
set_option maxHeartbeats 16000000 in
set_option maxRecDepth 100000 in
theorem laws_FnTrims.calls (k : Nat) (A0 : Option Addr) (c0 : Nat) (l0 : List Int) (w : World) (hr0 : Kd.C (Kd.int .u8) w A0 l0.length l0) (hc0 : l0.length ≤ c0) (h : laws_FnTrims.f k l0 = some true) :
    Calls Try.prog 11 #[.slice A0 l0.length c0] w fun e w' => e = .returned (.bool true) ∧ Below w.heap.size w w' := by
  have HR := Aside0.mk hr0
  have HC := Aside0.mk hc0
  clear hr0 hc0
  have hu54 := Try.underlying54
  have hu71 := Try.underlying71
  have hu89 := Try.underlying89
  have hu87 := Try.underlying87
  obtain ⟨big, hb0, h1⟩ := Option.bind_eq_some_iff.mp h
  have HBig := Aside0.mk hb0
  clear h hb0
  rcases ifB h1 with ⟨rfl, h2⟩ | ⟨rfl, h2⟩
  · have D := Aside0.mk (CS.startB w)
    clear h1 h2
    go_enter Try.func11, Try.ntmps11
    go_wp2_with (first | (go_at_call 12; with_reducible refine Calls.mono (CS.viaQ D.out (laws_lwBig.calls _ _ _ _ _ (Kd.C_below HR.out D.out.bel) HC.out HBig.out)) ?_; rintro e w1 ⟨rfl, hD⟩; clear D; have D := Aside0.mk hD; clear hD))
    go_ret
    exact ⟨rfl, D.out.bel⟩
  clear h1
  obtain ⟨⟨l, ix⟩, hd, h3⟩ := Option.bind_eq_some_iff.mp h2
  have HD := Aside0.mk hd
  clear hd h2
  simp only [laws_FnTrims.g] at h3
  obtain ⟨⟨tc, tr⟩, ht, h4⟩ := Option.bind_eq_some_iff.mp h3
  have HT := Aside0.mk ht
  clear h3 ht
  simp only at h4
  have D := Aside0.mk (CS.startB w)
  have h5 := ifE h4
  clear h4
  rcases h5 with ⟨ea, na, h6⟩ | ⟨ea, na, h6⟩
  case inr =>
    unfold laws_FnTrims.bad at h6
    obtain ⟨⟨uc, ut⟩, hu, h7⟩ := Option.bind_eq_some_iff.mp h6
    have h8 := ifD h7
    rcases h8 with ⟨h9, _⟩ | ⟨_, h9⟩
    case inr => exact noneE h9
    obtain rfl := (of_decide_eq_true h9).symm
    have HU := Aside0.mk hu
    clear h6 h7 h9 hu
    go_enter Try.func11, Try.ntmps11
    go_wp2_with (first
      | (go_at_call 12; with_reducible refine Calls.mono (CS.viaQ D.out (laws_lwBig.calls _ _ _ _ _ (Kd.C_below HR.out D.out.bel) HC.out HBig.out)) ?_; rintro e w1 ⟨rfl, hD⟩; clear D; have D := Aside0.mk hD; clear hD)
      | (go_at_call 63; with_reducible refine Calls.mono (CS.viaR (F := fun v => .tuple #[v, .int .i64 ix]) D.out (spec_DrawSwapRules.calls k _ _ _ l ix _ (Kd.C_below HR.out D.out.bel) HC.out HD.out)) ?_; rintro e w1 ⟨A3, c3, rfl, hD⟩; clear D; have D := Aside0.mk hD; clear hD)
      | (go_at_call 64; with_reducible refine Calls.mono (CS.viaR (F := fun v => .agg #[.int .i64 tc, v]) D.out (impl_TrimPolicy.calls k _ _ l tc tr _ (Kd.R_reads' (D.out.row 0 rfl)).2.2 (Kd.R_reads' (D.out.row 0 rfl)).2.1 HT.out)) ?_; rintro e w1 ⟨A5, c5, rfl, hD⟩; clear D; have D := Aside0.mk hD; clear hD; (try clear q0 f0); (try clear q1 f1); (try (have q0 := D.out.c 0 rfl; have f0 := D.out.f 0 rfl)); (try (have q1 := D.out.c 1 rfl; have f1 := D.out.f 1 rfl)))
      | ((with_reducible refine gate_dst (N := 5) rfl ?_); refine ev_box ?_; intro b5 _ hD; clear D; have D := Aside0.mk hD; clear hD; (try clear q0 f0); (try (have q0 := D.out.c 0 rfl; have f0 := D.out.f 0 rfl)))
      | ((with_reducible refine gate_st rfl ?_); refine ev_store ?_; intro w1 hD; clear D; simp only [List.set_cons_zero, List.set_cons_succ, List.setIfInBounds_toArray] at hD; have D := Aside0.mk hD; clear hD; (try clear q0 f0); (try clear q1 f1); (try clear q2 f2); (try (have q0 := D.out.c 0 rfl; have f0 := D.out.f 0 rfl)); (try (have q1 := D.out.c 1 rfl; have f1 := D.out.f 1 rfl)); (try (have q2 := D.out.c 2 rfl; have f2 := D.out.f 2 rfl)))
      | ((with_reducible refine gate_rg 6 (by with_reducible rfl) ?_); refine CS.rg (n := 7) 0 0 #[false, false, false, false, false, false, false] D.out rfl rfl rfl rfl ?_; intro w1 hD; clear D; have D := Aside0.mk hD; clear hD; (try clear q0 f0); (try (have q0 := D.out.c 0 rfl; have f0 := D.out.f 0 rfl)); refine tk 0 (some 26) #[true, false, false, false, false, false, false] ⟨D.out.c 0 rfl, D.out.c 0 rfl⟩ ?_; refine tk 3 (some 29) #[true, false, false, true, false, false, false] ⟨D.out.c 0 rfl, D.out.c 0 rfl⟩ ?_; refine tk 4 (some 30) #[true, false, false, true, true, false, false] ⟨D.out.c 0 rfl, D.out.c 0 rfl⟩ ?_; refine one_ (i := 1) (N := some 27) #[true, true, false, true, true, false, false] rfl rfl (by kernel_rfl) (by decide) (fun K hK => ?_); refine goes_ Try.func65 (by kernel_rfl) rfl #[.slice A3 l.length c3] rfl rfl rfl (by (try simp only [List.map_toArray, List.map_cons, List.map_nil]); first | done | (go_simp; done) | rfl | (go_simp; rfl)) ?_; refine (spec_TrimPolicy.calls k _ _ l tc ut _ (Kd.R_reads' (D.out.row 1 rfl)).2.2 (Kd.R_reads' (D.out.row 1 rfl)).2.1 HU.out).mono ?_; rintro e wq ⟨v, rfl, _, hb⟩; refine ⟨_, rfl, ?_⟩; have hD := D.out.below hb; clear D; have D := Aside0.mk hD; clear hD; (try clear q0 f0); (try (have q0 := D.out.c 0 rfl; have f0 := D.out.f 0 rfl)); clear hb; refine hK.out _ _ ⟨D.out.c 0 rfl, D.out.c 0 rfl⟩ (fun _ => ?_); clear hK K; refine norm_ (by simp only [putAll, Act.put, List.setIfInBounds_toArray, List.set_cons_zero, List.set_cons_succ, i64_w, i32_w]; rfl) ?_; refine tk 2 (some 28) #[true, true, true, true, true, false, false] ⟨D.out.c 0 rfl, D.out.c 0 rfl⟩ ?_; refine tk 5 (some 31) #[true, true, true, true, true, true, false] ⟨D.out.c 0 rfl, D.out.c 0 rfl⟩ ?_; refine tk 6 (some 2) #[true, true, true, true, true, true, true] ⟨D.out.c 0 rfl, D.out.c 0 rfl⟩ ?_; refine done_ (by kernel_rfl) ?_))
    go_ret
    exact ⟨rfl, D.out.bel⟩
  obtain rfl := beq_iff_eq.mp ea
  clear ea na
  unfold laws_FnTrims.good at h6
  obtain ⟨⟨sc, sw⟩, hs, h7⟩ := Option.bind_eq_some_iff.mp h6
  obtain ⟨⟨sc2, sw2⟩, hs2, h8⟩ := Option.bind_eq_some_iff.mp h7
  clear h6 h7
  rcases ifD h8 with ⟨e1, h9⟩ | ⟨_, h9⟩
  case inr => exact noneE h9
  obtain rfl := of_decide_eq_true e1
  obtain ⟨⟨hc, sh⟩, hsh, h10⟩ := Option.bind_eq_some_iff.mp h9
  rcases ifE h10 with ⟨_, hq1, h11⟩ | ⟨_, _, h11⟩
  case inr => exact noneE h11
  obtain ⟨⟨uc, ut⟩, hu, h12⟩ := Option.bind_eq_some_iff.mp h11
  rcases ifE h12 with ⟨_, hq2, h13⟩ | ⟨_, _, h13⟩
  case inr => exact noneE h13
  have HS := Aside0.mk hs
  have HS2 := Aside0.mk hs2
  have HSH := Aside0.mk hsh
  have HU := Aside0.mk hu
  clear h8 h9 h10 h11 h12 hs hs2 hsh hu e1
  simp only at h13 hq1 hq2
  unfold laws_FnTrims.rest at h13
  rcases ifD h13 with ⟨hlm, h14⟩ | ⟨_, h14⟩
  case inr => exact noneE h14
  have LM := Aside0.mk (of_decide_eq_true hlm)
  obtain ⟨⟨hr, p0, p1, p2, p3, p4, p5, ld⟩, hh, h15⟩ := Option.bind_eq_some_iff.mp h14
  obtain ⟨L, hsm, h16⟩ := Option.bind_eq_some_iff.mp h15
  obtain ⟨_, hck, hfi⟩ := Option.bind_eq_some_iff.mp h16
  have HH := Aside0.mk hh
  have HSm := Aside0.mk hsm
  have HCk := Aside0.mk hck
  have HFi := Aside0.mk hfi
  clear h13 h14 h15 h16 hlm hh hsm hck hfi
  go_enter Try.func11, Try.ntmps11
  go_wp2_with (first
    | (go_at_call 12; with_reducible refine Calls.mono (CS.viaQ D.out (laws_lwBig.calls _ _ _ _ _ (Kd.C_below HR.out D.out.bel) HC.out HBig.out)) ?_; rintro e w1 ⟨rfl, hD⟩; clear D; have D := Aside0.mk hD; clear hD)
    | (go_at_call 63; with_reducible refine Calls.mono (CS.viaR (F := fun v => .tuple #[v, .int .i64 ix]) D.out (spec_DrawSwapRules.calls k _ _ _ l ix _ (Kd.C_below HR.out D.out.bel) HC.out HD.out)) ?_; rintro e w1 ⟨A3, c3, rfl, hD⟩; clear D; have D := Aside0.mk hD; clear hD)
    | (go_at_call 64; with_reducible refine Calls.mono (CS.viaR (F := fun v => .agg #[.int .i64 0, v]) D.out (impl_TrimPolicy.calls k _ _ l 0 tr _ (Kd.R_reads' (D.out.row 0 rfl)).2.2 (Kd.R_reads' (D.out.row 0 rfl)).2.1 HT.out)) ?_; rintro e w1 ⟨A5, c5, rfl, hD⟩; clear D; have D := Aside0.mk hD; clear hD; (try clear q0 f0); (try clear q1 f1); (try (have q0 := D.out.c 0 rfl; have f0 := D.out.f 0 rfl)); (try (have q1 := D.out.c 1 rfl; have f1 := D.out.f 1 rfl)))
    | ((with_reducible refine gate_dst (N := 5) rfl ?_); refine ev_box ?_; intro b5 _ hD; clear D; have D := Aside0.mk hD; clear hD; (try clear q0 f0); (try (have q0 := D.out.c 0 rfl; have f0 := D.out.f 0 rfl)))
    | ((with_reducible refine gate_dst (N := 6) rfl ?_); refine ev_box ?_; intro b6 _ hD; clear D; have D := Aside0.mk hD; clear hD; (try clear q0 f0); (try clear q1 f1); (try (have q0 := D.out.c 0 rfl; have f0 := D.out.f 0 rfl)); (try (have q1 := D.out.c 1 rfl; have f1 := D.out.f 1 rfl)))
    | ((with_reducible refine gate_st rfl ?_); refine ev_store ?_; intro w1 hD; clear D; simp only [List.set_cons_zero, List.set_cons_succ, List.setIfInBounds_toArray] at hD; have D := Aside0.mk hD; clear hD; (try clear q0 f0); (try clear q1 f1); (try clear q2 f2); (try (have q0 := D.out.c 0 rfl; have f0 := D.out.f 0 rfl)); (try (have q1 := D.out.c 1 rfl; have f1 := D.out.f 1 rfl)); (try (have q2 := D.out.c 2 rfl; have f2 := D.out.f 2 rfl)))
    | (go_at_call 37; with_reducible refine Calls.mono (CS.viaR (F := fun v => .agg #[.int .i64 sc, v]) D.out (impl_SwapRules.calls k _ _ l ix sc sw _ (Kd.R_reads' (D.out.row 1 rfl)).2.2 (Kd.R_reads' (D.out.row 1 rfl)).2.1 HS.out)) ?_; rintro e w1 ⟨A6, c6, rfl, hD⟩; clear D; have D := Aside0.mk hD; clear hD; (try clear q0 f0); (try clear q1 f1); (try clear q2 f2); (try (have q0 := D.out.c 0 rfl; have f0 := D.out.f 0 rfl)); (try (have q1 := D.out.c 1 rfl; have f1 := D.out.f 1 rfl)); (try (have q2 := D.out.c 2 rfl; have f2 := D.out.f 2 rfl))))
  refine CS.rg (n := 30) 1 0 #[false, false, false, false, false, false, false, false, false, false, false, false, false, false, false, false, false, false, false, false, false, false, false, false, false, false, false, false, false, false] D.out rfl rfl rfl rfl ?_
  intro w1 hD
  clear D
  have D := Aside0.mk hD
  clear hD
  (try clear q0 f0)
  (try clear q1 f1)
  (try (have q0 := D.out.c 0 rfl; have f0 := D.out.f 0 rfl))
  (try (have q1 := D.out.c 1 rfl; have f1 := D.out.f 1 rfl))
  refine tk 0 (some 35) #[true, false, false, false, false, false, false, false, false, false, false, false, false, false, false, false, false, false, false, false, false, false, false, false, false, false, false, false, false, false] ⟨D.out.c 1 rfl, D.out.c 0 rfl⟩ ?_
  refine tk 1 (some 36) #[true, true, false, false, false, false, false, false, false, false, false, false, false, false, false, false, false, false, false, false, false, false, false, false, false, false, false, false, false, false] ⟨D.out.c 1 rfl, D.out.c 0 rfl⟩ ?_
  refine tk 2 (some 37) #[true, true, true, false, false, false, false, false, false, false, false, false, false, false, false, false, false, false, false, false, false, false, false, false, false, false, false, false, false, false] ⟨D.out.c 1 rfl, D.out.c 0 rfl⟩ ?_
  refine tk 3 (some 38) #[true, true, true, true, false, false, false, false, false, false, false, false, false, false, false, false, false, false, false, false, false, false, false, false, false, false, false, false, false, false] ⟨D.out.c 1 rfl, D.out.c 0 rfl⟩ ?_
  refine one_ (i := 4) (N := some 39) #[true, true, true, true, true, false, false, false, false, false, false, false, false, false, false, false, false, false, false, false, false, false, false, false, false, false, false, false, false, false] rfl rfl (by kernel_rfl) (by decide) (fun K hK => ?_)
  refine goes_ Try.func35 (by kernel_rfl) rfl #[.slice A3 l.length c3, .int .i64 ix] rfl rfl rfl (by (try simp only [List.map_toArray, List.map_cons, List.map_nil]); first | done | (go_simp; done) | rfl | (go_simp; rfl)) ?_
  refine (spec_SwapRules.calls k _ _ l ix sc sw2 _ (Kd.R_reads' (D.out.row 2 rfl)).2.2 (Kd.R_reads' (D.out.row 2 rfl)).2.1 HS2.out).mono ?_
  rintro e wq ⟨v, rfl, _, hb⟩
  refine ⟨_, rfl, ?_⟩
  have hD := D.out.below hb
  clear D
  have D := Aside0.mk hD
  clear hD
  (try clear q0 f0)
  (try clear q1 f1)
  (try (have q0 := D.out.c 0 rfl; have f0 := D.out.f 0 rfl))
  (try (have q1 := D.out.c 1 rfl; have f1 := D.out.f 1 rfl))
  clear hb
  refine hK.out _ _ ⟨D.out.c 1 rfl, D.out.c 0 rfl⟩ (fun _ => ?_)
  clear hK K
  refine norm_ (by simp only [putAll, Act.put, List.setIfInBounds_toArray, List.set_cons_zero, List.set_cons_succ, i64_w, i32_w]; rfl) ?_
  refine tk 5 (some 40) #[true, true, true, true, true, true, false, false, false, false, false, false, false, false, false, false, false, false, false, false, false, false, false, false, false, false, false, false, false, false] ⟨D.out.c 1 rfl, D.out.c 0 rfl⟩ ?_
  refine tk 6 (some 41) #[true, true, true, true, true, true, true, false, false, false, false, false, false, false, false, false, false, false, false, false, false, false, false, false, false, false, false, false, false, false] ⟨D.out.c 1 rfl, D.out.c 0 rfl⟩ ?_
  refine tk 7 (some 42) #[true, true, true, true, true, true, true, true, false, false, false, false, false, false, false, false, false, false, false, false, false, false, false, false, false, false, false, false, false, false] ⟨D.out.c 1 rfl, D.out.c 0 rfl⟩ ?_
  refine tk 8 (some 43) #[true, true, true, true, true, true, true, true, true, false, false, false, false, false, false, false, false, false, false, false, false, false, false, false, false, false, false, false, false, false] ⟨D.out.c 1 rfl, D.out.c 0 rfl⟩ ?_
  refine tk 9 (some 44) #[true, true, true, true, true, true, true, true, true, true, false, false, false, false, false, false, false, false, false, false, false, false, false, false, false, false, false, false, false, false] ⟨D.out.c 1 rfl, D.out.c 0 rfl⟩ ?_
  refine tk 10 (some 45) #[true, true, true, true, true, true, true, true, true, true, true, false, false, false, false, false, false, false, false, false, false, false, false, false, false, false, false, false, false, false] ⟨D.out.c 1 rfl, D.out.c 0 rfl⟩ ?_
  refine tk 11 (some 46) #[true, true, true, true, true, true, true, true, true, true, true, true, false, false, false, false, false, false, false, false, false, false, false, false, false, false, false, false, false, false] ⟨D.out.c 1 rfl, D.out.c 0 rfl⟩ ?_
  refine tk 12 (some 47) #[true, true, true, true, true, true, true, true, true, true, true, true, true, false, false, false, false, false, false, false, false, false, false, false, false, false, false, false, false, false] ⟨D.out.c 1 rfl, D.out.c 0 rfl⟩ ?_
  refine tk 13 (some 48) #[true, true, true, true, true, true, true, true, true, true, true, true, true, true, false, false, false, false, false, false, false, false, false, false, false, false, false, false, false, false] ⟨D.out.c 1 rfl, D.out.c 0 rfl⟩ ?_
  refine one_ (i := 14) (N := some 49) #[true, true, true, true, true, true, true, true, true, true, true, true, true, true, true, false, false, false, false, false, false, false, false, false, false, false, false, false, false, false] rfl rfl (by kernel_rfl) (by decide) (fun K hK => ?_)
  refine goes_ Try.func66 (by kernel_rfl) rfl #[.slice A3 l.length c3] rfl rfl rfl (by (try simp only [List.map_toArray, List.map_cons, List.map_nil]); first | done | (go_simp; done) | rfl | (go_simp; rfl)) ?_
  refine (impl_ShadowedRules.calls k _ _ l hc sh _ (Kd.R_reads' (D.out.row 2 rfl)).2.2 (Kd.R_reads' (D.out.row 2 rfl)).2.1 HSH.out).mono ?_
  rintro e wq ⟨v, rfl, hR9, hb⟩
  obtain ⟨A9, c9, rfl⟩ := Kd.R_slice hR9
  clear hR9
  refine ⟨_, rfl, ?_⟩
  have hD := D.out.below hb
  clear D
  have D := Aside0.mk hD
  clear hD
  (try clear q0 f0)
  (try clear q1 f1)
  (try (have q0 := D.out.c 0 rfl; have f0 := D.out.f 0 rfl))
  (try (have q1 := D.out.c 1 rfl; have f1 := D.out.f 1 rfl))
  clear hb
  refine hK.out _ _ ⟨D.out.c 1 rfl, D.out.c 0 rfl⟩ (fun _ => ?_)
  clear hK K
  refine norm_ (by simp only [putAll, Act.put, List.setIfInBounds_toArray, List.set_cons_zero, List.set_cons_succ, i64_w, i32_w]; rfl) ?_
  refine tk 15 (some 50) #[true, true, true, true, true, true, true, true, true, true, true, true, true, true, true, true, false, false, false, false, false, false, false, false, false, false, false, false, false, false] ⟨D.out.c 1 rfl, D.out.c 0 rfl⟩ ?_
  refine tk 16 (some 51) #[true, true, true, true, true, true, true, true, true, true, true, true, true, true, true, true, true, false, false, false, false, false, false, false, false, false, false, false, false, false] ⟨D.out.c 1 rfl, D.out.c 0 rfl⟩ ?_
  refine tk 17 (some 52) #[true, true, true, true, true, true, true, true, true, true, true, true, true, true, true, true, true, true, false, false, false, false, false, false, false, false, false, false, false, false] ⟨D.out.c 1 rfl, D.out.c 0 rfl⟩ ?_
  refine tk 18 (some 53) #[true, true, true, true, true, true, true, true, true, true, true, true, true, true, true, true, true, true, true, false, false, false, false, false, false, false, false, false, false, false] ⟨D.out.c 1 rfl, D.out.c 0 rfl⟩ ?_
  refine tk 19 (some 54) #[true, true, true, true, true, true, true, true, true, true, true, true, true, true, true, true, true, true, true, true, false, false, false, false, false, false, false, false, false, false] ⟨D.out.c 1 rfl, D.out.c 0 rfl⟩ ?_
  refine tk 20 (some 55) #[true, true, true, true, true, true, true, true, true, true, true, true, true, true, true, true, true, true, true, true, true, false, false, false, false, false, false, false, false, false] ⟨D.out.c 1 rfl, D.out.c 0 rfl⟩ ?_
  refine tk 21 (some 56) #[true, true, true, true, true, true, true, true, true, true, true, true, true, true, true, true, true, true, true, true, true, true, false, false, false, false, false, false, false, false] ⟨D.out.c 1 rfl, D.out.c 0 rfl⟩ ?_
  refine tk 22 (some 57) #[true, true, true, true, true, true, true, true, true, true, true, true, true, true, true, true, true, true, true, true, true, true, true, false, false, false, false, false, false, false] ⟨D.out.c 1 rfl, D.out.c 0 rfl⟩ ?_
  refine tk 23 (some 58) #[true, true, true, true, true, true, true, true, true, true, true, true, true, true, true, true, true, true, true, true, true, true, true, true, false, false, false, false, false, false] ⟨D.out.c 1 rfl, D.out.c 0 rfl⟩ ?_
  refine tk 24 (some 59) #[true, true, true, true, true, true, true, true, true, true, true, true, true, true, true, true, true, true, true, true, true, true, true, true, true, false, false, false, false, false] ⟨D.out.c 1 rfl, D.out.c 0 rfl⟩ ?_
  refine one_ (i := 25) (N := some 60) #[true, true, true, true, true, true, true, true, true, true, true, true, true, true, true, true, true, true, true, true, true, true, true, true, true, true, false, false, false, false] rfl rfl (by kernel_rfl) (by decide) (fun K hK => ?_)
  refine goes_ Try.func65 (by kernel_rfl) rfl #[.slice A3 l.length c3] rfl rfl rfl (by (try simp only [List.map_toArray, List.map_cons, List.map_nil]); first | done | (go_simp; done) | rfl | (go_simp; rfl)) ?_
  refine (spec_TrimPolicy.calls k _ _ l uc ut _ (Kd.R_reads' (D.out.row 2 rfl)).2.2 (Kd.R_reads' (D.out.row 2 rfl)).2.1 HU.out).mono ?_
  rintro e wq ⟨v, rfl, hR9, hb⟩
  obtain ⟨A10, c10, rfl⟩ := Kd.R_slice hR9
  clear hR9
  refine ⟨_, rfl, ?_⟩
  have hD := D.out.below hb
  clear D
  have D := Aside0.mk hD
  clear hD
  (try clear q0 f0)
  (try clear q1 f1)
  (try (have q0 := D.out.c 0 rfl; have f0 := D.out.f 0 rfl))
  (try (have q1 := D.out.c 1 rfl; have f1 := D.out.f 1 rfl))
  clear hb
  refine hK.out _ _ ⟨D.out.c 1 rfl, D.out.c 0 rfl⟩ (fun _ => ?_)
  clear hK K
  refine norm_ (by simp only [putAll, Act.put, List.setIfInBounds_toArray, List.set_cons_zero, List.set_cons_succ, i64_w, i32_w]; rfl) ?_
  refine tk 26 (some 61) #[true, true, true, true, true, true, true, true, true, true, true, true, true, true, true, true, true, true, true, true, true, true, true, true, true, true, true, false, false, false] ⟨D.out.c 1 rfl, D.out.c 0 rfl⟩ ?_
  refine tk 27 (some 62) #[true, true, true, true, true, true, true, true, true, true, true, true, true, true, true, true, true, true, true, true, true, true, true, true, true, true, true, true, false, false] ⟨D.out.c 1 rfl, D.out.c 0 rfl⟩ ?_
  refine tk 28 (some 63) #[true, true, true, true, true, true, true, true, true, true, true, true, true, true, true, true, true, true, true, true, true, true, true, true, true, true, true, true, true, false] ⟨D.out.c 1 rfl, D.out.c 0 rfl⟩ ?_
  refine tk 29 (some 64) #[true, true, true, true, true, true, true, true, true, true, true, true, true, true, true, true, true, true, true, true, true, true, true, true, true, true, true, true, true, true] ⟨D.out.c 1 rfl, D.out.c 0 rfl⟩ ?_
  refine done_ (by kernel_rfl) ?_
  go_wp2_with (first
    | ((with_reducible refine gate_dst (N := 8) rfl ?_); refine ev_box ?_; intro b8 _ hD; clear D; have D := Aside0.mk hD; clear hD; (try clear q0 f0); (try (have q0 := D.out.c 0 rfl; have f0 := D.out.f 0 rfl)))
    | ((with_reducible refine gate_st rfl ?_); refine ev_store ?_; intro w1 hD; clear D; simp only [List.set_cons_zero, List.set_cons_succ, List.setIfInBounds_toArray] at hD; have D := Aside0.mk hD; clear hD; (try clear q0 f0); (try clear q1 f1); (try clear q2 f2); (try (have q0 := D.out.c 0 rfl; have f0 := D.out.f 0 rfl)); (try (have q1 := D.out.c 1 rfl; have f1 := D.out.f 1 rfl)); (try (have q2 := D.out.c 2 rfl; have f2 := D.out.f 2 rfl)))
    | ((with_reducible refine gate_lit (t := 22) rfl ?_); have FR := Aside0.mk (Kd.R_reads' (D.out.row 2 rfl)).2.2; have LR := Aside0.mk (Kd.R_reads' (D.out.row 2 rfl)).2.1; have FT := Aside0.mk (Kd.R_reads' (D.out.row 1 rfl)).2.2; have LT := Aside0.mk (Kd.R_reads' (D.out.row 1 rfl)).2.1; have FW := Aside0.mk (Kd.R_reads' (D.out.row 0 rfl)).2.2; have LW := Aside0.mk (Kd.R_reads' (D.out.row 0 rfl)).2.1; have B5 := Aside0.mk (D.out.at_ 1 rfl); have B6 := Aside0.mk (D.out.at_ 0 rfl); have E2 := Aside0.mk D.out.bel; refine lit_row (bs := []) (Kd.int .u8) 5 [3] [.int .u8 3] ?_ (CS.startB _) (Reps.one rfl (Reps.none _ _)) (by simp); intro A12 c12 w3 hD; clear D q0 f0 q1 f1; (try clear q2 f2); have D := Aside0.mk hD; clear hD)
    | ((with_reducible refine gate_ap (ts := #[22, 22]) rfl ?_); refine ev_appends (Kd.int .u8) 22 5 (.int .u8 0) 1 (.tmp 66) (.tmp 67) (ys := l0) ?_ (by have := LM.out; simp only [List.length_cons, List.length_nil]; omega) D.out (Kd.C_below (Kd.C_below HR.out E2.out) D.out.bel) (fun _ _ h => h); intro A12 c12 w4 hD; clear D; have D := Aside0.mk hD; clear hD)
    | (go_at_call 56; with_reducible refine Calls.mono (spec_DrawFirstRule.calls k _ _ _ _ _ _ _ _ _ _ _ _ (Kd.R_reads' (D.out.row 0 rfl)).2.2 (Kd.R_reads' (D.out.row 0 rfl)).2.1 HH.out) ?_; rintro e w5 ⟨v0, v7, rfl, _, hR7, hb⟩; obtain ⟨A7, c7, rfl⟩ := Kd.R_slice hR7; have E3 := Aside0.mk (below_then D.out.bel D.out.bel.size hb); have HP := Aside0.mk hR7; clear D hR7 hb; have D := Aside0.mk (CS.startB w5))
    | ((with_reducible refine gate_lit (t := 83) rfl ?_); have E4 := Aside0.mk D.out.bel; refine pk_lit k71 71 (⟨p0, p1, p2, p3, p4, p5, ld⟩ : S71) [.int .i64 p0, .int .i64 p1, .int .i64 p2, .int .i64 p3, .int .i64 p4, .int .i64 p5, .slice A7 ld.length c7] ?_ (laws_FnTrims.mkF _ _ (⟨p0, p1, p2, p3, p4, p5, ld⟩ : S71) (Kd.R_reads' HP.out).2.1 (Kd.F_below (Kd.R_F HP.out) E4.out)) rfl; intro A8 c8 w6 hL hb; clear D q0 f0; have HL := Aside0.mk hL; have EB := Aside0.mk hb; clear hL hb))
  have EW := Aside0.mk (below_then (below_then E2.out E2.out.size E3.out) (Nat.le_trans E2.out.size E3.out.size) E4.out)
  have FR5 := Aside0.mk (Kd.C_below (Kd.C_below FR.out E3.out) E4.out)
  have FT5 := Aside0.mk (Kd.C_below (Kd.C_below FT.out E3.out) E4.out)
  have FW5 := Aside0.mk (Kd.C_below (Kd.C_below FW.out E3.out) E4.out)
  have B55 := Aside0.mk (blk_b (blk_b B5.out E3.out) E4.out)
  have B65 := Aside0.mk (blk_b (blk_b B6.out E3.out) E4.out)
  have hm5 : l.length ≤ 9223372036854775807 := FR5.out.2.1
  clear HR HC E2 E3 E4 HH HP HD HT HS HS2 HSH HU B5 B6 FR FT FW LM HBig hq1 hq2
  go_loopg [9, 10] l.length (fun gg v9 v10 w' => ∃ (out : List S71) (A : Option Addr) (c : Nat) (kk : Nat), v9 = .slice A out.length c ∧ v10 = .int .i64 kk ∧ kk ≤ l.length ∧ l.length - kk ≤ gg ∧ Aside0 (Kd.N k71 71 w' w1.heap.size (fun _ => True) (.slice A out.length c) out) ∧ Aside0 (Below w1.heap.size w1 w') ∧ Aside0 (laws_FnTrims.smp k (l.drop kk) out = some L))
  case atStart => exact ⟨_, _, _, 0, rfl, rfl, Nat.zero_le _, by omega, HL, EB, HSm⟩
  case round =>
    clear HL EB HSm
    obtain ⟨out, A, c, kk, rfl, rfl, hkk, hg, HL, EB, HSm⟩ := hrel
    by_cases hlt : kk < l.length
    · have hltz : (kk : Int) < (l.length : Int) := by omega
      obtain ⟨ad, e, hx0, hx1, hx2, hx3, hx4, hx5, hx6, hx7, hx8, hx9, hx10⟩ := at_T87 (Kd.C_below FR5.out EB.out) (kk : Int) (by omega) hltz
      have A2 := HSm.out
      rw [List.drop_eq_getElem_cons hlt, laws_FnTrims.smp, ← getD_at l z87 kk hlt] at A2
      change (impl_SampleOf.f k (rd_T87 l (kk : Int)).f0.f0.f0 (rd_T87 l (kk : Int)).f0.f0.f1 (rd_T87 l (kk : Int)).f0.f1.f0 (rd_T87 l (kk : Int)).f0.f1.f1 (rd_T87 l (kk : Int)).f0.f2.f0 (rd_T87 l (kk : Int)).f0.f2.f1 (rd_T87 l (kk : Int)).f0.f3.f0 (rd_T87 l (kk : Int)).f0.f3.f1 (rd_T87 l (kk : Int)).f0.f4).bind _ = some L at A2
      obtain ⟨⟨s0, s1, s2, s3, s4, s5, s6, s7⟩, hs, A3⟩ := Option.bind_eq_some_iff.mp A2
      have HSp := Aside0.mk hs
      have A4 := ifD A3
      rcases A4 with ⟨hlo, A4⟩ | ⟨_, A4⟩
      case inr => exact noneE A4
      have HLo := Aside0.mk (of_decide_eq_true hlo)
      have HS2 := Aside0.mk A4
      clear A2 A3 A4 hs hlo HSm
      subst e
      simp only [Int.toNat_natCast] at hx0 hx1 hx2 hx3 hx4 hx5 hx6 hx7 hx8 hx9 hx10
      go_wp2_with (first
        | (go_at_call 54; with_reducible refine Calls.mono (impl_SampleOf.calls k _ _ _ _ _ _ _ _ _ s0 s1 s2 s3 s4 s5 s6 s7 _ HSp.out) ?_; rintro e w8 ⟨v7, rfl, hR, hb⟩; obtain ⟨A9, c9, rfl⟩ := Kd.R_slice hR; have HK := Aside0.mk (laws_FnTrims.mkF _ _ (⟨s1, s2, s3, s4, s5, s6, s7⟩ : S71) (Kd.R_reads' hR).2.1 (pk_fresh HL.out hR)); have HL2 := Aside0.mk (Kd.N_below HL.out hb); have EB2 := Aside0.mk (below_then EB.out EB.out.size hb); clear HL EB hR hb)
        | ((with_reducible refine gate_ap (ts := #[83, 83]) rfl ?_); refine pk_append (w0 := w1) k71 83 71 (.agg #[.int .i64 0, .int .i64 0, .int .i64 0, .int .i64 0, .int .i64 0, .int .i64 0, .slice none 0 0]) 72 (.tmp 80) (.tmp 88) (⟨s1, s2, s3, s4, s5, s6, s7⟩ : S71) [.int .i64 s1, .int .i64 s2, .int .i64 s3, .int .i64 s4, .int .i64 s5, .int .i64 s6, .slice A9 s7.length c9] ?_ (by have := HLo.out; omega) HL2.out EB2.out EB2.out.size HK.out; intro A1 c1 w9 hN hb; clear HL2 EB2; have HL2 := Aside0.mk hN; have EB2 := Aside0.mk hb; clear hN hb))
      go_roundg (l.length - (kk + 1))
      case measure => omega
      case rel => exact ⟨_, A1, c1, kk + 1, by rw [List.length_append]; rfl, by go_num, by omega, by omega, HL2, EB2, HS2⟩
    · have hltz : ¬ (kk : Int) < (l.length : Int) := by omega
      have hke : kk = l.length := by omega
      subst hke
      obtain rfl : out = L := Option.some.inj ((by rw [List.drop_length, laws_FnTrims.smp] : laws_FnTrims.smp k (l.drop l.length) out = some out).symm.trans HSm.out)
      clear HSm hkk hg
      have hm6 : out.length ≤ 9223372036854775807 := (Kd.N_reads' HL.out).2.2.2.1
      go_wp2
      go_loopg [11] out.length (fun gg v11 w' => ∃ (ii : Nat), v11 = .int .i64 ii ∧ ii ≤ out.length ∧ out.length - ii ≤ gg ∧ Aside0 (Kd.N k71 71 w' w1.heap.size (fun _ => True) (.slice A out.length c) out) ∧ Aside0 (Below w1.heap.size w1 w') ∧ Aside0 (laws_FnTrims.chk k l tr sw sc (out.drop ii) = some ()))
      case atStart => exact ⟨0, rfl, Nat.zero_le _, by omega, HL, EB, HCk⟩
      case round =>
        clear HL EB HCk
        obtain ⟨ii, rfl, hii, hg, HL, EB, HCk⟩ := hrel
        by_cases hlt : ii < out.length
        · have hltz : (ii : Int) < (out.length : Int) := by omega
          have hi0 : (0 : Int) ≤ (ii : Int) := by omega
          obtain ⟨ad, Ap, cp, e, hx0, hx1, hx2, hx3, hx4, hx5, hx6, hl6, hc6⟩ := at_T71 (Kd.N_reads' HL.out).2.2 (ii : Int) hi0 hltz
          have A2 := HCk.out
          rw [List.drop_eq_getElem_cons hlt, laws_FnTrims.chk, ← getD_at out z71 ii hlt] at A2
          change (laws_FnTrims.two k l tr (rd_T71 out (ii : Int))).bind _ = some () at A2
          obtain ⟨_, ht, A3⟩ := Option.bind_eq_some_iff.mp A2
          obtain ⟨_, hs, A4⟩ := Option.bind_eq_some_iff.mp A3
          have HC2 := Aside0.mk A4
          have HSel : Aside0 (laws_FnTrims.sel k sc l sw (rd_T71 out (ii : Int)) = some _) := ⟨hs⟩
          unfold laws_FnTrims.two at ht
          obtain ⟨⟨x0, x1, x2, x3, x4, x5, x6, x7, x8, x9, x10, x11, x12⟩, hfa, ht2⟩ := Option.bind_eq_some_iff.mp ht
          obtain ⟨⟨y0, y1, y2, y3, y4, y5, y6, y7, y8, y9, y10, y11, y12⟩, hfb, ht3⟩ := Option.bind_eq_some_iff.mp ht2
          rcases ifD ht3 with ⟨e3, _⟩ | ⟨_, e4⟩
          case inr => exact noneE e4
          have e5 : x0 = y0 ∧ x2 = y2 ∧ x3 = y3 ∧ x4 = y4 ∧ x5 = y5 ∧ x6 = y6 ∧ x7 = y7 ∧ x8 = y8 ∧ x9 = y9 ∧ x10 = y10 ∧ x11 = y11 ∧ x12 = y12 := of_decide_eq_true e3
          obtain ⟨rfl, rfl, rfl, rfl, rfl, rfl, rfl, rfl, rfl, rfl, rfl, rfl⟩ := e5
          have HFa : Aside0 (impl_FirstRule.f k l (rd_T71 out (ii : Int)).f0 (rd_T71 out (ii : Int)).f1 (rd_T71 out (ii : Int)).f2 (rd_T71 out (ii : Int)).f3 (rd_T71 out (ii : Int)).f4 (rd_T71 out (ii : Int)).f5 (rd_T71 out (ii : Int)).f6 = some (x0, x1, x2, x3, x4, x5, x6, x7, x8, x9, x10, x11, x12)) := ⟨hfa⟩
          have HFb : Aside0 (impl_FirstRule.f k tr (rd_T71 out (ii : Int)).f0 (rd_T71 out (ii : Int)).f1 (rd_T71 out (ii : Int)).f2 (rd_T71 out (ii : Int)).f3 (rd_T71 out (ii : Int)).f4 (rd_T71 out (ii : Int)).f5 (rd_T71 out (ii : Int)).f6 = some (x0, y1, x2, x3, x4, x5, x6, x7, x8, x9, x10, x11, x12)) := ⟨hfb⟩
          clear A2 A3 A4 ht ht2 ht3 e3 hs hfa hfb HCk
          subst e
          simp only [Int.toNat_natCast] at hx0 hx1 hx2 hx3 hx4 hx5 hx6
          have HP6 := Aside0.mk hc6
          have HPl := Aside0.mk hl6
          clear hc6 hl6
          have g0 := fun W' h => cB (W := W') h hx0
          have g1 := fun W' h => cB (W := W') h hx1
          have g2 := fun W' h => cB (W := W') h hx2
          have g3 := fun W' h => cB (W := W') h hx3
          have g4 := fun W' h => cB (W := W') h hx4
          have g5 := fun W' h => cB (W := W') h hx5
          have g6 := fun W' h => cB (W := W') h hx6
          have GB5 := fun W' h => blk_b (W := W') (blk_b B55.out EB.out) h
          have GB6 := fun W' h => blk_b (W := W') (blk_b B65.out EB.out) h
          have FRr := Aside0.mk (Kd.C_below FR5.out EB.out)
          have FTr := Aside0.mk (Kd.C_below FT5.out EB.out)
          have FWr := Aside0.mk (Kd.C_below FW5.out EB.out)
          have D := Aside0.mk (startOf EB)
          go_wp2_with (first
            | (go_at_call 57; with_reducible refine Calls.mono (CS.via D.out (impl_FirstRule.calls k _ _ l _ _ _ _ _ _ _ _ _ x0 x1 x2 x3 x4 x5 x6 x7 x8 x9 x10 x11 x12 _ (Kd.C_below FRr.out D.out.bel) LR.out (Kd.C_below HP6.out D.out.bel) HPl.out HFa.out)) ?_; rintro e wq ⟨rfl, hD⟩; clear D; have D := Aside0.mk hD; clear hD; (try clear q0 f0); (try clear q1 f1); (try (have q0 := D.out.c 0 rfl; have f0 := D.out.f 0 rfl)); (try (have q1 := D.out.c 1 rfl; have f1 := D.out.f 1 rfl)))
            | ((with_reducible refine gate_al rfl ?_); refine ev_box ?_; intro b12 _ hD; clear D; have D := Aside0.mk hD; clear hD; (try clear q0 f0); (try clear q1 f1); (try (have q0 := D.out.c 0 rfl; have f0 := D.out.f 0 rfl)); (try (have q1 := D.out.c 1 rfl; have f1 := D.out.f 1 rfl)))
            | ((with_reducible refine gate_st rfl ?_); refine ev_store ?_; intro wq hD; clear D; simp only [List.set_cons_zero, List.set_cons_succ, List.setIfInBounds_toArray] at hD; have D := Aside0.mk hD; clear hD; (try clear q0 f0); (try clear q1 f1); (try (have q0 := D.out.c 0 rfl; have f0 := D.out.f 0 rfl)); (try (have q1 := D.out.c 1 rfl; have f1 := D.out.f 1 rfl))))
          clear hx0 hx1 hx2 hx3 hx4 hx5 hx6 HFa
          refine CS.rgB (n := 9) #[false, false, false, false, false, false, false, false, false] D.out rfl rfl ?_
          intro wa hD
          clear D
          have D := Aside0.mk hD
          clear hD
          (try clear q0 f0)
          (try clear q1 f1)
          (try (have q0 := D.out.c 0 rfl; have f0 := D.out.f 0 rfl))
          (try (have q1 := D.out.c 1 rfl; have f1 := D.out.f 1 rfl))
          refine tk 0 (some 102) #[true, false, false, false, false, false, false, false, false] D.out.bel ?_ (hy := Or.inl ⟨by rfl, by (intro w' _; go_simp; with_reducible rfl)⟩)
          refine tk 1 (some 103) #[true, true, false, false, false, false, false, false, false] D.out.bel ?_ (hy := Or.inl ⟨by rfl, by (intro w' s0; have u0 := blk_cell (GB5 w' s0); go_simp; with_reducible rfl)⟩)
          refine tk 2 (some 104) #[true, true, true, false, false, false, false, false, false] D.out.bel ?_ (hy := Or.inl ⟨by rfl, by (intro w' _; go_simp; with_reducible rfl)⟩)
          refine tk 3 (some 105) #[true, true, true, true, false, false, false, false, false] D.out.bel ?_ (hy := Or.inl ⟨by rfl, by (intro w' _; go_simp; with_reducible rfl)⟩)
          refine tk 4 (some 106) #[true, true, true, true, true, false, false, false, false] D.out.bel ?_ (hy := Or.inl ⟨by rfl, by (intro w' _; go_simp; with_reducible rfl)⟩)
          refine tk 5 (some 107) #[true, true, true, true, true, true, false, false, false] D.out.bel ?_ (hy := Or.inl ⟨by rfl, by (intro w' s0; have y0_ := g0 w' s0; have y1_ := g1 w' s0; have y2_ := g2 w' s0; have y3_ := g3 w' s0; have y4_ := g4 w' s0; have y5_ := g5 w' s0; have y6_ := g6 w' s0; go_simp; with_reducible rfl)⟩)
          refine CS.join1 D.out 1 #[true, true, true, true, true, true, true, true, false] (fun s => [(108, .agg #[.int .i64 x0, .int .i64 y1, .int .i64 x2, .int .i64 x3, .int .i64 x4, .int .i64 x5, .int .i64 x6, .int .i64 x7, .int .i64 x8, .int .i64 x9, .int .i64 x10, .int .i64 x11, .int .i64 x12]), (13, .pointer (some ⟨s, 0, none⟩))]) #[.int .i64 0, .int .i64 0, .int .i64 0, .int .i64 0, .int .i64 0, .int .i64 0, .int .i64 0, .int .i64 0, .int .i64 0, .int .i64 0, .int .i64 0, .int .i64 0, .int .i64 0] 89 ?_ ?_
          rotate_left
          · intro hJ
            refine two_ (i := 6) (j := 7) (Ni := some 108) (Nj := some 13) #[true, true, true, true, true, true, true, false, false] #[true, true, true, true, true, true, false, true, false] rfl rfl rfl rfl (by kernel_rfl) (by decide) (by decide) (fun K hK => ?_) (fun K hK => ?_)
            · refine goes_ Try.func57 (by kernel_rfl) rfl #[.slice A5 tr.length c5, .agg #[.int .i64 (rd_T71 out (ii : Int)).f0, .int .i64 (rd_T71 out (ii : Int)).f1, .int .i64 (rd_T71 out (ii : Int)).f2, .int .i64 (rd_T71 out (ii : Int)).f3, .int .i64 (rd_T71 out (ii : Int)).f4, .int .i64 (rd_T71 out (ii : Int)).f5, .slice Ap (rd_T71 out (ii : Int)).f6.length cp]] rfl rfl rfl (by (try simp only [List.map_toArray, List.map_cons, List.map_nil]); first | done | (go_simp; done) | rfl | (go_simp; rfl)) ?_
              refine (impl_FirstRule.calls k _ _ tr _ _ _ _ _ _ _ _ _ x0 y1 x2 x3 x4 x5 x6 x7 x8 x9 x10 x11 x12 _ (Kd.C_below FTr.out D.out.bel) LT.out (Kd.C_below HP6.out D.out.bel) HPl.out HFb.out).mono ?_
              rintro e wq ⟨rfl, hb⟩
              refine ⟨_, rfl, ?_⟩
              have hD := D.out.below hb
              refine hK.out _ _ hD.bel (fun _ => ?_)
              clear hK K
              refine one_ (i := 7) (N := some 13) #[true, true, true, true, true, true, true, true, false] rfl rfl (by kernel_rfl) (by decide) (fun K hK => ?_)
              refine alX ?_ hD
              intro b13 wr2 hD2
              refine hK.out _ _ hD2.bel (fun _ => ?_)
              exact hJ b13 _ hD2
            · refine alX ?_ D.out
              intro b13 wr2 hD
              refine hK.out _ _ hD.bel (fun _ => ?_)
              clear hK K
              refine one_ (i := 6) (N := some 108) #[true, true, true, true, true, true, true, true, false] rfl rfl (by kernel_rfl) (by decide) (fun K hK => ?_)
              refine goes_ Try.func57 (by kernel_rfl) rfl #[.slice A5 tr.length c5, .agg #[.int .i64 (rd_T71 out (ii : Int)).f0, .int .i64 (rd_T71 out (ii : Int)).f1, .int .i64 (rd_T71 out (ii : Int)).f2, .int .i64 (rd_T71 out (ii : Int)).f3, .int .i64 (rd_T71 out (ii : Int)).f4, .int .i64 (rd_T71 out (ii : Int)).f5, .slice Ap (rd_T71 out (ii : Int)).f6.length cp]] rfl rfl rfl (by (try simp only [List.map_toArray, List.map_cons, List.map_nil]); first | done | (go_simp; done) | rfl | (go_simp; rfl)) ?_
              refine (impl_FirstRule.calls k _ _ tr _ _ _ _ _ _ _ _ _ x0 y1 x2 x3 x4 x5 x6 x7 x8 x9 x10 x11 x12 _ (Kd.C_below FTr.out hD.bel) LT.out (Kd.C_below HP6.out hD.bel) HPl.out HFb.out).mono ?_
              rintro e wq ⟨rfl, hb⟩
              refine ⟨_, rfl, ?_⟩
              have hD2 := hD.below hb
              refine hK.out _ _ hD2.bel (fun _ => ?_)
              refine norm_ ?_ (hJ b13 _ hD2)
              simp only [putAll, Act.put, List.setIfInBounds_toArray, List.set_cons_zero, List.set_cons_succ, i64_w, i32_w]
          intro b13 wb hD
          clear D
          have D := Aside0.mk hD
          clear hD
          (try clear q0 f0)
          (try clear q1 f1)
          (try (have q0 := D.out.c 0 rfl; have f0 := D.out.f 0 rfl))
          (try (have q1 := D.out.c 1 rfl; have f1 := D.out.f 1 rfl))
          refine norm_ (by simp only [putAll, Act.put, List.setIfInBounds_toArray, List.set_cons_zero, List.set_cons_succ, i64_w, i32_w]; rfl) ?_
          refine one_ (i := 8) (N := none) #[true, true, true, true, true, true, true, true, true] rfl rfl (by kernel_rfl) (by decide) (fun K hK => ?_)
          refine skC ?_
          intro wc hD
          clear D
          simp only [List.set_cons_zero, List.set_cons_succ, List.setIfInBounds_toArray] at hD
          have D := Aside0.mk hD
          clear hD
          (try clear q0 f0)
          (try clear q1 f1)
          (try (have q0 := D.out.c 0 rfl; have f0 := D.out.f 0 rfl))
          (try (have q1 := D.out.c 1 rfl; have f1 := D.out.f 1 rfl))
          refine hK.out _ _ D.out.bel (fun _ => ?_)
          clear hK K
          refine done_ (by kernel_rfl) ?_
          go_wp2
          have hse := HSel.out
          unfold laws_FnTrims.sel at hse
          rcases ifE hse with ⟨z1, z2, hs5⟩ | ⟨z1, z2, _⟩
          · obtain ⟨⟨u0, u1⟩, hu, A7⟩ := Option.bind_eq_some_iff.mp hs5
            obtain ⟨⟨v0, v1⟩, hv, A8⟩ := Option.bind_eq_some_iff.mp A7
            rcases ifD A8 with ⟨e6, _⟩ | ⟨_, e7⟩
            case inr => exact noneE e7
            obtain ⟨rfl, rfl⟩ : u0 = v0 ∧ u1 = v1 := by simpa using of_decide_eq_true e6
            have HAs := Aside0.mk hu
            have HAl := Aside0.mk hv
            clear hse hs5 hu hv A7 A8 e6 HSel
            refine CS.rgB (n := 19) #[false, false, false, false, false, false, false, false, false, false, false, false, false, false, false, false, false, false, false] D.out rfl rfl ?_
            intro wd hD
            clear D
            have D := Aside0.mk hD
            clear hD
            (try clear q0 f0)
            (try clear q1 f1)
            (try (have q0 := D.out.c 0 rfl; have f0 := D.out.f 0 rfl))
            (try (have q1 := D.out.c 1 rfl; have f1 := D.out.f 1 rfl))
            refine tk 0 (some 121) #[true, false, false, false, false, false, false, false, false, false, false, false, false, false, false, false, false, false, false] D.out.bel ?_ (hy := Or.inl ⟨by rfl, by (intro w' _; go_simp; with_reducible rfl)⟩)
            refine tk 1 (some 122) #[true, true, false, false, false, false, false, false, false, false, false, false, false, false, false, false, false, false, false] D.out.bel ?_ (hy := Or.inl ⟨by rfl, by (intro w' s0; have u0 := blk_cell (GB6 w' s0); go_simp; with_reducible rfl)⟩)
            refine tk 2 (some 123) #[true, true, true, false, false, false, false, false, false, false, false, false, false, false, false, false, false, false, false] D.out.bel ?_ (hy := Or.inl ⟨by rfl, by (intro w' _; go_simp; with_reducible rfl)⟩)
            refine tk 3 (some 124) #[true, true, true, true, false, false, false, false, false, false, false, false, false, false, false, false, false, false, false] D.out.bel ?_ (hy := Or.inl ⟨by rfl, by (intro w' _; go_simp; with_reducible rfl)⟩)
            refine tk 4 (some 125) #[true, true, true, true, true, false, false, false, false, false, false, false, false, false, false, false, false, false, false] D.out.bel ?_ (hy := Or.inl ⟨by rfl, by (intro w' _; go_simp; with_reducible rfl)⟩)
            refine tk 5 (some 126) #[true, true, true, true, true, true, false, false, false, false, false, false, false, false, false, false, false, false, false] D.out.bel ?_ (hy := Or.inl ⟨by rfl, by (intro w' s0; have u0 := blk_cell (GB6 w' s0); go_simp; with_reducible rfl)⟩)
            refine tk 6 (some 127) #[true, true, true, true, true, true, true, false, false, false, false, false, false, false, false, false, false, false, false] D.out.bel ?_ (hy := Or.inl ⟨by rfl, by (intro w' _; go_simp; with_reducible rfl)⟩)
            refine tk 7 (some 128) #[true, true, true, true, true, true, true, true, false, false, false, false, false, false, false, false, false, false, false] D.out.bel ?_ (hy := Or.inl ⟨by rfl, by (intro w' _; go_simp; with_reducible rfl)⟩)
            refine tk 8 (some 129) #[true, true, true, true, true, true, true, true, true, false, false, false, false, false, false, false, false, false, false] D.out.bel ?_ (hy := Or.inl ⟨by rfl, by (intro w' _; go_simp; with_reducible rfl)⟩)
            refine tk 9 (some 130) #[true, true, true, true, true, true, true, true, true, true, false, false, false, false, false, false, false, false, false] D.out.bel ?_ (hy := Or.inl ⟨by rfl, by (intro w' s0; have y0_ := g0 w' s0; have y1_ := g1 w' s0; have y2_ := g2 w' s0; have y3_ := g3 w' s0; have y4_ := g4 w' s0; have y5_ := g5 w' s0; have y6_ := g6 w' s0; go_simp; with_reducible rfl)⟩)
            refine tk 11 (some 132) #[true, true, true, true, true, true, true, true, true, true, false, true, false, false, false, false, false, false, false] D.out.bel ?_ (hy := Or.inl ⟨by rfl, by (intro w' _; go_simp; with_reducible rfl)⟩)
            refine tk 12 (some 133) #[true, true, true, true, true, true, true, true, true, true, false, true, true, false, false, false, false, false, false] D.out.bel ?_ (hy := Or.inl ⟨by rfl, by (intro w' _; go_simp; with_reducible rfl)⟩)
            refine tk 13 (some 134) #[true, true, true, true, true, true, true, true, true, true, false, true, true, true, false, false, false, false, false] D.out.bel ?_ (hy := Or.inl ⟨by rfl, by (intro w' _; go_simp; with_reducible rfl)⟩)
            refine tk 14 (some 135) #[true, true, true, true, true, true, true, true, true, true, false, true, true, true, true, false, false, false, false] D.out.bel ?_ (hy := Or.inl ⟨by rfl, by (intro w' _; go_simp; with_reducible rfl)⟩)
            refine tk 15 (some 136) #[true, true, true, true, true, true, true, true, true, true, false, true, true, true, true, true, false, false, false] D.out.bel ?_ (hy := Or.inl ⟨by rfl, by (intro w' s0; have y0_ := g0 w' s0; have y1_ := g1 w' s0; have y2_ := g2 w' s0; have y3_ := g3 w' s0; have y4_ := g4 w' s0; have y5_ := g5 w' s0; have y6_ := g6 w' s0; go_simp; with_reducible rfl)⟩)
            refine one_ (i := 10) (N := some 131) #[true, true, true, true, true, true, true, true, true, true, true, true, true, true, true, true, false, false, false] rfl rfl (by kernel_rfl) (by decide) (fun K hK => ?_)
            refine goes_ Try.func58 (by kernel_rfl) rfl #[.slice A6 sw.length c6, .agg #[.int .i64 (rd_T71 out (ii : Int)).f0, .int .i64 (rd_T71 out (ii : Int)).f1, .int .i64 (rd_T71 out (ii : Int)).f2, .int .i64 (rd_T71 out (ii : Int)).f3, .int .i64 (rd_T71 out (ii : Int)).f4, .int .i64 (rd_T71 out (ii : Int)).f5, .slice Ap (rd_T71 out (ii : Int)).f6.length cp]] rfl rfl rfl (by (try simp only [List.map_toArray, List.map_cons, List.map_nil]); first | done | (go_simp; done) | rfl | (go_simp; rfl)) ?_
            refine (impl_ActionFor.calls k _ _ sw _ _ _ _ _ _ _ _ _ u0 u1 _ (Kd.C_below FWr.out D.out.bel) LW.out (Kd.C_below HP6.out D.out.bel) HPl.out HAs.out).mono ?_
            rintro e wq ⟨rfl, hb⟩
            refine ⟨_, rfl, ?_⟩
            have hD := D.out.below hb
            clear D
            have D := Aside0.mk hD
            clear hD
            (try clear q0 f0)
            (try clear q1 f1)
            (try (have q0 := D.out.c 0 rfl; have f0 := D.out.f 0 rfl))
            (try (have q1 := D.out.c 1 rfl; have f1 := D.out.f 1 rfl))
            clear hb
            refine hK.out _ _ D.out.bel (fun _ => ?_)
            clear hK K
            refine norm_ (by simp only [putAll, Act.put, List.setIfInBounds_toArray, List.set_cons_zero, List.set_cons_succ, i64_w, i32_w]; rfl) ?_
            refine one_ (i := 16) (N := some 137) #[true, true, true, true, true, true, true, true, true, true, true, true, true, true, true, true, true, false, false] rfl rfl (by kernel_rfl) (by decide) (fun K hK => ?_)
            refine goes_ Try.func58 (by kernel_rfl) rfl #[.slice A3 l.length c3, .agg #[.int .i64 (rd_T71 out (ii : Int)).f0, .int .i64 (rd_T71 out (ii : Int)).f1, .int .i64 (rd_T71 out (ii : Int)).f2, .int .i64 (rd_T71 out (ii : Int)).f3, .int .i64 (rd_T71 out (ii : Int)).f4, .int .i64 (rd_T71 out (ii : Int)).f5, .slice Ap (rd_T71 out (ii : Int)).f6.length cp]] rfl rfl rfl (by (try simp only [List.map_toArray, List.map_cons, List.map_nil]); first | done | (go_simp; done) | rfl | (go_simp; rfl)) ?_
            refine (impl_ActionFor.calls k _ _ l _ _ _ _ _ _ _ _ _ u0 u1 _ (Kd.C_below FRr.out D.out.bel) LR.out (Kd.C_below HP6.out D.out.bel) HPl.out HAl.out).mono ?_
            rintro e wq ⟨rfl, hb⟩
            refine ⟨_, rfl, ?_⟩
            have hD := D.out.below hb
            clear D
            have D := Aside0.mk hD
            clear hD
            (try clear q0 f0)
            (try clear q1 f1)
            (try (have q0 := D.out.c 0 rfl; have f0 := D.out.f 0 rfl))
            (try (have q1 := D.out.c 1 rfl; have f1 := D.out.f 1 rfl))
            clear hb
            refine hK.out _ _ D.out.bel (fun _ => ?_)
            clear hK K
            refine norm_ (by simp only [putAll, Act.put, List.setIfInBounds_toArray, List.set_cons_zero, List.set_cons_succ, i64_w, i32_w]; rfl) ?_
            refine tk 17 (some 138) #[true, true, true, true, true, true, true, true, true, true, true, true, true, true, true, true, true, true, false] D.out.bel ?_ (hy := Or.inl ⟨by rfl, by (intro w' _; go_simp; with_reducible rfl)⟩)
            refine tk 18 (some 139) #[true, true, true, true, true, true, true, true, true, true, true, true, true, true, true, true, true, true, true] D.out.bel ?_ (hy := Or.inl ⟨by rfl, by (intro w' _; go_simp; with_reducible rfl)⟩)
            refine done_ (by kernel_rfl) ?_
            go_wp2
            go_roundg (out.length - (ii + 1))
            case measure => omega
            case rel => exact ⟨ii + 1, by go_num, by omega, by omega, ⟨Kd.N_below HL.out D.out.bel⟩, ⟨below_then EB.out EB.out.size D.out.bel⟩, HC2⟩
          · clear hse HSel
            refine CS.rgB (n := 19) #[false, false, false, false, false, false, false, false, false, false, false, false, false, false, false, false, false, false, false] D.out rfl rfl ?_
            intro wd hD
            clear D
            have D := Aside0.mk hD
            clear hD
            (try clear q0 f0)
            (try clear q1 f1)
            (try (have q0 := D.out.c 0 rfl; have f0 := D.out.f 0 rfl))
            (try (have q1 := D.out.c 1 rfl; have f1 := D.out.f 1 rfl))
            refine tk 0 (some 121) #[true, false, false, false, false, false, false, false, false, false, false, false, false, false, false, false, false, false, false] D.out.bel ?_ (hy := Or.inl ⟨by rfl, by (intro w' _; go_simp; with_reducible rfl)⟩)
            refine tk 1 (some 122) #[true, true, false, false, false, false, false, false, false, false, false, false, false, false, false, false, false, false, false] D.out.bel ?_ (hy := Or.inl ⟨by rfl, by (intro w' s0; have u0 := blk_cell (GB6 w' s0); go_simp; with_reducible rfl)⟩)
            refine tk 2 (some 123) #[true, true, true, false, false, false, false, false, false, false, false, false, false, false, false, false, false, false, false] D.out.bel ?_ (hy := Or.inl ⟨by rfl, by (intro w' _; go_simp; with_reducible rfl)⟩)
            refine tk 3 (some 124) #[true, true, true, true, false, false, false, false, false, false, false, false, false, false, false, false, false, false, false] D.out.bel ?_ (hy := Or.inl ⟨by rfl, by (intro w' _; go_simp; with_reducible rfl)⟩)
            refine pu 4 (some 125) #[true, true, true, true, true, false, false, false, false, false, false, false, false, false, false, false, false, false, false] ?_
            refine pu 5 (some 126) #[true, true, true, true, true, true, false, false, false, false, false, false, false, false, false, false, false, false, false] ?_
            refine pu 6 (some 127) #[true, true, true, true, true, true, true, false, false, false, false, false, false, false, false, false, false, false, false] ?_
            refine pu 7 (some 128) #[true, true, true, true, true, true, true, true, false, false, false, false, false, false, false, false, false, false, false] ?_
            refine pu 8 (some 129) #[true, true, true, true, true, true, true, true, true, false, false, false, false, false, false, false, false, false, false] ?_
            refine pu 9 (some 130) #[true, true, true, true, true, true, true, true, true, true, false, false, false, false, false, false, false, false, false] ?_
            refine pu 10 (some 131) #[true, true, true, true, true, true, true, true, true, true, true, false, false, false, false, false, false, false, false] ?_
            refine pu 11 (some 132) #[true, true, true, true, true, true, true, true, true, true, true, true, false, false, false, false, false, false, false] ?_
            refine pu 12 (some 133) #[true, true, true, true, true, true, true, true, true, true, true, true, true, false, false, false, false, false, false] ?_
            refine pu 13 (some 134) #[true, true, true, true, true, true, true, true, true, true, true, true, true, true, false, false, false, false, false] ?_
            refine pu 14 (some 135) #[true, true, true, true, true, true, true, true, true, true, true, true, true, true, true, false, false, false, false] ?_
            refine pu 15 (some 136) #[true, true, true, true, true, true, true, true, true, true, true, true, true, true, true, true, false, false, false] ?_
            refine pu 16 (some 137) #[true, true, true, true, true, true, true, true, true, true, true, true, true, true, true, true, true, false, false] ?_
            refine pu 17 (some 138) #[true, true, true, true, true, true, true, true, true, true, true, true, true, true, true, true, true, true, false] ?_
            refine tk 18 (some 139) #[true, true, true, true, true, true, true, true, true, true, true, true, true, true, true, true, true, true, true] D.out.bel ?_ (hy := Or.inl ⟨by rfl, by (intro w' _; go_simp; with_reducible rfl)⟩)
            refine done_ (by kernel_rfl) ?_
            go_wp2
            go_roundg (out.length - (ii + 1))
            case measure => omega
            case rel => exact ⟨ii + 1, by go_num, by omega, by omega, ⟨Kd.N_below HL.out D.out.bel⟩, ⟨below_then EB.out EB.out.size D.out.bel⟩, HC2⟩
        · have hltz : ¬ (ii : Int) < (out.length : Int) := by omega
          have hie : ii = out.length := by omega
          subst hie
          have H0 := HFi.out
          unfold laws_FnTrims.fin at H0
          obtain ⟨e0, he, H1⟩ := Option.bind_eq_some_iff.mp H0
          rcases ifD H1 with ⟨e1, _⟩ | ⟨_, e2⟩
          case inr => exact noneE e2
          obtain rfl := of_decide_eq_true e1
          have HPF := Aside0.mk he
          clear H0 H1 he e1 HFi HCk
          have u0 := blk_cell (blk_b B55.out EB.out)
          go_wp2_with (first
            | (go_at_call 67; with_reducible refine Calls.mono (impl_PolicyFault.calls k _ _ tr _ _ (Kd.C_below FT5.out EB.out) LT.out HPF.out) ?_; rintro e wz ⟨rfl, hb⟩; have EZ := Aside0.mk (below_then EB.out EB.out.size hb); clear EB hb u0))
          go_ret
          exact ⟨rfl, below_then EW.out EW.out.size EZ.out⟩
def laws_FnTrims.Pure : Prop := ∀ (l0 : List Int), l0.length ≤ maxLen → l0.length * 1 ≤ 140737488351232 → (∀ x ∈ l0, (Lit.int .u8 x).wf = true) → ∃ k, laws_FnTrims.f k l0 = some true
theorem laws_FnTrims.walk (P : laws_FnTrims.Pure) (a0 : Option Addr) (len0 cap0 : Nat) (z0 : List Int) (w : World) (w0 : (a0 = none ∧ len0 = 0 ∧ cap0 = 0 ∧ z0 = []) ∨ ∃ x, a0 = some x ∧ len0 ≤ cap0 ∧ cap0 ≤ maxLen ∧ z0.length = cap0 ∧ (∀ i, i < z0.length → w.cell? (x.add i) = some (.int .u8 (z0.getD i 0))) ∧ ∀ n ∈ z0, (Lit.int .u8 n).wf = true) (y0 : len0 * 1 ≤ 140737488351232) :
    Calls Try.prog 11 #[.slice a0 len0 cap0] w fun e w' => e = .returned (.bool true) ∧ Below w.heap.size w w' := by
  obtain ⟨l0, rfl, hr0, hm0, hw0, hc0⟩ := ReadsInt.ofRowC w0
  obtain ⟨k, h⟩ := P l0 hm0 y0 hw0
  exact laws_FnTrims.calls k _ _ l0 w (Kd.C_of_reads (d := (0 : Int)) (h1 := fun _ => rfl) hr0) hc0 h

end Go.Proofs.Ytcelgjhhmkgnhaa.PFnTrims
