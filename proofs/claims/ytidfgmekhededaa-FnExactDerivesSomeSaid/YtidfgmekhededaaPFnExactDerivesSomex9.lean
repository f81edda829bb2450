-- Written by wip/tools/myprint.py of this claim's session, over the kit's print, round texts of its own: own text.
import Derived.Test.YtidfgmekhededaaPFnExactDerivesSomex0
import Derived.Test.YtidfgmekhededaaPFnExactDerivesSomex2
import Derived.Test.YtidfgmekhededaaPFnExactDerivesSomex6
import Derived.Test.YtidfgmekhededaaPFnExactDerivesSomex7
import Derived.Test.YtidfgmekhededaaPFnExactDerivesSomex8
namespace Go.Proofs.Ytidfgmekhededaa.PFnExactDerivesSome
open Go.RowKit Go.Proofs.YtidfgmekhededaaW.PrintWords Go.Proofs.YtidfgmekhededaaW.PrintLast Go.Proofs.YtidfgmekhededaaW.PrintMore
attribute [local go_sem] max2_int min2_int max_two min_two max_three min_three max_four min_four   -- for this text's walks alone
set_option linter.unusedVariables false
set_option linter.unusedSimpArgs false

/-! ### spec_l6Open: function 48 (my own text) -/
def spec_l6Open.go (l : List S50) : Nat → List Int → Option (List Int)
  | 0, _ => none
  | k + 1, o => (spec_l6Make.f k l o).bind fun can => (innO l can o o).bind fun nx => if nx.length = o.length then some o else spec_l6Open.go l k nx
def spec_l6Open.f (k : Nat) (l0 : List S50) (l1 : List Int) : Option (List Int) := if l1.length ≤ 1000000 then spec_l6Open.go l0 k l1 else none
theorem spec_l6Open.mono_go (l : List S50) : ∀ k o, LeO (spec_l6Open.go l k o) (spec_l6Open.go l (k + 1) o)
  | 0, _ => LeO.none _
  | k + 1, o => by
    rw [spec_l6Open.go, spec_l6Open.go]
    exact LeO.bind (spec_l6Make.mono _ _ _) (fun _ => LeO.bind (LeO.refl _) (fun _ => LeO.ite (LeO.refl _) (spec_l6Open.mono_go l k _)))
theorem spec_l6Open.mono : ∀ a0 a1 k, LeO (spec_l6Open.f k a0 a1) (spec_l6Open.f (k + 1) a0 a1) := fun _ _ _ => LeO.ite (spec_l6Open.mono_go _ _ _) (LeO.refl _)
set_option maxHeartbeats 8000000 in
set_option maxRecDepth 100000 in
theorem spec_l6Open.calls (k : Nat) (A0 : Option Addr) (c0 : Nat) (l0 : List S50) (A1 : Option Addr) (c1 : Nat) (l1 : List Int) (r1 : List Int) (w : World) (hr0 : Kd.C k50 w A0 l0.length l0) (hc0 : l0.length ≤ c0) (hr1 : Kd.C (Kd.int .i64) w A1 l1.length l1) (hc1 : l1.length ≤ c1) (h : spec_l6Open.f k l0 l1 = some r1) :
    Calls Try.prog 48 #[.slice A0 l0.length c0, .slice A1 l1.length c1] w fun e w' => ∃ v1_ : Value, e = .returned v1_ ∧ Kd.R (Kd.int .i64) 2 w' w.heap.size (fun _ => True) v1_ r1 ∧ Below w.heap.size w w' := by
  unfold spec_l6Open.f at h
  by_cases hL : l1.length ≤ 1000000
  · rw [if_pos hL] at h
    have HT := Aside0.mk hr0
    have HTC := Aside0.mk hc0
    have HK := Aside0.mk hr1
    have HB := Aside0.mk (Below.refl w.heap.size w)
    have H := Aside0.mk h
    have hmx : l0.length ≤ 9223372036854775807 := hr0.2.1
    clear hr0 hc0 hr1 hc1 h
    have hu := Try.underlying50
    have hu2 := Try.underlying29
    go_enter Try.func48, Try.ntmps48
    go_wp2_with (first | ((with_reducible refine gate_dst (N := 10) rfl ?_); refine Kd.R_lit (Kd.int .i64) _ 2 ?hg (N := 10) ?hd (xs := ([] : List Int)) (inner := []) (ok := fun _ => True) (okp := fun _ => True) ?hr ?hp (fun _ hk => hk) trivial (Below.refl _ _) (Nat.le_refl _) (by simp) ?_; (case hd => rfl); (case hg => rfl); (case hr => first | (go_simp; done) | (go_simp; rfl)); (case hp => exact (Reps.none _ _)); intro v5 w5 ho5 hb hg_ hnew_; clear hg_ hnew_; have HO5 := Aside0.mk (Kd.R_lower ho5 (Nat.le_refl _)); have n1_ := Aside0.mk hb; clear HB; have HB := n1_; clear n1_ hb ho5) | ((with_reducible refine gate_builtin (b := .append) (xs := #[.tmp 10, .tmp 11]) rfl ?_); at_builtin; refine Kd.R_append_rows (Kd.int .i64) (w0 := w) w.heap.size rfl (.tmp 10) (.tmp 11) 29 2 (.int .i64 0) 8 rfl Try.underlying29 info2 rfl (by decide) (by omega) v5 [] l1 _ _ _ (fun _ => True) (fun _ => False) rfl rfl ?aO ?aR (fun _ _ h => h) (fun _ h => h.elim) ?aF ?aB ?aS ?aL ?_; (case aR => exact (Kd.C_below HK.out HB.out)); (case aB => exact HB.out); (case aF => exact (fun k_ hk => trivial)); (case aO => exact HO5.out); (case aS => exact HB.out.size); (case aL => simp; omega); intro v7 w7 ho hb hg hat; have HO7 := Aside0.mk ho; have HB7 := Aside0.mk hb; clear ho hb hg hat))
    go_loopg [5] k (fun gg s5 wr => ∃ (kf : Nat) (o : List Int) (v5 : Value), kf ≤ gg ∧ s5 = v5 ∧ Aside0 (Below w.heap.size w wr) ∧ Aside0 (Kd.R (Kd.int .i64) 2 wr w.heap.size (fun _ => True) v5 o) ∧ Aside0 (spec_l6Open.go l0 kf o = some r1))
    case atStart => exact ⟨k, l1, v7, Nat.le_refl _, rfl, HB7, ⟨by simpa using HO7.out⟩, H⟩
    case round =>
      clear HO5 HO7 HB HB7 H
      obtain ⟨kf, o, v5, hkg, rfl, BW, HO, H⟩ := hrel
      cases kf with
      | zero => exact absurd H.out (by simp [spec_l6Open.go])
      | succ kf =>
        obtain ⟨A5, c5, e5⟩ := Kd.R_slice HO.out
        subst e5
        obtain ⟨_, hc5, hC5⟩ := Kd.R_reads' HO.out
        have hH := H.out
        rw [spec_l6Open.go] at hH
        obtain ⟨can, hm, hH⟩ := Option.bind_eq_some_iff.mp hH
        obtain ⟨nf, hi, hH⟩ := Option.bind_eq_some_iff.mp hH
        have HF := Aside0.mk hH
        have HI := Aside0.mk hi
        have HM := Aside0.mk (fun (W : World) (hW : Below wr.heap.size wr W) => spec_l6Make.calls kf A0 c0 l0 A5 c5 o can W (Kd.C_below (Kd.C_below HT.out BW.out) hW) HTC.out (Kd.C_below hC5 hW) hc5 hm)
        have hmo : o.length ≤ 9223372036854775807 := hC5.2.1
        clear hH hi hm hc5 hC5 H
        go_wp2_with (first | (go_at_call 64; (with_reducible refine (HM.out _ (by with_reducible repeat (first | exact Below.refl _ _ | refine below_drew ?_ | refine pw_below_drewN ?_ _))).mono ?_); rintro e w5_ ⟨v6, rfl, hv, hb⟩; obtain ⟨A6, c6, e6⟩ := Kd.R_slice hv; subst e6; have HCA0 := Aside0.mk (Kd.R_lower hv (show w.heap.size ≤ _ from BW.out.size)); have HO2 := Aside0.mk (Kd.R_below HO.out hb); have BW2 := Aside0.mk (below_step BW.out hb); clear hv hb HO BW) | fail)
        go_loopg [7, 8] o.length (fun gg s7 s8 wr => ∃ (kk : Nat) (v7 : Value) (nx : List Int), kk ≤ o.length ∧ o.length - kk ≤ gg ∧ v7 = s7 ∧ s8 = .int .i64 kk ∧ Aside0 (Below w.heap.size w wr) ∧ Aside0 (Kd.R (Kd.int .i64) 2 wr w.heap.size (fun _ => True) (.slice A5 o.length c5) o) ∧ Aside0 (Kd.R Kd.bool 4 wr w.heap.size (fun _ => True) (.slice A6 can.length c6) can) ∧ Aside0 (Kd.R (Kd.int .i64) 2 wr w.heap.size (fun _ => True) v7 nx) ∧ Aside0 (innO l0 can (o.drop kk) nx = some nf))
        case atStart => exact ⟨0, _, o, Nat.zero_le _, by omega, rfl, rfl, BW2, HO2, HCA0, HO2, ⟨by rw [List.drop_zero]; exact HI.out⟩⟩
        case round =>
          clear HCA0 HO2 BW2 HI HM
          obtain ⟨kk, v7, nx, hkk, hgg, rfl, rfl, BW, HO, HCA, HN, H⟩ := hrel
          by_cases hlt : kk < o.length
          · have hltz : (kk : Int) < (o.length : Int) := by omega
            obtain ⟨ad5, e, hx0⟩ := Kd.at_int (Kd.R_reads' HO.out).2.2 (kk : Int) (by omega) hltz
            cases e
            simp only [Int.toNat_natCast] at hx0
            have hH := H.out
            have hrd : rd o (kk : Int) = o[kk] := by
              unfold rd
              simp [List.getD_eq_getElem?_getD, hlt]
            obtain ⟨x, hx⟩ : ∃ x, x = rd o (kk : Int) := ⟨_, rfl⟩
            rw [List.drop_eq_getElem_cons hlt, innO, ← hrd, ← hx] at hH
            rw [← hx] at hx0
            obtain ⟨y, hy, hH⟩ := Option.bind_eq_some_iff.mp hH
            have HN2 := Aside0.mk hH
            unfold stepO at hy
            by_cases hxr : 0 ≤ x ∧ x < (l0.length : Int)
            · rw [if_pos hxr] at hy
              obtain ⟨hx1, hx2⟩ := hxr
              obtain ⟨ad0, e, ht0, ht1, ht2, ht3⟩ := at_T50 (Kd.C_below HT.out BW.out) x hx1 hx2
              cases e
              have BX := Aside0.mk (Boxes.start wr)
              clear hH hrd hx H
              by_cases h3 : (rd_T50 l0 x).f0 = 3
              · rw [if_pos h3] at hy
                by_cases hb3 : nx.length ≤ 1000000 ∧ (riseL nx (rd_T50 l0 x).f1).length ≤ 1000000
                · rw [if_pos hb3] at hy
                  have HL1 := Aside0.mk hb3.1
                  obtain ⟨y1, hy1⟩ : ∃ y1, y1 = riseL nx (rd_T50 l0 x).f1 := ⟨_, rfl⟩
                  have HL2 : Aside0 (y1.length ≤ 1000000) := ⟨hy1 ▸ hb3.2⟩
                  rw [← hy1] at hy
                  have HY := Aside0.mk (Option.some.inj hy)
                  have HY1 : Aside0 (riseL nx (rd_T50 l0 x).f1 = y1) := ⟨hy1.symm⟩
                  have hq3 : ((rd_T50 l0 x).f0 == 3) = true := by rw [h3]; rfl
                  have hq5 : ((rd_T50 l0 x).f0 == 5) = false := by rw [h3]; rfl
                  clear hb3 hy hy1 h3
                  go_wp2_with (first | ((with_reducible refine gate_dst (N := 9) rfl ?_); refine box_event ?hg (N := 9) ?hd (cs := #[.int .i64 0, .int .i64 0, .int .i64 0, .int .i64 0]) (t := 50) ?hr ?_; (case hd => rfl); (case hg => rfl); (case hr => first | (go_simp; done) | (go_simp; rfl)); intro g9 hg w9_ hbox hb; have BY := Aside0.mk (Boxes.new (w0 := wr) (bs := []) (by (with_reducible repeat (first | refine Boxes.drewN ?_ _ | refine Boxes.drew ?_ | refine Boxes.alloc ?_ _)); exact BX.out) hg hbox hb); clear BX hb hbox hg; have BX := BY; clear BY; have q9_0 : World.cell? _ ⟨g9, 0, none⟩ = some (.int .i64 0) := BX.out.cell (i := 0) rfl (j := 0) rfl; have q9_1 : World.cell? _ ⟨g9, 1, none⟩ = some (.int .i64 0) := BX.out.cell (i := 0) rfl (j := 1) rfl; have q9_2 : World.cell? _ ⟨g9, 2, none⟩ = some (.int .i64 0) := BX.out.cell (i := 0) rfl (j := 2) rfl; have q9_3 : World.cell? _ ⟨g9, 3, none⟩ = some (.int .i64 0) := BX.out.cell (i := 0) rfl (j := 3) rfl; have f9_0 : World.frozen? _ ⟨g9, 0, none⟩ = false := BX.out.frozen (i := 0) rfl 0; have f9_1 : World.frozen? _ ⟨g9, 1, none⟩ = false := BX.out.frozen (i := 0) rfl 1; have f9_2 : World.frozen? _ ⟨g9, 2, none⟩ = false := BX.out.frozen (i := 0) rfl 2; have f9_3 : World.frozen? _ ⟨g9, 3, none⟩ = false := BX.out.frozen (i := 0) rfl 3) | ((with_reducible refine gate_store (t := 50) (p := 9) rfl ?_); refine boxes_store (w0 := wr) (bs := [(g9, #[.int .i64 (rd_T50 l0 x).f0, .int .i64 (rd_T50 l0 x).f1, .int .i64 (rd_T50 l0 x).f2, .int .i64 (rd_T50 l0 x).f3], 50)]) (W1 := (((World.setCell w9_ ⟨g9, 0, none⟩ (.int .i64 (rd_T50 l0 x).f0)).setCell ⟨g9, 1, none⟩ (.int .i64 (rd_T50 l0 x).f1)).setCell ⟨g9, 2, none⟩ (.int .i64 (rd_T50 l0 x).f2)).setCell ⟨g9, 3, none⟩ (.int .i64 (rd_T50 l0 x).f3)) rfl rfl rfl ?hr ((((Boxes.put (w0 := wr) (b1 := []) (b2 := []) BX.out 0 (.int .i64 (rd_T50 l0 x).f0)).put (b1 := []) 1 (.int .i64 (rd_T50 l0 x).f1)).put (b1 := []) 2 (.int .i64 (rd_T50 l0 x).f2)).put (b1 := []) 3 (.int .i64 (rd_T50 l0 x).f3)) ?_; (case hr => first | (go_simp; done) | (go_simp; rfl)); intro w10_ BY; have BY := Aside0.mk BY; clear BX; have BX := BY; clear BY; clear q9_0 q9_1 q9_2 q9_3 f9_0 f9_1 f9_2 f9_3; have q9_0 : World.cell? w10_ ⟨g9, 0, none⟩ = some (.int .i64 (rd_T50 l0 x).f0) := BX.out.cell (i := 0) rfl (j := 0) rfl; have q9_1 : World.cell? w10_ ⟨g9, 1, none⟩ = some (.int .i64 (rd_T50 l0 x).f1) := BX.out.cell (i := 0) rfl (j := 1) rfl; have q9_2 : World.cell? w10_ ⟨g9, 2, none⟩ = some (.int .i64 (rd_T50 l0 x).f2) := BX.out.cell (i := 0) rfl (j := 2) rfl; have q9_3 : World.cell? w10_ ⟨g9, 3, none⟩ = some (.int .i64 (rd_T50 l0 x).f3) := BX.out.cell (i := 0) rfl (j := 3) rfl) | fail)
                  have BW_ := BW
                  clear BW
                  have BW := Aside0.mk (below_step BW_.out (Boxes.low (w0 := wr) (bs := [(g9, #[.int .i64 (rd_T50 l0 x).f0, .int .i64 (rd_T50 l0 x).f1, .int .i64 (rd_T50 l0 x).f2, .int .i64 (rd_T50 l0 x).f3], 50)]) BX.out))
                  have HN_ := HN
                  clear HN
                  have HN := Aside0.mk (Kd.R_below HN_.out (Boxes.low (w0 := wr) (bs := [(g9, #[.int .i64 (rd_T50 l0 x).f0, .int .i64 (rd_T50 l0 x).f1, .int .i64 (rd_T50 l0 x).f2, .int .i64 (rd_T50 l0 x).f3], 50)]) BX.out))
                  refine start_ (n := 8) (S := fun w' => w'.cell? ⟨g9, 1, none⟩ = some (.int .i64 (rd_T50 l0 x).f1) ∧ w'.cell? ⟨g9, 2, none⟩ = some (.int .i64 (rd_T50 l0 x).f2)) (ds := []) #[false, false, false, false, false, false, false, false] (by kernel_rfl) rfl rfl ⟨q9_1, q9_2⟩ (fun hHeld => ?_)
                  refine pure_ (i := 0) (N := some 33) (v := ?_) (a' := ?_) #[true, false, false, false, false, false, false, false] rfl rfl (by kernel_rfl) (fun _ _ _ h => h) (Or.inl ⟨by rfl, ?_⟩) ?_ ?_
                  rotate_left
                  · intro w'
                    go_simp
                    with_reducible rfl
                  rotate_left
                  · simp only [Act.put, List.setIfInBounds_toArray, List.set_cons_zero, List.set_cons_succ, i64_w, i32_w]
                    rfl
                  refine pure_ (i := 1) (N := some 34) (v := ?_) (a' := ?_) #[true, true, false, false, false, false, false, false] rfl rfl (by kernel_rfl) (fun _ _ _ h => h) (Or.inl ⟨by rfl, ?_⟩) ?_ ?_
                  rotate_left
                  · intro w'
                    go_simp
                    with_reducible rfl
                  rotate_left
                  · simp only [Act.put, List.setIfInBounds_toArray, List.set_cons_zero, List.set_cons_succ, i64_w, i32_w]
                    rfl
                  refine pure_ (i := 4) (N := some 37) (v := ?_) (a' := ?_) #[true, true, false, false, true, false, false, false] rfl rfl (by kernel_rfl) (fun _ _ _ h => h) (Or.inl ⟨by rfl, ?_⟩) ?_ ?_
                  rotate_left
                  · intro w'
                    go_simp
                    with_reducible rfl
                  rotate_left
                  · simp only [Act.put, List.setIfInBounds_toArray, List.set_cons_zero, List.set_cons_succ, i64_w, i32_w]
                    rfl
                  refine take_ (i := 2) (N := some 35) (v := ?_) (a' := ?_) #[true, true, true, false, true, false, false, false] rfl rfl (by kernel_rfl) (fun _ _ _ h => h) (Or.inl ⟨by rfl, ?_⟩) hHeld ?_ ?_
                  rotate_left
                  · rintro w' ⟨s0, s1⟩
                    go_simp
                    with_reducible rfl
                  rotate_left
                  · simp only [Act.put, List.setIfInBounds_toArray, List.set_cons_zero, List.set_cons_succ, i64_w, i32_w]
                    rfl
                  refine take_ (i := 5) (N := some 38) (v := ?_) (a' := ?_) #[true, true, true, false, true, true, false, false] rfl rfl (by kernel_rfl) (fun _ _ _ h => h) (Or.inl ⟨by rfl, ?_⟩) hHeld ?_ ?_
                  rotate_left
                  · rintro w' ⟨s0, s1⟩
                    go_simp
                    with_reducible rfl
                  rotate_left
                  · simp only [Act.put, List.setIfInBounds_toArray, List.set_cons_zero, List.set_cons_succ, i64_w, i32_w]
                    rfl
                  refine one_ (i := 3) (N := some 36) #[true, true, true, true, true, true, false, false] rfl rfl (by kernel_rfl) (by decide) (fun K hK => ?_)
                  refine goes_ Try.func70 (by kernel_rfl) rfl #[v7, .int .i64 (rd_T50 l0 x).f1] (by rfl) rfl rfl (by simp only [List.map_toArray, List.map_cons, List.map_nil]; rfl) ?_
                  with_reducible refine (spec_l1Rise.calls w.heap.size v7 nx (rd_T50 l0 x).f1 _ (below_drew1 BW.out).size HL1.out (Kd.R_drew HN.out)).mono ?_
                  rintro e w3 ⟨v_w3, rfl, hv, hb⟩
                  refine ⟨_, rfl, ?_⟩
                  have HN_w3 := Aside0.mk hv
                  have BW_w3 := Aside0.mk (below_step (below_drew1 BW.out) hb)
                  have BX_w3 := Aside0.mk (Boxes.below (w0 := wr) (bs := [(g9, #[.int .i64 (rd_T50 l0 x).f0, .int .i64 (rd_T50 l0 x).f1, .int .i64 (rd_T50 l0 x).f2, .int .i64 (rd_T50 l0 x).f3], 50)]) (Boxes.drew BX.out) hb)
                  clear hv hb
                  have HN_w3' : Aside0 (Kd.R (Kd.int .i64) 2 w3 w.heap.size (fun _ => True) v_w3 y1) := ⟨HY1.out ▸ HN_w3.out⟩
                  refine hK.out _ _ ⟨(BX_w3.out.cell (i := 0) rfl (j := 1) rfl), (BX_w3.out.cell (i := 0) rfl (j := 2) rfl)⟩ (fun hHeld => ?_)
                  clear hK K
                  refine norm_ (a' := ?_) ?_ ?_
                  rotate_left
                  · show Act.put _ (some 36) _ = _
                    simp only [Act.put, List.setIfInBounds_toArray, List.set_cons_zero, List.set_cons_succ, i64_w, i32_w]
                    rfl
                  refine one_ (i := 6) (N := some 39) #[true, true, true, true, true, true, true, false] rfl rfl (by kernel_rfl) (by decide) (fun K hK => ?_)
                  refine goes_ Try.func70 (by kernel_rfl) rfl #[v_w3, .int .i64 (rd_T50 l0 x).f2] (by rfl) rfl rfl (by simp only [List.map_toArray, List.map_cons, List.map_nil]; rfl) ?_
                  with_reducible refine (spec_l1Rise.calls w.heap.size v_w3 y1 (rd_T50 l0 x).f2 _ BW_w3.out.size HL2.out HN_w3'.out).mono ?_
                  rintro e w6 ⟨v_w6, rfl, hv, hb⟩
                  refine ⟨_, rfl, ?_⟩
                  have HN_w6 := Aside0.mk hv
                  have BW_w6 := Aside0.mk (below_step BW_w3.out hb)
                  have BX_w6 := Aside0.mk (Boxes.below (w0 := wr) (bs := [(g9, #[.int .i64 (rd_T50 l0 x).f0, .int .i64 (rd_T50 l0 x).f1, .int .i64 (rd_T50 l0 x).f2, .int .i64 (rd_T50 l0 x).f3], 50)]) BX_w3.out hb)
                  clear hv hb
                  refine hK.out _ _ ⟨(BX_w6.out.cell (i := 0) rfl (j := 1) rfl), (BX_w6.out.cell (i := 0) rfl (j := 2) rfl)⟩ (fun hHeld => ?_)
                  clear hK K
                  refine norm_ (a' := ?_) ?_ ?_
                  rotate_left
                  · show Act.put _ (some 39) _ = _
                    simp only [Act.put, List.setIfInBounds_toArray, List.set_cons_zero, List.set_cons_succ, i64_w, i32_w]
                    rfl
                  refine pure_ (i := 7) (N := some 7) (v := ?_) (a' := ?_) #[true, true, true, true, true, true, true, true] rfl rfl (by kernel_rfl) (fun _ _ _ h => h) (Or.inl ⟨by rfl, ?_⟩) ?_ ?_
                  rotate_left
                  · intro w'
                    go_simp
                    with_reducible rfl
                  rotate_left
                  · simp only [Act.put, List.setIfInBounds_toArray, List.set_cons_zero, List.set_cons_succ, i64_w, i32_w]
                    rfl
                  refine done_ (by kernel_rfl) ?_
                  have q9_0 : World.cell? w6 ⟨g9, 0, none⟩ = some (.int .i64 (rd_T50 l0 x).f0) := BX_w6.out.cell (i := 0) rfl (j := 0) rfl; have q9_1 : World.cell? w6 ⟨g9, 1, none⟩ = some (.int .i64 (rd_T50 l0 x).f1) := BX_w6.out.cell (i := 0) rfl (j := 1) rfl; have q9_2 : World.cell? w6 ⟨g9, 2, none⟩ = some (.int .i64 (rd_T50 l0 x).f2) := BX_w6.out.cell (i := 0) rfl (j := 2) rfl; have q9_3 : World.cell? w6 ⟨g9, 3, none⟩ = some (.int .i64 (rd_T50 l0 x).f3) := BX_w6.out.cell (i := 0) rfl (j := 3) rfl
                  go_wp2
                  go_roundg (o.length - (kk + 1))
                  case measure => omega
                  case rel => exact ⟨kk + 1, v_w6, y, by omega, by omega, rfl, by go_num, ⟨BW_w6.out⟩, ⟨Kd.R_below HO.out (Boxes.low (w0 := wr) (bs := [(g9, #[.int .i64 (rd_T50 l0 x).f0, .int .i64 (rd_T50 l0 x).f1, .int .i64 (rd_T50 l0 x).f2, .int .i64 (rd_T50 l0 x).f3], 50)]) BX_w6.out)⟩, ⟨Kd.R_below HCA.out (Boxes.low (w0 := wr) (bs := [(g9, #[.int .i64 (rd_T50 l0 x).f0, .int .i64 (rd_T50 l0 x).f1, .int .i64 (rd_T50 l0 x).f2, .int .i64 (rd_T50 l0 x).f3], 50)]) BX_w6.out)⟩, ⟨by rw [← HY.out]; exact HN_w6.out⟩, ⟨HN2.out⟩⟩
                · rw [if_neg hb3] at hy
                  exact absurd hy (by simp)
              · rw [if_neg h3] at hy
                have hq3 : ((rd_T50 l0 x).f0 == 3) = false := by simpa using h3
                by_cases h5 : (rd_T50 l0 x).f0 = 5
                · rw [if_pos h5] at hy
                  by_cases hb5 : 0 ≤ (rd_T50 l0 x).f1 ∧ (rd_T50 l0 x).f1 < (can.length : Int) ∧ nx.length ≤ 1000000
                  · rw [if_pos hb5] at hy
                    have HL1 := Aside0.mk hb5.2.2
                    have hj1 := hb5.1
                    have hj2 := hb5.2.1
                    have hq5 : ((rd_T50 l0 x).f0 == 5) = true := by rw [h5]; rfl
                    obtain ⟨ad6, e, hz0⟩ := Kd.at_bool (Kd.R_reads' HCA.out).2.2 (rd_T50 l0 x).f1 hj1 hj2
                    cases e
                    by_cases hz : rdOf false can (rd_T50 l0 x).f1 = true
                    · rw [if_pos hz] at hy
                      have HY := Aside0.mk (Option.some.inj hy)
                      rw [hz] at hz0
                      clear hb5 hy h3 h5 hz
                      go_wp2_with (first | ((with_reducible refine gate_dst (N := 9) rfl ?_); refine box_event ?hg (N := 9) ?hd (cs := #[.int .i64 0, .int .i64 0, .int .i64 0, .int .i64 0]) (t := 50) ?hr ?_; (case hd => rfl); (case hg => rfl); (case hr => first | (go_simp; done) | (go_simp; rfl)); intro g9 hg w9_ hbox hb; have BY := Aside0.mk (Boxes.new (w0 := wr) (bs := []) (by (with_reducible repeat (first | refine Boxes.drewN ?_ _ | refine Boxes.drew ?_ | refine Boxes.alloc ?_ _)); exact BX.out) hg hbox hb); clear BX hb hbox hg; have BX := BY; clear BY; have q9_0 : World.cell? _ ⟨g9, 0, none⟩ = some (.int .i64 0) := BX.out.cell (i := 0) rfl (j := 0) rfl; have q9_1 : World.cell? _ ⟨g9, 1, none⟩ = some (.int .i64 0) := BX.out.cell (i := 0) rfl (j := 1) rfl; have q9_2 : World.cell? _ ⟨g9, 2, none⟩ = some (.int .i64 0) := BX.out.cell (i := 0) rfl (j := 2) rfl; have q9_3 : World.cell? _ ⟨g9, 3, none⟩ = some (.int .i64 0) := BX.out.cell (i := 0) rfl (j := 3) rfl; have f9_0 : World.frozen? _ ⟨g9, 0, none⟩ = false := BX.out.frozen (i := 0) rfl 0; have f9_1 : World.frozen? _ ⟨g9, 1, none⟩ = false := BX.out.frozen (i := 0) rfl 1; have f9_2 : World.frozen? _ ⟨g9, 2, none⟩ = false := BX.out.frozen (i := 0) rfl 2; have f9_3 : World.frozen? _ ⟨g9, 3, none⟩ = false := BX.out.frozen (i := 0) rfl 3) | ((with_reducible refine gate_store (t := 50) (p := 9) rfl ?_); refine boxes_store (w0 := wr) (bs := [(g9, #[.int .i64 (rd_T50 l0 x).f0, .int .i64 (rd_T50 l0 x).f1, .int .i64 (rd_T50 l0 x).f2, .int .i64 (rd_T50 l0 x).f3], 50)]) (W1 := (((World.setCell w9_ ⟨g9, 0, none⟩ (.int .i64 (rd_T50 l0 x).f0)).setCell ⟨g9, 1, none⟩ (.int .i64 (rd_T50 l0 x).f1)).setCell ⟨g9, 2, none⟩ (.int .i64 (rd_T50 l0 x).f2)).setCell ⟨g9, 3, none⟩ (.int .i64 (rd_T50 l0 x).f3)) rfl rfl rfl ?hr ((((Boxes.put (w0 := wr) (b1 := []) (b2 := []) BX.out 0 (.int .i64 (rd_T50 l0 x).f0)).put (b1 := []) 1 (.int .i64 (rd_T50 l0 x).f1)).put (b1 := []) 2 (.int .i64 (rd_T50 l0 x).f2)).put (b1 := []) 3 (.int .i64 (rd_T50 l0 x).f3)) ?_; (case hr => first | (go_simp; done) | (go_simp; rfl)); intro w10_ BY; have BY := Aside0.mk BY; clear BX; have BX := BY; clear BY; clear q9_0 q9_1 q9_2 q9_3 f9_0 f9_1 f9_2 f9_3; have q9_0 : World.cell? w10_ ⟨g9, 0, none⟩ = some (.int .i64 (rd_T50 l0 x).f0) := BX.out.cell (i := 0) rfl (j := 0) rfl; have q9_1 : World.cell? w10_ ⟨g9, 1, none⟩ = some (.int .i64 (rd_T50 l0 x).f1) := BX.out.cell (i := 0) rfl (j := 1) rfl; have q9_2 : World.cell? w10_ ⟨g9, 2, none⟩ = some (.int .i64 (rd_T50 l0 x).f2) := BX.out.cell (i := 0) rfl (j := 2) rfl; have q9_3 : World.cell? w10_ ⟨g9, 3, none⟩ = some (.int .i64 (rd_T50 l0 x).f3) := BX.out.cell (i := 0) rfl (j := 3) rfl; have hz1 : World.cell? w10_ _ = _ := ((Boxes.low (w0 := wr) (bs := [(g9, #[.int .i64 (rd_T50 l0 x).f0, .int .i64 (rd_T50 l0 x).f1, .int .i64 (rd_T50 l0 x).f2, .int .i64 (rd_T50 l0 x).f3], 50)]) BX.out).cell (World.block_lt_of_cell? wr _ hz0)).trans hz0) | (go_at_call 70; (with_reducible refine (spec_l1Rise.calls w.heap.size _ nx _ _ (below_step BW.out (Boxes.low (w0 := wr) (bs := [(g9, #[.int .i64 (rd_T50 l0 x).f0, .int .i64 (rd_T50 l0 x).f1, .int .i64 (rd_T50 l0 x).f2, .int .i64 (rd_T50 l0 x).f3], 50)]) (by (with_reducible repeat (first | refine Boxes.drewN ?_ _ | refine Boxes.drew ?_ | refine Boxes.alloc ?_ _)); exact BX.out))).size HL1.out (Kd.R_below HN.out (Boxes.low (w0 := wr) (bs := [(g9, #[.int .i64 (rd_T50 l0 x).f0, .int .i64 (rd_T50 l0 x).f1, .int .i64 (rd_T50 l0 x).f2, .int .i64 (rd_T50 l0 x).f3], 50)]) (by (with_reducible repeat (first | refine Boxes.drewN ?_ _ | refine Boxes.drew ?_ | refine Boxes.alloc ?_ _)); exact BX.out)))).mono ?_); rintro e w6 ⟨v_w6, rfl, hv, hb⟩; have HN6 := Aside0.mk hv; have BX6 := Aside0.mk (Boxes.below (w0 := wr) (bs := [(g9, #[.int .i64 (rd_T50 l0 x).f0, .int .i64 (rd_T50 l0 x).f1, .int .i64 (rd_T50 l0 x).f2, .int .i64 (rd_T50 l0 x).f3], 50)]) (by (with_reducible repeat (first | refine Boxes.drewN ?_ _ | refine Boxes.drew ?_ | refine Boxes.alloc ?_ _)); exact BX.out) hb); clear hv hb) | fail)
                      go_roundg (o.length - (kk + 1))
                      case measure => omega
                      case rel => exact ⟨kk + 1, v_w6, y, by omega, by omega, rfl, by go_num, ⟨below_step BW.out (Boxes.low (w0 := wr) (bs := [(g9, #[.int .i64 (rd_T50 l0 x).f0, .int .i64 (rd_T50 l0 x).f1, .int .i64 (rd_T50 l0 x).f2, .int .i64 (rd_T50 l0 x).f3], 50)]) BX6.out)⟩, ⟨Kd.R_below HO.out (Boxes.low (w0 := wr) (bs := [(g9, #[.int .i64 (rd_T50 l0 x).f0, .int .i64 (rd_T50 l0 x).f1, .int .i64 (rd_T50 l0 x).f2, .int .i64 (rd_T50 l0 x).f3], 50)]) BX6.out)⟩, ⟨Kd.R_below HCA.out (Boxes.low (w0 := wr) (bs := [(g9, #[.int .i64 (rd_T50 l0 x).f0, .int .i64 (rd_T50 l0 x).f1, .int .i64 (rd_T50 l0 x).f2, .int .i64 (rd_T50 l0 x).f3], 50)]) BX6.out)⟩, ⟨by rw [← HY.out]; exact HN6.out⟩, ⟨HN2.out⟩⟩
                    · rw [if_neg hz] at hy
                      have HY := Aside0.mk (Option.some.inj hy)
                      rw [show rdOf false can (rd_T50 l0 x).f1 = false by simpa using hz] at hz0
                      clear hb5 hy h3 h5 hz
                      go_wp2_with (first | ((with_reducible refine gate_dst (N := 9) rfl ?_); refine box_event ?hg (N := 9) ?hd (cs := #[.int .i64 0, .int .i64 0, .int .i64 0, .int .i64 0]) (t := 50) ?hr ?_; (case hd => rfl); (case hg => rfl); (case hr => first | (go_simp; done) | (go_simp; rfl)); intro g9 hg w9_ hbox hb; have BY := Aside0.mk (Boxes.new (w0 := wr) (bs := []) (by (with_reducible repeat (first | refine Boxes.drewN ?_ _ | refine Boxes.drew ?_ | refine Boxes.alloc ?_ _)); exact BX.out) hg hbox hb); clear BX hb hbox hg; have BX := BY; clear BY; have q9_0 : World.cell? _ ⟨g9, 0, none⟩ = some (.int .i64 0) := BX.out.cell (i := 0) rfl (j := 0) rfl; have q9_1 : World.cell? _ ⟨g9, 1, none⟩ = some (.int .i64 0) := BX.out.cell (i := 0) rfl (j := 1) rfl; have q9_2 : World.cell? _ ⟨g9, 2, none⟩ = some (.int .i64 0) := BX.out.cell (i := 0) rfl (j := 2) rfl; have q9_3 : World.cell? _ ⟨g9, 3, none⟩ = some (.int .i64 0) := BX.out.cell (i := 0) rfl (j := 3) rfl; have f9_0 : World.frozen? _ ⟨g9, 0, none⟩ = false := BX.out.frozen (i := 0) rfl 0; have f9_1 : World.frozen? _ ⟨g9, 1, none⟩ = false := BX.out.frozen (i := 0) rfl 1; have f9_2 : World.frozen? _ ⟨g9, 2, none⟩ = false := BX.out.frozen (i := 0) rfl 2; have f9_3 : World.frozen? _ ⟨g9, 3, none⟩ = false := BX.out.frozen (i := 0) rfl 3) | ((with_reducible refine gate_store (t := 50) (p := 9) rfl ?_); refine boxes_store (w0 := wr) (bs := [(g9, #[.int .i64 (rd_T50 l0 x).f0, .int .i64 (rd_T50 l0 x).f1, .int .i64 (rd_T50 l0 x).f2, .int .i64 (rd_T50 l0 x).f3], 50)]) (W1 := (((World.setCell w9_ ⟨g9, 0, none⟩ (.int .i64 (rd_T50 l0 x).f0)).setCell ⟨g9, 1, none⟩ (.int .i64 (rd_T50 l0 x).f1)).setCell ⟨g9, 2, none⟩ (.int .i64 (rd_T50 l0 x).f2)).setCell ⟨g9, 3, none⟩ (.int .i64 (rd_T50 l0 x).f3)) rfl rfl rfl ?hr ((((Boxes.put (w0 := wr) (b1 := []) (b2 := []) BX.out 0 (.int .i64 (rd_T50 l0 x).f0)).put (b1 := []) 1 (.int .i64 (rd_T50 l0 x).f1)).put (b1 := []) 2 (.int .i64 (rd_T50 l0 x).f2)).put (b1 := []) 3 (.int .i64 (rd_T50 l0 x).f3)) ?_; (case hr => first | (go_simp; done) | (go_simp; rfl)); intro w10_ BY; have BY := Aside0.mk BY; clear BX; have BX := BY; clear BY; clear q9_0 q9_1 q9_2 q9_3 f9_0 f9_1 f9_2 f9_3; have q9_0 : World.cell? w10_ ⟨g9, 0, none⟩ = some (.int .i64 (rd_T50 l0 x).f0) := BX.out.cell (i := 0) rfl (j := 0) rfl; have q9_1 : World.cell? w10_ ⟨g9, 1, none⟩ = some (.int .i64 (rd_T50 l0 x).f1) := BX.out.cell (i := 0) rfl (j := 1) rfl; have q9_2 : World.cell? w10_ ⟨g9, 2, none⟩ = some (.int .i64 (rd_T50 l0 x).f2) := BX.out.cell (i := 0) rfl (j := 2) rfl; have q9_3 : World.cell? w10_ ⟨g9, 3, none⟩ = some (.int .i64 (rd_T50 l0 x).f3) := BX.out.cell (i := 0) rfl (j := 3) rfl; have hz1 : World.cell? w10_ _ = _ := ((Boxes.low (w0 := wr) (bs := [(g9, #[.int .i64 (rd_T50 l0 x).f0, .int .i64 (rd_T50 l0 x).f1, .int .i64 (rd_T50 l0 x).f2, .int .i64 (rd_T50 l0 x).f3], 50)]) BX.out).cell (World.block_lt_of_cell? wr _ hz0)).trans hz0) | fail)
                      go_roundg (o.length - (kk + 1))
                      case measure => omega
                      case rel => exact ⟨kk + 1, v7, y, by omega, by omega, rfl, by go_num, ⟨below_step BW.out (Boxes.low (w0 := wr) (bs := [(g9, #[.int .i64 (rd_T50 l0 x).f0, .int .i64 (rd_T50 l0 x).f1, .int .i64 (rd_T50 l0 x).f2, .int .i64 (rd_T50 l0 x).f3], 50)]) (by (with_reducible repeat (first | refine Boxes.drewN ?_ _ | refine Boxes.drew ?_ | refine Boxes.alloc ?_ _)); exact BX.out))⟩, ⟨Kd.R_below HO.out (Boxes.low (w0 := wr) (bs := [(g9, #[.int .i64 (rd_T50 l0 x).f0, .int .i64 (rd_T50 l0 x).f1, .int .i64 (rd_T50 l0 x).f2, .int .i64 (rd_T50 l0 x).f3], 50)]) (by (with_reducible repeat (first | refine Boxes.drewN ?_ _ | refine Boxes.drew ?_ | refine Boxes.alloc ?_ _)); exact BX.out))⟩, ⟨Kd.R_below HCA.out (Boxes.low (w0 := wr) (bs := [(g9, #[.int .i64 (rd_T50 l0 x).f0, .int .i64 (rd_T50 l0 x).f1, .int .i64 (rd_T50 l0 x).f2, .int .i64 (rd_T50 l0 x).f3], 50)]) (by (with_reducible repeat (first | refine Boxes.drewN ?_ _ | refine Boxes.drew ?_ | refine Boxes.alloc ?_ _)); exact BX.out))⟩, ⟨by rw [← HY.out]; exact Kd.R_below HN.out (Boxes.low (w0 := wr) (bs := [(g9, #[.int .i64 (rd_T50 l0 x).f0, .int .i64 (rd_T50 l0 x).f1, .int .i64 (rd_T50 l0 x).f2, .int .i64 (rd_T50 l0 x).f3], 50)]) (by (with_reducible repeat (first | refine Boxes.drewN ?_ _ | refine Boxes.drew ?_ | refine Boxes.alloc ?_ _)); exact BX.out))⟩, ⟨HN2.out⟩⟩
                  · rw [if_neg hb5] at hy
                    exact absurd hy (by simp)
                · rw [if_neg h5] at hy
                  have HY := Aside0.mk (Option.some.inj hy)
                  have hq5 : ((rd_T50 l0 x).f0 == 5) = false := by simpa using h5
                  clear hy h3 h5
                  go_wp2_with (first | ((with_reducible refine gate_dst (N := 9) rfl ?_); refine box_event ?hg (N := 9) ?hd (cs := #[.int .i64 0, .int .i64 0, .int .i64 0, .int .i64 0]) (t := 50) ?hr ?_; (case hd => rfl); (case hg => rfl); (case hr => first | (go_simp; done) | (go_simp; rfl)); intro g9 hg w9_ hbox hb; have BY := Aside0.mk (Boxes.new (w0 := wr) (bs := []) (by (with_reducible repeat (first | refine Boxes.drewN ?_ _ | refine Boxes.drew ?_ | refine Boxes.alloc ?_ _)); exact BX.out) hg hbox hb); clear BX hb hbox hg; have BX := BY; clear BY; have q9_0 : World.cell? _ ⟨g9, 0, none⟩ = some (.int .i64 0) := BX.out.cell (i := 0) rfl (j := 0) rfl; have q9_1 : World.cell? _ ⟨g9, 1, none⟩ = some (.int .i64 0) := BX.out.cell (i := 0) rfl (j := 1) rfl; have q9_2 : World.cell? _ ⟨g9, 2, none⟩ = some (.int .i64 0) := BX.out.cell (i := 0) rfl (j := 2) rfl; have q9_3 : World.cell? _ ⟨g9, 3, none⟩ = some (.int .i64 0) := BX.out.cell (i := 0) rfl (j := 3) rfl; have f9_0 : World.frozen? _ ⟨g9, 0, none⟩ = false := BX.out.frozen (i := 0) rfl 0; have f9_1 : World.frozen? _ ⟨g9, 1, none⟩ = false := BX.out.frozen (i := 0) rfl 1; have f9_2 : World.frozen? _ ⟨g9, 2, none⟩ = false := BX.out.frozen (i := 0) rfl 2; have f9_3 : World.frozen? _ ⟨g9, 3, none⟩ = false := BX.out.frozen (i := 0) rfl 3) | ((with_reducible refine gate_store (t := 50) (p := 9) rfl ?_); refine boxes_store (w0 := wr) (bs := [(g9, #[.int .i64 (rd_T50 l0 x).f0, .int .i64 (rd_T50 l0 x).f1, .int .i64 (rd_T50 l0 x).f2, .int .i64 (rd_T50 l0 x).f3], 50)]) (W1 := (((World.setCell w9_ ⟨g9, 0, none⟩ (.int .i64 (rd_T50 l0 x).f0)).setCell ⟨g9, 1, none⟩ (.int .i64 (rd_T50 l0 x).f1)).setCell ⟨g9, 2, none⟩ (.int .i64 (rd_T50 l0 x).f2)).setCell ⟨g9, 3, none⟩ (.int .i64 (rd_T50 l0 x).f3)) rfl rfl rfl ?hr ((((Boxes.put (w0 := wr) (b1 := []) (b2 := []) BX.out 0 (.int .i64 (rd_T50 l0 x).f0)).put (b1 := []) 1 (.int .i64 (rd_T50 l0 x).f1)).put (b1 := []) 2 (.int .i64 (rd_T50 l0 x).f2)).put (b1 := []) 3 (.int .i64 (rd_T50 l0 x).f3)) ?_; (case hr => first | (go_simp; done) | (go_simp; rfl)); intro w10_ BY; have BY := Aside0.mk BY; clear BX; have BX := BY; clear BY; clear q9_0 q9_1 q9_2 q9_3 f9_0 f9_1 f9_2 f9_3; have q9_0 : World.cell? w10_ ⟨g9, 0, none⟩ = some (.int .i64 (rd_T50 l0 x).f0) := BX.out.cell (i := 0) rfl (j := 0) rfl; have q9_1 : World.cell? w10_ ⟨g9, 1, none⟩ = some (.int .i64 (rd_T50 l0 x).f1) := BX.out.cell (i := 0) rfl (j := 1) rfl; have q9_2 : World.cell? w10_ ⟨g9, 2, none⟩ = some (.int .i64 (rd_T50 l0 x).f2) := BX.out.cell (i := 0) rfl (j := 2) rfl; have q9_3 : World.cell? w10_ ⟨g9, 3, none⟩ = some (.int .i64 (rd_T50 l0 x).f3) := BX.out.cell (i := 0) rfl (j := 3) rfl) | fail)
                  go_roundg (o.length - (kk + 1))
                  case measure => omega
                  case rel => exact ⟨kk + 1, v7, y, by omega, by omega, rfl, by go_num, ⟨below_step BW.out (Boxes.low (w0 := wr) (bs := [(g9, #[.int .i64 (rd_T50 l0 x).f0, .int .i64 (rd_T50 l0 x).f1, .int .i64 (rd_T50 l0 x).f2, .int .i64 (rd_T50 l0 x).f3], 50)]) (by (with_reducible repeat (first | refine Boxes.drewN ?_ _ | refine Boxes.drew ?_ | refine Boxes.alloc ?_ _)); exact BX.out))⟩, ⟨Kd.R_below HO.out (Boxes.low (w0 := wr) (bs := [(g9, #[.int .i64 (rd_T50 l0 x).f0, .int .i64 (rd_T50 l0 x).f1, .int .i64 (rd_T50 l0 x).f2, .int .i64 (rd_T50 l0 x).f3], 50)]) (by (with_reducible repeat (first | refine Boxes.drewN ?_ _ | refine Boxes.drew ?_ | refine Boxes.alloc ?_ _)); exact BX.out))⟩, ⟨Kd.R_below HCA.out (Boxes.low (w0 := wr) (bs := [(g9, #[.int .i64 (rd_T50 l0 x).f0, .int .i64 (rd_T50 l0 x).f1, .int .i64 (rd_T50 l0 x).f2, .int .i64 (rd_T50 l0 x).f3], 50)]) (by (with_reducible repeat (first | refine Boxes.drewN ?_ _ | refine Boxes.drew ?_ | refine Boxes.alloc ?_ _)); exact BX.out))⟩, ⟨by rw [← HY.out]; exact Kd.R_below HN.out (Boxes.low (w0 := wr) (bs := [(g9, #[.int .i64 (rd_T50 l0 x).f0, .int .i64 (rd_T50 l0 x).f1, .int .i64 (rd_T50 l0 x).f2, .int .i64 (rd_T50 l0 x).f3], 50)]) (by (with_reducible repeat (first | refine Boxes.drewN ?_ _ | refine Boxes.drew ?_ | refine Boxes.alloc ?_ _)); exact BX.out))⟩, ⟨HN2.out⟩⟩
            · rw [if_neg hxr] at hy
              exact absurd hy (by simp)
          · have hke : kk = o.length := by omega
            have hltz : ¬ (kk : Int) < (o.length : Int) := by omega
            have hnf : nx = nf := by
              have := H.out
              rw [hke, List.drop_length, innO] at this
              exact Option.some.inj this
            subst hnf
            obtain ⟨A7, c7, e7⟩ := Kd.R_slice HN.out
            subst e7
            have hF := HF.out
            by_cases heq : nx.length = o.length
            · rw [if_pos heq] at hF
              have HR := Aside0.mk (Option.some.inj hF)
              have hq : ((nx.length : Int) == (o.length : Int)) = true := by rw [heq]; exact beq_self_eq_true _
              clear hF H HF hke
              go_wp2
              go_ret
              exact ⟨_, rfl, by rw [← HR.out]; exact HO.out, BW.out⟩
            · rw [if_neg heq] at hF
              have HR := Aside0.mk hF
              have hq : ((nx.length : Int) == (o.length : Int)) = false := by simp; omega
              clear hF H HF hke
              go_wp2
              go_roundg kf
              case measure => omega
              case rel => exact ⟨kf, nx, _, Nat.le_refl _, rfl, BW, HN, HR⟩
  · rw [if_neg hL] at h
    exact absurd h (by simp)

/-! ### spec_l6Derives: function 43 -/
def spec_l6Derives.f (k : Nat) (l0 : List (S50)) (l1 : List Int) : Option (List Bool) := (spec_l6Open.f k l0 l1).bind fun t204 => ((spec_l6Make.f k l0 t204).bind fun t207 => (some t207))
theorem spec_l6Derives.mono : ∀ a0 a1 k, LeO (spec_l6Derives.f k a0 a1) (spec_l6Derives.f (k + 1) a0 a1) := by
 intro a0 a1 k
 unfold spec_l6Derives.f
 repeat' first
   | (with_reducible exact spec_l6Make.mono _ _ _)
   | (with_reducible exact spec_l6Open.mono _ _ _)
   | (with_reducible exact LeO.refl _)
   | (with_reducible exact LeO.none _)
   | (with_reducible refine LeO.ite ?_ ?_)
   | (with_reducible refine LeO.bind ?_ (fun _ => ?_))
   | exact spec_l6Make.mono _ _ _
   | exact spec_l6Open.mono _ _ _
   | exact LeO.none _
   | refine LeO.ite ?_ ?_
   | refine LeO.bind ?_ (fun _ => ?_)
set_option maxHeartbeats 8000000 in
set_option maxRecDepth 100000 in
theorem spec_l6Derives.calls (k : Nat) (A0 : Option Addr) (c0 : Nat) (l0 : List (S50)) (A1 : Option Addr) (c1 : Nat) (l1 : List Int) (r : List Bool) (w : World) (hr0 : Kd.C k50 w A0 l0.length l0) (hc0 : l0.length ≤ c0) (hr1 : Kd.C (Kd.int .i64) w A1 l1.length l1) (hc1 : l1.length ≤ c1) (h : spec_l6Derives.f k l0 l1 = some r) :
  Calls Try.prog 43 #[.slice A0 l0.length c0, .slice A1 l1.length c1] w fun e w' => ∃ v0_ : Value, e = .returned (v0_) ∧ Kd.R Kd.bool 4 w' w.heap.size (fun _ => True) v0_ r ∧ Below w.heap.size w w' := by
 have HR0 := Aside0.mk hr0
 have HC0 := Aside0.mk hc0
 clear hr0 hc0
 have HR1 := Aside0.mk hr1
 have HC1 := Aside0.mk hc1
 clear hr1 hc1
 have HB := Aside0.mk (Below.refl w.heap.size w)
 have H : ((spec_l6Open.f k l0 l1).bind fun t204 => ((spec_l6Make.f k l0 t204).bind fun t207 => (some t207))) = some r := h
 clear h
 replace H := Option.bind_eq_some_iff.mp H
 obtain ⟨t204, A30, H⟩ := H
 replace H : ((spec_l6Make.f k l0 t204).bind fun t207 => (some t207)) = some r := H
 have A3 := Aside0.mk A30
 clear A30
 replace H := Option.bind_eq_some_iff.mp H
 obtain ⟨t207, A40, H⟩ := H
 replace H : (some t207) = some r := H
 have A4 := Aside0.mk A40
 clear A40
 obtain rfl := Option.some.inj H
 go_enter Try.func43, Try.ntmps43
 go_wp2_with (first | ((with_reducible refine gate_callee (f := 48) rfl ?_); refine goesL_ (some 8) rfl rfl Try.func48 (by kernel_rfl) rfl #[.slice A0 l0.length c0, .slice A1 l1.length c1] rfl (by (try simp only [List.map_toArray, List.map_cons, List.map_nil]); first | done | rfl | (simp only [List.length_drop, List.length_take]; rfl)) ?_; (with_reducible refine (spec_l6Open.calls k _ _ l0 _ _ l1 t204 _ ?side1 ?side2 ?side3 ?side4 A3.out).mono ?_); (case side1 => repeat (first | exact HR0.out | (with_reducible refine Kd.C_alloc ?_ _) | (with_reducible refine Kd.C_drewN ?_ _) | (with_reducible refine Kd.C_drew ?_))); (case side2 => exact HC0.out); (case side3 => repeat (first | exact HR1.out | (with_reducible refine Kd.C_alloc ?_ _) | (with_reducible refine Kd.C_drewN ?_ _) | (with_reducible refine Kd.C_drew ?_))); (case side4 => exact HC1.out); rintro e w5 ⟨v205, rfl, ho0, hb⟩; refine ⟨_, rfl, ?_⟩; have n0_ := Aside0.mk (Kd.R_lower ho0 (below_size (by repeat (first | (with_reducible first | exact HB.out | apply below_alloc | apply pw_below_drewN | apply below_drew1) | exact HB.out)))); have n1_ := Aside0.mk (below_step (by repeat (first | (with_reducible first | exact HB.out | apply below_alloc | apply pw_below_drewN | apply below_drew1) | exact HB.out)) hb); clear HB; have HO206 := n0_; have HB := n1_; clear n0_ n1_; (try clear hb); (try clear hb2); (try clear hk); (try clear hi); (try clear ho0); obtain ⟨Ao6, co6, eo6⟩ := Kd.R_slice HO206.out; subst eo6) | ((with_reducible refine gate_callee (f := 64) rfl ?_); refine goesL_ (some 9) rfl rfl Try.func64 (by kernel_rfl) rfl #[.slice A0 l0.length c0, .slice Ao6 t204.length co6] rfl (by (try simp only [List.map_toArray, List.map_cons, List.map_nil]); first | done | rfl | (simp only [List.length_drop, List.length_take]; rfl)) ?_; (with_reducible refine (spec_l6Make.calls k _ _ l0 _ _ t204 t207 _ ?side1 ?side2 ?side3 ?side4 A4.out).mono ?_); (case side1 => repeat (first | exact (Kd.C_below HR0.out HB.out) | (with_reducible refine Kd.C_alloc ?_ _) | (with_reducible refine Kd.C_drewN ?_ _) | (with_reducible refine Kd.C_drew ?_))); (case side2 => exact HC0.out); (case side3 => repeat (first | exact (Kd.R_reads' HO206.out).2.2 | (with_reducible refine Kd.C_alloc ?_ _) | (with_reducible refine Kd.C_drewN ?_ _) | (with_reducible refine Kd.C_drew ?_))); (case side4 => exact (Kd.R_reads' HO206.out).2.1); rintro e w7 ⟨v208, rfl, ho0, hb⟩; refine ⟨_, rfl, ?_⟩; have n0_ := Aside0.mk (Kd.R_below (by (with_reducible repeat (first | apply Kd.R_alloc | apply Kd.R_drewN | apply Kd.R_drew)); exact HO206.out) hb); have n1_ := Aside0.mk (Kd.R_lower ho0 (below_size (by repeat (first | (with_reducible first | exact HB.out | apply below_alloc | apply pw_below_drewN | apply below_drew1) | exact HB.out)))); have n2_ := Aside0.mk (below_step (by repeat (first | (with_reducible first | exact HB.out | apply below_alloc | apply pw_below_drewN | apply below_drew1) | exact HB.out)) hb); clear HO206; clear HB; have HO206 := n0_; have HO209 := n1_; have HB := n2_; clear n0_ n1_ n2_; (try clear hb); (try clear hb2); (try clear hk); (try clear hi); (try clear ho0)))
 go_ret
 exact ⟨_, by first | rfl | (simp [errW_none, errW_some] <;> rfl) | (simp [*, errW_none, errW_some] <;> rfl), by (with_reducible repeat (first | apply Kd.R_alloc | apply Kd.R_drewN | apply Kd.R_drew)); exact HO209.out, by repeat (first | (with_reducible first | exact HB.out | apply below_alloc | apply pw_below_drewN | apply below_drew1) | exact HB.out)⟩

/-! ### spec_DerivesSome: function 28 -/
def spec_DerivesSome.l0 : Nat → List Bool → Int → Int → List Int → Option (Int × List Int)
 | 0, _, _, _, _ => none
 | k + 1, x6, x8, x216000, x216001 => if x8 < (x6.length : Int) then (if 0 ≤ x8 then (if rdOf false x6 x8 = true then (if x216001.length < 17592186044416 then (spec_DerivesSome.l0 k x6 (wrap64 (x8 + 1)) x216000 (x216001 ++ [x8])) else (none)) else (spec_DerivesSome.l0 k x6 (wrap64 (x8 + 1)) x216000 x216001)) else (none)) else (some (x216000, x216001))
def spec_DerivesSome.f (k : Nat) (l0 : List (S50)) (l1 : List Int) : Option (Int × List Int) := (spec_KnownFault.f k l0 l1).bind fun t211 => (if t211 = 0 then ((spec_l6Derives.f k l0 l1).bind fun t212 => (spec_DerivesSome.l0 k t212 0 0 ([] : List Int))) else (some (t211, ([] : List Int))))
theorem spec_DerivesSome.mono_l : ∀ k, (∀ y0 y1 y2 y3, LeO (spec_DerivesSome.l0 k y0 y1 y2 y3) (spec_DerivesSome.l0 (k + 1) y0 y1 y2 y3))
 | 0 => fun _ _ _ _ r h => by simp [spec_DerivesSome.l0] at h
 | k + 1 => by
  have ih0 := spec_DerivesSome.mono_l k
  ·
   intro y0 y1 y2 y3
   unfold spec_DerivesSome.l0
   repeat' first
   | (with_reducible exact ih0 _ _ _ _)
   | (with_reducible exact spec_KnownFault.mono _ _ _)
   | (with_reducible exact spec_l6Derives.mono _ _ _)
   | (with_reducible exact LeO.refl _)
   | (with_reducible exact LeO.none _)
   | (with_reducible refine LeO.ite ?_ ?_)
   | (with_reducible refine LeO.bind ?_ (fun _ => ?_))
   | exact ih0 _ _ _ _
   | exact spec_KnownFault.mono _ _ _
   | exact spec_l6Derives.mono _ _ _
   | exact LeO.none _
   | refine LeO.ite ?_ ?_
   | refine LeO.bind ?_ (fun _ => ?_)
theorem spec_DerivesSome.mono : ∀ a0 a1 k, LeO (spec_DerivesSome.f k a0 a1) (spec_DerivesSome.f (k + 1) a0 a1) := by
 intro a0 a1 k
 have ih0 := spec_DerivesSome.mono_l k
 unfold spec_DerivesSome.f
 repeat' first
   | (with_reducible exact ih0 _ _ _ _)
   | (with_reducible exact spec_KnownFault.mono _ _ _)
   | (with_reducible exact spec_l6Derives.mono _ _ _)
   | (with_reducible exact LeO.refl _)
   | (with_reducible exact LeO.none _)
   | (with_reducible refine LeO.ite ?_ ?_)
   | (with_reducible refine LeO.bind ?_ (fun _ => ?_))
   | exact ih0 _ _ _ _
   | exact spec_KnownFault.mono _ _ _
   | exact spec_l6Derives.mono _ _ _
   | exact LeO.none _
   | refine LeO.ite ?_ ?_
   | refine LeO.bind ?_ (fun _ => ?_)
set_option maxHeartbeats 8000000 in
set_option maxRecDepth 100000 in
theorem spec_DerivesSome.calls (k : Nat) (A0 : Option Addr) (c0 : Nat) (l0 : List (S50)) (A1 : Option Addr) (c1 : Nat) (l1 : List Int) (r1 : Int) (r2 : List Int) (w : World) (hr0 : Kd.C k50 w A0 l0.length l0) (hc0 : l0.length ≤ c0) (hr1 : Kd.C (Kd.int .i64) w A1 l1.length l1) (hc1 : l1.length ≤ c1) (h : spec_DerivesSome.f k l0 l1 = some (r1, r2)) :
  Calls Try.prog 28 #[.slice A0 l0.length c0, .slice A1 l1.length c1] w fun e w' => ∃ v1_ : Value, e = .returned (.agg #[.int .i64 r1, v1_]) ∧ Kd.R (Kd.int .i64) 2 w' w.heap.size (fun _ => True) v1_ r2 ∧ Below w.heap.size w w' := by
 have hu35 := Try.underlying35
 have HR0 := Aside0.mk hr0
 have HC0 := Aside0.mk hc0
 clear hr0 hc0
 have HR1 := Aside0.mk hr1
 have HC1 := Aside0.mk hc1
 clear hr1 hc1
 have HB := Aside0.mk (Below.refl w.heap.size w)
 have H : ((spec_KnownFault.f k l0 l1).bind fun t211 => (if t211 = 0 then ((spec_l6Derives.f k l0 l1).bind fun t212 => (spec_DerivesSome.l0 k t212 0 0 ([] : List Int))) else (some (t211, ([] : List Int))))) = some (r1, r2) := h
 clear h
 replace H := Option.bind_eq_some_iff.mp H
 obtain ⟨t211, A30, H⟩ := H
 replace H : (if t211 = 0 then ((spec_l6Derives.f k l0 l1).bind fun t212 => (spec_DerivesSome.l0 k t212 0 0 ([] : List Int))) else (some (t211, ([] : List Int)))) = some (r1, r2) := H
 have A3 := Aside0.mk A30
 clear A30
 by_cases c4 : t211 = 0
 ·
  rw [if_pos c4] at H
  have c4b0 : (t211 == 0) = true := beq_iff_eq.mpr c4
  have c4b1 : (t211 != 0) = false := bne_eq_false_iff_eq.mpr c4
  clear c4
  replace H := Option.bind_eq_some_iff.mp H
  obtain ⟨t212, A50, H⟩ := H
  replace H : (spec_DerivesSome.l0 k t212 0 0 ([] : List Int)) = some (r1, r2) := H
  have A5 := Aside0.mk A50
  clear A50
  have H' := Aside0.mk H
  clear H
  go_enter Try.func28, Try.ntmps28
  go_wp2_with (first | ((with_reducible refine gate_dst (N := 4) rfl ?_); refine box_event ?hg (N := 4) ?hd (cs := #[.int .i64 0, .slice none 0 0]) (t := 35) ?hr ?_; (case hd => rfl); (case hg => rfl); (case hr => first | (go_simp; done) | (go_simp; rfl)); intro gb210 hg w6 hbox hb; have n0_ := Aside0.mk (below_step (by repeat (first | (with_reducible first | exact HB.out | apply below_alloc | apply pw_below_drewN | apply below_drew1) | exact HB.out)) hb); have n1_ := Aside0.mk (hbox); have n2_ := Aside0.mk ((by rw [hg]; exact (below_size (by repeat (first | (with_reducible first | exact HB.out | apply below_alloc | apply pw_below_drewN | apply below_drew1) | exact HB.out))) : w.heap.size ≤ gb210)); have n3_ := Aside0.mk ((by rw [hg]; exact (below_size (by repeat (first | (with_reducible first | exact HB.out | apply below_alloc | apply pw_below_drewN | apply below_drew1) | exact HB.out))) : w.heap.size ≤ gb210)); clear HB; have HB := n0_; have BK210 := n1_; have GW210 := n2_; have GE210 := n3_; clear n0_ n1_ n2_ n3_; clear hb hbox hg) | ((with_reducible refine gate_callee (f := 41) rfl ?_); refine goesL_ (some 11) rfl rfl Try.func41 (by kernel_rfl) rfl #[.slice A0 l0.length c0, .slice A1 l1.length c1] rfl (by (try simp only [List.map_toArray, List.map_cons, List.map_nil]); first | done | rfl | (simp only [List.length_drop, List.length_take]; rfl)) ?_; (with_reducible refine (spec_KnownFault.calls k _ _ l0 _ _ l1 t211 _ ?side1 ?side2 ?side3 ?side4 A3.out).mono ?_); (case side1 => repeat (first | exact (Kd.C_below HR0.out HB.out) | (with_reducible refine Kd.C_alloc ?_ _) | (with_reducible refine Kd.C_drewN ?_ _) | (with_reducible refine Kd.C_drew ?_))); (case side2 => exact HC0.out); (case side3 => repeat (first | exact (Kd.C_below HR1.out HB.out) | (with_reducible refine Kd.C_alloc ?_ _) | (with_reducible refine Kd.C_drewN ?_ _) | (with_reducible refine Kd.C_drew ?_))); (case side4 => exact HC1.out); rintro e w7 ⟨rfl, hb⟩; refine ⟨_, rfl, ?_⟩; have n0_ := Aside0.mk (blk_below_u BK210.out hb); have n1_ := Aside0.mk (below_step (by repeat (first | (with_reducible first | exact HB.out | apply below_alloc | apply pw_below_drewN | apply below_drew1 | refine below_set ?_ GE210.out) | exact HB.out)) hb); clear BK210; clear HB; have BK210 := n0_; have HB := n1_; clear n0_ n1_; (try clear hb); (try clear hb2); (try clear hk); (try clear hi)) | ((with_reducible refine gate_callee (f := 43) rfl ?_); refine goesL_ (some 18) rfl rfl Try.func43 (by kernel_rfl) rfl #[.slice A0 l0.length c0, .slice A1 l1.length c1] rfl (by (try simp only [List.map_toArray, List.map_cons, List.map_nil]); first | done | rfl | (simp only [List.length_drop, List.length_take]; rfl)) ?_; (with_reducible refine (spec_l6Derives.calls k _ _ l0 _ _ l1 t212 _ ?side1 ?side2 ?side3 ?side4 A5.out).mono ?_); (case side1 => repeat (first | exact (Kd.C_below HR0.out HB.out) | (with_reducible refine Kd.C_alloc ?_ _) | (with_reducible refine Kd.C_drewN ?_ _) | (with_reducible refine Kd.C_drew ?_))); (case side2 => exact HC0.out); (case side3 => repeat (first | exact (Kd.C_below HR1.out HB.out) | (with_reducible refine Kd.C_alloc ?_ _) | (with_reducible refine Kd.C_drewN ?_ _) | (with_reducible refine Kd.C_drew ?_))); (case side4 => exact HC1.out); rintro e w8 ⟨v213, rfl, ho0, hb⟩; refine ⟨_, rfl, ?_⟩; have n0_ := Aside0.mk (Kd.R_lower ho0 (below_size (by repeat (first | (with_reducible first | exact HB.out | apply below_alloc | apply pw_below_drewN | apply below_drew1 | refine below_set ?_ GE210.out) | exact HB.out)))); have n1_ := Aside0.mk (blk_below_u BK210.out hb); have n2_ := Aside0.mk (below_step (by repeat (first | (with_reducible first | exact HB.out | apply below_alloc | apply pw_below_drewN | apply below_drew1 | refine below_set ?_ GE210.out) | exact HB.out)) hb); clear BK210; clear HB; have HO214 := n0_; have BK210 := n1_; have HB := n2_; clear n0_ n1_ n2_; (try clear hb); (try clear hb2); (try clear hk); (try clear hi); (try clear ho0)) | ((with_reducible refine gate_dst (N := 7) rfl ?_); refine box_event ?hg (N := 7) ?hd (cs := #[.int .i64 0, .slice none 0 0]) (t := 35) ?hr ?_; (case hd => rfl); (case hg => rfl); (case hr => first | (go_simp; done) | (go_simp; rfl)); intro gb215 hg w9 hbox hb; have n0_ := Aside0.mk (Kd.R_below (by (with_reducible repeat (first | apply Kd.R_alloc | apply Kd.R_drewN | apply Kd.R_drew)); exact HO214.out) hb); have n1_ := Aside0.mk (blk_below_u BK210.out hb); have n2_ := Aside0.mk (below_step (by repeat (first | (with_reducible first | exact HB.out | apply below_alloc | apply pw_below_drewN | apply below_drew1 | refine below_set ?_ GE210.out) | exact HB.out)) hb); have n3_ := Aside0.mk (hbox); have n4_ := Aside0.mk ((by rw [hg]; exact (below_size (by repeat (first | (with_reducible first | exact HB.out | apply below_alloc | apply pw_below_drewN | apply below_drew1 | refine below_set ?_ GE210.out) | exact HB.out))) : w.heap.size ≤ gb215)); have n5_ := Aside0.mk ((by rw [hg]; exact (below_size (by repeat (first | (with_reducible first | exact HB.out | apply below_alloc | apply pw_below_drewN | apply below_drew1 | refine below_set ?_ GE210.out) | exact HB.out))) : w.heap.size ≤ gb215)); have n6_ := Aside0.mk ((by rw [hg]; exact Nat.ne_of_lt (blk_lt_u BK210.out) : gb210 ≠ gb215)); have n7_ := Aside0.mk ((by rw [hg]; exact Nat.ne_of_gt (blk_lt_u BK210.out) : gb215 ≠ gb210)); clear HO214; clear BK210; clear HB; have HO214 := n0_; have BK210 := n1_; have HB := n2_; have BK215 := n3_; have GW215 := n4_; have GE215 := n5_; have NB210_215 := n6_; have NB215_210 := n7_; clear n0_ n1_ n2_ n3_ n4_ n5_ n6_ n7_; clear hb hbox hg; have hnb10 := NB215_210.out; have hnc10 := NB210_215.out; have hcz11_0 : w9.cell? ⟨gb215, 0, none⟩ = some (.int .i64 0) := (blk_cell BK215.out 0).trans rfl; have hcz11_1 : w9.cell? ⟨gb215, 1, none⟩ = some (.slice none 0 0) := (blk_cell BK215.out 1).trans rfl; have hfz11_0 := blk_frozen BK215.out 0; have hfz11_1 := blk_frozen BK215.out 1))
  go_loopg [8] k (fun kq v8 w' => ∃ (x8_1 : Int) (x216001_1 : List Int) (u216001 : Value), v8 = .int .i64 x8_1 ∧ Aside0 (spec_DerivesSome.l0 kq t212 x8_1 0 x216001_1 = some (r1, r2)) ∧ Aside0 (kq ≤ k) ∧ Aside0 (Kd.R Kd.bool 4 w' w.heap.size (fun _ => True) v213 t212) ∧ Aside0 (Kd.R (Kd.int .i64) 2 w' w.heap.size (fun _ => True) u216001 x216001_1) ∧ Aside0 (w'.heap[gb210]? = some (.cells #[.int .i64 0, (.slice none 0 0)] 35 (0, 0))) ∧ Aside0 (w'.heap[gb215]? = some (.cells #[.int .i64 0, u216001] 35 (0, 0))) ∧ Aside0 (Below w.heap.size w w'))
  case atStart => exact ⟨(0), (([] : List Int)), (.slice none 0 0), (by first | rfl | (simp; done) | (simp [*]; done)), H', ⟨Nat.le_refl _⟩, ⟨by (with_reducible repeat (first | apply Kd.R_alloc | apply Kd.R_drewN | apply Kd.R_drew)); exact Kd.R_mono (Kd.R_far (p := ⟨gb215, 1, none⟩) (Kd.R_far (p := ⟨gb215, 0, none⟩) (Kd.R_types HO214.out BK215.out (by decide)) (fun _ hk => hk.2) (.int .i64 0)) (fun _ hk => hk.2) (.slice none 0 0)) (fun _ hk => trivial)⟩, ⟨by first | exact Kd.R_nil _ _ _ _ _ | exact Kd.N_nil _ _ _ _ _ | exact Kd.V_nil _ _ _ _ _ | exact Kd.Q_nil _ _ _ _ _ | exact Kd.S_nil _ _ _ _ _⟩, ⟨by (with_reducible repeat (first | refine blk_drewN ?_ _ | refine blk_drew ?_ | refine blk_alloc ?_ _)); refine blk_far ?_ NB210_215.out _; (with_reducible repeat (first | refine blk_drewN ?_ _ | refine blk_drew ?_ | refine blk_alloc ?_ _)); refine blk_far ?_ NB210_215.out _; (with_reducible repeat (first | refine blk_drewN ?_ _ | refine blk_drew ?_ | refine blk_alloc ?_ _)); exact BK210.out⟩, ⟨by (with_reducible repeat (first | refine blk_drewN ?_ _ | refine blk_drew ?_ | refine blk_alloc ?_ _)); refine blk_put (cs := #[.int .i64 0, .slice none 0 0]) ?_ 1 _ rfl; (with_reducible repeat (first | refine blk_drewN ?_ _ | refine blk_drew ?_ | refine blk_alloc ?_ _)); refine blk_put (cs := #[.int .i64 0, .slice none 0 0]) ?_ 0 _ rfl; (with_reducible repeat (first | refine blk_drewN ?_ _ | refine blk_drew ?_ | refine blk_alloc ?_ _)); exact BK215.out⟩, ⟨by repeat (first | (with_reducible first | exact HB.out | apply below_alloc | apply pw_below_drewN | apply below_drew1 | refine below_set ?_ GE210.out | refine below_set ?_ GE215.out) | exact HB.out)⟩⟩
  case round =>
   clear H'
   try clear c1; try clear c2; try clear p2; try clear c4; try clear c4b0; try clear c4b1; try clear c10; try clear hcz11_0; try clear hcz11_1; try clear hfz11_0; try clear hfz11_1
   obtain ⟨x8_1, x216001_1, u216001, rfl, HA, HK1, HO_6, HO_216001, BK210, BK215, HB⟩ := hrel
   cases gk with
   | zero => exact absurd HA.out (by simp [spec_DerivesSome.l0])
   | succ k1 =>
    have H := HA.out
    clear HA
    simp only [spec_DerivesSome.l0] at H
    by_cases c12 : x8_1 < (t212.length : Int)
    ·
     rw [if_pos c12] at H
     have c12b0 : decide (x8_1 < (t212.length : Int)) = true := decide_eq_true c12
     clear c12
     by_cases c13 : 0 ≤ x8_1
     ·
      rw [if_pos c13] at H
      have c13b0 : decide (0 ≤ x8_1) = true := decide_eq_true c13
      clear c13
      obtain ⟨bq14, hbq14⟩ : ∃ b_ : Bool, b_ = (rdOf false t212 x8_1) := ⟨_, rfl⟩
      replace H : (if bq14 = true then (if x216001_1.length < 17592186044416 then (spec_DerivesSome.l0 k1 t212 (wrap64 (x8_1 + 1)) 0 (x216001_1 ++ [x8_1])) else (none)) else (spec_DerivesSome.l0 k1 t212 (wrap64 (x8_1 + 1)) 0 x216001_1)) = some (r1, r2) := by rw [← hbq14] at H; exact H
      have Nbq14 := Aside0.mk hbq14
      clear hbq14
      by_cases c15 : bq14 = true
      ·
       subst c15
       have H1 : (if x216001_1.length < 17592186044416 then (spec_DerivesSome.l0 k1 t212 (wrap64 (x8_1 + 1)) 0 (x216001_1 ++ [x8_1])) else (none)) = some (r1, r2) := by rw [if_pos rfl] at H; exact H
       clear H
       have H := H1
       clear H1
       by_cases c16 : x216001_1.length < 17592186044416
       ·
        rw [if_pos c16] at H
        have LMc16 := Aside0.mk c16
        clear c16
        obtain ⟨y217, hy217⟩ : ∃ y_ : List Int, y_ = (x216001_1 ++ [x8_1]) := ⟨_, rfl⟩
        replace H : (spec_DerivesSome.l0 k1 t212 (wrap64 (x8_1 + 1)) 0 y217) = some (r1, r2) := by first | (rw [hy217]; with_reducible exact H) | (have H2_ := (Option.bind_some _ _).symm.trans H; rw [hy217]; with_reducible exact H2_) | (have H2_ := (Option.bind_some _ _).symm.trans H; with_reducible exact H2_) | with_reducible exact H | (rw [hy217]; exact H) | exact H
        have Ny217 := Aside0.mk hy217
        clear hy217
        have H' := Aside0.mk H
        clear H
        obtain ⟨Ao17, co17, eo17⟩ := Kd.R_slice HO_6.out
        subst eo17
        have p216 : 0 ≤ (x8_1 : Int) := of_decide_eq_true (by first | (with_reducible assumption) | assumption)
        have q216 : x8_1 < (t212.length : Int) := of_decide_eq_true (by first | (with_reducible assumption) | assumption)
        obtain ⟨ad216, e216, hx216_0⟩ := Kd.at_bool (Kd.R_reads' HO_6.out).2.2 x8_1 p216 q216
        (try rw [← Nbq14.out] at hx216_0)
        cases e216
        replace p216 := eq_true p216
        replace q216 := eq_true q216
        have hnb18 := NB215_210.out
        have hnc18 := NB210_215.out
        have hcz19_0 : wr.cell? ⟨gb215, 0, none⟩ = some (.int .i64 0) := (blk_cell BK215.out 0).trans rfl
        have hcz19_1 : wr.cell? ⟨gb215, 1, none⟩ = some (u216001) := (blk_cell BK215.out 1).trans rfl
        have hfz19_0 := blk_frozen BK215.out 0
        have hfz19_1 := blk_frozen BK215.out 1
        go_wp2_with (first | ((with_reducible refine gate_builtin (b := .append) (xs := #[.tmp 31, .tmp 33]) rfl ?_); at_builtin; refine Kd.R_append (Kd.int .i64) (w0 := w) w.heap.size rfl (.tmp 31) (.tmp 33) 29 2 (.int .i64 0) 8 rfl Try.underlying29 info2 rfl (by decide) (by omega) u216001 x216001_1 x8_1 [.int .i64 x8_1] (fun _ => True) (fun _ => False) rfl rfl ?aP (fun _ hk => hk.elim) ?aF ?aO ?aB ?aS ?aL ?_; (case aP => exact rfl); (case aB => exact (by repeat (first | (with_reducible first | exact HB.out | apply below_alloc | apply pw_below_drewN | apply below_drew1 | refine below_set ?_ GE210.out | refine below_set ?_ GE215.out) | exact HB.out))); (case aF => exact (fun _ _ => trivial)); (case aO => exact (by (with_reducible repeat (first | apply Kd.R_alloc | apply Kd.R_drewN | apply Kd.R_drew)); exact HO_216001.out)); (case aS => exact (below_size (by repeat (first | (with_reducible first | exact HB.out | apply below_alloc | apply pw_below_drewN | apply below_drew1 | refine below_set ?_ GE210.out | refine below_set ?_ GE215.out) | exact HB.out)))); (case aL => have := LMc16.out; omega); intro v218 w20 ho hb hg hat; rw [← Ny217.out] at ho; have n0_ := Aside0.mk (Kd.R_over' (by (with_reducible repeat (first | apply Kd.R_alloc | apply Kd.R_drewN | apply Kd.R_drew)); exact HO_6.out) (Kd.R_typed (by (with_reducible repeat (first | apply Kd.R_alloc | apply Kd.R_drewN | apply Kd.R_drew)); exact HO_216001.out)) (by decide) hg); have n1_ := Aside0.mk (blk_grown (g := gb210) (o := .cells #[.int .i64 0, .slice none 0 0] 35 (0, 0)) (by (with_reducible repeat (first | refine blk_drewN ?_ _ | refine blk_drew ?_ | refine blk_alloc ?_ _)); exact BK210.out) hg (Kd.R_ne HO_216001.out BK210.out (by decide))); have n2_ := Aside0.mk (blk_grown (g := gb215) (o := .cells #[.int .i64 0, u216001] 35 (0, 0)) (by (with_reducible repeat (first | refine blk_drewN ?_ _ | refine blk_drew ?_ | refine blk_alloc ?_ _)); exact BK215.out) hg (Kd.R_ne HO_216001.out BK215.out (by decide))); have n3_ := Aside0.mk (hb); have n4_ := Aside0.mk (ho); clear HO_6; clear BK210; clear BK215; clear HB; clear HO_216001; have HO_6 := n0_; have BK210 := n1_; have BK215 := n2_; have HB := n3_; have HO219 := n4_; clear n0_ n1_ n2_ n3_ n4_; clear ho hb hg hat; obtain ⟨Ao21, co21, eo21⟩ := Kd.R_slice HO219.out; subst eo21; have hcz22_0 : w20.cell? ⟨gb215, 0, none⟩ = some (.int .i64 0) := (blk_cell BK215.out 0).trans rfl; have hcz22_1 : w20.cell? ⟨gb215, 1, none⟩ = some (u216001) := (blk_cell BK215.out 1).trans rfl; have hfz22_0 := blk_frozen BK215.out 0; have hfz22_1 := blk_frozen BK215.out 1))
        go_roundg k1
        case measure => have := HK1.out; omega
        case rel => exact ⟨(wrap64 (x8_1 + 1)), (y217), (.slice Ao21 y217.length co21), (by first | rfl | (simp; done) | (simp [*]; done)), H', ⟨by have := HK1.out; omega⟩, ⟨by (with_reducible repeat (first | apply Kd.R_alloc | apply Kd.R_drewN | apply Kd.R_drew)); exact Kd.R_mono (Kd.R_far (p := ⟨gb215, 1, none⟩) (Kd.R_types HO_6.out BK215.out (by decide)) (fun _ hk => hk.2) (.slice Ao21 y217.length co21)) (fun _ hk => trivial)⟩, ⟨by (with_reducible repeat (first | apply Kd.R_alloc | apply Kd.R_drewN | apply Kd.R_drew)); exact Kd.R_mono (Kd.R_far (p := ⟨gb215, 1, none⟩) (Kd.R_types HO219.out BK215.out (by decide)) (fun _ hk => hk.2) (.slice Ao21 y217.length co21)) (fun _ hk => trivial)⟩, ⟨by (with_reducible repeat (first | refine blk_drewN ?_ _ | refine blk_drew ?_ | refine blk_alloc ?_ _)); refine blk_far ?_ NB210_215.out _; (with_reducible repeat (first | refine blk_drewN ?_ _ | refine blk_drew ?_ | refine blk_alloc ?_ _)); exact BK210.out⟩, ⟨by (with_reducible repeat (first | refine blk_drewN ?_ _ | refine blk_drew ?_ | refine blk_alloc ?_ _)); refine blk_put (cs := #[.int .i64 0, u216001]) ?_ 1 _ rfl; (with_reducible repeat (first | refine blk_drewN ?_ _ | refine blk_drew ?_ | refine blk_alloc ?_ _)); exact BK215.out⟩, ⟨by repeat (first | (with_reducible first | exact HB.out | apply below_alloc | apply pw_below_drewN | apply below_drew1 | refine below_set ?_ GE210.out | refine below_set ?_ GE215.out) | exact HB.out)⟩⟩
       ·
        rw [if_neg c16] at H
        exact absurd H (by simp)
      ·
       replace c15 := Bool.eq_false_iff.mpr c15
       subst c15
       have H1 : (spec_DerivesSome.l0 k1 t212 (wrap64 (x8_1 + 1)) 0 x216001_1) = some (r1, r2) := by rw [if_neg (show ¬ (false = true) by decide)] at H; exact H
       clear H
       have H := H1
       clear H1
       have H' := Aside0.mk H
       clear H
       obtain ⟨Ao23, co23, eo23⟩ := Kd.R_slice HO_6.out
       subst eo23
       have p216 : 0 ≤ (x8_1 : Int) := of_decide_eq_true (by first | (with_reducible assumption) | assumption)
       have q216 : x8_1 < (t212.length : Int) := of_decide_eq_true (by first | (with_reducible assumption) | assumption)
       obtain ⟨ad216, e216, hx216_0⟩ := Kd.at_bool (Kd.R_reads' HO_6.out).2.2 x8_1 p216 q216
       (try rw [← Nbq14.out] at hx216_0)
       cases e216
       replace p216 := eq_true p216
       replace q216 := eq_true q216
       go_wp2
       go_roundg k1
       case measure => have := HK1.out; omega
       case rel => exact ⟨(wrap64 (x8_1 + 1)), (x216001_1), (u216001), (by first | rfl | (simp; done) | (simp [*]; done)), H', ⟨by have := HK1.out; omega⟩, ⟨by (with_reducible repeat (first | apply Kd.R_alloc | apply Kd.R_drewN | apply Kd.R_drew)); exact HO_6.out⟩, ⟨by (with_reducible repeat (first | apply Kd.R_alloc | apply Kd.R_drewN | apply Kd.R_drew)); exact HO_216001.out⟩, ⟨by (with_reducible repeat (first | refine blk_drewN ?_ _ | refine blk_drew ?_ | refine blk_alloc ?_ _)); exact BK210.out⟩, ⟨by (with_reducible repeat (first | refine blk_drewN ?_ _ | refine blk_drew ?_ | refine blk_alloc ?_ _)); exact BK215.out⟩, ⟨by repeat (first | (with_reducible first | exact HB.out | apply below_alloc | apply pw_below_drewN | apply below_drew1 | refine below_set ?_ GE210.out | refine below_set ?_ GE215.out) | exact HB.out)⟩⟩
     ·
      rw [if_neg c13] at H
      exact absurd H (by simp)
    ·
     rw [if_neg c12] at H
     have c12b0 : decide (x8_1 < (t212.length : Int)) = false := decide_eq_false c12
     clear c12
     simp only [Option.some.injEq, Prod.mk.injEq] at H
     obtain ⟨rfl, rfl⟩ := H
     obtain ⟨Ao24, co24, eo24⟩ := Kd.R_slice HO_6.out
     subst eo24
     have hnb25 := NB215_210.out
     have hnc25 := NB210_215.out
     have hcz26_0 : wr.cell? ⟨gb215, 0, none⟩ = some (.int .i64 0) := (blk_cell BK215.out 0).trans rfl
     have hcz26_1 : wr.cell? ⟨gb215, 1, none⟩ = some (u216001) := (blk_cell BK215.out 1).trans rfl
     have hfz26_0 := blk_frozen BK215.out 0
     have hfz26_1 := blk_frozen BK215.out 1
     have hcz27_0 : wr.cell? ⟨gb210, 0, none⟩ = some (.int .i64 0) := (blk_cell BK210.out 0).trans rfl
     have hcz27_1 : wr.cell? ⟨gb210, 1, none⟩ = some (.slice none 0 0) := (blk_cell BK210.out 1).trans rfl
     have hfz27_0 := blk_frozen BK210.out 0
     have hfz27_1 := blk_frozen BK210.out 1
     obtain ⟨Ao28, co28, eo28⟩ := Kd.R_slice HO_216001.out
     subst eo28
     go_wp2
     refine bodyPost_ret (results_cell_row rfl _ _ gb210 35 #[.int .i64 0, .slice Ao28 x216001_1.length co28] (0, 0) _ rfl (by (with_reducible repeat (first | refine blk_drewN ?_ _ | refine blk_drew ?_ | refine blk_alloc ?_ _)); refine blk_put (cs := #[.int .i64 0, .slice none 0 0]) ?_ 1 _ rfl; (with_reducible repeat (first | refine blk_drewN ?_ _ | refine blk_drew ?_ | refine blk_alloc ?_ _)); refine blk_put (cs := #[.int .i64 0, .slice none 0 0]) ?_ 0 _ rfl; (with_reducible repeat (first | refine blk_drewN ?_ _ | refine blk_drew ?_ | refine blk_alloc ?_ _)); exact BK210.out) Try.underlying35 rfl (by kernel_rfl)) rfl ?_
     exact ⟨_, by first | rfl | (simp [errW_none, errW_some] <;> rfl) | (simp [*, errW_none, errW_some] <;> rfl), by (with_reducible repeat (first | apply Kd.R_alloc | apply Kd.R_drewN | apply Kd.R_drew)); exact Kd.R_mono (Kd.R_far (p := ⟨gb210, 1, none⟩) (Kd.R_far (p := ⟨gb210, 0, none⟩) (Kd.R_types HO_216001.out BK210.out (by decide)) (fun _ hk => hk.2) (.int .i64 0)) (fun _ hk => hk.2) (.slice Ao28 x216001_1.length co28)) (fun _ hk => trivial), by repeat (first | (with_reducible first | exact HB.out | apply below_alloc | apply pw_below_drewN | apply below_drew1 | refine below_set ?_ GE210.out | refine below_set ?_ GE215.out) | exact HB.out)⟩
 ·
  rw [if_neg c4] at H
  have c4b0 : (t211 == 0) = false := beq_eq_false_iff_ne.mpr c4
  have c4b1 : (t211 != 0) = true := bne_iff_ne.mpr c4
  simp only [Option.some.injEq, Prod.mk.injEq] at H
  obtain ⟨rfl, rfl⟩ := H
  go_enter Try.func28, Try.ntmps28
  go_wp2_with (first | ((with_reducible refine gate_dst (N := 4) rfl ?_); refine box_event ?hg (N := 4) ?hd (cs := #[.int .i64 0, .slice none 0 0]) (t := 35) ?hr ?_; (case hd => rfl); (case hg => rfl); (case hr => first | (go_simp; done) | (go_simp; rfl)); intro gb210 hg w29 hbox hb; have n0_ := Aside0.mk (below_step (by repeat (first | (with_reducible first | exact HB.out | apply below_alloc | apply pw_below_drewN | apply below_drew1) | exact HB.out)) hb); have n1_ := Aside0.mk (hbox); have n2_ := Aside0.mk ((by rw [hg]; exact (below_size (by repeat (first | (with_reducible first | exact HB.out | apply below_alloc | apply pw_below_drewN | apply below_drew1) | exact HB.out))) : w.heap.size ≤ gb210)); have n3_ := Aside0.mk ((by rw [hg]; exact (below_size (by repeat (first | (with_reducible first | exact HB.out | apply below_alloc | apply pw_below_drewN | apply below_drew1) | exact HB.out))) : w.heap.size ≤ gb210)); clear HB; have HB := n0_; have BK210 := n1_; have GW210 := n2_; have GE210 := n3_; clear n0_ n1_ n2_ n3_; clear hb hbox hg) | ((with_reducible refine gate_callee (f := 41) rfl ?_); refine goesL_ (some 11) rfl rfl Try.func41 (by kernel_rfl) rfl #[.slice A0 l0.length c0, .slice A1 l1.length c1] rfl (by (try simp only [List.map_toArray, List.map_cons, List.map_nil]); first | done | rfl | (simp only [List.length_drop, List.length_take]; rfl)) ?_; (with_reducible refine (spec_KnownFault.calls k _ _ l0 _ _ l1 t211 _ ?side1 ?side2 ?side3 ?side4 A3.out).mono ?_); (case side1 => repeat (first | exact (Kd.C_below HR0.out HB.out) | (with_reducible refine Kd.C_alloc ?_ _) | (with_reducible refine Kd.C_drewN ?_ _) | (with_reducible refine Kd.C_drew ?_))); (case side2 => exact HC0.out); (case side3 => repeat (first | exact (Kd.C_below HR1.out HB.out) | (with_reducible refine Kd.C_alloc ?_ _) | (with_reducible refine Kd.C_drewN ?_ _) | (with_reducible refine Kd.C_drew ?_))); (case side4 => exact HC1.out); rintro e w30 ⟨rfl, hb⟩; refine ⟨_, rfl, ?_⟩; have n0_ := Aside0.mk (blk_below_u BK210.out hb); have n1_ := Aside0.mk (below_step (by repeat (first | (with_reducible first | exact HB.out | apply below_alloc | apply pw_below_drewN | apply below_drew1 | refine below_set ?_ GE210.out) | exact HB.out)) hb); clear BK210; clear HB; have BK210 := n0_; have HB := n1_; clear n0_ n1_; (try clear hb); (try clear hb2); (try clear hk); (try clear hi); have hcz31_0 : w30.cell? ⟨gb210, 0, none⟩ = some (.int .i64 0) := (blk_cell BK210.out 0).trans rfl; have hcz31_1 : w30.cell? ⟨gb210, 1, none⟩ = some (.slice none 0 0) := (blk_cell BK210.out 1).trans rfl; have hfz31_0 := blk_frozen BK210.out 0; have hfz31_1 := blk_frozen BK210.out 1))
  refine bodyPost_ret (results_cell_row rfl _ _ gb210 35 #[.int .i64 t211, .slice none 0 0] (0, 0) _ rfl (by (with_reducible repeat (first | refine blk_drewN ?_ _ | refine blk_drew ?_ | refine blk_alloc ?_ _)); refine blk_put (cs := #[.int .i64 t211, .slice none 0 0]) ?_ 1 _ rfl; (with_reducible repeat (first | refine blk_drewN ?_ _ | refine blk_drew ?_ | refine blk_alloc ?_ _)); refine blk_put (cs := #[.int .i64 0, .slice none 0 0]) ?_ 0 _ rfl; (with_reducible repeat (first | refine blk_drewN ?_ _ | refine blk_drew ?_ | refine blk_alloc ?_ _)); exact BK210.out) Try.underlying35 rfl (by kernel_rfl)) rfl ?_
  exact ⟨_, by first | rfl | (simp [errW_none, errW_some] <;> rfl) | (simp [*, errW_none, errW_some] <;> rfl), by first | exact Kd.R_nil _ _ _ _ _ | exact Kd.N_nil _ _ _ _ _ | exact Kd.V_nil _ _ _ _ _ | exact Kd.Q_nil _ _ _ _ _ | exact Kd.S_nil _ _ _ _ _, by repeat (first | (with_reducible first | exact HB.out | apply below_alloc | apply pw_below_drewN | apply below_drew1 | refine below_set ?_ GE210.out) | exact HB.out)⟩

/-! ### impl_in: function 65 -/
def impl_in.f (a0 : Int) (a1 : Int) (a2 : Int) : Option (Bool) := if a0 ≥ a1 then (some (decide (a0 ≤ a2))) else (some false)
set_option maxHeartbeats 8000000 in
set_option maxRecDepth 100000 in
theorem impl_in.calls (a0 : Int) (a1 : Int) (a2 : Int) (r : Bool) (w : World) (h : impl_in.f a0 a1 a2 = some r) :
  Calls Try.prog 65 #[.int .i64 a0, .int .i64 a1, .int .i64 a2] w fun e w' => e = .returned (.bool r) ∧ Drawn0 w w' := by
 have H : (if a0 ≥ a1 then (some (decide (a0 ≤ a2))) else (some false)) = some r := h
 clear h
 by_cases c4 : a0 ≥ a1
 ·
  rw [if_pos c4] at H
  have c4b0 : decide (a1 ≤ a0) = true := decide_eq_true c4
  clear c4
  obtain rfl := Option.some.inj H
  go_enter Try.func65, Try.ntmps65
  go_wp2
  go_ret
  exact ⟨by first | rfl | (simp; done) | (simp [*]; done), by repeat (first | exact Drawn0.refl _ | apply Drawn0.step)⟩
 ·
  rw [if_neg c4] at H
  have c4b0 : decide (a1 ≤ a0) = false := decide_eq_false c4
  clear c4
  obtain rfl := Option.some.inj H
  go_enter Try.func65, Try.ntmps65
  go_wp2
  go_ret
  exact ⟨by first | rfl | (simp; done) | (simp [*]; done), by repeat (first | exact Drawn0.refl _ | apply Drawn0.step)⟩

/-! ### impl_isPlace: function 45 -/
def impl_isPlace.f (l0 : List (S50)) (a1 : Int) : Option (Bool) := (impl_in.f a1 0 (wrap64 ((l0.length : Int) - 1))).bind fun t220 => (some t220)
set_option maxHeartbeats 8000000 in
set_option maxRecDepth 100000 in
theorem impl_isPlace.calls (A0 : Option Addr) (c0 : Nat) (l0 : List (S50)) (a1 : Int) (r : Bool) (w : World) (hr0 : Kd.C k50 w A0 l0.length l0) (hc0 : l0.length ≤ c0) (h : impl_isPlace.f l0 a1 = some r) :
  Calls Try.prog 45 #[.slice A0 l0.length c0, .int .i64 a1] w fun e w' => e = .returned (.bool r) ∧ Drawn0 w w' := by
 have HR0 := Aside0.mk hr0
 have HC0 := Aside0.mk hc0
 clear hr0 hc0
 have H : ((impl_in.f a1 0 (wrap64 ((l0.length : Int) - 1))).bind fun t220 => (some t220)) = some r := h
 clear h
 replace H := Option.bind_eq_some_iff.mp H
 obtain ⟨t220, A30, H⟩ := H
 replace H : (some t220) = some r := H
 have A3 := Aside0.mk A30
 clear A30
 obtain rfl := Option.some.inj H
 go_enter Try.func45, Try.ntmps45
 go_wp2_with (first | ((with_reducible refine gate_callee (f := 65) rfl ?_); refine goesL_ (some 9) rfl rfl Try.func65 (by kernel_rfl) rfl #[.int .i64 a1, .int .i64 0, .int .i64 (wrap64 ((l0.length : Int) - 1))] rfl (by (try simp only [List.map_toArray, List.map_cons, List.map_nil]); first | done | rfl | (simp only [List.length_drop, List.length_take]; rfl)) ?_; (with_reducible refine (impl_in.calls a1 0 (wrap64 ((l0.length : Int) - 1)) t220 _ A3.out).mono ?_); rintro e w' ⟨rfl, ⟨nd, rfl⟩⟩; refine ⟨_, rfl, ?_⟩))
 go_ret
 exact ⟨by first | rfl | (simp; done) | (simp [*]; done), by repeat (first | exact Drawn0.refl _ | apply Drawn0.step)⟩

/-! ### impl_namesOf: function 79 -/
def impl_namesOf.j0 : Nat → Int → Bool → Option (Bool × Bool × Bool)
 | 0, _, _ => none
 | k + 1, x3, x4 => if x4 = true then (some (false, false, true)) else (if x3 = 6 then (some (true, false, false)) else (some (true, true, false)))
def impl_namesOf.f (k : Nat) (a0 : Int) : Option (Bool × Bool × Bool) := if a0 = 1 then (impl_namesOf.j0 k a0 (a0 == 1)) else (impl_namesOf.j0 k a0 (a0 == 2))
theorem impl_namesOf.mono_l : ∀ k, (∀ y0 y1, LeO (impl_namesOf.j0 k y0 y1) (impl_namesOf.j0 (k + 1) y0 y1))
 | 0 => fun _ _ r h => by simp [impl_namesOf.j0] at h
 | k + 1 => by
  have ih0 := impl_namesOf.mono_l k
  ·
   intro y0 y1
   unfold impl_namesOf.j0
   repeat' first
   | (with_reducible exact ih0 _ _)
   | (with_reducible exact LeO.refl _)
   | (with_reducible exact LeO.none _)
   | (with_reducible refine LeO.ite ?_ ?_)
   | (with_reducible refine LeO.bind ?_ (fun _ => ?_))
   | exact ih0 _ _
   | exact LeO.none _
   | refine LeO.ite ?_ ?_
   | refine LeO.bind ?_ (fun _ => ?_)
theorem impl_namesOf.mono : ∀ a0 k, LeO (impl_namesOf.f k a0) (impl_namesOf.f (k + 1) a0) := by
 intro a0 k
 have ih0 := impl_namesOf.mono_l k
 unfold impl_namesOf.f
 repeat' first
   | (with_reducible exact ih0 _ _)
   | (with_reducible exact LeO.refl _)
   | (with_reducible exact LeO.none _)
   | (with_reducible refine LeO.ite ?_ ?_)
   | (with_reducible refine LeO.bind ?_ (fun _ => ?_))
   | exact ih0 _ _
   | exact LeO.none _
   | refine LeO.ite ?_ ?_
   | refine LeO.bind ?_ (fun _ => ?_)
set_option maxHeartbeats 8000000 in
set_option maxRecDepth 100000 in
theorem impl_namesOf.calls (k : Nat) (a0 : Int) (r1 : Bool) (r2 : Bool) (r3 : Bool) (w : World) (h : impl_namesOf.f k a0 = some (r1, r2, r3)) :
  Calls Try.prog 79 #[.int .i64 a0] w fun e w' => e = .returned (.agg #[.bool r1, .bool r2, .bool r3]) ∧ Below w.heap.size w w' := by
 have hu99 := Try.underlying99
 have HB := Aside0.mk (Below.refl w.heap.size w)
 have H : (if a0 = 1 then (impl_namesOf.j0 k a0 (a0 == 1)) else (impl_namesOf.j0 k a0 (a0 == 2))) = some (r1, r2, r3) := h
 clear h
 have HC2 := Aside0.mk H
 clear H
 go_enter Try.func79, Try.ntmps79
 go_upto_if 4 with (first | ((with_reducible refine gate_dst (N := 2) rfl ?_); refine box_event ?hg (N := 2) ?hd (cs := #[.bool false, .bool false, .bool false]) (t := 99) ?hr ?_; (case hd => rfl); (case hg => rfl); (case hr => first | (go_simp; done) | (go_simp; rfl)); intro gb221 hg w3 hbox hb; have n0_ := Aside0.mk (below_step (by repeat (first | (with_reducible first | exact HB.out | apply below_alloc | apply pw_below_drewN | apply below_drew1) | exact HB.out)) hb); have n1_ := Aside0.mk (hbox); have n2_ := Aside0.mk ((by rw [hg]; exact (below_size (by repeat (first | (with_reducible first | exact HB.out | apply below_alloc | apply pw_below_drewN | apply below_drew1) | exact HB.out))) : w.heap.size ≤ gb221)); have n3_ := Aside0.mk ((by rw [hg]; exact (below_size (by repeat (first | (with_reducible first | exact HB.out | apply below_alloc | apply pw_below_drewN | apply below_drew1) | exact HB.out))) : w.heap.size ≤ gb221)); clear HB; have HB := n0_; have BK221 := n1_; have GW221 := n2_; have GE221 := n3_; clear n0_ n1_ n2_ n3_; clear hb hbox hg))
 (try simp only [Act.put, List.setIfInBounds_toArray, List.set_cons_zero, List.set_cons_succ])
 go_cut [4] (fun v4 wc => ∃ (kq : Nat) (x4_1 : Bool), v4 = .bool x4_1 ∧ Aside0 (impl_namesOf.j0 kq a0 x4_1 = some (r1, r2, r3)) ∧ Aside0 (kq ≤ k) ∧ Aside0 (wc.heap[gb221]? = some (.cells #[.bool false, .bool false, .bool false] 99 (0, 0))) ∧ Aside0 (Below w.heap.size w wc))
 case first =>
  have H := HC2.out
  clear HC2
  by_cases c4 : a0 = 1
  ·
   rw [if_pos c4] at H
   have c4b0 : (a0 == 1) = true := beq_iff_eq.mpr c4
   have c4b1 : (a0 != 1) = false := bne_eq_false_iff_eq.mpr c4
   clear c4
   (first | rw [c4b0] | (simp only [i64_w, i32_w]; rw [c4b0]) | skip)
   have H' := Aside0.mk H
   clear H
   go_wp2
   go_meet
   case rel => exact ⟨_, ((a0 == 1)), (by first | rfl | (simp; done) | (simp [*]; done)), H', ⟨by first | omega | exact Nat.le_refl _⟩, ⟨by (with_reducible repeat (first | refine blk_drewN ?_ _ | refine blk_drew ?_ | refine blk_alloc ?_ _)); exact BK221.out⟩, ⟨by repeat (first | (with_reducible first | exact HB.out | apply below_alloc | apply pw_below_drewN | apply below_drew1 | refine below_set ?_ GE221.out) | exact HB.out)⟩⟩
  ·
   rw [if_neg c4] at H
   have c4b0 : (a0 == 1) = false := beq_eq_false_iff_ne.mpr c4
   have c4b1 : (a0 != 1) = true := bne_iff_ne.mpr c4
   (first | rw [c4b0] | (simp only [i64_w, i32_w]; rw [c4b0]) | skip)
   have H' := Aside0.mk H
   clear H
   go_wp2
   go_meet
   case rel => exact ⟨_, ((a0 == 2)), (by first | rfl | (simp; done) | (simp [*]; done)), H', ⟨by first | omega | exact Nat.le_refl _⟩, ⟨by (with_reducible repeat (first | refine blk_drewN ?_ _ | refine blk_drew ?_ | refine blk_alloc ?_ _)); exact BK221.out⟩, ⟨by repeat (first | (with_reducible first | exact HB.out | apply below_alloc | apply pw_below_drewN | apply below_drew1 | refine below_set ?_ GE221.out) | exact HB.out)⟩⟩
 case rest =>
  clear HC2
  try clear p2; try clear c4; try clear c4b0; try clear c4b1
  obtain ⟨kq, x4_1, rfl, HA, HJ1, BK221, HB⟩ := hcut
  cases kq with
  | zero => exact absurd HA.out (by simp [impl_namesOf.j0])
  | succ kj1 =>
   have H := HA.out
   clear HA
   simp only [impl_namesOf.j0] at H
   by_cases c5 : x4_1 = true
   ·
    subst c5
    have H1 : (some (false, false, true)) = some (r1, r2, r3) := by rw [if_pos rfl] at H; exact H
    clear H
    have H := H1
    clear H1
    simp only [Option.some.injEq, Prod.mk.injEq] at H
    obtain ⟨rfl, rfl, rfl⟩ := H
    obtain ⟨hcz6_0, hcz6_1, hcz6_2⟩ := blk_c3 BK221.out
    obtain ⟨hfz6_0, hfz6_1, hfz6_2⟩ := blk_f3 BK221.out
    go_wp2
    refine bodyPost_ret (results_cell_row rfl _ _ gb221 99 #[.bool false, .bool false, .bool true] (0, 0) _ rfl (by (with_reducible repeat (first | refine blk_drewN ?_ _ | refine blk_drew ?_ | refine blk_alloc ?_ _)); refine blk_put (cs := #[.bool false, .bool false, .bool false]) ?_ 2 _ rfl; (with_reducible repeat (first | refine blk_drewN ?_ _ | refine blk_drew ?_ | refine blk_alloc ?_ _)); refine blk_put (cs := #[.bool false, .bool false, .bool false]) ?_ 1 _ rfl; (with_reducible repeat (first | refine blk_drewN ?_ _ | refine blk_drew ?_ | refine blk_alloc ?_ _)); refine blk_put (cs := #[.bool false, .bool false, .bool false]) ?_ 0 _ rfl; (with_reducible repeat (first | refine blk_drewN ?_ _ | refine blk_drew ?_ | refine blk_alloc ?_ _)); exact BK221.out) Try.underlying99 rfl (by kernel_rfl)) rfl ?_
    exact ⟨by first | rfl | (simp [errW_none, errW_some] <;> rfl) | (simp [*, errW_none, errW_some] <;> rfl), by repeat (first | (with_reducible first | exact HB.out | apply below_alloc | apply pw_below_drewN | apply below_drew1 | refine below_set ?_ GE221.out) | exact HB.out)⟩
   ·
    replace c5 := Bool.eq_false_iff.mpr c5
    subst c5
    have H1 : (if a0 = 6 then (some (true, false, false)) else (some (true, true, false))) = some (r1, r2, r3) := by rw [if_neg (show ¬ (false = true) by decide)] at H; exact H
    clear H
    have H := H1
    clear H1
    by_cases c7 : a0 = 6
    ·
     rw [if_pos c7] at H
     have c7b0 : (a0 == 6) = true := beq_iff_eq.mpr c7
     have c7b1 : (a0 != 6) = false := bne_eq_false_iff_eq.mpr c7
     clear c7
     simp only [Option.some.injEq, Prod.mk.injEq] at H
     obtain ⟨rfl, rfl, rfl⟩ := H
     obtain ⟨hcz8_0, hcz8_1, hcz8_2⟩ := blk_c3 BK221.out
     obtain ⟨hfz8_0, hfz8_1, hfz8_2⟩ := blk_f3 BK221.out
     go_wp2
     refine bodyPost_ret (results_cell_row rfl _ _ gb221 99 #[.bool true, .bool false, .bool false] (0, 0) _ rfl (by (with_reducible repeat (first | refine blk_drewN ?_ _ | refine blk_drew ?_ | refine blk_alloc ?_ _)); refine blk_put (cs := #[.bool true, .bool false, .bool false]) ?_ 2 _ rfl; (with_reducible repeat (first | refine blk_drewN ?_ _ | refine blk_drew ?_ | refine blk_alloc ?_ _)); refine blk_put (cs := #[.bool true, .bool false, .bool false]) ?_ 1 _ rfl; (with_reducible repeat (first | refine blk_drewN ?_ _ | refine blk_drew ?_ | refine blk_alloc ?_ _)); refine blk_put (cs := #[.bool false, .bool false, .bool false]) ?_ 0 _ rfl; (with_reducible repeat (first | refine blk_drewN ?_ _ | refine blk_drew ?_ | refine blk_alloc ?_ _)); exact BK221.out) Try.underlying99 rfl (by kernel_rfl)) rfl ?_
     exact ⟨by first | rfl | (simp [errW_none, errW_some] <;> rfl) | (simp [*, errW_none, errW_some] <;> rfl), by repeat (first | (with_reducible first | exact HB.out | apply below_alloc | apply pw_below_drewN | apply below_drew1 | refine below_set ?_ GE221.out) | exact HB.out)⟩
    ·
     rw [if_neg c7] at H
     have c7b0 : (a0 == 6) = false := beq_eq_false_iff_ne.mpr c7
     have c7b1 : (a0 != 6) = true := bne_iff_ne.mpr c7
     simp only [Option.some.injEq, Prod.mk.injEq] at H
     obtain ⟨rfl, rfl, rfl⟩ := H
     obtain ⟨hcz9_0, hcz9_1, hcz9_2⟩ := blk_c3 BK221.out
     obtain ⟨hfz9_0, hfz9_1, hfz9_2⟩ := blk_f3 BK221.out
     go_wp2
     refine bodyPost_ret (results_cell_row rfl _ _ gb221 99 #[.bool true, .bool true, .bool false] (0, 0) _ rfl (by (with_reducible repeat (first | refine blk_drewN ?_ _ | refine blk_drew ?_ | refine blk_alloc ?_ _)); refine blk_put (cs := #[.bool true, .bool true, .bool false]) ?_ 2 _ rfl; (with_reducible repeat (first | refine blk_drewN ?_ _ | refine blk_drew ?_ | refine blk_alloc ?_ _)); refine blk_put (cs := #[.bool true, .bool false, .bool false]) ?_ 1 _ rfl; (with_reducible repeat (first | refine blk_drewN ?_ _ | refine blk_drew ?_ | refine blk_alloc ?_ _)); refine blk_put (cs := #[.bool false, .bool false, .bool false]) ?_ 0 _ rfl; (with_reducible repeat (first | refine blk_drewN ?_ _ | refine blk_drew ?_ | refine blk_alloc ?_ _)); exact BK221.out) Try.underlying99 rfl (by kernel_rfl)) rfl ?_
     exact ⟨by first | rfl | (simp [errW_none, errW_some] <;> rfl) | (simp [*, errW_none, errW_some] <;> rfl), by repeat (first | (with_reducible first | exact HB.out | apply below_alloc | apply pw_below_drewN | apply below_drew1 | refine below_set ?_ GE221.out) | exact HB.out)⟩

/-! ### impl_Term_parts: function 62 -/
def impl_Term_parts.f (k : Nat) (a0_0 : Int) (a0_1 : Int) (a0_2 : Int) (a0_3 : Int) : Option (List Int) := (impl_namesOf.f k a0_0).bind fun bt223 => (if bt223.2.2 = true then (some ([] : List Int)) else (if bt223.2.1 = true then (some (([a0_1, a0_2] : List Int))) else (some (([a0_1] : List Int)))))
theorem impl_Term_parts.mono : ∀ a0 a1 a2 a3 k, LeO (impl_Term_parts.f k a0 a1 a2 a3) (impl_Term_parts.f (k + 1) a0 a1 a2 a3) := by
 intro a0 a1 a2 a3 k
 unfold impl_Term_parts.f
 repeat' first
   | (with_reducible exact impl_namesOf.mono _ _)
   | (with_reducible exact LeO.refl _)
   | (with_reducible exact LeO.none _)
   | (with_reducible refine LeO.ite ?_ ?_)
   | (with_reducible refine LeO.bind ?_ (fun _ => ?_))
   | exact impl_namesOf.mono _ _
   | exact LeO.none _
   | refine LeO.ite ?_ ?_
   | refine LeO.bind ?_ (fun _ => ?_)
set_option maxHeartbeats 8000000 in
set_option maxRecDepth 100000 in
theorem impl_Term_parts.calls (k : Nat) (a0_0 : Int) (a0_1 : Int) (a0_2 : Int) (a0_3 : Int) (r : List Int) (w : World) (h : impl_Term_parts.f k a0_0 a0_1 a0_2 a0_3 = some r) :
  Calls Try.prog 62 #[.agg #[.int .i64 a0_0, .int .i64 a0_1, .int .i64 a0_2, .int .i64 a0_3]] w fun e w' => ∃ v0_ : Value, e = .returned (v0_) ∧ Kd.R (Kd.int .i64) 2 w' w.heap.size (fun _ => True) v0_ r ∧ Below w.heap.size w w' := by
 have hu50 := Try.underlying50
 have hu99 := Try.underlying99
 have HB := Aside0.mk (Below.refl w.heap.size w)
 have H : ((impl_namesOf.f k a0_0).bind fun bt223 => (if bt223.2.2 = true then (some ([] : List Int)) else (if bt223.2.1 = true then (some (([a0_1, a0_2] : List Int))) else (some (([a0_1] : List Int)))))) = some r := h
 clear h
 replace H := Option.bind_eq_some_iff.mp H
 obtain ⟨⟨t223, t224, t225⟩, A20, H⟩ := H
 replace H : (if t225 = true then (some ([] : List Int)) else (if t224 = true then (some (([a0_1, a0_2] : List Int))) else (some (([a0_1] : List Int))))) = some r := H
 have A2 := Aside0.mk A20
 clear A20
 by_cases c3 : t225 = true
 ·
  subst c3
  have H1 : (some ([] : List Int)) = some r := by rw [if_pos rfl] at H; exact H
  clear H
  have H := H1
  clear H1
  obtain rfl := Option.some.inj H
  go_enter Try.func62, Try.ntmps62
  go_wp2_with (first | ((with_reducible refine gate_dst (N := 1) rfl ?_); refine box_event ?hg (N := 1) ?hd (cs := #[.int .i64 a0_0, .int .i64 a0_1, .int .i64 a0_2, .int .i64 a0_3]) (t := 50) ?hr ?_; (case hd => rfl); (case hg => rfl); (case hr => first | (go_simp; done) | (go_simp; rfl)); intro gb222 hg w4 hbox hb; have n0_ := Aside0.mk (below_step (by repeat (first | (with_reducible first | exact HB.out | apply below_alloc | apply pw_below_drewN | apply below_drew1) | exact HB.out)) hb); have n1_ := Aside0.mk (hbox); have n2_ := Aside0.mk ((by rw [hg]; exact (below_size (by repeat (first | (with_reducible first | exact HB.out | apply below_alloc | apply pw_below_drewN | apply below_drew1) | exact HB.out))) : w.heap.size ≤ gb222)); have n3_ := Aside0.mk ((by rw [hg]; exact (below_size (by repeat (first | (with_reducible first | exact HB.out | apply below_alloc | apply pw_below_drewN | apply below_drew1) | exact HB.out))) : w.heap.size ≤ gb222)); clear HB; have HB := n0_; have BK222 := n1_; have GW222 := n2_; have GE222 := n3_; clear n0_ n1_ n2_ n3_; clear hb hbox hg; obtain ⟨hcz5_0, hcz5_1, hcz5_2, hcz5_3⟩ := blk_c4 BK222.out; obtain ⟨hfz5_0, hfz5_1, hfz5_2, hfz5_3⟩ := blk_f4 BK222.out) | ((with_reducible refine gate_callee (f := 79) rfl ?_); refine goesL_ (some 6) rfl rfl Try.func79 (by kernel_rfl) rfl #[.int .i64 a0_0] rfl (by (try simp only [List.map_toArray, List.map_cons, List.map_nil]); first | done | rfl | (simp only [List.length_drop, List.length_take]; rfl)) ?_; (with_reducible refine (impl_namesOf.calls k a0_0 t223 t224 true _ A2.out).mono ?_); rintro e w6 ⟨rfl, hb⟩; refine ⟨_, rfl, ?_⟩; have n0_ := Aside0.mk (blk_below_u BK222.out hb); have n1_ := Aside0.mk (below_step (by repeat (first | (with_reducible first | exact HB.out | apply below_alloc | apply pw_below_drewN | apply below_drew1 | refine below_set ?_ GE222.out) | exact HB.out)) hb); clear BK222; clear HB; have BK222 := n0_; have HB := n1_; clear n0_ n1_; (try clear hb); (try clear hb2); (try clear hk); (try clear hi)) | ((with_reducible refine gate_dst (N := 3) rfl ?_); refine box_event ?hg (N := 3) ?hd (cs := #[.bool false, .bool false, .bool false]) (t := 99) ?hr ?_; (case hd => rfl); (case hg => rfl); (case hr => first | (go_simp; done) | (go_simp; rfl)); intro gb226 hg w7 hbox hb; have n0_ := Aside0.mk (blk_below_u BK222.out hb); have n1_ := Aside0.mk (below_step (by repeat (first | (with_reducible first | exact HB.out | apply below_alloc | apply pw_below_drewN | apply below_drew1 | refine below_set ?_ GE222.out) | exact HB.out)) hb); have n2_ := Aside0.mk (hbox); have n3_ := Aside0.mk ((by rw [hg]; exact (below_size (by repeat (first | (with_reducible first | exact HB.out | apply below_alloc | apply pw_below_drewN | apply below_drew1 | refine below_set ?_ GE222.out) | exact HB.out))) : w.heap.size ≤ gb226)); have n4_ := Aside0.mk ((by rw [hg]; exact (below_size (by repeat (first | (with_reducible first | exact HB.out | apply below_alloc | apply pw_below_drewN | apply below_drew1 | refine below_set ?_ GE222.out) | exact HB.out))) : w.heap.size ≤ gb226)); have n5_ := Aside0.mk ((by rw [hg]; exact Nat.ne_of_lt (blk_lt_u BK222.out) : gb222 ≠ gb226)); have n6_ := Aside0.mk ((by rw [hg]; exact Nat.ne_of_gt (blk_lt_u BK222.out) : gb226 ≠ gb222)); clear BK222; clear HB; have BK222 := n0_; have HB := n1_; have BK226 := n2_; have GW226 := n3_; have GE226 := n4_; have NB222_226 := n5_; have NB226_222 := n6_; clear n0_ n1_ n2_ n3_ n4_ n5_ n6_; clear hb hbox hg; have hnb8 := NB226_222.out; have hnc8 := NB222_226.out; obtain ⟨hcz9_0, hcz9_1, hcz9_2⟩ := blk_c3 BK226.out; obtain ⟨hfz9_0, hfz9_1, hfz9_2⟩ := blk_f3 BK226.out))
  go_ret
  exact ⟨_, by first | rfl | (simp [errW_none, errW_some] <;> rfl) | (simp [*, errW_none, errW_some] <;> rfl), by first | exact Kd.R_nil _ _ _ _ _ | exact Kd.N_nil _ _ _ _ _ | exact Kd.V_nil _ _ _ _ _ | exact Kd.Q_nil _ _ _ _ _ | exact Kd.S_nil _ _ _ _ _, by repeat (first | (with_reducible first | exact HB.out | apply below_alloc | apply pw_below_drewN | apply below_drew1 | refine below_set ?_ GE222.out | refine below_set ?_ GE226.out) | exact HB.out)⟩
 ·
  replace c3 := Bool.eq_false_iff.mpr c3
  subst c3
  have H1 : (if t224 = true then (some (([a0_1, a0_2] : List Int))) else (some (([a0_1] : List Int)))) = some r := by rw [if_neg (show ¬ (false = true) by decide)] at H; exact H
  clear H
  have H := H1
  clear H1
  by_cases c10 : t224 = true
  ·
   subst c10
   have H1 : (some (([a0_1, a0_2] : List Int))) = some r := by rw [if_pos rfl] at H; exact H
   clear H
   have H := H1
   clear H1
   obtain ⟨y227, hy227⟩ : ∃ y_ : List Int, y_ = (([a0_1, a0_2] : List Int)) := ⟨_, rfl⟩
   replace H : (some y227) = some r := by first | (rw [hy227]; with_reducible exact H) | (have H2_ := (Option.bind_some _ _).symm.trans H; rw [hy227]; with_reducible exact H2_) | (have H2_ := (Option.bind_some _ _).symm.trans H; with_reducible exact H2_) | with_reducible exact H | (rw [hy227]; exact H) | exact H
   have Ny227 := Aside0.mk hy227
   clear hy227
   obtain rfl := Option.some.inj H
   go_enter Try.func62, Try.ntmps62
   go_wp2_with (first | ((with_reducible refine gate_dst (N := 1) rfl ?_); refine box_event ?hg (N := 1) ?hd (cs := #[.int .i64 a0_0, .int .i64 a0_1, .int .i64 a0_2, .int .i64 a0_3]) (t := 50) ?hr ?_; (case hd => rfl); (case hg => rfl); (case hr => first | (go_simp; done) | (go_simp; rfl)); intro gb222 hg w11 hbox hb; have n0_ := Aside0.mk (below_step (by repeat (first | (with_reducible first | exact HB.out | apply below_alloc | apply pw_below_drewN | apply below_drew1) | exact HB.out)) hb); have n1_ := Aside0.mk (hbox); have n2_ := Aside0.mk ((by rw [hg]; exact (below_size (by repeat (first | (with_reducible first | exact HB.out | apply below_alloc | apply pw_below_drewN | apply below_drew1) | exact HB.out))) : w.heap.size ≤ gb222)); have n3_ := Aside0.mk ((by rw [hg]; exact (below_size (by repeat (first | (with_reducible first | exact HB.out | apply below_alloc | apply pw_below_drewN | apply below_drew1) | exact HB.out))) : w.heap.size ≤ gb222)); clear HB; have HB := n0_; have BK222 := n1_; have GW222 := n2_; have GE222 := n3_; clear n0_ n1_ n2_ n3_; clear hb hbox hg; obtain ⟨hcz12_0, hcz12_1, hcz12_2, hcz12_3⟩ := blk_c4 BK222.out; obtain ⟨hfz12_0, hfz12_1, hfz12_2, hfz12_3⟩ := blk_f4 BK222.out) | ((with_reducible refine gate_callee (f := 79) rfl ?_); refine goesL_ (some 6) rfl rfl Try.func79 (by kernel_rfl) rfl #[.int .i64 a0_0] rfl (by (try simp only [List.map_toArray, List.map_cons, List.map_nil]); first | done | rfl | (simp only [List.length_drop, List.length_take]; rfl)) ?_; (with_reducible refine (impl_namesOf.calls k a0_0 t223 true false _ A2.out).mono ?_); rintro e w13 ⟨rfl, hb⟩; refine ⟨_, rfl, ?_⟩; have n0_ := Aside0.mk (blk_below_u BK222.out hb); have n1_ := Aside0.mk (below_step (by repeat (first | (with_reducible first | exact HB.out | apply below_alloc | apply pw_below_drewN | apply below_drew1 | refine below_set ?_ GE222.out) | exact HB.out)) hb); clear BK222; clear HB; have BK222 := n0_; have HB := n1_; clear n0_ n1_; (try clear hb); (try clear hb2); (try clear hk); (try clear hi)) | ((with_reducible refine gate_dst (N := 3) rfl ?_); refine box_event ?hg (N := 3) ?hd (cs := #[.bool false, .bool false, .bool false]) (t := 99) ?hr ?_; (case hd => rfl); (case hg => rfl); (case hr => first | (go_simp; done) | (go_simp; rfl)); intro gb226 hg w14 hbox hb; have n0_ := Aside0.mk (blk_below_u BK222.out hb); have n1_ := Aside0.mk (below_step (by repeat (first | (with_reducible first | exact HB.out | apply below_alloc | apply pw_below_drewN | apply below_drew1 | refine below_set ?_ GE222.out) | exact HB.out)) hb); have n2_ := Aside0.mk (hbox); have n3_ := Aside0.mk ((by rw [hg]; exact (below_size (by repeat (first | (with_reducible first | exact HB.out | apply below_alloc | apply pw_below_drewN | apply below_drew1 | refine below_set ?_ GE222.out) | exact HB.out))) : w.heap.size ≤ gb226)); have n4_ := Aside0.mk ((by rw [hg]; exact (below_size (by repeat (first | (with_reducible first | exact HB.out | apply below_alloc | apply pw_below_drewN | apply below_drew1 | refine below_set ?_ GE222.out) | exact HB.out))) : w.heap.size ≤ gb226)); have n5_ := Aside0.mk ((by rw [hg]; exact Nat.ne_of_lt (blk_lt_u BK222.out) : gb222 ≠ gb226)); have n6_ := Aside0.mk ((by rw [hg]; exact Nat.ne_of_gt (blk_lt_u BK222.out) : gb226 ≠ gb222)); clear BK222; clear HB; have BK222 := n0_; have HB := n1_; have BK226 := n2_; have GW226 := n3_; have GE226 := n4_; have NB222_226 := n5_; have NB226_222 := n6_; clear n0_ n1_ n2_ n3_ n4_ n5_ n6_; clear hb hbox hg; have hnb15 := NB226_222.out; have hnc15 := NB222_226.out; obtain ⟨hcz16_0, hcz16_1, hcz16_2⟩ := blk_c3 BK226.out; obtain ⟨hfz16_0, hfz16_1, hfz16_2⟩ := blk_f3 BK226.out; obtain ⟨hcz17_0, hcz17_1, hcz17_2, hcz17_3⟩ := blk_c4 BK222.out; obtain ⟨hfz17_0, hfz17_1, hfz17_2, hfz17_3⟩ := blk_f4 BK222.out) | ((with_reducible refine gate_dst (N := 21) rfl ?_); refine Kd.R_lit (Kd.int .i64) _ 2 ?hg (N := 21) ?hd (xs := ([a0_1, a0_2] : List Int)) (inner := [.int .i64 a0_1, .int .i64 a0_2]) (ok := fun _ => True) (okp := fun _ => True) ?hr ?hp (fun _ hk => hk) trivial (Below.refl _ _) (Nat.le_refl _) (by simp) ?_; (case hd => rfl); (case hg => rfl); (case hr => first | (go_simp; done) | (go_simp; rfl)); (case hp => exact (Reps.one (show Kd.M (Kd.int .i64) _ _ _ a0_1 [.int .i64 a0_1] from rfl) (Reps.one (show Kd.M (Kd.int .i64) _ _ _ a0_2 [.int .i64 a0_2] from rfl) (Reps.none _ _)))); intro v228 w18 ho19 hb hg_ hnew_; clear hg_ hnew_; (first | rw [← Ny227.out] at ho19 | (simp only [Int.reduceToNat] at ho19; rw [← Ny227.out] at ho19)); have n0_ := Aside0.mk (Kd.R_lower ho19 (below_size (by repeat (first | (with_reducible first | exact HB.out | apply below_alloc | apply pw_below_drewN | apply below_drew1 | refine below_set ?_ GE222.out | refine below_set ?_ GE226.out) | exact HB.out)))); have n1_ := Aside0.mk (blk_below (g := gb222) (o := .cells #[.int .i64 a0_0, .int .i64 a0_1, .int .i64 a0_2, .int .i64 a0_3] 50 (0, 0)) (by (with_reducible repeat (first | refine blk_drewN ?_ _ | refine blk_drew ?_ | refine blk_alloc ?_ _)); refine blk_far ?_ NB222_226.out _; (with_reducible repeat (first | refine blk_drewN ?_ _ | refine blk_drew ?_ | refine blk_alloc ?_ _)); refine blk_far ?_ NB222_226.out _; (with_reducible repeat (first | refine blk_drewN ?_ _ | refine blk_drew ?_ | refine blk_alloc ?_ _)); refine blk_far ?_ NB222_226.out _; (with_reducible repeat (first | refine blk_drewN ?_ _ | refine blk_drew ?_ | refine blk_alloc ?_ _)); exact BK222.out) hb); have n2_ := Aside0.mk (blk_below (g := gb226) (o := .cells #[.bool t223, .bool true, .bool false] 99 (0, 0)) (by (with_reducible repeat (first | refine blk_drewN ?_ _ | refine blk_drew ?_ | refine blk_alloc ?_ _)); refine blk_put (cs := #[.bool t223, .bool true, .bool false]) ?_ 2 _ rfl; (with_reducible repeat (first | refine blk_drewN ?_ _ | refine blk_drew ?_ | refine blk_alloc ?_ _)); refine blk_put (cs := #[.bool t223, .bool false, .bool false]) ?_ 1 _ rfl; (with_reducible repeat (first | refine blk_drewN ?_ _ | refine blk_drew ?_ | refine blk_alloc ?_ _)); refine blk_put (cs := #[.bool false, .bool false, .bool false]) ?_ 0 _ rfl; (with_reducible repeat (first | refine blk_drewN ?_ _ | refine blk_drew ?_ | refine blk_alloc ?_ _)); exact BK226.out) hb); have n3_ := Aside0.mk (below_step (by repeat (first | (with_reducible first | exact HB.out | apply below_alloc | apply pw_below_drewN | apply below_drew1 | refine below_set ?_ GE222.out | refine below_set ?_ GE226.out) | exact HB.out)) hb); clear BK222; clear BK226; clear HB; have HO229 := n0_; have BK222 := n1_; have BK226 := n2_; have HB := n3_; clear n0_ n1_ n2_ n3_; clear hb ho19))
   go_ret
   exact ⟨_, by first | rfl | (simp [errW_none, errW_some] <;> rfl) | (simp [*, errW_none, errW_some] <;> rfl), by (with_reducible repeat (first | apply Kd.R_alloc | apply Kd.R_drewN | apply Kd.R_drew)); exact HO229.out, by repeat (first | (with_reducible first | exact HB.out | apply below_alloc | apply pw_below_drewN | apply below_drew1 | refine below_set ?_ GE222.out | refine below_set ?_ GE226.out) | exact HB.out)⟩
  ·
   replace c10 := Bool.eq_false_iff.mpr c10
   subst c10
   have H1 : (some (([a0_1] : List Int))) = some r := by rw [if_neg (show ¬ (false = true) by decide)] at H; exact H
   clear H
   have H := H1
   clear H1
   obtain ⟨y230, hy230⟩ : ∃ y_ : List Int, y_ = (([a0_1] : List Int)) := ⟨_, rfl⟩
   replace H : (some y230) = some r := by first | (rw [hy230]; with_reducible exact H) | (have H2_ := (Option.bind_some _ _).symm.trans H; rw [hy230]; with_reducible exact H2_) | (have H2_ := (Option.bind_some _ _).symm.trans H; with_reducible exact H2_) | with_reducible exact H | (rw [hy230]; exact H) | exact H
   have Ny230 := Aside0.mk hy230
   clear hy230
   obtain rfl := Option.some.inj H
   go_enter Try.func62, Try.ntmps62
   go_wp2_with (first | ((with_reducible refine gate_dst (N := 1) rfl ?_); refine box_event ?hg (N := 1) ?hd (cs := #[.int .i64 a0_0, .int .i64 a0_1, .int .i64 a0_2, .int .i64 a0_3]) (t := 50) ?hr ?_; (case hd => rfl); (case hg => rfl); (case hr => first | (go_simp; done) | (go_simp; rfl)); intro gb222 hg w20 hbox hb; have n0_ := Aside0.mk (below_step (by repeat (first | (with_reducible first | exact HB.out | apply below_alloc | apply pw_below_drewN | apply below_drew1) | exact HB.out)) hb); have n1_ := Aside0.mk (hbox); have n2_ := Aside0.mk ((by rw [hg]; exact (below_size (by repeat (first | (with_reducible first | exact HB.out | apply below_alloc | apply pw_below_drewN | apply below_drew1) | exact HB.out))) : w.heap.size ≤ gb222)); have n3_ := Aside0.mk ((by rw [hg]; exact (below_size (by repeat (first | (with_reducible first | exact HB.out | apply below_alloc | apply pw_below_drewN | apply below_drew1) | exact HB.out))) : w.heap.size ≤ gb222)); clear HB; have HB := n0_; have BK222 := n1_; have GW222 := n2_; have GE222 := n3_; clear n0_ n1_ n2_ n3_; clear hb hbox hg; obtain ⟨hcz21_0, hcz21_1, hcz21_2, hcz21_3⟩ := blk_c4 BK222.out; obtain ⟨hfz21_0, hfz21_1, hfz21_2, hfz21_3⟩ := blk_f4 BK222.out) | ((with_reducible refine gate_callee (f := 79) rfl ?_); refine goesL_ (some 6) rfl rfl Try.func79 (by kernel_rfl) rfl #[.int .i64 a0_0] rfl (by (try simp only [List.map_toArray, List.map_cons, List.map_nil]); first | done | rfl | (simp only [List.length_drop, List.length_take]; rfl)) ?_; (with_reducible refine (impl_namesOf.calls k a0_0 t223 false false _ A2.out).mono ?_); rintro e w22 ⟨rfl, hb⟩; refine ⟨_, rfl, ?_⟩; have n0_ := Aside0.mk (blk_below_u BK222.out hb); have n1_ := Aside0.mk (below_step (by repeat (first | (with_reducible first | exact HB.out | apply below_alloc | apply pw_below_drewN | apply below_drew1 | refine below_set ?_ GE222.out) | exact HB.out)) hb); clear BK222; clear HB; have BK222 := n0_; have HB := n1_; clear n0_ n1_; (try clear hb); (try clear hb2); (try clear hk); (try clear hi)) | ((with_reducible refine gate_dst (N := 3) rfl ?_); refine box_event ?hg (N := 3) ?hd (cs := #[.bool false, .bool false, .bool false]) (t := 99) ?hr ?_; (case hd => rfl); (case hg => rfl); (case hr => first | (go_simp; done) | (go_simp; rfl)); intro gb226 hg w23 hbox hb; have n0_ := Aside0.mk (blk_below_u BK222.out hb); have n1_ := Aside0.mk (below_step (by repeat (first | (with_reducible first | exact HB.out | apply below_alloc | apply pw_below_drewN | apply below_drew1 | refine below_set ?_ GE222.out) | exact HB.out)) hb); have n2_ := Aside0.mk (hbox); have n3_ := Aside0.mk ((by rw [hg]; exact (below_size (by repeat (first | (with_reducible first | exact HB.out | apply below_alloc | apply pw_below_drewN | apply below_drew1 | refine below_set ?_ GE222.out) | exact HB.out))) : w.heap.size ≤ gb226)); have n4_ := Aside0.mk ((by rw [hg]; exact (below_size (by repeat (first | (with_reducible first | exact HB.out | apply below_alloc | apply pw_below_drewN | apply below_drew1 | refine below_set ?_ GE222.out) | exact HB.out))) : w.heap.size ≤ gb226)); have n5_ := Aside0.mk ((by rw [hg]; exact Nat.ne_of_lt (blk_lt_u BK222.out) : gb222 ≠ gb226)); have n6_ := Aside0.mk ((by rw [hg]; exact Nat.ne_of_gt (blk_lt_u BK222.out) : gb226 ≠ gb222)); clear BK222; clear HB; have BK222 := n0_; have HB := n1_; have BK226 := n2_; have GW226 := n3_; have GE226 := n4_; have NB222_226 := n5_; have NB226_222 := n6_; clear n0_ n1_ n2_ n3_ n4_ n5_ n6_; clear hb hbox hg; have hnb24 := NB226_222.out; have hnc24 := NB222_226.out; obtain ⟨hcz25_0, hcz25_1, hcz25_2⟩ := blk_c3 BK226.out; obtain ⟨hfz25_0, hfz25_1, hfz25_2⟩ := blk_f3 BK226.out; obtain ⟨hcz26_0, hcz26_1, hcz26_2, hcz26_3⟩ := blk_c4 BK222.out; obtain ⟨hfz26_0, hfz26_1, hfz26_2, hfz26_3⟩ := blk_f4 BK222.out) | ((with_reducible refine gate_dst (N := 16) rfl ?_); refine Kd.R_lit (Kd.int .i64) _ 2 ?hg (N := 16) ?hd (xs := ([a0_1] : List Int)) (inner := [.int .i64 a0_1]) (ok := fun _ => True) (okp := fun _ => True) ?hr ?hp (fun _ hk => hk) trivial (Below.refl _ _) (Nat.le_refl _) (by simp) ?_; (case hd => rfl); (case hg => rfl); (case hr => first | (go_simp; done) | (go_simp; rfl)); (case hp => exact (Reps.one (show Kd.M (Kd.int .i64) _ _ _ a0_1 [.int .i64 a0_1] from rfl) (Reps.none _ _))); intro v231 w27 ho28 hb hg_ hnew_; clear hg_ hnew_; (first | rw [← Ny230.out] at ho28 | (simp only [Int.reduceToNat] at ho28; rw [← Ny230.out] at ho28)); have n0_ := Aside0.mk (Kd.R_lower ho28 (below_size (by repeat (first | (with_reducible first | exact HB.out | apply below_alloc | apply pw_below_drewN | apply below_drew1 | refine below_set ?_ GE222.out | refine below_set ?_ GE226.out) | exact HB.out)))); have n1_ := Aside0.mk (blk_below (g := gb222) (o := .cells #[.int .i64 a0_0, .int .i64 a0_1, .int .i64 a0_2, .int .i64 a0_3] 50 (0, 0)) (by (with_reducible repeat (first | refine blk_drewN ?_ _ | refine blk_drew ?_ | refine blk_alloc ?_ _)); refine blk_far ?_ NB222_226.out _; (with_reducible repeat (first | refine blk_drewN ?_ _ | refine blk_drew ?_ | refine blk_alloc ?_ _)); refine blk_far ?_ NB222_226.out _; (with_reducible repeat (first | refine blk_drewN ?_ _ | refine blk_drew ?_ | refine blk_alloc ?_ _)); refine blk_far ?_ NB222_226.out _; (with_reducible repeat (first | refine blk_drewN ?_ _ | refine blk_drew ?_ | refine blk_alloc ?_ _)); exact BK222.out) hb); have n2_ := Aside0.mk (blk_below (g := gb226) (o := .cells #[.bool t223, .bool false, .bool false] 99 (0, 0)) (by (with_reducible repeat (first | refine blk_drewN ?_ _ | refine blk_drew ?_ | refine blk_alloc ?_ _)); refine blk_put (cs := #[.bool t223, .bool false, .bool false]) ?_ 2 _ rfl; (with_reducible repeat (first | refine blk_drewN ?_ _ | refine blk_drew ?_ | refine blk_alloc ?_ _)); refine blk_put (cs := #[.bool t223, .bool false, .bool false]) ?_ 1 _ rfl; (with_reducible repeat (first | refine blk_drewN ?_ _ | refine blk_drew ?_ | refine blk_alloc ?_ _)); refine blk_put (cs := #[.bool false, .bool false, .bool false]) ?_ 0 _ rfl; (with_reducible repeat (first | refine blk_drewN ?_ _ | refine blk_drew ?_ | refine blk_alloc ?_ _)); exact BK226.out) hb); have n3_ := Aside0.mk (below_step (by repeat (first | (with_reducible first | exact HB.out | apply below_alloc | apply pw_below_drewN | apply below_drew1 | refine below_set ?_ GE222.out | refine below_set ?_ GE226.out) | exact HB.out)) hb); clear BK222; clear BK226; clear HB; have HO232 := n0_; have BK222 := n1_; have BK226 := n2_; have HB := n3_; clear n0_ n1_ n2_ n3_; clear hb ho28))
   go_ret
   exact ⟨_, by first | rfl | (simp [errW_none, errW_some] <;> rfl) | (simp [*, errW_none, errW_some] <;> rfl), by (with_reducible repeat (first | apply Kd.R_alloc | apply Kd.R_drewN | apply Kd.R_drew)); exact HO232.out, by repeat (first | (with_reducible first | exact HB.out | apply below_alloc | apply pw_below_drewN | apply below_drew1 | refine below_set ?_ GE222.out | refine below_set ?_ GE226.out) | exact HB.out)⟩

/-! ### (my own text) idxO -/
def idxO {α : Type} (p : α → Option Bool) : List α → Int → Option Int
  | [], _ => some (-1)
  | x :: xs, i => (p x).bind fun b => if b = true then some i else idxO p xs (i + 1)
theorem idxO_mono {α : Type} {p q : α → Option Bool} (h : ∀ x, LeO (p x) (q x)) : ∀ (l : List α) (i : Int), LeO (idxO p l i) (idxO q l i)
  | [], _ => LeO.refl _
  | x :: xs, i => LeO.bind (h x) (fun b => LeO.ite (LeO.refl _) (idxO_mono h xs (i + 1)))
theorem getD_at {α : Type} (l : List α) (z : α) (i : Nat) (h : i < l.length) : l.getD (i : Int).toNat z = l[i] := by
  simp [List.getD_eq_getElem?_getD, h]

/-! ### (my own text) IndexFuncI -/
set_option maxHeartbeats 4000000 in
set_option maxRecDepth 100000 in
theorem IndexFuncI.calls (A0 : Option Addr) (c0 : Nat) (l0 : List Int) (g : Nat) (lb : Array Value) (p : Int → Option Bool) (r : Int) (w : World)
    (eg : ∀ args w, (callFunc g args).run Try.prog w = .ok (.enter g args) w) (hr0 : Kd.C (Kd.int .i64) w A0 l0.length l0)
    (hp : ∀ (x : Int) (b : Bool) (W : World), p x = some b → Below w.heap.size w W → Calls Try.prog g (#[.int .i64 x] ++ lb) W fun e w' => e = .returned (.bool b) ∧ Below w.heap.size w w')
    (h : idxO p l0 0 = some r) :
    Calls Try.prog 78 #[.slice A0 l0.length c0, .func (.func g) #[] lb] w fun e w' => e = .returned (.int .i64 r) ∧ Below w.heap.size w w' := by
  have hm : l0.length ≤ 9223372036854775807 := hr0.2.1
  have HR0 := Aside0.mk hr0
  clear hr0
  have HP := Aside0.mk hp
  clear hp
  have H0 := Aside0.mk h
  clear h
  go_enter Try.func78, Try.ntmps78
  go_wp2
  go_loopg [5, 8] l0.length (fun gg _ s8 wr => ∃ kk : Nat, kk ≤ l0.length ∧ l0.length - kk ≤ gg ∧ s8 = .int .i64 kk ∧ Aside0 (Below w.heap.size w wr) ∧ Aside0 (idxO p (l0.drop kk) kk = some r))
  case atStart => exact ⟨0, Nat.zero_le _, by omega, rfl, ⟨Below.refl _ w⟩, ⟨by rw [List.drop_zero]; exact H0.out⟩⟩
  case round =>
    obtain ⟨kk, hkk, hg, rfl, BW, A⟩ := hrel
    by_cases hlt : kk < l0.length
    · have hltz : (kk : Int) < (l0.length : Int) := by omega
      obtain ⟨ad, e, hx0⟩ := Kd.at_int HR0.out (kk : Int) (by omega) hltz
      have A2 := A.out
      rw [List.drop_eq_getElem_cons hlt, idxO, ← getD_at l0 0 kk hlt] at A2
      change (p (rd l0 (kk : Int))).bind _ = some r at A2
      obtain ⟨b, hpb, A3⟩ := Option.bind_eq_some_iff.mp A2
      have hcall := HP.out _ _ wr hpb BW.out
      clear A A2 HP HR0 H0 hpb
      cases e
      replace hx0 := (BW.out.cell (World.block_lt_of_cell? w _ hx0)).trans hx0
      simp only [Int.toNat_natCast] at hx0
      cases b with
      | true =>
        have A4 := Aside0.mk (Option.some.inj ((if_pos rfl).symm.trans A3))
        clear A3
        go_wp2_with (go_at_fn g; refine hcall.mono ?_; rintro e w' ⟨rfl, hb'⟩)
        go_ret
        exact ⟨congrArg (fun z => Ending.returned (Value.int .i64 z)) A4.out, hb'⟩
      | false =>
        have A4 := Aside0.mk ((if_neg (by simp)).symm.trans A3)
        clear A3
        go_wp2_with (go_at_fn g; refine hcall.mono ?_; rintro e w' ⟨rfl, hb'⟩)
        go_roundg (l0.length - (kk + 1))
        case measure => omega
        case rel => exact ⟨kk + 1, by omega, by omega, by go_num, ⟨hb'⟩, ⟨A4.out⟩⟩
    · have hltz : ¬ (kk : Int) < (l0.length : Int) := by omega
      have hke : kk = l0.length := by omega
      subst hke
      have A4 := Aside0.mk (Option.some.inj ((by rw [List.drop_length, idxO] : idxO p (l0.drop l0.length) _ = some (-1)).symm.trans A.out))
      clear A
      go_wp2
      go_ret
      exact ⟨congrArg (fun z => Ending.returned (Value.int .i64 z)) A4.out, BW.out⟩

/-! ### (my own text) ContainsFuncI -/
set_option maxHeartbeats 4000000 in
set_option maxRecDepth 100000 in
theorem ContainsFuncI.calls (A0 : Option Addr) (c0 : Nat) (l0 : List Int) (g : Nat) (lb : Array Value) (p : Int → Option Bool) (r : Int) (w : World)
    (eg : ∀ args w, (callFunc g args).run Try.prog w = .ok (.enter g args) w) (hr0 : Kd.C (Kd.int .i64) w A0 l0.length l0)
    (hp : ∀ (x : Int) (b : Bool) (W : World), p x = some b → Below w.heap.size w W → Calls Try.prog g (#[.int .i64 x] ++ lb) W fun e w' => e = .returned (.bool b) ∧ Below w.heap.size w w')
    (h : idxO p l0 0 = some r) :
    Calls Try.prog 60 #[.slice A0 l0.length c0, .func (.func g) #[] lb] w fun e w' => e = .returned (.bool (decide (0 ≤ r))) ∧ Below w.heap.size w w' := by
  have H := IndexFuncI.calls A0 c0 l0 g lb p r w eg hr0 hp h
  clear hp h hr0
  go_enter Try.func60, Try.ntmps60
  go_wp2_with (go_at_call 78; refine H.mono ?_; rintro e w' ⟨rfl, hb'⟩)
  go_ret
  exact ⟨rfl, hb'⟩

end Go.Proofs.Ytidfgmekhededaa.PFnExactDerivesSome
