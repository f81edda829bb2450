-- Written by wip/tools/myprint.py of this claim's session, over the kit's print, round texts of its own: own text.
import Derived.Test.YtidfgmekhededaaPFnExactOpenAllx0
import Derived.Test.YtidfgmekhededaaPFnExactOpenAllx2
import Derived.Test.YtidfgmekhededaaPFnExactOpenAllx6
import Derived.Test.YtidfgmekhededaaPFnExactOpenAllx7
import Derived.Test.YtidfgmekhededaaPFnExactOpenAllx8
namespace Go.Proofs.Ytidfgmekhededaa.PFnExactOpenAll
open Go.RowKit Go.Proofs.YtidfgmekhededaaW.PrintWords Go.Proofs.YtidfgmekhededaaW.PrintLast Go.Proofs.YtidfgmekhededaaW.PrintMore
attribute [local go_sem] max2_int min2_int max_two min_two max_three min_three max_four min_four   -- for this text's walks alone
set_option linter.unusedVariables false
set_option linter.unusedSimpArgs false

/-! ### spec_l6Open: function 48 (my own text) -/
def spec_l6Open.go (l : List S50) : Nat → List Int → Option (List Int)
  | 0, _ => none
  | k + 1, o => (spec_l6Make.f k l o).bind fun can => (innO l can o o).bind fun nx => if nx.length = o.length then some o else spec_l6Open.go l k nx
def spec_l6Open.f (k : Nat) (l0 : List S50) (l1 : List Int) : Option (List Int) := if l1.length ≤ 1000000 then spec_l6Open.go l0 k l1 else none
theorem spec_l6Open.mono_go (l : List S50) : ∀ k o, LeO (spec_l6Open.go l k o) (spec_l6Open.go l (k + 1) o)
  | 0, _ => LeO.none _
  | k + 1, o => by
    rw [spec_l6Open.go, spec_l6Open.go]
    exact LeO.bind (spec_l6Make.mono _ _ _) (fun _ => LeO.bind (LeO.refl _) (fun _ => LeO.ite (LeO.refl _) (spec_l6Open.mono_go l k _)))
theorem spec_l6Open.mono : ∀ a0 a1 k, LeO (spec_l6Open.f k a0 a1) (spec_l6Open.f (k + 1) a0 a1) := fun _ _ _ => LeO.ite (spec_l6Open.mono_go _ _ _) (LeO.refl _)
set_option maxHeartbeats 8000000 in
set_option maxRecDepth 100000 in
theorem spec_l6Open.calls (k : Nat) (A0 : Option Addr) (c0 : Nat) (l0 : List S50) (A1 : Option Addr) (c1 : Nat) (l1 : List Int) (r1 : List Int) (w : World) (hr0 : Kd.C k50 w A0 l0.length l0) (hc0 : l0.length ≤ c0) (hr1 : Kd.C (Kd.int .i64) w A1 l1.length l1) (hc1 : l1.length ≤ c1) (h : spec_l6Open.f k l0 l1 = some r1) :
    Calls Try.prog 48 #[.slice A0 l0.length c0, .slice A1 l1.length c1] w fun e w' => ∃ v1_ : Value, e = .returned v1_ ∧ Kd.R (Kd.int .i64) 2 w' w.heap.size (fun _ => True) v1_ r1 ∧ Below w.heap.size w w' := by
  unfold spec_l6Open.f at h
  by_cases hL : l1.length ≤ 1000000
  · rw [if_pos hL] at h
    have HT := Aside0.mk hr0
    have HTC := Aside0.mk hc0
    have HK := Aside0.mk hr1
    have HB := Aside0.mk (Below.refl w.heap.size w)
    have H := Aside0.mk h
    have hmx : l0.length ≤ 9223372036854775807 := hr0.2.1
    clear hr0 hc0 hr1 hc1 h
    have hu := Try.underlying50
    have hu2 := Try.underlying29
    go_enter Try.func48, Try.ntmps48
    go_wp2_with (first | ((with_reducible refine gate_dst (N := 10) rfl ?_); refine Kd.R_lit (Kd.int .i64) _ 2 ?hg (N := 10) ?hd (xs := ([] : List Int)) (inner := []) (ok := fun _ => True) (okp := fun _ => True) ?hr ?hp (fun _ hk => hk) trivial (Below.refl _ _) (Nat.le_refl _) (by simp) ?_; (case hd => rfl); (case hg => rfl); (case hr => first | (go_simp; done) | (go_simp; rfl)); (case hp => exact (Reps.none _ _)); intro v5 w5 ho5 hb hg_ hnew_; clear hg_ hnew_; have HO5 := Aside0.mk (Kd.R_lower ho5 (Nat.le_refl _)); have n1_ := Aside0.mk hb; clear HB; have HB := n1_; clear n1_ hb ho5) | ((with_reducible refine gate_builtin (b := .append) (xs := #[.tmp 10, .tmp 11]) rfl ?_); at_builtin; refine Kd.R_append_rows (Kd.int .i64) (w0 := w) w.heap.size rfl (.tmp 10) (.tmp 11) 29 2 (.int .i64 0) 8 rfl Try.underlying29 info2 rfl (by decide) (by omega) v5 [] l1 _ _ _ (fun _ => True) (fun _ => False) rfl rfl ?aO ?aR (fun _ _ h => h) (fun _ h => h.elim) ?aF ?aB ?aS ?aL ?_; (case aR => exact (Kd.C_below HK.out HB.out)); (case aB => exact HB.out); (case aF => exact (fun k_ hk => trivial)); (case aO => exact HO5.out); (case aS => exact HB.out.size); (case aL => simp; omega); intro v7 w7 ho hb hg hat; have HO7 := Aside0.mk ho; have HB7 := Aside0.mk hb; clear ho hb hg hat))
    go_loopg [5] k (fun gg s5 wr => ∃ (kf : Nat) (o : List Int) (v5 : Value), kf ≤ gg ∧ s5 = v5 ∧ Aside0 (Below w.heap.size w wr) ∧ Aside0 (Kd.R (Kd.int .i64) 2 wr w.heap.size (fun _ => True) v5 o) ∧ Aside0 (spec_l6Open.go l0 kf o = some r1))
    case atStart => exact ⟨k, l1, v7, Nat.le_refl _, rfl, HB7, ⟨by simpa using HO7.out⟩, H⟩
    case round =>
      clear HO5 HO7 HB HB7 H
      obtain ⟨kf, o, v5, hkg, rfl, BW, HO, H⟩ := hrel
      cases kf with
      | zero => exact absurd H.out (by simp [spec_l6Open.go])
      | succ kf =>
        obtain ⟨A5, c5, e5⟩ := Kd.R_slice HO.out
        subst e5
        obtain ⟨_, hc5, hC5⟩ := Kd.R_reads' HO.out
        have hH := H.out
        rw [spec_l6Open.go] at hH
        obtain ⟨can, hm, hH⟩ := Option.bind_eq_some_iff.mp hH
        obtain ⟨nf, hi, hH⟩ := Option.bind_eq_some_iff.mp hH
        have HF := Aside0.mk hH
        have HI := Aside0.mk hi
        have HM := Aside0.mk (fun (W : World) (hW : Below wr.heap.size wr W) => spec_l6Make.calls kf A0 c0 l0 A5 c5 o can W (Kd.C_below (Kd.C_below HT.out BW.out) hW) HTC.out (Kd.C_below hC5 hW) hc5 hm)
        have hmo : o.length ≤ 9223372036854775807 := hC5.2.1
        clear hH hi hm hc5 hC5 H
        go_wp2_with (first | (go_at_call 64; (with_reducible refine (HM.out _ (by with_reducible repeat (first | exact Below.refl _ _ | refine below_drew ?_ | refine pw_below_drewN ?_ _))).mono ?_); rintro e w5_ ⟨v6, rfl, hv, hb⟩; obtain ⟨A6, c6, e6⟩ := Kd.R_slice hv; subst e6; have HCA0 := Aside0.mk (Kd.R_lower hv (show w.heap.size ≤ _ from BW.out.size)); have HO2 := Aside0.mk (Kd.R_below HO.out hb); have BW2 := Aside0.mk (below_step BW.out hb); clear hv hb HO BW) | fail)
        go_loopg [7, 8] o.length (fun gg s7 s8 wr => ∃ (kk : Nat) (v7 : Value) (nx : List Int), kk ≤ o.length ∧ o.length - kk ≤ gg ∧ v7 = s7 ∧ s8 = .int .i64 kk ∧ Aside0 (Below w.heap.size w wr) ∧ Aside0 (Kd.R (Kd.int .i64) 2 wr w.heap.size (fun _ => True) (.slice A5 o.length c5) o) ∧ Aside0 (Kd.R Kd.bool 4 wr w.heap.size (fun _ => True) (.slice A6 can.length c6) can) ∧ Aside0 (Kd.R (Kd.int .i64) 2 wr w.heap.size (fun _ => True) v7 nx) ∧ Aside0 (innO l0 can (o.drop kk) nx = some nf))
        case atStart => exact ⟨0, _, o, Nat.zero_le _, by omega, rfl, rfl, BW2, HO2, HCA0, HO2, ⟨by rw [List.drop_zero]; exact HI.out⟩⟩
        case round =>
          clear HCA0 HO2 BW2 HI HM
          obtain ⟨kk, v7, nx, hkk, hgg, rfl, rfl, BW, HO, HCA, HN, H⟩ := hrel
          by_cases hlt : kk < o.length
          · have hltz : (kk : Int) < (o.length : Int) := by omega
            obtain ⟨ad5, e, hx0⟩ := Kd.at_int (Kd.R_reads' HO.out).2.2 (kk : Int) (by omega) hltz
            cases e
            simp only [Int.toNat_natCast] at hx0
            have hH := H.out
            have hrd : rd o (kk : Int) = o[kk] := by
              unfold rd
              simp [List.getD_eq_getElem?_getD, hlt]
            obtain ⟨x, hx⟩ : ∃ x, x = rd o (kk : Int) := ⟨_, rfl⟩
            rw [List.drop_eq_getElem_cons hlt, innO, ← hrd, ← hx] at hH
            rw [← hx] at hx0
            obtain ⟨y, hy, hH⟩ := Option.bind_eq_some_iff.mp hH
            have HN2 := Aside0.mk hH
            unfold stepO at hy
            by_cases hxr : 0 ≤ x ∧ x < (l0.length : Int)
            · rw [if_pos hxr] at hy
              obtain ⟨hx1, hx2⟩ := hxr
              obtain ⟨ad0, e, ht0, ht1, ht2, ht3⟩ := at_T50 (Kd.C_below HT.out BW.out) x hx1 hx2
              cases e
              have BX := Aside0.mk (Boxes.start wr)
              clear hH hrd hx H
              by_cases h3 : (rd_T50 l0 x).f0 = 3
              · rw [if_pos h3] at hy
                by_cases hb3 : nx.length ≤ 1000000 ∧ (riseL nx (rd_T50 l0 x).f1).length ≤ 1000000
                · rw [if_pos hb3] at hy
                  have HL1 := Aside0.mk hb3.1
                  obtain ⟨y1, hy1⟩ : ∃ y1, y1 = riseL nx (rd_T50 l0 x).f1 := ⟨_, rfl⟩
                  have HL2 : Aside0 (y1.length ≤ 1000000) := ⟨hy1 ▸ hb3.2⟩
                  rw [← hy1] at hy
                  have HY := Aside0.mk (Option.some.inj hy)
                  have HY1 : Aside0 (riseL nx (rd_T50 l0 x).f1 = y1) := ⟨hy1.symm⟩
                  have hq3 : ((rd_T50 l0 x).f0 == 3) = true := by rw [h3]; rfl
                  have hq5 : ((rd_T50 l0 x).f0 == 5) = false := by rw [h3]; rfl
                  clear hb3 hy hy1 h3
                  go_wp2_with (first | ((with_reducible refine gate_dst (N := 9) rfl ?_); refine box_event ?hg (N := 9) ?hd (cs := #[.int .i64 0, .int .i64 0, .int .i64 0, .int .i64 0]) (t := 50) ?hr ?_; (case hd => rfl); (case hg => rfl); (case hr => first | (go_simp; done) | (go_simp; rfl)); intro g9 hg w9_ hbox hb; have BY := Aside0.mk (Boxes.new (w0 := wr) (bs := []) (by (with_reducible repeat (first | refine Boxes.drewN ?_ _ | refine Boxes.drew ?_ | refine Boxes.alloc ?_ _)); exact BX.out) hg hbox hb); clear BX hb hbox hg; have BX := BY; clear BY; have q9_0 : World.cell? _ ⟨g9, 0, none⟩ = some (.int .i64 0) := BX.out.cell (i := 0) rfl (j := 0) rfl; have q9_1 : World.cell? _ ⟨g9, 1, none⟩ = some (.int .i64 0) := BX.out.cell (i := 0) rfl (j := 1) rfl; have q9_2 : World.cell? _ ⟨g9, 2, none⟩ = some (.int .i64 0) := BX.out.cell (i := 0) rfl (j := 2) rfl; have q9_3 : World.cell? _ ⟨g9, 3, none⟩ = some (.int .i64 0) := BX.out.cell (i := 0) rfl (j := 3) rfl; have f9_0 : World.frozen? _ ⟨g9, 0, none⟩ = false := BX.out.frozen (i := 0) rfl 0; have f9_1 : World.frozen? _ ⟨g9, 1, none⟩ = false := BX.out.frozen (i := 0) rfl 1; have f9_2 : World.frozen? _ ⟨g9, 2, none⟩ = false := BX.out.frozen (i := 0) rfl 2; have f9_3 : World.frozen? _ ⟨g9, 3, none⟩ = false := BX.out.frozen (i := 0) rfl 3) | ((with_reducible refine gate_store (t := 50) (p := 9) rfl ?_); refine boxes_store (w0 := wr) (bs := [(g9, #[.int .i64 (rd_T50 l0 x).f0, .int .i64 (rd_T50 l0 x).f1, .int .i64 (rd_T50 l0 x).f2, .int .i64 (rd_T50 l0 x).f3], 50)]) (W1 := (((World.setCell w9_ ⟨g9, 0, none⟩ (.int .i64 (rd_T50 l0 x).f0)).setCell ⟨g9, 1, none⟩ (.int .i64 (rd_T50 l0 x).f1)).setCell ⟨g9, 2, none⟩ (.int .i64 (rd_T50 l0 x).f2)).setCell ⟨g9, 3, none⟩ (.int .i64 (rd_T50 l0 x).f3)) rfl rfl rfl ?hr ((((Boxes.put (w0 := wr) (b1 := []) (b2 := []) BX.out 0 (.int .i64 (rd_T50 l0 x).f0)).put (b1 := []) 1 (.int .i64 (rd_T50 l0 x).f1)).put (b1 := []) 2 (.int .i64 (rd_T50 l0 x).f2)).put (b1 := []) 3 (.int .i64 (rd_T50 l0 x).f3)) ?_; (case hr => first | (go_simp; done) | (go_simp; rfl)); intro w10_ BY; have BY := Aside0.mk BY; clear BX; have BX := BY; clear BY; clear q9_0 q9_1 q9_2 q9_3 f9_0 f9_1 f9_2 f9_3; have q9_0 : World.cell? w10_ ⟨g9, 0, none⟩ = some (.int .i64 (rd_T50 l0 x).f0) := BX.out.cell (i := 0) rfl (j := 0) rfl; have q9_1 : World.cell? w10_ ⟨g9, 1, none⟩ = some (.int .i64 (rd_T50 l0 x).f1) := BX.out.cell (i := 0) rfl (j := 1) rfl; have q9_2 : World.cell? w10_ ⟨g9, 2, none⟩ = some (.int .i64 (rd_T50 l0 x).f2) := BX.out.cell (i := 0) rfl (j := 2) rfl; have q9_3 : World.cell? w10_ ⟨g9, 3, none⟩ = some (.int .i64 (rd_T50 l0 x).f3) := BX.out.cell (i := 0) rfl (j := 3) rfl) | fail)
                  have BW_ := BW
                  clear BW
                  have BW := Aside0.mk (below_step BW_.out (Boxes.low (w0 := wr) (bs := [(g9, #[.int .i64 (rd_T50 l0 x).f0, .int .i64 (rd_T50 l0 x).f1, .int .i64 (rd_T50 l0 x).f2, .int .i64 (rd_T50 l0 x).f3], 50)]) BX.out))
                  have HN_ := HN
                  clear HN
                  have HN := Aside0.mk (Kd.R_below HN_.out (Boxes.low (w0 := wr) (bs := [(g9, #[.int .i64 (rd_T50 l0 x).f0, .int .i64 (rd_T50 l0 x).f1, .int .i64 (rd_T50 l0 x).f2, .int .i64 (rd_T50 l0 x).f3], 50)]) BX.out))
                  refine start_ (n := 8) (S := fun w' => w'.cell? ⟨g9, 1, none⟩ = some (.int .i64 (rd_T50 l0 x).f1) ∧ w'.cell? ⟨g9, 2, none⟩ = some (.int .i64 (rd_T50 l0 x).f2)) (ds := []) #[false, false, false, false, false, false, false, false] (by kernel_rfl) rfl rfl ⟨q9_1, q9_2⟩ (fun hHeld => ?_)
                  refine pure_ (i := 0) (N := some 33) (v := ?_) (a' := ?_) #[true, false, false, false, false, false, false, false] rfl rfl (by kernel_rfl) (fun _ _ _ h => h) (Or.inl ⟨by rfl, ?_⟩) ?_ ?_
                  rotate_left
                  · intro w'
                    go_simp
                    with_reducible rfl
                  rotate_left
                  · simp only [Act.put, List.setIfInBounds_toArray, List.set_cons_zero, List.set_cons_succ, i64_w, i32_w]
                    rfl
                  refine pure_ (i := 1) (N := some 34) (v := ?_) (a' := ?_) #[true, true, false, false, false, false, false, false] rfl rfl (by kernel_rfl) (fun _ _ _ h => h) (Or.inl ⟨by rfl, ?_⟩) ?_ ?_
                  rotate_left
                  · intro w'
                    go_simp
                    with_reducible rfl
                  rotate_left
                  · simp only [Act.put, List.setIfInBounds_toArray, List.set_cons_zero, List.set_cons_succ, i64_w, i32_w]
                    rfl
                  refine pure_ (i := 4) (N := some 37) (v := ?_) (a' := ?_) #[true, true, false, false, true, false, false, false] rfl rfl (by kernel_rfl) (fun _ _ _ h => h) (Or.inl ⟨by rfl, ?_⟩) ?_ ?_
                  rotate_left
                  · intro w'
                    go_simp
                    with_reducible rfl
                  rotate_left
                  · simp only [Act.put, List.setIfInBounds_toArray, List.set_cons_zero, List.set_cons_succ, i64_w, i32_w]
                    rfl
                  refine take_ (i := 2) (N := some 35) (v := ?_) (a' := ?_) #[true, true, true, false, true, false, false, false] rfl rfl (by kernel_rfl) (fun _ _ _ h => h) (Or.inl ⟨by rfl, ?_⟩) hHeld ?_ ?_
                  rotate_left
                  · rintro w' ⟨s0, s1⟩
                    go_simp
                    with_reducible rfl
                  rotate_left
                  · simp only [Act.put, List.setIfInBounds_toArray, List.set_cons_zero, List.set_cons_succ, i64_w, i32_w]
                    rfl
                  refine take_ (i := 5) (N := some 38) (v := ?_) (a' := ?_) #[true, true, true, false, true, true, false, false] rfl rfl (by kernel_rfl) (fun _ _ _ h => h) (Or.inl ⟨by rfl, ?_⟩) hHeld ?_ ?_
                  rotate_left
                  · rintro w' ⟨s0, s1⟩
                    go_simp
                    with_reducible rfl
                  rotate_left
                  · simp only [Act.put, List.setIfInBounds_toArray, List.set_cons_zero, List.set_cons_succ, i64_w, i32_w]
                    rfl
                  refine one_ (i := 3) (N := some 36) #[true, true, true, true, true, true, false, false] rfl rfl (by kernel_rfl) (by decide) (fun K hK => ?_)
                  refine goes_ Try.func70 (by kernel_rfl) rfl #[v7, .int .i64 (rd_T50 l0 x).f1] (by rfl) rfl rfl (by simp only [List.map_toArray, List.map_cons, List.map_nil]; rfl) ?_
                  with_reducible refine (spec_l1Rise.calls w.heap.size v7 nx (rd_T50 l0 x).f1 _ (below_drew1 BW.out).size HL1.out (Kd.R_drew HN.out)).mono ?_
                  rintro e w3 ⟨v_w3, rfl, hv, hb⟩
                  refine ⟨_, rfl, ?_⟩
                  have HN_w3 := Aside0.mk hv
                  have BW_w3 := Aside0.mk (below_step (below_drew1 BW.out) hb)
                  have BX_w3 := Aside0.mk (Boxes.below (w0 := wr) (bs := [(g9, #[.int .i64 (rd_T50 l0 x).f0, .int .i64 (rd_T50 l0 x).f1, .int .i64 (rd_T50 l0 x).f2, .int .i64 (rd_T50 l0 x).f3], 50)]) (Boxes.drew BX.out) hb)
                  clear hv hb
                  have HN_w3' : Aside0 (Kd.R (Kd.int .i64) 2 w3 w.heap.size (fun _ => True) v_w3 y1) := ⟨HY1.out ▸ HN_w3.out⟩
                  refine hK.out _ _ ⟨(BX_w3.out.cell (i := 0) rfl (j := 1) rfl), (BX_w3.out.cell (i := 0) rfl (j := 2) rfl)⟩ (fun hHeld => ?_)
                  clear hK K
                  refine norm_ (a' := ?_) ?_ ?_
                  rotate_left
                  · show Act.put _ (some 36) _ = _
                    simp only [Act.put, List.setIfInBounds_toArray, List.set_cons_zero, List.set_cons_succ, i64_w, i32_w]
                    rfl
                  refine one_ (i := 6) (N := some 39) #[true, true, true, true, true, true, true, false] rfl rfl (by kernel_rfl) (by decide) (fun K hK => ?_)
                  refine goes_ Try.func70 (by kernel_rfl) rfl #[v_w3, .int .i64 (rd_T50 l0 x).f2] (by rfl) rfl rfl (by simp only [List.map_toArray, List.map_cons, List.map_nil]; rfl) ?_
                  with_reducible refine (spec_l1Rise.calls w.heap.size v_w3 y1 (rd_T50 l0 x).f2 _ BW_w3.out.size HL2.out HN_w3'.out).mono ?_
                  rintro e w6 ⟨v_w6, rfl, hv, hb⟩
                  refine ⟨_, rfl, ?_⟩
                  have HN_w6 := Aside0.mk hv
                  have BW_w6 := Aside0.mk (below_step BW_w3.out hb)
                  have BX_w6 := Aside0.mk (Boxes.below (w0 := wr) (bs := [(g9, #[.int .i64 (rd_T50 l0 x).f0, .int .i64 (rd_T50 l0 x).f1, .int .i64 (rd_T50 l0 x).f2, .int .i64 (rd_T50 l0 x).f3], 50)]) BX_w3.out hb)
                  clear hv hb
                  refine hK.out _ _ ⟨(BX_w6.out.cell (i := 0) rfl (j := 1) rfl), (BX_w6.out.cell (i := 0) rfl (j := 2) rfl)⟩ (fun hHeld => ?_)
                  clear hK K
                  refine norm_ (a' := ?_) ?_ ?_
                  rotate_left
                  · show Act.put _ (some 39) _ = _
                    simp only [Act.put, List.setIfInBounds_toArray, List.set_cons_zero, List.set_cons_succ, i64_w, i32_w]
                    rfl
                  refine pure_ (i := 7) (N := some 7) (v := ?_) (a' := ?_) #[true, true, true, true, true, true, true, true] rfl rfl (by kernel_rfl) (fun _ _ _ h => h) (Or.inl ⟨by rfl, ?_⟩) ?_ ?_
                  rotate_left
                  · intro w'
                    go_simp
                    with_reducible rfl
                  rotate_left
                  · simp only [Act.put, List.setIfInBounds_toArray, List.set_cons_zero, List.set_cons_succ, i64_w, i32_w]
                    rfl
                  refine done_ (by kernel_rfl) ?_
                  have q9_0 : World.cell? w6 ⟨g9, 0, none⟩ = some (.int .i64 (rd_T50 l0 x).f0) := BX_w6.out.cell (i := 0) rfl (j := 0) rfl; have q9_1 : World.cell? w6 ⟨g9, 1, none⟩ = some (.int .i64 (rd_T50 l0 x).f1) := BX_w6.out.cell (i := 0) rfl (j := 1) rfl; have q9_2 : World.cell? w6 ⟨g9, 2, none⟩ = some (.int .i64 (rd_T50 l0 x).f2) := BX_w6.out.cell (i := 0) rfl (j := 2) rfl; have q9_3 : World.cell? w6 ⟨g9, 3, none⟩ = some (.int .i64 (rd_T50 l0 x).f3) := BX_w6.out.cell (i := 0) rfl (j := 3) rfl
                  go_wp2
                  go_roundg (o.length - (kk + 1))
                  case measure => omega
                  case rel => exact ⟨kk + 1, v_w6, y, by omega, by omega, rfl, by go_num, ⟨BW_w6.out⟩, ⟨Kd.R_below HO.out (Boxes.low (w0 := wr) (bs := [(g9, #[.int .i64 (rd_T50 l0 x).f0, .int .i64 (rd_T50 l0 x).f1, .int .i64 (rd_T50 l0 x).f2, .int .i64 (rd_T50 l0 x).f3], 50)]) BX_w6.out)⟩, ⟨Kd.R_below HCA.out (Boxes.low (w0 := wr) (bs := [(g9, #[.int .i64 (rd_T50 l0 x).f0, .int .i64 (rd_T50 l0 x).f1, .int .i64 (rd_T50 l0 x).f2, .int .i64 (rd_T50 l0 x).f3], 50)]) BX_w6.out)⟩, ⟨by rw [← HY.out]; exact HN_w6.out⟩, ⟨HN2.out⟩⟩
                · rw [if_neg hb3] at hy
                  exact absurd hy (by simp)
              · rw [if_neg h3] at hy
                have hq3 : ((rd_T50 l0 x).f0 == 3) = false := by simpa using h3
                by_cases h5 : (rd_T50 l0 x).f0 = 5
                · rw [if_pos h5] at hy
                  by_cases hb5 : 0 ≤ (rd_T50 l0 x).f1 ∧ (rd_T50 l0 x).f1 < (can.length : Int) ∧ nx.length ≤ 1000000
                  · rw [if_pos hb5] at hy
                    have HL1 := Aside0.mk hb5.2.2
                    have hj1 := hb5.1
                    have hj2 := hb5.2.1
                    have hq5 : ((rd_T50 l0 x).f0 == 5) = true := by rw [h5]; rfl
                    obtain ⟨ad6, e, hz0⟩ := Kd.at_bool (Kd.R_reads' HCA.out).2.2 (rd_T50 l0 x).f1 hj1 hj2
                    cases e
                    by_cases hz : rdOf false can (rd_T50 l0 x).f1 = true
                    · rw [if_pos hz] at hy
                      have HY := Aside0.mk (Option.some.inj hy)
                      rw [hz] at hz0
                      clear hb5 hy h3 h5 hz
                      go_wp2_with (first | ((with_reducible refine gate_dst (N := 9) rfl ?_); refine box_event ?hg (N := 9) ?hd (cs := #[.int .i64 0, .int .i64 0, .int .i64 0, .int .i64 0]) (t := 50) ?hr ?_; (case hd => rfl); (case hg => rfl); (case hr => first | (go_simp; done) | (go_simp; rfl)); intro g9 hg w9_ hbox hb; have BY := Aside0.mk (Boxes.new (w0 := wr) (bs := []) (by (with_reducible repeat (first | refine Boxes.drewN ?_ _ | refine Boxes.drew ?_ | refine Boxes.alloc ?_ _)); exact BX.out) hg hbox hb); clear BX hb hbox hg; have BX := BY; clear BY; have q9_0 : World.cell? _ ⟨g9, 0, none⟩ = some (.int .i64 0) := BX.out.cell (i := 0) rfl (j := 0) rfl; have q9_1 : World.cell? _ ⟨g9, 1, none⟩ = some (.int .i64 0) := BX.out.cell (i := 0) rfl (j := 1) rfl; have q9_2 : World.cell? _ ⟨g9, 2, none⟩ = some (.int .i64 0) := BX.out.cell (i := 0) rfl (j := 2) rfl; have q9_3 : World.cell? _ ⟨g9, 3, none⟩ = some (.int .i64 0) := BX.out.cell (i := 0) rfl (j := 3) rfl; have f9_0 : World.frozen? _ ⟨g9, 0, none⟩ = false := BX.out.frozen (i := 0) rfl 0; have f9_1 : World.frozen? _ ⟨g9, 1, none⟩ = false := BX.out.frozen (i := 0) rfl 1; have f9_2 : World.frozen? _ ⟨g9, 2, none⟩ = false := BX.out.frozen (i := 0) rfl 2; have f9_3 : World.frozen? _ ⟨g9, 3, none⟩ = false := BX.out.frozen (i := 0) rfl 3) | ((with_reducible refine gate_store (t := 50) (p := 9) rfl ?_); refine boxes_store (w0 := wr) (bs := [(g9, #[.int .i64 (rd_T50 l0 x).f0, .int .i64 (rd_T50 l0 x).f1, .int .i64 (rd_T50 l0 x).f2, .int .i64 (rd_T50 l0 x).f3], 50)]) (W1 := (((World.setCell w9_ ⟨g9, 0, none⟩ (.int .i64 (rd_T50 l0 x).f0)).setCell ⟨g9, 1, none⟩ (.int .i64 (rd_T50 l0 x).f1)).setCell ⟨g9, 2, none⟩ (.int .i64 (rd_T50 l0 x).f2)).setCell ⟨g9, 3, none⟩ (.int .i64 (rd_T50 l0 x).f3)) rfl rfl rfl ?hr ((((Boxes.put (w0 := wr) (b1 := []) (b2 := []) BX.out 0 (.int .i64 (rd_T50 l0 x).f0)).put (b1 := []) 1 (.int .i64 (rd_T50 l0 x).f1)).put (b1 := []) 2 (.int .i64 (rd_T50 l0 x).f2)).put (b1 := []) 3 (.int .i64 (rd_T50 l0 x).f3)) ?_; (case hr => first | (go_simp; done) | (go_simp; rfl)); intro w10_ BY; have BY := Aside0.mk BY; clear BX; have BX := BY; clear BY; clear q9_0 q9_1 q9_2 q9_3 f9_0 f9_1 f9_2 f9_3; have q9_0 : World.cell? w10_ ⟨g9, 0, none⟩ = some (.int .i64 (rd_T50 l0 x).f0) := BX.out.cell (i := 0) rfl (j := 0) rfl; have q9_1 : World.cell? w10_ ⟨g9, 1, none⟩ = some (.int .i64 (rd_T50 l0 x).f1) := BX.out.cell (i := 0) rfl (j := 1) rfl; have q9_2 : World.cell? w10_ ⟨g9, 2, none⟩ = some (.int .i64 (rd_T50 l0 x).f2) := BX.out.cell (i := 0) rfl (j := 2) rfl; have q9_3 : World.cell? w10_ ⟨g9, 3, none⟩ = some (.int .i64 (rd_T50 l0 x).f3) := BX.out.cell (i := 0) rfl (j := 3) rfl; have hz1 : World.cell? w10_ _ = _ := ((Boxes.low (w0 := wr) (bs := [(g9, #[.int .i64 (rd_T50 l0 x).f0, .int .i64 (rd_T50 l0 x).f1, .int .i64 (rd_T50 l0 x).f2, .int .i64 (rd_T50 l0 x).f3], 50)]) BX.out).cell (World.block_lt_of_cell? wr _ hz0)).trans hz0) | (go_at_call 70; (with_reducible refine (spec_l1Rise.calls w.heap.size _ nx _ _ (below_step BW.out (Boxes.low (w0 := wr) (bs := [(g9, #[.int .i64 (rd_T50 l0 x).f0, .int .i64 (rd_T50 l0 x).f1, .int .i64 (rd_T50 l0 x).f2, .int .i64 (rd_T50 l0 x).f3], 50)]) (by (with_reducible repeat (first | refine Boxes.drewN ?_ _ | refine Boxes.drew ?_ | refine Boxes.alloc ?_ _)); exact BX.out))).size HL1.out (Kd.R_below HN.out (Boxes.low (w0 := wr) (bs := [(g9, #[.int .i64 (rd_T50 l0 x).f0, .int .i64 (rd_T50 l0 x).f1, .int .i64 (rd_T50 l0 x).f2, .int .i64 (rd_T50 l0 x).f3], 50)]) (by (with_reducible repeat (first | refine Boxes.drewN ?_ _ | refine Boxes.drew ?_ | refine Boxes.alloc ?_ _)); exact BX.out)))).mono ?_); rintro e w6 ⟨v_w6, rfl, hv, hb⟩; have HN6 := Aside0.mk hv; have BX6 := Aside0.mk (Boxes.below (w0 := wr) (bs := [(g9, #[.int .i64 (rd_T50 l0 x).f0, .int .i64 (rd_T50 l0 x).f1, .int .i64 (rd_T50 l0 x).f2, .int .i64 (rd_T50 l0 x).f3], 50)]) (by (with_reducible repeat (first | refine Boxes.drewN ?_ _ | refine Boxes.drew ?_ | refine Boxes.alloc ?_ _)); exact BX.out) hb); clear hv hb) | fail)
                      go_roundg (o.length - (kk + 1))
                      case measure => omega
                      case rel => exact ⟨kk + 1, v_w6, y, by omega, by omega, rfl, by go_num, ⟨below_step BW.out (Boxes.low (w0 := wr) (bs := [(g9, #[.int .i64 (rd_T50 l0 x).f0, .int .i64 (rd_T50 l0 x).f1, .int .i64 (rd_T50 l0 x).f2, .int .i64 (rd_T50 l0 x).f3], 50)]) BX6.out)⟩, ⟨Kd.R_below HO.out (Boxes.low (w0 := wr) (bs := [(g9, #[.int .i64 (rd_T50 l0 x).f0, .int .i64 (rd_T50 l0 x).f1, .int .i64 (rd_T50 l0 x).f2, .int .i64 (rd_T50 l0 x).f3], 50)]) BX6.out)⟩, ⟨Kd.R_below HCA.out (Boxes.low (w0 := wr) (bs := [(g9, #[.int .i64 (rd_T50 l0 x).f0, .int .i64 (rd_T50 l0 x).f1, .int .i64 (rd_T50 l0 x).f2, .int .i64 (rd_T50 l0 x).f3], 50)]) BX6.out)⟩, ⟨by rw [← HY.out]; exact HN6.out⟩, ⟨HN2.out⟩⟩
                    · rw [if_neg hz] at hy
                      have HY := Aside0.mk (Option.some.inj hy)
                      rw [show rdOf false can (rd_T50 l0 x).f1 = false by simpa using hz] at hz0
                      clear hb5 hy h3 h5 hz
                      go_wp2_with (first | ((with_reducible refine gate_dst (N := 9) rfl ?_); refine box_event ?hg (N := 9) ?hd (cs := #[.int .i64 0, .int .i64 0, .int .i64 0, .int .i64 0]) (t := 50) ?hr ?_; (case hd => rfl); (case hg => rfl); (case hr => first | (go_simp; done) | (go_simp; rfl)); intro g9 hg w9_ hbox hb; have BY := Aside0.mk (Boxes.new (w0 := wr) (bs := []) (by (with_reducible repeat (first | refine Boxes.drewN ?_ _ | refine Boxes.drew ?_ | refine Boxes.alloc ?_ _)); exact BX.out) hg hbox hb); clear BX hb hbox hg; have BX := BY; clear BY; have q9_0 : World.cell? _ ⟨g9, 0, none⟩ = some (.int .i64 0) := BX.out.cell (i := 0) rfl (j := 0) rfl; have q9_1 : World.cell? _ ⟨g9, 1, none⟩ = some (.int .i64 0) := BX.out.cell (i := 0) rfl (j := 1) rfl; have q9_2 : World.cell? _ ⟨g9, 2, none⟩ = some (.int .i64 0) := BX.out.cell (i := 0) rfl (j := 2) rfl; have q9_3 : World.cell? _ ⟨g9, 3, none⟩ = some (.int .i64 0) := BX.out.cell (i := 0) rfl (j := 3) rfl; have f9_0 : World.frozen? _ ⟨g9, 0, none⟩ = false := BX.out.frozen (i := 0) rfl 0; have f9_1 : World.frozen? _ ⟨g9, 1, none⟩ = false := BX.out.frozen (i := 0) rfl 1; have f9_2 : World.frozen? _ ⟨g9, 2, none⟩ = false := BX.out.frozen (i := 0) rfl 2; have f9_3 : World.frozen? _ ⟨g9, 3, none⟩ = false := BX.out.frozen (i := 0) rfl 3) | ((with_reducible refine gate_store (t := 50) (p := 9) rfl ?_); refine boxes_store (w0 := wr) (bs := [(g9, #[.int .i64 (rd_T50 l0 x).f0, .int .i64 (rd_T50 l0 x).f1, .int .i64 (rd_T50 l0 x).f2, .int .i64 (rd_T50 l0 x).f3], 50)]) (W1 := (((World.setCell w9_ ⟨g9, 0, none⟩ (.int .i64 (rd_T50 l0 x).f0)).setCell ⟨g9, 1, none⟩ (.int .i64 (rd_T50 l0 x).f1)).setCell ⟨g9, 2, none⟩ (.int .i64 (rd_T50 l0 x).f2)).setCell ⟨g9, 3, none⟩ (.int .i64 (rd_T50 l0 x).f3)) rfl rfl rfl ?hr ((((Boxes.put (w0 := wr) (b1 := []) (b2 := []) BX.out 0 (.int .i64 (rd_T50 l0 x).f0)).put (b1 := []) 1 (.int .i64 (rd_T50 l0 x).f1)).put (b1 := []) 2 (.int .i64 (rd_T50 l0 x).f2)).put (b1 := []) 3 (.int .i64 (rd_T50 l0 x).f3)) ?_; (case hr => first | (go_simp; done) | (go_simp; rfl)); intro w10_ BY; have BY := Aside0.mk BY; clear BX; have BX := BY; clear BY; clear q9_0 q9_1 q9_2 q9_3 f9_0 f9_1 f9_2 f9_3; have q9_0 : World.cell? w10_ ⟨g9, 0, none⟩ = some (.int .i64 (rd_T50 l0 x).f0) := BX.out.cell (i := 0) rfl (j := 0) rfl; have q9_1 : World.cell? w10_ ⟨g9, 1, none⟩ = some (.int .i64 (rd_T50 l0 x).f1) := BX.out.cell (i := 0) rfl (j := 1) rfl; have q9_2 : World.cell? w10_ ⟨g9, 2, none⟩ = some (.int .i64 (rd_T50 l0 x).f2) := BX.out.cell (i := 0) rfl (j := 2) rfl; have q9_3 : World.cell? w10_ ⟨g9, 3, none⟩ = some (.int .i64 (rd_T50 l0 x).f3) := BX.out.cell (i := 0) rfl (j := 3) rfl; have hz1 : World.cell? w10_ _ = _ := ((Boxes.low (w0 := wr) (bs := [(g9, #[.int .i64 (rd_T50 l0 x).f0, .int .i64 (rd_T50 l0 x).f1, .int .i64 (rd_T50 l0 x).f2, .int .i64 (rd_T50 l0 x).f3], 50)]) BX.out).cell (World.block_lt_of_cell? wr _ hz0)).trans hz0) | fail)
                      go_roundg (o.length - (kk + 1))
                      case measure => omega
                      case rel => exact ⟨kk + 1, v7, y, by omega, by omega, rfl, by go_num, ⟨below_step BW.out (Boxes.low (w0 := wr) (bs := [(g9, #[.int .i64 (rd_T50 l0 x).f0, .int .i64 (rd_T50 l0 x).f1, .int .i64 (rd_T50 l0 x).f2, .int .i64 (rd_T50 l0 x).f3], 50)]) (by (with_reducible repeat (first | refine Boxes.drewN ?_ _ | refine Boxes.drew ?_ | refine Boxes.alloc ?_ _)); exact BX.out))⟩, ⟨Kd.R_below HO.out (Boxes.low (w0 := wr) (bs := [(g9, #[.int .i64 (rd_T50 l0 x).f0, .int .i64 (rd_T50 l0 x).f1, .int .i64 (rd_T50 l0 x).f2, .int .i64 (rd_T50 l0 x).f3], 50)]) (by (with_reducible repeat (first | refine Boxes.drewN ?_ _ | refine Boxes.drew ?_ | refine Boxes.alloc ?_ _)); exact BX.out))⟩, ⟨Kd.R_below HCA.out (Boxes.low (w0 := wr) (bs := [(g9, #[.int .i64 (rd_T50 l0 x).f0, .int .i64 (rd_T50 l0 x).f1, .int .i64 (rd_T50 l0 x).f2, .int .i64 (rd_T50 l0 x).f3], 50)]) (by (with_reducible repeat (first | refine Boxes.drewN ?_ _ | refine Boxes.drew ?_ | refine Boxes.alloc ?_ _)); exact BX.out))⟩, ⟨by rw [← HY.out]; exact Kd.R_below HN.out (Boxes.low (w0 := wr) (bs := [(g9, #[.int .i64 (rd_T50 l0 x).f0, .int .i64 (rd_T50 l0 x).f1, .int .i64 (rd_T50 l0 x).f2, .int .i64 (rd_T50 l0 x).f3], 50)]) (by (with_reducible repeat (first | refine Boxes.drewN ?_ _ | refine Boxes.drew ?_ | refine Boxes.alloc ?_ _)); exact BX.out))⟩, ⟨HN2.out⟩⟩
                  · rw [if_neg hb5] at hy
                    exact absurd hy (by simp)
                · rw [if_neg h5] at hy
                  have HY := Aside0.mk (Option.some.inj hy)
                  have hq5 : ((rd_T50 l0 x).f0 == 5) = false := by simpa using h5
                  clear hy h3 h5
                  go_wp2_with (first | ((with_reducible refine gate_dst (N := 9) rfl ?_); refine box_event ?hg (N := 9) ?hd (cs := #[.int .i64 0, .int .i64 0, .int .i64 0, .int .i64 0]) (t := 50) ?hr ?_; (case hd => rfl); (case hg => rfl); (case hr => first | (go_simp; done) | (go_simp; rfl)); intro g9 hg w9_ hbox hb; have BY := Aside0.mk (Boxes.new (w0 := wr) (bs := []) (by (with_reducible repeat (first | refine Boxes.drewN ?_ _ | refine Boxes.drew ?_ | refine Boxes.alloc ?_ _)); exact BX.out) hg hbox hb); clear BX hb hbox hg; have BX := BY; clear BY; have q9_0 : World.cell? _ ⟨g9, 0, none⟩ = some (.int .i64 0) := BX.out.cell (i := 0) rfl (j := 0) rfl; have q9_1 : World.cell? _ ⟨g9, 1, none⟩ = some (.int .i64 0) := BX.out.cell (i := 0) rfl (j := 1) rfl; have q9_2 : World.cell? _ ⟨g9, 2, none⟩ = some (.int .i64 0) := BX.out.cell (i := 0) rfl (j := 2) rfl; have q9_3 : World.cell? _ ⟨g9, 3, none⟩ = some (.int .i64 0) := BX.out.cell (i := 0) rfl (j := 3) rfl; have f9_0 : World.frozen? _ ⟨g9, 0, none⟩ = false := BX.out.frozen (i := 0) rfl 0; have f9_1 : World.frozen? _ ⟨g9, 1, none⟩ = false := BX.out.frozen (i := 0) rfl 1; have f9_2 : World.frozen? _ ⟨g9, 2, none⟩ = false := BX.out.frozen (i := 0) rfl 2; have f9_3 : World.frozen? _ ⟨g9, 3, none⟩ = false := BX.out.frozen (i := 0) rfl 3) | ((with_reducible refine gate_store (t := 50) (p := 9) rfl ?_); refine boxes_store (w0 := wr) (bs := [(g9, #[.int .i64 (rd_T50 l0 x).f0, .int .i64 (rd_T50 l0 x).f1, .int .i64 (rd_T50 l0 x).f2, .int .i64 (rd_T50 l0 x).f3], 50)]) (W1 := (((World.setCell w9_ ⟨g9, 0, none⟩ (.int .i64 (rd_T50 l0 x).f0)).setCell ⟨g9, 1, none⟩ (.int .i64 (rd_T50 l0 x).f1)).setCell ⟨g9, 2, none⟩ (.int .i64 (rd_T50 l0 x).f2)).setCell ⟨g9, 3, none⟩ (.int .i64 (rd_T50 l0 x).f3)) rfl rfl rfl ?hr ((((Boxes.put (w0 := wr) (b1 := []) (b2 := []) BX.out 0 (.int .i64 (rd_T50 l0 x).f0)).put (b1 := []) 1 (.int .i64 (rd_T50 l0 x).f1)).put (b1 := []) 2 (.int .i64 (rd_T50 l0 x).f2)).put (b1 := []) 3 (.int .i64 (rd_T50 l0 x).f3)) ?_; (case hr => first | (go_simp; done) | (go_simp; rfl)); intro w10_ BY; have BY := Aside0.mk BY; clear BX; have BX := BY; clear BY; clear q9_0 q9_1 q9_2 q9_3 f9_0 f9_1 f9_2 f9_3; have q9_0 : World.cell? w10_ ⟨g9, 0, none⟩ = some (.int .i64 (rd_T50 l0 x).f0) := BX.out.cell (i := 0) rfl (j := 0) rfl; have q9_1 : World.cell? w10_ ⟨g9, 1, none⟩ = some (.int .i64 (rd_T50 l0 x).f1) := BX.out.cell (i := 0) rfl (j := 1) rfl; have q9_2 : World.cell? w10_ ⟨g9, 2, none⟩ = some (.int .i64 (rd_T50 l0 x).f2) := BX.out.cell (i := 0) rfl (j := 2) rfl; have q9_3 : World.cell? w10_ ⟨g9, 3, none⟩ = some (.int .i64 (rd_T50 l0 x).f3) := BX.out.cell (i := 0) rfl (j := 3) rfl) | fail)
                  go_roundg (o.length - (kk + 1))
                  case measure => omega
                  case rel => exact ⟨kk + 1, v7, y, by omega, by omega, rfl, by go_num, ⟨below_step BW.out (Boxes.low (w0 := wr) (bs := [(g9, #[.int .i64 (rd_T50 l0 x).f0, .int .i64 (rd_T50 l0 x).f1, .int .i64 (rd_T50 l0 x).f2, .int .i64 (rd_T50 l0 x).f3], 50)]) (by (with_reducible repeat (first | refine Boxes.drewN ?_ _ | refine Boxes.drew ?_ | refine Boxes.alloc ?_ _)); exact BX.out))⟩, ⟨Kd.R_below HO.out (Boxes.low (w0 := wr) (bs := [(g9, #[.int .i64 (rd_T50 l0 x).f0, .int .i64 (rd_T50 l0 x).f1, .int .i64 (rd_T50 l0 x).f2, .int .i64 (rd_T50 l0 x).f3], 50)]) (by (with_reducible repeat (first | refine Boxes.drewN ?_ _ | refine Boxes.drew ?_ | refine Boxes.alloc ?_ _)); exact BX.out))⟩, ⟨Kd.R_below HCA.out (Boxes.low (w0 := wr) (bs := [(g9, #[.int .i64 (rd_T50 l0 x).f0, .int .i64 (rd_T50 l0 x).f1, .int .i64 (rd_T50 l0 x).f2, .int .i64 (rd_T50 l0 x).f3], 50)]) (by (with_reducible repeat (first | refine Boxes.drewN ?_ _ | refine Boxes.drew ?_ | refine Boxes.alloc ?_ _)); exact BX.out))⟩, ⟨by rw [← HY.out]; exact Kd.R_below HN.out (Boxes.low (w0 := wr) (bs := [(g9, #[.int .i64 (rd_T50 l0 x).f0, .int .i64 (rd_T50 l0 x).f1, .int .i64 (rd_T50 l0 x).f2, .int .i64 (rd_T50 l0 x).f3], 50)]) (by (with_reducible repeat (first | refine Boxes.drewN ?_ _ | refine Boxes.drew ?_ | refine Boxes.alloc ?_ _)); exact BX.out))⟩, ⟨HN2.out⟩⟩
            · rw [if_neg hxr] at hy
              exact absurd hy (by simp)
          · have hke : kk = o.length := by omega
            have hltz : ¬ (kk : Int) < (o.length : Int) := by omega
            have hnf : nx = nf := by
              have := H.out
              rw [hke, List.drop_length, innO] at this
              exact Option.some.inj this
            subst hnf
            obtain ⟨A7, c7, e7⟩ := Kd.R_slice HN.out
            subst e7
            have hF := HF.out
            by_cases heq : nx.length = o.length
            · rw [if_pos heq] at hF
              have HR := Aside0.mk (Option.some.inj hF)
              have hq : ((nx.length : Int) == (o.length : Int)) = true := by rw [heq]; exact beq_self_eq_true _
              clear hF H HF hke
              go_wp2
              go_ret
              exact ⟨_, rfl, by rw [← HR.out]; exact HO.out, BW.out⟩
            · rw [if_neg heq] at hF
              have HR := Aside0.mk hF
              have hq : ((nx.length : Int) == (o.length : Int)) = false := by simp; omega
              clear hF H HF hke
              go_wp2
              go_roundg kf
              case measure => omega
              case rel => exact ⟨kf, nx, _, Nat.le_refl _, rfl, BW, HN, HR⟩
  · rw [if_neg hL] at h
    exact absurd h (by simp)

/-! ### spec_OpenAll: function 21 -/
def spec_OpenAll.f (k : Nat) (l0 : List (S50)) (l1 : List Int) : Option (Int × List Int) := (spec_KnownFault.f k l0 l1).bind fun t191 => (if t191 = 0 then ((spec_l6Open.f k l0 l1).bind fun t192 => (some (0, t192))) else (some (t191, ([] : List Int))))
theorem spec_OpenAll.mono : ∀ a0 a1 k, LeO (spec_OpenAll.f k a0 a1) (spec_OpenAll.f (k + 1) a0 a1) := by
 intro a0 a1 k
 unfold spec_OpenAll.f
 repeat' first
   | (with_reducible exact spec_KnownFault.mono _ _ _)
   | (with_reducible exact spec_l6Open.mono _ _ _)
   | (with_reducible exact LeO.refl _)
   | (with_reducible exact LeO.none _)
   | (with_reducible refine LeO.ite ?_ ?_)
   | (with_reducible refine LeO.bind ?_ (fun _ => ?_))
   | exact spec_KnownFault.mono _ _ _
   | exact spec_l6Open.mono _ _ _
   | exact LeO.none _
   | refine LeO.ite ?_ ?_
   | refine LeO.bind ?_ (fun _ => ?_)
set_option maxHeartbeats 8000000 in
set_option maxRecDepth 100000 in
theorem spec_OpenAll.calls (k : Nat) (A0 : Option Addr) (c0 : Nat) (l0 : List (S50)) (A1 : Option Addr) (c1 : Nat) (l1 : List Int) (r1 : Int) (r2 : List Int) (w : World) (hr0 : Kd.C k50 w A0 l0.length l0) (hc0 : l0.length ≤ c0) (hr1 : Kd.C (Kd.int .i64) w A1 l1.length l1) (hc1 : l1.length ≤ c1) (h : spec_OpenAll.f k l0 l1 = some (r1, r2)) :
  Calls Try.prog 21 #[.slice A0 l0.length c0, .slice A1 l1.length c1] w fun e w' => ∃ v1_ : Value, e = .returned (.agg #[.int .i64 r1, v1_]) ∧ Kd.R (Kd.int .i64) 2 w' w.heap.size (fun _ => True) v1_ r2 ∧ Below w.heap.size w w' := by
 have hu35 := Try.underlying35
 have HR0 := Aside0.mk hr0
 have HC0 := Aside0.mk hc0
 clear hr0 hc0
 have HR1 := Aside0.mk hr1
 have HC1 := Aside0.mk hc1
 clear hr1 hc1
 have HB := Aside0.mk (Below.refl w.heap.size w)
 have H : ((spec_KnownFault.f k l0 l1).bind fun t191 => (if t191 = 0 then ((spec_l6Open.f k l0 l1).bind fun t192 => (some (0, t192))) else (some (t191, ([] : List Int))))) = some (r1, r2) := h
 clear h
 replace H := Option.bind_eq_some_iff.mp H
 obtain ⟨t191, A30, H⟩ := H
 replace H : (if t191 = 0 then ((spec_l6Open.f k l0 l1).bind fun t192 => (some (0, t192))) else (some (t191, ([] : List Int)))) = some (r1, r2) := H
 have A3 := Aside0.mk A30
 clear A30
 by_cases c4 : t191 = 0
 ·
  rw [if_pos c4] at H
  have c4b0 : (t191 == 0) = true := beq_iff_eq.mpr c4
  have c4b1 : (t191 != 0) = false := bne_eq_false_iff_eq.mpr c4
  clear c4
  replace H := Option.bind_eq_some_iff.mp H
  obtain ⟨t192, A50, H⟩ := H
  replace H : (some (0, t192)) = some (r1, r2) := H
  have A5 := Aside0.mk A50
  clear A50
  simp only [Option.some.injEq, Prod.mk.injEq] at H
  obtain ⟨rfl, rfl⟩ := H
  go_enter Try.func21, Try.ntmps21
  go_wp2_with (first | ((with_reducible refine gate_dst (N := 4) rfl ?_); refine box_event ?hg (N := 4) ?hd (cs := #[.int .i64 0, .slice none 0 0]) (t := 35) ?hr ?_; (case hd => rfl); (case hg => rfl); (case hr => first | (go_simp; done) | (go_simp; rfl)); intro gb190 hg w6 hbox hb; have n0_ := Aside0.mk (below_step (by repeat (first | (with_reducible first | exact HB.out | apply below_alloc | apply pw_below_drewN | apply below_drew1) | exact HB.out)) hb); have n1_ := Aside0.mk (hbox); have n2_ := Aside0.mk ((by rw [hg]; exact (below_size (by repeat (first | (with_reducible first | exact HB.out | apply below_alloc | apply pw_below_drewN | apply below_drew1) | exact HB.out))) : w.heap.size ≤ gb190)); have n3_ := Aside0.mk ((by rw [hg]; exact (below_size (by repeat (first | (with_reducible first | exact HB.out | apply below_alloc | apply pw_below_drewN | apply below_drew1) | exact HB.out))) : w.heap.size ≤ gb190)); clear HB; have HB := n0_; have BK190 := n1_; have GW190 := n2_; have GE190 := n3_; clear n0_ n1_ n2_ n3_; clear hb hbox hg) | ((with_reducible refine gate_callee (f := 41) rfl ?_); refine goesL_ (some 8) rfl rfl Try.func41 (by kernel_rfl) rfl #[.slice A0 l0.length c0, .slice A1 l1.length c1] rfl (by (try simp only [List.map_toArray, List.map_cons, List.map_nil]); first | done | rfl | (simp only [List.length_drop, List.length_take]; rfl)) ?_; (with_reducible refine (spec_KnownFault.calls k _ _ l0 _ _ l1 t191 _ ?side1 ?side2 ?side3 ?side4 A3.out).mono ?_); (case side1 => repeat (first | exact (Kd.C_below HR0.out HB.out) | (with_reducible refine Kd.C_alloc ?_ _) | (with_reducible refine Kd.C_drewN ?_ _) | (with_reducible refine Kd.C_drew ?_))); (case side2 => exact HC0.out); (case side3 => repeat (first | exact (Kd.C_below HR1.out HB.out) | (with_reducible refine Kd.C_alloc ?_ _) | (with_reducible refine Kd.C_drewN ?_ _) | (with_reducible refine Kd.C_drew ?_))); (case side4 => exact HC1.out); rintro e w7 ⟨rfl, hb⟩; refine ⟨_, rfl, ?_⟩; have n0_ := Aside0.mk (blk_below_u BK190.out hb); have n1_ := Aside0.mk (below_step (by repeat (first | (with_reducible first | exact HB.out | apply below_alloc | apply pw_below_drewN | apply below_drew1 | refine below_set ?_ GE190.out) | exact HB.out)) hb); clear BK190; clear HB; have BK190 := n0_; have HB := n1_; clear n0_ n1_; (try clear hb); (try clear hb2); (try clear hk); (try clear hi)) | ((with_reducible refine gate_callee (f := 48) rfl ?_); refine goesL_ (some 15) rfl rfl Try.func48 (by kernel_rfl) rfl #[.slice A0 l0.length c0, .slice A1 l1.length c1] rfl (by (try simp only [List.map_toArray, List.map_cons, List.map_nil]); first | done | rfl | (simp only [List.length_drop, List.length_take]; rfl)) ?_; (with_reducible refine (spec_l6Open.calls k _ _ l0 _ _ l1 t192 _ ?side1 ?side2 ?side3 ?side4 A5.out).mono ?_); (case side1 => repeat (first | exact (Kd.C_below HR0.out HB.out) | (with_reducible refine Kd.C_alloc ?_ _) | (with_reducible refine Kd.C_drewN ?_ _) | (with_reducible refine Kd.C_drew ?_))); (case side2 => exact HC0.out); (case side3 => repeat (first | exact (Kd.C_below HR1.out HB.out) | (with_reducible refine Kd.C_alloc ?_ _) | (with_reducible refine Kd.C_drewN ?_ _) | (with_reducible refine Kd.C_drew ?_))); (case side4 => exact HC1.out); rintro e w8 ⟨v193, rfl, ho0, hb⟩; refine ⟨_, rfl, ?_⟩; have n0_ := Aside0.mk (Kd.R_lower ho0 (below_size (by repeat (first | (with_reducible first | exact HB.out | apply below_alloc | apply pw_below_drewN | apply below_drew1 | refine below_set ?_ GE190.out) | exact HB.out)))); have n1_ := Aside0.mk (blk_below_u BK190.out hb); have n2_ := Aside0.mk (below_step (by repeat (first | (with_reducible first | exact HB.out | apply below_alloc | apply pw_below_drewN | apply below_drew1 | refine below_set ?_ GE190.out) | exact HB.out)) hb); clear BK190; clear HB; have HO194 := n0_; have BK190 := n1_; have HB := n2_; clear n0_ n1_ n2_; (try clear hb); (try clear hb2); (try clear hk); (try clear hi); (try clear ho0); obtain ⟨Ao9, co9, eo9⟩ := Kd.R_slice HO194.out; subst eo9; have hcz10_0 : w8.cell? ⟨gb190, 0, none⟩ = some (.int .i64 0) := (blk_cell BK190.out 0).trans rfl; have hcz10_1 : w8.cell? ⟨gb190, 1, none⟩ = some (.slice none 0 0) := (blk_cell BK190.out 1).trans rfl; have hfz10_0 := blk_frozen BK190.out 0; have hfz10_1 := blk_frozen BK190.out 1))
  refine bodyPost_ret (results_cell_row rfl _ _ gb190 35 #[.int .i64 0, .slice Ao9 t192.length co9] (0, 0) _ rfl (by (with_reducible repeat (first | refine blk_drewN ?_ _ | refine blk_drew ?_ | refine blk_alloc ?_ _)); refine blk_put (cs := #[.int .i64 0, .slice none 0 0]) ?_ 1 _ rfl; (with_reducible repeat (first | refine blk_drewN ?_ _ | refine blk_drew ?_ | refine blk_alloc ?_ _)); refine blk_put (cs := #[.int .i64 0, .slice none 0 0]) ?_ 0 _ rfl; (with_reducible repeat (first | refine blk_drewN ?_ _ | refine blk_drew ?_ | refine blk_alloc ?_ _)); exact BK190.out) Try.underlying35 rfl (by kernel_rfl)) rfl ?_
  exact ⟨_, by first | rfl | (simp [errW_none, errW_some] <;> rfl) | (simp [*, errW_none, errW_some] <;> rfl), by (with_reducible repeat (first | apply Kd.R_alloc | apply Kd.R_drewN | apply Kd.R_drew)); exact Kd.R_mono (Kd.R_far (p := ⟨gb190, 1, none⟩) (Kd.R_far (p := ⟨gb190, 0, none⟩) (Kd.R_types HO194.out BK190.out (by decide)) (fun _ hk => hk.2) (.int .i64 0)) (fun _ hk => hk.2) (.slice Ao9 t192.length co9)) (fun _ hk => trivial), by repeat (first | (with_reducible first | exact HB.out | apply below_alloc | apply pw_below_drewN | apply below_drew1 | refine below_set ?_ GE190.out) | exact HB.out)⟩
 ·
  rw [if_neg c4] at H
  have c4b0 : (t191 == 0) = false := beq_eq_false_iff_ne.mpr c4
  have c4b1 : (t191 != 0) = true := bne_iff_ne.mpr c4
  simp only [Option.some.injEq, Prod.mk.injEq] at H
  obtain ⟨rfl, rfl⟩ := H
  go_enter Try.func21, Try.ntmps21
  go_wp2_with (first | ((with_reducible refine gate_dst (N := 4) rfl ?_); refine box_event ?hg (N := 4) ?hd (cs := #[.int .i64 0, .slice none 0 0]) (t := 35) ?hr ?_; (case hd => rfl); (case hg => rfl); (case hr => first | (go_simp; done) | (go_simp; rfl)); intro gb190 hg w11 hbox hb; have n0_ := Aside0.mk (below_step (by repeat (first | (with_reducible first | exact HB.out | apply below_alloc | apply pw_below_drewN | apply below_drew1) | exact HB.out)) hb); have n1_ := Aside0.mk (hbox); have n2_ := Aside0.mk ((by rw [hg]; exact (below_size (by repeat (first | (with_reducible first | exact HB.out | apply below_alloc | apply pw_below_drewN | apply below_drew1) | exact HB.out))) : w.heap.size ≤ gb190)); have n3_ := Aside0.mk ((by rw [hg]; exact (below_size (by repeat (first | (with_reducible first | exact HB.out | apply below_alloc | apply pw_below_drewN | apply below_drew1) | exact HB.out))) : w.heap.size ≤ gb190)); clear HB; have HB := n0_; have BK190 := n1_; have GW190 := n2_; have GE190 := n3_; clear n0_ n1_ n2_ n3_; clear hb hbox hg) | ((with_reducible refine gate_callee (f := 41) rfl ?_); refine goesL_ (some 8) rfl rfl Try.func41 (by kernel_rfl) rfl #[.slice A0 l0.length c0, .slice A1 l1.length c1] rfl (by (try simp only [List.map_toArray, List.map_cons, List.map_nil]); first | done | rfl | (simp only [List.length_drop, List.length_take]; rfl)) ?_; (with_reducible refine (spec_KnownFault.calls k _ _ l0 _ _ l1 t191 _ ?side1 ?side2 ?side3 ?side4 A3.out).mono ?_); (case side1 => repeat (first | exact (Kd.C_below HR0.out HB.out) | (with_reducible refine Kd.C_alloc ?_ _) | (with_reducible refine Kd.C_drewN ?_ _) | (with_reducible refine Kd.C_drew ?_))); (case side2 => exact HC0.out); (case side3 => repeat (first | exact (Kd.C_below HR1.out HB.out) | (with_reducible refine Kd.C_alloc ?_ _) | (with_reducible refine Kd.C_drewN ?_ _) | (with_reducible refine Kd.C_drew ?_))); (case side4 => exact HC1.out); rintro e w12 ⟨rfl, hb⟩; refine ⟨_, rfl, ?_⟩; have n0_ := Aside0.mk (blk_below_u BK190.out hb); have n1_ := Aside0.mk (below_step (by repeat (first | (with_reducible first | exact HB.out | apply below_alloc | apply pw_below_drewN | apply below_drew1 | refine below_set ?_ GE190.out) | exact HB.out)) hb); clear BK190; clear HB; have BK190 := n0_; have HB := n1_; clear n0_ n1_; (try clear hb); (try clear hb2); (try clear hk); (try clear hi); have hcz13_0 : w12.cell? ⟨gb190, 0, none⟩ = some (.int .i64 0) := (blk_cell BK190.out 0).trans rfl; have hcz13_1 : w12.cell? ⟨gb190, 1, none⟩ = some (.slice none 0 0) := (blk_cell BK190.out 1).trans rfl; have hfz13_0 := blk_frozen BK190.out 0; have hfz13_1 := blk_frozen BK190.out 1))
  refine bodyPost_ret (results_cell_row rfl _ _ gb190 35 #[.int .i64 t191, .slice none 0 0] (0, 0) _ rfl (by (with_reducible repeat (first | refine blk_drewN ?_ _ | refine blk_drew ?_ | refine blk_alloc ?_ _)); refine blk_put (cs := #[.int .i64 t191, .slice none 0 0]) ?_ 1 _ rfl; (with_reducible repeat (first | refine blk_drewN ?_ _ | refine blk_drew ?_ | refine blk_alloc ?_ _)); refine blk_put (cs := #[.int .i64 0, .slice none 0 0]) ?_ 0 _ rfl; (with_reducible repeat (first | refine blk_drewN ?_ _ | refine blk_drew ?_ | refine blk_alloc ?_ _)); exact BK190.out) Try.underlying35 rfl (by kernel_rfl)) rfl ?_
  exact ⟨_, by first | rfl | (simp [errW_none, errW_some] <;> rfl) | (simp [*, errW_none, errW_some] <;> rfl), by first | exact Kd.R_nil _ _ _ _ _ | exact Kd.N_nil _ _ _ _ _ | exact Kd.V_nil _ _ _ _ _ | exact Kd.Q_nil _ _ _ _ _ | exact Kd.S_nil _ _ _ _ _, by repeat (first | (with_reducible first | exact HB.out | apply below_alloc | apply pw_below_drewN | apply below_drew1 | refine below_set ?_ GE190.out) | exact HB.out)⟩

/-! ### impl_in: function 65 -/
def impl_in.f (a0 : Int) (a1 : Int) (a2 : Int) : Option (Bool) := if a0 ≥ a1 then (some (decide (a0 ≤ a2))) else (some false)
set_option maxHeartbeats 8000000 in
set_option maxRecDepth 100000 in
theorem impl_in.calls (a0 : Int) (a1 : Int) (a2 : Int) (r : Bool) (w : World) (h : impl_in.f a0 a1 a2 = some r) :
  Calls Try.prog 65 #[.int .i64 a0, .int .i64 a1, .int .i64 a2] w fun e w' => e = .returned (.bool r) ∧ Drawn0 w w' := by
 have H : (if a0 ≥ a1 then (some (decide (a0 ≤ a2))) else (some false)) = some r := h
 clear h
 by_cases c4 : a0 ≥ a1
 ·
  rw [if_pos c4] at H
  have c4b0 : decide (a1 ≤ a0) = true := decide_eq_true c4
  clear c4
  obtain rfl := Option.some.inj H
  go_enter Try.func65, Try.ntmps65
  go_wp2
  go_ret
  exact ⟨by first | rfl | (simp; done) | (simp [*]; done), by repeat (first | exact Drawn0.refl _ | apply Drawn0.step)⟩
 ·
  rw [if_neg c4] at H
  have c4b0 : decide (a1 ≤ a0) = false := decide_eq_false c4
  clear c4
  obtain rfl := Option.some.inj H
  go_enter Try.func65, Try.ntmps65
  go_wp2
  go_ret
  exact ⟨by first | rfl | (simp; done) | (simp [*]; done), by repeat (first | exact Drawn0.refl _ | apply Drawn0.step)⟩

/-! ### impl_isPlace: function 45 -/
def impl_isPlace.f (l0 : List (S50)) (a1 : Int) : Option (Bool) := (impl_in.f a1 0 (wrap64 ((l0.length : Int) - 1))).bind fun t195 => (some t195)
set_option maxHeartbeats 8000000 in
set_option maxRecDepth 100000 in
theorem impl_isPlace.calls (A0 : Option Addr) (c0 : Nat) (l0 : List (S50)) (a1 : Int) (r : Bool) (w : World) (hr0 : Kd.C k50 w A0 l0.length l0) (hc0 : l0.length ≤ c0) (h : impl_isPlace.f l0 a1 = some r) :
  Calls Try.prog 45 #[.slice A0 l0.length c0, .int .i64 a1] w fun e w' => e = .returned (.bool r) ∧ Drawn0 w w' := by
 have HR0 := Aside0.mk hr0
 have HC0 := Aside0.mk hc0
 clear hr0 hc0
 have H : ((impl_in.f a1 0 (wrap64 ((l0.length : Int) - 1))).bind fun t195 => (some t195)) = some r := h
 clear h
 replace H := Option.bind_eq_some_iff.mp H
 obtain ⟨t195, A30, H⟩ := H
 replace H : (some t195) = some r := H
 have A3 := Aside0.mk A30
 clear A30
 obtain rfl := Option.some.inj H
 go_enter Try.func45, Try.ntmps45
 go_wp2_with (first | ((with_reducible refine gate_callee (f := 65) rfl ?_); refine goesL_ (some 9) rfl rfl Try.func65 (by kernel_rfl) rfl #[.int .i64 a1, .int .i64 0, .int .i64 (wrap64 ((l0.length : Int) - 1))] rfl (by (try simp only [List.map_toArray, List.map_cons, List.map_nil]); first | done | rfl | (simp only [List.length_drop, List.length_take]; rfl)) ?_; (with_reducible refine (impl_in.calls a1 0 (wrap64 ((l0.length : Int) - 1)) t195 _ A3.out).mono ?_); rintro e w' ⟨rfl, ⟨nd, rfl⟩⟩; refine ⟨_, rfl, ?_⟩))
 go_ret
 exact ⟨by first | rfl | (simp; done) | (simp [*]; done), by repeat (first | exact Drawn0.refl _ | apply Drawn0.step)⟩

/-! ### impl_namesOf: function 79 -/
def impl_namesOf.j0 : Nat → Int → Bool → Option (Bool × Bool × Bool)
 | 0, _, _ => none
 | k + 1, x3, x4 => if x4 = true then (some (false, false, true)) else (if x3 = 6 then (some (true, false, false)) else (some (true, true, false)))
def impl_namesOf.f (k : Nat) (a0 : Int) : Option (Bool × Bool × Bool) := if a0 = 1 then (impl_namesOf.j0 k a0 (a0 == 1)) else (impl_namesOf.j0 k a0 (a0 == 2))
theorem impl_namesOf.mono_l : ∀ k, (∀ y0 y1, LeO (impl_namesOf.j0 k y0 y1) (impl_namesOf.j0 (k + 1) y0 y1))
 | 0 => fun _ _ r h => by simp [impl_namesOf.j0] at h
 | k + 1 => by
  have ih0 := impl_namesOf.mono_l k
  ·
   intro y0 y1
   unfold impl_namesOf.j0
   repeat' first
   | (with_reducible exact ih0 _ _)
   | (with_reducible exact LeO.refl _)
   | (with_reducible exact LeO.none _)
   | (with_reducible refine LeO.ite ?_ ?_)
   | (with_reducible refine LeO.bind ?_ (fun _ => ?_))
   | exact ih0 _ _
   | exact LeO.none _
   | refine LeO.ite ?_ ?_
   | refine LeO.bind ?_ (fun _ => ?_)
theorem impl_namesOf.mono : ∀ a0 k, LeO (impl_namesOf.f k a0) (impl_namesOf.f (k + 1) a0) := by
 intro a0 k
 have ih0 := impl_namesOf.mono_l k
 unfold impl_namesOf.f
 repeat' first
   | (with_reducible exact ih0 _ _)
   | (with_reducible exact LeO.refl _)
   | (with_reducible exact LeO.none _)
   | (with_reducible refine LeO.ite ?_ ?_)
   | (with_reducible refine LeO.bind ?_ (fun _ => ?_))
   | exact ih0 _ _
   | exact LeO.none _
   | refine LeO.ite ?_ ?_
   | refine LeO.bind ?_ (fun _ => ?_)
set_option maxHeartbeats 8000000 in
set_option maxRecDepth 100000 in
theorem impl_namesOf.calls (k : Nat) (a0 : Int) (r1 : Bool) (r2 : Bool) (r3 : Bool) (w : World) (h : impl_namesOf.f k a0 = some (r1, r2, r3)) :
  Calls Try.prog 79 #[.int .i64 a0] w fun e w' => e = .returned (.agg #[.bool r1, .bool r2, .bool r3]) ∧ Below w.heap.size w w' := by
 have hu99 := Try.underlying99
 have HB := Aside0.mk (Below.refl w.heap.size w)
 have H : (if a0 = 1 then (impl_namesOf.j0 k a0 (a0 == 1)) else (impl_namesOf.j0 k a0 (a0 == 2))) = some (r1, r2, r3) := h
 clear h
 have HC2 := Aside0.mk H
 clear H
 go_enter Try.func79, Try.ntmps79
 go_upto_if 4 with (first | ((with_reducible refine gate_dst (N := 2) rfl ?_); refine box_event ?hg (N := 2) ?hd (cs := #[.bool false, .bool false, .bool false]) (t := 99) ?hr ?_; (case hd => rfl); (case hg => rfl); (case hr => first | (go_simp; done) | (go_simp; rfl)); intro gb196 hg w3 hbox hb; have n0_ := Aside0.mk (below_step (by repeat (first | (with_reducible first | exact HB.out | apply below_alloc | apply pw_below_drewN | apply below_drew1) | exact HB.out)) hb); have n1_ := Aside0.mk (hbox); have n2_ := Aside0.mk ((by rw [hg]; exact (below_size (by repeat (first | (with_reducible first | exact HB.out | apply below_alloc | apply pw_below_drewN | apply below_drew1) | exact HB.out))) : w.heap.size ≤ gb196)); have n3_ := Aside0.mk ((by rw [hg]; exact (below_size (by repeat (first | (with_reducible first | exact HB.out | apply below_alloc | apply pw_below_drewN | apply below_drew1) | exact HB.out))) : w.heap.size ≤ gb196)); clear HB; have HB := n0_; have BK196 := n1_; have GW196 := n2_; have GE196 := n3_; clear n0_ n1_ n2_ n3_; clear hb hbox hg))
 (try simp only [Act.put, List.setIfInBounds_toArray, List.set_cons_zero, List.set_cons_succ])
 go_cut [4] (fun v4 wc => ∃ (kq : Nat) (x4_1 : Bool), v4 = .bool x4_1 ∧ Aside0 (impl_namesOf.j0 kq a0 x4_1 = some (r1, r2, r3)) ∧ Aside0 (kq ≤ k) ∧ Aside0 (wc.heap[gb196]? = some (.cells #[.bool false, .bool false, .bool false] 99 (0, 0))) ∧ Aside0 (Below w.heap.size w wc))
 case first =>
  have H := HC2.out
  clear HC2
  by_cases c4 : a0 = 1
  ·
   rw [if_pos c4] at H
   have c4b0 : (a0 == 1) = true := beq_iff_eq.mpr c4
   have c4b1 : (a0 != 1) = false := bne_eq_false_iff_eq.mpr c4
   clear c4
   (first | rw [c4b0] | (simp only [i64_w, i32_w]; rw [c4b0]) | skip)
   have H' := Aside0.mk H
   clear H
   go_wp2
   go_meet
   case rel => exact ⟨_, ((a0 == 1)), (by first | rfl | (simp; done) | (simp [*]; done)), H', ⟨by first | omega | exact Nat.le_refl _⟩, ⟨by (with_reducible repeat (first | refine blk_drewN ?_ _ | refine blk_drew ?_ | refine blk_alloc ?_ _)); exact BK196.out⟩, ⟨by repeat (first | (with_reducible first | exact HB.out | apply below_alloc | apply pw_below_drewN | apply below_drew1 | refine below_set ?_ GE196.out) | exact HB.out)⟩⟩
  ·
   rw [if_neg c4] at H
   have c4b0 : (a0 == 1) = false := beq_eq_false_iff_ne.mpr c4
   have c4b1 : (a0 != 1) = true := bne_iff_ne.mpr c4
   (first | rw [c4b0] | (simp only [i64_w, i32_w]; rw [c4b0]) | skip)
   have H' := Aside0.mk H
   clear H
   go_wp2
   go_meet
   case rel => exact ⟨_, ((a0 == 2)), (by first | rfl | (simp; done) | (simp [*]; done)), H', ⟨by first | omega | exact Nat.le_refl _⟩, ⟨by (with_reducible repeat (first | refine blk_drewN ?_ _ | refine blk_drew ?_ | refine blk_alloc ?_ _)); exact BK196.out⟩, ⟨by repeat (first | (with_reducible first | exact HB.out | apply below_alloc | apply pw_below_drewN | apply below_drew1 | refine below_set ?_ GE196.out) | exact HB.out)⟩⟩
 case rest =>
  clear HC2
  try clear p2; try clear c4; try clear c4b0; try clear c4b1
  obtain ⟨kq, x4_1, rfl, HA, HJ1, BK196, HB⟩ := hcut
  cases kq with
  | zero => exact absurd HA.out (by simp [impl_namesOf.j0])
  | succ kj1 =>
   have H := HA.out
   clear HA
   simp only [impl_namesOf.j0] at H
   by_cases c5 : x4_1 = true
   ·
    subst c5
    have H1 : (some (false, false, true)) = some (r1, r2, r3) := by rw [if_pos rfl] at H; exact H
    clear H
    have H := H1
    clear H1
    simp only [Option.some.injEq, Prod.mk.injEq] at H
    obtain ⟨rfl, rfl, rfl⟩ := H
    obtain ⟨hcz6_0, hcz6_1, hcz6_2⟩ := blk_c3 BK196.out
    obtain ⟨hfz6_0, hfz6_1, hfz6_2⟩ := blk_f3 BK196.out
    go_wp2
    refine bodyPost_ret (results_cell_row rfl _ _ gb196 99 #[.bool false, .bool false, .bool true] (0, 0) _ rfl (by (with_reducible repeat (first | refine blk_drewN ?_ _ | refine blk_drew ?_ | refine blk_alloc ?_ _)); refine blk_put (cs := #[.bool false, .bool false, .bool false]) ?_ 2 _ rfl; (with_reducible repeat (first | refine blk_drewN ?_ _ | refine blk_drew ?_ | refine blk_alloc ?_ _)); refine blk_put (cs := #[.bool false, .bool false, .bool false]) ?_ 1 _ rfl; (with_reducible repeat (first | refine blk_drewN ?_ _ | refine blk_drew ?_ | refine blk_alloc ?_ _)); refine blk_put (cs := #[.bool false, .bool false, .bool false]) ?_ 0 _ rfl; (with_reducible repeat (first | refine blk_drewN ?_ _ | refine blk_drew ?_ | refine blk_alloc ?_ _)); exact BK196.out) Try.underlying99 rfl (by kernel_rfl)) rfl ?_
    exact ⟨by first | rfl | (simp [errW_none, errW_some] <;> rfl) | (simp [*, errW_none, errW_some] <;> rfl), by repeat (first | (with_reducible first | exact HB.out | apply below_alloc | apply pw_below_drewN | apply below_drew1 | refine below_set ?_ GE196.out) | exact HB.out)⟩
   ·
    replace c5 := Bool.eq_false_iff.mpr c5
    subst c5
    have H1 : (if a0 = 6 then (some (true, false, false)) else (some (true, true, false))) = some (r1, r2, r3) := by rw [if_neg (show ¬ (false = true) by decide)] at H; exact H
    clear H
    have H := H1
    clear H1
    by_cases c7 : a0 = 6
    ·
     rw [if_pos c7] at H
     have c7b0 : (a0 == 6) = true := beq_iff_eq.mpr c7
     have c7b1 : (a0 != 6) = false := bne_eq_false_iff_eq.mpr c7
     clear c7
     simp only [Option.some.injEq, Prod.mk.injEq] at H
     obtain ⟨rfl, rfl, rfl⟩ := H
     obtain ⟨hcz8_0, hcz8_1, hcz8_2⟩ := blk_c3 BK196.out
     obtain ⟨hfz8_0, hfz8_1, hfz8_2⟩ := blk_f3 BK196.out
     go_wp2
     refine bodyPost_ret (results_cell_row rfl _ _ gb196 99 #[.bool true, .bool false, .bool false] (0, 0) _ rfl (by (with_reducible repeat (first | refine blk_drewN ?_ _ | refine blk_drew ?_ | refine blk_alloc ?_ _)); refine blk_put (cs := #[.bool true, .bool false, .bool false]) ?_ 2 _ rfl; (with_reducible repeat (first | refine blk_drewN ?_ _ | refine blk_drew ?_ | refine blk_alloc ?_ _)); refine blk_put (cs := #[.bool true, .bool false, .bool false]) ?_ 1 _ rfl; (with_reducible repeat (first | refine blk_drewN ?_ _ | refine blk_drew ?_ | refine blk_alloc ?_ _)); refine blk_put (cs := #[.bool false, .bool false, .bool false]) ?_ 0 _ rfl; (with_reducible repeat (first | refine blk_drewN ?_ _ | refine blk_drew ?_ | refine blk_alloc ?_ _)); exact BK196.out) Try.underlying99 rfl (by kernel_rfl)) rfl ?_
     exact ⟨by first | rfl | (simp [errW_none, errW_some] <;> rfl) | (simp [*, errW_none, errW_some] <;> rfl), by repeat (first | (with_reducible first | exact HB.out | apply below_alloc | apply pw_below_drewN | apply below_drew1 | refine below_set ?_ GE196.out) | exact HB.out)⟩
    ·
     rw [if_neg c7] at H
     have c7b0 : (a0 == 6) = false := beq_eq_false_iff_ne.mpr c7
     have c7b1 : (a0 != 6) = true := bne_iff_ne.mpr c7
     simp only [Option.some.injEq, Prod.mk.injEq] at H
     obtain ⟨rfl, rfl, rfl⟩ := H
     obtain ⟨hcz9_0, hcz9_1, hcz9_2⟩ := blk_c3 BK196.out
     obtain ⟨hfz9_0, hfz9_1, hfz9_2⟩ := blk_f3 BK196.out
     go_wp2
     refine bodyPost_ret (results_cell_row rfl _ _ gb196 99 #[.bool true, .bool true, .bool false] (0, 0) _ rfl (by (with_reducible repeat (first | refine blk_drewN ?_ _ | refine blk_drew ?_ | refine blk_alloc ?_ _)); refine blk_put (cs := #[.bool true, .bool true, .bool false]) ?_ 2 _ rfl; (with_reducible repeat (first | refine blk_drewN ?_ _ | refine blk_drew ?_ | refine blk_alloc ?_ _)); refine blk_put (cs := #[.bool true, .bool false, .bool false]) ?_ 1 _ rfl; (with_reducible repeat (first | refine blk_drewN ?_ _ | refine blk_drew ?_ | refine blk_alloc ?_ _)); refine blk_put (cs := #[.bool false, .bool false, .bool false]) ?_ 0 _ rfl; (with_reducible repeat (first | refine blk_drewN ?_ _ | refine blk_drew ?_ | refine blk_alloc ?_ _)); exact BK196.out) Try.underlying99 rfl (by kernel_rfl)) rfl ?_
     exact ⟨by first | rfl | (simp [errW_none, errW_some] <;> rfl) | (simp [*, errW_none, errW_some] <;> rfl), by repeat (first | (with_reducible first | exact HB.out | apply below_alloc | apply pw_below_drewN | apply below_drew1 | refine below_set ?_ GE196.out) | exact HB.out)⟩

/-! ### impl_Term_parts: function 62 -/
def impl_Term_parts.f (k : Nat) (a0_0 : Int) (a0_1 : Int) (a0_2 : Int) (a0_3 : Int) : Option (List Int) := (impl_namesOf.f k a0_0).bind fun bt198 => (if bt198.2.2 = true then (some ([] : List Int)) else (if bt198.2.1 = true then (some (([a0_1, a0_2] : List Int))) else (some (([a0_1] : List Int)))))
theorem impl_Term_parts.mono : ∀ a0 a1 a2 a3 k, LeO (impl_Term_parts.f k a0 a1 a2 a3) (impl_Term_parts.f (k + 1) a0 a1 a2 a3) := by
 intro a0 a1 a2 a3 k
 unfold impl_Term_parts.f
 repeat' first
   | (with_reducible exact impl_namesOf.mono _ _)
   | (with_reducible exact LeO.refl _)
   | (with_reducible exact LeO.none _)
   | (with_reducible refine LeO.ite ?_ ?_)
   | (with_reducible refine LeO.bind ?_ (fun _ => ?_))
   | exact impl_namesOf.mono _ _
   | exact LeO.none _
   | refine LeO.ite ?_ ?_
   | refine LeO.bind ?_ (fun _ => ?_)
set_option maxHeartbeats 8000000 in
set_option maxRecDepth 100000 in
theorem impl_Term_parts.calls (k : Nat) (a0_0 : Int) (a0_1 : Int) (a0_2 : Int) (a0_3 : Int) (r : List Int) (w : World) (h : impl_Term_parts.f k a0_0 a0_1 a0_2 a0_3 = some r) :
  Calls Try.prog 62 #[.agg #[.int .i64 a0_0, .int .i64 a0_1, .int .i64 a0_2, .int .i64 a0_3]] w fun e w' => ∃ v0_ : Value, e = .returned (v0_) ∧ Kd.R (Kd.int .i64) 2 w' w.heap.size (fun _ => True) v0_ r ∧ Below w.heap.size w w' := by
 have hu50 := Try.underlying50
 have hu99 := Try.underlying99
 have HB := Aside0.mk (Below.refl w.heap.size w)
 have H : ((impl_namesOf.f k a0_0).bind fun bt198 => (if bt198.2.2 = true then (some ([] : List Int)) else (if bt198.2.1 = true then (some (([a0_1, a0_2] : List Int))) else (some (([a0_1] : List Int)))))) = some r := h
 clear h
 replace H := Option.bind_eq_some_iff.mp H
 obtain ⟨⟨t198, t199, t200⟩, A20, H⟩ := H
 replace H : (if t200 = true then (some ([] : List Int)) else (if t199 = true then (some (([a0_1, a0_2] : List Int))) else (some (([a0_1] : List Int))))) = some r := H
 have A2 := Aside0.mk A20
 clear A20
 by_cases c3 : t200 = true
 ·
  subst c3
  have H1 : (some ([] : List Int)) = some r := by rw [if_pos rfl] at H; exact H
  clear H
  have H := H1
  clear H1
  obtain rfl := Option.some.inj H
  go_enter Try.func62, Try.ntmps62
  go_wp2_with (first | ((with_reducible refine gate_dst (N := 1) rfl ?_); refine box_event ?hg (N := 1) ?hd (cs := #[.int .i64 a0_0, .int .i64 a0_1, .int .i64 a0_2, .int .i64 a0_3]) (t := 50) ?hr ?_; (case hd => rfl); (case hg => rfl); (case hr => first | (go_simp; done) | (go_simp; rfl)); intro gb197 hg w4 hbox hb; have n0_ := Aside0.mk (below_step (by repeat (first | (with_reducible first | exact HB.out | apply below_alloc | apply pw_below_drewN | apply below_drew1) | exact HB.out)) hb); have n1_ := Aside0.mk (hbox); have n2_ := Aside0.mk ((by rw [hg]; exact (below_size (by repeat (first | (with_reducible first | exact HB.out | apply below_alloc | apply pw_below_drewN | apply below_drew1) | exact HB.out))) : w.heap.size ≤ gb197)); have n3_ := Aside0.mk ((by rw [hg]; exact (below_size (by repeat (first | (with_reducible first | exact HB.out | apply below_alloc | apply pw_below_drewN | apply below_drew1) | exact HB.out))) : w.heap.size ≤ gb197)); clear HB; have HB := n0_; have BK197 := n1_; have GW197 := n2_; have GE197 := n3_; clear n0_ n1_ n2_ n3_; clear hb hbox hg; obtain ⟨hcz5_0, hcz5_1, hcz5_2, hcz5_3⟩ := blk_c4 BK197.out; obtain ⟨hfz5_0, hfz5_1, hfz5_2, hfz5_3⟩ := blk_f4 BK197.out) | ((with_reducible refine gate_callee (f := 79) rfl ?_); refine goesL_ (some 6) rfl rfl Try.func79 (by kernel_rfl) rfl #[.int .i64 a0_0] rfl (by (try simp only [List.map_toArray, List.map_cons, List.map_nil]); first | done | rfl | (simp only [List.length_drop, List.length_take]; rfl)) ?_; (with_reducible refine (impl_namesOf.calls k a0_0 t198 t199 true _ A2.out).mono ?_); rintro e w6 ⟨rfl, hb⟩; refine ⟨_, rfl, ?_⟩; have n0_ := Aside0.mk (blk_below_u BK197.out hb); have n1_ := Aside0.mk (below_step (by repeat (first | (with_reducible first | exact HB.out | apply below_alloc | apply pw_below_drewN | apply below_drew1 | refine below_set ?_ GE197.out) | exact HB.out)) hb); clear BK197; clear HB; have BK197 := n0_; have HB := n1_; clear n0_ n1_; (try clear hb); (try clear hb2); (try clear hk); (try clear hi)) | ((with_reducible refine gate_dst (N := 3) rfl ?_); refine box_event ?hg (N := 3) ?hd (cs := #[.bool false, .bool false, .bool false]) (t := 99) ?hr ?_; (case hd => rfl); (case hg => rfl); (case hr => first | (go_simp; done) | (go_simp; rfl)); intro gb201 hg w7 hbox hb; have n0_ := Aside0.mk (blk_below_u BK197.out hb); have n1_ := Aside0.mk (below_step (by repeat (first | (with_reducible first | exact HB.out | apply below_alloc | apply pw_below_drewN | apply below_drew1 | refine below_set ?_ GE197.out) | exact HB.out)) hb); have n2_ := Aside0.mk (hbox); have n3_ := Aside0.mk ((by rw [hg]; exact (below_size (by repeat (first | (with_reducible first | exact HB.out | apply below_alloc | apply pw_below_drewN | apply below_drew1 | refine below_set ?_ GE197.out) | exact HB.out))) : w.heap.size ≤ gb201)); have n4_ := Aside0.mk ((by rw [hg]; exact (below_size (by repeat (first | (with_reducible first | exact HB.out | apply below_alloc | apply pw_below_drewN | apply below_drew1 | refine below_set ?_ GE197.out) | exact HB.out))) : w.heap.size ≤ gb201)); have n5_ := Aside0.mk ((by rw [hg]; exact Nat.ne_of_lt (blk_lt_u BK197.out) : gb197 ≠ gb201)); have n6_ := Aside0.mk ((by rw [hg]; exact Nat.ne_of_gt (blk_lt_u BK197.out) : gb201 ≠ gb197)); clear BK197; clear HB; have BK197 := n0_; have HB := n1_; have BK201 := n2_; have GW201 := n3_; have GE201 := n4_; have NB197_201 := n5_; have NB201_197 := n6_; clear n0_ n1_ n2_ n3_ n4_ n5_ n6_; clear hb hbox hg; have hnb8 := NB201_197.out; have hnc8 := NB197_201.out; obtain ⟨hcz9_0, hcz9_1, hcz9_2⟩ := blk_c3 BK201.out; obtain ⟨hfz9_0, hfz9_1, hfz9_2⟩ := blk_f3 BK201.out))
  go_ret
  exact ⟨_, by first | rfl | (simp [errW_none, errW_some] <;> rfl) | (simp [*, errW_none, errW_some] <;> rfl), by first | exact Kd.R_nil _ _ _ _ _ | exact Kd.N_nil _ _ _ _ _ | exact Kd.V_nil _ _ _ _ _ | exact Kd.Q_nil _ _ _ _ _ | exact Kd.S_nil _ _ _ _ _, by repeat (first | (with_reducible first | exact HB.out | apply below_alloc | apply pw_below_drewN | apply below_drew1 | refine below_set ?_ GE197.out | refine below_set ?_ GE201.out) | exact HB.out)⟩
 ·
  replace c3 := Bool.eq_false_iff.mpr c3
  subst c3
  have H1 : (if t199 = true then (some (([a0_1, a0_2] : List Int))) else (some (([a0_1] : List Int)))) = some r := by rw [if_neg (show ¬ (false = true) by decide)] at H; exact H
  clear H
  have H := H1
  clear H1
  by_cases c10 : t199 = true
  ·
   subst c10
   have H1 : (some (([a0_1, a0_2] : List Int))) = some r := by rw [if_pos rfl] at H; exact H
   clear H
   have H := H1
   clear H1
   obtain ⟨y202, hy202⟩ : ∃ y_ : List Int, y_ = (([a0_1, a0_2] : List Int)) := ⟨_, rfl⟩
   replace H : (some y202) = some r := by first | (rw [hy202]; with_reducible exact H) | (have H2_ := (Option.bind_some _ _).symm.trans H; rw [hy202]; with_reducible exact H2_) | (have H2_ := (Option.bind_some _ _).symm.trans H; with_reducible exact H2_) | with_reducible exact H | (rw [hy202]; exact H) | exact H
   have Ny202 := Aside0.mk hy202
   clear hy202
   obtain rfl := Option.some.inj H
   go_enter Try.func62, Try.ntmps62
   go_wp2_with (first | ((with_reducible refine gate_dst (N := 1) rfl ?_); refine box_event ?hg (N := 1) ?hd (cs := #[.int .i64 a0_0, .int .i64 a0_1, .int .i64 a0_2, .int .i64 a0_3]) (t := 50) ?hr ?_; (case hd => rfl); (case hg => rfl); (case hr => first | (go_simp; done) | (go_simp; rfl)); intro gb197 hg w11 hbox hb; have n0_ := Aside0.mk (below_step (by repeat (first | (with_reducible first | exact HB.out | apply below_alloc | apply pw_below_drewN | apply below_drew1) | exact HB.out)) hb); have n1_ := Aside0.mk (hbox); have n2_ := Aside0.mk ((by rw [hg]; exact (below_size (by repeat (first | (with_reducible first | exact HB.out | apply below_alloc | apply pw_below_drewN | apply below_drew1) | exact HB.out))) : w.heap.size ≤ gb197)); have n3_ := Aside0.mk ((by rw [hg]; exact (below_size (by repeat (first | (with_reducible first | exact HB.out | apply below_alloc | apply pw_below_drewN | apply below_drew1) | exact HB.out))) : w.heap.size ≤ gb197)); clear HB; have HB := n0_; have BK197 := n1_; have GW197 := n2_; have GE197 := n3_; clear n0_ n1_ n2_ n3_; clear hb hbox hg; obtain ⟨hcz12_0, hcz12_1, hcz12_2, hcz12_3⟩ := blk_c4 BK197.out; obtain ⟨hfz12_0, hfz12_1, hfz12_2, hfz12_3⟩ := blk_f4 BK197.out) | ((with_reducible refine gate_callee (f := 79) rfl ?_); refine goesL_ (some 6) rfl rfl Try.func79 (by kernel_rfl) rfl #[.int .i64 a0_0] rfl (by (try simp only [List.map_toArray, List.map_cons, List.map_nil]); first | done | rfl | (simp only [List.length_drop, List.length_take]; rfl)) ?_; (with_reducible refine (impl_namesOf.calls k a0_0 t198 true false _ A2.out).mono ?_); rintro e w13 ⟨rfl, hb⟩; refine ⟨_, rfl, ?_⟩; have n0_ := Aside0.mk (blk_below_u BK197.out hb); have n1_ := Aside0.mk (below_step (by repeat (first | (with_reducible first | exact HB.out | apply below_alloc | apply pw_below_drewN | apply below_drew1 | refine below_set ?_ GE197.out) | exact HB.out)) hb); clear BK197; clear HB; have BK197 := n0_; have HB := n1_; clear n0_ n1_; (try clear hb); (try clear hb2); (try clear hk); (try clear hi)) | ((with_reducible refine gate_dst (N := 3) rfl ?_); refine box_event ?hg (N := 3) ?hd (cs := #[.bool false, .bool false, .bool false]) (t := 99) ?hr ?_; (case hd => rfl); (case hg => rfl); (case hr => first | (go_simp; done) | (go_simp; rfl)); intro gb201 hg w14 hbox hb; have n0_ := Aside0.mk (blk_below_u BK197.out hb); have n1_ := Aside0.mk (below_step (by repeat (first | (with_reducible first | exact HB.out | apply below_alloc | apply pw_below_drewN | apply below_drew1 | refine below_set ?_ GE197.out) | exact HB.out)) hb); have n2_ := Aside0.mk (hbox); have n3_ := Aside0.mk ((by rw [hg]; exact (below_size (by repeat (first | (with_reducible first | exact HB.out | apply below_alloc | apply pw_below_drewN | apply below_drew1 | refine below_set ?_ GE197.out) | exact HB.out))) : w.heap.size ≤ gb201)); have n4_ := Aside0.mk ((by rw [hg]; exact (below_size (by repeat (first | (with_reducible first | exact HB.out | apply below_alloc | apply pw_below_drewN | apply below_drew1 | refine below_set ?_ GE197.out) | exact HB.out))) : w.heap.size ≤ gb201)); have n5_ := Aside0.mk ((by rw [hg]; exact Nat.ne_of_lt (blk_lt_u BK197.out) : gb197 ≠ gb201)); have n6_ := Aside0.mk ((by rw [hg]; exact Nat.ne_of_gt (blk_lt_u BK197.out) : gb201 ≠ gb197)); clear BK197; clear HB; have BK197 := n0_; have HB := n1_; have BK201 := n2_; have GW201 := n3_; have GE201 := n4_; have NB197_201 := n5_; have NB201_197 := n6_; clear n0_ n1_ n2_ n3_ n4_ n5_ n6_; clear hb hbox hg; have hnb15 := NB201_197.out; have hnc15 := NB197_201.out; obtain ⟨hcz16_0, hcz16_1, hcz16_2⟩ := blk_c3 BK201.out; obtain ⟨hfz16_0, hfz16_1, hfz16_2⟩ := blk_f3 BK201.out; obtain ⟨hcz17_0, hcz17_1, hcz17_2, hcz17_3⟩ := blk_c4 BK197.out; obtain ⟨hfz17_0, hfz17_1, hfz17_2, hfz17_3⟩ := blk_f4 BK197.out) | ((with_reducible refine gate_dst (N := 21) rfl ?_); refine Kd.R_lit (Kd.int .i64) _ 2 ?hg (N := 21) ?hd (xs := ([a0_1, a0_2] : List Int)) (inner := [.int .i64 a0_1, .int .i64 a0_2]) (ok := fun _ => True) (okp := fun _ => True) ?hr ?hp (fun _ hk => hk) trivial (Below.refl _ _) (Nat.le_refl _) (by simp) ?_; (case hd => rfl); (case hg => rfl); (case hr => first | (go_simp; done) | (go_simp; rfl)); (case hp => exact (Reps.one (show Kd.M (Kd.int .i64) _ _ _ a0_1 [.int .i64 a0_1] from rfl) (Reps.one (show Kd.M (Kd.int .i64) _ _ _ a0_2 [.int .i64 a0_2] from rfl) (Reps.none _ _)))); intro v203 w18 ho19 hb hg_ hnew_; clear hg_ hnew_; (first | rw [← Ny202.out] at ho19 | (simp only [Int.reduceToNat] at ho19; rw [← Ny202.out] at ho19)); have n0_ := Aside0.mk (Kd.R_lower ho19 (below_size (by repeat (first | (with_reducible first | exact HB.out | apply below_alloc | apply pw_below_drewN | apply below_drew1 | refine below_set ?_ GE197.out | refine below_set ?_ GE201.out) | exact HB.out)))); have n1_ := Aside0.mk (blk_below (g := gb197) (o := .cells #[.int .i64 a0_0, .int .i64 a0_1, .int .i64 a0_2, .int .i64 a0_3] 50 (0, 0)) (by (with_reducible repeat (first | refine blk_drewN ?_ _ | refine blk_drew ?_ | refine blk_alloc ?_ _)); refine blk_far ?_ NB197_201.out _; (with_reducible repeat (first | refine blk_drewN ?_ _ | refine blk_drew ?_ | refine blk_alloc ?_ _)); refine blk_far ?_ NB197_201.out _; (with_reducible repeat (first | refine blk_drewN ?_ _ | refine blk_drew ?_ | refine blk_alloc ?_ _)); refine blk_far ?_ NB197_201.out _; (with_reducible repeat (first | refine blk_drewN ?_ _ | refine blk_drew ?_ | refine blk_alloc ?_ _)); exact BK197.out) hb); have n2_ := Aside0.mk (blk_below (g := gb201) (o := .cells #[.bool t198, .bool true, .bool false] 99 (0, 0)) (by (with_reducible repeat (first | refine blk_drewN ?_ _ | refine blk_drew ?_ | refine blk_alloc ?_ _)); refine blk_put (cs := #[.bool t198, .bool true, .bool false]) ?_ 2 _ rfl; (with_reducible repeat (first | refine blk_drewN ?_ _ | refine blk_drew ?_ | refine blk_alloc ?_ _)); refine blk_put (cs := #[.bool t198, .bool false, .bool false]) ?_ 1 _ rfl; (with_reducible repeat (first | refine blk_drewN ?_ _ | refine blk_drew ?_ | refine blk_alloc ?_ _)); refine blk_put (cs := #[.bool false, .bool false, .bool false]) ?_ 0 _ rfl; (with_reducible repeat (first | refine blk_drewN ?_ _ | refine blk_drew ?_ | refine blk_alloc ?_ _)); exact BK201.out) hb); have n3_ := Aside0.mk (below_step (by repeat (first | (with_reducible first | exact HB.out | apply below_alloc | apply pw_below_drewN | apply below_drew1 | refine below_set ?_ GE197.out | refine below_set ?_ GE201.out) | exact HB.out)) hb); clear BK197; clear BK201; clear HB; have HO204 := n0_; have BK197 := n1_; have BK201 := n2_; have HB := n3_; clear n0_ n1_ n2_ n3_; clear hb ho19))
   go_ret
   exact ⟨_, by first | rfl | (simp [errW_none, errW_some] <;> rfl) | (simp [*, errW_none, errW_some] <;> rfl), by (with_reducible repeat (first | apply Kd.R_alloc | apply Kd.R_drewN | apply Kd.R_drew)); exact HO204.out, by repeat (first | (with_reducible first | exact HB.out | apply below_alloc | apply pw_below_drewN | apply below_drew1 | refine below_set ?_ GE197.out | refine below_set ?_ GE201.out) | exact HB.out)⟩
  ·
   replace c10 := Bool.eq_false_iff.mpr c10
   subst c10
   have H1 : (some (([a0_1] : List Int))) = some r := by rw [if_neg (show ¬ (false = true) by decide)] at H; exact H
   clear H
   have H := H1
   clear H1
   obtain ⟨y205, hy205⟩ : ∃ y_ : List Int, y_ = (([a0_1] : List Int)) := ⟨_, rfl⟩
   replace H : (some y205) = some r := by first | (rw [hy205]; with_reducible exact H) | (have H2_ := (Option.bind_some _ _).symm.trans H; rw [hy205]; with_reducible exact H2_) | (have H2_ := (Option.bind_some _ _).symm.trans H; with_reducible exact H2_) | with_reducible exact H | (rw [hy205]; exact H) | exact H
   have Ny205 := Aside0.mk hy205
   clear hy205
   obtain rfl := Option.some.inj H
   go_enter Try.func62, Try.ntmps62
   go_wp2_with (first | ((with_reducible refine gate_dst (N := 1) rfl ?_); refine box_event ?hg (N := 1) ?hd (cs := #[.int .i64 a0_0, .int .i64 a0_1, .int .i64 a0_2, .int .i64 a0_3]) (t := 50) ?hr ?_; (case hd => rfl); (case hg => rfl); (case hr => first | (go_simp; done) | (go_simp; rfl)); intro gb197 hg w20 hbox hb; have n0_ := Aside0.mk (below_step (by repeat (first | (with_reducible first | exact HB.out | apply below_alloc | apply pw_below_drewN | apply below_drew1) | exact HB.out)) hb); have n1_ := Aside0.mk (hbox); have n2_ := Aside0.mk ((by rw [hg]; exact (below_size (by repeat (first | (with_reducible first | exact HB.out | apply below_alloc | apply pw_below_drewN | apply below_drew1) | exact HB.out))) : w.heap.size ≤ gb197)); have n3_ := Aside0.mk ((by rw [hg]; exact (below_size (by repeat (first | (with_reducible first | exact HB.out | apply below_alloc | apply pw_below_drewN | apply below_drew1) | exact HB.out))) : w.heap.size ≤ gb197)); clear HB; have HB := n0_; have BK197 := n1_; have GW197 := n2_; have GE197 := n3_; clear n0_ n1_ n2_ n3_; clear hb hbox hg; obtain ⟨hcz21_0, hcz21_1, hcz21_2, hcz21_3⟩ := blk_c4 BK197.out; obtain ⟨hfz21_0, hfz21_1, hfz21_2, hfz21_3⟩ := blk_f4 BK197.out) | ((with_reducible refine gate_callee (f := 79) rfl ?_); refine goesL_ (some 6) rfl rfl Try.func79 (by kernel_rfl) rfl #[.int .i64 a0_0] rfl (by (try simp only [List.map_toArray, List.map_cons, List.map_nil]); first | done | rfl | (simp only [List.length_drop, List.length_take]; rfl)) ?_; (with_reducible refine (impl_namesOf.calls k a0_0 t198 false false _ A2.out).mono ?_); rintro e w22 ⟨rfl, hb⟩; refine ⟨_, rfl, ?_⟩; have n0_ := Aside0.mk (blk_below_u BK197.out hb); have n1_ := Aside0.mk (below_step (by repeat (first | (with_reducible first | exact HB.out | apply below_alloc | apply pw_below_drewN | apply below_drew1 | refine below_set ?_ GE197.out) | exact HB.out)) hb); clear BK197; clear HB; have BK197 := n0_; have HB := n1_; clear n0_ n1_; (try clear hb); (try clear hb2); (try clear hk); (try clear hi)) | ((with_reducible refine gate_dst (N := 3) rfl ?_); refine box_event ?hg (N := 3) ?hd (cs := #[.bool false, .bool false, .bool false]) (t := 99) ?hr ?_; (case hd => rfl); (case hg => rfl); (case hr => first | (go_simp; done) | (go_simp; rfl)); intro gb201 hg w23 hbox hb; have n0_ := Aside0.mk (blk_below_u BK197.out hb); have n1_ := Aside0.mk (below_step (by repeat (first | (with_reducible first | exact HB.out | apply below_alloc | apply pw_below_drewN | apply below_drew1 | refine below_set ?_ GE197.out) | exact HB.out)) hb); have n2_ := Aside0.mk (hbox); have n3_ := Aside0.mk ((by rw [hg]; exact (below_size (by repeat (first | (with_reducible first | exact HB.out | apply below_alloc | apply pw_below_drewN | apply below_drew1 | refine below_set ?_ GE197.out) | exact HB.out))) : w.heap.size ≤ gb201)); have n4_ := Aside0.mk ((by rw [hg]; exact (below_size (by repeat (first | (with_reducible first | exact HB.out | apply below_alloc | apply pw_below_drewN | apply below_drew1 | refine below_set ?_ GE197.out) | exact HB.out))) : w.heap.size ≤ gb201)); have n5_ := Aside0.mk ((by rw [hg]; exact Nat.ne_of_lt (blk_lt_u BK197.out) : gb197 ≠ gb201)); have n6_ := Aside0.mk ((by rw [hg]; exact Nat.ne_of_gt (blk_lt_u BK197.out) : gb201 ≠ gb197)); clear BK197; clear HB; have BK197 := n0_; have HB := n1_; have BK201 := n2_; have GW201 := n3_; have GE201 := n4_; have NB197_201 := n5_; have NB201_197 := n6_; clear n0_ n1_ n2_ n3_ n4_ n5_ n6_; clear hb hbox hg; have hnb24 := NB201_197.out; have hnc24 := NB197_201.out; obtain ⟨hcz25_0, hcz25_1, hcz25_2⟩ := blk_c3 BK201.out; obtain ⟨hfz25_0, hfz25_1, hfz25_2⟩ := blk_f3 BK201.out; obtain ⟨hcz26_0, hcz26_1, hcz26_2, hcz26_3⟩ := blk_c4 BK197.out; obtain ⟨hfz26_0, hfz26_1, hfz26_2, hfz26_3⟩ := blk_f4 BK197.out) | ((with_reducible refine gate_dst (N := 16) rfl ?_); refine Kd.R_lit (Kd.int .i64) _ 2 ?hg (N := 16) ?hd (xs := ([a0_1] : List Int)) (inner := [.int .i64 a0_1]) (ok := fun _ => True) (okp := fun _ => True) ?hr ?hp (fun _ hk => hk) trivial (Below.refl _ _) (Nat.le_refl _) (by simp) ?_; (case hd => rfl); (case hg => rfl); (case hr => first | (go_simp; done) | (go_simp; rfl)); (case hp => exact (Reps.one (show Kd.M (Kd.int .i64) _ _ _ a0_1 [.int .i64 a0_1] from rfl) (Reps.none _ _))); intro v206 w27 ho28 hb hg_ hnew_; clear hg_ hnew_; (first | rw [← Ny205.out] at ho28 | (simp only [Int.reduceToNat] at ho28; rw [← Ny205.out] at ho28)); have n0_ := Aside0.mk (Kd.R_lower ho28 (below_size (by repeat (first | (with_reducible first | exact HB.out | apply below_alloc | apply pw_below_drewN | apply below_drew1 | refine below_set ?_ GE197.out | refine below_set ?_ GE201.out) | exact HB.out)))); have n1_ := Aside0.mk (blk_below (g := gb197) (o := .cells #[.int .i64 a0_0, .int .i64 a0_1, .int .i64 a0_2, .int .i64 a0_3] 50 (0, 0)) (by (with_reducible repeat (first | refine blk_drewN ?_ _ | refine blk_drew ?_ | refine blk_alloc ?_ _)); refine blk_far ?_ NB197_201.out _; (with_reducible repeat (first | refine blk_drewN ?_ _ | refine blk_drew ?_ | refine blk_alloc ?_ _)); refine blk_far ?_ NB197_201.out _; (with_reducible repeat (first | refine blk_drewN ?_ _ | refine blk_drew ?_ | refine blk_alloc ?_ _)); refine blk_far ?_ NB197_201.out _; (with_reducible repeat (first | refine blk_drewN ?_ _ | refine blk_drew ?_ | refine blk_alloc ?_ _)); exact BK197.out) hb); have n2_ := Aside0.mk (blk_below (g := gb201) (o := .cells #[.bool t198, .bool false, .bool false] 99 (0, 0)) (by (with_reducible repeat (first | refine blk_drewN ?_ _ | refine blk_drew ?_ | refine blk_alloc ?_ _)); refine blk_put (cs := #[.bool t198, .bool false, .bool false]) ?_ 2 _ rfl; (with_reducible repeat (first | refine blk_drewN ?_ _ | refine blk_drew ?_ | refine blk_alloc ?_ _)); refine blk_put (cs := #[.bool t198, .bool false, .bool false]) ?_ 1 _ rfl; (with_reducible repeat (first | refine blk_drewN ?_ _ | refine blk_drew ?_ | refine blk_alloc ?_ _)); refine blk_put (cs := #[.bool false, .bool false, .bool false]) ?_ 0 _ rfl; (with_reducible repeat (first | refine blk_drewN ?_ _ | refine blk_drew ?_ | refine blk_alloc ?_ _)); exact BK201.out) hb); have n3_ := Aside0.mk (below_step (by repeat (first | (with_reducible first | exact HB.out | apply below_alloc | apply pw_below_drewN | apply below_drew1 | refine below_set ?_ GE197.out | refine below_set ?_ GE201.out) | exact HB.out)) hb); clear BK197; clear BK201; clear HB; have HO207 := n0_; have BK197 := n1_; have BK201 := n2_; have HB := n3_; clear n0_ n1_ n2_ n3_; clear hb ho28))
   go_ret
   exact ⟨_, by first | rfl | (simp [errW_none, errW_some] <;> rfl) | (simp [*, errW_none, errW_some] <;> rfl), by (with_reducible repeat (first | apply Kd.R_alloc | apply Kd.R_drewN | apply Kd.R_drew)); exact HO207.out, by repeat (first | (with_reducible first | exact HB.out | apply below_alloc | apply pw_below_drewN | apply below_drew1 | refine below_set ?_ GE197.out | refine below_set ?_ GE201.out) | exact HB.out)⟩

/-! ### (my own text) idxO -/
def idxO {α : Type} (p : α → Option Bool) : List α → Int → Option Int
  | [], _ => some (-1)
  | x :: xs, i => (p x).bind fun b => if b = true then some i else idxO p xs (i + 1)
theorem idxO_mono {α : Type} {p q : α → Option Bool} (h : ∀ x, LeO (p x) (q x)) : ∀ (l : List α) (i : Int), LeO (idxO p l i) (idxO q l i)
  | [], _ => LeO.refl _
  | x :: xs, i => LeO.bind (h x) (fun b => LeO.ite (LeO.refl _) (idxO_mono h xs (i + 1)))
theorem getD_at {α : Type} (l : List α) (z : α) (i : Nat) (h : i < l.length) : l.getD (i : Int).toNat z = l[i] := by
  simp [List.getD_eq_getElem?_getD, h]

/-! ### (my own text) IndexFuncI -/
set_option maxHeartbeats 4000000 in
set_option maxRecDepth 100000 in
theorem IndexFuncI.calls (A0 : Option Addr) (c0 : Nat) (l0 : List Int) (g : Nat) (lb : Array Value) (p : Int → Option Bool) (r : Int) (w : World)
    (eg : ∀ args w, (callFunc g args).run Try.prog w = .ok (.enter g args) w) (hr0 : Kd.C (Kd.int .i64) w A0 l0.length l0)
    (hp : ∀ (x : Int) (b : Bool) (W : World), p x = some b → Below w.heap.size w W → Calls Try.prog g (#[.int .i64 x] ++ lb) W fun e w' => e = .returned (.bool b) ∧ Below w.heap.size w w')
    (h : idxO p l0 0 = some r) :
    Calls Try.prog 78 #[.slice A0 l0.length c0, .func (.func g) #[] lb] w fun e w' => e = .returned (.int .i64 r) ∧ Below w.heap.size w w' := by
  have hm : l0.length ≤ 9223372036854775807 := hr0.2.1
  have HR0 := Aside0.mk hr0
  clear hr0
  have HP := Aside0.mk hp
  clear hp
  have H0 := Aside0.mk h
  clear h
  go_enter Try.func78, Try.ntmps78
  go_wp2
  go_loopg [5, 8] l0.length (fun gg _ s8 wr => ∃ kk : Nat, kk ≤ l0.length ∧ l0.length - kk ≤ gg ∧ s8 = .int .i64 kk ∧ Aside0 (Below w.heap.size w wr) ∧ Aside0 (idxO p (l0.drop kk) kk = some r))
  case atStart => exact ⟨0, Nat.zero_le _, by omega, rfl, ⟨Below.refl _ w⟩, ⟨by rw [List.drop_zero]; exact H0.out⟩⟩
  case round =>
    obtain ⟨kk, hkk, hg, rfl, BW, A⟩ := hrel
    by_cases hlt : kk < l0.length
    · have hltz : (kk : Int) < (l0.length : Int) := by omega
      obtain ⟨ad, e, hx0⟩ := Kd.at_int HR0.out (kk : Int) (by omega) hltz
      have A2 := A.out
      rw [List.drop_eq_getElem_cons hlt, idxO, ← getD_at l0 0 kk hlt] at A2
      change (p (rd l0 (kk : Int))).bind _ = some r at A2
      obtain ⟨b, hpb, A3⟩ := Option.bind_eq_some_iff.mp A2
      have hcall := HP.out _ _ wr hpb BW.out
      clear A A2 HP HR0 H0 hpb
      cases e
      replace hx0 := (BW.out.cell (World.block_lt_of_cell? w _ hx0)).trans hx0
      simp only [Int.toNat_natCast] at hx0
      cases b with
      | true =>
        have A4 := Aside0.mk (Option.some.inj ((if_pos rfl).symm.trans A3))
        clear A3
        go_wp2_with (go_at_fn g; refine hcall.mono ?_; rintro e w' ⟨rfl, hb'⟩)
        go_ret
        exact ⟨congrArg (fun z => Ending.returned (Value.int .i64 z)) A4.out, hb'⟩
      | false =>
        have A4 := Aside0.mk ((if_neg (by simp)).symm.trans A3)
        clear A3
        go_wp2_with (go_at_fn g; refine hcall.mono ?_; rintro e w' ⟨rfl, hb'⟩)
        go_roundg (l0.length - (kk + 1))
        case measure => omega
        case rel => exact ⟨kk + 1, by omega, by omega, by go_num, ⟨hb'⟩, ⟨A4.out⟩⟩
    · have hltz : ¬ (kk : Int) < (l0.length : Int) := by omega
      have hke : kk = l0.length := by omega
      subst hke
      have A4 := Aside0.mk (Option.some.inj ((by rw [List.drop_length, idxO] : idxO p (l0.drop l0.length) _ = some (-1)).symm.trans A.out))
      clear A
      go_wp2
      go_ret
      exact ⟨congrArg (fun z => Ending.returned (Value.int .i64 z)) A4.out, BW.out⟩

/-! ### (my own text) ContainsFuncI -/
set_option maxHeartbeats 4000000 in
set_option maxRecDepth 100000 in
theorem ContainsFuncI.calls (A0 : Option Addr) (c0 : Nat) (l0 : List Int) (g : Nat) (lb : Array Value) (p : Int → Option Bool) (r : Int) (w : World)
    (eg : ∀ args w, (callFunc g args).run Try.prog w = .ok (.enter g args) w) (hr0 : Kd.C (Kd.int .i64) w A0 l0.length l0)
    (hp : ∀ (x : Int) (b : Bool) (W : World), p x = some b → Below w.heap.size w W → Calls Try.prog g (#[.int .i64 x] ++ lb) W fun e w' => e = .returned (.bool b) ∧ Below w.heap.size w w')
    (h : idxO p l0 0 = some r) :
    Calls Try.prog 60 #[.slice A0 l0.length c0, .func (.func g) #[] lb] w fun e w' => e = .returned (.bool (decide (0 ≤ r))) ∧ Below w.heap.size w w' := by
  have H := IndexFuncI.calls A0 c0 l0 g lb p r w eg hr0 hp h
  clear hp h hr0
  go_enter Try.func60, Try.ntmps60
  go_wp2_with (go_at_call 78; refine H.mono ?_; rintro e w' ⟨rfl, hb'⟩)
  go_ret
  exact ⟨rfl, hb'⟩

/-! ### impl_Term_fault: function 77 (my own text) -/
def impl_Term_fault.p1 (l1 : List S50) (at_ : Int) : Option Bool := (impl_isPlace.f l1 at_).bind fun b => some (!b)
def impl_Term_fault.p2 (l1 : List S50) (at_ : Int) : Option Bool := if 0 ≤ at_ then (if at_ < (l1.length : Int) then some ((rd_T50 l1 at_).f0 != 2) else none) else none
def impl_Term_fault.r (a0_0 a0_1 a0_2 a0_3 : Int) (b1 xa xb xn b2 : Bool) (i j : Int) : Int :=
  if b1 = true then (if (xa = false ∧ a0_1 ≠ 0) ∨ (xb = false ∧ a0_2 ≠ 0) ∨ (xn = false ∧ a0_3 ≠ 0) then 1 else if b2 = true then (if 0 ≤ i then 3 else if a0_0 = 6 ∨ a0_0 = 7 then (if 0 ≤ j then 1 else if a0_0 = 7 ∧ a0_1 > a0_2 then 1 else 0) else 0) else 3) else 5
def impl_Term_fault.f (a0_0 : Int) (a0_1 : Int) (a0_2 : Int) (a0_3 : Int) (l1 : List S50) : Option Int :=
  (impl_in.f a0_0 1 7).bind fun b1 => (impl_namesOf.f 9 a0_0).bind fun x => (impl_in.f a0_3 0 9999).bind fun b2 => (impl_Term_parts.f 9 a0_0 a0_1 a0_2 a0_3).bind fun ps => (idxO (impl_Term_fault.p1 l1) ps 0).bind fun i =>
    (if 0 ≤ i then some 0 else idxO (impl_Term_fault.p2 l1) ps 0).bind fun j => some (impl_Term_fault.r a0_0 a0_1 a0_2 a0_3 b1 x.1 x.2.1 x.2.2 b2 i j)
set_option maxHeartbeats 4000000 in
set_option maxRecDepth 100000 in
theorem impl_Term_fault_lit1.calls (A1 : Option Addr) (c1 : Nat) (l1 : List S50) (x : Int) (b : Bool) (pb : Nat) (w W : World) (hpb : pb < w.heap.size) (e0 : w.cell? ⟨pb, 0, none⟩ = some (.slice A1 l1.length c1))
    (hr : Kd.C k50 w A1 l1.length l1) (hc : l1.length ≤ c1) (hb : Below w.heap.size w W) (h : impl_Term_fault.p1 l1 x = some b) :
    Calls Try.prog 86 #[.int .i64 x, .pointer (some ⟨pb, 0, none⟩)] W fun e w' => e = .returned (.bool b) ∧ Below w.heap.size w w' := by
  replace e0 := (hb.cell (p := ⟨pb, 0, none⟩) hpb).trans e0
  obtain ⟨b', h1, h⟩ := Option.bind_eq_some_iff.mp h
  obtain rfl := Option.some.inj h
  have HH := Aside0.mk (impl_isPlace.calls A1 c1 l1 x b' W (Kd.C_below hr hb) hc h1)
  have HB := Aside0.mk hb
  clear hr hc h h1 hb hpb
  go_enter Try.func86, Try.ntmps86
  go_wp2_with (go_at_call 45; refine HH.out.mono ?_; rintro e w' ⟨rfl, ⟨nd, rfl⟩⟩)
  go_ret
  exact ⟨rfl, pw_below_drewN HB.out nd⟩
set_option maxHeartbeats 4000000 in
set_option maxRecDepth 100000 in
theorem impl_Term_fault_lit2.calls (A1 : Option Addr) (c1 : Nat) (l1 : List S50) (x : Int) (b : Bool) (pb : Nat) (w W : World) (hpb : pb < w.heap.size) (e0 : w.cell? ⟨pb, 0, none⟩ = some (.slice A1 l1.length c1))
    (hr : Kd.C k50 w A1 l1.length l1) (hc : l1.length ≤ c1) (hb : Below w.heap.size w W) (h : impl_Term_fault.p2 l1 x = some b) :
    Calls Try.prog 87 #[.int .i64 x, .pointer (some ⟨pb, 0, none⟩)] W fun e w' => e = .returned (.bool b) ∧ Below w.heap.size w w' := by
  replace e0 := (hb.cell (p := ⟨pb, 0, none⟩) hpb).trans e0
  unfold impl_Term_fault.p2 at h
  by_cases h0 : 0 ≤ x
  · rw [if_pos h0] at h
    by_cases h1 : x < (l1.length : Int)
    · rw [if_pos h1] at h
      obtain rfl := Option.some.inj h
      obtain ⟨ad, e, hx0, hx1, hx2, hx3⟩ := at_T50 (Kd.C_below hr hb) x h0 h1
      cases e
      have HB := Aside0.mk hb
      clear hr hc h hb hpb
      have p1 : (0 ≤ x) = True := eq_true h0
      have q1 : (x < (l1.length : Int)) = True := eq_true h1
      have hu := Try.underlying25
      have hu2 := Try.underlying50
      go_enter Try.func87, Try.ntmps87
      go_wp2
      go_ret
      exact ⟨rfl, HB.out⟩
    · rw [if_neg h1] at h
      exact absurd h (by simp)
  · rw [if_neg h0] at h
    exact absurd h (by simp)
set_option maxHeartbeats 16000000 in
set_option maxRecDepth 100000 in
theorem impl_Term_fault_b (a0_0 : Int) (a0_1 : Int) (a0_2 : Int) (a0_3 : Int) (A1 : Option Addr) (c1 : Nat) (l1 : List S50) (xa_ xb_ xn_ b1_ b2_ : Bool) (ps_ : List Int) (i_ j_ r_ : Int) (w : World) (hc1 : l1.length ≤ c1) (HR1 : Aside0 (Kd.C k50 w A1 l1.length l1)) (eg1 : ∀ args w, (callFunc 86 args).run Try.prog w = .ok (.enter 86 args) w) (eg2 : ∀ args w, (callFunc 87 args).run Try.prog w = .ok (.enter 87 args) w) (H1 : Aside0 (impl_in.f a0_0 1 7 = some b1_)) (H2 : Aside0 (impl_namesOf.f 9 a0_0 = some (xa_, xb_, xn_))) (H3 : Aside0 (impl_in.f a0_3 0 9999 = some b2_))
    (H4 : Aside0 (impl_Term_parts.f 9 a0_0 a0_1 a0_2 a0_3 = some ps_)) (H5 : Aside0 (idxO (impl_Term_fault.p1 l1) ps_ 0 = some i_)) (H6 : Aside0 (i_ < 0 → idxO (impl_Term_fault.p2 l1) ps_ 0 = some j_)) (HV : Aside0 (impl_Term_fault.r a0_0 a0_1 a0_2 a0_3 b1_ xa_ xb_ xn_ b2_ i_ j_ = r_)) (vb1 : b1_ = false) :
    Calls Try.prog 77 #[.agg #[.int .i64 a0_0, .int .i64 a0_1, .int .i64 a0_2, .int .i64 a0_3], .slice A1 l1.length c1] w fun e w' => e = .returned (.int .i64 r_) ∧ Below w.heap.size w w' := by
  skip
  all_goals (
    have BX := Aside0.mk (Boxes.start w)
    have hu1 := Try.underlying50
    have hu2 := Try.underlying25
    have hu3 := Try.underlying99
    go_enter Try.func77, Try.ntmps77
    go_wp2_with (first | ((with_reducible refine gate_dst (N := 2) rfl ?_); refine box_event ?hg (N := 2) ?hd (cs := #[.int .i64 a0_0, .int .i64 a0_1, .int .i64 a0_2, .int .i64 a0_3]) (t := 50) ?hr ?_; (case hd => rfl); (case hg => rfl); (case hr => first | (go_simp; done) | (go_simp; rfl)); intro g2 hg w2_ hbox hb; have BY := Aside0.mk (Boxes.new (w0 := w) (bs := []) (by (with_reducible repeat (first | refine Boxes.drewN ?_ _ | refine Boxes.drew ?_ | refine Boxes.alloc ?_ _)); exact BX.out) hg hbox hb); clear BX hb hbox hg; have BX := BY; clear BY; have q2_0 : World.cell? _ ⟨g2, 0, none⟩ = some (.int .i64 a0_0) := BX.out.cell (i := 0) rfl (j := 0) rfl; have f2_0 : World.frozen? _ ⟨g2, 0, none⟩ = false := BX.out.frozen (i := 0) rfl 0; have q2_1 : World.cell? _ ⟨g2, 1, none⟩ = some (.int .i64 a0_1) := BX.out.cell (i := 0) rfl (j := 1) rfl; have f2_1 : World.frozen? _ ⟨g2, 1, none⟩ = false := BX.out.frozen (i := 0) rfl 1; have q2_2 : World.cell? _ ⟨g2, 2, none⟩ = some (.int .i64 a0_2) := BX.out.cell (i := 0) rfl (j := 2) rfl; have f2_2 : World.frozen? _ ⟨g2, 2, none⟩ = false := BX.out.frozen (i := 0) rfl 2; have q2_3 : World.cell? _ ⟨g2, 3, none⟩ = some (.int .i64 a0_3) := BX.out.cell (i := 0) rfl (j := 3) rfl; have f2_3 : World.frozen? _ ⟨g2, 3, none⟩ = false := BX.out.frozen (i := 0) rfl 3) | ((with_reducible refine gate_dst (N := 3) rfl ?_); refine box_event ?hg (N := 3) ?hd (cs := #[.slice A1 l1.length c1]) (t := 25) ?hr ?_; (case hd => rfl); (case hg => rfl); (case hr => first | (go_simp; done) | (go_simp; rfl)); intro g3 hg w3_ hbox hb; have BY := Aside0.mk (Boxes.new (w0 := w) (bs := [(g2, #[.int .i64 a0_0, .int .i64 a0_1, .int .i64 a0_2, .int .i64 a0_3], 50)]) (by (with_reducible repeat (first | refine Boxes.drewN ?_ _ | refine Boxes.drew ?_ | refine Boxes.alloc ?_ _)); exact BX.out) hg hbox hb); clear BX hb hbox hg; have BX := BY; clear BY; clear q2_0 f2_0 q2_1 f2_1 q2_2 f2_2 q2_3 f2_3; have q3_0 : World.cell? _ ⟨g3, 0, none⟩ = some (.slice A1 l1.length c1) := BX.out.cell (i := 0) rfl (j := 0) rfl; have f3_0 : World.frozen? _ ⟨g3, 0, none⟩ = false := BX.out.frozen (i := 0) rfl 0; have q2_0 : World.cell? _ ⟨g2, 0, none⟩ = some (.int .i64 a0_0) := BX.out.cell (i := 1) rfl (j := 0) rfl; have f2_0 : World.frozen? _ ⟨g2, 0, none⟩ = false := BX.out.frozen (i := 1) rfl 0; have q2_1 : World.cell? _ ⟨g2, 1, none⟩ = some (.int .i64 a0_1) := BX.out.cell (i := 1) rfl (j := 1) rfl; have f2_1 : World.frozen? _ ⟨g2, 1, none⟩ = false := BX.out.frozen (i := 1) rfl 1; have q2_2 : World.cell? _ ⟨g2, 2, none⟩ = some (.int .i64 a0_2) := BX.out.cell (i := 1) rfl (j := 2) rfl; have f2_2 : World.frozen? _ ⟨g2, 2, none⟩ = false := BX.out.frozen (i := 1) rfl 2; have q2_3 : World.cell? _ ⟨g2, 3, none⟩ = some (.int .i64 a0_3) := BX.out.cell (i := 1) rfl (j := 3) rfl; have f2_3 : World.frozen? _ ⟨g2, 3, none⟩ = false := BX.out.frozen (i := 1) rfl 3) | ((with_reducible refine gate_dst (N := 5) rfl ?_); refine box_event ?hg (N := 5) ?hd (cs := #[.bool false, .bool false, .bool false]) (t := 99) ?hr ?_; (case hd => rfl); (case hg => rfl); (case hr => first | (go_simp; done) | (go_simp; rfl)); intro g5 hg w5_ hbox hb; have BY := Aside0.mk (Boxes.new (w0 := w) (bs := [(g3, #[.slice A1 l1.length c1], 25), (g2, #[.int .i64 a0_0, .int .i64 a0_1, .int .i64 a0_2, .int .i64 a0_3], 50)]) (by (with_reducible repeat (first | refine Boxes.drewN ?_ _ | refine Boxes.drew ?_ | refine Boxes.alloc ?_ _)); exact BX.out) hg hbox hb); clear BX hb hbox hg; have BX := BY; clear BY; clear q3_0 f3_0 q2_0 f2_0 q2_1 f2_1 q2_2 f2_2 q2_3 f2_3; have q5_0 : World.cell? _ ⟨g5, 0, none⟩ = some (.bool false) := BX.out.cell (i := 0) rfl (j := 0) rfl; have f5_0 : World.frozen? _ ⟨g5, 0, none⟩ = false := BX.out.frozen (i := 0) rfl 0; have q5_1 : World.cell? _ ⟨g5, 1, none⟩ = some (.bool false) := BX.out.cell (i := 0) rfl (j := 1) rfl; have f5_1 : World.frozen? _ ⟨g5, 1, none⟩ = false := BX.out.frozen (i := 0) rfl 1; have q5_2 : World.cell? _ ⟨g5, 2, none⟩ = some (.bool false) := BX.out.cell (i := 0) rfl (j := 2) rfl; have f5_2 : World.frozen? _ ⟨g5, 2, none⟩ = false := BX.out.frozen (i := 0) rfl 2; have q3_0 : World.cell? _ ⟨g3, 0, none⟩ = some (.slice A1 l1.length c1) := BX.out.cell (i := 1) rfl (j := 0) rfl; have f3_0 : World.frozen? _ ⟨g3, 0, none⟩ = false := BX.out.frozen (i := 1) rfl 0; have q2_0 : World.cell? _ ⟨g2, 0, none⟩ = some (.int .i64 a0_0) := BX.out.cell (i := 2) rfl (j := 0) rfl; have f2_0 : World.frozen? _ ⟨g2, 0, none⟩ = false := BX.out.frozen (i := 2) rfl 0; have q2_1 : World.cell? _ ⟨g2, 1, none⟩ = some (.int .i64 a0_1) := BX.out.cell (i := 2) rfl (j := 1) rfl; have f2_1 : World.frozen? _ ⟨g2, 1, none⟩ = false := BX.out.frozen (i := 2) rfl 1; have q2_2 : World.cell? _ ⟨g2, 2, none⟩ = some (.int .i64 a0_2) := BX.out.cell (i := 2) rfl (j := 2) rfl; have f2_2 : World.frozen? _ ⟨g2, 2, none⟩ = false := BX.out.frozen (i := 2) rfl 2; have q2_3 : World.cell? _ ⟨g2, 3, none⟩ = some (.int .i64 a0_3) := BX.out.cell (i := 2) rfl (j := 3) rfl; have f2_3 : World.frozen? _ ⟨g2, 3, none⟩ = false := BX.out.frozen (i := 2) rfl 3) | (go_at_call 65; first | ((with_reducible refine (impl_in.calls a0_0 1 7 _ _ H1.out).mono ?_); rintro e w' ⟨rfl, ⟨nd, rfl⟩⟩) | ((with_reducible refine (impl_in.calls a0_3 0 9999 _ _ H3.out).mono ?_); rintro e w' ⟨rfl, ⟨nd2, rfl⟩⟩)) | (go_at_call 79; refine (impl_namesOf.calls 9 a0_0 _ _ _ _ H2.out).mono ?_; rintro e w12_ ⟨rfl, hb⟩; have BY := Aside0.mk (Boxes.below (w0 := w) (bs := [(g3, #[.slice A1 l1.length c1], 25), (g2, #[.int .i64 a0_0, .int .i64 a0_1, .int .i64 a0_2, .int .i64 a0_3], 50)]) (by (with_reducible repeat (first | refine Boxes.drewN ?_ _ | refine Boxes.drew ?_ | refine Boxes.alloc ?_ _)); exact BX.out) hb); clear BX hb; have BX := BY; clear BY; clear q3_0 f3_0 q2_0 f2_0 q2_1 f2_1 q2_2 f2_2 q2_3 f2_3; have q3_0 : World.cell? _ ⟨g3, 0, none⟩ = some (.slice A1 l1.length c1) := BX.out.cell (i := 0) rfl (j := 0) rfl; have f3_0 : World.frozen? _ ⟨g3, 0, none⟩ = false := BX.out.frozen (i := 0) rfl 0; have q2_0 : World.cell? _ ⟨g2, 0, none⟩ = some (.int .i64 a0_0) := BX.out.cell (i := 1) rfl (j := 0) rfl; have f2_0 : World.frozen? _ ⟨g2, 0, none⟩ = false := BX.out.frozen (i := 1) rfl 0; have q2_1 : World.cell? _ ⟨g2, 1, none⟩ = some (.int .i64 a0_1) := BX.out.cell (i := 1) rfl (j := 1) rfl; have f2_1 : World.frozen? _ ⟨g2, 1, none⟩ = false := BX.out.frozen (i := 1) rfl 1; have q2_2 : World.cell? _ ⟨g2, 2, none⟩ = some (.int .i64 a0_2) := BX.out.cell (i := 1) rfl (j := 2) rfl; have f2_2 : World.frozen? _ ⟨g2, 2, none⟩ = false := BX.out.frozen (i := 1) rfl 2; have q2_3 : World.cell? _ ⟨g2, 3, none⟩ = some (.int .i64 a0_3) := BX.out.cell (i := 1) rfl (j := 3) rfl; have f2_3 : World.frozen? _ ⟨g2, 3, none⟩ = false := BX.out.frozen (i := 1) rfl 3) | ((with_reducible refine gate_store (t := 99) (p := 5) rfl ?_); refine boxes_store (w0 := w) (bs := [(g5, #[.bool xa_, .bool xb_, .bool xn_], 99), (g3, #[.slice A1 l1.length c1], 25), (g2, #[.int .i64 a0_0, .int .i64 a0_1, .int .i64 a0_2, .int .i64 a0_3], 50)]) (W1 := ((World.setCell w5_ ⟨g5, 0, none⟩ (.bool xa_)).setCell ⟨g5, 1, none⟩ (.bool xb_)).setCell ⟨g5, 2, none⟩ (.bool xn_)) rfl rfl rfl ?hr (((Boxes.put (w0 := w) (b1 := []) (b2 := [(g3, #[.slice A1 l1.length c1], 25), (g2, #[.int .i64 a0_0, .int .i64 a0_1, .int .i64 a0_2, .int .i64 a0_3], 50)]) (g := g5) (cs := #[.bool false, .bool false, .bool false]) (t := 99) BX.out 0 (.bool xa_)).put (b1 := []) 1 (.bool xb_)).put (b1 := []) 2 (.bool xn_)) ?_; (case hr => first | (go_simp; done) | (go_simp; rfl)); intro w13_ BY; have BY := Aside0.mk BY; clear BX; have BX := BY; clear BY; clear q5_0 f5_0 q5_1 f5_1 q5_2 f5_2 q3_0 f3_0 q2_0 f2_0 q2_1 f2_1 q2_2 f2_2 q2_3 f2_3; have q5_0 : World.cell? _ ⟨g5, 0, none⟩ = some (.bool xa_) := BX.out.cell (i := 0) rfl (j := 0) rfl; have f5_0 : World.frozen? _ ⟨g5, 0, none⟩ = false := BX.out.frozen (i := 0) rfl 0; have q5_1 : World.cell? _ ⟨g5, 1, none⟩ = some (.bool xb_) := BX.out.cell (i := 0) rfl (j := 1) rfl; have f5_1 : World.frozen? _ ⟨g5, 1, none⟩ = false := BX.out.frozen (i := 0) rfl 1; have q5_2 : World.cell? _ ⟨g5, 2, none⟩ = some (.bool xn_) := BX.out.cell (i := 0) rfl (j := 2) rfl; have f5_2 : World.frozen? _ ⟨g5, 2, none⟩ = false := BX.out.frozen (i := 0) rfl 2; have q3_0 : World.cell? _ ⟨g3, 0, none⟩ = some (.slice A1 l1.length c1) := BX.out.cell (i := 1) rfl (j := 0) rfl; have f3_0 : World.frozen? _ ⟨g3, 0, none⟩ = false := BX.out.frozen (i := 1) rfl 0; have q2_0 : World.cell? _ ⟨g2, 0, none⟩ = some (.int .i64 a0_0) := BX.out.cell (i := 2) rfl (j := 0) rfl; have f2_0 : World.frozen? _ ⟨g2, 0, none⟩ = false := BX.out.frozen (i := 2) rfl 0; have q2_1 : World.cell? _ ⟨g2, 1, none⟩ = some (.int .i64 a0_1) := BX.out.cell (i := 2) rfl (j := 1) rfl; have f2_1 : World.frozen? _ ⟨g2, 1, none⟩ = false := BX.out.frozen (i := 2) rfl 1; have q2_2 : World.cell? _ ⟨g2, 2, none⟩ = some (.int .i64 a0_2) := BX.out.cell (i := 2) rfl (j := 2) rfl; have f2_2 : World.frozen? _ ⟨g2, 2, none⟩ = false := BX.out.frozen (i := 2) rfl 2; have q2_3 : World.cell? _ ⟨g2, 3, none⟩ = some (.int .i64 a0_3) := BX.out.cell (i := 2) rfl (j := 3) rfl; have f2_3 : World.frozen? _ ⟨g2, 3, none⟩ = false := BX.out.frozen (i := 2) rfl 3) | (go_at_call 62; refine (impl_Term_parts.calls 9 a0_0 a0_1 a0_2 a0_3 _ _ H4.out).mono ?_; rintro e w47_ ⟨pv, rfl, hR, hb⟩; obtain ⟨pA, pc, rfl, _, hC⟩ := Kd.R_reads hR; have HC := Aside0.mk hC; clear hC hR; have BY := Aside0.mk (Boxes.below (w0 := w) (bs := [(g5, #[.bool xa_, .bool xb_, .bool xn_], 99), (g3, #[.slice A1 l1.length c1], 25), (g2, #[.int .i64 a0_0, .int .i64 a0_1, .int .i64 a0_2, .int .i64 a0_3], 50)]) (by (with_reducible repeat (first | refine Boxes.drewN ?_ _ | refine Boxes.drew ?_ | refine Boxes.alloc ?_ _)); exact BX.out) hb); clear BX hb; have BX := BY; clear BY; clear q5_0 f5_0 q5_1 f5_1 q5_2 f5_2 q3_0 f3_0 q2_0 f2_0 q2_1 f2_1 q2_2 f2_2 q2_3 f2_3; have q5_0 : World.cell? _ ⟨g5, 0, none⟩ = some (.bool xa_) := BX.out.cell (i := 0) rfl (j := 0) rfl; have f5_0 : World.frozen? _ ⟨g5, 0, none⟩ = false := BX.out.frozen (i := 0) rfl 0; have q5_1 : World.cell? _ ⟨g5, 1, none⟩ = some (.bool xb_) := BX.out.cell (i := 0) rfl (j := 1) rfl; have f5_1 : World.frozen? _ ⟨g5, 1, none⟩ = false := BX.out.frozen (i := 0) rfl 1; have q5_2 : World.cell? _ ⟨g5, 2, none⟩ = some (.bool xn_) := BX.out.cell (i := 0) rfl (j := 2) rfl; have f5_2 : World.frozen? _ ⟨g5, 2, none⟩ = false := BX.out.frozen (i := 0) rfl 2; have q3_0 : World.cell? _ ⟨g3, 0, none⟩ = some (.slice A1 l1.length c1) := BX.out.cell (i := 1) rfl (j := 0) rfl; have f3_0 : World.frozen? _ ⟨g3, 0, none⟩ = false := BX.out.frozen (i := 1) rfl 0; have q2_0 : World.cell? _ ⟨g2, 0, none⟩ = some (.int .i64 a0_0) := BX.out.cell (i := 2) rfl (j := 0) rfl; have f2_0 : World.frozen? _ ⟨g2, 0, none⟩ = false := BX.out.frozen (i := 2) rfl 0; have q2_1 : World.cell? _ ⟨g2, 1, none⟩ = some (.int .i64 a0_1) := BX.out.cell (i := 2) rfl (j := 1) rfl; have f2_1 : World.frozen? _ ⟨g2, 1, none⟩ = false := BX.out.frozen (i := 2) rfl 1; have q2_2 : World.cell? _ ⟨g2, 2, none⟩ = some (.int .i64 a0_2) := BX.out.cell (i := 2) rfl (j := 2) rfl; have f2_2 : World.frozen? _ ⟨g2, 2, none⟩ = false := BX.out.frozen (i := 2) rfl 2; have q2_3 : World.cell? _ ⟨g2, 3, none⟩ = some (.int .i64 a0_3) := BX.out.cell (i := 2) rfl (j := 3) rfl; have f2_3 : World.frozen? _ ⟨g2, 3, none⟩ = false := BX.out.frozen (i := 2) rfl 3) | (go_at_call 60; refine (ContainsFuncI.calls pA pc ps_ 86 #[.pointer (some ⟨g3, 0, none⟩)] (impl_Term_fault.p1 l1) _ _ eg1 HC.out (fun x b W hx hb2 => impl_Term_fault_lit1.calls A1 c1 l1 x b g3 _ W (BX.out.lt (i := 1) rfl) (BX.out.cell (i := 1) rfl (j := 0) rfl) (Kd.C_below HR1.out BX.out.low) hc1 hb2 hx) H5.out).mono ?_; rintro e w49_ ⟨rfl, hb⟩; clear HC; have BY := Aside0.mk (Boxes.below (w0 := w) (bs := [(g5, #[.bool xa_, .bool xb_, .bool xn_], 99), (g3, #[.slice A1 l1.length c1], 25), (g2, #[.int .i64 a0_0, .int .i64 a0_1, .int .i64 a0_2, .int .i64 a0_3], 50)]) (by (with_reducible repeat (first | refine Boxes.drewN ?_ _ | refine Boxes.drew ?_ | refine Boxes.alloc ?_ _)); exact BX.out) hb); clear BX hb; have BX := BY; clear BY; clear q5_0 f5_0 q5_1 f5_1 q5_2 f5_2 q3_0 f3_0 q2_0 f2_0 q2_1 f2_1 q2_2 f2_2 q2_3 f2_3; have q5_0 : World.cell? _ ⟨g5, 0, none⟩ = some (.bool xa_) := BX.out.cell (i := 0) rfl (j := 0) rfl; have f5_0 : World.frozen? _ ⟨g5, 0, none⟩ = false := BX.out.frozen (i := 0) rfl 0; have q5_1 : World.cell? _ ⟨g5, 1, none⟩ = some (.bool xb_) := BX.out.cell (i := 0) rfl (j := 1) rfl; have f5_1 : World.frozen? _ ⟨g5, 1, none⟩ = false := BX.out.frozen (i := 0) rfl 1; have q5_2 : World.cell? _ ⟨g5, 2, none⟩ = some (.bool xn_) := BX.out.cell (i := 0) rfl (j := 2) rfl; have f5_2 : World.frozen? _ ⟨g5, 2, none⟩ = false := BX.out.frozen (i := 0) rfl 2; have q3_0 : World.cell? _ ⟨g3, 0, none⟩ = some (.slice A1 l1.length c1) := BX.out.cell (i := 1) rfl (j := 0) rfl; have f3_0 : World.frozen? _ ⟨g3, 0, none⟩ = false := BX.out.frozen (i := 1) rfl 0; have q2_0 : World.cell? _ ⟨g2, 0, none⟩ = some (.int .i64 a0_0) := BX.out.cell (i := 2) rfl (j := 0) rfl; have f2_0 : World.frozen? _ ⟨g2, 0, none⟩ = false := BX.out.frozen (i := 2) rfl 0; have q2_1 : World.cell? _ ⟨g2, 1, none⟩ = some (.int .i64 a0_1) := BX.out.cell (i := 2) rfl (j := 1) rfl; have f2_1 : World.frozen? _ ⟨g2, 1, none⟩ = false := BX.out.frozen (i := 2) rfl 1; have q2_2 : World.cell? _ ⟨g2, 2, none⟩ = some (.int .i64 a0_2) := BX.out.cell (i := 2) rfl (j := 2) rfl; have f2_2 : World.frozen? _ ⟨g2, 2, none⟩ = false := BX.out.frozen (i := 2) rfl 2; have q2_3 : World.cell? _ ⟨g2, 3, none⟩ = some (.int .i64 a0_3) := BX.out.cell (i := 2) rfl (j := 3) rfl; have f2_3 : World.frozen? _ ⟨g2, 3, none⟩ = false := BX.out.frozen (i := 2) rfl 3) | (go_at_call 60; refine (ContainsFuncI.calls pA pc ps_ 87 #[.pointer (some ⟨g3, 0, none⟩)] (impl_Term_fault.p2 l1) _ _ eg2 HC.out (fun x b W hx hb2 => impl_Term_fault_lit2.calls A1 c1 l1 x b g3 _ W (BX.out.lt (i := 1) rfl) (BX.out.cell (i := 1) rfl (j := 0) rfl) (Kd.C_below HR1.out BX.out.low) hc1 hb2 hx) (H6.out (Int.not_le.mp (of_decide_eq_false ci)))).mono ?_; rintro e w49_ ⟨rfl, hb⟩; clear HC; have BY := Aside0.mk (Boxes.below (w0 := w) (bs := [(g5, #[.bool xa_, .bool xb_, .bool xn_], 99), (g3, #[.slice A1 l1.length c1], 25), (g2, #[.int .i64 a0_0, .int .i64 a0_1, .int .i64 a0_2, .int .i64 a0_3], 50)]) (by (with_reducible repeat (first | refine Boxes.drewN ?_ _ | refine Boxes.drew ?_ | refine Boxes.alloc ?_ _)); exact BX.out) hb); clear BX hb; have BX := BY; clear BY; clear q5_0 f5_0 q5_1 f5_1 q5_2 f5_2 q3_0 f3_0 q2_0 f2_0 q2_1 f2_1 q2_2 f2_2 q2_3 f2_3; have q5_0 : World.cell? _ ⟨g5, 0, none⟩ = some (.bool xa_) := BX.out.cell (i := 0) rfl (j := 0) rfl; have f5_0 : World.frozen? _ ⟨g5, 0, none⟩ = false := BX.out.frozen (i := 0) rfl 0; have q5_1 : World.cell? _ ⟨g5, 1, none⟩ = some (.bool xb_) := BX.out.cell (i := 0) rfl (j := 1) rfl; have f5_1 : World.frozen? _ ⟨g5, 1, none⟩ = false := BX.out.frozen (i := 0) rfl 1; have q5_2 : World.cell? _ ⟨g5, 2, none⟩ = some (.bool xn_) := BX.out.cell (i := 0) rfl (j := 2) rfl; have f5_2 : World.frozen? _ ⟨g5, 2, none⟩ = false := BX.out.frozen (i := 0) rfl 2; have q3_0 : World.cell? _ ⟨g3, 0, none⟩ = some (.slice A1 l1.length c1) := BX.out.cell (i := 1) rfl (j := 0) rfl; have f3_0 : World.frozen? _ ⟨g3, 0, none⟩ = false := BX.out.frozen (i := 1) rfl 0; have q2_0 : World.cell? _ ⟨g2, 0, none⟩ = some (.int .i64 a0_0) := BX.out.cell (i := 2) rfl (j := 0) rfl; have f2_0 : World.frozen? _ ⟨g2, 0, none⟩ = false := BX.out.frozen (i := 2) rfl 0; have q2_1 : World.cell? _ ⟨g2, 1, none⟩ = some (.int .i64 a0_1) := BX.out.cell (i := 2) rfl (j := 1) rfl; have f2_1 : World.frozen? _ ⟨g2, 1, none⟩ = false := BX.out.frozen (i := 2) rfl 1; have q2_2 : World.cell? _ ⟨g2, 2, none⟩ = some (.int .i64 a0_2) := BX.out.cell (i := 2) rfl (j := 2) rfl; have f2_2 : World.frozen? _ ⟨g2, 2, none⟩ = false := BX.out.frozen (i := 2) rfl 2; have q2_3 : World.cell? _ ⟨g2, 3, none⟩ = some (.int .i64 a0_3) := BX.out.cell (i := 2) rfl (j := 3) rfl; have f2_3 : World.frozen? _ ⟨g2, 3, none⟩ = false := BX.out.frozen (i := 2) rfl 3) | fail)
    go_ret
    refine ⟨congrArg (fun z => Ending.returned (Value.int .i64 z)) ?_, (Boxes.low (w0 := w) (bs := [(g3, #[.slice A1 l1.length c1], 25), (g2, #[.int .i64 a0_0, .int .i64 a0_1, .int .i64 a0_2, .int .i64 a0_3], 50)]) (by (with_reducible repeat (first | refine Boxes.drewN ?_ _ | refine Boxes.drew ?_ | refine Boxes.alloc ?_ _)); exact BX.out))⟩
    rw [← HV.out]
    simp only [impl_Term_fault.r]
    clear HV BX HR1 H1 H2 H3 H4 H5 eg1 eg2 hu1 hu2 hu3
    simp_all
    try ((repeat' split) <;> omega))
set_option maxHeartbeats 16000000 in
set_option maxRecDepth 100000 in
theorem impl_Term_fault_n (a0_0 : Int) (a0_1 : Int) (a0_2 : Int) (a0_3 : Int) (A1 : Option Addr) (c1 : Nat) (l1 : List S50) (xa_ xb_ xn_ b1_ b2_ : Bool) (ps_ : List Int) (i_ j_ r_ : Int) (w : World) (hc1 : l1.length ≤ c1) (HR1 : Aside0 (Kd.C k50 w A1 l1.length l1)) (eg1 : ∀ args w, (callFunc 86 args).run Try.prog w = .ok (.enter 86 args) w) (eg2 : ∀ args w, (callFunc 87 args).run Try.prog w = .ok (.enter 87 args) w) (H1 : Aside0 (impl_in.f a0_0 1 7 = some b1_)) (H2 : Aside0 (impl_namesOf.f 9 a0_0 = some (xa_, xb_, xn_))) (H3 : Aside0 (impl_in.f a0_3 0 9999 = some b2_))
    (H4 : Aside0 (impl_Term_parts.f 9 a0_0 a0_1 a0_2 a0_3 = some ps_)) (H5 : Aside0 (idxO (impl_Term_fault.p1 l1) ps_ 0 = some i_)) (H6 : Aside0 (i_ < 0 → idxO (impl_Term_fault.p2 l1) ps_ 0 = some j_)) (HV : Aside0 (impl_Term_fault.r a0_0 a0_1 a0_2 a0_3 b1_ xa_ xb_ xn_ b2_ i_ j_ = r_)) (vb1 : b1_ = true) (ea : xa_ = false) (eb : xb_ = false) (en : xn_ = true) (o6 : (a0_0 != 6) = true) (o7 : (a0_0 != 7) = true) :
    Calls Try.prog 77 #[.agg #[.int .i64 a0_0, .int .i64 a0_1, .int .i64 a0_2, .int .i64 a0_3], .slice A1 l1.length c1] w fun e w' => e = .returned (.int .i64 r_) ∧ Below w.heap.size w w' := by
  have hp : ((a0_1 != 0) = true) ∨ ((a0_1 != 0) = false ∧ (a0_2 != 0) = true) ∨ ((a0_1 != 0) = false ∧ (a0_2 != 0) = false ∧ b2_ = true ∧ decide (0 ≤ i_) = true) ∨ ((a0_1 != 0) = false ∧ (a0_2 != 0) = false ∧ b2_ = true ∧ decide (0 ≤ i_) = false) ∨ ((a0_1 != 0) = false ∧ (a0_2 != 0) = false ∧ b2_ = false) := by
    rcases Bool.eq_false_or_eq_true ((a0_1 != 0)) with z0 | z0
    · exact .inl z0
    · rcases Bool.eq_false_or_eq_true ((a0_2 != 0)) with z1 | z1
      · exact .inr (.inl ⟨z0, z1⟩)
      · rcases Bool.eq_false_or_eq_true (b2_) with vb | vb
        · rcases Bool.eq_false_or_eq_true (decide (0 ≤ i_)) with ci | ci
          · exact .inr (.inr (.inl ⟨z0, z1, vb, ci⟩))
          · exact .inr (.inr (.inr (.inl ⟨z0, z1, vb, ci⟩)))
        · exact .inr (.inr (.inr (.inr ⟨z0, z1, vb⟩)))
  rcases hp with z0 | ⟨z0, z1⟩ | ⟨z0, z1, vb, ci⟩ | ⟨z0, z1, vb, ci⟩ | ⟨z0, z1, vb⟩
  all_goals (
    have BX := Aside0.mk (Boxes.start w)
    have hu1 := Try.underlying50
    have hu2 := Try.underlying25
    have hu3 := Try.underlying99
    go_enter Try.func77, Try.ntmps77
    go_wp2_with (first | ((with_reducible refine gate_dst (N := 2) rfl ?_); refine box_event ?hg (N := 2) ?hd (cs := #[.int .i64 a0_0, .int .i64 a0_1, .int .i64 a0_2, .int .i64 a0_3]) (t := 50) ?hr ?_; (case hd => rfl); (case hg => rfl); (case hr => first | (go_simp; done) | (go_simp; rfl)); intro g2 hg w2_ hbox hb; have BY := Aside0.mk (Boxes.new (w0 := w) (bs := []) (by (with_reducible repeat (first | refine Boxes.drewN ?_ _ | refine Boxes.drew ?_ | refine Boxes.alloc ?_ _)); exact BX.out) hg hbox hb); clear BX hb hbox hg; have BX := BY; clear BY; have q2_0 : World.cell? _ ⟨g2, 0, none⟩ = some (.int .i64 a0_0) := BX.out.cell (i := 0) rfl (j := 0) rfl; have f2_0 : World.frozen? _ ⟨g2, 0, none⟩ = false := BX.out.frozen (i := 0) rfl 0; have q2_1 : World.cell? _ ⟨g2, 1, none⟩ = some (.int .i64 a0_1) := BX.out.cell (i := 0) rfl (j := 1) rfl; have f2_1 : World.frozen? _ ⟨g2, 1, none⟩ = false := BX.out.frozen (i := 0) rfl 1; have q2_2 : World.cell? _ ⟨g2, 2, none⟩ = some (.int .i64 a0_2) := BX.out.cell (i := 0) rfl (j := 2) rfl; have f2_2 : World.frozen? _ ⟨g2, 2, none⟩ = false := BX.out.frozen (i := 0) rfl 2; have q2_3 : World.cell? _ ⟨g2, 3, none⟩ = some (.int .i64 a0_3) := BX.out.cell (i := 0) rfl (j := 3) rfl; have f2_3 : World.frozen? _ ⟨g2, 3, none⟩ = false := BX.out.frozen (i := 0) rfl 3) | ((with_reducible refine gate_dst (N := 3) rfl ?_); refine box_event ?hg (N := 3) ?hd (cs := #[.slice A1 l1.length c1]) (t := 25) ?hr ?_; (case hd => rfl); (case hg => rfl); (case hr => first | (go_simp; done) | (go_simp; rfl)); intro g3 hg w3_ hbox hb; have BY := Aside0.mk (Boxes.new (w0 := w) (bs := [(g2, #[.int .i64 a0_0, .int .i64 a0_1, .int .i64 a0_2, .int .i64 a0_3], 50)]) (by (with_reducible repeat (first | refine Boxes.drewN ?_ _ | refine Boxes.drew ?_ | refine Boxes.alloc ?_ _)); exact BX.out) hg hbox hb); clear BX hb hbox hg; have BX := BY; clear BY; clear q2_0 f2_0 q2_1 f2_1 q2_2 f2_2 q2_3 f2_3; have q3_0 : World.cell? _ ⟨g3, 0, none⟩ = some (.slice A1 l1.length c1) := BX.out.cell (i := 0) rfl (j := 0) rfl; have f3_0 : World.frozen? _ ⟨g3, 0, none⟩ = false := BX.out.frozen (i := 0) rfl 0; have q2_0 : World.cell? _ ⟨g2, 0, none⟩ = some (.int .i64 a0_0) := BX.out.cell (i := 1) rfl (j := 0) rfl; have f2_0 : World.frozen? _ ⟨g2, 0, none⟩ = false := BX.out.frozen (i := 1) rfl 0; have q2_1 : World.cell? _ ⟨g2, 1, none⟩ = some (.int .i64 a0_1) := BX.out.cell (i := 1) rfl (j := 1) rfl; have f2_1 : World.frozen? _ ⟨g2, 1, none⟩ = false := BX.out.frozen (i := 1) rfl 1; have q2_2 : World.cell? _ ⟨g2, 2, none⟩ = some (.int .i64 a0_2) := BX.out.cell (i := 1) rfl (j := 2) rfl; have f2_2 : World.frozen? _ ⟨g2, 2, none⟩ = false := BX.out.frozen (i := 1) rfl 2; have q2_3 : World.cell? _ ⟨g2, 3, none⟩ = some (.int .i64 a0_3) := BX.out.cell (i := 1) rfl (j := 3) rfl; have f2_3 : World.frozen? _ ⟨g2, 3, none⟩ = false := BX.out.frozen (i := 1) rfl 3) | ((with_reducible refine gate_dst (N := 5) rfl ?_); refine box_event ?hg (N := 5) ?hd (cs := #[.bool false, .bool false, .bool false]) (t := 99) ?hr ?_; (case hd => rfl); (case hg => rfl); (case hr => first | (go_simp; done) | (go_simp; rfl)); intro g5 hg w5_ hbox hb; have BY := Aside0.mk (Boxes.new (w0 := w) (bs := [(g3, #[.slice A1 l1.length c1], 25), (g2, #[.int .i64 a0_0, .int .i64 a0_1, .int .i64 a0_2, .int .i64 a0_3], 50)]) (by (with_reducible repeat (first | refine Boxes.drewN ?_ _ | refine Boxes.drew ?_ | refine Boxes.alloc ?_ _)); exact BX.out) hg hbox hb); clear BX hb hbox hg; have BX := BY; clear BY; clear q3_0 f3_0 q2_0 f2_0 q2_1 f2_1 q2_2 f2_2 q2_3 f2_3; have q5_0 : World.cell? _ ⟨g5, 0, none⟩ = some (.bool false) := BX.out.cell (i := 0) rfl (j := 0) rfl; have f5_0 : World.frozen? _ ⟨g5, 0, none⟩ = false := BX.out.frozen (i := 0) rfl 0; have q5_1 : World.cell? _ ⟨g5, 1, none⟩ = some (.bool false) := BX.out.cell (i := 0) rfl (j := 1) rfl; have f5_1 : World.frozen? _ ⟨g5, 1, none⟩ = false := BX.out.frozen (i := 0) rfl 1; have q5_2 : World.cell? _ ⟨g5, 2, none⟩ = some (.bool false) := BX.out.cell (i := 0) rfl (j := 2) rfl; have f5_2 : World.frozen? _ ⟨g5, 2, none⟩ = false := BX.out.frozen (i := 0) rfl 2; have q3_0 : World.cell? _ ⟨g3, 0, none⟩ = some (.slice A1 l1.length c1) := BX.out.cell (i := 1) rfl (j := 0) rfl; have f3_0 : World.frozen? _ ⟨g3, 0, none⟩ = false := BX.out.frozen (i := 1) rfl 0; have q2_0 : World.cell? _ ⟨g2, 0, none⟩ = some (.int .i64 a0_0) := BX.out.cell (i := 2) rfl (j := 0) rfl; have f2_0 : World.frozen? _ ⟨g2, 0, none⟩ = false := BX.out.frozen (i := 2) rfl 0; have q2_1 : World.cell? _ ⟨g2, 1, none⟩ = some (.int .i64 a0_1) := BX.out.cell (i := 2) rfl (j := 1) rfl; have f2_1 : World.frozen? _ ⟨g2, 1, none⟩ = false := BX.out.frozen (i := 2) rfl 1; have q2_2 : World.cell? _ ⟨g2, 2, none⟩ = some (.int .i64 a0_2) := BX.out.cell (i := 2) rfl (j := 2) rfl; have f2_2 : World.frozen? _ ⟨g2, 2, none⟩ = false := BX.out.frozen (i := 2) rfl 2; have q2_3 : World.cell? _ ⟨g2, 3, none⟩ = some (.int .i64 a0_3) := BX.out.cell (i := 2) rfl (j := 3) rfl; have f2_3 : World.frozen? _ ⟨g2, 3, none⟩ = false := BX.out.frozen (i := 2) rfl 3) | (go_at_call 65; first | ((with_reducible refine (impl_in.calls a0_0 1 7 _ _ H1.out).mono ?_); rintro e w' ⟨rfl, ⟨nd, rfl⟩⟩) | ((with_reducible refine (impl_in.calls a0_3 0 9999 _ _ H3.out).mono ?_); rintro e w' ⟨rfl, ⟨nd2, rfl⟩⟩)) | (go_at_call 79; refine (impl_namesOf.calls 9 a0_0 _ _ _ _ H2.out).mono ?_; rintro e w12_ ⟨rfl, hb⟩; have BY := Aside0.mk (Boxes.below (w0 := w) (bs := [(g3, #[.slice A1 l1.length c1], 25), (g2, #[.int .i64 a0_0, .int .i64 a0_1, .int .i64 a0_2, .int .i64 a0_3], 50)]) (by (with_reducible repeat (first | refine Boxes.drewN ?_ _ | refine Boxes.drew ?_ | refine Boxes.alloc ?_ _)); exact BX.out) hb); clear BX hb; have BX := BY; clear BY; clear q3_0 f3_0 q2_0 f2_0 q2_1 f2_1 q2_2 f2_2 q2_3 f2_3; have q3_0 : World.cell? _ ⟨g3, 0, none⟩ = some (.slice A1 l1.length c1) := BX.out.cell (i := 0) rfl (j := 0) rfl; have f3_0 : World.frozen? _ ⟨g3, 0, none⟩ = false := BX.out.frozen (i := 0) rfl 0; have q2_0 : World.cell? _ ⟨g2, 0, none⟩ = some (.int .i64 a0_0) := BX.out.cell (i := 1) rfl (j := 0) rfl; have f2_0 : World.frozen? _ ⟨g2, 0, none⟩ = false := BX.out.frozen (i := 1) rfl 0; have q2_1 : World.cell? _ ⟨g2, 1, none⟩ = some (.int .i64 a0_1) := BX.out.cell (i := 1) rfl (j := 1) rfl; have f2_1 : World.frozen? _ ⟨g2, 1, none⟩ = false := BX.out.frozen (i := 1) rfl 1; have q2_2 : World.cell? _ ⟨g2, 2, none⟩ = some (.int .i64 a0_2) := BX.out.cell (i := 1) rfl (j := 2) rfl; have f2_2 : World.frozen? _ ⟨g2, 2, none⟩ = false := BX.out.frozen (i := 1) rfl 2; have q2_3 : World.cell? _ ⟨g2, 3, none⟩ = some (.int .i64 a0_3) := BX.out.cell (i := 1) rfl (j := 3) rfl; have f2_3 : World.frozen? _ ⟨g2, 3, none⟩ = false := BX.out.frozen (i := 1) rfl 3) | ((with_reducible refine gate_store (t := 99) (p := 5) rfl ?_); refine boxes_store (w0 := w) (bs := [(g5, #[.bool xa_, .bool xb_, .bool xn_], 99), (g3, #[.slice A1 l1.length c1], 25), (g2, #[.int .i64 a0_0, .int .i64 a0_1, .int .i64 a0_2, .int .i64 a0_3], 50)]) (W1 := ((World.setCell w5_ ⟨g5, 0, none⟩ (.bool xa_)).setCell ⟨g5, 1, none⟩ (.bool xb_)).setCell ⟨g5, 2, none⟩ (.bool xn_)) rfl rfl rfl ?hr (((Boxes.put (w0 := w) (b1 := []) (b2 := [(g3, #[.slice A1 l1.length c1], 25), (g2, #[.int .i64 a0_0, .int .i64 a0_1, .int .i64 a0_2, .int .i64 a0_3], 50)]) (g := g5) (cs := #[.bool false, .bool false, .bool false]) (t := 99) BX.out 0 (.bool xa_)).put (b1 := []) 1 (.bool xb_)).put (b1 := []) 2 (.bool xn_)) ?_; (case hr => first | (go_simp; done) | (go_simp; rfl)); intro w13_ BY; have BY := Aside0.mk BY; clear BX; have BX := BY; clear BY; clear q5_0 f5_0 q5_1 f5_1 q5_2 f5_2 q3_0 f3_0 q2_0 f2_0 q2_1 f2_1 q2_2 f2_2 q2_3 f2_3; have q5_0 : World.cell? _ ⟨g5, 0, none⟩ = some (.bool xa_) := BX.out.cell (i := 0) rfl (j := 0) rfl; have f5_0 : World.frozen? _ ⟨g5, 0, none⟩ = false := BX.out.frozen (i := 0) rfl 0; have q5_1 : World.cell? _ ⟨g5, 1, none⟩ = some (.bool xb_) := BX.out.cell (i := 0) rfl (j := 1) rfl; have f5_1 : World.frozen? _ ⟨g5, 1, none⟩ = false := BX.out.frozen (i := 0) rfl 1; have q5_2 : World.cell? _ ⟨g5, 2, none⟩ = some (.bool xn_) := BX.out.cell (i := 0) rfl (j := 2) rfl; have f5_2 : World.frozen? _ ⟨g5, 2, none⟩ = false := BX.out.frozen (i := 0) rfl 2; have q3_0 : World.cell? _ ⟨g3, 0, none⟩ = some (.slice A1 l1.length c1) := BX.out.cell (i := 1) rfl (j := 0) rfl; have f3_0 : World.frozen? _ ⟨g3, 0, none⟩ = false := BX.out.frozen (i := 1) rfl 0; have q2_0 : World.cell? _ ⟨g2, 0, none⟩ = some (.int .i64 a0_0) := BX.out.cell (i := 2) rfl (j := 0) rfl; have f2_0 : World.frozen? _ ⟨g2, 0, none⟩ = false := BX.out.frozen (i := 2) rfl 0; have q2_1 : World.cell? _ ⟨g2, 1, none⟩ = some (.int .i64 a0_1) := BX.out.cell (i := 2) rfl (j := 1) rfl; have f2_1 : World.frozen? _ ⟨g2, 1, none⟩ = false := BX.out.frozen (i := 2) rfl 1; have q2_2 : World.cell? _ ⟨g2, 2, none⟩ = some (.int .i64 a0_2) := BX.out.cell (i := 2) rfl (j := 2) rfl; have f2_2 : World.frozen? _ ⟨g2, 2, none⟩ = false := BX.out.frozen (i := 2) rfl 2; have q2_3 : World.cell? _ ⟨g2, 3, none⟩ = some (.int .i64 a0_3) := BX.out.cell (i := 2) rfl (j := 3) rfl; have f2_3 : World.frozen? _ ⟨g2, 3, none⟩ = false := BX.out.frozen (i := 2) rfl 3) | (go_at_call 62; refine (impl_Term_parts.calls 9 a0_0 a0_1 a0_2 a0_3 _ _ H4.out).mono ?_; rintro e w47_ ⟨pv, rfl, hR, hb⟩; obtain ⟨pA, pc, rfl, _, hC⟩ := Kd.R_reads hR; have HC := Aside0.mk hC; clear hC hR; have BY := Aside0.mk (Boxes.below (w0 := w) (bs := [(g5, #[.bool xa_, .bool xb_, .bool xn_], 99), (g3, #[.slice A1 l1.length c1], 25), (g2, #[.int .i64 a0_0, .int .i64 a0_1, .int .i64 a0_2, .int .i64 a0_3], 50)]) (by (with_reducible repeat (first | refine Boxes.drewN ?_ _ | refine Boxes.drew ?_ | refine Boxes.alloc ?_ _)); exact BX.out) hb); clear BX hb; have BX := BY; clear BY; clear q5_0 f5_0 q5_1 f5_1 q5_2 f5_2 q3_0 f3_0 q2_0 f2_0 q2_1 f2_1 q2_2 f2_2 q2_3 f2_3; have q5_0 : World.cell? _ ⟨g5, 0, none⟩ = some (.bool xa_) := BX.out.cell (i := 0) rfl (j := 0) rfl; have f5_0 : World.frozen? _ ⟨g5, 0, none⟩ = false := BX.out.frozen (i := 0) rfl 0; have q5_1 : World.cell? _ ⟨g5, 1, none⟩ = some (.bool xb_) := BX.out.cell (i := 0) rfl (j := 1) rfl; have f5_1 : World.frozen? _ ⟨g5, 1, none⟩ = false := BX.out.frozen (i := 0) rfl 1; have q5_2 : World.cell? _ ⟨g5, 2, none⟩ = some (.bool xn_) := BX.out.cell (i := 0) rfl (j := 2) rfl; have f5_2 : World.frozen? _ ⟨g5, 2, none⟩ = false := BX.out.frozen (i := 0) rfl 2; have q3_0 : World.cell? _ ⟨g3, 0, none⟩ = some (.slice A1 l1.length c1) := BX.out.cell (i := 1) rfl (j := 0) rfl; have f3_0 : World.frozen? _ ⟨g3, 0, none⟩ = false := BX.out.frozen (i := 1) rfl 0; have q2_0 : World.cell? _ ⟨g2, 0, none⟩ = some (.int .i64 a0_0) := BX.out.cell (i := 2) rfl (j := 0) rfl; have f2_0 : World.frozen? _ ⟨g2, 0, none⟩ = false := BX.out.frozen (i := 2) rfl 0; have q2_1 : World.cell? _ ⟨g2, 1, none⟩ = some (.int .i64 a0_1) := BX.out.cell (i := 2) rfl (j := 1) rfl; have f2_1 : World.frozen? _ ⟨g2, 1, none⟩ = false := BX.out.frozen (i := 2) rfl 1; have q2_2 : World.cell? _ ⟨g2, 2, none⟩ = some (.int .i64 a0_2) := BX.out.cell (i := 2) rfl (j := 2) rfl; have f2_2 : World.frozen? _ ⟨g2, 2, none⟩ = false := BX.out.frozen (i := 2) rfl 2; have q2_3 : World.cell? _ ⟨g2, 3, none⟩ = some (.int .i64 a0_3) := BX.out.cell (i := 2) rfl (j := 3) rfl; have f2_3 : World.frozen? _ ⟨g2, 3, none⟩ = false := BX.out.frozen (i := 2) rfl 3) | (go_at_call 60; refine (ContainsFuncI.calls pA pc ps_ 86 #[.pointer (some ⟨g3, 0, none⟩)] (impl_Term_fault.p1 l1) _ _ eg1 HC.out (fun x b W hx hb2 => impl_Term_fault_lit1.calls A1 c1 l1 x b g3 _ W (BX.out.lt (i := 1) rfl) (BX.out.cell (i := 1) rfl (j := 0) rfl) (Kd.C_below HR1.out BX.out.low) hc1 hb2 hx) H5.out).mono ?_; rintro e w49_ ⟨rfl, hb⟩; clear HC; have BY := Aside0.mk (Boxes.below (w0 := w) (bs := [(g5, #[.bool xa_, .bool xb_, .bool xn_], 99), (g3, #[.slice A1 l1.length c1], 25), (g2, #[.int .i64 a0_0, .int .i64 a0_1, .int .i64 a0_2, .int .i64 a0_3], 50)]) (by (with_reducible repeat (first | refine Boxes.drewN ?_ _ | refine Boxes.drew ?_ | refine Boxes.alloc ?_ _)); exact BX.out) hb); clear BX hb; have BX := BY; clear BY; clear q5_0 f5_0 q5_1 f5_1 q5_2 f5_2 q3_0 f3_0 q2_0 f2_0 q2_1 f2_1 q2_2 f2_2 q2_3 f2_3; have q5_0 : World.cell? _ ⟨g5, 0, none⟩ = some (.bool xa_) := BX.out.cell (i := 0) rfl (j := 0) rfl; have f5_0 : World.frozen? _ ⟨g5, 0, none⟩ = false := BX.out.frozen (i := 0) rfl 0; have q5_1 : World.cell? _ ⟨g5, 1, none⟩ = some (.bool xb_) := BX.out.cell (i := 0) rfl (j := 1) rfl; have f5_1 : World.frozen? _ ⟨g5, 1, none⟩ = false := BX.out.frozen (i := 0) rfl 1; have q5_2 : World.cell? _ ⟨g5, 2, none⟩ = some (.bool xn_) := BX.out.cell (i := 0) rfl (j := 2) rfl; have f5_2 : World.frozen? _ ⟨g5, 2, none⟩ = false := BX.out.frozen (i := 0) rfl 2; have q3_0 : World.cell? _ ⟨g3, 0, none⟩ = some (.slice A1 l1.length c1) := BX.out.cell (i := 1) rfl (j := 0) rfl; have f3_0 : World.frozen? _ ⟨g3, 0, none⟩ = false := BX.out.frozen (i := 1) rfl 0; have q2_0 : World.cell? _ ⟨g2, 0, none⟩ = some (.int .i64 a0_0) := BX.out.cell (i := 2) rfl (j := 0) rfl; have f2_0 : World.frozen? _ ⟨g2, 0, none⟩ = false := BX.out.frozen (i := 2) rfl 0; have q2_1 : World.cell? _ ⟨g2, 1, none⟩ = some (.int .i64 a0_1) := BX.out.cell (i := 2) rfl (j := 1) rfl; have f2_1 : World.frozen? _ ⟨g2, 1, none⟩ = false := BX.out.frozen (i := 2) rfl 1; have q2_2 : World.cell? _ ⟨g2, 2, none⟩ = some (.int .i64 a0_2) := BX.out.cell (i := 2) rfl (j := 2) rfl; have f2_2 : World.frozen? _ ⟨g2, 2, none⟩ = false := BX.out.frozen (i := 2) rfl 2; have q2_3 : World.cell? _ ⟨g2, 3, none⟩ = some (.int .i64 a0_3) := BX.out.cell (i := 2) rfl (j := 3) rfl; have f2_3 : World.frozen? _ ⟨g2, 3, none⟩ = false := BX.out.frozen (i := 2) rfl 3) | (go_at_call 60; refine (ContainsFuncI.calls pA pc ps_ 87 #[.pointer (some ⟨g3, 0, none⟩)] (impl_Term_fault.p2 l1) _ _ eg2 HC.out (fun x b W hx hb2 => impl_Term_fault_lit2.calls A1 c1 l1 x b g3 _ W (BX.out.lt (i := 1) rfl) (BX.out.cell (i := 1) rfl (j := 0) rfl) (Kd.C_below HR1.out BX.out.low) hc1 hb2 hx) (H6.out (Int.not_le.mp (of_decide_eq_false ci)))).mono ?_; rintro e w49_ ⟨rfl, hb⟩; clear HC; have BY := Aside0.mk (Boxes.below (w0 := w) (bs := [(g5, #[.bool xa_, .bool xb_, .bool xn_], 99), (g3, #[.slice A1 l1.length c1], 25), (g2, #[.int .i64 a0_0, .int .i64 a0_1, .int .i64 a0_2, .int .i64 a0_3], 50)]) (by (with_reducible repeat (first | refine Boxes.drewN ?_ _ | refine Boxes.drew ?_ | refine Boxes.alloc ?_ _)); exact BX.out) hb); clear BX hb; have BX := BY; clear BY; clear q5_0 f5_0 q5_1 f5_1 q5_2 f5_2 q3_0 f3_0 q2_0 f2_0 q2_1 f2_1 q2_2 f2_2 q2_3 f2_3; have q5_0 : World.cell? _ ⟨g5, 0, none⟩ = some (.bool xa_) := BX.out.cell (i := 0) rfl (j := 0) rfl; have f5_0 : World.frozen? _ ⟨g5, 0, none⟩ = false := BX.out.frozen (i := 0) rfl 0; have q5_1 : World.cell? _ ⟨g5, 1, none⟩ = some (.bool xb_) := BX.out.cell (i := 0) rfl (j := 1) rfl; have f5_1 : World.frozen? _ ⟨g5, 1, none⟩ = false := BX.out.frozen (i := 0) rfl 1; have q5_2 : World.cell? _ ⟨g5, 2, none⟩ = some (.bool xn_) := BX.out.cell (i := 0) rfl (j := 2) rfl; have f5_2 : World.frozen? _ ⟨g5, 2, none⟩ = false := BX.out.frozen (i := 0) rfl 2; have q3_0 : World.cell? _ ⟨g3, 0, none⟩ = some (.slice A1 l1.length c1) := BX.out.cell (i := 1) rfl (j := 0) rfl; have f3_0 : World.frozen? _ ⟨g3, 0, none⟩ = false := BX.out.frozen (i := 1) rfl 0; have q2_0 : World.cell? _ ⟨g2, 0, none⟩ = some (.int .i64 a0_0) := BX.out.cell (i := 2) rfl (j := 0) rfl; have f2_0 : World.frozen? _ ⟨g2, 0, none⟩ = false := BX.out.frozen (i := 2) rfl 0; have q2_1 : World.cell? _ ⟨g2, 1, none⟩ = some (.int .i64 a0_1) := BX.out.cell (i := 2) rfl (j := 1) rfl; have f2_1 : World.frozen? _ ⟨g2, 1, none⟩ = false := BX.out.frozen (i := 2) rfl 1; have q2_2 : World.cell? _ ⟨g2, 2, none⟩ = some (.int .i64 a0_2) := BX.out.cell (i := 2) rfl (j := 2) rfl; have f2_2 : World.frozen? _ ⟨g2, 2, none⟩ = false := BX.out.frozen (i := 2) rfl 2; have q2_3 : World.cell? _ ⟨g2, 3, none⟩ = some (.int .i64 a0_3) := BX.out.cell (i := 2) rfl (j := 3) rfl; have f2_3 : World.frozen? _ ⟨g2, 3, none⟩ = false := BX.out.frozen (i := 2) rfl 3) | fail)
    go_ret
    refine ⟨congrArg (fun z => Ending.returned (Value.int .i64 z)) ?_, (Boxes.low (w0 := w) (bs := [(g5, #[.bool xa_, .bool xb_, .bool xn_], 99), (g3, #[.slice A1 l1.length c1], 25), (g2, #[.int .i64 a0_0, .int .i64 a0_1, .int .i64 a0_2, .int .i64 a0_3], 50)]) (by (with_reducible repeat (first | refine Boxes.drewN ?_ _ | refine Boxes.drew ?_ | refine Boxes.alloc ?_ _)); exact BX.out))⟩
    rw [← HV.out]
    simp only [impl_Term_fault.r]
    clear HV BX HR1 H1 H2 H3 H4 H5 eg1 eg2 hu1 hu2 hu3
    simp_all
    try ((repeat' split) <;> omega))
set_option maxHeartbeats 16000000 in
set_option maxRecDepth 100000 in
theorem impl_Term_fault_h (a0_0 : Int) (a0_1 : Int) (a0_2 : Int) (a0_3 : Int) (A1 : Option Addr) (c1 : Nat) (l1 : List S50) (xa_ xb_ xn_ b1_ b2_ : Bool) (ps_ : List Int) (i_ j_ r_ : Int) (w : World) (hc1 : l1.length ≤ c1) (HR1 : Aside0 (Kd.C k50 w A1 l1.length l1)) (eg1 : ∀ args w, (callFunc 86 args).run Try.prog w = .ok (.enter 86 args) w) (eg2 : ∀ args w, (callFunc 87 args).run Try.prog w = .ok (.enter 87 args) w) (H1 : Aside0 (impl_in.f a0_0 1 7 = some b1_)) (H2 : Aside0 (impl_namesOf.f 9 a0_0 = some (xa_, xb_, xn_))) (H3 : Aside0 (impl_in.f a0_3 0 9999 = some b2_))
    (H4 : Aside0 (impl_Term_parts.f 9 a0_0 a0_1 a0_2 a0_3 = some ps_)) (H5 : Aside0 (idxO (impl_Term_fault.p1 l1) ps_ 0 = some i_)) (H6 : Aside0 (i_ < 0 → idxO (impl_Term_fault.p2 l1) ps_ 0 = some j_)) (HV : Aside0 (impl_Term_fault.r a0_0 a0_1 a0_2 a0_3 b1_ xa_ xb_ xn_ b2_ i_ j_ = r_)) (vb1 : b1_ = true) (ea : xa_ = true) (eb : xb_ = false) (en : xn_ = false) (o6 : (a0_0 != 6) = false) (e7 : (a0_0 == 7) = false) :
    Calls Try.prog 77 #[.agg #[.int .i64 a0_0, .int .i64 a0_1, .int .i64 a0_2, .int .i64 a0_3], .slice A1 l1.length c1] w fun e w' => e = .returned (.int .i64 r_) ∧ Below w.heap.size w w' := by
  have hp : ((a0_2 != 0) = true) ∨ ((a0_2 != 0) = false ∧ (a0_3 != 0) = true) ∨ ((a0_2 != 0) = false ∧ (a0_3 != 0) = false ∧ b2_ = true ∧ decide (0 ≤ i_) = true) ∨ ((a0_2 != 0) = false ∧ (a0_3 != 0) = false ∧ b2_ = true ∧ decide (0 ≤ i_) = false ∧ decide (0 ≤ j_) = true) ∨ ((a0_2 != 0) = false ∧ (a0_3 != 0) = false ∧ b2_ = true ∧ decide (0 ≤ i_) = false ∧ decide (0 ≤ j_) = false) ∨ ((a0_2 != 0) = false ∧ (a0_3 != 0) = false ∧ b2_ = false) := by
    rcases Bool.eq_false_or_eq_true ((a0_2 != 0)) with z1 | z1
    · exact .inl z1
    · rcases Bool.eq_false_or_eq_true ((a0_3 != 0)) with z2 | z2
      · exact .inr (.inl ⟨z1, z2⟩)
      · rcases Bool.eq_false_or_eq_true (b2_) with vb | vb
        · rcases Bool.eq_false_or_eq_true (decide (0 ≤ i_)) with ci | ci
          · exact .inr (.inr (.inl ⟨z1, z2, vb, ci⟩))
          · rcases Bool.eq_false_or_eq_true (decide (0 ≤ j_)) with cj | cj
            · exact .inr (.inr (.inr (.inl ⟨z1, z2, vb, ci, cj⟩)))
            · exact .inr (.inr (.inr (.inr (.inl ⟨z1, z2, vb, ci, cj⟩))))
        · exact .inr (.inr (.inr (.inr (.inr ⟨z1, z2, vb⟩))))
  rcases hp with z1 | ⟨z1, z2⟩ | ⟨z1, z2, vb, ci⟩ | ⟨z1, z2, vb, ci, cj⟩ | ⟨z1, z2, vb, ci, cj⟩ | ⟨z1, z2, vb⟩
  all_goals (
    have BX := Aside0.mk (Boxes.start w)
    have hu1 := Try.underlying50
    have hu2 := Try.underlying25
    have hu3 := Try.underlying99
    go_enter Try.func77, Try.ntmps77
    go_wp2_with (first | ((with_reducible refine gate_dst (N := 2) rfl ?_); refine box_event ?hg (N := 2) ?hd (cs := #[.int .i64 a0_0, .int .i64 a0_1, .int .i64 a0_2, .int .i64 a0_3]) (t := 50) ?hr ?_; (case hd => rfl); (case hg => rfl); (case hr => first | (go_simp; done) | (go_simp; rfl)); intro g2 hg w2_ hbox hb; have BY := Aside0.mk (Boxes.new (w0 := w) (bs := []) (by (with_reducible repeat (first | refine Boxes.drewN ?_ _ | refine Boxes.drew ?_ | refine Boxes.alloc ?_ _)); exact BX.out) hg hbox hb); clear BX hb hbox hg; have BX := BY; clear BY; have q2_0 : World.cell? _ ⟨g2, 0, none⟩ = some (.int .i64 a0_0) := BX.out.cell (i := 0) rfl (j := 0) rfl; have f2_0 : World.frozen? _ ⟨g2, 0, none⟩ = false := BX.out.frozen (i := 0) rfl 0; have q2_1 : World.cell? _ ⟨g2, 1, none⟩ = some (.int .i64 a0_1) := BX.out.cell (i := 0) rfl (j := 1) rfl; have f2_1 : World.frozen? _ ⟨g2, 1, none⟩ = false := BX.out.frozen (i := 0) rfl 1; have q2_2 : World.cell? _ ⟨g2, 2, none⟩ = some (.int .i64 a0_2) := BX.out.cell (i := 0) rfl (j := 2) rfl; have f2_2 : World.frozen? _ ⟨g2, 2, none⟩ = false := BX.out.frozen (i := 0) rfl 2; have q2_3 : World.cell? _ ⟨g2, 3, none⟩ = some (.int .i64 a0_3) := BX.out.cell (i := 0) rfl (j := 3) rfl; have f2_3 : World.frozen? _ ⟨g2, 3, none⟩ = false := BX.out.frozen (i := 0) rfl 3) | ((with_reducible refine gate_dst (N := 3) rfl ?_); refine box_event ?hg (N := 3) ?hd (cs := #[.slice A1 l1.length c1]) (t := 25) ?hr ?_; (case hd => rfl); (case hg => rfl); (case hr => first | (go_simp; done) | (go_simp; rfl)); intro g3 hg w3_ hbox hb; have BY := Aside0.mk (Boxes.new (w0 := w) (bs := [(g2, #[.int .i64 a0_0, .int .i64 a0_1, .int .i64 a0_2, .int .i64 a0_3], 50)]) (by (with_reducible repeat (first | refine Boxes.drewN ?_ _ | refine Boxes.drew ?_ | refine Boxes.alloc ?_ _)); exact BX.out) hg hbox hb); clear BX hb hbox hg; have BX := BY; clear BY; clear q2_0 f2_0 q2_1 f2_1 q2_2 f2_2 q2_3 f2_3; have q3_0 : World.cell? _ ⟨g3, 0, none⟩ = some (.slice A1 l1.length c1) := BX.out.cell (i := 0) rfl (j := 0) rfl; have f3_0 : World.frozen? _ ⟨g3, 0, none⟩ = false := BX.out.frozen (i := 0) rfl 0; have q2_0 : World.cell? _ ⟨g2, 0, none⟩ = some (.int .i64 a0_0) := BX.out.cell (i := 1) rfl (j := 0) rfl; have f2_0 : World.frozen? _ ⟨g2, 0, none⟩ = false := BX.out.frozen (i := 1) rfl 0; have q2_1 : World.cell? _ ⟨g2, 1, none⟩ = some (.int .i64 a0_1) := BX.out.cell (i := 1) rfl (j := 1) rfl; have f2_1 : World.frozen? _ ⟨g2, 1, none⟩ = false := BX.out.frozen (i := 1) rfl 1; have q2_2 : World.cell? _ ⟨g2, 2, none⟩ = some (.int .i64 a0_2) := BX.out.cell (i := 1) rfl (j := 2) rfl; have f2_2 : World.frozen? _ ⟨g2, 2, none⟩ = false := BX.out.frozen (i := 1) rfl 2; have q2_3 : World.cell? _ ⟨g2, 3, none⟩ = some (.int .i64 a0_3) := BX.out.cell (i := 1) rfl (j := 3) rfl; have f2_3 : World.frozen? _ ⟨g2, 3, none⟩ = false := BX.out.frozen (i := 1) rfl 3) | ((with_reducible refine gate_dst (N := 5) rfl ?_); refine box_event ?hg (N := 5) ?hd (cs := #[.bool false, .bool false, .bool false]) (t := 99) ?hr ?_; (case hd => rfl); (case hg => rfl); (case hr => first | (go_simp; done) | (go_simp; rfl)); intro g5 hg w5_ hbox hb; have BY := Aside0.mk (Boxes.new (w0 := w) (bs := [(g3, #[.slice A1 l1.length c1], 25), (g2, #[.int .i64 a0_0, .int .i64 a0_1, .int .i64 a0_2, .int .i64 a0_3], 50)]) (by (with_reducible repeat (first | refine Boxes.drewN ?_ _ | refine Boxes.drew ?_ | refine Boxes.alloc ?_ _)); exact BX.out) hg hbox hb); clear BX hb hbox hg; have BX := BY; clear BY; clear q3_0 f3_0 q2_0 f2_0 q2_1 f2_1 q2_2 f2_2 q2_3 f2_3; have q5_0 : World.cell? _ ⟨g5, 0, none⟩ = some (.bool false) := BX.out.cell (i := 0) rfl (j := 0) rfl; have f5_0 : World.frozen? _ ⟨g5, 0, none⟩ = false := BX.out.frozen (i := 0) rfl 0; have q5_1 : World.cell? _ ⟨g5, 1, none⟩ = some (.bool false) := BX.out.cell (i := 0) rfl (j := 1) rfl; have f5_1 : World.frozen? _ ⟨g5, 1, none⟩ = false := BX.out.frozen (i := 0) rfl 1; have q5_2 : World.cell? _ ⟨g5, 2, none⟩ = some (.bool false) := BX.out.cell (i := 0) rfl (j := 2) rfl; have f5_2 : World.frozen? _ ⟨g5, 2, none⟩ = false := BX.out.frozen (i := 0) rfl 2; have q3_0 : World.cell? _ ⟨g3, 0, none⟩ = some (.slice A1 l1.length c1) := BX.out.cell (i := 1) rfl (j := 0) rfl; have f3_0 : World.frozen? _ ⟨g3, 0, none⟩ = false := BX.out.frozen (i := 1) rfl 0; have q2_0 : World.cell? _ ⟨g2, 0, none⟩ = some (.int .i64 a0_0) := BX.out.cell (i := 2) rfl (j := 0) rfl; have f2_0 : World.frozen? _ ⟨g2, 0, none⟩ = false := BX.out.frozen (i := 2) rfl 0; have q2_1 : World.cell? _ ⟨g2, 1, none⟩ = some (.int .i64 a0_1) := BX.out.cell (i := 2) rfl (j := 1) rfl; have f2_1 : World.frozen? _ ⟨g2, 1, none⟩ = false := BX.out.frozen (i := 2) rfl 1; have q2_2 : World.cell? _ ⟨g2, 2, none⟩ = some (.int .i64 a0_2) := BX.out.cell (i := 2) rfl (j := 2) rfl; have f2_2 : World.frozen? _ ⟨g2, 2, none⟩ = false := BX.out.frozen (i := 2) rfl 2; have q2_3 : World.cell? _ ⟨g2, 3, none⟩ = some (.int .i64 a0_3) := BX.out.cell (i := 2) rfl (j := 3) rfl; have f2_3 : World.frozen? _ ⟨g2, 3, none⟩ = false := BX.out.frozen (i := 2) rfl 3) | (go_at_call 65; first | ((with_reducible refine (impl_in.calls a0_0 1 7 _ _ H1.out).mono ?_); rintro e w' ⟨rfl, ⟨nd, rfl⟩⟩) | ((with_reducible refine (impl_in.calls a0_3 0 9999 _ _ H3.out).mono ?_); rintro e w' ⟨rfl, ⟨nd2, rfl⟩⟩)) | (go_at_call 79; refine (impl_namesOf.calls 9 a0_0 _ _ _ _ H2.out).mono ?_; rintro e w12_ ⟨rfl, hb⟩; have BY := Aside0.mk (Boxes.below (w0 := w) (bs := [(g3, #[.slice A1 l1.length c1], 25), (g2, #[.int .i64 a0_0, .int .i64 a0_1, .int .i64 a0_2, .int .i64 a0_3], 50)]) (by (with_reducible repeat (first | refine Boxes.drewN ?_ _ | refine Boxes.drew ?_ | refine Boxes.alloc ?_ _)); exact BX.out) hb); clear BX hb; have BX := BY; clear BY; clear q3_0 f3_0 q2_0 f2_0 q2_1 f2_1 q2_2 f2_2 q2_3 f2_3; have q3_0 : World.cell? _ ⟨g3, 0, none⟩ = some (.slice A1 l1.length c1) := BX.out.cell (i := 0) rfl (j := 0) rfl; have f3_0 : World.frozen? _ ⟨g3, 0, none⟩ = false := BX.out.frozen (i := 0) rfl 0; have q2_0 : World.cell? _ ⟨g2, 0, none⟩ = some (.int .i64 a0_0) := BX.out.cell (i := 1) rfl (j := 0) rfl; have f2_0 : World.frozen? _ ⟨g2, 0, none⟩ = false := BX.out.frozen (i := 1) rfl 0; have q2_1 : World.cell? _ ⟨g2, 1, none⟩ = some (.int .i64 a0_1) := BX.out.cell (i := 1) rfl (j := 1) rfl; have f2_1 : World.frozen? _ ⟨g2, 1, none⟩ = false := BX.out.frozen (i := 1) rfl 1; have q2_2 : World.cell? _ ⟨g2, 2, none⟩ = some (.int .i64 a0_2) := BX.out.cell (i := 1) rfl (j := 2) rfl; have f2_2 : World.frozen? _ ⟨g2, 2, none⟩ = false := BX.out.frozen (i := 1) rfl 2; have q2_3 : World.cell? _ ⟨g2, 3, none⟩ = some (.int .i64 a0_3) := BX.out.cell (i := 1) rfl (j := 3) rfl; have f2_3 : World.frozen? _ ⟨g2, 3, none⟩ = false := BX.out.frozen (i := 1) rfl 3) | ((with_reducible refine gate_store (t := 99) (p := 5) rfl ?_); refine boxes_store (w0 := w) (bs := [(g5, #[.bool xa_, .bool xb_, .bool xn_], 99), (g3, #[.slice A1 l1.length c1], 25), (g2, #[.int .i64 a0_0, .int .i64 a0_1, .int .i64 a0_2, .int .i64 a0_3], 50)]) (W1 := ((World.setCell w5_ ⟨g5, 0, none⟩ (.bool xa_)).setCell ⟨g5, 1, none⟩ (.bool xb_)).setCell ⟨g5, 2, none⟩ (.bool xn_)) rfl rfl rfl ?hr (((Boxes.put (w0 := w) (b1 := []) (b2 := [(g3, #[.slice A1 l1.length c1], 25), (g2, #[.int .i64 a0_0, .int .i64 a0_1, .int .i64 a0_2, .int .i64 a0_3], 50)]) (g := g5) (cs := #[.bool false, .bool false, .bool false]) (t := 99) BX.out 0 (.bool xa_)).put (b1 := []) 1 (.bool xb_)).put (b1 := []) 2 (.bool xn_)) ?_; (case hr => first | (go_simp; done) | (go_simp; rfl)); intro w13_ BY; have BY := Aside0.mk BY; clear BX; have BX := BY; clear BY; clear q5_0 f5_0 q5_1 f5_1 q5_2 f5_2 q3_0 f3_0 q2_0 f2_0 q2_1 f2_1 q2_2 f2_2 q2_3 f2_3; have q5_0 : World.cell? _ ⟨g5, 0, none⟩ = some (.bool xa_) := BX.out.cell (i := 0) rfl (j := 0) rfl; have f5_0 : World.frozen? _ ⟨g5, 0, none⟩ = false := BX.out.frozen (i := 0) rfl 0; have q5_1 : World.cell? _ ⟨g5, 1, none⟩ = some (.bool xb_) := BX.out.cell (i := 0) rfl (j := 1) rfl; have f5_1 : World.frozen? _ ⟨g5, 1, none⟩ = false := BX.out.frozen (i := 0) rfl 1; have q5_2 : World.cell? _ ⟨g5, 2, none⟩ = some (.bool xn_) := BX.out.cell (i := 0) rfl (j := 2) rfl; have f5_2 : World.frozen? _ ⟨g5, 2, none⟩ = false := BX.out.frozen (i := 0) rfl 2; have q3_0 : World.cell? _ ⟨g3, 0, none⟩ = some (.slice A1 l1.length c1) := BX.out.cell (i := 1) rfl (j := 0) rfl; have f3_0 : World.frozen? _ ⟨g3, 0, none⟩ = false := BX.out.frozen (i := 1) rfl 0; have q2_0 : World.cell? _ ⟨g2, 0, none⟩ = some (.int .i64 a0_0) := BX.out.cell (i := 2) rfl (j := 0) rfl; have f2_0 : World.frozen? _ ⟨g2, 0, none⟩ = false := BX.out.frozen (i := 2) rfl 0; have q2_1 : World.cell? _ ⟨g2, 1, none⟩ = some (.int .i64 a0_1) := BX.out.cell (i := 2) rfl (j := 1) rfl; have f2_1 : World.frozen? _ ⟨g2, 1, none⟩ = false := BX.out.frozen (i := 2) rfl 1; have q2_2 : World.cell? _ ⟨g2, 2, none⟩ = some (.int .i64 a0_2) := BX.out.cell (i := 2) rfl (j := 2) rfl; have f2_2 : World.frozen? _ ⟨g2, 2, none⟩ = false := BX.out.frozen (i := 2) rfl 2; have q2_3 : World.cell? _ ⟨g2, 3, none⟩ = some (.int .i64 a0_3) := BX.out.cell (i := 2) rfl (j := 3) rfl; have f2_3 : World.frozen? _ ⟨g2, 3, none⟩ = false := BX.out.frozen (i := 2) rfl 3) | (go_at_call 62; refine (impl_Term_parts.calls 9 a0_0 a0_1 a0_2 a0_3 _ _ H4.out).mono ?_; rintro e w47_ ⟨pv, rfl, hR, hb⟩; obtain ⟨pA, pc, rfl, _, hC⟩ := Kd.R_reads hR; have HC := Aside0.mk hC; clear hC hR; have BY := Aside0.mk (Boxes.below (w0 := w) (bs := [(g5, #[.bool xa_, .bool xb_, .bool xn_], 99), (g3, #[.slice A1 l1.length c1], 25), (g2, #[.int .i64 a0_0, .int .i64 a0_1, .int .i64 a0_2, .int .i64 a0_3], 50)]) (by (with_reducible repeat (first | refine Boxes.drewN ?_ _ | refine Boxes.drew ?_ | refine Boxes.alloc ?_ _)); exact BX.out) hb); clear BX hb; have BX := BY; clear BY; clear q5_0 f5_0 q5_1 f5_1 q5_2 f5_2 q3_0 f3_0 q2_0 f2_0 q2_1 f2_1 q2_2 f2_2 q2_3 f2_3; have q5_0 : World.cell? _ ⟨g5, 0, none⟩ = some (.bool xa_) := BX.out.cell (i := 0) rfl (j := 0) rfl; have f5_0 : World.frozen? _ ⟨g5, 0, none⟩ = false := BX.out.frozen (i := 0) rfl 0; have q5_1 : World.cell? _ ⟨g5, 1, none⟩ = some (.bool xb_) := BX.out.cell (i := 0) rfl (j := 1) rfl; have f5_1 : World.frozen? _ ⟨g5, 1, none⟩ = false := BX.out.frozen (i := 0) rfl 1; have q5_2 : World.cell? _ ⟨g5, 2, none⟩ = some (.bool xn_) := BX.out.cell (i := 0) rfl (j := 2) rfl; have f5_2 : World.frozen? _ ⟨g5, 2, none⟩ = false := BX.out.frozen (i := 0) rfl 2; have q3_0 : World.cell? _ ⟨g3, 0, none⟩ = some (.slice A1 l1.length c1) := BX.out.cell (i := 1) rfl (j := 0) rfl; have f3_0 : World.frozen? _ ⟨g3, 0, none⟩ = false := BX.out.frozen (i := 1) rfl 0; have q2_0 : World.cell? _ ⟨g2, 0, none⟩ = some (.int .i64 a0_0) := BX.out.cell (i := 2) rfl (j := 0) rfl; have f2_0 : World.frozen? _ ⟨g2, 0, none⟩ = false := BX.out.frozen (i := 2) rfl 0; have q2_1 : World.cell? _ ⟨g2, 1, none⟩ = some (.int .i64 a0_1) := BX.out.cell (i := 2) rfl (j := 1) rfl; have f2_1 : World.frozen? _ ⟨g2, 1, none⟩ = false := BX.out.frozen (i := 2) rfl 1; have q2_2 : World.cell? _ ⟨g2, 2, none⟩ = some (.int .i64 a0_2) := BX.out.cell (i := 2) rfl (j := 2) rfl; have f2_2 : World.frozen? _ ⟨g2, 2, none⟩ = false := BX.out.frozen (i := 2) rfl 2; have q2_3 : World.cell? _ ⟨g2, 3, none⟩ = some (.int .i64 a0_3) := BX.out.cell (i := 2) rfl (j := 3) rfl; have f2_3 : World.frozen? _ ⟨g2, 3, none⟩ = false := BX.out.frozen (i := 2) rfl 3) | (go_at_call 60; refine (ContainsFuncI.calls pA pc ps_ 86 #[.pointer (some ⟨g3, 0, none⟩)] (impl_Term_fault.p1 l1) _ _ eg1 HC.out (fun x b W hx hb2 => impl_Term_fault_lit1.calls A1 c1 l1 x b g3 _ W (BX.out.lt (i := 1) rfl) (BX.out.cell (i := 1) rfl (j := 0) rfl) (Kd.C_below HR1.out BX.out.low) hc1 hb2 hx) H5.out).mono ?_; rintro e w49_ ⟨rfl, hb⟩; clear HC; have BY := Aside0.mk (Boxes.below (w0 := w) (bs := [(g5, #[.bool xa_, .bool xb_, .bool xn_], 99), (g3, #[.slice A1 l1.length c1], 25), (g2, #[.int .i64 a0_0, .int .i64 a0_1, .int .i64 a0_2, .int .i64 a0_3], 50)]) (by (with_reducible repeat (first | refine Boxes.drewN ?_ _ | refine Boxes.drew ?_ | refine Boxes.alloc ?_ _)); exact BX.out) hb); clear BX hb; have BX := BY; clear BY; clear q5_0 f5_0 q5_1 f5_1 q5_2 f5_2 q3_0 f3_0 q2_0 f2_0 q2_1 f2_1 q2_2 f2_2 q2_3 f2_3; have q5_0 : World.cell? _ ⟨g5, 0, none⟩ = some (.bool xa_) := BX.out.cell (i := 0) rfl (j := 0) rfl; have f5_0 : World.frozen? _ ⟨g5, 0, none⟩ = false := BX.out.frozen (i := 0) rfl 0; have q5_1 : World.cell? _ ⟨g5, 1, none⟩ = some (.bool xb_) := BX.out.cell (i := 0) rfl (j := 1) rfl; have f5_1 : World.frozen? _ ⟨g5, 1, none⟩ = false := BX.out.frozen (i := 0) rfl 1; have q5_2 : World.cell? _ ⟨g5, 2, none⟩ = some (.bool xn_) := BX.out.cell (i := 0) rfl (j := 2) rfl; have f5_2 : World.frozen? _ ⟨g5, 2, none⟩ = false := BX.out.frozen (i := 0) rfl 2; have q3_0 : World.cell? _ ⟨g3, 0, none⟩ = some (.slice A1 l1.length c1) := BX.out.cell (i := 1) rfl (j := 0) rfl; have f3_0 : World.frozen? _ ⟨g3, 0, none⟩ = false := BX.out.frozen (i := 1) rfl 0; have q2_0 : World.cell? _ ⟨g2, 0, none⟩ = some (.int .i64 a0_0) := BX.out.cell (i := 2) rfl (j := 0) rfl; have f2_0 : World.frozen? _ ⟨g2, 0, none⟩ = false := BX.out.frozen (i := 2) rfl 0; have q2_1 : World.cell? _ ⟨g2, 1, none⟩ = some (.int .i64 a0_1) := BX.out.cell (i := 2) rfl (j := 1) rfl; have f2_1 : World.frozen? _ ⟨g2, 1, none⟩ = false := BX.out.frozen (i := 2) rfl 1; have q2_2 : World.cell? _ ⟨g2, 2, none⟩ = some (.int .i64 a0_2) := BX.out.cell (i := 2) rfl (j := 2) rfl; have f2_2 : World.frozen? _ ⟨g2, 2, none⟩ = false := BX.out.frozen (i := 2) rfl 2; have q2_3 : World.cell? _ ⟨g2, 3, none⟩ = some (.int .i64 a0_3) := BX.out.cell (i := 2) rfl (j := 3) rfl; have f2_3 : World.frozen? _ ⟨g2, 3, none⟩ = false := BX.out.frozen (i := 2) rfl 3) | (go_at_call 60; refine (ContainsFuncI.calls pA pc ps_ 87 #[.pointer (some ⟨g3, 0, none⟩)] (impl_Term_fault.p2 l1) _ _ eg2 HC.out (fun x b W hx hb2 => impl_Term_fault_lit2.calls A1 c1 l1 x b g3 _ W (BX.out.lt (i := 1) rfl) (BX.out.cell (i := 1) rfl (j := 0) rfl) (Kd.C_below HR1.out BX.out.low) hc1 hb2 hx) (H6.out (Int.not_le.mp (of_decide_eq_false ci)))).mono ?_; rintro e w49_ ⟨rfl, hb⟩; clear HC; have BY := Aside0.mk (Boxes.below (w0 := w) (bs := [(g5, #[.bool xa_, .bool xb_, .bool xn_], 99), (g3, #[.slice A1 l1.length c1], 25), (g2, #[.int .i64 a0_0, .int .i64 a0_1, .int .i64 a0_2, .int .i64 a0_3], 50)]) (by (with_reducible repeat (first | refine Boxes.drewN ?_ _ | refine Boxes.drew ?_ | refine Boxes.alloc ?_ _)); exact BX.out) hb); clear BX hb; have BX := BY; clear BY; clear q5_0 f5_0 q5_1 f5_1 q5_2 f5_2 q3_0 f3_0 q2_0 f2_0 q2_1 f2_1 q2_2 f2_2 q2_3 f2_3; have q5_0 : World.cell? _ ⟨g5, 0, none⟩ = some (.bool xa_) := BX.out.cell (i := 0) rfl (j := 0) rfl; have f5_0 : World.frozen? _ ⟨g5, 0, none⟩ = false := BX.out.frozen (i := 0) rfl 0; have q5_1 : World.cell? _ ⟨g5, 1, none⟩ = some (.bool xb_) := BX.out.cell (i := 0) rfl (j := 1) rfl; have f5_1 : World.frozen? _ ⟨g5, 1, none⟩ = false := BX.out.frozen (i := 0) rfl 1; have q5_2 : World.cell? _ ⟨g5, 2, none⟩ = some (.bool xn_) := BX.out.cell (i := 0) rfl (j := 2) rfl; have f5_2 : World.frozen? _ ⟨g5, 2, none⟩ = false := BX.out.frozen (i := 0) rfl 2; have q3_0 : World.cell? _ ⟨g3, 0, none⟩ = some (.slice A1 l1.length c1) := BX.out.cell (i := 1) rfl (j := 0) rfl; have f3_0 : World.frozen? _ ⟨g3, 0, none⟩ = false := BX.out.frozen (i := 1) rfl 0; have q2_0 : World.cell? _ ⟨g2, 0, none⟩ = some (.int .i64 a0_0) := BX.out.cell (i := 2) rfl (j := 0) rfl; have f2_0 : World.frozen? _ ⟨g2, 0, none⟩ = false := BX.out.frozen (i := 2) rfl 0; have q2_1 : World.cell? _ ⟨g2, 1, none⟩ = some (.int .i64 a0_1) := BX.out.cell (i := 2) rfl (j := 1) rfl; have f2_1 : World.frozen? _ ⟨g2, 1, none⟩ = false := BX.out.frozen (i := 2) rfl 1; have q2_2 : World.cell? _ ⟨g2, 2, none⟩ = some (.int .i64 a0_2) := BX.out.cell (i := 2) rfl (j := 2) rfl; have f2_2 : World.frozen? _ ⟨g2, 2, none⟩ = false := BX.out.frozen (i := 2) rfl 2; have q2_3 : World.cell? _ ⟨g2, 3, none⟩ = some (.int .i64 a0_3) := BX.out.cell (i := 2) rfl (j := 3) rfl; have f2_3 : World.frozen? _ ⟨g2, 3, none⟩ = false := BX.out.frozen (i := 2) rfl 3) | fail)
    go_ret
    refine ⟨congrArg (fun z => Ending.returned (Value.int .i64 z)) ?_, (Boxes.low (w0 := w) (bs := [(g5, #[.bool xa_, .bool xb_, .bool xn_], 99), (g3, #[.slice A1 l1.length c1], 25), (g2, #[.int .i64 a0_0, .int .i64 a0_1, .int .i64 a0_2, .int .i64 a0_3], 50)]) (by (with_reducible repeat (first | refine Boxes.drewN ?_ _ | refine Boxes.drew ?_ | refine Boxes.alloc ?_ _)); exact BX.out))⟩
    rw [← HV.out]
    simp only [impl_Term_fault.r]
    clear HV BX HR1 H1 H2 H3 H4 H5 eg1 eg2 hu1 hu2 hu3
    simp_all
    try ((repeat' split) <;> omega))
set_option maxHeartbeats 16000000 in
set_option maxRecDepth 100000 in
theorem impl_Term_fault_p (a0_0 : Int) (a0_1 : Int) (a0_2 : Int) (a0_3 : Int) (A1 : Option Addr) (c1 : Nat) (l1 : List S50) (xa_ xb_ xn_ b1_ b2_ : Bool) (ps_ : List Int) (i_ j_ r_ : Int) (w : World) (hc1 : l1.length ≤ c1) (HR1 : Aside0 (Kd.C k50 w A1 l1.length l1)) (eg1 : ∀ args w, (callFunc 86 args).run Try.prog w = .ok (.enter 86 args) w) (eg2 : ∀ args w, (callFunc 87 args).run Try.prog w = .ok (.enter 87 args) w) (H1 : Aside0 (impl_in.f a0_0 1 7 = some b1_)) (H2 : Aside0 (impl_namesOf.f 9 a0_0 = some (xa_, xb_, xn_))) (H3 : Aside0 (impl_in.f a0_3 0 9999 = some b2_))
    (H4 : Aside0 (impl_Term_parts.f 9 a0_0 a0_1 a0_2 a0_3 = some ps_)) (H5 : Aside0 (idxO (impl_Term_fault.p1 l1) ps_ 0 = some i_)) (H6 : Aside0 (i_ < 0 → idxO (impl_Term_fault.p2 l1) ps_ 0 = some j_)) (HV : Aside0 (impl_Term_fault.r a0_0 a0_1 a0_2 a0_3 b1_ xa_ xb_ xn_ b2_ i_ j_ = r_)) (vb1 : b1_ = true) (ea : xa_ = true) (eb : xb_ = true) (en : xn_ = false) (o6 : (a0_0 != 6) = true) (e7 : (a0_0 == 7) = !(a0_0 != 7)) :
    Calls Try.prog 77 #[.agg #[.int .i64 a0_0, .int .i64 a0_1, .int .i64 a0_2, .int .i64 a0_3], .slice A1 l1.length c1] w fun e w' => e = .returned (.int .i64 r_) ∧ Below w.heap.size w w' := by
  have hp : ((a0_3 != 0) = true) ∨ ((a0_3 != 0) = false ∧ b2_ = true ∧ decide (0 ≤ i_) = true) ∨ ((a0_3 != 0) = false ∧ b2_ = true ∧ decide (0 ≤ i_) = false ∧ (a0_0 != 7) = true) ∨ ((a0_3 != 0) = false ∧ b2_ = true ∧ decide (0 ≤ i_) = false ∧ (a0_0 != 7) = false ∧ decide (0 ≤ j_) = true) ∨ ((a0_3 != 0) = false ∧ b2_ = true ∧ decide (0 ≤ i_) = false ∧ (a0_0 != 7) = false ∧ decide (0 ≤ j_) = false ∧ decide (a0_1 > a0_2) = true) ∨ ((a0_3 != 0) = false ∧ b2_ = true ∧ decide (0 ≤ i_) = false ∧ (a0_0 != 7) = false ∧ decide (0 ≤ j_) = false ∧ decide (a0_1 > a0_2) = false) ∨ ((a0_3 != 0) = false ∧ b2_ = false) := by
    rcases Bool.eq_false_or_eq_true ((a0_3 != 0)) with z2 | z2
    · exact .inl z2
    · rcases Bool.eq_false_or_eq_true (b2_) with vb | vb
      · rcases Bool.eq_false_or_eq_true (decide (0 ≤ i_)) with ci | ci
        · exact .inr (.inl ⟨z2, vb, ci⟩)
        · rcases Bool.eq_false_or_eq_true ((a0_0 != 7)) with o7 | o7
          · exact .inr (.inr (.inl ⟨z2, vb, ci, o7⟩))
          · rcases Bool.eq_false_or_eq_true (decide (0 ≤ j_)) with cj | cj
            · exact .inr (.inr (.inr (.inl ⟨z2, vb, ci, o7, cj⟩)))
            · rcases Bool.eq_false_or_eq_true (decide (a0_1 > a0_2)) with cg | cg
              · exact .inr (.inr (.inr (.inr (.inl ⟨z2, vb, ci, o7, cj, cg⟩))))
              · exact .inr (.inr (.inr (.inr (.inr (.inl ⟨z2, vb, ci, o7, cj, cg⟩)))))
      · exact .inr (.inr (.inr (.inr (.inr (.inr ⟨z2, vb⟩)))))
  rcases hp with z2 | ⟨z2, vb, ci⟩ | ⟨z2, vb, ci, o7⟩ | ⟨z2, vb, ci, o7, cj⟩ | ⟨z2, vb, ci, o7, cj, cg⟩ | ⟨z2, vb, ci, o7, cj, cg⟩ | ⟨z2, vb⟩
  all_goals (
    have BX := Aside0.mk (Boxes.start w)
    have hu1 := Try.underlying50
    have hu2 := Try.underlying25
    have hu3 := Try.underlying99
    go_enter Try.func77, Try.ntmps77
    go_wp2_with (first | ((with_reducible refine gate_dst (N := 2) rfl ?_); refine box_event ?hg (N := 2) ?hd (cs := #[.int .i64 a0_0, .int .i64 a0_1, .int .i64 a0_2, .int .i64 a0_3]) (t := 50) ?hr ?_; (case hd => rfl); (case hg => rfl); (case hr => first | (go_simp; done) | (go_simp; rfl)); intro g2 hg w2_ hbox hb; have BY := Aside0.mk (Boxes.new (w0 := w) (bs := []) (by (with_reducible repeat (first | refine Boxes.drewN ?_ _ | refine Boxes.drew ?_ | refine Boxes.alloc ?_ _)); exact BX.out) hg hbox hb); clear BX hb hbox hg; have BX := BY; clear BY; have q2_0 : World.cell? _ ⟨g2, 0, none⟩ = some (.int .i64 a0_0) := BX.out.cell (i := 0) rfl (j := 0) rfl; have f2_0 : World.frozen? _ ⟨g2, 0, none⟩ = false := BX.out.frozen (i := 0) rfl 0; have q2_1 : World.cell? _ ⟨g2, 1, none⟩ = some (.int .i64 a0_1) := BX.out.cell (i := 0) rfl (j := 1) rfl; have f2_1 : World.frozen? _ ⟨g2, 1, none⟩ = false := BX.out.frozen (i := 0) rfl 1; have q2_2 : World.cell? _ ⟨g2, 2, none⟩ = some (.int .i64 a0_2) := BX.out.cell (i := 0) rfl (j := 2) rfl; have f2_2 : World.frozen? _ ⟨g2, 2, none⟩ = false := BX.out.frozen (i := 0) rfl 2; have q2_3 : World.cell? _ ⟨g2, 3, none⟩ = some (.int .i64 a0_3) := BX.out.cell (i := 0) rfl (j := 3) rfl; have f2_3 : World.frozen? _ ⟨g2, 3, none⟩ = false := BX.out.frozen (i := 0) rfl 3) | ((with_reducible refine gate_dst (N := 3) rfl ?_); refine box_event ?hg (N := 3) ?hd (cs := #[.slice A1 l1.length c1]) (t := 25) ?hr ?_; (case hd => rfl); (case hg => rfl); (case hr => first | (go_simp; done) | (go_simp; rfl)); intro g3 hg w3_ hbox hb; have BY := Aside0.mk (Boxes.new (w0 := w) (bs := [(g2, #[.int .i64 a0_0, .int .i64 a0_1, .int .i64 a0_2, .int .i64 a0_3], 50)]) (by (with_reducible repeat (first | refine Boxes.drewN ?_ _ | refine Boxes.drew ?_ | refine Boxes.alloc ?_ _)); exact BX.out) hg hbox hb); clear BX hb hbox hg; have BX := BY; clear BY; clear q2_0 f2_0 q2_1 f2_1 q2_2 f2_2 q2_3 f2_3; have q3_0 : World.cell? _ ⟨g3, 0, none⟩ = some (.slice A1 l1.length c1) := BX.out.cell (i := 0) rfl (j := 0) rfl; have f3_0 : World.frozen? _ ⟨g3, 0, none⟩ = false := BX.out.frozen (i := 0) rfl 0; have q2_0 : World.cell? _ ⟨g2, 0, none⟩ = some (.int .i64 a0_0) := BX.out.cell (i := 1) rfl (j := 0) rfl; have f2_0 : World.frozen? _ ⟨g2, 0, none⟩ = false := BX.out.frozen (i := 1) rfl 0; have q2_1 : World.cell? _ ⟨g2, 1, none⟩ = some (.int .i64 a0_1) := BX.out.cell (i := 1) rfl (j := 1) rfl; have f2_1 : World.frozen? _ ⟨g2, 1, none⟩ = false := BX.out.frozen (i := 1) rfl 1; have q2_2 : World.cell? _ ⟨g2, 2, none⟩ = some (.int .i64 a0_2) := BX.out.cell (i := 1) rfl (j := 2) rfl; have f2_2 : World.frozen? _ ⟨g2, 2, none⟩ = false := BX.out.frozen (i := 1) rfl 2; have q2_3 : World.cell? _ ⟨g2, 3, none⟩ = some (.int .i64 a0_3) := BX.out.cell (i := 1) rfl (j := 3) rfl; have f2_3 : World.frozen? _ ⟨g2, 3, none⟩ = false := BX.out.frozen (i := 1) rfl 3) | ((with_reducible refine gate_dst (N := 5) rfl ?_); refine box_event ?hg (N := 5) ?hd (cs := #[.bool false, .bool false, .bool false]) (t := 99) ?hr ?_; (case hd => rfl); (case hg => rfl); (case hr => first | (go_simp; done) | (go_simp; rfl)); intro g5 hg w5_ hbox hb; have BY := Aside0.mk (Boxes.new (w0 := w) (bs := [(g3, #[.slice A1 l1.length c1], 25), (g2, #[.int .i64 a0_0, .int .i64 a0_1, .int .i64 a0_2, .int .i64 a0_3], 50)]) (by (with_reducible repeat (first | refine Boxes.drewN ?_ _ | refine Boxes.drew ?_ | refine Boxes.alloc ?_ _)); exact BX.out) hg hbox hb); clear BX hb hbox hg; have BX := BY; clear BY; clear q3_0 f3_0 q2_0 f2_0 q2_1 f2_1 q2_2 f2_2 q2_3 f2_3; have q5_0 : World.cell? _ ⟨g5, 0, none⟩ = some (.bool false) := BX.out.cell (i := 0) rfl (j := 0) rfl; have f5_0 : World.frozen? _ ⟨g5, 0, none⟩ = false := BX.out.frozen (i := 0) rfl 0; have q5_1 : World.cell? _ ⟨g5, 1, none⟩ = some (.bool false) := BX.out.cell (i := 0) rfl (j := 1) rfl; have f5_1 : World.frozen? _ ⟨g5, 1, none⟩ = false := BX.out.frozen (i := 0) rfl 1; have q5_2 : World.cell? _ ⟨g5, 2, none⟩ = some (.bool false) := BX.out.cell (i := 0) rfl (j := 2) rfl; have f5_2 : World.frozen? _ ⟨g5, 2, none⟩ = false := BX.out.frozen (i := 0) rfl 2; have q3_0 : World.cell? _ ⟨g3, 0, none⟩ = some (.slice A1 l1.length c1) := BX.out.cell (i := 1) rfl (j := 0) rfl; have f3_0 : World.frozen? _ ⟨g3, 0, none⟩ = false := BX.out.frozen (i := 1) rfl 0; have q2_0 : World.cell? _ ⟨g2, 0, none⟩ = some (.int .i64 a0_0) := BX.out.cell (i := 2) rfl (j := 0) rfl; have f2_0 : World.frozen? _ ⟨g2, 0, none⟩ = false := BX.out.frozen (i := 2) rfl 0; have q2_1 : World.cell? _ ⟨g2, 1, none⟩ = some (.int .i64 a0_1) := BX.out.cell (i := 2) rfl (j := 1) rfl; have f2_1 : World.frozen? _ ⟨g2, 1, none⟩ = false := BX.out.frozen (i := 2) rfl 1; have q2_2 : World.cell? _ ⟨g2, 2, none⟩ = some (.int .i64 a0_2) := BX.out.cell (i := 2) rfl (j := 2) rfl; have f2_2 : World.frozen? _ ⟨g2, 2, none⟩ = false := BX.out.frozen (i := 2) rfl 2; have q2_3 : World.cell? _ ⟨g2, 3, none⟩ = some (.int .i64 a0_3) := BX.out.cell (i := 2) rfl (j := 3) rfl; have f2_3 : World.frozen? _ ⟨g2, 3, none⟩ = false := BX.out.frozen (i := 2) rfl 3) | (go_at_call 65; first | ((with_reducible refine (impl_in.calls a0_0 1 7 _ _ H1.out).mono ?_); rintro e w' ⟨rfl, ⟨nd, rfl⟩⟩) | ((with_reducible refine (impl_in.calls a0_3 0 9999 _ _ H3.out).mono ?_); rintro e w' ⟨rfl, ⟨nd2, rfl⟩⟩)) | (go_at_call 79; refine (impl_namesOf.calls 9 a0_0 _ _ _ _ H2.out).mono ?_; rintro e w12_ ⟨rfl, hb⟩; have BY := Aside0.mk (Boxes.below (w0 := w) (bs := [(g3, #[.slice A1 l1.length c1], 25), (g2, #[.int .i64 a0_0, .int .i64 a0_1, .int .i64 a0_2, .int .i64 a0_3], 50)]) (by (with_reducible repeat (first | refine Boxes.drewN ?_ _ | refine Boxes.drew ?_ | refine Boxes.alloc ?_ _)); exact BX.out) hb); clear BX hb; have BX := BY; clear BY; clear q3_0 f3_0 q2_0 f2_0 q2_1 f2_1 q2_2 f2_2 q2_3 f2_3; have q3_0 : World.cell? _ ⟨g3, 0, none⟩ = some (.slice A1 l1.length c1) := BX.out.cell (i := 0) rfl (j := 0) rfl; have f3_0 : World.frozen? _ ⟨g3, 0, none⟩ = false := BX.out.frozen (i := 0) rfl 0; have q2_0 : World.cell? _ ⟨g2, 0, none⟩ = some (.int .i64 a0_0) := BX.out.cell (i := 1) rfl (j := 0) rfl; have f2_0 : World.frozen? _ ⟨g2, 0, none⟩ = false := BX.out.frozen (i := 1) rfl 0; have q2_1 : World.cell? _ ⟨g2, 1, none⟩ = some (.int .i64 a0_1) := BX.out.cell (i := 1) rfl (j := 1) rfl; have f2_1 : World.frozen? _ ⟨g2, 1, none⟩ = false := BX.out.frozen (i := 1) rfl 1; have q2_2 : World.cell? _ ⟨g2, 2, none⟩ = some (.int .i64 a0_2) := BX.out.cell (i := 1) rfl (j := 2) rfl; have f2_2 : World.frozen? _ ⟨g2, 2, none⟩ = false := BX.out.frozen (i := 1) rfl 2; have q2_3 : World.cell? _ ⟨g2, 3, none⟩ = some (.int .i64 a0_3) := BX.out.cell (i := 1) rfl (j := 3) rfl; have f2_3 : World.frozen? _ ⟨g2, 3, none⟩ = false := BX.out.frozen (i := 1) rfl 3) | ((with_reducible refine gate_store (t := 99) (p := 5) rfl ?_); refine boxes_store (w0 := w) (bs := [(g5, #[.bool xa_, .bool xb_, .bool xn_], 99), (g3, #[.slice A1 l1.length c1], 25), (g2, #[.int .i64 a0_0, .int .i64 a0_1, .int .i64 a0_2, .int .i64 a0_3], 50)]) (W1 := ((World.setCell w5_ ⟨g5, 0, none⟩ (.bool xa_)).setCell ⟨g5, 1, none⟩ (.bool xb_)).setCell ⟨g5, 2, none⟩ (.bool xn_)) rfl rfl rfl ?hr (((Boxes.put (w0 := w) (b1 := []) (b2 := [(g3, #[.slice A1 l1.length c1], 25), (g2, #[.int .i64 a0_0, .int .i64 a0_1, .int .i64 a0_2, .int .i64 a0_3], 50)]) (g := g5) (cs := #[.bool false, .bool false, .bool false]) (t := 99) BX.out 0 (.bool xa_)).put (b1 := []) 1 (.bool xb_)).put (b1 := []) 2 (.bool xn_)) ?_; (case hr => first | (go_simp; done) | (go_simp; rfl)); intro w13_ BY; have BY := Aside0.mk BY; clear BX; have BX := BY; clear BY; clear q5_0 f5_0 q5_1 f5_1 q5_2 f5_2 q3_0 f3_0 q2_0 f2_0 q2_1 f2_1 q2_2 f2_2 q2_3 f2_3; have q5_0 : World.cell? _ ⟨g5, 0, none⟩ = some (.bool xa_) := BX.out.cell (i := 0) rfl (j := 0) rfl; have f5_0 : World.frozen? _ ⟨g5, 0, none⟩ = false := BX.out.frozen (i := 0) rfl 0; have q5_1 : World.cell? _ ⟨g5, 1, none⟩ = some (.bool xb_) := BX.out.cell (i := 0) rfl (j := 1) rfl; have f5_1 : World.frozen? _ ⟨g5, 1, none⟩ = false := BX.out.frozen (i := 0) rfl 1; have q5_2 : World.cell? _ ⟨g5, 2, none⟩ = some (.bool xn_) := BX.out.cell (i := 0) rfl (j := 2) rfl; have f5_2 : World.frozen? _ ⟨g5, 2, none⟩ = false := BX.out.frozen (i := 0) rfl 2; have q3_0 : World.cell? _ ⟨g3, 0, none⟩ = some (.slice A1 l1.length c1) := BX.out.cell (i := 1) rfl (j := 0) rfl; have f3_0 : World.frozen? _ ⟨g3, 0, none⟩ = false := BX.out.frozen (i := 1) rfl 0; have q2_0 : World.cell? _ ⟨g2, 0, none⟩ = some (.int .i64 a0_0) := BX.out.cell (i := 2) rfl (j := 0) rfl; have f2_0 : World.frozen? _ ⟨g2, 0, none⟩ = false := BX.out.frozen (i := 2) rfl 0; have q2_1 : World.cell? _ ⟨g2, 1, none⟩ = some (.int .i64 a0_1) := BX.out.cell (i := 2) rfl (j := 1) rfl; have f2_1 : World.frozen? _ ⟨g2, 1, none⟩ = false := BX.out.frozen (i := 2) rfl 1; have q2_2 : World.cell? _ ⟨g2, 2, none⟩ = some (.int .i64 a0_2) := BX.out.cell (i := 2) rfl (j := 2) rfl; have f2_2 : World.frozen? _ ⟨g2, 2, none⟩ = false := BX.out.frozen (i := 2) rfl 2; have q2_3 : World.cell? _ ⟨g2, 3, none⟩ = some (.int .i64 a0_3) := BX.out.cell (i := 2) rfl (j := 3) rfl; have f2_3 : World.frozen? _ ⟨g2, 3, none⟩ = false := BX.out.frozen (i := 2) rfl 3) | (go_at_call 62; refine (impl_Term_parts.calls 9 a0_0 a0_1 a0_2 a0_3 _ _ H4.out).mono ?_; rintro e w47_ ⟨pv, rfl, hR, hb⟩; obtain ⟨pA, pc, rfl, _, hC⟩ := Kd.R_reads hR; have HC := Aside0.mk hC; clear hC hR; have BY := Aside0.mk (Boxes.below (w0 := w) (bs := [(g5, #[.bool xa_, .bool xb_, .bool xn_], 99), (g3, #[.slice A1 l1.length c1], 25), (g2, #[.int .i64 a0_0, .int .i64 a0_1, .int .i64 a0_2, .int .i64 a0_3], 50)]) (by (with_reducible repeat (first | refine Boxes.drewN ?_ _ | refine Boxes.drew ?_ | refine Boxes.alloc ?_ _)); exact BX.out) hb); clear BX hb; have BX := BY; clear BY; clear q5_0 f5_0 q5_1 f5_1 q5_2 f5_2 q3_0 f3_0 q2_0 f2_0 q2_1 f2_1 q2_2 f2_2 q2_3 f2_3; have q5_0 : World.cell? _ ⟨g5, 0, none⟩ = some (.bool xa_) := BX.out.cell (i := 0) rfl (j := 0) rfl; have f5_0 : World.frozen? _ ⟨g5, 0, none⟩ = false := BX.out.frozen (i := 0) rfl 0; have q5_1 : World.cell? _ ⟨g5, 1, none⟩ = some (.bool xb_) := BX.out.cell (i := 0) rfl (j := 1) rfl; have f5_1 : World.frozen? _ ⟨g5, 1, none⟩ = false := BX.out.frozen (i := 0) rfl 1; have q5_2 : World.cell? _ ⟨g5, 2, none⟩ = some (.bool xn_) := BX.out.cell (i := 0) rfl (j := 2) rfl; have f5_2 : World.frozen? _ ⟨g5, 2, none⟩ = false := BX.out.frozen (i := 0) rfl 2; have q3_0 : World.cell? _ ⟨g3, 0, none⟩ = some (.slice A1 l1.length c1) := BX.out.cell (i := 1) rfl (j := 0) rfl; have f3_0 : World.frozen? _ ⟨g3, 0, none⟩ = false := BX.out.frozen (i := 1) rfl 0; have q2_0 : World.cell? _ ⟨g2, 0, none⟩ = some (.int .i64 a0_0) := BX.out.cell (i := 2) rfl (j := 0) rfl; have f2_0 : World.frozen? _ ⟨g2, 0, none⟩ = false := BX.out.frozen (i := 2) rfl 0; have q2_1 : World.cell? _ ⟨g2, 1, none⟩ = some (.int .i64 a0_1) := BX.out.cell (i := 2) rfl (j := 1) rfl; have f2_1 : World.frozen? _ ⟨g2, 1, none⟩ = false := BX.out.frozen (i := 2) rfl 1; have q2_2 : World.cell? _ ⟨g2, 2, none⟩ = some (.int .i64 a0_2) := BX.out.cell (i := 2) rfl (j := 2) rfl; have f2_2 : World.frozen? _ ⟨g2, 2, none⟩ = false := BX.out.frozen (i := 2) rfl 2; have q2_3 : World.cell? _ ⟨g2, 3, none⟩ = some (.int .i64 a0_3) := BX.out.cell (i := 2) rfl (j := 3) rfl; have f2_3 : World.frozen? _ ⟨g2, 3, none⟩ = false := BX.out.frozen (i := 2) rfl 3) | (go_at_call 60; refine (ContainsFuncI.calls pA pc ps_ 86 #[.pointer (some ⟨g3, 0, none⟩)] (impl_Term_fault.p1 l1) _ _ eg1 HC.out (fun x b W hx hb2 => impl_Term_fault_lit1.calls A1 c1 l1 x b g3 _ W (BX.out.lt (i := 1) rfl) (BX.out.cell (i := 1) rfl (j := 0) rfl) (Kd.C_below HR1.out BX.out.low) hc1 hb2 hx) H5.out).mono ?_; rintro e w49_ ⟨rfl, hb⟩; clear HC; have BY := Aside0.mk (Boxes.below (w0 := w) (bs := [(g5, #[.bool xa_, .bool xb_, .bool xn_], 99), (g3, #[.slice A1 l1.length c1], 25), (g2, #[.int .i64 a0_0, .int .i64 a0_1, .int .i64 a0_2, .int .i64 a0_3], 50)]) (by (with_reducible repeat (first | refine Boxes.drewN ?_ _ | refine Boxes.drew ?_ | refine Boxes.alloc ?_ _)); exact BX.out) hb); clear BX hb; have BX := BY; clear BY; clear q5_0 f5_0 q5_1 f5_1 q5_2 f5_2 q3_0 f3_0 q2_0 f2_0 q2_1 f2_1 q2_2 f2_2 q2_3 f2_3; have q5_0 : World.cell? _ ⟨g5, 0, none⟩ = some (.bool xa_) := BX.out.cell (i := 0) rfl (j := 0) rfl; have f5_0 : World.frozen? _ ⟨g5, 0, none⟩ = false := BX.out.frozen (i := 0) rfl 0; have q5_1 : World.cell? _ ⟨g5, 1, none⟩ = some (.bool xb_) := BX.out.cell (i := 0) rfl (j := 1) rfl; have f5_1 : World.frozen? _ ⟨g5, 1, none⟩ = false := BX.out.frozen (i := 0) rfl 1; have q5_2 : World.cell? _ ⟨g5, 2, none⟩ = some (.bool xn_) := BX.out.cell (i := 0) rfl (j := 2) rfl; have f5_2 : World.frozen? _ ⟨g5, 2, none⟩ = false := BX.out.frozen (i := 0) rfl 2; have q3_0 : World.cell? _ ⟨g3, 0, none⟩ = some (.slice A1 l1.length c1) := BX.out.cell (i := 1) rfl (j := 0) rfl; have f3_0 : World.frozen? _ ⟨g3, 0, none⟩ = false := BX.out.frozen (i := 1) rfl 0; have q2_0 : World.cell? _ ⟨g2, 0, none⟩ = some (.int .i64 a0_0) := BX.out.cell (i := 2) rfl (j := 0) rfl; have f2_0 : World.frozen? _ ⟨g2, 0, none⟩ = false := BX.out.frozen (i := 2) rfl 0; have q2_1 : World.cell? _ ⟨g2, 1, none⟩ = some (.int .i64 a0_1) := BX.out.cell (i := 2) rfl (j := 1) rfl; have f2_1 : World.frozen? _ ⟨g2, 1, none⟩ = false := BX.out.frozen (i := 2) rfl 1; have q2_2 : World.cell? _ ⟨g2, 2, none⟩ = some (.int .i64 a0_2) := BX.out.cell (i := 2) rfl (j := 2) rfl; have f2_2 : World.frozen? _ ⟨g2, 2, none⟩ = false := BX.out.frozen (i := 2) rfl 2; have q2_3 : World.cell? _ ⟨g2, 3, none⟩ = some (.int .i64 a0_3) := BX.out.cell (i := 2) rfl (j := 3) rfl; have f2_3 : World.frozen? _ ⟨g2, 3, none⟩ = false := BX.out.frozen (i := 2) rfl 3) | (go_at_call 60; refine (ContainsFuncI.calls pA pc ps_ 87 #[.pointer (some ⟨g3, 0, none⟩)] (impl_Term_fault.p2 l1) _ _ eg2 HC.out (fun x b W hx hb2 => impl_Term_fault_lit2.calls A1 c1 l1 x b g3 _ W (BX.out.lt (i := 1) rfl) (BX.out.cell (i := 1) rfl (j := 0) rfl) (Kd.C_below HR1.out BX.out.low) hc1 hb2 hx) (H6.out (Int.not_le.mp (of_decide_eq_false ci)))).mono ?_; rintro e w49_ ⟨rfl, hb⟩; clear HC; have BY := Aside0.mk (Boxes.below (w0 := w) (bs := [(g5, #[.bool xa_, .bool xb_, .bool xn_], 99), (g3, #[.slice A1 l1.length c1], 25), (g2, #[.int .i64 a0_0, .int .i64 a0_1, .int .i64 a0_2, .int .i64 a0_3], 50)]) (by (with_reducible repeat (first | refine Boxes.drewN ?_ _ | refine Boxes.drew ?_ | refine Boxes.alloc ?_ _)); exact BX.out) hb); clear BX hb; have BX := BY; clear BY; clear q5_0 f5_0 q5_1 f5_1 q5_2 f5_2 q3_0 f3_0 q2_0 f2_0 q2_1 f2_1 q2_2 f2_2 q2_3 f2_3; have q5_0 : World.cell? _ ⟨g5, 0, none⟩ = some (.bool xa_) := BX.out.cell (i := 0) rfl (j := 0) rfl; have f5_0 : World.frozen? _ ⟨g5, 0, none⟩ = false := BX.out.frozen (i := 0) rfl 0; have q5_1 : World.cell? _ ⟨g5, 1, none⟩ = some (.bool xb_) := BX.out.cell (i := 0) rfl (j := 1) rfl; have f5_1 : World.frozen? _ ⟨g5, 1, none⟩ = false := BX.out.frozen (i := 0) rfl 1; have q5_2 : World.cell? _ ⟨g5, 2, none⟩ = some (.bool xn_) := BX.out.cell (i := 0) rfl (j := 2) rfl; have f5_2 : World.frozen? _ ⟨g5, 2, none⟩ = false := BX.out.frozen (i := 0) rfl 2; have q3_0 : World.cell? _ ⟨g3, 0, none⟩ = some (.slice A1 l1.length c1) := BX.out.cell (i := 1) rfl (j := 0) rfl; have f3_0 : World.frozen? _ ⟨g3, 0, none⟩ = false := BX.out.frozen (i := 1) rfl 0; have q2_0 : World.cell? _ ⟨g2, 0, none⟩ = some (.int .i64 a0_0) := BX.out.cell (i := 2) rfl (j := 0) rfl; have f2_0 : World.frozen? _ ⟨g2, 0, none⟩ = false := BX.out.frozen (i := 2) rfl 0; have q2_1 : World.cell? _ ⟨g2, 1, none⟩ = some (.int .i64 a0_1) := BX.out.cell (i := 2) rfl (j := 1) rfl; have f2_1 : World.frozen? _ ⟨g2, 1, none⟩ = false := BX.out.frozen (i := 2) rfl 1; have q2_2 : World.cell? _ ⟨g2, 2, none⟩ = some (.int .i64 a0_2) := BX.out.cell (i := 2) rfl (j := 2) rfl; have f2_2 : World.frozen? _ ⟨g2, 2, none⟩ = false := BX.out.frozen (i := 2) rfl 2; have q2_3 : World.cell? _ ⟨g2, 3, none⟩ = some (.int .i64 a0_3) := BX.out.cell (i := 2) rfl (j := 3) rfl; have f2_3 : World.frozen? _ ⟨g2, 3, none⟩ = false := BX.out.frozen (i := 2) rfl 3) | fail)
    go_ret
    refine ⟨congrArg (fun z => Ending.returned (Value.int .i64 z)) ?_, (Boxes.low (w0 := w) (bs := [(g5, #[.bool xa_, .bool xb_, .bool xn_], 99), (g3, #[.slice A1 l1.length c1], 25), (g2, #[.int .i64 a0_0, .int .i64 a0_1, .int .i64 a0_2, .int .i64 a0_3], 50)]) (by (with_reducible repeat (first | refine Boxes.drewN ?_ _ | refine Boxes.drew ?_ | refine Boxes.alloc ?_ _)); exact BX.out))⟩
    rw [← HV.out]
    simp only [impl_Term_fault.r]
    clear HV BX HR1 H1 H2 H3 H4 H5 eg1 eg2 hu1 hu2 hu3
    simp_all
    try ((repeat' split) <;> omega))
set_option maxRecDepth 100000 in
theorem impl_Term_fault.calls (a0_0 : Int) (a0_1 : Int) (a0_2 : Int) (a0_3 : Int) (A1 : Option Addr) (c1 : Nat) (l1 : List S50) (r : Int) (w : World) (hr1 : Kd.C k50 w A1 l1.length l1) (hc1 : l1.length ≤ c1) (h : impl_Term_fault.f a0_0 a0_1 a0_2 a0_3 l1 = some r) :
    Calls Try.prog 77 #[.agg #[.int .i64 a0_0, .int .i64 a0_1, .int .i64 a0_2, .int .i64 a0_3], .slice A1 l1.length c1] w fun e w' => e = .returned (.int .i64 r) ∧ Below w.heap.size w w' := by
  have eg1 : ∀ args w, (callFunc 86 args).run Try.prog w = .ok (.enter 86 args) w := Go.Proofs.enters_of Try.func86 (by kernel_rfl) rfl
  have eg2 : ∀ args w, (callFunc 87 args).run Try.prog w = .ok (.enter 87 args) w := Go.Proofs.enters_of Try.func87 (by kernel_rfl) rfl
  unfold impl_Term_fault.f at h
  obtain ⟨b1_, h1, h⟩ := Option.bind_eq_some_iff.mp h
  obtain ⟨⟨xa_, xb_, xn_⟩, h2, h⟩ := Option.bind_eq_some_iff.mp h
  obtain ⟨b2_, h3, h⟩ := Option.bind_eq_some_iff.mp h
  obtain ⟨ps_, h4, h⟩ := Option.bind_eq_some_iff.mp h
  obtain ⟨i_, h5, h⟩ := Option.bind_eq_some_iff.mp h
  obtain ⟨j_, h6, h⟩ := Option.bind_eq_some_iff.mp h
  have HV := Aside0.mk (Option.some.inj h)
  have H1 := Aside0.mk h1
  have H2 := Aside0.mk h2
  have H3 := Aside0.mk h3
  have H4 := Aside0.mk h4
  have H5 := Aside0.mk h5
  have H6 : Aside0 (i_ < 0 → idxO (impl_Term_fault.p2 l1) ps_ 0 = some j_) := ⟨fun hi => by rw [if_neg (by omega)] at h6; exact h6⟩
  have HR1 := Aside0.mk hr1
  rcases Bool.eq_false_or_eq_true b1_ with vb1 | vb1
  · have hn : ((xa_ = false ∧ xb_ = false ∧ xn_ = true) ∧ (a0_0 != 6) = true ∧ (a0_0 != 7) = true) ∨ ((xa_ = true ∧ xb_ = false ∧ xn_ = false) ∧ (a0_0 != 6) = false ∧ (a0_0 == 7) = false) ∨ ((xa_ = true ∧ xb_ = true ∧ xn_ = false) ∧ (a0_0 != 6) = true ∧ (a0_0 == 7) = !(a0_0 != 7)) := by
      have h := h2
      unfold impl_namesOf.f at h
      by_cases q1 : a0_0 = 1
      · rw [if_pos q1, impl_namesOf.j0, if_pos (by simp [q1])] at h
        simp only [Option.some.injEq, Prod.mk.injEq] at h
        exact .inl ⟨⟨h.1.symm, h.2.1.symm, h.2.2.symm⟩, by simp [q1], by simp [q1]⟩
      · rw [if_neg q1] at h
        by_cases q2 : a0_0 = 2
        · rw [impl_namesOf.j0, if_pos (by simp [q2])] at h
          simp only [Option.some.injEq, Prod.mk.injEq] at h
          exact .inl ⟨⟨h.1.symm, h.2.1.symm, h.2.2.symm⟩, by simp [q2], by simp [q2]⟩
        · rw [impl_namesOf.j0, if_neg (by simp [q2])] at h
          by_cases q6 : a0_0 = 6
          · rw [if_pos q6] at h
            simp only [Option.some.injEq, Prod.mk.injEq] at h
            exact .inr (.inl ⟨⟨h.1.symm, h.2.1.symm, h.2.2.symm⟩, by simp [q6], by simp [q6]⟩)
          · rw [if_neg q6] at h
            simp only [Option.some.injEq, Prod.mk.injEq] at h
            exact .inr (.inr ⟨⟨h.1.symm, h.2.1.symm, h.2.2.symm⟩, by simp [q6], by simp [bne]⟩)
    rcases hn with ⟨⟨ea, eb, en⟩, o6, o7⟩ | ⟨⟨ea, eb, en⟩, o6, e7⟩ | ⟨⟨ea, eb, en⟩, o6, e7⟩
    · exact impl_Term_fault_n a0_0 a0_1 a0_2 a0_3 A1 c1 l1 xa_ xb_ xn_ b1_ b2_ ps_ i_ j_ r w hc1 HR1 eg1 eg2 H1 H2 H3 H4 H5 H6 HV vb1 ea eb en o6 o7
    · exact impl_Term_fault_h a0_0 a0_1 a0_2 a0_3 A1 c1 l1 xa_ xb_ xn_ b1_ b2_ ps_ i_ j_ r w hc1 HR1 eg1 eg2 H1 H2 H3 H4 H5 H6 HV vb1 ea eb en o6 e7
    · exact impl_Term_fault_p a0_0 a0_1 a0_2 a0_3 A1 c1 l1 xa_ xb_ xn_ b1_ b2_ ps_ i_ j_ r w hc1 HR1 eg1 eg2 H1 H2 H3 H4 H5 H6 HV vb1 ea eb en o6 e7
  · exact impl_Term_fault_b a0_0 a0_1 a0_2 a0_3 A1 c1 l1 xa_ xb_ xn_ b1_ b2_ ps_ i_ j_ r w hc1 HR1 eg1 eg2 H1 H2 H3 H4 H5 H6 HV vb1

end Go.Proofs.Ytidfgmekhededaa.PFnExactOpenAll
