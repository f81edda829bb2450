-- Written by wip/tools/myprint.py of this claim's session, over the kit's print, round texts of its own: own text.
import Derived.Test.YtidfgmekhededaaPFnOpensx0
namespace Go.Proofs.Ytidfgmekhededaa.PFnOpens
open Go.RowKit Go.Proofs.YtidfgmekhededaaW.PrintWords Go.Proofs.YtidfgmekhededaaW.PrintLast Go.Proofs.YtidfgmekhededaaW.PrintMore
attribute [local go_sem] max2_int min2_int max_two min_two max_three min_three max_four min_four   -- for this text's walks alone
set_option linter.unusedVariables false
set_option linter.unusedSimpArgs false

/-! ### (my own text) riseWords -/
def riseAt (v : Int) : List Int → Nat
  | [] => 0
  | x :: xs => if x < v then riseAt v xs + 1 else 0
theorem riseAt_le (v : Int) : ∀ l, riseAt v l ≤ l.length
  | [] => Nat.le_refl _
  | x :: xs => by
    rw [riseAt]
    split
    · rw [List.length_cons]
      exact Nat.succ_le_succ (riseAt_le v xs)
    · exact Nat.zero_le _
theorem riseAt_lt (v : Int) : ∀ (l : List Int) (i : Nat), i < riseAt v l → ∃ h : i < l.length, l[i] < v
  | [], i, h => by simp [riseAt] at h
  | x :: xs, i, h => by
    rw [riseAt] at h
    split at h
    · cases i with
      | zero => exact ⟨by simp, by simpa⟩
      | succ i =>
        obtain ⟨h1, h2⟩ := riseAt_lt v xs i (by omega)
        exact ⟨by simpa using h1, by simpa using h2⟩
    · omega
theorem riseAt_ge (v : Int) : ∀ (l : List Int) (h : riseAt v l < l.length), v ≤ l[riseAt v l]
  | [], h => by simp [riseAt] at h
  | x :: xs, h => by
    by_cases c : x < v
    · have e : riseAt v (x :: xs) = riseAt v xs + 1 := by rw [riseAt, if_pos c]
      have h2 : riseAt v xs < xs.length := by rw [e, List.length_cons] at h; omega
      have := riseAt_ge v xs h2
      simp only [e, List.getElem_cons_succ]
      exact this
    · have e : riseAt v (x :: xs) = 0 := by rw [riseAt, if_neg c]
      simp only [e, List.getElem_cons_zero]
      omega
def riseL (l : List Int) (v : Int) : List Int := if riseAt v l < l.length ∧ rd l (riseAt v l : Int) = v then l else l.take (riseAt v l) ++ [v] ++ l.drop (riseAt v l)
theorem reps_int1 (w : World) (base : Nat) (ok : Nat → Prop) (x : Int) : Reps ((Kd.int .i64).M w base ok) (Kd.int .i64).sz [x] [.int .i64 x] := by
  refine ⟨rfl, fun j p hj => ?_⟩
  cases j with
  | zero =>
    (have : x = p := by simpa using hj); subst this; rfl
  | succ j => simp at hj

/-! ### spec_l1Rise: function 70 (my own text) -/
def spec_l1Rise.f (l0 : List Int) (a1 : Int) : Option (List Int) := if l0.length ≤ 1000000 then some (riseL l0 a1) else none
set_option maxHeartbeats 8000000 in
set_option maxRecDepth 100000 in
theorem spec_l1Rise.calls (base : Nat) (v0 : Value) (l0 : List Int) (a1 : Int) (w : World) (hbs : base ≤ w.heap.size) (hl : l0.length ≤ 1000000) (hR : Kd.R (Kd.int .i64) 2 w base (fun _ => True) v0 l0) :
    Calls Try.prog 70 #[v0, .int .i64 a1] w fun e w' => ∃ v1_ : Value, e = .returned v1_ ∧ Kd.R (Kd.int .i64) 2 w' base (fun _ => True) v1_ (riseL l0 a1) ∧ Below w.heap.size w w' := by
  obtain ⟨A0, c0, e0⟩ := Kd.R_slice hR; subst e0; obtain ⟨_, hc0, hC⟩ := Kd.R_reads' hR; have HR := A_ hR; have HC := A_ hC; have HBS := A_ hbs; have hat := riseAt_le a1 l0; have HC0 := A_ hc0; clear hR hC hbs hc0; go_enter Try.func70, Try.ntmps70; go_wp2; go_loopg [5] l0.length (fun gg s5 wr => ∃ kk : Nat, kk ≤ riseAt a1 l0 ∧ l0.length - kk ≤ gg ∧ s5 = .int .i64 kk ∧ wr = w); (case atStart => exact ⟨0, Nat.zero_le _, by omega, rfl, rfl⟩)
  case round =>
    obtain ⟨kk, hkk, hg, rfl, hww_⟩ := hrel; have hww2_ := hww_.symm; clear hww_; subst hww2_; by_cases hlt : kk < riseAt a1 l0
    · obtain ⟨hi, hx⟩ := riseAt_lt a1 l0 kk hlt
      (have hltz : (kk : Int) < (l0.length : Int) := by omega); obtain ⟨ad, e, hx0⟩ := Kd.at_int HC.out (kk : Int) (by omega) hltz; cases e; simp only [Int.toNat_natCast] at hx0
      have hq : decide (rd l0 (kk : Int) < a1) = true := decide_eq_true (by
        have : rd l0 (kk : Int) = l0[kk] := by
          unfold rd; simp [List.getD_eq_getElem?_getD, hi]
        omega)
      clear hx; go_wp2; go_roundg (l0.length - (kk + 1)); (case measure => omega); (case rel => exact ⟨kk + 1, by omega, by omega, by go_num, rfl⟩)
    · have hke : kk = riseAt a1 l0 := by omega
      by_cases hP : riseAt a1 l0 < l0.length ∧ rd l0 (riseAt a1 l0 : Int) = a1
      · have HP := A_ hP
        (have hlt2 : kk < l0.length := by omega); (have hltz : (kk : Int) < (l0.length : Int) := by omega); obtain ⟨ad, e, hx0⟩ := Kd.at_int HC.out (kk : Int) (by omega) hltz; cases e; simp only [Int.toNat_natCast] at hx0; rw [← hke] at hP; have hx1 := hP.2; have hq : decide (rd l0 (kk : Int) < a1) = false := decide_eq_false (by omega); (have hq2 : (rd l0 (kk : Int) == a1) = true := by rw [hx1]; exact beq_self_eq_true a1); have HK := A_ hke; clear hP hx1 hke hlt; go_wp2; go_ret; exact ⟨_, rfl, by unfold riseL; rw [if_pos HP.out]; exact HR.out, Below.refl _ _⟩
      · have HP := A_ hP
        have HV : Aside0 (riseL l0 a1 = l0.take kk ++ [a1] ++ l0.drop kk) := ⟨by unfold riseL; rw [if_neg hP, ← hke]⟩; (have hkl : kk ≤ l0.length := by omega)
        have hx1 : ∀ h : kk < l0.length, a1 < rd l0 (kk : Int) := by
          intro h; have h1 := riseAt_ge a1 l0 (by omega)
          have h2 : rd l0 (kk : Int) = l0[riseAt a1 l0]'(by omega) := by
            subst hke; unfold rd; simp [List.getD_eq_getElem?_getD, h]
          have h3 : rd l0 (kk : Int) ≠ a1 := fun e => hP ⟨by omega, by rw [← hke]; exact e⟩; omega
        obtain ⟨i0, hi0, _, hsz0, _⟩ := info_parts info2; have hcut36 := cut_to (P := Try.prog) 29 2 .i64 Try.underlying29 hi0 A0 l0.length c0 (kk : Int) (by omega) (by omega) HC0.out; have hcut43 := cut_from (P := Try.prog) 29 2 .i64 Try.underlying29 hi0 1 hsz0 A0 l0.length c0 (kk : Int) (by omega) (by omega); simp only [Int.toNat_natCast] at hcut36 hcut43; obtain ⟨m43, hm43⟩ : ∃ m, m = l0.length - kk := ⟨_, rfl⟩; obtain ⟨c43, hc43⟩ : ∃ m, m = c0 - kk := ⟨_, rfl⟩; obtain ⟨A43, hA43⟩ : ∃ A1, A1 = (if c0 = kk then A0 else A0.map (·.add (kk * 1))) := ⟨_, rfl⟩; rw [← hm43, ← hc43, ← hA43] at hcut43
        have hT36 : Aside0 (∀ W, Below w.heap.size w W → Kd.C (Kd.int .i64) W A0 kk (l0.take kk)) := ⟨fun W hW => by
          have h1 := Kd.C_take (m := kk) (Kd.C_below HC.out hW) hkl
          rwa [List.length_take, Nat.min_eq_left hkl] at h1⟩
        have hT43 : Aside0 (∀ W, Below w.heap.size w W → Kd.C (Kd.int .i64) W A43 m43 (l0.drop kk)) := ⟨fun W hW => by
          have h1 := Kd.C_drop (m := kk) (c := c0) (Kd.C_below HC.out hW) hkl HC0.out; rw [List.length_drop, ← hm43] at h1; rw [hA43]
          exact h1⟩
        have hL36 : Aside0 ((([] : List Int).length + kk) * 8 ≤ 140737488355328) := ⟨by simp; omega⟩; have hL39 : Aside0 (((l0.take kk).length + [a1].length) * 8 ≤ 140737488355328) := ⟨by rw [List.length_take]; simp; omega⟩; have hL43 : Aside0 (((l0.take kk ++ [a1]).length + m43) * 8 ≤ 140737488355328) := ⟨by rw [List.length_append, List.length_take]; simp; omega⟩; have BW := A_ (below_drew1 (Below.refl w.heap.size w))
        have HX : (¬ kk < l0.length) ∨ (kk < l0.length ∧ ∃ ad, A0 = some ad ∧ w.cell? (ad.add kk) = some (.int .i64 (rd l0 (kk : Int))) ∧ decide (rd l0 (kk : Int) < a1) = false ∧ (rd l0 (kk : Int) == a1) = false) := by
          by_cases h : kk < l0.length
          · obtain ⟨ad, e, hx0⟩ := Kd.at_int HC.out (kk : Int) (by omega) (by omega)
            have := hx1 h; exact .inr ⟨h, ad, e, by simpa using hx0, decide_eq_false (by omega), by simp; omega⟩
          · exact .inl h
        clear hx1 hP hlt hke hi0 hsz0 hm43 hc43 hA43 hkl
        rcases HX with hlt2 | ⟨hlt2, ad, e, hx0, hq, hq2⟩
        · have hltz : ¬ (kk : Int) < (l0.length : Int) := by omega
          go_wp2; refine start_ (n := 13) (S := fun w' => True) (ds := []) #[false, false, false, false, false, false, false, false, false, false, false, false, false] (by kernel_rfl) rfl rfl trivial (fun hHeld => ?_); refine pure_ (i := 1) (N := some 34) (v := ?_) (a' := ?_) (bv 13 2) rfl rfl (by kernel_rfl) (fun _ _ _ h => h) (Or.inl ⟨by rfl, ?_⟩) ?_ ?_; rotate_left
          · intro w'
            go_simp; (with_reducible rfl)
          rotate_left
          · simp only [Act.put, p_1, p_2, p_3, i64_w, i32_w]
            rfl
          refine pure_ (i := 2) (N := some 35) (v := ?_) (a' := ?_) (bv 13 6) rfl rfl (by kernel_rfl) (fun _ _ _ h => h) (Or.inl ⟨by rfl, ?_⟩) ?_ ?_; rotate_left
          · intro w'
            go_simp; (with_reducible rfl)
          rotate_left
          · simp only [Act.put, p_1, p_2, p_3, i64_w, i32_w]
            rfl
          refine pure_ (i := 3) (N := some 36) (v := ?_) (a' := ?_) (bv 13 14) rfl rfl (by kernel_rfl) (fun _ _ _ h => h) (Or.inl ⟨by rfl, ?_⟩) ?_ ?_; rotate_left
          · intro w'
            go_simp; (with_reducible rfl)
          rotate_left
          · simp only [Act.put, p_1, p_2, p_3, i64_w, i32_w]
            rfl
          refine pure_ (i := 5) (N := some 38) (v := ?_) (a' := ?_) (bv 13 46) rfl rfl (by kernel_rfl) (fun _ _ _ h => h) (Or.inl ⟨by rfl, ?_⟩) ?_ ?_; rotate_left
          · intro w'
            go_simp; (with_reducible rfl)
          rotate_left
          · simp only [Act.put, p_1, p_2, p_3, i64_w, i32_w]
            rfl
          refine pure_ (i := 8) (N := some 41) (v := ?_) (a' := ?_) (bv 13 302) rfl rfl (by kernel_rfl) (fun _ _ _ h => h) (Or.inl ⟨by rfl, ?_⟩) ?_ ?_; rotate_left
          · intro w'
            go_simp; (with_reducible rfl)
          rotate_left
          · simp only [Act.put, p_1, p_2, p_3, i64_w, i32_w]
            rfl
          refine pure_ (i := 9) (N := some 42) (v := ?_) (a' := ?_) (bv 13 814) rfl rfl (by kernel_rfl) (fun _ _ _ h => h) (Or.inl ⟨by rfl, ?_⟩) ?_ ?_; rotate_left
          · intro w'
            go_simp; (with_reducible rfl)
          rotate_left
          · simp only [Act.put, p_1, p_2, p_3, i64_w, i32_w]
            rfl
          refine pure_ (i := 10) (N := some 43) (v := ?_) (a' := ?_) (bv 13 1838) rfl rfl (by kernel_rfl) (fun _ _ _ h => h) (Or.inl ⟨by rfl, ?_⟩) ?_ ?_; rotate_left
          · intro w'
            go_simp; (with_reducible rfl)
          rotate_left
          · simp only [Act.put, p_1, p_2, p_3, i64_w, i32_w]
            rfl
          refine join_ (σ := Value × Value × Value) 3 #[true, true, true, true, true, true, true, false, true, true, true, false, false] (fun s => [(33, s.1), (37, s.2.1), (39, s.2.2)]) (fun s w' => Aside0 (Kd.R (Kd.int .i64) 2 w' w.heap.size (fun _ => True) s.2.1 (l0.take kk)) ∧ Aside0 (Kd.R (Kd.int .i64) 2 w' w.heap.size (fun _ => True) s.2.2 [a1]) ∧ Aside0 (Below w.heap.size w w')) ?_ ?_; rotate_left
          · intro hCont
            refine two_ (i := 0) (j := 6) (Ni := some 33) (Nj := some 39) #[true, true, true, true, false, true, false, false, true, true, true, false, false] #[false, true, true, true, false, true, true, false, true, true, true, false, false] rfl rfl rfl rfl (by kernel_rfl) (by decide) (by decide) (fun K hK => ?_) (fun K hK => ?_)
            · skip
              refine Kd.R_lit_step (Kd.int .i64) _ 2 ?hg (N := 33) ?hd (xs := ([] : List Int)) (inner := []) (ok := fun _ => True) (okp := fun _ => True) ?hr ?hp (fun _ hk => hk) trivial (Below.refl _ _) (Nat.le_refl _) (by simp) ?_; (case hd => rfl); (case hg => rfl); (case hr => go_simp <;> rfl); (case hp => exact (Reps.none _ _)); intro v33 w33 ho hb hg_ hnew_; clear hg_ hnew_; have H33 := A_ (Kd.R_lower ho BW.out.size); have BW2 := A_ (below_step BW.out hb); clear BW; have BW := BW2; clear BW2; clear ho hb; refine hK.out _ _ trivial (fun hHeld => ?_); clear hK K; refine norm_ (a' := ?_) ?_ ?_; rotate_left
              · show Act.put _ (some 33) _ = _
                simp only [Act.put, p_1, p_2, p_3, i64_w, i32_w]; rfl
              refine two_ (i := 4) (j := 6) (Ni := some 37) (Nj := some 39) #[true, true, true, true, true, true, false, false, true, true, true, false, false] #[true, true, true, true, false, true, true, false, true, true, true, false, false] rfl rfl rfl rfl (by kernel_rfl) (by decide) (by decide) (fun K hK => ?_) (fun K hK => ?_)
              · skip
                refine Kd.R_append_rows_step (Kd.int .i64) (w0 := w) w.heap.size (by rfl) (.tmp 33) (.tmp 36) 29 2 (.int .i64 0) 8 rfl Try.underlying29 info2 rfl (by decide) (by omega) v33 ([]) (l0.take kk) _ _ _ (fun _ => True) (fun _ => False) rfl rfl ?aO ?aR (fun _ _ h => h) (fun _ h => h.elim) (fun _ _ => trivial) BW.out BW.out.size ?aL ?_; (case aR => exact (hT36.out _ BW.out)); (case aO => exact H33.out); (case aL => exact hL36.out); intro v37 w37 ho hb hg hat; have H37 := A_ ho; clear BW; have BW := A_ hb; clear H33 ho hb hg hat; refine hK.out _ _ trivial (fun hHeld => ?_); clear hK K; refine norm_ (a' := ?_) ?_ ?_; rotate_left
                · show Act.put _ (some 37) _ = _
                  simp only [Act.put, p_1, p_2, p_3, i64_w, i32_w]; rfl
                refine one_ (i := 6) (N := some 39) (bv 13 1919) rfl rfl (by kernel_rfl) (by decide) (fun K hK => ?_); refine Kd.R_lit_step (Kd.int .i64) _ 2 ?hg (N := 39) ?hd (xs := ([a1] : List Int)) (inner := [.int .i64 a1]) (ok := fun _ => True) (okp := fun _ => True) ?hr ?hp (fun _ hk => hk) trivial (Below.refl _ _) (Nat.le_refl _) (by simp) ?_; (case hd => rfl); (case hg => rfl); (case hr => go_simp <;> rfl); (case hp => exact (reps_int1 _ _ _ _)); intro v39 w39 ho hb hg_ hnew_; clear hg_ hnew_; have H39 := A_ (Kd.R_lower ho BW.out.size); have H37b := A_ (Kd.R_below H37.out hb); clear H37; have H37 := H37b; clear H37b; have BW2 := A_ (below_step BW.out hb); clear BW; have BW := BW2; clear BW2; clear ho hb; refine hK.out _ _ trivial (fun hHeld => ?_); clear hK K; refine norm_ (a' := ?_) ?_ ?_; rotate_left
                · show Act.put _ (some 39) _ = _
                  simp only [Act.put, p_1, p_2, p_3, i64_w, i32_w]; rfl
                exact norm_ (by simp only [putAll, Act.put, List.setIfInBounds_toArray, List.set_cons_zero, List.set_cons_succ]) (hCont ⟨v33, v37, v39⟩ _ ⟨H37, H39, BW⟩)
              · skip
                refine Kd.R_lit_step (Kd.int .i64) _ 2 ?hg (N := 39) ?hd (xs := ([a1] : List Int)) (inner := [.int .i64 a1]) (ok := fun _ => True) (okp := fun _ => True) ?hr ?hp (fun _ hk => hk) trivial (Below.refl _ _) (Nat.le_refl _) (by simp) ?_; (case hd => rfl); (case hg => rfl); (case hr => go_simp <;> rfl); (case hp => exact (reps_int1 _ _ _ _)); intro v39 w39 ho hb hg_ hnew_; clear hg_ hnew_; have H39a := A_ (Kd.R_lower (Kd.R_newR ho H33.out) BW.out.size); have H33b := A_ (Kd.R_below H33.out hb); clear H33; have H33 := H33b; clear H33b; have BW2 := A_ (below_step BW.out hb); clear BW; have BW := BW2; clear BW2; clear ho hb; refine hK.out _ _ trivial (fun hHeld => ?_); clear hK K; refine norm_ (a' := ?_) ?_ ?_; rotate_left
                · show Act.put _ (some 39) _ = _
                  simp only [Act.put, p_1, p_2, p_3, i64_w, i32_w]; rfl
                refine one_ (i := 4) (N := some 37) (bv 13 1919) rfl rfl (by kernel_rfl) (by decide) (fun K hK => ?_); refine Kd.R_append_rows_step (Kd.int .i64) (w0 := w) w.heap.size (by rfl) (.tmp 33) (.tmp 36) 29 2 (.int .i64 0) 8 rfl Try.underlying29 info2 rfl (by decide) (by omega) v33 ([]) (l0.take kk) _ _ _ (fun _ => True) (fun _ => False) rfl rfl ?aO ?aR (fun _ _ h => h) (fun _ h => h.elim) (fun _ _ => trivial) BW.out BW.out.size ?aL ?_; (case aR => exact (hT36.out _ BW.out)); (case aO => exact H33.out); (case aL => exact hL36.out); intro v37 w37 ho hb hg hat; have H37 := A_ ho; have H39 := A_ (Kd.R_mono (Kd.R_grown H39a.out hg (fun k hk => hk.2)) (fun _ _ => trivial)); clear H39a; clear BW; have BW := A_ hb; clear H33 ho hb hg hat; refine hK.out _ _ trivial (fun hHeld => ?_); clear hK K; refine norm_ (a' := ?_) ?_ ?_; rotate_left
                · show Act.put _ (some 37) _ = _
                  simp only [Act.put, p_1, p_2, p_3, i64_w, i32_w]; rfl
                exact norm_ (by simp only [putAll, Act.put, List.setIfInBounds_toArray, List.set_cons_zero, List.set_cons_succ]) (hCont ⟨v33, v37, v39⟩ _ ⟨H37, H39, BW⟩)
            · skip
              refine Kd.R_lit_step (Kd.int .i64) _ 2 ?hg (N := 39) ?hd (xs := ([a1] : List Int)) (inner := [.int .i64 a1]) (ok := fun _ => True) (okp := fun _ => True) ?hr ?hp (fun _ hk => hk) trivial (Below.refl _ _) (Nat.le_refl _) (by simp) ?_; (case hd => rfl); (case hg => rfl); (case hr => go_simp <;> rfl); (case hp => exact (reps_int1 _ _ _ _)); intro v39 w39 ho hb hg_ hnew_; clear hg_ hnew_; have H39 := A_ (Kd.R_lower ho BW.out.size); have BW2 := A_ (below_step BW.out hb); clear BW; have BW := BW2; clear BW2; clear ho hb; refine hK.out _ _ trivial (fun hHeld => ?_); clear hK K; refine norm_ (a' := ?_) ?_ ?_; rotate_left
              · show Act.put _ (some 39) _ = _
                simp only [Act.put, p_1, p_2, p_3, i64_w, i32_w]; rfl
              refine one_ (i := 0) (N := some 33) (bv 13 1903) rfl rfl (by kernel_rfl) (by decide) (fun K hK => ?_); refine Kd.R_lit_step (Kd.int .i64) _ 2 ?hg (N := 33) ?hd (xs := ([] : List Int)) (inner := []) (ok := fun _ => True) (okp := fun _ => True) ?hr ?hp (fun _ hk => hk) trivial (Below.refl _ _) (Nat.le_refl _) (by simp) ?_; (case hd => rfl); (case hg => rfl); (case hr => go_simp <;> rfl); (case hp => exact (Reps.none _ _)); intro v33 w33 ho hb hg_ hnew_; clear hg_ hnew_; have H33 := A_ (Kd.R_lower ho BW.out.size); have H39a := A_ (Kd.R_elder H39.out ho hb); clear H39; have BW2 := A_ (below_step BW.out hb); clear BW; have BW := BW2; clear BW2; clear ho hb; refine hK.out _ _ trivial (fun hHeld => ?_); clear hK K; refine norm_ (a' := ?_) ?_ ?_; rotate_left
              · show Act.put _ (some 33) _ = _
                simp only [Act.put, p_1, p_2, p_3, i64_w, i32_w]; rfl
              refine one_ (i := 4) (N := some 37) (bv 13 1919) rfl rfl (by kernel_rfl) (by decide) (fun K hK => ?_); refine Kd.R_append_rows_step (Kd.int .i64) (w0 := w) w.heap.size (by rfl) (.tmp 33) (.tmp 36) 29 2 (.int .i64 0) 8 rfl Try.underlying29 info2 rfl (by decide) (by omega) v33 ([]) (l0.take kk) _ _ _ (fun _ => True) (fun _ => False) rfl rfl ?aO ?aR (fun _ _ h => h) (fun _ h => h.elim) (fun _ _ => trivial) BW.out BW.out.size ?aL ?_; (case aR => exact (hT36.out _ BW.out)); (case aO => exact H33.out); (case aL => exact hL36.out); intro v37 w37 ho hb hg hat; have H37 := A_ ho; have H39 := A_ (Kd.R_mono (Kd.R_grown H39a.out hg (fun k hk => hk.2)) (fun _ _ => trivial)); clear H39a; clear BW; have BW := A_ hb; clear H33 ho hb hg hat; refine hK.out _ _ trivial (fun hHeld => ?_); clear hK K; refine norm_ (a' := ?_) ?_ ?_; rotate_left
              · show Act.put _ (some 37) _ = _
                simp only [Act.put, p_1, p_2, p_3, i64_w, i32_w]; rfl
              exact norm_ (by simp only [putAll, Act.put, List.setIfInBounds_toArray, List.set_cons_zero, List.set_cons_succ]) (hCont ⟨v33, v37, v39⟩ _ ⟨H37, H39, BW⟩)
          clear BW; rintro ⟨v33, v37, v39⟩ w40 ⟨H37, H39, BW⟩; obtain ⟨A39, c39, e39⟩ := Kd.R_slice H39.out; dsimp only at e39; subst e39; have hHeld : True := trivial; refine norm_ (a' := ?_) ?_ ?_; rotate_left
          · simp only [putAll, Act.put, List.setIfInBounds_toArray, List.set_cons_zero, List.set_cons_succ]
            rfl
          refine one_ (i := 7) (N := some 40) (bv 13 2047) rfl rfl (by kernel_rfl) (by decide) (fun K hK => ?_); refine Kd.R_append_rows_step (Kd.int .i64) (w0 := w) w.heap.size (by rfl) (.tmp 37) (.tmp 39) 29 2 (.int .i64 0) 8 rfl Try.underlying29 info2 rfl (by decide) (by omega) v37 (l0.take kk) ([a1]) _ _ _ (fun _ => True) (fun _ => False) rfl rfl ?aO ?aR (fun _ _ h => h) (fun _ h => h.elim) (fun _ _ => trivial) BW.out BW.out.size ?aL ?_; (case aR => exact (Kd.R_reads' H39.out).2.2); (case aO => exact H37.out); (case aL => exact hL39.out); intro v40 w40 ho hb hg hat; have H40 := A_ ho; clear BW; have BW := A_ hb; clear H37 H39 ho hb hg hat; refine hK.out _ _ trivial (fun hHeld => ?_); clear hK K; refine norm_ (a' := ?_) ?_ ?_; rotate_left
          · show Act.put _ (some 40) _ = _
            simp only [Act.put, p_1, p_2, p_3, i64_w, i32_w]; rfl
          refine one_ (i := 11) (N := some 44) (bv 13 4095) rfl rfl (by kernel_rfl) (by decide) (fun K hK => ?_); refine Kd.R_append_rows_step (Kd.int .i64) (w0 := w) w.heap.size (by rfl) (.tmp 40) (.tmp 43) 29 2 (.int .i64 0) 8 rfl Try.underlying29 info2 rfl (by decide) (by omega) v40 (l0.take kk ++ [a1]) (l0.drop kk) _ _ _ (fun _ => True) (fun _ => False) rfl rfl ?aO ?aR (fun _ _ h => h) (fun _ h => h.elim) (fun _ _ => trivial) BW.out BW.out.size ?aL ?_; (case aR => exact (hT43.out _ BW.out)); (case aO => exact H40.out); (case aL => exact hL43.out); intro v44 w44 ho hb hg hat; have H44 := A_ ho; clear BW; have BW := A_ hb; clear H40 ho hb hg hat; refine hK.out _ _ trivial (fun hHeld => ?_); clear hK K; refine norm_ (a' := ?_) ?_ ?_; rotate_left
          · show Act.put _ (some 44) _ = _
            simp only [Act.put, p_1, p_2, p_3, i64_w, i32_w]; rfl
          refine pure_ (i := 12) (N := some 4) (v := ?_) (a' := ?_) (bv 13 8191) rfl rfl (by kernel_rfl) (fun _ _ _ h => h) (Or.inl ⟨by rfl, ?_⟩) ?_ ?_; rotate_left
          · intro w'
            go_simp; (with_reducible rfl)
          rotate_left
          · simp only [Act.put, p_1, p_2, p_3, i64_w, i32_w]
            rfl
          refine done_ (by kernel_rfl) ?_; go_wp2; go_ret; exact ⟨_, rfl, by rw [HV.out]; exact Kd.R_mono (Kd.R_lower H44.out HBS.out) (fun _ h => h), BW.out⟩
        · cases e
          (have hltz : (kk : Int) < (l0.length : Int) := by omega); go_wp2; refine start_ (n := 13) (S := fun w' => True) (ds := []) #[false, false, false, false, false, false, false, false, false, false, false, false, false] (by kernel_rfl) rfl rfl trivial (fun hHeld => ?_); refine pure_ (i := 1) (N := some 34) (v := ?_) (a' := ?_) (bv 13 2) rfl rfl (by kernel_rfl) (fun _ _ _ h => h) (Or.inl ⟨by rfl, ?_⟩) ?_ ?_; rotate_left
          · intro w'
            go_simp; (with_reducible rfl)
          rotate_left
          · simp only [Act.put, p_1, p_2, p_3, i64_w, i32_w]
            rfl
          refine pure_ (i := 2) (N := some 35) (v := ?_) (a' := ?_) (bv 13 6) rfl rfl (by kernel_rfl) (fun _ _ _ h => h) (Or.inl ⟨by rfl, ?_⟩) ?_ ?_; rotate_left
          · intro w'
            go_simp; (with_reducible rfl)
          rotate_left
          · simp only [Act.put, p_1, p_2, p_3, i64_w, i32_w]
            rfl
          refine pure_ (i := 3) (N := some 36) (v := ?_) (a' := ?_) (bv 13 14) rfl rfl (by kernel_rfl) (fun _ _ _ h => h) (Or.inl ⟨by rfl, ?_⟩) ?_ ?_; rotate_left
          · intro w'
            go_simp; (with_reducible rfl)
          rotate_left
          · simp only [Act.put, p_1, p_2, p_3, i64_w, i32_w]
            rfl
          refine pure_ (i := 5) (N := some 38) (v := ?_) (a' := ?_) (bv 13 46) rfl rfl (by kernel_rfl) (fun _ _ _ h => h) (Or.inl ⟨by rfl, ?_⟩) ?_ ?_; rotate_left
          · intro w'
            go_simp; (with_reducible rfl)
          rotate_left
          · simp only [Act.put, p_1, p_2, p_3, i64_w, i32_w]
            rfl
          refine pure_ (i := 8) (N := some 41) (v := ?_) (a' := ?_) (bv 13 302) rfl rfl (by kernel_rfl) (fun _ _ _ h => h) (Or.inl ⟨by rfl, ?_⟩) ?_ ?_; rotate_left
          · intro w'
            go_simp; (with_reducible rfl)
          rotate_left
          · simp only [Act.put, p_1, p_2, p_3, i64_w, i32_w]
            rfl
          refine pure_ (i := 9) (N := some 42) (v := ?_) (a' := ?_) (bv 13 814) rfl rfl (by kernel_rfl) (fun _ _ _ h => h) (Or.inl ⟨by rfl, ?_⟩) ?_ ?_; rotate_left
          · intro w'
            go_simp; (with_reducible rfl)
          rotate_left
          · simp only [Act.put, p_1, p_2, p_3, i64_w, i32_w]
            rfl
          refine pure_ (i := 10) (N := some 43) (v := ?_) (a' := ?_) (bv 13 1838) rfl rfl (by kernel_rfl) (fun _ _ _ h => h) (Or.inl ⟨by rfl, ?_⟩) ?_ ?_; rotate_left
          · intro w'
            go_simp; (with_reducible rfl)
          rotate_left
          · simp only [Act.put, p_1, p_2, p_3, i64_w, i32_w]
            rfl
          refine join_ (σ := Value × Value × Value) 3 #[true, true, true, true, true, true, true, false, true, true, true, false, false] (fun s => [(33, s.1), (37, s.2.1), (39, s.2.2)]) (fun s w' => Aside0 (Kd.R (Kd.int .i64) 2 w' w.heap.size (fun _ => True) s.2.1 (l0.take kk)) ∧ Aside0 (Kd.R (Kd.int .i64) 2 w' w.heap.size (fun _ => True) s.2.2 [a1]) ∧ Aside0 (Below w.heap.size w w')) ?_ ?_; rotate_left
          · intro hCont
            refine two_ (i := 0) (j := 6) (Ni := some 33) (Nj := some 39) #[true, true, true, true, false, true, false, false, true, true, true, false, false] #[false, true, true, true, false, true, true, false, true, true, true, false, false] rfl rfl rfl rfl (by kernel_rfl) (by decide) (by decide) (fun K hK => ?_) (fun K hK => ?_)
            · skip
              refine Kd.R_lit_step (Kd.int .i64) _ 2 ?hg (N := 33) ?hd (xs := ([] : List Int)) (inner := []) (ok := fun _ => True) (okp := fun _ => True) ?hr ?hp (fun _ hk => hk) trivial (Below.refl _ _) (Nat.le_refl _) (by simp) ?_; (case hd => rfl); (case hg => rfl); (case hr => go_simp <;> rfl); (case hp => exact (Reps.none _ _)); intro v33 w33 ho hb hg_ hnew_; clear hg_ hnew_; have H33 := A_ (Kd.R_lower ho BW.out.size); have BW2 := A_ (below_step BW.out hb); clear BW; have BW := BW2; clear BW2; clear ho hb; refine hK.out _ _ trivial (fun hHeld => ?_); clear hK K; refine norm_ (a' := ?_) ?_ ?_; rotate_left
              · show Act.put _ (some 33) _ = _
                simp only [Act.put, p_1, p_2, p_3, i64_w, i32_w]; rfl
              refine two_ (i := 4) (j := 6) (Ni := some 37) (Nj := some 39) #[true, true, true, true, true, true, false, false, true, true, true, false, false] #[true, true, true, true, false, true, true, false, true, true, true, false, false] rfl rfl rfl rfl (by kernel_rfl) (by decide) (by decide) (fun K hK => ?_) (fun K hK => ?_)
              · skip
                refine Kd.R_append_rows_step (Kd.int .i64) (w0 := w) w.heap.size (by rfl) (.tmp 33) (.tmp 36) 29 2 (.int .i64 0) 8 rfl Try.underlying29 info2 rfl (by decide) (by omega) v33 ([]) (l0.take kk) _ _ _ (fun _ => True) (fun _ => False) rfl rfl ?aO ?aR (fun _ _ h => h) (fun _ h => h.elim) (fun _ _ => trivial) BW.out BW.out.size ?aL ?_; (case aR => exact (hT36.out _ BW.out)); (case aO => exact H33.out); (case aL => exact hL36.out); intro v37 w37 ho hb hg hat; have H37 := A_ ho; clear BW; have BW := A_ hb; clear H33 ho hb hg hat; refine hK.out _ _ trivial (fun hHeld => ?_); clear hK K; refine norm_ (a' := ?_) ?_ ?_; rotate_left
                · show Act.put _ (some 37) _ = _
                  simp only [Act.put, p_1, p_2, p_3, i64_w, i32_w]; rfl
                refine one_ (i := 6) (N := some 39) (bv 13 1919) rfl rfl (by kernel_rfl) (by decide) (fun K hK => ?_); refine Kd.R_lit_step (Kd.int .i64) _ 2 ?hg (N := 39) ?hd (xs := ([a1] : List Int)) (inner := [.int .i64 a1]) (ok := fun _ => True) (okp := fun _ => True) ?hr ?hp (fun _ hk => hk) trivial (Below.refl _ _) (Nat.le_refl _) (by simp) ?_; (case hd => rfl); (case hg => rfl); (case hr => go_simp <;> rfl); (case hp => exact (reps_int1 _ _ _ _)); intro v39 w39 ho hb hg_ hnew_; clear hg_ hnew_; have H39 := A_ (Kd.R_lower ho BW.out.size); have H37b := A_ (Kd.R_below H37.out hb); clear H37; have H37 := H37b; clear H37b; have BW2 := A_ (below_step BW.out hb); clear BW; have BW := BW2; clear BW2; clear ho hb; refine hK.out _ _ trivial (fun hHeld => ?_); clear hK K; refine norm_ (a' := ?_) ?_ ?_; rotate_left
                · show Act.put _ (some 39) _ = _
                  simp only [Act.put, p_1, p_2, p_3, i64_w, i32_w]; rfl
                exact norm_ (by simp only [putAll, Act.put, List.setIfInBounds_toArray, List.set_cons_zero, List.set_cons_succ]) (hCont ⟨v33, v37, v39⟩ _ ⟨H37, H39, BW⟩)
              · skip
                refine Kd.R_lit_step (Kd.int .i64) _ 2 ?hg (N := 39) ?hd (xs := ([a1] : List Int)) (inner := [.int .i64 a1]) (ok := fun _ => True) (okp := fun _ => True) ?hr ?hp (fun _ hk => hk) trivial (Below.refl _ _) (Nat.le_refl _) (by simp) ?_; (case hd => rfl); (case hg => rfl); (case hr => go_simp <;> rfl); (case hp => exact (reps_int1 _ _ _ _)); intro v39 w39 ho hb hg_ hnew_; clear hg_ hnew_; have H39a := A_ (Kd.R_lower (Kd.R_newR ho H33.out) BW.out.size); have H33b := A_ (Kd.R_below H33.out hb); clear H33; have H33 := H33b; clear H33b; have BW2 := A_ (below_step BW.out hb); clear BW; have BW := BW2; clear BW2; clear ho hb; refine hK.out _ _ trivial (fun hHeld => ?_); clear hK K; refine norm_ (a' := ?_) ?_ ?_; rotate_left
                · show Act.put _ (some 39) _ = _
                  simp only [Act.put, p_1, p_2, p_3, i64_w, i32_w]; rfl
                refine one_ (i := 4) (N := some 37) (bv 13 1919) rfl rfl (by kernel_rfl) (by decide) (fun K hK => ?_); refine Kd.R_append_rows_step (Kd.int .i64) (w0 := w) w.heap.size (by rfl) (.tmp 33) (.tmp 36) 29 2 (.int .i64 0) 8 rfl Try.underlying29 info2 rfl (by decide) (by omega) v33 ([]) (l0.take kk) _ _ _ (fun _ => True) (fun _ => False) rfl rfl ?aO ?aR (fun _ _ h => h) (fun _ h => h.elim) (fun _ _ => trivial) BW.out BW.out.size ?aL ?_; (case aR => exact (hT36.out _ BW.out)); (case aO => exact H33.out); (case aL => exact hL36.out); intro v37 w37 ho hb hg hat; have H37 := A_ ho; have H39 := A_ (Kd.R_mono (Kd.R_grown H39a.out hg (fun k hk => hk.2)) (fun _ _ => trivial)); clear H39a; clear BW; have BW := A_ hb; clear H33 ho hb hg hat; refine hK.out _ _ trivial (fun hHeld => ?_); clear hK K; refine norm_ (a' := ?_) ?_ ?_; rotate_left
                · show Act.put _ (some 37) _ = _
                  simp only [Act.put, p_1, p_2, p_3, i64_w, i32_w]; rfl
                exact norm_ (by simp only [putAll, Act.put, List.setIfInBounds_toArray, List.set_cons_zero, List.set_cons_succ]) (hCont ⟨v33, v37, v39⟩ _ ⟨H37, H39, BW⟩)
            · skip
              refine Kd.R_lit_step (Kd.int .i64) _ 2 ?hg (N := 39) ?hd (xs := ([a1] : List Int)) (inner := [.int .i64 a1]) (ok := fun _ => True) (okp := fun _ => True) ?hr ?hp (fun _ hk => hk) trivial (Below.refl _ _) (Nat.le_refl _) (by simp) ?_; (case hd => rfl); (case hg => rfl); (case hr => go_simp <;> rfl); (case hp => exact (reps_int1 _ _ _ _)); intro v39 w39 ho hb hg_ hnew_; clear hg_ hnew_; have H39 := A_ (Kd.R_lower ho BW.out.size); have BW2 := A_ (below_step BW.out hb); clear BW; have BW := BW2; clear BW2; clear ho hb; refine hK.out _ _ trivial (fun hHeld => ?_); clear hK K; refine norm_ (a' := ?_) ?_ ?_; rotate_left
              · show Act.put _ (some 39) _ = _
                simp only [Act.put, p_1, p_2, p_3, i64_w, i32_w]; rfl
              refine one_ (i := 0) (N := some 33) (bv 13 1903) rfl rfl (by kernel_rfl) (by decide) (fun K hK => ?_); refine Kd.R_lit_step (Kd.int .i64) _ 2 ?hg (N := 33) ?hd (xs := ([] : List Int)) (inner := []) (ok := fun _ => True) (okp := fun _ => True) ?hr ?hp (fun _ hk => hk) trivial (Below.refl _ _) (Nat.le_refl _) (by simp) ?_; (case hd => rfl); (case hg => rfl); (case hr => go_simp <;> rfl); (case hp => exact (Reps.none _ _)); intro v33 w33 ho hb hg_ hnew_; clear hg_ hnew_; have H33 := A_ (Kd.R_lower ho BW.out.size); have H39a := A_ (Kd.R_elder H39.out ho hb); clear H39; have BW2 := A_ (below_step BW.out hb); clear BW; have BW := BW2; clear BW2; clear ho hb; refine hK.out _ _ trivial (fun hHeld => ?_); clear hK K; refine norm_ (a' := ?_) ?_ ?_; rotate_left
              · show Act.put _ (some 33) _ = _
                simp only [Act.put, p_1, p_2, p_3, i64_w, i32_w]; rfl
              refine one_ (i := 4) (N := some 37) (bv 13 1919) rfl rfl (by kernel_rfl) (by decide) (fun K hK => ?_); refine Kd.R_append_rows_step (Kd.int .i64) (w0 := w) w.heap.size (by rfl) (.tmp 33) (.tmp 36) 29 2 (.int .i64 0) 8 rfl Try.underlying29 info2 rfl (by decide) (by omega) v33 ([]) (l0.take kk) _ _ _ (fun _ => True) (fun _ => False) rfl rfl ?aO ?aR (fun _ _ h => h) (fun _ h => h.elim) (fun _ _ => trivial) BW.out BW.out.size ?aL ?_; (case aR => exact (hT36.out _ BW.out)); (case aO => exact H33.out); (case aL => exact hL36.out); intro v37 w37 ho hb hg hat; have H37 := A_ ho; have H39 := A_ (Kd.R_mono (Kd.R_grown H39a.out hg (fun k hk => hk.2)) (fun _ _ => trivial)); clear H39a; clear BW; have BW := A_ hb; clear H33 ho hb hg hat; refine hK.out _ _ trivial (fun hHeld => ?_); clear hK K; refine norm_ (a' := ?_) ?_ ?_; rotate_left
              · show Act.put _ (some 37) _ = _
                simp only [Act.put, p_1, p_2, p_3, i64_w, i32_w]; rfl
              exact norm_ (by simp only [putAll, Act.put, List.setIfInBounds_toArray, List.set_cons_zero, List.set_cons_succ]) (hCont ⟨v33, v37, v39⟩ _ ⟨H37, H39, BW⟩)
          clear BW; rintro ⟨v33, v37, v39⟩ w40 ⟨H37, H39, BW⟩; obtain ⟨A39, c39, e39⟩ := Kd.R_slice H39.out; dsimp only at e39; subst e39; have hHeld : True := trivial; refine norm_ (a' := ?_) ?_ ?_; rotate_left
          · simp only [putAll, Act.put, List.setIfInBounds_toArray, List.set_cons_zero, List.set_cons_succ]
            rfl
          refine one_ (i := 7) (N := some 40) (bv 13 2047) rfl rfl (by kernel_rfl) (by decide) (fun K hK => ?_); refine Kd.R_append_rows_step (Kd.int .i64) (w0 := w) w.heap.size (by rfl) (.tmp 37) (.tmp 39) 29 2 (.int .i64 0) 8 rfl Try.underlying29 info2 rfl (by decide) (by omega) v37 (l0.take kk) ([a1]) _ _ _ (fun _ => True) (fun _ => False) rfl rfl ?aO ?aR (fun _ _ h => h) (fun _ h => h.elim) (fun _ _ => trivial) BW.out BW.out.size ?aL ?_; (case aR => exact (Kd.R_reads' H39.out).2.2); (case aO => exact H37.out); (case aL => exact hL39.out); intro v40 w40 ho hb hg hat; have H40 := A_ ho; clear BW; have BW := A_ hb; clear H37 H39 ho hb hg hat; refine hK.out _ _ trivial (fun hHeld => ?_); clear hK K; refine norm_ (a' := ?_) ?_ ?_; rotate_left
          · show Act.put _ (some 40) _ = _
            simp only [Act.put, p_1, p_2, p_3, i64_w, i32_w]; rfl
          refine one_ (i := 11) (N := some 44) (bv 13 4095) rfl rfl (by kernel_rfl) (by decide) (fun K hK => ?_); refine Kd.R_append_rows_step (Kd.int .i64) (w0 := w) w.heap.size (by rfl) (.tmp 40) (.tmp 43) 29 2 (.int .i64 0) 8 rfl Try.underlying29 info2 rfl (by decide) (by omega) v40 (l0.take kk ++ [a1]) (l0.drop kk) _ _ _ (fun _ => True) (fun _ => False) rfl rfl ?aO ?aR (fun _ _ h => h) (fun _ h => h.elim) (fun _ _ => trivial) BW.out BW.out.size ?aL ?_; (case aR => exact (hT43.out _ BW.out)); (case aO => exact H40.out); (case aL => exact hL43.out); intro v44 w44 ho hb hg hat; have H44 := A_ ho; clear BW; have BW := A_ hb; clear H40 ho hb hg hat; refine hK.out _ _ trivial (fun hHeld => ?_); clear hK K; refine norm_ (a' := ?_) ?_ ?_; rotate_left
          · show Act.put _ (some 44) _ = _
            simp only [Act.put, p_1, p_2, p_3, i64_w, i32_w]; rfl
          refine pure_ (i := 12) (N := some 4) (v := ?_) (a' := ?_) (bv 13 8191) rfl rfl (by kernel_rfl) (fun _ _ _ h => h) (Or.inl ⟨by rfl, ?_⟩) ?_ ?_; rotate_left
          · intro w'
            go_simp; (with_reducible rfl)
          rotate_left
          · simp only [Act.put, p_1, p_2, p_3, i64_w, i32_w]
            rfl
          refine done_ (by kernel_rfl) ?_; go_wp2; go_ret; exact ⟨_, rfl, by rw [HV.out]; exact Kd.R_mono (Kd.R_lower H44.out HBS.out) (fun _ h => h), BW.out⟩

/-! ### (my own text) openWords -/
def stepO (l : List S50) (can : List Bool) (nx : List Int) (x : Int) : Option (List Int) :=
  if 0 ≤ x ∧ x < (l.length : Int) then (if (rd_T50 l x).f0 = 3 then (if nx.length ≤ 1000000 ∧ (riseL nx (rd_T50 l x).f1).length ≤ 1000000 then some (riseL (riseL nx (rd_T50 l x).f1) (rd_T50 l x).f2) else none)
    else if (rd_T50 l x).f0 = 5 then (if 0 ≤ (rd_T50 l x).f1 ∧ (rd_T50 l x).f1 < (can.length : Int) ∧ nx.length ≤ 1000000 then (if rdOf false can (rd_T50 l x).f1 = true then some (riseL nx (rd_T50 l x).f2) else some nx) else none) else some nx) else none
def innO (l : List S50) (can : List Bool) : List Int → List Int → Option (List Int)
  | [], nx => some nx
  | x :: xs, nx => (stepO l can nx x).bind (innO l can xs)

end Go.Proofs.Ytidfgmekhededaa.PFnOpens
