-- Written by wip/tools/myprint.py of this claim's session, over the kit's print, round texts of its own: own text.
import Derived.Test.YtofaojdkpbheoaaPFnExactSameTermsx0
import Derived.Test.YtofaojdkpbheoaaPFnExactSameTermsx2
import Derived.Test.YtofaojdkpbheoaaPFnExactSameTermsx8
import Derived.Test.YtofaojdkpbheoaaPFnExactSameTermsx9
import Derived.Test.YtofaojdkpbheoaaPFnExactSameTermsx10
namespace Go.Proofs.Ytofaojdkpbheoaa.PFnExactSameTerms
open Go.RowKit Go.Proofs.YtofaojdkpbheoaaW.PrintWords Go.Proofs.YtofaojdkpbheoaaW.PrintLast Go.Proofs.YtofaojdkpbheoaaW.PrintMore
attribute [local go_sem] max2_int min2_int max_two min_two max_three min_three max_four min_four   -- for this text's walks alone
set_option linter.unusedVariables false
set_option linter.unusedSimpArgs false

/-! ### (my own text) sameTerms -/
abbrev impl_same_terms.G := Mm → Int → Int → Option (Bool × Mm)
def impl_same_terms.alt (g : impl_same_terms.G) (M : Mm) (p0 p1 q0 q1 : Int) : Option (Bool × Mm) := (g M p0 q1).bind fun r3 => if r3.1 = true then g r3.2 p1 q0 else some (false, r3.2)
def impl_same_terms.both (g : impl_same_terms.G) (M : Mm) (p0 p1 q0 q1 : Int) : Option (Bool × Mm) := (g M p0 q0).bind fun r1 => if r1.1 = true then (g r1.2 p1 q1).bind fun r2 => if r2.1 = true then some (true, r2.2) else impl_same_terms.alt g r2.2 p0 p1 q0 q1 else impl_same_terms.alt g r1.2 p0 p1 q0 q1
def impl_same_terms.loop (g : impl_same_terms.G) : Mm → Bool → List Int → List Int → Option (Bool × Mm)
  | M, is, [], _ => some (is, M)
  | _, _, _ :: _, [] => none
  | M, is, p :: ps, q :: qs => if is = true then (g M p q).bind fun r => impl_same_terms.loop g r.2 r.1 ps qs else impl_same_terms.loop g M false ps qs
def impl_same_terms.two (g : impl_same_terms.G) (M : Mm) : List Int → List Int → Option (Bool × Mm)
  | [p0, p1], [q0, q1] => impl_same_terms.both g M p0 p1 q0 q1
  | _, _ => none
def impl_same_terms.kids (g : impl_same_terms.G) (M : Mm) (t0 : Int) (ps qs : List Int) : Option (Bool × Mm) := if t0 = 7 then impl_same_terms.two g M ps qs else impl_same_terms.loop g M true ps qs
def impl_same_terms.body (g : impl_same_terms.G) (k : Nat) (M : Mm) (t0 t1 t2 t3 u0 u1 u2 u3 : Int) : Option (Bool × Mm) := if t0 = u0 then (if t3 = u3 then (impl_Term_parts.f k t0 t1 t2 t3).bind fun ps => (impl_Term_parts.f k u0 u1 u2 u3).bind fun qs => impl_same_terms.kids g M t0 ps qs else some (false, M)) else some (false, M)
def impl_same_terms.fin (x y : Int) (r : Bool × Mm) : Option (Bool × Mm) := if r.2.length < 1000000 then some (r.1, ((x, y), r.1) :: r.2) else none
def impl_same_terms.f : Nat → List S34 → List S34 → impl_same_terms.G
  | 0, _, _, _, _, _ => none
  | k + 1, l0, l1, M, x, y => if 0 ≤ x then (if x < (l0.length : Int) then (if 0 ≤ y then (if y < (l1.length : Int) then
      (if (M.lookup (x, y)).isSome = true then some ((M.lookup (x, y)).getD false, M)
       else (impl_same_terms.body (impl_same_terms.f k l0 l1) k M (rd_T34 l0 x).f0 (rd_T34 l0 x).f1 (rd_T34 l0 x).f2 (rd_T34 l0 x).f3 (rd_T34 l1 y).f0 (rd_T34 l1 y).f1 (rd_T34 l1 y).f2 (rd_T34 l1 y).f3).bind (impl_same_terms.fin x y)) else none) else none) else none) else none
theorem impl_same_terms.alt_mono {g g' : impl_same_terms.G} (h : ∀ M x y, LeO (g M x y) (g' M x y)) (M : Mm) (p0 p1 q0 q1 : Int) : LeO (impl_same_terms.alt g M p0 p1 q0 q1) (impl_same_terms.alt g' M p0 p1 q0 q1) := LeO.bind (h _ _ _) fun _ => LeO.ite (h _ _ _) (LeO.refl _)
theorem impl_same_terms.both_mono {g g' : impl_same_terms.G} (h : ∀ M x y, LeO (g M x y) (g' M x y)) (M : Mm) (p0 p1 q0 q1 : Int) : LeO (impl_same_terms.both g M p0 p1 q0 q1) (impl_same_terms.both g' M p0 p1 q0 q1) := LeO.bind (h _ _ _) fun _ => LeO.ite (LeO.bind (h _ _ _) fun _ => LeO.ite (LeO.refl _) (impl_same_terms.alt_mono h _ _ _ _ _)) (impl_same_terms.alt_mono h _ _ _ _ _)
theorem impl_same_terms.loop_mono {g g' : impl_same_terms.G} (h : ∀ M x y, LeO (g M x y) (g' M x y)) : ∀ (ps qs : List Int) (M : Mm) (is : Bool), LeO (impl_same_terms.loop g M is ps qs) (impl_same_terms.loop g' M is ps qs)
  | [], _, _, _ => LeO.refl _
  | _ :: _, [], _, _ => LeO.refl _
  | _ :: ps, _ :: qs, _, _ => LeO.ite (LeO.bind (h _ _ _) fun _ => impl_same_terms.loop_mono h ps qs _ _) (impl_same_terms.loop_mono h ps qs _ _)
theorem impl_same_terms.two_mono {g g' : impl_same_terms.G} (h : ∀ M x y, LeO (g M x y) (g' M x y)) (M : Mm) (ps qs : List Int) : LeO (impl_same_terms.two g M ps qs) (impl_same_terms.two g' M ps qs) := by
  unfold impl_same_terms.two
  split
  · exact impl_same_terms.both_mono h _ _ _ _ _
  · exact LeO.refl _
theorem impl_same_terms.mono : ∀ (l0 l1 : List S34) (M : Mm) (x y : Int) (k : Nat), LeO (impl_same_terms.f k l0 l1 M x y) (impl_same_terms.f (k + 1) l0 l1 M x y) := fun l0 l1 M x y k => by
  induction k generalizing M x y with
  | zero => exact LeO.none _
  | succ k ih => exact LeO.ite (LeO.ite (LeO.ite (LeO.ite (LeO.ite (LeO.refl _) (LeO.bind (LeO.ite (LeO.ite (LeO.bind (impl_Term_parts.mono _ _ _ _ k) fun _ => LeO.bind (impl_Term_parts.mono _ _ _ _ k) fun _ => LeO.ite (impl_same_terms.two_mono ih _ _ _) (impl_same_terms.loop_mono ih _ _ _ _)) (LeO.refl _)) (LeO.refl _)) fun _ => LeO.refl _)) (LeO.refl _)) (LeO.refl _)) (LeO.refl _)) (LeO.refl _)
theorem impl_same_terms.two_inv {g : impl_same_terms.G} {M : Mm} {ps qs : List Int} {r : Bool × Mm} (h : impl_same_terms.two g M ps qs = some r) : ∃ p0 p1 q0 q1, ps = [p0, p1] ∧ qs = [q0, q1] ∧ impl_same_terms.both g M p0 p1 q0 q1 = some r := by
  unfold impl_same_terms.two at h
  split at h
  · exact ⟨_, _, _, _, rfl, rfl, h⟩
  · cases h
theorem impl_same_terms.loop_cons {g : impl_same_terms.G} {M : Mm} {is : Bool} {ps qs : List Int} {r : Bool × Mm} (kk : Nat) (hk : kk < ps.length) (h : impl_same_terms.loop g M is (ps.drop kk) (qs.drop kk) = some r) :
    ∃ hq : kk < qs.length, (is = true ∧ ∃ r1 M1, g M ps[kk] qs[kk] = some (r1, M1) ∧ impl_same_terms.loop g M1 r1 (ps.drop (kk + 1)) (qs.drop (kk + 1)) = some r) ∨ (is = false ∧ impl_same_terms.loop g M false (ps.drop (kk + 1)) (qs.drop (kk + 1)) = some r) := by
  rw [List.drop_eq_getElem_cons hk] at h
  by_cases hq : kk < qs.length
  · rw [List.drop_eq_getElem_cons hq, impl_same_terms.loop] at h
    refine ⟨hq, ?_⟩
    cases is with
    | true =>
      obtain ⟨⟨r1, M1⟩, h1, h2⟩ := Option.bind_eq_some_iff.mp ((if_pos rfl).symm.trans h)
      exact .inl ⟨rfl, r1, M1, h1, h2⟩
    | false => exact .inr ⟨rfl, (if_neg (by decide)).symm.trans h⟩
  · rw [List.drop_eq_nil_of_le (by omega : qs.length ≤ kk), impl_same_terms.loop] at h
    cases h
theorem ifP {p : Prop} {i : Decidable p} {α : Type} {x : Option α} {r : α} (h : (@ite (Option α) p i x none) = some r) : p ∧ x = some r := by
  by_cases c : p
  · exact ⟨c, (if_pos c).symm.trans h⟩
  · rw [if_neg c] at h
    cases h
set_option maxHeartbeats 16000000 in
set_option maxRecDepth 100000 in
theorem impl_same_terms.calls (k : Nat) : ∀ (A0 : Option Addr) (c0 : Nat) (l0 : List S34) (A1 : Option Addr) (c1 : Nat) (l1 : List S34) (sb mb : Nat) (M : Mm) (x y : Int) (r : Bool) (M' : Mm) (w : World) (hr0 : Kd.C k34 w A0 l0.length l0) (hc0 : l0.length ≤ c0) (hr1 : Kd.C k34 w A1 l1.length l1) (hc1 : l1.length ≤ c1)
    (hs : w.heap[sb]? = some (.cells #[.slice A0 l0.length c0, .slice A1 l1.length c1, .map (some mb)] 41 (0, 0))) (hm : MapIs w mb M) (h : impl_same_terms.f k l0 l1 M x y = some (r, M')),
    Calls Try.prog 13 #[.pointer (some ⟨sb, 0, none⟩), .int .i64 x, .int .i64 y] w fun e w' => e = .returned (.bool r) ∧ MapIs w' mb M' ∧ w.grownBy w' (some mb) := by
  induction k with
  | zero =>
    intro A0 c0 l0 A1 c1 l1 sb mb M x y r M' w hr0 hc0 hr1 hc1 hs hm h
    exact absurd h (by simp [impl_same_terms.f])
  | succ k ih =>
    intro A0 c0 l0 A1 c1 l1 sb mb M x y r M' w hr0 hc0 hr1 hc1 hs hm h
    have hu34 := Try.underlying34
    have hu41 := Try.underlying41
    have hm0 : l0.length ≤ 9223372036854775807 := hr0.2.1
    have hm1 : l1.length ≤ 9223372036854775807 := hr1.2.1
    have HM := Aside0.mk hm
    have gz0 := fun W' (h : w.grownBy W' (some mb)) => cM HM.out h ((blk_cell hs 0).trans rfl : w.cell? ⟨sb, 0, none⟩ = some (.slice A0 l0.length c0))
    have gz1 := fun W' (h : w.grownBy W' (some mb)) => cM HM.out h ((blk_cell hs 1).trans rfl : w.cell? ⟨sb, 1, none⟩ = some (.slice A1 l1.length c1))
    have gz2 := fun W' (h : w.grownBy W' (some mb)) => cM HM.out h ((blk_cell hs 2).trans rfl : w.cell? ⟨sb, 2, none⟩ = some (.map (some mb)))
    have IH : Aside0 (∀ (M : Mm) (x y : Int) (r : Bool) (M' : Mm) (W : World), impl_same_terms.f k l0 l1 M x y = some (r, M') → w.grownBy W (some mb) → MapIs W mb M →
        Calls Try.prog 13 #[.pointer (some ⟨sb, 0, none⟩), .int .i64 x, .int .i64 y] W fun e w' => e = .returned (.bool r) ∧ MapIs w' mb M' ∧ W.grownBy w' (some mb)) :=
      ⟨fun M x y r M' W hf hg hM => ih A0 c0 l0 A1 c1 l1 sb mb M x y r M' W (rdM HM.out hg hr0) hc0 (rdM HM.out hg hr1) hc1 ((hg.block sb (blk_lt hs) (fun e => map_nocell HM.out ((blk_cell hs 0).trans rfl : w.cell? ⟨sb, 0, none⟩ = some (.slice A0 l0.length c0)) (Option.some.inj e))).trans hs) hM hf⟩
    have D := Aside0.mk (CS.startM hm)
    have z0 := gz0 _ D.out.gm
    have z1 := gz1 _ D.out.gm
    have z2 := gz2 _ D.out.gm
    have H := h
    clear h ih hm hs
    rw [impl_same_terms.f] at H
    obtain ⟨px0, H⟩ := ifP H
    obtain ⟨px1, H⟩ := ifP H
    obtain ⟨py0, H⟩ := ifP H
    obtain ⟨py1, H⟩ := ifP H
    have ox : Aside0 (okI2 x) := ⟨by unfold okI2; omega⟩
    have oy : Aside0 (okI2 y) := ⟨by unfold okI2; omega⟩
    rcases ifB H with ⟨hl, H⟩ | ⟨hl, H⟩
    case inl =>
      simp only [Option.some.injEq, Prod.mk.injEq] at H
      obtain ⟨rfl, rfl⟩ := H
      go_enter Try.func13, Try.ntmps13
      go_wp2_with (first
        | ((with_reducible refine gate_lk rfl ?_); refine ev_look x y D.out.mp ox.out oy.out ?_))
      go_ret
      exact ⟨rfl, D.out.mp, D.out.gm⟩
    obtain ⟨⟨is, M2⟩, hbody, H⟩ := Option.bind_eq_some_iff.mp H
    unfold impl_same_terms.fin at H
    obtain ⟨hlen, H⟩ := ifP H
    simp only [Option.some.injEq, Prod.mk.injEq] at H
    obtain ⟨rfl, rfl⟩ := H
    have HLEN : Aside0 (M2.length < maxLen) := ⟨by simp only [maxLen]; simp only at hlen; omega⟩
    obtain ⟨ad0, eA0, hx0, hx1, hx2, hx3⟩ := at_T34 hr0 x px0 px1
    obtain ⟨ad1, eA1, hy0, hy1, hy2, hy3⟩ := at_T34 hr1 y py0 py1
    subst eA0 eA1
    have tx0 := eq_true px0
    have tx1 := eq_true px1
    have ty0 := eq_true py0
    have ty1 := eq_true py1
    generalize (rd_T34 l0 x).f0 = t0 at hbody hx0
    generalize (rd_T34 l0 x).f1 = t1 at hbody hx1
    generalize (rd_T34 l0 x).f2 = t2 at hbody hx2
    generalize (rd_T34 l0 x).f3 = t3 at hbody hx3
    generalize (rd_T34 l1 y).f0 = u0 at hbody hy0
    generalize (rd_T34 l1 y).f1 = u1 at hbody hy1
    generalize (rd_T34 l1 y).f2 = u2 at hbody hy2
    generalize (rd_T34 l1 y).f3 = u3 at hbody hy3
    have gx0 := fun W' (h : w.grownBy W' (some mb)) => cM HM.out h hx0
    have gx1 := fun W' (h : w.grownBy W' (some mb)) => cM HM.out h hx1
    have gx2 := fun W' (h : w.grownBy W' (some mb)) => cM HM.out h hx2
    have gx3 := fun W' (h : w.grownBy W' (some mb)) => cM HM.out h hx3
    have gy0 := fun W' (h : w.grownBy W' (some mb)) => cM HM.out h hy0
    have gy1 := fun W' (h : w.grownBy W' (some mb)) => cM HM.out h hy1
    have gy2 := fun W' (h : w.grownBy W' (some mb)) => cM HM.out h hy2
    have gy3 := fun W' (h : w.grownBy W' (some mb)) => cM HM.out h hy3
    clear hx0 hx1 hx2 hx3 hy0 hy1 hy2 hy3 hr0 hr1 hc0 hc1 hlen
    unfold impl_same_terms.body at hbody
    rcases ifE hbody with ⟨m0, n0, hbody⟩ | ⟨m0, n0, hbody⟩
    case inr =>
      simp only [Option.some.injEq, Prod.mk.injEq] at hbody
      obtain ⟨rfl, rfl⟩ := hbody
      go_enter Try.func13, Try.ntmps13
      go_wp2_with (first
        | ((with_reducible refine gate_lk rfl ?_); refine ev_look x y D.out.mp ox.out oy.out ?_))
      refine CS.rgM (n := 18) #[false, false, false, false, false, false, false, false, false, false, false, false, false, false, false, false, false, false] D.out (fun _ _ h => h.gm) ?_
      intro hs w4 hD
      clear D; have D := Aside0.mk hD; clear hD; (try clear q0 f0); (try clear q1 f1); (try (have q0 := D.out.c 0 rfl; have f0 := D.out.f 0 rfl)); (try (have q1 := D.out.c 1 rfl; have f1 := D.out.f 1 rfl)); (try clear z0 z1 z2); (try (have z0 := gz0 _ D.out.gm; have z1 := gz1 _ D.out.gm; have z2 := gz2 _ D.out.gm))
      refine tG 0 (some 28) #[true, false, false, false, false, false, false, false, false, false, false, false, false, false, false, false, false, false] (hs _ _ D.out) ?_ (hy := Or.inl ⟨by rfl, by (intro w' s0; have a0 := gz0 w' s0; have a1 := gz1 w' s0; have b0 := gx0 w' s0; have b1 := gx1 w' s0; have b2 := gx2 w' s0; have b3 := gx3 w' s0; go_simp; with_reducible rfl)⟩)
      refine tG 1 (some 29) #[true, true, false, false, false, false, false, false, false, false, false, false, false, false, false, false, false, false] (hs _ _ D.out) ?_ (hy := Or.inl ⟨by rfl, by (intro w' s0; have a0 := gz0 w' s0; have a1 := gz1 w' s0; have b0 := gx0 w' s0; have b1 := gx1 w' s0; have b2 := gx2 w' s0; have b3 := gx3 w' s0; go_simp; with_reducible rfl)⟩)
      refine tG 2 (some 30) #[true, true, true, false, false, false, false, false, false, false, false, false, false, false, false, false, false, false] (hs _ _ D.out) ?_ (hy := Or.inl ⟨by rfl, by (intro w' s0; have a0 := gz0 w' s0; have a1 := gz1 w' s0; have b0 := gx0 w' s0; have b1 := gx1 w' s0; have b2 := gx2 w' s0; have b3 := gx3 w' s0; go_simp; with_reducible rfl)⟩)
      refine tG 3 (some 31) #[true, true, true, true, false, false, false, false, false, false, false, false, false, false, false, false, false, false] (hs _ _ D.out) ?_ (hy := Or.inl ⟨by rfl, by (intro w' s0; have a0 := gz0 w' s0; have a1 := gz1 w' s0; have b0 := gx0 w' s0; have b1 := gx1 w' s0; have b2 := gx2 w' s0; have b3 := gx3 w' s0; go_simp; with_reducible rfl)⟩)
      refine tG 4 (some 32) #[true, true, true, true, true, false, false, false, false, false, false, false, false, false, false, false, false, false] (hs _ _ D.out) ?_ (hy := Or.inl ⟨by rfl, by (intro w' s0; have a0 := gz0 w' s0; have a1 := gz1 w' s0; have b0 := gx0 w' s0; have b1 := gx1 w' s0; have b2 := gx2 w' s0; have b3 := gx3 w' s0; go_simp; with_reducible rfl)⟩)
      refine tG 5 (some 33) #[true, true, true, true, true, true, false, false, false, false, false, false, false, false, false, false, false, false] (hs _ _ D.out) ?_ (hy := Or.inl ⟨by rfl, by (intro w' s0; have a0 := gz0 w' s0; have a1 := gz1 w' s0; have b0 := gx0 w' s0; have b1 := gx1 w' s0; have b2 := gx2 w' s0; have b3 := gx3 w' s0; go_simp; with_reducible rfl)⟩)
      refine tG 6 (some 34) #[true, true, true, true, true, true, true, false, false, false, false, false, false, false, false, false, false, false] (hs _ _ D.out) ?_ (hy := Or.inl ⟨by rfl, by (intro w' s0; have a0 := gz0 w' s0; have a1 := gz1 w' s0; have b0 := gx0 w' s0; have b1 := gx1 w' s0; have b2 := gx2 w' s0; have b3 := gx3 w' s0; go_simp; with_reducible rfl)⟩)
      refine tG 7 (some 35) #[true, true, true, true, true, true, true, true, false, false, false, false, false, false, false, false, false, false] (hs _ _ D.out) ?_ (hy := Or.inl ⟨by rfl, by (intro w' s0; have a0 := gz0 w' s0; have a1 := gz1 w' s0; have b0 := gy0 w' s0; have b1 := gy1 w' s0; have b2 := gy2 w' s0; have b3 := gy3 w' s0; go_simp; with_reducible rfl)⟩)
      refine tG 8 (some 36) #[true, true, true, true, true, true, true, true, true, false, false, false, false, false, false, false, false, false] (hs _ _ D.out) ?_ (hy := Or.inl ⟨by rfl, by (intro w' s0; have a0 := gz0 w' s0; have a1 := gz1 w' s0; have b0 := gy0 w' s0; have b1 := gy1 w' s0; have b2 := gy2 w' s0; have b3 := gy3 w' s0; go_simp; with_reducible rfl)⟩)
      refine tG 9 (some 37) #[true, true, true, true, true, true, true, true, true, true, false, false, false, false, false, false, false, false] (hs _ _ D.out) ?_ (hy := Or.inl ⟨by rfl, by (intro w' s0; have a0 := gz0 w' s0; have a1 := gz1 w' s0; have b0 := gy0 w' s0; have b1 := gy1 w' s0; have b2 := gy2 w' s0; have b3 := gy3 w' s0; go_simp; with_reducible rfl)⟩)
      refine tG 10 (some 38) #[true, true, true, true, true, true, true, true, true, true, true, false, false, false, false, false, false, false] (hs _ _ D.out) ?_ (hy := Or.inl ⟨by rfl, by (intro w' s0; have a0 := gz0 w' s0; have a1 := gz1 w' s0; have b0 := gy0 w' s0; have b1 := gy1 w' s0; have b2 := gy2 w' s0; have b3 := gy3 w' s0; go_simp; with_reducible rfl)⟩)
      refine tG 11 (some 39) #[true, true, true, true, true, true, true, true, true, true, true, true, false, false, false, false, false, false] (hs _ _ D.out) ?_ (hy := Or.inl ⟨by rfl, by (intro w' s0; have a0 := gz0 w' s0; have a1 := gz1 w' s0; have b0 := gy0 w' s0; have b1 := gy1 w' s0; have b2 := gy2 w' s0; have b3 := gy3 w' s0; go_simp; with_reducible rfl)⟩)
      refine tG 12 (some 40) #[true, true, true, true, true, true, true, true, true, true, true, true, true, false, false, false, false, false] (hs _ _ D.out) ?_ (hy := Or.inl ⟨by rfl, by (intro w' s0; have a0 := gz0 w' s0; have a1 := gz1 w' s0; have b0 := gy0 w' s0; have b1 := gy1 w' s0; have b2 := gy2 w' s0; have b3 := gy3 w' s0; go_simp; with_reducible rfl)⟩)
      refine tG 13 (some 41) #[true, true, true, true, true, true, true, true, true, true, true, true, true, true, false, false, false, false] (hs _ _ D.out) ?_ (hy := Or.inl ⟨by rfl, by (intro w' s0; have a0 := gz0 w' s0; have a1 := gz1 w' s0; have b0 := gy0 w' s0; have b1 := gy1 w' s0; have b2 := gy2 w' s0; have b3 := gy3 w' s0; go_simp; with_reducible rfl)⟩)
      refine join2M D.out 2 #[true, true, true, true, true, true, true, true, true, true, true, true, true, true, true, true, false, false] (fun s => [(9, .pointer (some ⟨s.1, 0, none⟩)), (10, .pointer (some ⟨s.2, 0, none⟩))]) #[.int .i64 0, .int .i64 0, .int .i64 0, .int .i64 0] #[.int .i64 0, .int .i64 0, .int .i64 0, .int .i64 0] 34 34 ?_ ?_
      rotate_left
      · intro hJ
        refine two_ (i := 14) (j := 15) (Ni := some 9) (Nj := some 10) #[true, true, true, true, true, true, true, true, true, true, true, true, true, true, true, false, false, false] #[true, true, true, true, true, true, true, true, true, true, true, true, true, true, false, true, false, false] rfl rfl rfl rfl (by kernel_rfl) (by decide) (by decide) (fun K hK => ?_) (fun K hK => ?_)
        · refine alM ?_ D.out; intro b6 w2 hD; refine hK.out _ _ (hs _ _ hD.tail) (fun _ => ?_); refine one_ (i := 15) (N := some 10) #[true, true, true, true, true, true, true, true, true, true, true, true, true, true, true, true, false, false] rfl rfl (by kernel_rfl) (by decide) (fun K hK => ?_); refine alM ?_ hD; intro b7 w3 hD; refine hK.out _ _ (hs _ _ hD.tail.tail) (fun _ => ?_); exact hJ (b6, b7) _ hD
        · refine alM ?_ D.out; intro b7 w2 hD; refine hK.out _ _ (hs _ _ hD.tail) (fun _ => ?_); refine one_ (i := 14) (N := some 9) #[true, true, true, true, true, true, true, true, true, true, true, true, true, true, true, true, false, false] rfl rfl (by kernel_rfl) (by decide) (fun K hK => ?_); refine alM ?_ hD; intro b6 w3 hD; refine hK.out _ _ (hs _ _ hD.tail.tail) (fun _ => ?_); refine norm_ ?_ (hJ (b6, b7) _ (swapM hD)); simp only [putAll, Act.put, List.setIfInBounds_toArray, List.set_cons_zero, List.set_cons_succ, i64_w, i32_w]
      rintro ⟨b6, b7⟩ w1 hD
      clear D; have D := Aside0.mk hD; clear hD; (try clear q0 f0); (try clear q1 f1); (try (have q0 := D.out.c 0 rfl; have f0 := D.out.f 0 rfl)); (try (have q1 := D.out.c 1 rfl; have f1 := D.out.f 1 rfl)); (try clear z0 z1 z2); (try (have z0 := gz0 _ D.out.gm; have z1 := gz1 _ D.out.gm; have z2 := gz2 _ D.out.gm))
      refine norm_ (by simp only [putAll, Act.put, List.setIfInBounds_toArray, List.set_cons_zero, List.set_cons_succ, i64_w, i32_w]; rfl) ?_
      refine one_ (i := 16) (N := none) #[true, true, true, true, true, true, true, true, true, true, true, true, true, true, true, true, true, false] rfl rfl (by kernel_rfl) (by decide) (fun K hK => ?_)
      refine skM ?_
      intro w1 hD
      clear D; simp only [List.set_cons_zero, List.set_cons_succ, List.setIfInBounds_toArray] at hD; have D := Aside0.mk hD; clear hD; (try clear q0 f0); (try clear q1 f1); (try (have q0 := D.out.c 0 rfl; have f0 := D.out.f 0 rfl)); (try (have q1 := D.out.c 1 rfl; have f1 := D.out.f 1 rfl)); (try clear z0 z1 z2); (try (have z0 := gz0 _ D.out.gm; have z1 := gz1 _ D.out.gm; have z2 := gz2 _ D.out.gm))
      refine hK.out _ _ (hs _ _ D.out.tail.tail) (fun _ => ?_)
      clear hK K
      refine one_ (i := 17) (N := none) #[true, true, true, true, true, true, true, true, true, true, true, true, true, true, true, true, true, true] rfl rfl (by kernel_rfl) (by decide) (fun K hK => ?_)
      refine skM ?_
      intro w1 hD
      clear D; simp only [List.set_cons_zero, List.set_cons_succ, List.setIfInBounds_toArray] at hD; have D := Aside0.mk hD; clear hD; (try clear q0 f0); (try clear q1 f1); (try (have q0 := D.out.c 0 rfl; have f0 := D.out.f 0 rfl)); (try (have q1 := D.out.c 1 rfl; have f1 := D.out.f 1 rfl)); (try clear z0 z1 z2); (try (have z0 := gz0 _ D.out.gm; have z1 := gz1 _ D.out.gm; have z2 := gz2 _ D.out.gm))
      refine hK.out _ _ (hs _ _ D.out.tail.tail) (fun _ => ?_)
      clear hK K
      refine done_ (by kernel_rfl) ?_
      go_wp2_with (first
        | ((with_reducible refine gate_mu rfl ?_); refine ev_upd x y false D.out ox.out oy.out HLEN.out ?_; intro wq hD; clear D; have D := Aside0.mk hD; clear hD; (try clear q0 f0); (try clear q1 f1); (try (have q0 := D.out.c 0 rfl; have f0 := D.out.f 0 rfl)); (try (have q1 := D.out.c 1 rfl; have f1 := D.out.f 1 rfl)); (try clear z0 z1 z2); (try (have z0 := gz0 _ D.out.gm; have z1 := gz1 _ D.out.gm; have z2 := gz2 _ D.out.gm))))
      go_ret
      exact ⟨rfl, D.out.mp, D.out.gm⟩
    rcases ifE hbody with ⟨m1, n1, hbody⟩ | ⟨m1, n1, hbody⟩
    case inr =>
      simp only [Option.some.injEq, Prod.mk.injEq] at hbody
      obtain ⟨rfl, rfl⟩ := hbody
      go_enter Try.func13, Try.ntmps13
      go_wp2_with (first
        | ((with_reducible refine gate_lk rfl ?_); refine ev_look x y D.out.mp ox.out oy.out ?_))
      refine CS.rgM (n := 18) #[false, false, false, false, false, false, false, false, false, false, false, false, false, false, false, false, false, false] D.out (fun _ _ h => h.gm) ?_
      intro hs w4 hD
      clear D; have D := Aside0.mk hD; clear hD; (try clear q0 f0); (try clear q1 f1); (try (have q0 := D.out.c 0 rfl; have f0 := D.out.f 0 rfl)); (try (have q1 := D.out.c 1 rfl; have f1 := D.out.f 1 rfl)); (try clear z0 z1 z2); (try (have z0 := gz0 _ D.out.gm; have z1 := gz1 _ D.out.gm; have z2 := gz2 _ D.out.gm))
      refine tG 0 (some 28) #[true, false, false, false, false, false, false, false, false, false, false, false, false, false, false, false, false, false] (hs _ _ D.out) ?_ (hy := Or.inl ⟨by rfl, by (intro w' s0; have a0 := gz0 w' s0; have a1 := gz1 w' s0; have b0 := gx0 w' s0; have b1 := gx1 w' s0; have b2 := gx2 w' s0; have b3 := gx3 w' s0; go_simp; with_reducible rfl)⟩)
      refine tG 1 (some 29) #[true, true, false, false, false, false, false, false, false, false, false, false, false, false, false, false, false, false] (hs _ _ D.out) ?_ (hy := Or.inl ⟨by rfl, by (intro w' s0; have a0 := gz0 w' s0; have a1 := gz1 w' s0; have b0 := gx0 w' s0; have b1 := gx1 w' s0; have b2 := gx2 w' s0; have b3 := gx3 w' s0; go_simp; with_reducible rfl)⟩)
      refine tG 2 (some 30) #[true, true, true, false, false, false, false, false, false, false, false, false, false, false, false, false, false, false] (hs _ _ D.out) ?_ (hy := Or.inl ⟨by rfl, by (intro w' s0; have a0 := gz0 w' s0; have a1 := gz1 w' s0; have b0 := gx0 w' s0; have b1 := gx1 w' s0; have b2 := gx2 w' s0; have b3 := gx3 w' s0; go_simp; with_reducible rfl)⟩)
      refine tG 3 (some 31) #[true, true, true, true, false, false, false, false, false, false, false, false, false, false, false, false, false, false] (hs _ _ D.out) ?_ (hy := Or.inl ⟨by rfl, by (intro w' s0; have a0 := gz0 w' s0; have a1 := gz1 w' s0; have b0 := gx0 w' s0; have b1 := gx1 w' s0; have b2 := gx2 w' s0; have b3 := gx3 w' s0; go_simp; with_reducible rfl)⟩)
      refine tG 4 (some 32) #[true, true, true, true, true, false, false, false, false, false, false, false, false, false, false, false, false, false] (hs _ _ D.out) ?_ (hy := Or.inl ⟨by rfl, by (intro w' s0; have a0 := gz0 w' s0; have a1 := gz1 w' s0; have b0 := gx0 w' s0; have b1 := gx1 w' s0; have b2 := gx2 w' s0; have b3 := gx3 w' s0; go_simp; with_reducible rfl)⟩)
      refine tG 5 (some 33) #[true, true, true, true, true, true, false, false, false, false, false, false, false, false, false, false, false, false] (hs _ _ D.out) ?_ (hy := Or.inl ⟨by rfl, by (intro w' s0; have a0 := gz0 w' s0; have a1 := gz1 w' s0; have b0 := gx0 w' s0; have b1 := gx1 w' s0; have b2 := gx2 w' s0; have b3 := gx3 w' s0; go_simp; with_reducible rfl)⟩)
      refine tG 6 (some 34) #[true, true, true, true, true, true, true, false, false, false, false, false, false, false, false, false, false, false] (hs _ _ D.out) ?_ (hy := Or.inl ⟨by rfl, by (intro w' s0; have a0 := gz0 w' s0; have a1 := gz1 w' s0; have b0 := gx0 w' s0; have b1 := gx1 w' s0; have b2 := gx2 w' s0; have b3 := gx3 w' s0; go_simp; with_reducible rfl)⟩)
      refine tG 7 (some 35) #[true, true, true, true, true, true, true, true, false, false, false, false, false, false, false, false, false, false] (hs _ _ D.out) ?_ (hy := Or.inl ⟨by rfl, by (intro w' s0; have a0 := gz0 w' s0; have a1 := gz1 w' s0; have b0 := gy0 w' s0; have b1 := gy1 w' s0; have b2 := gy2 w' s0; have b3 := gy3 w' s0; go_simp; with_reducible rfl)⟩)
      refine tG 8 (some 36) #[true, true, true, true, true, true, true, true, true, false, false, false, false, false, false, false, false, false] (hs _ _ D.out) ?_ (hy := Or.inl ⟨by rfl, by (intro w' s0; have a0 := gz0 w' s0; have a1 := gz1 w' s0; have b0 := gy0 w' s0; have b1 := gy1 w' s0; have b2 := gy2 w' s0; have b3 := gy3 w' s0; go_simp; with_reducible rfl)⟩)
      refine tG 9 (some 37) #[true, true, true, true, true, true, true, true, true, true, false, false, false, false, false, false, false, false] (hs _ _ D.out) ?_ (hy := Or.inl ⟨by rfl, by (intro w' s0; have a0 := gz0 w' s0; have a1 := gz1 w' s0; have b0 := gy0 w' s0; have b1 := gy1 w' s0; have b2 := gy2 w' s0; have b3 := gy3 w' s0; go_simp; with_reducible rfl)⟩)
      refine tG 10 (some 38) #[true, true, true, true, true, true, true, true, true, true, true, false, false, false, false, false, false, false] (hs _ _ D.out) ?_ (hy := Or.inl ⟨by rfl, by (intro w' s0; have a0 := gz0 w' s0; have a1 := gz1 w' s0; have b0 := gy0 w' s0; have b1 := gy1 w' s0; have b2 := gy2 w' s0; have b3 := gy3 w' s0; go_simp; with_reducible rfl)⟩)
      refine tG 11 (some 39) #[true, true, true, true, true, true, true, true, true, true, true, true, false, false, false, false, false, false] (hs _ _ D.out) ?_ (hy := Or.inl ⟨by rfl, by (intro w' s0; have a0 := gz0 w' s0; have a1 := gz1 w' s0; have b0 := gy0 w' s0; have b1 := gy1 w' s0; have b2 := gy2 w' s0; have b3 := gy3 w' s0; go_simp; with_reducible rfl)⟩)
      refine tG 12 (some 40) #[true, true, true, true, true, true, true, true, true, true, true, true, true, false, false, false, false, false] (hs _ _ D.out) ?_ (hy := Or.inl ⟨by rfl, by (intro w' s0; have a0 := gz0 w' s0; have a1 := gz1 w' s0; have b0 := gy0 w' s0; have b1 := gy1 w' s0; have b2 := gy2 w' s0; have b3 := gy3 w' s0; go_simp; with_reducible rfl)⟩)
      refine tG 13 (some 41) #[true, true, true, true, true, true, true, true, true, true, true, true, true, true, false, false, false, false] (hs _ _ D.out) ?_ (hy := Or.inl ⟨by rfl, by (intro w' s0; have a0 := gz0 w' s0; have a1 := gz1 w' s0; have b0 := gy0 w' s0; have b1 := gy1 w' s0; have b2 := gy2 w' s0; have b3 := gy3 w' s0; go_simp; with_reducible rfl)⟩)
      refine join2M D.out 2 #[true, true, true, true, true, true, true, true, true, true, true, true, true, true, true, true, false, false] (fun s => [(9, .pointer (some ⟨s.1, 0, none⟩)), (10, .pointer (some ⟨s.2, 0, none⟩))]) #[.int .i64 0, .int .i64 0, .int .i64 0, .int .i64 0] #[.int .i64 0, .int .i64 0, .int .i64 0, .int .i64 0] 34 34 ?_ ?_
      rotate_left
      · intro hJ
        refine two_ (i := 14) (j := 15) (Ni := some 9) (Nj := some 10) #[true, true, true, true, true, true, true, true, true, true, true, true, true, true, true, false, false, false] #[true, true, true, true, true, true, true, true, true, true, true, true, true, true, false, true, false, false] rfl rfl rfl rfl (by kernel_rfl) (by decide) (by decide) (fun K hK => ?_) (fun K hK => ?_)
        · refine alM ?_ D.out; intro b6 w2 hD; refine hK.out _ _ (hs _ _ hD.tail) (fun _ => ?_); refine one_ (i := 15) (N := some 10) #[true, true, true, true, true, true, true, true, true, true, true, true, true, true, true, true, false, false] rfl rfl (by kernel_rfl) (by decide) (fun K hK => ?_); refine alM ?_ hD; intro b7 w3 hD; refine hK.out _ _ (hs _ _ hD.tail.tail) (fun _ => ?_); exact hJ (b6, b7) _ hD
        · refine alM ?_ D.out; intro b7 w2 hD; refine hK.out _ _ (hs _ _ hD.tail) (fun _ => ?_); refine one_ (i := 14) (N := some 9) #[true, true, true, true, true, true, true, true, true, true, true, true, true, true, true, true, false, false] rfl rfl (by kernel_rfl) (by decide) (fun K hK => ?_); refine alM ?_ hD; intro b6 w3 hD; refine hK.out _ _ (hs _ _ hD.tail.tail) (fun _ => ?_); refine norm_ ?_ (hJ (b6, b7) _ (swapM hD)); simp only [putAll, Act.put, List.setIfInBounds_toArray, List.set_cons_zero, List.set_cons_succ, i64_w, i32_w]
      rintro ⟨b6, b7⟩ w1 hD
      clear D; have D := Aside0.mk hD; clear hD; (try clear q0 f0); (try clear q1 f1); (try (have q0 := D.out.c 0 rfl; have f0 := D.out.f 0 rfl)); (try (have q1 := D.out.c 1 rfl; have f1 := D.out.f 1 rfl)); (try clear z0 z1 z2); (try (have z0 := gz0 _ D.out.gm; have z1 := gz1 _ D.out.gm; have z2 := gz2 _ D.out.gm))
      refine norm_ (by simp only [putAll, Act.put, List.setIfInBounds_toArray, List.set_cons_zero, List.set_cons_succ, i64_w, i32_w]; rfl) ?_
      refine one_ (i := 16) (N := none) #[true, true, true, true, true, true, true, true, true, true, true, true, true, true, true, true, true, false] rfl rfl (by kernel_rfl) (by decide) (fun K hK => ?_)
      refine skM ?_
      intro w1 hD
      clear D; simp only [List.set_cons_zero, List.set_cons_succ, List.setIfInBounds_toArray] at hD; have D := Aside0.mk hD; clear hD; (try clear q0 f0); (try clear q1 f1); (try (have q0 := D.out.c 0 rfl; have f0 := D.out.f 0 rfl)); (try (have q1 := D.out.c 1 rfl; have f1 := D.out.f 1 rfl)); (try clear z0 z1 z2); (try (have z0 := gz0 _ D.out.gm; have z1 := gz1 _ D.out.gm; have z2 := gz2 _ D.out.gm))
      refine hK.out _ _ (hs _ _ D.out.tail.tail) (fun _ => ?_)
      clear hK K
      refine one_ (i := 17) (N := none) #[true, true, true, true, true, true, true, true, true, true, true, true, true, true, true, true, true, true] rfl rfl (by kernel_rfl) (by decide) (fun K hK => ?_)
      refine skM ?_
      intro w1 hD
      clear D; simp only [List.set_cons_zero, List.set_cons_succ, List.setIfInBounds_toArray] at hD; have D := Aside0.mk hD; clear hD; (try clear q0 f0); (try clear q1 f1); (try (have q0 := D.out.c 0 rfl; have f0 := D.out.f 0 rfl)); (try (have q1 := D.out.c 1 rfl; have f1 := D.out.f 1 rfl)); (try clear z0 z1 z2); (try (have z0 := gz0 _ D.out.gm; have z1 := gz1 _ D.out.gm; have z2 := gz2 _ D.out.gm))
      refine hK.out _ _ (hs _ _ D.out.tail.tail) (fun _ => ?_)
      clear hK K
      refine done_ (by kernel_rfl) ?_
      go_wp2_with (first
        | ((with_reducible refine gate_mu rfl ?_); refine ev_upd x y false D.out ox.out oy.out HLEN.out ?_; intro wq hD; clear D; have D := Aside0.mk hD; clear hD; (try clear q0 f0); (try clear q1 f1); (try (have q0 := D.out.c 0 rfl; have f0 := D.out.f 0 rfl)); (try (have q1 := D.out.c 1 rfl; have f1 := D.out.f 1 rfl)); (try clear z0 z1 z2); (try (have z0 := gz0 _ D.out.gm; have z1 := gz1 _ D.out.gm; have z2 := gz2 _ D.out.gm))))
      go_ret
      exact ⟨rfl, D.out.mp, D.out.gm⟩
    obtain ⟨ps, hp, hbody⟩ := Option.bind_eq_some_iff.mp hbody
    obtain ⟨qs, hq, hbody⟩ := Option.bind_eq_some_iff.mp hbody
    have HP := Aside0.mk hp
    have HQ := Aside0.mk hq
    clear hp hq
    unfold impl_same_terms.kids at hbody
    rcases ifE hbody with ⟨m7, n7, hbody⟩ | ⟨m7, n7, hbody⟩
    case inl =>
      obtain ⟨v0, v1, v2, v3, e1_, e2_, hb_⟩ := impl_same_terms.two_inv hbody
      clear hbody
      subst e1_ e2_
      have hbody := hb_
      clear hb_
      go_enter Try.func13, Try.ntmps13
      go_wp2_with (first
        | ((with_reducible refine gate_lk rfl ?_); refine ev_look x y D.out.mp ox.out oy.out ?_))
      refine CS.rgM (n := 18) #[false, false, false, false, false, false, false, false, false, false, false, false, false, false, false, false, false, false] D.out (fun _ _ h => h.gm) ?_
      intro hs w4 hD
      clear D; have D := Aside0.mk hD; clear hD; (try clear q0 f0); (try clear q1 f1); (try (have q0 := D.out.c 0 rfl; have f0 := D.out.f 0 rfl)); (try (have q1 := D.out.c 1 rfl; have f1 := D.out.f 1 rfl)); (try clear z0 z1 z2); (try (have z0 := gz0 _ D.out.gm; have z1 := gz1 _ D.out.gm; have z2 := gz2 _ D.out.gm))
      refine tG 0 (some 28) #[true, false, false, false, false, false, false, false, false, false, false, false, false, false, false, false, false, false] (hs _ _ D.out) ?_ (hy := Or.inl ⟨by rfl, by (intro w' s0; have a0 := gz0 w' s0; have a1 := gz1 w' s0; have b0 := gx0 w' s0; have b1 := gx1 w' s0; have b2 := gx2 w' s0; have b3 := gx3 w' s0; go_simp; with_reducible rfl)⟩)
      refine tG 1 (some 29) #[true, true, false, false, false, false, false, false, false, false, false, false, false, false, false, false, false, false] (hs _ _ D.out) ?_ (hy := Or.inl ⟨by rfl, by (intro w' s0; have a0 := gz0 w' s0; have a1 := gz1 w' s0; have b0 := gx0 w' s0; have b1 := gx1 w' s0; have b2 := gx2 w' s0; have b3 := gx3 w' s0; go_simp; with_reducible rfl)⟩)
      refine tG 2 (some 30) #[true, true, true, false, false, false, false, false, false, false, false, false, false, false, false, false, false, false] (hs _ _ D.out) ?_ (hy := Or.inl ⟨by rfl, by (intro w' s0; have a0 := gz0 w' s0; have a1 := gz1 w' s0; have b0 := gx0 w' s0; have b1 := gx1 w' s0; have b2 := gx2 w' s0; have b3 := gx3 w' s0; go_simp; with_reducible rfl)⟩)
      refine tG 3 (some 31) #[true, true, true, true, false, false, false, false, false, false, false, false, false, false, false, false, false, false] (hs _ _ D.out) ?_ (hy := Or.inl ⟨by rfl, by (intro w' s0; have a0 := gz0 w' s0; have a1 := gz1 w' s0; have b0 := gx0 w' s0; have b1 := gx1 w' s0; have b2 := gx2 w' s0; have b3 := gx3 w' s0; go_simp; with_reducible rfl)⟩)
      refine tG 4 (some 32) #[true, true, true, true, true, false, false, false, false, false, false, false, false, false, false, false, false, false] (hs _ _ D.out) ?_ (hy := Or.inl ⟨by rfl, by (intro w' s0; have a0 := gz0 w' s0; have a1 := gz1 w' s0; have b0 := gx0 w' s0; have b1 := gx1 w' s0; have b2 := gx2 w' s0; have b3 := gx3 w' s0; go_simp; with_reducible rfl)⟩)
      refine tG 5 (some 33) #[true, true, true, true, true, true, false, false, false, false, false, false, false, false, false, false, false, false] (hs _ _ D.out) ?_ (hy := Or.inl ⟨by rfl, by (intro w' s0; have a0 := gz0 w' s0; have a1 := gz1 w' s0; have b0 := gx0 w' s0; have b1 := gx1 w' s0; have b2 := gx2 w' s0; have b3 := gx3 w' s0; go_simp; with_reducible rfl)⟩)
      refine tG 6 (some 34) #[true, true, true, true, true, true, true, false, false, false, false, false, false, false, false, false, false, false] (hs _ _ D.out) ?_ (hy := Or.inl ⟨by rfl, by (intro w' s0; have a0 := gz0 w' s0; have a1 := gz1 w' s0; have b0 := gx0 w' s0; have b1 := gx1 w' s0; have b2 := gx2 w' s0; have b3 := gx3 w' s0; go_simp; with_reducible rfl)⟩)
      refine tG 7 (some 35) #[true, true, true, true, true, true, true, true, false, false, false, false, false, false, false, false, false, false] (hs _ _ D.out) ?_ (hy := Or.inl ⟨by rfl, by (intro w' s0; have a0 := gz0 w' s0; have a1 := gz1 w' s0; have b0 := gy0 w' s0; have b1 := gy1 w' s0; have b2 := gy2 w' s0; have b3 := gy3 w' s0; go_simp; with_reducible rfl)⟩)
      refine tG 8 (some 36) #[true, true, true, true, true, true, true, true, true, false, false, false, false, false, false, false, false, false] (hs _ _ D.out) ?_ (hy := Or.inl ⟨by rfl, by (intro w' s0; have a0 := gz0 w' s0; have a1 := gz1 w' s0; have b0 := gy0 w' s0; have b1 := gy1 w' s0; have b2 := gy2 w' s0; have b3 := gy3 w' s0; go_simp; with_reducible rfl)⟩)
      refine tG 9 (some 37) #[true, true, true, true, true, true, true, true, true, true, false, false, false, false, false, false, false, false] (hs _ _ D.out) ?_ (hy := Or.inl ⟨by rfl, by (intro w' s0; have a0 := gz0 w' s0; have a1 := gz1 w' s0; have b0 := gy0 w' s0; have b1 := gy1 w' s0; have b2 := gy2 w' s0; have b3 := gy3 w' s0; go_simp; with_reducible rfl)⟩)
      refine tG 10 (some 38) #[true, true, true, true, true, true, true, true, true, true, true, false, false, false, false, false, false, false] (hs _ _ D.out) ?_ (hy := Or.inl ⟨by rfl, by (intro w' s0; have a0 := gz0 w' s0; have a1 := gz1 w' s0; have b0 := gy0 w' s0; have b1 := gy1 w' s0; have b2 := gy2 w' s0; have b3 := gy3 w' s0; go_simp; with_reducible rfl)⟩)
      refine tG 11 (some 39) #[true, true, true, true, true, true, true, true, true, true, true, true, false, false, false, false, false, false] (hs _ _ D.out) ?_ (hy := Or.inl ⟨by rfl, by (intro w' s0; have a0 := gz0 w' s0; have a1 := gz1 w' s0; have b0 := gy0 w' s0; have b1 := gy1 w' s0; have b2 := gy2 w' s0; have b3 := gy3 w' s0; go_simp; with_reducible rfl)⟩)
      refine tG 12 (some 40) #[true, true, true, true, true, true, true, true, true, true, true, true, true, false, false, false, false, false] (hs _ _ D.out) ?_ (hy := Or.inl ⟨by rfl, by (intro w' s0; have a0 := gz0 w' s0; have a1 := gz1 w' s0; have b0 := gy0 w' s0; have b1 := gy1 w' s0; have b2 := gy2 w' s0; have b3 := gy3 w' s0; go_simp; with_reducible rfl)⟩)
      refine tG 13 (some 41) #[true, true, true, true, true, true, true, true, true, true, true, true, true, true, false, false, false, false] (hs _ _ D.out) ?_ (hy := Or.inl ⟨by rfl, by (intro w' s0; have a0 := gz0 w' s0; have a1 := gz1 w' s0; have b0 := gy0 w' s0; have b1 := gy1 w' s0; have b2 := gy2 w' s0; have b3 := gy3 w' s0; go_simp; with_reducible rfl)⟩)
      refine join2M D.out 2 #[true, true, true, true, true, true, true, true, true, true, true, true, true, true, true, true, false, false] (fun s => [(9, .pointer (some ⟨s.1, 0, none⟩)), (10, .pointer (some ⟨s.2, 0, none⟩))]) #[.int .i64 0, .int .i64 0, .int .i64 0, .int .i64 0] #[.int .i64 0, .int .i64 0, .int .i64 0, .int .i64 0] 34 34 ?_ ?_
      rotate_left
      · intro hJ
        refine two_ (i := 14) (j := 15) (Ni := some 9) (Nj := some 10) #[true, true, true, true, true, true, true, true, true, true, true, true, true, true, true, false, false, false] #[true, true, true, true, true, true, true, true, true, true, true, true, true, true, false, true, false, false] rfl rfl rfl rfl (by kernel_rfl) (by decide) (by decide) (fun K hK => ?_) (fun K hK => ?_)
        · refine alM ?_ D.out; intro b6 w2 hD; refine hK.out _ _ (hs _ _ hD.tail) (fun _ => ?_); refine one_ (i := 15) (N := some 10) #[true, true, true, true, true, true, true, true, true, true, true, true, true, true, true, true, false, false] rfl rfl (by kernel_rfl) (by decide) (fun K hK => ?_); refine alM ?_ hD; intro b7 w3 hD; refine hK.out _ _ (hs _ _ hD.tail.tail) (fun _ => ?_); exact hJ (b6, b7) _ hD
        · refine alM ?_ D.out; intro b7 w2 hD; refine hK.out _ _ (hs _ _ hD.tail) (fun _ => ?_); refine one_ (i := 14) (N := some 9) #[true, true, true, true, true, true, true, true, true, true, true, true, true, true, true, true, false, false] rfl rfl (by kernel_rfl) (by decide) (fun K hK => ?_); refine alM ?_ hD; intro b6 w3 hD; refine hK.out _ _ (hs _ _ hD.tail.tail) (fun _ => ?_); refine norm_ ?_ (hJ (b6, b7) _ (swapM hD)); simp only [putAll, Act.put, List.setIfInBounds_toArray, List.set_cons_zero, List.set_cons_succ, i64_w, i32_w]
      rintro ⟨b6, b7⟩ w1 hD
      clear D; have D := Aside0.mk hD; clear hD; (try clear q0 f0); (try clear q1 f1); (try (have q0 := D.out.c 0 rfl; have f0 := D.out.f 0 rfl)); (try (have q1 := D.out.c 1 rfl; have f1 := D.out.f 1 rfl)); (try clear z0 z1 z2); (try (have z0 := gz0 _ D.out.gm; have z1 := gz1 _ D.out.gm; have z2 := gz2 _ D.out.gm))
      refine norm_ (by simp only [putAll, Act.put, List.setIfInBounds_toArray, List.set_cons_zero, List.set_cons_succ, i64_w, i32_w]; rfl) ?_
      refine one_ (i := 16) (N := none) #[true, true, true, true, true, true, true, true, true, true, true, true, true, true, true, true, true, false] rfl rfl (by kernel_rfl) (by decide) (fun K hK => ?_)
      refine skM ?_
      intro w1 hD
      clear D; simp only [List.set_cons_zero, List.set_cons_succ, List.setIfInBounds_toArray] at hD; have D := Aside0.mk hD; clear hD; (try clear q0 f0); (try clear q1 f1); (try (have q0 := D.out.c 0 rfl; have f0 := D.out.f 0 rfl)); (try (have q1 := D.out.c 1 rfl; have f1 := D.out.f 1 rfl)); (try clear z0 z1 z2); (try (have z0 := gz0 _ D.out.gm; have z1 := gz1 _ D.out.gm; have z2 := gz2 _ D.out.gm))
      refine hK.out _ _ (hs _ _ D.out.tail.tail) (fun _ => ?_)
      clear hK K
      refine one_ (i := 17) (N := none) #[true, true, true, true, true, true, true, true, true, true, true, true, true, true, true, true, true, true] rfl rfl (by kernel_rfl) (by decide) (fun K hK => ?_)
      refine skM ?_
      intro w1 hD
      clear D; simp only [List.set_cons_zero, List.set_cons_succ, List.setIfInBounds_toArray] at hD; have D := Aside0.mk hD; clear hD; (try clear q0 f0); (try clear q1 f1); (try (have q0 := D.out.c 0 rfl; have f0 := D.out.f 0 rfl)); (try (have q1 := D.out.c 1 rfl; have f1 := D.out.f 1 rfl)); (try clear z0 z1 z2); (try (have z0 := gz0 _ D.out.gm; have z1 := gz1 _ D.out.gm; have z2 := gz2 _ D.out.gm))
      refine hK.out _ _ (hs _ _ D.out.tail.tail) (fun _ => ?_)
      clear hK K
      refine done_ (by kernel_rfl) ?_
      go_wp2
      refine CS.rgM (n := 6) #[false, false, false, false, false, false] D.out (fun _ _ h => And.intro (h.c 1 rfl 0) (And.intro (h.c 1 rfl 1) (And.intro (h.c 1 rfl 2) (And.intro (h.c 1 rfl 3) (And.intro (h.c 0 rfl 0) (And.intro (h.c 0 rfl 1) (And.intro (h.c 0 rfl 2) (h.c 0 rfl 3)))))))) ?_
      intro hs w7 hD
      clear D; have D := Aside0.mk hD; clear hD; (try clear q0 f0); (try clear q1 f1); (try (have q0 := D.out.c 0 rfl; have f0 := D.out.f 0 rfl)); (try (have q1 := D.out.c 1 rfl; have f1 := D.out.f 1 rfl)); (try clear z0 z1 z2); (try (have z0 := gz0 _ D.out.gm; have z1 := gz1 _ D.out.gm; have z2 := gz2 _ D.out.gm))
      refine tG 0 (some 55) #[true, false, false, false, false, false] (hs _ _ D.out) ?_
      refine tG 2 (some 57) #[true, false, true, false, false, false] (hs _ _ D.out) ?_
      refine one_ (i := 1) (N := some 56) #[true, true, true, false, false, false] rfl rfl (by kernel_rfl) (by decide) (fun K hK => ?_)
      refine goes_ Try.func26 (by kernel_rfl) rfl #[.agg #[.int .i64 t0, .int .i64 t1, .int .i64 t2, .int .i64 t3]] (wn_ rfl) rfl rfl (by (try simp only [List.map_toArray, List.map_cons, List.map_nil]); first | done | (go_simp; done) | rfl | (go_simp; rfl)) ?_
      refine Calls.mono (CS.viaR (F := fun v => v) D.out (impl_Term_parts.calls k _ _ _ _ _ _ HP.out)) ?_
      rintro e wq ⟨Ap, cp, rfl, hD⟩
      refine ⟨_, rfl, ?_⟩
      clear D; have D := Aside0.mk hD; clear hD; (try clear q0 f0); (try clear q1 f1); (try (have q0 := D.out.c 0 rfl; have f0 := D.out.f 0 rfl)); (try (have q1 := D.out.c 1 rfl; have f1 := D.out.f 1 rfl)); (try clear z0 z1 z2); (try (have z0 := gz0 _ D.out.gm; have z1 := gz1 _ D.out.gm; have z2 := gz2 _ D.out.gm))
      refine hK.out _ _ (hs _ _ D.out.nor) (fun _ => ?_)
      clear hK K
      refine norm_ (by simp only [putAll, Act.put, List.setIfInBounds_toArray, List.set_cons_zero, List.set_cons_succ, i64_w, i32_w]; rfl) ?_
      refine one_ (i := 3) (N := some 58) #[true, true, true, true, false, false] rfl rfl (by kernel_rfl) (by decide) (fun K hK => ?_)
      refine goes_ Try.func26 (by kernel_rfl) rfl #[.agg #[.int .i64 u0, .int .i64 u1, .int .i64 u2, .int .i64 u3]] (wn_ rfl) rfl rfl (by (try simp only [List.map_toArray, List.map_cons, List.map_nil]); first | done | (go_simp; done) | rfl | (go_simp; rfl)) ?_
      refine Calls.mono (CS.viaR (F := fun v => v) D.out (impl_Term_parts.calls k _ _ _ _ _ _ HQ.out)) ?_
      rintro e wq ⟨Aq, cq, rfl, hD⟩
      refine ⟨_, rfl, ?_⟩
      clear D; have D := Aside0.mk hD; clear hD; (try clear q0 f0); (try clear q1 f1); (try (have q0 := D.out.c 0 rfl; have f0 := D.out.f 0 rfl)); (try (have q1 := D.out.c 1 rfl; have f1 := D.out.f 1 rfl)); (try clear z0 z1 z2); (try (have z0 := gz0 _ D.out.gm; have z1 := gz1 _ D.out.gm; have z2 := gz2 _ D.out.gm))
      refine hK.out _ _ (hs _ _ D.out.nor) (fun _ => ?_)
      clear hK K
      refine norm_ (by simp only [putAll, Act.put, List.setIfInBounds_toArray, List.set_cons_zero, List.set_cons_succ, i64_w, i32_w]; rfl) ?_
      refine tG 4 (some 12) #[true, true, true, true, true, false] (hs _ _ D.out.nor) ?_
      refine tG 5 (some 13) #[true, true, true, true, true, true] (hs _ _ D.out.nor) ?_
      refine done_ (by kernel_rfl) ?_
      go_wp2
      unfold impl_same_terms.both at hbody
      obtain ⟨ap, ea, _⟩ := row_at (D.out.row 1 rfl) 0 (by simp)
      obtain ⟨aq, eb, _⟩ := row_at (D.out.row 0 rfl) 0 (by simp)
      subst ea eb
      obtain ⟨⟨r1, M3⟩, k1, hbody⟩ := Option.bind_eq_some_iff.mp hbody
      have G1 := Aside0.mk k1
      clear k1
      try simp only at hbody
      refine CS.rgM (n := 39) #[false, false, false, false, false, false, false, false, false, false, false, false, false, false, false, false, false, false, false, false, false, false, false, false, false, false, false, false, false, false, false, false, false, false, false, false, false, false, false] D.out (fun _ _ h => And.intro (row2a (h.row 1 rfl)) (And.intro (row2b (h.row 1 rfl)) (And.intro (row2a (h.row 0 rfl)) (row2b (h.row 0 rfl))))) ?_
      intro hs w9 hD
      clear D; have D := Aside0.mk hD; clear hD; (try clear q0 f0); (try clear q1 f1); (try (have q0 := D.out.c 0 rfl; have f0 := D.out.f 0 rfl)); (try (have q1 := D.out.c 1 rfl; have f1 := D.out.f 1 rfl)); (try clear z0 z1 z2); (try (have z0 := gz0 _ D.out.gm; have z1 := gz1 _ D.out.gm; have z2 := gz2 _ D.out.gm))
      refine tG 0 (some 62) #[true, false, false, false, false, false, false, false, false, false, false, false, false, false, false, false, false, false, false, false, false, false, false, false, false, false, false, false, false, false, false, false, false, false, false, false, false, false, false] (hs _ _ D.out) ?_
      refine tG 1 (some 63) #[true, true, false, false, false, false, false, false, false, false, false, false, false, false, false, false, false, false, false, false, false, false, false, false, false, false, false, false, false, false, false, false, false, false, false, false, false, false, false] (hs _ _ D.out) ?_
      refine tG 2 (some 64) #[true, true, true, false, false, false, false, false, false, false, false, false, false, false, false, false, false, false, false, false, false, false, false, false, false, false, false, false, false, false, false, false, false, false, false, false, false, false, false] (hs _ _ D.out) ?_
      refine tG 3 (some 65) #[true, true, true, true, false, false, false, false, false, false, false, false, false, false, false, false, false, false, false, false, false, false, false, false, false, false, false, false, false, false, false, false, false, false, false, false, false, false, false] (hs _ _ D.out) ?_
      refine tG 4 (some 66) #[true, true, true, true, true, false, false, false, false, false, false, false, false, false, false, false, false, false, false, false, false, false, false, false, false, false, false, false, false, false, false, false, false, false, false, false, false, false, false] (hs _ _ D.out) ?_
      refine tG 5 (some 67) #[true, true, true, true, true, true, false, false, false, false, false, false, false, false, false, false, false, false, false, false, false, false, false, false, false, false, false, false, false, false, false, false, false, false, false, false, false, false, false] (hs _ _ D.out) ?_
      refine tG 6 (some 68) #[true, true, true, true, true, true, true, false, false, false, false, false, false, false, false, false, false, false, false, false, false, false, false, false, false, false, false, false, false, false, false, false, false, false, false, false, false, false, false] (hs _ _ D.out) ?_
      refine one_ (i := 7) (N := some 69) #[true, true, true, true, true, true, true, true, false, false, false, false, false, false, false, false, false, false, false, false, false, false, false, false, false, false, false, false, false, false, false, false, false, false, false, false, false, false, false] rfl rfl (by kernel_rfl) (by decide) (fun K hK => ?_)
      refine goes_ Try.func13 (by kernel_rfl) rfl #[.pointer (some ⟨sb, 0, none⟩), .int .i64 v0, .int .i64 v2] (by rfl) rfl rfl (by (try simp only [List.map_toArray, List.map_cons, List.map_nil]); first | done | (go_simp; done) | rfl | (go_simp; rfl)) ?_
      refine Calls.mono (CS.viaM D.out (IH.out _ _ _ _ _ _ G1.out D.out.gm D.out.mp)) ?_
      rintro e wq ⟨rfl, hD⟩
      refine ⟨_, rfl, ?_⟩
      clear D; have D := Aside0.mk hD; clear hD; (try clear q0 f0); (try clear q1 f1); (try (have q0 := D.out.c 0 rfl; have f0 := D.out.f 0 rfl)); (try (have q1 := D.out.c 1 rfl; have f1 := D.out.f 1 rfl)); (try clear z0 z1 z2); (try (have z0 := gz0 _ D.out.gm; have z1 := gz1 _ D.out.gm; have z2 := gz2 _ D.out.gm))
      refine hK.out _ _ (hs _ _ D.out) (fun _ => ?_)
      clear hK K
      refine norm_ (by simp only [putAll, Act.put, List.setIfInBounds_toArray, List.set_cons_zero, List.set_cons_succ, i64_w, i32_w]; rfl) ?_
      refine tG 8 (some 70) #[true, true, true, true, true, true, true, true, true, false, false, false, false, false, false, false, false, false, false, false, false, false, false, false, false, false, false, false, false, false, false, false, false, false, false, false, false, false, false] (hs _ _ D.out) ?_
      rcases ifB hbody with ⟨e_, hb_⟩ | ⟨e_, hb_⟩
      · clear hbody
        subst e_
        have hbody := hb_
        clear hb_
        obtain ⟨⟨r2, M4⟩, k2, hbody⟩ := Option.bind_eq_some_iff.mp hbody
        have G2 := Aside0.mk k2
        clear k2
        try simp only at hbody
        refine tG 9 (some 71) #[true, true, true, true, true, true, true, true, true, true, false, false, false, false, false, false, false, false, false, false, false, false, false, false, false, false, false, false, false, false, false, false, false, false, false, false, false, false, false] (hs _ _ D.out) ?_
        refine tG 10 (some 72) #[true, true, true, true, true, true, true, true, true, true, true, false, false, false, false, false, false, false, false, false, false, false, false, false, false, false, false, false, false, false, false, false, false, false, false, false, false, false, false] (hs _ _ D.out) ?_
        refine tG 11 (some 73) #[true, true, true, true, true, true, true, true, true, true, true, true, false, false, false, false, false, false, false, false, false, false, false, false, false, false, false, false, false, false, false, false, false, false, false, false, false, false, false] (hs _ _ D.out) ?_
        refine tG 12 (some 74) #[true, true, true, true, true, true, true, true, true, true, true, true, true, false, false, false, false, false, false, false, false, false, false, false, false, false, false, false, false, false, false, false, false, false, false, false, false, false, false] (hs _ _ D.out) ?_
        refine tG 13 (some 75) #[true, true, true, true, true, true, true, true, true, true, true, true, true, true, false, false, false, false, false, false, false, false, false, false, false, false, false, false, false, false, false, false, false, false, false, false, false, false, false] (hs _ _ D.out) ?_
        refine tG 14 (some 76) #[true, true, true, true, true, true, true, true, true, true, true, true, true, true, true, false, false, false, false, false, false, false, false, false, false, false, false, false, false, false, false, false, false, false, false, false, false, false, false] (hs _ _ D.out) ?_
        refine tG 15 (some 77) #[true, true, true, true, true, true, true, true, true, true, true, true, true, true, true, true, false, false, false, false, false, false, false, false, false, false, false, false, false, false, false, false, false, false, false, false, false, false, false] (hs _ _ D.out) ?_
        refine one_ (i := 16) (N := some 78) #[true, true, true, true, true, true, true, true, true, true, true, true, true, true, true, true, true, false, false, false, false, false, false, false, false, false, false, false, false, false, false, false, false, false, false, false, false, false, false] rfl rfl (by kernel_rfl) (by decide) (fun K hK => ?_)
        refine goes_ Try.func13 (by kernel_rfl) rfl #[.pointer (some ⟨sb, 0, none⟩), .int .i64 v1, .int .i64 v3] (by rfl) rfl rfl (by (try simp only [List.map_toArray, List.map_cons, List.map_nil]); first | done | (go_simp; done) | rfl | (go_simp; rfl)) ?_
        refine Calls.mono (CS.viaM D.out (IH.out _ _ _ _ _ _ G2.out D.out.gm D.out.mp)) ?_
        rintro e wq ⟨rfl, hD⟩
        refine ⟨_, rfl, ?_⟩
        clear D; have D := Aside0.mk hD; clear hD; (try clear q0 f0); (try clear q1 f1); (try (have q0 := D.out.c 0 rfl; have f0 := D.out.f 0 rfl)); (try (have q1 := D.out.c 1 rfl; have f1 := D.out.f 1 rfl)); (try clear z0 z1 z2); (try (have z0 := gz0 _ D.out.gm; have z1 := gz1 _ D.out.gm; have z2 := gz2 _ D.out.gm))
        refine hK.out _ _ (hs _ _ D.out) (fun _ => ?_)
        clear hK K
        refine norm_ (by simp only [putAll, Act.put, List.setIfInBounds_toArray, List.set_cons_zero, List.set_cons_succ, i64_w, i32_w]; rfl) ?_
        refine tG 17 (some 79) #[true, true, true, true, true, true, true, true, true, true, true, true, true, true, true, true, true, true, false, false, false, false, false, false, false, false, false, false, false, false, false, false, false, false, false, false, false, false, false] (hs _ _ D.out) ?_
        refine tG 18 (some 80) #[true, true, true, true, true, true, true, true, true, true, true, true, true, true, true, true, true, true, true, false, false, false, false, false, false, false, false, false, false, false, false, false, false, false, false, false, false, false, false] (hs _ _ D.out) ?_
        rcases ifB hbody with ⟨e_, hb_⟩ | ⟨e_, hb_⟩
        · clear hbody
          subst e_
          have hbody := hb_
          clear hb_
          simp only [Option.some.injEq, Prod.mk.injEq] at hbody
          obtain ⟨rfl, rfl⟩ := hbody
          refine uG 19 (some 81) #[true, true, true, true, true, true, true, true, true, true, true, true, true, true, true, true, true, true, true, true, false, false, false, false, false, false, false, false, false, false, false, false, false, false, false, false, false, false, false] ?_
          refine uG 20 (some 82) #[true, true, true, true, true, true, true, true, true, true, true, true, true, true, true, true, true, true, true, true, true, false, false, false, false, false, false, false, false, false, false, false, false, false, false, false, false, false, false] ?_
          refine uG 21 (some 83) #[true, true, true, true, true, true, true, true, true, true, true, true, true, true, true, true, true, true, true, true, true, true, false, false, false, false, false, false, false, false, false, false, false, false, false, false, false, false, false] ?_
          refine uG 22 (some 84) #[true, true, true, true, true, true, true, true, true, true, true, true, true, true, true, true, true, true, true, true, true, true, true, false, false, false, false, false, false, false, false, false, false, false, false, false, false, false, false] ?_
          refine uG 23 (some 85) #[true, true, true, true, true, true, true, true, true, true, true, true, true, true, true, true, true, true, true, true, true, true, true, true, false, false, false, false, false, false, false, false, false, false, false, false, false, false, false] ?_
          refine uG 24 (some 86) #[true, true, true, true, true, true, true, true, true, true, true, true, true, true, true, true, true, true, true, true, true, true, true, true, true, false, false, false, false, false, false, false, false, false, false, false, false, false, false] ?_
          refine uG 25 (some 87) #[true, true, true, true, true, true, true, true, true, true, true, true, true, true, true, true, true, true, true, true, true, true, true, true, true, true, false, false, false, false, false, false, false, false, false, false, false, false, false] ?_
          refine uG 26 (some 88) #[true, true, true, true, true, true, true, true, true, true, true, true, true, true, true, true, true, true, true, true, true, true, true, true, true, true, true, false, false, false, false, false, false, false, false, false, false, false, false] ?_
          refine uG 27 (some 89) #[true, true, true, true, true, true, true, true, true, true, true, true, true, true, true, true, true, true, true, true, true, true, true, true, true, true, true, true, false, false, false, false, false, false, false, false, false, false, false] ?_
          refine uG 28 (some 90) #[true, true, true, true, true, true, true, true, true, true, true, true, true, true, true, true, true, true, true, true, true, true, true, true, true, true, true, true, true, false, false, false, false, false, false, false, false, false, false] ?_
          refine uG 29 (some 91) #[true, true, true, true, true, true, true, true, true, true, true, true, true, true, true, true, true, true, true, true, true, true, true, true, true, true, true, true, true, true, false, false, false, false, false, false, false, false, false] ?_
          refine uG 30 (some 92) #[true, true, true, true, true, true, true, true, true, true, true, true, true, true, true, true, true, true, true, true, true, true, true, true, true, true, true, true, true, true, true, false, false, false, false, false, false, false, false] ?_
          refine uG 31 (some 93) #[true, true, true, true, true, true, true, true, true, true, true, true, true, true, true, true, true, true, true, true, true, true, true, true, true, true, true, true, true, true, true, true, false, false, false, false, false, false, false] ?_
          refine uG 32 (some 94) #[true, true, true, true, true, true, true, true, true, true, true, true, true, true, true, true, true, true, true, true, true, true, true, true, true, true, true, true, true, true, true, true, true, false, false, false, false, false, false] ?_
          refine uG 33 (some 95) #[true, true, true, true, true, true, true, true, true, true, true, true, true, true, true, true, true, true, true, true, true, true, true, true, true, true, true, true, true, true, true, true, true, true, false, false, false, false, false] ?_
          refine uG 34 (some 96) #[true, true, true, true, true, true, true, true, true, true, true, true, true, true, true, true, true, true, true, true, true, true, true, true, true, true, true, true, true, true, true, true, true, true, true, false, false, false, false] ?_
          refine uG 35 (some 97) #[true, true, true, true, true, true, true, true, true, true, true, true, true, true, true, true, true, true, true, true, true, true, true, true, true, true, true, true, true, true, true, true, true, true, true, true, false, false, false] ?_
          refine uG 36 (some 98) #[true, true, true, true, true, true, true, true, true, true, true, true, true, true, true, true, true, true, true, true, true, true, true, true, true, true, true, true, true, true, true, true, true, true, true, true, true, false, false] ?_
          refine tG 37 (some 99) #[true, true, true, true, true, true, true, true, true, true, true, true, true, true, true, true, true, true, true, true, true, true, true, true, true, true, true, true, true, true, true, true, true, true, true, true, true, true, false] (hs _ _ D.out) ?_
          refine tG 38 (some 11) #[true, true, true, true, true, true, true, true, true, true, true, true, true, true, true, true, true, true, true, true, true, true, true, true, true, true, true, true, true, true, true, true, true, true, true, true, true, true, true] (hs _ _ D.out) ?_
          refine done_ (by kernel_rfl) ?_
          go_wp2_with (first
            | ((with_reducible refine gate_mu rfl ?_); refine ev_upd x y true D.out ox.out oy.out HLEN.out ?_; intro wq hD; clear D; have D := Aside0.mk hD; clear hD; (try clear q0 f0); (try clear q1 f1); (try (have q0 := D.out.c 0 rfl; have f0 := D.out.f 0 rfl)); (try (have q1 := D.out.c 1 rfl; have f1 := D.out.f 1 rfl)); (try clear z0 z1 z2); (try (have z0 := gz0 _ D.out.gm; have z1 := gz1 _ D.out.gm; have z2 := gz2 _ D.out.gm))))
          go_ret
          exact ⟨rfl, D.out.mp, D.out.gm⟩
        · clear hbody
          subst e_
          have hbody := hb_
          clear hb_
          unfold impl_same_terms.alt at hbody
          obtain ⟨⟨r3, M5⟩, k3, hbody⟩ := Option.bind_eq_some_iff.mp hbody
          have G3 := Aside0.mk k3
          clear k3
          try simp only at hbody
          refine tG 19 (some 81) #[true, true, true, true, true, true, true, true, true, true, true, true, true, true, true, true, true, true, true, true, false, false, false, false, false, false, false, false, false, false, false, false, false, false, false, false, false, false, false] (hs _ _ D.out) ?_
          refine tG 20 (some 82) #[true, true, true, true, true, true, true, true, true, true, true, true, true, true, true, true, true, true, true, true, true, false, false, false, false, false, false, false, false, false, false, false, false, false, false, false, false, false, false] (hs _ _ D.out) ?_
          refine tG 21 (some 83) #[true, true, true, true, true, true, true, true, true, true, true, true, true, true, true, true, true, true, true, true, true, true, false, false, false, false, false, false, false, false, false, false, false, false, false, false, false, false, false] (hs _ _ D.out) ?_
          refine tG 22 (some 84) #[true, true, true, true, true, true, true, true, true, true, true, true, true, true, true, true, true, true, true, true, true, true, true, false, false, false, false, false, false, false, false, false, false, false, false, false, false, false, false] (hs _ _ D.out) ?_
          refine tG 23 (some 85) #[true, true, true, true, true, true, true, true, true, true, true, true, true, true, true, true, true, true, true, true, true, true, true, true, false, false, false, false, false, false, false, false, false, false, false, false, false, false, false] (hs _ _ D.out) ?_
          refine tG 24 (some 86) #[true, true, true, true, true, true, true, true, true, true, true, true, true, true, true, true, true, true, true, true, true, true, true, true, true, false, false, false, false, false, false, false, false, false, false, false, false, false, false] (hs _ _ D.out) ?_
          refine tG 25 (some 87) #[true, true, true, true, true, true, true, true, true, true, true, true, true, true, true, true, true, true, true, true, true, true, true, true, true, true, false, false, false, false, false, false, false, false, false, false, false, false, false] (hs _ _ D.out) ?_
          refine one_ (i := 26) (N := some 88) #[true, true, true, true, true, true, true, true, true, true, true, true, true, true, true, true, true, true, true, true, true, true, true, true, true, true, true, false, false, false, false, false, false, false, false, false, false, false, false] rfl rfl (by kernel_rfl) (by decide) (fun K hK => ?_)
          refine goes_ Try.func13 (by kernel_rfl) rfl #[.pointer (some ⟨sb, 0, none⟩), .int .i64 v0, .int .i64 v3] (by rfl) rfl rfl (by (try simp only [List.map_toArray, List.map_cons, List.map_nil]); first | done | (go_simp; done) | rfl | (go_simp; rfl)) ?_
          refine Calls.mono (CS.viaM D.out (IH.out _ _ _ _ _ _ G3.out D.out.gm D.out.mp)) ?_
          rintro e wq ⟨rfl, hD⟩
          refine ⟨_, rfl, ?_⟩
          clear D; have D := Aside0.mk hD; clear hD; (try clear q0 f0); (try clear q1 f1); (try (have q0 := D.out.c 0 rfl; have f0 := D.out.f 0 rfl)); (try (have q1 := D.out.c 1 rfl; have f1 := D.out.f 1 rfl)); (try clear z0 z1 z2); (try (have z0 := gz0 _ D.out.gm; have z1 := gz1 _ D.out.gm; have z2 := gz2 _ D.out.gm))
          refine hK.out _ _ (hs _ _ D.out) (fun _ => ?_)
          clear hK K
          refine norm_ (by simp only [putAll, Act.put, List.setIfInBounds_toArray, List.set_cons_zero, List.set_cons_succ, i64_w, i32_w]; rfl) ?_
          refine tG 27 (some 89) #[true, true, true, true, true, true, true, true, true, true, true, true, true, true, true, true, true, true, true, true, true, true, true, true, true, true, true, true, false, false, false, false, false, false, false, false, false, false, false] (hs _ _ D.out) ?_
          rcases ifB hbody with ⟨e_, hb_⟩ | ⟨e_, hb_⟩
          · clear hbody
            subst e_
            have hbody := hb_
            clear hb_
            have G4 := Aside0.mk hbody
            refine tG 28 (some 90) #[true, true, true, true, true, true, true, true, true, true, true, true, true, true, true, true, true, true, true, true, true, true, true, true, true, true, true, true, true, false, false, false, false, false, false, false, false, false, false] (hs _ _ D.out) ?_
            refine tG 29 (some 91) #[true, true, true, true, true, true, true, true, true, true, true, true, true, true, true, true, true, true, true, true, true, true, true, true, true, true, true, true, true, true, false, false, false, false, false, false, false, false, false] (hs _ _ D.out) ?_
            refine tG 30 (some 92) #[true, true, true, true, true, true, true, true, true, true, true, true, true, true, true, true, true, true, true, true, true, true, true, true, true, true, true, true, true, true, true, false, false, false, false, false, false, false, false] (hs _ _ D.out) ?_
            refine tG 31 (some 93) #[true, true, true, true, true, true, true, true, true, true, true, true, true, true, true, true, true, true, true, true, true, true, true, true, true, true, true, true, true, true, true, true, false, false, false, false, false, false, false] (hs _ _ D.out) ?_
            refine tG 32 (some 94) #[true, true, true, true, true, true, true, true, true, true, true, true, true, true, true, true, true, true, true, true, true, true, true, true, true, true, true, true, true, true, true, true, true, false, false, false, false, false, false] (hs _ _ D.out) ?_
            refine tG 33 (some 95) #[true, true, true, true, true, true, true, true, true, true, true, true, true, true, true, true, true, true, true, true, true, true, true, true, true, true, true, true, true, true, true, true, true, true, false, false, false, false, false] (hs _ _ D.out) ?_
            refine tG 34 (some 96) #[true, true, true, true, true, true, true, true, true, true, true, true, true, true, true, true, true, true, true, true, true, true, true, true, true, true, true, true, true, true, true, true, true, true, true, false, false, false, false] (hs _ _ D.out) ?_
            refine one_ (i := 35) (N := some 97) #[true, true, true, true, true, true, true, true, true, true, true, true, true, true, true, true, true, true, true, true, true, true, true, true, true, true, true, true, true, true, true, true, true, true, true, true, false, false, false] rfl rfl (by kernel_rfl) (by decide) (fun K hK => ?_)
            refine goes_ Try.func13 (by kernel_rfl) rfl #[.pointer (some ⟨sb, 0, none⟩), .int .i64 v1, .int .i64 v2] (by rfl) rfl rfl (by (try simp only [List.map_toArray, List.map_cons, List.map_nil]); first | done | (go_simp; done) | rfl | (go_simp; rfl)) ?_
            refine Calls.mono (CS.viaM D.out (IH.out _ _ _ _ _ _ G4.out D.out.gm D.out.mp)) ?_
            rintro e wq ⟨rfl, hD⟩
            refine ⟨_, rfl, ?_⟩
            clear D; have D := Aside0.mk hD; clear hD; (try clear q0 f0); (try clear q1 f1); (try (have q0 := D.out.c 0 rfl; have f0 := D.out.f 0 rfl)); (try (have q1 := D.out.c 1 rfl; have f1 := D.out.f 1 rfl)); (try clear z0 z1 z2); (try (have z0 := gz0 _ D.out.gm; have z1 := gz1 _ D.out.gm; have z2 := gz2 _ D.out.gm))
            refine hK.out _ _ (hs _ _ D.out) (fun _ => ?_)
            clear hK K
            refine norm_ (by simp only [putAll, Act.put, List.setIfInBounds_toArray, List.set_cons_zero, List.set_cons_succ, i64_w, i32_w]; rfl) ?_
            refine tG 36 (some 98) #[true, true, true, true, true, true, true, true, true, true, true, true, true, true, true, true, true, true, true, true, true, true, true, true, true, true, true, true, true, true, true, true, true, true, true, true, true, false, false] (hs _ _ D.out) ?_
            refine tG 37 (some 99) #[true, true, true, true, true, true, true, true, true, true, true, true, true, true, true, true, true, true, true, true, true, true, true, true, true, true, true, true, true, true, true, true, true, true, true, true, true, true, false] (hs _ _ D.out) ?_
            refine tG 38 (some 11) #[true, true, true, true, true, true, true, true, true, true, true, true, true, true, true, true, true, true, true, true, true, true, true, true, true, true, true, true, true, true, true, true, true, true, true, true, true, true, true] (hs _ _ D.out) ?_
            refine done_ (by kernel_rfl) ?_
            go_wp2_with (first
              | ((with_reducible refine gate_mu rfl ?_); refine ev_upd x y is D.out ox.out oy.out HLEN.out ?_; intro wq hD; clear D; have D := Aside0.mk hD; clear hD; (try clear q0 f0); (try clear q1 f1); (try (have q0 := D.out.c 0 rfl; have f0 := D.out.f 0 rfl)); (try (have q1 := D.out.c 1 rfl; have f1 := D.out.f 1 rfl)); (try clear z0 z1 z2); (try (have z0 := gz0 _ D.out.gm; have z1 := gz1 _ D.out.gm; have z2 := gz2 _ D.out.gm))))
            go_ret
            exact ⟨rfl, D.out.mp, D.out.gm⟩
          · clear hbody
            subst e_
            have hbody := hb_
            clear hb_
            simp only [Option.some.injEq, Prod.mk.injEq] at hbody
            obtain ⟨rfl, rfl⟩ := hbody
            refine uG 28 (some 90) #[true, true, true, true, true, true, true, true, true, true, true, true, true, true, true, true, true, true, true, true, true, true, true, true, true, true, true, true, true, false, false, false, false, false, false, false, false, false, false] ?_
            refine uG 29 (some 91) #[true, true, true, true, true, true, true, true, true, true, true, true, true, true, true, true, true, true, true, true, true, true, true, true, true, true, true, true, true, true, false, false, false, false, false, false, false, false, false] ?_
            refine uG 30 (some 92) #[true, true, true, true, true, true, true, true, true, true, true, true, true, true, true, true, true, true, true, true, true, true, true, true, true, true, true, true, true, true, true, false, false, false, false, false, false, false, false] ?_
            refine uG 31 (some 93) #[true, true, true, true, true, true, true, true, true, true, true, true, true, true, true, true, true, true, true, true, true, true, true, true, true, true, true, true, true, true, true, true, false, false, false, false, false, false, false] ?_
            refine uG 32 (some 94) #[true, true, true, true, true, true, true, true, true, true, true, true, true, true, true, true, true, true, true, true, true, true, true, true, true, true, true, true, true, true, true, true, true, false, false, false, false, false, false] ?_
            refine uG 33 (some 95) #[true, true, true, true, true, true, true, true, true, true, true, true, true, true, true, true, true, true, true, true, true, true, true, true, true, true, true, true, true, true, true, true, true, true, false, false, false, false, false] ?_
            refine uG 34 (some 96) #[true, true, true, true, true, true, true, true, true, true, true, true, true, true, true, true, true, true, true, true, true, true, true, true, true, true, true, true, true, true, true, true, true, true, true, false, false, false, false] ?_
            refine uG 35 (some 97) #[true, true, true, true, true, true, true, true, true, true, true, true, true, true, true, true, true, true, true, true, true, true, true, true, true, true, true, true, true, true, true, true, true, true, true, true, false, false, false] ?_
            refine tG 36 (some 98) #[true, true, true, true, true, true, true, true, true, true, true, true, true, true, true, true, true, true, true, true, true, true, true, true, true, true, true, true, true, true, true, true, true, true, true, true, true, false, false] (hs _ _ D.out) ?_
            refine tG 37 (some 99) #[true, true, true, true, true, true, true, true, true, true, true, true, true, true, true, true, true, true, true, true, true, true, true, true, true, true, true, true, true, true, true, true, true, true, true, true, true, true, false] (hs _ _ D.out) ?_
            refine tG 38 (some 11) #[true, true, true, true, true, true, true, true, true, true, true, true, true, true, true, true, true, true, true, true, true, true, true, true, true, true, true, true, true, true, true, true, true, true, true, true, true, true, true] (hs _ _ D.out) ?_
            refine done_ (by kernel_rfl) ?_
            go_wp2_with (first
              | ((with_reducible refine gate_mu rfl ?_); refine ev_upd x y false D.out ox.out oy.out HLEN.out ?_; intro wq hD; clear D; have D := Aside0.mk hD; clear hD; (try clear q0 f0); (try clear q1 f1); (try (have q0 := D.out.c 0 rfl; have f0 := D.out.f 0 rfl)); (try (have q1 := D.out.c 1 rfl; have f1 := D.out.f 1 rfl)); (try clear z0 z1 z2); (try (have z0 := gz0 _ D.out.gm; have z1 := gz1 _ D.out.gm; have z2 := gz2 _ D.out.gm))))
            go_ret
            exact ⟨rfl, D.out.mp, D.out.gm⟩
      · clear hbody
        subst e_
        have hbody := hb_
        clear hb_
        refine uG 9 (some 71) #[true, true, true, true, true, true, true, true, true, true, false, false, false, false, false, false, false, false, false, false, false, false, false, false, false, false, false, false, false, false, false, false, false, false, false, false, false, false, false] ?_
        refine uG 10 (some 72) #[true, true, true, true, true, true, true, true, true, true, true, false, false, false, false, false, false, false, false, false, false, false, false, false, false, false, false, false, false, false, false, false, false, false, false, false, false, false, false] ?_
        refine uG 11 (some 73) #[true, true, true, true, true, true, true, true, true, true, true, true, false, false, false, false, false, false, false, false, false, false, false, false, false, false, false, false, false, false, false, false, false, false, false, false, false, false, false] ?_
        refine uG 12 (some 74) #[true, true, true, true, true, true, true, true, true, true, true, true, true, false, false, false, false, false, false, false, false, false, false, false, false, false, false, false, false, false, false, false, false, false, false, false, false, false, false] ?_
        refine uG 13 (some 75) #[true, true, true, true, true, true, true, true, true, true, true, true, true, true, false, false, false, false, false, false, false, false, false, false, false, false, false, false, false, false, false, false, false, false, false, false, false, false, false] ?_
        refine uG 14 (some 76) #[true, true, true, true, true, true, true, true, true, true, true, true, true, true, true, false, false, false, false, false, false, false, false, false, false, false, false, false, false, false, false, false, false, false, false, false, false, false, false] ?_
        refine uG 15 (some 77) #[true, true, true, true, true, true, true, true, true, true, true, true, true, true, true, true, false, false, false, false, false, false, false, false, false, false, false, false, false, false, false, false, false, false, false, false, false, false, false] ?_
        refine uG 16 (some 78) #[true, true, true, true, true, true, true, true, true, true, true, true, true, true, true, true, true, false, false, false, false, false, false, false, false, false, false, false, false, false, false, false, false, false, false, false, false, false, false] ?_
        refine tG 17 (some 79) #[true, true, true, true, true, true, true, true, true, true, true, true, true, true, true, true, true, true, false, false, false, false, false, false, false, false, false, false, false, false, false, false, false, false, false, false, false, false, false] (hs _ _ D.out) ?_
        refine tG 18 (some 80) #[true, true, true, true, true, true, true, true, true, true, true, true, true, true, true, true, true, true, true, false, false, false, false, false, false, false, false, false, false, false, false, false, false, false, false, false, false, false, false] (hs _ _ D.out) ?_
        unfold impl_same_terms.alt at hbody
        obtain ⟨⟨r3, M5⟩, k3, hbody⟩ := Option.bind_eq_some_iff.mp hbody
        have G3 := Aside0.mk k3
        clear k3
        try simp only at hbody
        refine tG 19 (some 81) #[true, true, true, true, true, true, true, true, true, true, true, true, true, true, true, true, true, true, true, true, false, false, false, false, false, false, false, false, false, false, false, false, false, false, false, false, false, false, false] (hs _ _ D.out) ?_
        refine tG 20 (some 82) #[true, true, true, true, true, true, true, true, true, true, true, true, true, true, true, true, true, true, true, true, true, false, false, false, false, false, false, false, false, false, false, false, false, false, false, false, false, false, false] (hs _ _ D.out) ?_
        refine tG 21 (some 83) #[true, true, true, true, true, true, true, true, true, true, true, true, true, true, true, true, true, true, true, true, true, true, false, false, false, false, false, false, false, false, false, false, false, false, false, false, false, false, false] (hs _ _ D.out) ?_
        refine tG 22 (some 84) #[true, true, true, true, true, true, true, true, true, true, true, true, true, true, true, true, true, true, true, true, true, true, true, false, false, false, false, false, false, false, false, false, false, false, false, false, false, false, false] (hs _ _ D.out) ?_
        refine tG 23 (some 85) #[true, true, true, true, true, true, true, true, true, true, true, true, true, true, true, true, true, true, true, true, true, true, true, true, false, false, false, false, false, false, false, false, false, false, false, false, false, false, false] (hs _ _ D.out) ?_
        refine tG 24 (some 86) #[true, true, true, true, true, true, true, true, true, true, true, true, true, true, true, true, true, true, true, true, true, true, true, true, true, false, false, false, false, false, false, false, false, false, false, false, false, false, false] (hs _ _ D.out) ?_
        refine tG 25 (some 87) #[true, true, true, true, true, true, true, true, true, true, true, true, true, true, true, true, true, true, true, true, true, true, true, true, true, true, false, false, false, false, false, false, false, false, false, false, false, false, false] (hs _ _ D.out) ?_
        refine one_ (i := 26) (N := some 88) #[true, true, true, true, true, true, true, true, true, true, true, true, true, true, true, true, true, true, true, true, true, true, true, true, true, true, true, false, false, false, false, false, false, false, false, false, false, false, false] rfl rfl (by kernel_rfl) (by decide) (fun K hK => ?_)
        refine goes_ Try.func13 (by kernel_rfl) rfl #[.pointer (some ⟨sb, 0, none⟩), .int .i64 v0, .int .i64 v3] (by rfl) rfl rfl (by (try simp only [List.map_toArray, List.map_cons, List.map_nil]); first | done | (go_simp; done) | rfl | (go_simp; rfl)) ?_
        refine Calls.mono (CS.viaM D.out (IH.out _ _ _ _ _ _ G3.out D.out.gm D.out.mp)) ?_
        rintro e wq ⟨rfl, hD⟩
        refine ⟨_, rfl, ?_⟩
        clear D; have D := Aside0.mk hD; clear hD; (try clear q0 f0); (try clear q1 f1); (try (have q0 := D.out.c 0 rfl; have f0 := D.out.f 0 rfl)); (try (have q1 := D.out.c 1 rfl; have f1 := D.out.f 1 rfl)); (try clear z0 z1 z2); (try (have z0 := gz0 _ D.out.gm; have z1 := gz1 _ D.out.gm; have z2 := gz2 _ D.out.gm))
        refine hK.out _ _ (hs _ _ D.out) (fun _ => ?_)
        clear hK K
        refine norm_ (by simp only [putAll, Act.put, List.setIfInBounds_toArray, List.set_cons_zero, List.set_cons_succ, i64_w, i32_w]; rfl) ?_
        refine tG 27 (some 89) #[true, true, true, true, true, true, true, true, true, true, true, true, true, true, true, true, true, true, true, true, true, true, true, true, true, true, true, true, false, false, false, false, false, false, false, false, false, false, false] (hs _ _ D.out) ?_
        rcases ifB hbody with ⟨e_, hb_⟩ | ⟨e_, hb_⟩
        · clear hbody
          subst e_
          have hbody := hb_
          clear hb_
          have G4 := Aside0.mk hbody
          refine tG 28 (some 90) #[true, true, true, true, true, true, true, true, true, true, true, true, true, true, true, true, true, true, true, true, true, true, true, true, true, true, true, true, true, false, false, false, false, false, false, false, false, false, false] (hs _ _ D.out) ?_
          refine tG 29 (some 91) #[true, true, true, true, true, true, true, true, true, true, true, true, true, true, true, true, true, true, true, true, true, true, true, true, true, true, true, true, true, true, false, false, false, false, false, false, false, false, false] (hs _ _ D.out) ?_
          refine tG 30 (some 92) #[true, true, true, true, true, true, true, true, true, true, true, true, true, true, true, true, true, true, true, true, true, true, true, true, true, true, true, true, true, true, true, false, false, false, false, false, false, false, false] (hs _ _ D.out) ?_
          refine tG 31 (some 93) #[true, true, true, true, true, true, true, true, true, true, true, true, true, true, true, true, true, true, true, true, true, true, true, true, true, true, true, true, true, true, true, true, false, false, false, false, false, false, false] (hs _ _ D.out) ?_
          refine tG 32 (some 94) #[true, true, true, true, true, true, true, true, true, true, true, true, true, true, true, true, true, true, true, true, true, true, true, true, true, true, true, true, true, true, true, true, true, false, false, false, false, false, false] (hs _ _ D.out) ?_
          refine tG 33 (some 95) #[true, true, true, true, true, true, true, true, true, true, true, true, true, true, true, true, true, true, true, true, true, true, true, true, true, true, true, true, true, true, true, true, true, true, false, false, false, false, false] (hs _ _ D.out) ?_
          refine tG 34 (some 96) #[true, true, true, true, true, true, true, true, true, true, true, true, true, true, true, true, true, true, true, true, true, true, true, true, true, true, true, true, true, true, true, true, true, true, true, false, false, false, false] (hs _ _ D.out) ?_
          refine one_ (i := 35) (N := some 97) #[true, true, true, true, true, true, true, true, true, true, true, true, true, true, true, true, true, true, true, true, true, true, true, true, true, true, true, true, true, true, true, true, true, true, true, true, false, false, false] rfl rfl (by kernel_rfl) (by decide) (fun K hK => ?_)
          refine goes_ Try.func13 (by kernel_rfl) rfl #[.pointer (some ⟨sb, 0, none⟩), .int .i64 v1, .int .i64 v2] (by rfl) rfl rfl (by (try simp only [List.map_toArray, List.map_cons, List.map_nil]); first | done | (go_simp; done) | rfl | (go_simp; rfl)) ?_
          refine Calls.mono (CS.viaM D.out (IH.out _ _ _ _ _ _ G4.out D.out.gm D.out.mp)) ?_
          rintro e wq ⟨rfl, hD⟩
          refine ⟨_, rfl, ?_⟩
          clear D; have D := Aside0.mk hD; clear hD; (try clear q0 f0); (try clear q1 f1); (try (have q0 := D.out.c 0 rfl; have f0 := D.out.f 0 rfl)); (try (have q1 := D.out.c 1 rfl; have f1 := D.out.f 1 rfl)); (try clear z0 z1 z2); (try (have z0 := gz0 _ D.out.gm; have z1 := gz1 _ D.out.gm; have z2 := gz2 _ D.out.gm))
          refine hK.out _ _ (hs _ _ D.out) (fun _ => ?_)
          clear hK K
          refine norm_ (by simp only [putAll, Act.put, List.setIfInBounds_toArray, List.set_cons_zero, List.set_cons_succ, i64_w, i32_w]; rfl) ?_
          refine tG 36 (some 98) #[true, true, true, true, true, true, true, true, true, true, true, true, true, true, true, true, true, true, true, true, true, true, true, true, true, true, true, true, true, true, true, true, true, true, true, true, true, false, false] (hs _ _ D.out) ?_
          refine tG 37 (some 99) #[true, true, true, true, true, true, true, true, true, true, true, true, true, true, true, true, true, true, true, true, true, true, true, true, true, true, true, true, true, true, true, true, true, true, true, true, true, true, false] (hs _ _ D.out) ?_
          refine tG 38 (some 11) #[true, true, true, true, true, true, true, true, true, true, true, true, true, true, true, true, true, true, true, true, true, true, true, true, true, true, true, true, true, true, true, true, true, true, true, true, true, true, true] (hs _ _ D.out) ?_
          refine done_ (by kernel_rfl) ?_
          go_wp2_with (first
            | ((with_reducible refine gate_mu rfl ?_); refine ev_upd x y is D.out ox.out oy.out HLEN.out ?_; intro wq hD; clear D; have D := Aside0.mk hD; clear hD; (try clear q0 f0); (try clear q1 f1); (try (have q0 := D.out.c 0 rfl; have f0 := D.out.f 0 rfl)); (try (have q1 := D.out.c 1 rfl; have f1 := D.out.f 1 rfl)); (try clear z0 z1 z2); (try (have z0 := gz0 _ D.out.gm; have z1 := gz1 _ D.out.gm; have z2 := gz2 _ D.out.gm))))
          go_ret
          exact ⟨rfl, D.out.mp, D.out.gm⟩
        · clear hbody
          subst e_
          have hbody := hb_
          clear hb_
          simp only [Option.some.injEq, Prod.mk.injEq] at hbody
          obtain ⟨rfl, rfl⟩ := hbody
          refine uG 28 (some 90) #[true, true, true, true, true, true, true, true, true, true, true, true, true, true, true, true, true, true, true, true, true, true, true, true, true, true, true, true, true, false, false, false, false, false, false, false, false, false, false] ?_
          refine uG 29 (some 91) #[true, true, true, true, true, true, true, true, true, true, true, true, true, true, true, true, true, true, true, true, true, true, true, true, true, true, true, true, true, true, false, false, false, false, false, false, false, false, false] ?_
          refine uG 30 (some 92) #[true, true, true, true, true, true, true, true, true, true, true, true, true, true, true, true, true, true, true, true, true, true, true, true, true, true, true, true, true, true, true, false, false, false, false, false, false, false, false] ?_
          refine uG 31 (some 93) #[true, true, true, true, true, true, true, true, true, true, true, true, true, true, true, true, true, true, true, true, true, true, true, true, true, true, true, true, true, true, true, true, false, false, false, false, false, false, false] ?_
          refine uG 32 (some 94) #[true, true, true, true, true, true, true, true, true, true, true, true, true, true, true, true, true, true, true, true, true, true, true, true, true, true, true, true, true, true, true, true, true, false, false, false, false, false, false] ?_
          refine uG 33 (some 95) #[true, true, true, true, true, true, true, true, true, true, true, true, true, true, true, true, true, true, true, true, true, true, true, true, true, true, true, true, true, true, true, true, true, true, false, false, false, false, false] ?_
          refine uG 34 (some 96) #[true, true, true, true, true, true, true, true, true, true, true, true, true, true, true, true, true, true, true, true, true, true, true, true, true, true, true, true, true, true, true, true, true, true, true, false, false, false, false] ?_
          refine uG 35 (some 97) #[true, true, true, true, true, true, true, true, true, true, true, true, true, true, true, true, true, true, true, true, true, true, true, true, true, true, true, true, true, true, true, true, true, true, true, true, false, false, false] ?_
          refine tG 36 (some 98) #[true, true, true, true, true, true, true, true, true, true, true, true, true, true, true, true, true, true, true, true, true, true, true, true, true, true, true, true, true, true, true, true, true, true, true, true, true, false, false] (hs _ _ D.out) ?_
          refine tG 37 (some 99) #[true, true, true, true, true, true, true, true, true, true, true, true, true, true, true, true, true, true, true, true, true, true, true, true, true, true, true, true, true, true, true, true, true, true, true, true, true, true, false] (hs _ _ D.out) ?_
          refine tG 38 (some 11) #[true, true, true, true, true, true, true, true, true, true, true, true, true, true, true, true, true, true, true, true, true, true, true, true, true, true, true, true, true, true, true, true, true, true, true, true, true, true, true] (hs _ _ D.out) ?_
          refine done_ (by kernel_rfl) ?_
          go_wp2_with (first
            | ((with_reducible refine gate_mu rfl ?_); refine ev_upd x y false D.out ox.out oy.out HLEN.out ?_; intro wq hD; clear D; have D := Aside0.mk hD; clear hD; (try clear q0 f0); (try clear q1 f1); (try (have q0 := D.out.c 0 rfl; have f0 := D.out.f 0 rfl)); (try (have q1 := D.out.c 1 rfl; have f1 := D.out.f 1 rfl)); (try clear z0 z1 z2); (try (have z0 := gz0 _ D.out.gm; have z1 := gz1 _ D.out.gm; have z2 := gz2 _ D.out.gm))))
          go_ret
          exact ⟨rfl, D.out.mp, D.out.gm⟩
    have HL := Aside0.mk hbody
    clear hbody
    go_enter Try.func13, Try.ntmps13
    go_wp2_with (first
      | ((with_reducible refine gate_lk rfl ?_); refine ev_look x y D.out.mp ox.out oy.out ?_))
    refine CS.rgM (n := 18) #[false, false, false, false, false, false, false, false, false, false, false, false, false, false, false, false, false, false] D.out (fun _ _ h => h.gm) ?_
    intro hs w4 hD
    clear D; have D := Aside0.mk hD; clear hD; (try clear q0 f0); (try clear q1 f1); (try (have q0 := D.out.c 0 rfl; have f0 := D.out.f 0 rfl)); (try (have q1 := D.out.c 1 rfl; have f1 := D.out.f 1 rfl)); (try clear z0 z1 z2); (try (have z0 := gz0 _ D.out.gm; have z1 := gz1 _ D.out.gm; have z2 := gz2 _ D.out.gm))
    refine tG 0 (some 28) #[true, false, false, false, false, false, false, false, false, false, false, false, false, false, false, false, false, false] (hs _ _ D.out) ?_ (hy := Or.inl ⟨by rfl, by (intro w' s0; have a0 := gz0 w' s0; have a1 := gz1 w' s0; have b0 := gx0 w' s0; have b1 := gx1 w' s0; have b2 := gx2 w' s0; have b3 := gx3 w' s0; go_simp; with_reducible rfl)⟩)
    refine tG 1 (some 29) #[true, true, false, false, false, false, false, false, false, false, false, false, false, false, false, false, false, false] (hs _ _ D.out) ?_ (hy := Or.inl ⟨by rfl, by (intro w' s0; have a0 := gz0 w' s0; have a1 := gz1 w' s0; have b0 := gx0 w' s0; have b1 := gx1 w' s0; have b2 := gx2 w' s0; have b3 := gx3 w' s0; go_simp; with_reducible rfl)⟩)
    refine tG 2 (some 30) #[true, true, true, false, false, false, false, false, false, false, false, false, false, false, false, false, false, false] (hs _ _ D.out) ?_ (hy := Or.inl ⟨by rfl, by (intro w' s0; have a0 := gz0 w' s0; have a1 := gz1 w' s0; have b0 := gx0 w' s0; have b1 := gx1 w' s0; have b2 := gx2 w' s0; have b3 := gx3 w' s0; go_simp; with_reducible rfl)⟩)
    refine tG 3 (some 31) #[true, true, true, true, false, false, false, false, false, false, false, false, false, false, false, false, false, false] (hs _ _ D.out) ?_ (hy := Or.inl ⟨by rfl, by (intro w' s0; have a0 := gz0 w' s0; have a1 := gz1 w' s0; have b0 := gx0 w' s0; have b1 := gx1 w' s0; have b2 := gx2 w' s0; have b3 := gx3 w' s0; go_simp; with_reducible rfl)⟩)
    refine tG 4 (some 32) #[true, true, true, true, true, false, false, false, false, false, false, false, false, false, false, false, false, false] (hs _ _ D.out) ?_ (hy := Or.inl ⟨by rfl, by (intro w' s0; have a0 := gz0 w' s0; have a1 := gz1 w' s0; have b0 := gx0 w' s0; have b1 := gx1 w' s0; have b2 := gx2 w' s0; have b3 := gx3 w' s0; go_simp; with_reducible rfl)⟩)
    refine tG 5 (some 33) #[true, true, true, true, true, true, false, false, false, false, false, false, false, false, false, false, false, false] (hs _ _ D.out) ?_ (hy := Or.inl ⟨by rfl, by (intro w' s0; have a0 := gz0 w' s0; have a1 := gz1 w' s0; have b0 := gx0 w' s0; have b1 := gx1 w' s0; have b2 := gx2 w' s0; have b3 := gx3 w' s0; go_simp; with_reducible rfl)⟩)
    refine tG 6 (some 34) #[true, true, true, true, true, true, true, false, false, false, false, false, false, false, false, false, false, false] (hs _ _ D.out) ?_ (hy := Or.inl ⟨by rfl, by (intro w' s0; have a0 := gz0 w' s0; have a1 := gz1 w' s0; have b0 := gx0 w' s0; have b1 := gx1 w' s0; have b2 := gx2 w' s0; have b3 := gx3 w' s0; go_simp; with_reducible rfl)⟩)
    refine tG 7 (some 35) #[true, true, true, true, true, true, true, true, false, false, false, false, false, false, false, false, false, false] (hs _ _ D.out) ?_ (hy := Or.inl ⟨by rfl, by (intro w' s0; have a0 := gz0 w' s0; have a1 := gz1 w' s0; have b0 := gy0 w' s0; have b1 := gy1 w' s0; have b2 := gy2 w' s0; have b3 := gy3 w' s0; go_simp; with_reducible rfl)⟩)
    refine tG 8 (some 36) #[true, true, true, true, true, true, true, true, true, false, false, false, false, false, false, false, false, false] (hs _ _ D.out) ?_ (hy := Or.inl ⟨by rfl, by (intro w' s0; have a0 := gz0 w' s0; have a1 := gz1 w' s0; have b0 := gy0 w' s0; have b1 := gy1 w' s0; have b2 := gy2 w' s0; have b3 := gy3 w' s0; go_simp; with_reducible rfl)⟩)
    refine tG 9 (some 37) #[true, true, true, true, true, true, true, true, true, true, false, false, false, false, false, false, false, false] (hs _ _ D.out) ?_ (hy := Or.inl ⟨by rfl, by (intro w' s0; have a0 := gz0 w' s0; have a1 := gz1 w' s0; have b0 := gy0 w' s0; have b1 := gy1 w' s0; have b2 := gy2 w' s0; have b3 := gy3 w' s0; go_simp; with_reducible rfl)⟩)
    refine tG 10 (some 38) #[true, true, true, true, true, true, true, true, true, true, true, false, false, false, false, false, false, false] (hs _ _ D.out) ?_ (hy := Or.inl ⟨by rfl, by (intro w' s0; have a0 := gz0 w' s0; have a1 := gz1 w' s0; have b0 := gy0 w' s0; have b1 := gy1 w' s0; have b2 := gy2 w' s0; have b3 := gy3 w' s0; go_simp; with_reducible rfl)⟩)
    refine tG 11 (some 39) #[true, true, true, true, true, true, true, true, true, true, true, true, false, false, false, false, false, false] (hs _ _ D.out) ?_ (hy := Or.inl ⟨by rfl, by (intro w' s0; have a0 := gz0 w' s0; have a1 := gz1 w' s0; have b0 := gy0 w' s0; have b1 := gy1 w' s0; have b2 := gy2 w' s0; have b3 := gy3 w' s0; go_simp; with_reducible rfl)⟩)
    refine tG 12 (some 40) #[true, true, true, true, true, true, true, true, true, true, true, true, true, false, false, false, false, false] (hs _ _ D.out) ?_ (hy := Or.inl ⟨by rfl, by (intro w' s0; have a0 := gz0 w' s0; have a1 := gz1 w' s0; have b0 := gy0 w' s0; have b1 := gy1 w' s0; have b2 := gy2 w' s0; have b3 := gy3 w' s0; go_simp; with_reducible rfl)⟩)
    refine tG 13 (some 41) #[true, true, true, true, true, true, true, true, true, true, true, true, true, true, false, false, false, false] (hs _ _ D.out) ?_ (hy := Or.inl ⟨by rfl, by (intro w' s0; have a0 := gz0 w' s0; have a1 := gz1 w' s0; have b0 := gy0 w' s0; have b1 := gy1 w' s0; have b2 := gy2 w' s0; have b3 := gy3 w' s0; go_simp; with_reducible rfl)⟩)
    refine join2M D.out 2 #[true, true, true, true, true, true, true, true, true, true, true, true, true, true, true, true, false, false] (fun s => [(9, .pointer (some ⟨s.1, 0, none⟩)), (10, .pointer (some ⟨s.2, 0, none⟩))]) #[.int .i64 0, .int .i64 0, .int .i64 0, .int .i64 0] #[.int .i64 0, .int .i64 0, .int .i64 0, .int .i64 0] 34 34 ?_ ?_
    rotate_left
    · intro hJ
      refine two_ (i := 14) (j := 15) (Ni := some 9) (Nj := some 10) #[true, true, true, true, true, true, true, true, true, true, true, true, true, true, true, false, false, false] #[true, true, true, true, true, true, true, true, true, true, true, true, true, true, false, true, false, false] rfl rfl rfl rfl (by kernel_rfl) (by decide) (by decide) (fun K hK => ?_) (fun K hK => ?_)
      · refine alM ?_ D.out; intro b6 w2 hD; refine hK.out _ _ (hs _ _ hD.tail) (fun _ => ?_); refine one_ (i := 15) (N := some 10) #[true, true, true, true, true, true, true, true, true, true, true, true, true, true, true, true, false, false] rfl rfl (by kernel_rfl) (by decide) (fun K hK => ?_); refine alM ?_ hD; intro b7 w3 hD; refine hK.out _ _ (hs _ _ hD.tail.tail) (fun _ => ?_); exact hJ (b6, b7) _ hD
      · refine alM ?_ D.out; intro b7 w2 hD; refine hK.out _ _ (hs _ _ hD.tail) (fun _ => ?_); refine one_ (i := 14) (N := some 9) #[true, true, true, true, true, true, true, true, true, true, true, true, true, true, true, true, false, false] rfl rfl (by kernel_rfl) (by decide) (fun K hK => ?_); refine alM ?_ hD; intro b6 w3 hD; refine hK.out _ _ (hs _ _ hD.tail.tail) (fun _ => ?_); refine norm_ ?_ (hJ (b6, b7) _ (swapM hD)); simp only [putAll, Act.put, List.setIfInBounds_toArray, List.set_cons_zero, List.set_cons_succ, i64_w, i32_w]
    rintro ⟨b6, b7⟩ w1 hD
    clear D; have D := Aside0.mk hD; clear hD; (try clear q0 f0); (try clear q1 f1); (try (have q0 := D.out.c 0 rfl; have f0 := D.out.f 0 rfl)); (try (have q1 := D.out.c 1 rfl; have f1 := D.out.f 1 rfl)); (try clear z0 z1 z2); (try (have z0 := gz0 _ D.out.gm; have z1 := gz1 _ D.out.gm; have z2 := gz2 _ D.out.gm))
    refine norm_ (by simp only [putAll, Act.put, List.setIfInBounds_toArray, List.set_cons_zero, List.set_cons_succ, i64_w, i32_w]; rfl) ?_
    refine one_ (i := 16) (N := none) #[true, true, true, true, true, true, true, true, true, true, true, true, true, true, true, true, true, false] rfl rfl (by kernel_rfl) (by decide) (fun K hK => ?_)
    refine skM ?_
    intro w1 hD
    clear D; simp only [List.set_cons_zero, List.set_cons_succ, List.setIfInBounds_toArray] at hD; have D := Aside0.mk hD; clear hD; (try clear q0 f0); (try clear q1 f1); (try (have q0 := D.out.c 0 rfl; have f0 := D.out.f 0 rfl)); (try (have q1 := D.out.c 1 rfl; have f1 := D.out.f 1 rfl)); (try clear z0 z1 z2); (try (have z0 := gz0 _ D.out.gm; have z1 := gz1 _ D.out.gm; have z2 := gz2 _ D.out.gm))
    refine hK.out _ _ (hs _ _ D.out.tail.tail) (fun _ => ?_)
    clear hK K
    refine one_ (i := 17) (N := none) #[true, true, true, true, true, true, true, true, true, true, true, true, true, true, true, true, true, true] rfl rfl (by kernel_rfl) (by decide) (fun K hK => ?_)
    refine skM ?_
    intro w1 hD
    clear D; simp only [List.set_cons_zero, List.set_cons_succ, List.setIfInBounds_toArray] at hD; have D := Aside0.mk hD; clear hD; (try clear q0 f0); (try clear q1 f1); (try (have q0 := D.out.c 0 rfl; have f0 := D.out.f 0 rfl)); (try (have q1 := D.out.c 1 rfl; have f1 := D.out.f 1 rfl)); (try clear z0 z1 z2); (try (have z0 := gz0 _ D.out.gm; have z1 := gz1 _ D.out.gm; have z2 := gz2 _ D.out.gm))
    refine hK.out _ _ (hs _ _ D.out.tail.tail) (fun _ => ?_)
    clear hK K
    refine done_ (by kernel_rfl) ?_
    go_wp2
    refine CS.rgM (n := 6) #[false, false, false, false, false, false] D.out (fun _ _ h => And.intro (h.c 1 rfl 0) (And.intro (h.c 1 rfl 1) (And.intro (h.c 1 rfl 2) (And.intro (h.c 1 rfl 3) (And.intro (h.c 0 rfl 0) (And.intro (h.c 0 rfl 1) (And.intro (h.c 0 rfl 2) (h.c 0 rfl 3)))))))) ?_
    intro hs w7 hD
    clear D; have D := Aside0.mk hD; clear hD; (try clear q0 f0); (try clear q1 f1); (try (have q0 := D.out.c 0 rfl; have f0 := D.out.f 0 rfl)); (try (have q1 := D.out.c 1 rfl; have f1 := D.out.f 1 rfl)); (try clear z0 z1 z2); (try (have z0 := gz0 _ D.out.gm; have z1 := gz1 _ D.out.gm; have z2 := gz2 _ D.out.gm))
    refine tG 0 (some 55) #[true, false, false, false, false, false] (hs _ _ D.out) ?_
    refine tG 2 (some 57) #[true, false, true, false, false, false] (hs _ _ D.out) ?_
    refine one_ (i := 1) (N := some 56) #[true, true, true, false, false, false] rfl rfl (by kernel_rfl) (by decide) (fun K hK => ?_)
    refine goes_ Try.func26 (by kernel_rfl) rfl #[.agg #[.int .i64 t0, .int .i64 t1, .int .i64 t2, .int .i64 t3]] (wn_ rfl) rfl rfl (by (try simp only [List.map_toArray, List.map_cons, List.map_nil]); first | done | (go_simp; done) | rfl | (go_simp; rfl)) ?_
    refine Calls.mono (CS.viaR (F := fun v => v) D.out (impl_Term_parts.calls k _ _ _ _ _ _ HP.out)) ?_
    rintro e wq ⟨Ap, cp, rfl, hD⟩
    refine ⟨_, rfl, ?_⟩
    clear D; have D := Aside0.mk hD; clear hD; (try clear q0 f0); (try clear q1 f1); (try (have q0 := D.out.c 0 rfl; have f0 := D.out.f 0 rfl)); (try (have q1 := D.out.c 1 rfl; have f1 := D.out.f 1 rfl)); (try clear z0 z1 z2); (try (have z0 := gz0 _ D.out.gm; have z1 := gz1 _ D.out.gm; have z2 := gz2 _ D.out.gm))
    refine hK.out _ _ (hs _ _ D.out.nor) (fun _ => ?_)
    clear hK K
    refine norm_ (by simp only [putAll, Act.put, List.setIfInBounds_toArray, List.set_cons_zero, List.set_cons_succ, i64_w, i32_w]; rfl) ?_
    refine one_ (i := 3) (N := some 58) #[true, true, true, true, false, false] rfl rfl (by kernel_rfl) (by decide) (fun K hK => ?_)
    refine goes_ Try.func26 (by kernel_rfl) rfl #[.agg #[.int .i64 u0, .int .i64 u1, .int .i64 u2, .int .i64 u3]] (wn_ rfl) rfl rfl (by (try simp only [List.map_toArray, List.map_cons, List.map_nil]); first | done | (go_simp; done) | rfl | (go_simp; rfl)) ?_
    refine Calls.mono (CS.viaR (F := fun v => v) D.out (impl_Term_parts.calls k _ _ _ _ _ _ HQ.out)) ?_
    rintro e wq ⟨Aq, cq, rfl, hD⟩
    refine ⟨_, rfl, ?_⟩
    clear D; have D := Aside0.mk hD; clear hD; (try clear q0 f0); (try clear q1 f1); (try (have q0 := D.out.c 0 rfl; have f0 := D.out.f 0 rfl)); (try (have q1 := D.out.c 1 rfl; have f1 := D.out.f 1 rfl)); (try clear z0 z1 z2); (try (have z0 := gz0 _ D.out.gm; have z1 := gz1 _ D.out.gm; have z2 := gz2 _ D.out.gm))
    refine hK.out _ _ (hs _ _ D.out.nor) (fun _ => ?_)
    clear hK K
    refine norm_ (by simp only [putAll, Act.put, List.setIfInBounds_toArray, List.set_cons_zero, List.set_cons_succ, i64_w, i32_w]; rfl) ?_
    refine tG 4 (some 12) #[true, true, true, true, true, false] (hs _ _ D.out.nor) ?_
    refine tG 5 (some 13) #[true, true, true, true, true, true] (hs _ _ D.out.nor) ?_
    refine done_ (by kernel_rfl) ?_
    go_wp2
    clear q0 f0 q1 f1 z0 z1 z2
    go_loopg [11, 14, 102] ps.length (fun gg s11 _ s102 wr => ∃ (kk : Nat) (M1 : Mm) (it : Bool), kk ≤ ps.length ∧ ps.length - kk ≤ gg ∧ s11 = .bool it ∧ s102 = .int .i64 kk ∧ Aside0 (CS w (Gm mb M1 w) none [(b7, #[.int .i64 u0, .int .i64 u1, .int .i64 u2, .int .i64 u3], 34), (b6, #[.int .i64 t0, .int .i64 t1, .int .i64 t2, .int .i64 t3], 34)] [fun ok W' => Kd.R (Kd.int .i64) 2 W' w.heap.size ok (.slice Aq qs.length cq) qs, fun ok W' => Kd.R (Kd.int .i64) 2 W' w.heap.size ok (.slice Ap ps.length cp) ps] wr) ∧ Aside0 (impl_same_terms.loop (impl_same_terms.f k l0 l1) M1 it (ps.drop kk) (qs.drop kk) = some (is, M2)))
    case atStart => exact ⟨0, M, true, Nat.zero_le _, by omega, rfl, rfl, ⟨by first | exact D.out | exact D.out.drew | exact D.out.drewN _⟩, ⟨by rw [List.drop_zero, List.drop_zero]; exact HL.out⟩⟩
    case round =>
      clear D HL
      obtain ⟨kk, M1, it, hkk, hg, rfl, rfl, D, A⟩ := hrel
      by_cases hlt : kk < ps.length
      · have hmp := (Kd.R_reads' (D.out.row 1 rfl)).2.2.2.1
        obtain ⟨hqt, hA⟩ := impl_same_terms.loop_cons kk hlt A.out
        clear A
        obtain ⟨ap, ea, _⟩ := row_at (D.out.row 1 rfl) kk hlt
        obtain ⟨aq, eb, _⟩ := row_at (D.out.row 0 rfl) kk hqt
        subst ea eb
        have n0 : 0 ≤ (kk : Int) := by omega
        have n1 := eq_true n0
        have n2 : ((kk : Int) < (ps.length : Int)) = True := eq_true (by omega)
        have n3 : ((kk : Int) < (qs.length : Int)) = True := eq_true (by omega)
        have n4 := eq_true hlt
        have n5 := eq_true hqt
        rcases hA with ⟨rfl, r1, M5, k1, k2⟩ | ⟨rfl, k2⟩
        · have G1 := Aside0.mk k1
          clear k1
          go_wp2
          refine CS.rgM (n := 14) #[false, false, false, false, false, false, false, false, false, false, false, false, false, false] D.out (fun _ _ h => And.intro (row_cell (h.row 1 rfl) kk hlt) (row_cell (h.row 0 rfl) kk hqt)) ?_
          intro hs w13 hD
          clear D; have D := Aside0.mk hD; clear hD; (try clear q0 f0); (try clear q1 f1); (try (have q0 := D.out.c 0 rfl; have f0 := D.out.f 0 rfl)); (try (have q1 := D.out.c 1 rfl; have f1 := D.out.f 1 rfl)); (try clear z0 z1 z2); (try (have z0 := gz0 _ D.out.gm; have z1 := gz1 _ D.out.gm; have z2 := gz2 _ D.out.gm))
          refine tG 0 (some 105) #[true, false, false, false, false, false, false, false, false, false, false, false, false, false] (hs _ _ D.out) ?_
          refine tG 1 (some 106) #[true, true, false, false, false, false, false, false, false, false, false, false, false, false] (hs _ _ D.out) ?_
          refine tG 2 (some 107) #[true, true, true, false, false, false, false, false, false, false, false, false, false, false] (hs _ _ D.out) ?_
          refine tG 3 (some 108) #[true, true, true, true, false, false, false, false, false, false, false, false, false, false] (hs _ _ D.out) ?_
          refine tG 4 (some 109) #[true, true, true, true, true, false, false, false, false, false, false, false, false, false] (hs _ _ D.out) ?_
          refine tG 5 (some 110) #[true, true, true, true, true, true, false, false, false, false, false, false, false, false] (hs _ _ D.out) ?_
          refine tG 6 (some 111) #[true, true, true, true, true, true, true, false, false, false, false, false, false, false] (hs _ _ D.out) ?_
          refine tG 7 (some 112) #[true, true, true, true, true, true, true, true, false, false, false, false, false, false] (hs _ _ D.out) ?_
          refine tG 8 (some 113) #[true, true, true, true, true, true, true, true, true, false, false, false, false, false] (hs _ _ D.out) ?_
          refine tG 9 (some 114) #[true, true, true, true, true, true, true, true, true, true, false, false, false, false] (hs _ _ D.out) ?_
          refine tG 10 (some 115) #[true, true, true, true, true, true, true, true, true, true, true, false, false, false] (hs _ _ D.out) ?_
          refine one_ (i := 11) (N := some 116) #[true, true, true, true, true, true, true, true, true, true, true, true, false, false] rfl rfl (by kernel_rfl) (by decide) (fun K hK => ?_)
          refine goes_ Try.func13 (by kernel_rfl) rfl #[.pointer (some ⟨sb, 0, none⟩), .int .i64 ps[kk], .int .i64 qs[kk]] (by rfl) rfl rfl (by (try simp only [List.map_toArray, List.map_cons, List.map_nil]); first | done | (go_simp; done) | rfl | (go_simp; rfl)) ?_
          refine Calls.mono (CS.viaM D.out (IH.out _ _ _ _ _ _ G1.out D.out.gm D.out.mp)) ?_
          rintro e wq ⟨rfl, hD⟩
          refine ⟨_, rfl, ?_⟩
          clear D; have D := Aside0.mk hD; clear hD; (try clear q0 f0); (try clear q1 f1); (try (have q0 := D.out.c 0 rfl; have f0 := D.out.f 0 rfl)); (try (have q1 := D.out.c 1 rfl; have f1 := D.out.f 1 rfl)); (try clear z0 z1 z2); (try (have z0 := gz0 _ D.out.gm; have z1 := gz1 _ D.out.gm; have z2 := gz2 _ D.out.gm))
          refine hK.out _ _ (hs _ _ D.out) (fun _ => ?_)
          clear hK K
          refine norm_ (by simp only [putAll, Act.put, List.setIfInBounds_toArray, List.set_cons_zero, List.set_cons_succ, i64_w, i32_w]; rfl) ?_
          refine tG 12 (some 117) #[true, true, true, true, true, true, true, true, true, true, true, true, true, false] (hs _ _ D.out) ?_
          refine tG 13 (some 11) #[true, true, true, true, true, true, true, true, true, true, true, true, true, true] (hs _ _ D.out) ?_
          refine done_ (by kernel_rfl) ?_
          go_wp2
          go_roundg (ps.length - (kk + 1))
          case measure => omega
          case rel => exact ⟨kk + 1, _, _, by omega, by omega, rfl, by go_num, ⟨by first | exact D.out | exact D.out.drew | exact D.out.drewN _⟩, ⟨k2⟩⟩
        · go_wp2
          refine CS.rgM (n := 14) #[false, false, false, false, false, false, false, false, false, false, false, false, false, false] D.out (fun _ _ h => And.intro (row_cell (h.row 1 rfl) kk hlt) (row_cell (h.row 0 rfl) kk hqt)) ?_
          intro hs w13 hD
          clear D; have D := Aside0.mk hD; clear hD; (try clear q0 f0); (try clear q1 f1); (try (have q0 := D.out.c 0 rfl; have f0 := D.out.f 0 rfl)); (try (have q1 := D.out.c 1 rfl; have f1 := D.out.f 1 rfl)); (try clear z0 z1 z2); (try (have z0 := gz0 _ D.out.gm; have z1 := gz1 _ D.out.gm; have z2 := gz2 _ D.out.gm))
          refine tG 0 (some 105) #[true, false, false, false, false, false, false, false, false, false, false, false, false, false] (hs _ _ D.out) ?_
          refine tG 1 (some 106) #[true, true, false, false, false, false, false, false, false, false, false, false, false, false] (hs _ _ D.out) ?_
          refine uG 2 (some 107) #[true, true, true, false, false, false, false, false, false, false, false, false, false, false] ?_
          refine uG 3 (some 108) #[true, true, true, true, false, false, false, false, false, false, false, false, false, false] ?_
          refine uG 4 (some 109) #[true, true, true, true, true, false, false, false, false, false, false, false, false, false] ?_
          refine uG 5 (some 110) #[true, true, true, true, true, true, false, false, false, false, false, false, false, false] ?_
          refine uG 6 (some 111) #[true, true, true, true, true, true, true, false, false, false, false, false, false, false] ?_
          refine uG 7 (some 112) #[true, true, true, true, true, true, true, true, false, false, false, false, false, false] ?_
          refine uG 8 (some 113) #[true, true, true, true, true, true, true, true, true, false, false, false, false, false] ?_
          refine uG 9 (some 114) #[true, true, true, true, true, true, true, true, true, true, false, false, false, false] ?_
          refine uG 10 (some 115) #[true, true, true, true, true, true, true, true, true, true, true, false, false, false] ?_
          refine uG 11 (some 116) #[true, true, true, true, true, true, true, true, true, true, true, true, false, false] ?_
          refine tG 12 (some 117) #[true, true, true, true, true, true, true, true, true, true, true, true, true, false] (hs _ _ D.out) ?_
          refine tG 13 (some 11) #[true, true, true, true, true, true, true, true, true, true, true, true, true, true] (hs _ _ D.out) ?_
          refine done_ (by kernel_rfl) ?_
          go_wp2
          go_roundg (ps.length - (kk + 1))
          case measure => omega
          case rel => exact ⟨kk + 1, _, _, by omega, by omega, rfl, by go_num, ⟨by first | exact D.out | exact D.out.drew | exact D.out.drewN _⟩, ⟨k2⟩⟩
      · have hke : kk = ps.length := by omega
        subst hke
        have A2 := A.out
        rw [List.drop_length, impl_same_terms.loop] at A2
        clear A
        simp only [Option.some.injEq, Prod.mk.injEq] at A2
        obtain ⟨rfl, rfl⟩ := A2
        have n4 : (ps.length < ps.length) = False := eq_false (Nat.lt_irrefl _)
        have z0 := gz0 _ D.out.gm
        have z1 := gz1 _ D.out.gm
        have z2 := gz2 _ D.out.gm
        go_wp2_with (first
          | ((with_reducible refine gate_mu rfl ?_); refine ev_upd x y it D.out ox.out oy.out HLEN.out ?_; intro wq hD; clear D; have D := Aside0.mk hD; clear hD; (try clear q0 f0); (try clear q1 f1); (try (have q0 := D.out.c 0 rfl; have f0 := D.out.f 0 rfl)); (try (have q1 := D.out.c 1 rfl; have f1 := D.out.f 1 rfl)); (try clear z0 z1 z2); (try (have z0 := gz0 _ D.out.gm; have z1 := gz1 _ D.out.gm; have z2 := gz2 _ D.out.gm))))
        go_ret
        exact ⟨rfl, D.out.mp, D.out.gm⟩

/-! ### impl_SameTerms: function 7 (my own text) -/
def impl_SameTerms.f (k : Nat) (l0 : List S34) (x : Int) (l1 : List S34) (y : Int) : Option Bool := (impl_placesFault.f l0 [x]).bind fun c => if c = 0 then (impl_placesFault.f l1 [y]).bind fun d => if d = 0 then (impl_same_terms.f k l0 l1 [] x y).bind fun r => some r.1 else some false else some false
theorem impl_SameTerms.mono : ∀ (l0 : List S34) (x : Int) (l1 : List S34) (y : Int) (k : Nat), LeO (impl_SameTerms.f k l0 x l1 y) (impl_SameTerms.f (k + 1) l0 x l1 y) := fun l0 x l1 y k => LeO.bind (LeO.refl _) fun _ => LeO.ite (LeO.bind (LeO.refl _) fun _ => LeO.ite (LeO.bind (impl_same_terms.mono _ _ _ _ _ k) fun _ => LeO.refl _) (LeO.refl _)) (LeO.refl _)
set_option maxHeartbeats 8000000 in
set_option maxRecDepth 100000 in
theorem impl_SameTerms.calls (k : Nat) (A0 : Option Addr) (c0 : Nat) (l0 : List S34) (x : Int) (A1 : Option Addr) (c1 : Nat) (l1 : List S34) (y : Int) (r : Bool) (w : World) (hr0 : Kd.C k34 w A0 l0.length l0) (hc0 : l0.length ≤ c0) (hr1 : Kd.C k34 w A1 l1.length l1) (hc1 : l1.length ≤ c1) (h : impl_SameTerms.f k l0 x l1 y = some r) :
    Calls Try.prog 7 #[.slice A0 l0.length c0, .int .i64 x, .slice A1 l1.length c1, .int .i64 y] w fun e w' => e = .returned (.bool r) ∧ Below w.heap.size w w' := by
  have hu41 := Try.underlying41
  have hmm := @run_makeMap Try.prog
  have hm0 : l0.length ≤ 9223372036854775807 := hr0.2.1
  have hm1 : l1.length ≤ 9223372036854775807 := hr1.2.1
  have HR0 := Aside0.mk hr0
  have HC0 := Aside0.mk hc0
  have HR1 := Aside0.mk hr1
  have HC1 := Aside0.mk hc1
  have D := Aside0.mk (CS.startB w)
  have H := h
  clear h hr0 hc0 hr1 hc1
  unfold impl_SameTerms.f at H
  obtain ⟨c, hc, H⟩ := Option.bind_eq_some_iff.mp H
  have HX := Aside0.mk hc
  clear hc
  rcases ifE H with ⟨m0, n0, H⟩ | ⟨m0, n0, H⟩
  case inr =>
    obtain rfl := Option.some.inj H
    go_enter Try.func7, Try.ntmps7
    go_wp2_with (first
      | ((with_reducible refine gate_lit rfl ?_); refine ev_lit (cs := #[.int .i64 x]) (t := 2) ?_; intro bx _ hD; clear D; have D := Aside0.mk hD; clear hD; (try clear q0 f0); (try (have q0 := D.out.c 0 rfl; have f0 := D.out.f 0 rfl)))
      | (go_at_call 12; refine Calls.mono (CS.via D.out (impl_placesFault.calls _ _ l0 _ _ [x] _ _ (Kd.C_below HR0.out D.out.bel) HC0.out (D.out.litC (xs := [x]) rfl (by simp)) (by simp) HX.out)) ?_; rintro e wq ⟨rfl, hD⟩; clear D; have D := Aside0.mk hD; clear hD; (try clear q0 f0); (try (have q0 := D.out.c 0 rfl; have f0 := D.out.f 0 rfl)); refine Hd.out ?_))
    refine hd_ ?_
    go_wp2
    go_ret
    exact ⟨rfl, D.out.bel⟩
  obtain ⟨d, hd, H⟩ := Option.bind_eq_some_iff.mp H
  have HY := Aside0.mk hd
  clear hd
  rcases ifE H with ⟨m1, n1, H⟩ | ⟨m1, n1, H⟩
  case inr =>
    obtain rfl := Option.some.inj H
    go_enter Try.func7, Try.ntmps7
    go_wp2_with (first
      | ((with_reducible refine gate_lit rfl ?_); refine ev_lit (cs := #[.int .i64 x]) (t := 2) ?_; intro bx _ hD; clear D; have D := Aside0.mk hD; clear hD; (try clear q0 f0); (try (have q0 := D.out.c 0 rfl; have f0 := D.out.f 0 rfl)))
      | (go_at_call 12; refine Calls.mono (CS.via D.out (impl_placesFault.calls _ _ l0 _ _ [x] _ _ (Kd.C_below HR0.out D.out.bel) HC0.out (D.out.litC (xs := [x]) rfl (by simp)) (by simp) HX.out)) ?_; rintro e wq ⟨rfl, hD⟩; clear D; have D := Aside0.mk hD; clear hD; (try clear q0 f0); (try (have q0 := D.out.c 0 rfl; have f0 := D.out.f 0 rfl)); refine Hd.out ?_))
    refine hd_ ?_
    go_wp2_with (first
      | ((with_reducible refine gate_lit rfl ?_); refine ev_lit (cs := #[.int .i64 y]) (t := 2) ?_; intro bx _ hD; clear D; have D := Aside0.mk hD; clear hD; (try clear q0 f0); (try (have q0 := D.out.c 0 rfl; have f0 := D.out.f 0 rfl)))
      | (go_at_call 12; have hD2 := CS.box (b := wq.heap.size) (cs := #[.int .i64 y]) (t := 2) D.out rfl (blk_new wq _) (below_alloc (Below.refl _ _) _); refine Calls.mono (CS.via hD2 (impl_placesFault.calls _ _ l1 _ _ [y] _ _ (Kd.C_below HR1.out hD2.bel) HC1.out (hD2.litC (xs := [y]) rfl (by simp)) (by simp) HY.out)) ?_; clear hD2; rintro e wq ⟨rfl, hD⟩; clear D; have D := Aside0.mk hD; clear hD; (try clear q0 f0); (try (have q0 := D.out.c 0 rfl; have f0 := D.out.f 0 rfl)); refine Hd.out ?_))
    refine hd_ ?_
    go_wp2
    go_ret
    exact ⟨rfl, D.out.bel⟩
  obtain ⟨⟨r1, M'⟩, hz, H⟩ := Option.bind_eq_some_iff.mp H
  obtain rfl := Option.some.inj H
  have HZ := Aside0.mk hz
  clear hz H
  go_enter Try.func7, Try.ntmps7
  go_wp2_with (first
    | ((with_reducible refine gate_lit rfl ?_); refine ev_lit (cs := #[.int .i64 x]) (t := 2) ?_; intro bx _ hD; clear D; have D := Aside0.mk hD; clear hD; (try clear q0 f0); (try (have q0 := D.out.c 0 rfl; have f0 := D.out.f 0 rfl)))
    | (go_at_call 12; refine Calls.mono (CS.via D.out (impl_placesFault.calls _ _ l0 _ _ [x] _ _ (Kd.C_below HR0.out D.out.bel) HC0.out (D.out.litC (xs := [x]) rfl (by simp)) (by simp) HX.out)) ?_; rintro e wq ⟨rfl, hD⟩; clear D; have D := Aside0.mk hD; clear hD; (try clear q0 f0); (try (have q0 := D.out.c 0 rfl; have f0 := D.out.f 0 rfl)); refine Hd.out ?_))
  refine hd_ ?_
  go_wp2_with (first
    | ((with_reducible refine gate_lit rfl ?_); refine ev_lit (cs := #[.int .i64 y]) (t := 2) ?_; intro bx _ hD; clear D; have D := Aside0.mk hD; clear hD; (try clear q0 f0); (try (have q0 := D.out.c 0 rfl; have f0 := D.out.f 0 rfl)))
    | (go_at_call 12; have hD2 := CS.box (b := wq.heap.size) (cs := #[.int .i64 y]) (t := 2) D.out rfl (blk_new wq _) (below_alloc (Below.refl _ _) _); refine Calls.mono (CS.via hD2 (impl_placesFault.calls _ _ l1 _ _ [y] _ _ (Kd.C_below HR1.out hD2.bel) HC1.out (hD2.litC (xs := [y]) rfl (by simp)) (by simp) HY.out)) ?_; clear hD2; rintro e wq ⟨rfl, hD⟩; clear D; have D := Aside0.mk hD; clear hD; (try clear q0 f0); (try (have q0 := D.out.c 0 rfl; have f0 := D.out.f 0 rfl)); refine Hd.out ?_))
  refine hd_ ?_
  go_wp2_with (first
    | (go_at_call 13; refine Calls.mono (impl_same_terms.calls k _ _ l0 _ _ l1 _ _ [] x y _ _ _ (Kd.C_below HR0.out (by repeat (first | exact D.out.bel | apply below_alloc | apply pw_below_drewN | apply below_drew1))) HC0.out (Kd.C_below HR1.out (by repeat (first | exact D.out.bel | apply below_alloc | apply pw_below_drewN | apply below_drew1))) HC1.out (blk_new2 _ _ _) ((MapIs.made _).below (below_alloc (Below.refl _ _) _)) HZ.out) ?_; rintro e w2 ⟨rfl, hmp, hgr⟩; have HB2 : Aside0 (Below w.heap.size w w2) := ⟨pw_below_grown (by repeat (first | exact D.out.bel | apply below_alloc)) _ (Nat.le_trans D.out.bel.size (below_alloc (below_alloc (Below.refl _ _) _) _).size) hgr (by intro kq e; cases e; exact D.out.bel.size)⟩))
  go_ret
  exact ⟨rfl, HB2.out⟩

/-! ### laws_eqTerm: function 14 -/
def laws_eqTerm.f (a0_0 : Int) (a0_1 : Int) (a0_2 : Int) (a0_3 : Int) (a1_0 : Int) (a1_1 : Int) (a1_2 : Int) (a1_3 : Int) : Option (Bool) := if a0_0 = a1_0 then (if a0_1 = a1_1 then (if a0_2 = a1_2 then (if a0_3 = a1_3 then (some true) else (some false)) else (some false)) else (some false)) else (some false)
set_option maxHeartbeats 8000000 in
set_option maxRecDepth 100000 in
theorem laws_eqTerm.calls (a0_0 : Int) (a0_1 : Int) (a0_2 : Int) (a0_3 : Int) (a1_0 : Int) (a1_1 : Int) (a1_2 : Int) (a1_3 : Int) (r : Bool) (w : World) (h : laws_eqTerm.f a0_0 a0_1 a0_2 a0_3 a1_0 a1_1 a1_2 a1_3 = some r) :
  Calls Try.prog 14 #[.agg #[.int .i64 a0_0, .int .i64 a0_1, .int .i64 a0_2, .int .i64 a0_3], .agg #[.int .i64 a1_0, .int .i64 a1_1, .int .i64 a1_2, .int .i64 a1_3]] w fun e w' => e = .returned (.bool r) ∧ Below w.heap.size w w' := by
 have hu34 := Try.underlying34
 have HB := Aside0.mk (Below.refl w.heap.size w)
 have H : (if a0_0 = a1_0 then (if a0_1 = a1_1 then (if a0_2 = a1_2 then (if a0_3 = a1_3 then (some true) else (some false)) else (some false)) else (some false)) else (some false)) = some r := h
 clear h
 by_cases c3 : a0_0 = a1_0
 ·
  rw [if_pos c3] at H
  have c3b0 : (a0_0 == a1_0) = true := beq_iff_eq.mpr c3
  have c3b1 : (a0_0 != a1_0) = false := bne_eq_false_iff_eq.mpr c3
  clear c3
  by_cases c4 : a0_1 = a1_1
  ·
   rw [if_pos c4] at H
   have c4b0 : (a0_1 == a1_1) = true := beq_iff_eq.mpr c4
   have c4b1 : (a0_1 != a1_1) = false := bne_eq_false_iff_eq.mpr c4
   clear c4
   by_cases c5 : a0_2 = a1_2
   ·
    rw [if_pos c5] at H
    have c5b0 : (a0_2 == a1_2) = true := beq_iff_eq.mpr c5
    have c5b1 : (a0_2 != a1_2) = false := bne_eq_false_iff_eq.mpr c5
    clear c5
    by_cases c6 : a0_3 = a1_3
    ·
     rw [if_pos c6] at H
     have c6b0 : (a0_3 == a1_3) = true := beq_iff_eq.mpr c6
     have c6b1 : (a0_3 != a1_3) = false := bne_eq_false_iff_eq.mpr c6
     clear c6
     obtain rfl := Option.some.inj H
     go_enter Try.func14, Try.ntmps14
     go_wp2_with (first | ((with_reducible refine gate_dst (N := 2) rfl ?_); refine box_event ?hg (N := 2) ?hd (cs := #[.int .i64 a0_0, .int .i64 a0_1, .int .i64 a0_2, .int .i64 a0_3]) (t := 34) ?hr ?_; (case hd => rfl); (case hg => rfl); (case hr => first | (go_simp; done) | (go_simp; rfl)); intro gb254 hg w7 hbox hb; have n0_ := Aside0.mk (below_step (by repeat (first | (with_reducible first | exact HB.out | apply below_alloc | apply pw_below_drewN | apply below_drew1) | exact HB.out)) hb); have n1_ := Aside0.mk (hbox); have n2_ := Aside0.mk ((by rw [hg]; exact (below_size (by repeat (first | (with_reducible first | exact HB.out | apply below_alloc | apply pw_below_drewN | apply below_drew1) | exact HB.out))) : w.heap.size ≤ gb254)); have n3_ := Aside0.mk ((by rw [hg]; exact (below_size (by repeat (first | (with_reducible first | exact HB.out | apply below_alloc | apply pw_below_drewN | apply below_drew1) | exact HB.out))) : w.heap.size ≤ gb254)); clear HB; have HB := n0_; have BK254 := n1_; have GW254 := n2_; have GE254 := n3_; clear n0_ n1_ n2_ n3_; clear hb hbox hg) | ((with_reducible refine gate_dst (N := 3) rfl ?_); refine box_event ?hg (N := 3) ?hd (cs := #[.int .i64 a1_0, .int .i64 a1_1, .int .i64 a1_2, .int .i64 a1_3]) (t := 34) ?hr ?_; (case hd => rfl); (case hg => rfl); (case hr => first | (go_simp; done) | (go_simp; rfl)); intro gb255 hg w8 hbox hb; have n0_ := Aside0.mk (blk_below_u BK254.out hb); have n1_ := Aside0.mk (below_step (by repeat (first | (with_reducible first | exact HB.out | apply below_alloc | apply pw_below_drewN | apply below_drew1 | refine below_set ?_ GE254.out) | exact HB.out)) hb); have n2_ := Aside0.mk (hbox); have n3_ := Aside0.mk ((by rw [hg]; exact (below_size (by repeat (first | (with_reducible first | exact HB.out | apply below_alloc | apply pw_below_drewN | apply below_drew1 | refine below_set ?_ GE254.out) | exact HB.out))) : w.heap.size ≤ gb255)); have n4_ := Aside0.mk ((by rw [hg]; exact (below_size (by repeat (first | (with_reducible first | exact HB.out | apply below_alloc | apply pw_below_drewN | apply below_drew1 | refine below_set ?_ GE254.out) | exact HB.out))) : w.heap.size ≤ gb255)); have n5_ := Aside0.mk ((by rw [hg]; exact Nat.ne_of_lt (blk_lt_u BK254.out) : gb254 ≠ gb255)); have n6_ := Aside0.mk ((by rw [hg]; exact Nat.ne_of_gt (blk_lt_u BK254.out) : gb255 ≠ gb254)); clear BK254; clear HB; have BK254 := n0_; have HB := n1_; have BK255 := n2_; have GW255 := n3_; have GE255 := n4_; have NB254_255 := n5_; have NB255_254 := n6_; clear n0_ n1_ n2_ n3_ n4_ n5_ n6_; clear hb hbox hg; have hnb9 := NB254_255.out; have hnc9 := NB255_254.out; obtain ⟨hcz10_0, hcz10_1, hcz10_2, hcz10_3⟩ := blk_c4 BK254.out; obtain ⟨hfz10_0, hfz10_1, hfz10_2, hfz10_3⟩ := blk_f4 BK254.out; obtain ⟨hcz11_0, hcz11_1, hcz11_2, hcz11_3⟩ := blk_c4 BK255.out; obtain ⟨hfz11_0, hfz11_1, hfz11_2, hfz11_3⟩ := blk_f4 BK255.out))
     go_ret
     exact ⟨by first | rfl | (simp [errW_none, errW_some] <;> rfl) | (simp [*, errW_none, errW_some] <;> rfl), by repeat (first | (with_reducible first | exact HB.out | apply below_alloc | apply pw_below_drewN | apply below_drew1 | refine below_set ?_ GE254.out | refine below_set ?_ GE255.out) | exact HB.out)⟩
    ·
     rw [if_neg c6] at H
     have c6b0 : (a0_3 == a1_3) = false := beq_eq_false_iff_ne.mpr c6
     have c6b1 : (a0_3 != a1_3) = true := bne_iff_ne.mpr c6
     obtain rfl := Option.some.inj H
     go_enter Try.func14, Try.ntmps14
     go_wp2_with (first | ((with_reducible refine gate_dst (N := 2) rfl ?_); refine box_event ?hg (N := 2) ?hd (cs := #[.int .i64 a0_0, .int .i64 a0_1, .int .i64 a0_2, .int .i64 a0_3]) (t := 34) ?hr ?_; (case hd => rfl); (case hg => rfl); (case hr => first | (go_simp; done) | (go_simp; rfl)); intro gb254 hg w12 hbox hb; have n0_ := Aside0.mk (below_step (by repeat (first | (with_reducible first | exact HB.out | apply below_alloc | apply pw_below_drewN | apply below_drew1) | exact HB.out)) hb); have n1_ := Aside0.mk (hbox); have n2_ := Aside0.mk ((by rw [hg]; exact (below_size (by repeat (first | (with_reducible first | exact HB.out | apply below_alloc | apply pw_below_drewN | apply below_drew1) | exact HB.out))) : w.heap.size ≤ gb254)); have n3_ := Aside0.mk ((by rw [hg]; exact (below_size (by repeat (first | (with_reducible first | exact HB.out | apply below_alloc | apply pw_below_drewN | apply below_drew1) | exact HB.out))) : w.heap.size ≤ gb254)); clear HB; have HB := n0_; have BK254 := n1_; have GW254 := n2_; have GE254 := n3_; clear n0_ n1_ n2_ n3_; clear hb hbox hg) | ((with_reducible refine gate_dst (N := 3) rfl ?_); refine box_event ?hg (N := 3) ?hd (cs := #[.int .i64 a1_0, .int .i64 a1_1, .int .i64 a1_2, .int .i64 a1_3]) (t := 34) ?hr ?_; (case hd => rfl); (case hg => rfl); (case hr => first | (go_simp; done) | (go_simp; rfl)); intro gb255 hg w13 hbox hb; have n0_ := Aside0.mk (blk_below_u BK254.out hb); have n1_ := Aside0.mk (below_step (by repeat (first | (with_reducible first | exact HB.out | apply below_alloc | apply pw_below_drewN | apply below_drew1 | refine below_set ?_ GE254.out) | exact HB.out)) hb); have n2_ := Aside0.mk (hbox); have n3_ := Aside0.mk ((by rw [hg]; exact (below_size (by repeat (first | (with_reducible first | exact HB.out | apply below_alloc | apply pw_below_drewN | apply below_drew1 | refine below_set ?_ GE254.out) | exact HB.out))) : w.heap.size ≤ gb255)); have n4_ := Aside0.mk ((by rw [hg]; exact (below_size (by repeat (first | (with_reducible first | exact HB.out | apply below_alloc | apply pw_below_drewN | apply below_drew1 | refine below_set ?_ GE254.out) | exact HB.out))) : w.heap.size ≤ gb255)); have n5_ := Aside0.mk ((by rw [hg]; exact Nat.ne_of_lt (blk_lt_u BK254.out) : gb254 ≠ gb255)); have n6_ := Aside0.mk ((by rw [hg]; exact Nat.ne_of_gt (blk_lt_u BK254.out) : gb255 ≠ gb254)); clear BK254; clear HB; have BK254 := n0_; have HB := n1_; have BK255 := n2_; have GW255 := n3_; have GE255 := n4_; have NB254_255 := n5_; have NB255_254 := n6_; clear n0_ n1_ n2_ n3_ n4_ n5_ n6_; clear hb hbox hg; have hnb14 := NB254_255.out; have hnc14 := NB255_254.out; obtain ⟨hcz15_0, hcz15_1, hcz15_2, hcz15_3⟩ := blk_c4 BK254.out; obtain ⟨hfz15_0, hfz15_1, hfz15_2, hfz15_3⟩ := blk_f4 BK254.out; obtain ⟨hcz16_0, hcz16_1, hcz16_2, hcz16_3⟩ := blk_c4 BK255.out; obtain ⟨hfz16_0, hfz16_1, hfz16_2, hfz16_3⟩ := blk_f4 BK255.out))
     go_ret
     exact ⟨by first | rfl | (simp [errW_none, errW_some] <;> rfl) | (simp [*, errW_none, errW_some] <;> rfl), by repeat (first | (with_reducible first | exact HB.out | apply below_alloc | apply pw_below_drewN | apply below_drew1 | refine below_set ?_ GE254.out | refine below_set ?_ GE255.out) | exact HB.out)⟩
   ·
    rw [if_neg c5] at H
    have c5b0 : (a0_2 == a1_2) = false := beq_eq_false_iff_ne.mpr c5
    have c5b1 : (a0_2 != a1_2) = true := bne_iff_ne.mpr c5
    obtain rfl := Option.some.inj H
    go_enter Try.func14, Try.ntmps14
    go_wp2_with (first | ((with_reducible refine gate_dst (N := 2) rfl ?_); refine box_event ?hg (N := 2) ?hd (cs := #[.int .i64 a0_0, .int .i64 a0_1, .int .i64 a0_2, .int .i64 a0_3]) (t := 34) ?hr ?_; (case hd => rfl); (case hg => rfl); (case hr => first | (go_simp; done) | (go_simp; rfl)); intro gb254 hg w17 hbox hb; have n0_ := Aside0.mk (below_step (by repeat (first | (with_reducible first | exact HB.out | apply below_alloc | apply pw_below_drewN | apply below_drew1) | exact HB.out)) hb); have n1_ := Aside0.mk (hbox); have n2_ := Aside0.mk ((by rw [hg]; exact (below_size (by repeat (first | (with_reducible first | exact HB.out | apply below_alloc | apply pw_below_drewN | apply below_drew1) | exact HB.out))) : w.heap.size ≤ gb254)); have n3_ := Aside0.mk ((by rw [hg]; exact (below_size (by repeat (first | (with_reducible first | exact HB.out | apply below_alloc | apply pw_below_drewN | apply below_drew1) | exact HB.out))) : w.heap.size ≤ gb254)); clear HB; have HB := n0_; have BK254 := n1_; have GW254 := n2_; have GE254 := n3_; clear n0_ n1_ n2_ n3_; clear hb hbox hg) | ((with_reducible refine gate_dst (N := 3) rfl ?_); refine box_event ?hg (N := 3) ?hd (cs := #[.int .i64 a1_0, .int .i64 a1_1, .int .i64 a1_2, .int .i64 a1_3]) (t := 34) ?hr ?_; (case hd => rfl); (case hg => rfl); (case hr => first | (go_simp; done) | (go_simp; rfl)); intro gb255 hg w18 hbox hb; have n0_ := Aside0.mk (blk_below_u BK254.out hb); have n1_ := Aside0.mk (below_step (by repeat (first | (with_reducible first | exact HB.out | apply below_alloc | apply pw_below_drewN | apply below_drew1 | refine below_set ?_ GE254.out) | exact HB.out)) hb); have n2_ := Aside0.mk (hbox); have n3_ := Aside0.mk ((by rw [hg]; exact (below_size (by repeat (first | (with_reducible first | exact HB.out | apply below_alloc | apply pw_below_drewN | apply below_drew1 | refine below_set ?_ GE254.out) | exact HB.out))) : w.heap.size ≤ gb255)); have n4_ := Aside0.mk ((by rw [hg]; exact (below_size (by repeat (first | (with_reducible first | exact HB.out | apply below_alloc | apply pw_below_drewN | apply below_drew1 | refine below_set ?_ GE254.out) | exact HB.out))) : w.heap.size ≤ gb255)); have n5_ := Aside0.mk ((by rw [hg]; exact Nat.ne_of_lt (blk_lt_u BK254.out) : gb254 ≠ gb255)); have n6_ := Aside0.mk ((by rw [hg]; exact Nat.ne_of_gt (blk_lt_u BK254.out) : gb255 ≠ gb254)); clear BK254; clear HB; have BK254 := n0_; have HB := n1_; have BK255 := n2_; have GW255 := n3_; have GE255 := n4_; have NB254_255 := n5_; have NB255_254 := n6_; clear n0_ n1_ n2_ n3_ n4_ n5_ n6_; clear hb hbox hg; have hnb19 := NB254_255.out; have hnc19 := NB255_254.out; obtain ⟨hcz20_0, hcz20_1, hcz20_2, hcz20_3⟩ := blk_c4 BK254.out; obtain ⟨hfz20_0, hfz20_1, hfz20_2, hfz20_3⟩ := blk_f4 BK254.out; obtain ⟨hcz21_0, hcz21_1, hcz21_2, hcz21_3⟩ := blk_c4 BK255.out; obtain ⟨hfz21_0, hfz21_1, hfz21_2, hfz21_3⟩ := blk_f4 BK255.out))
    go_ret
    exact ⟨by first | rfl | (simp [errW_none, errW_some] <;> rfl) | (simp [*, errW_none, errW_some] <;> rfl), by repeat (first | (with_reducible first | exact HB.out | apply below_alloc | apply pw_below_drewN | apply below_drew1 | refine below_set ?_ GE254.out | refine below_set ?_ GE255.out) | exact HB.out)⟩
  ·
   rw [if_neg c4] at H
   have c4b0 : (a0_1 == a1_1) = false := beq_eq_false_iff_ne.mpr c4
   have c4b1 : (a0_1 != a1_1) = true := bne_iff_ne.mpr c4
   obtain rfl := Option.some.inj H
   go_enter Try.func14, Try.ntmps14
   go_wp2_with (first | ((with_reducible refine gate_dst (N := 2) rfl ?_); refine box_event ?hg (N := 2) ?hd (cs := #[.int .i64 a0_0, .int .i64 a0_1, .int .i64 a0_2, .int .i64 a0_3]) (t := 34) ?hr ?_; (case hd => rfl); (case hg => rfl); (case hr => first | (go_simp; done) | (go_simp; rfl)); intro gb254 hg w22 hbox hb; have n0_ := Aside0.mk (below_step (by repeat (first | (with_reducible first | exact HB.out | apply below_alloc | apply pw_below_drewN | apply below_drew1) | exact HB.out)) hb); have n1_ := Aside0.mk (hbox); have n2_ := Aside0.mk ((by rw [hg]; exact (below_size (by repeat (first | (with_reducible first | exact HB.out | apply below_alloc | apply pw_below_drewN | apply below_drew1) | exact HB.out))) : w.heap.size ≤ gb254)); have n3_ := Aside0.mk ((by rw [hg]; exact (below_size (by repeat (first | (with_reducible first | exact HB.out | apply below_alloc | apply pw_below_drewN | apply below_drew1) | exact HB.out))) : w.heap.size ≤ gb254)); clear HB; have HB := n0_; have BK254 := n1_; have GW254 := n2_; have GE254 := n3_; clear n0_ n1_ n2_ n3_; clear hb hbox hg) | ((with_reducible refine gate_dst (N := 3) rfl ?_); refine box_event ?hg (N := 3) ?hd (cs := #[.int .i64 a1_0, .int .i64 a1_1, .int .i64 a1_2, .int .i64 a1_3]) (t := 34) ?hr ?_; (case hd => rfl); (case hg => rfl); (case hr => first | (go_simp; done) | (go_simp; rfl)); intro gb255 hg w23 hbox hb; have n0_ := Aside0.mk (blk_below_u BK254.out hb); have n1_ := Aside0.mk (below_step (by repeat (first | (with_reducible first | exact HB.out | apply below_alloc | apply pw_below_drewN | apply below_drew1 | refine below_set ?_ GE254.out) | exact HB.out)) hb); have n2_ := Aside0.mk (hbox); have n3_ := Aside0.mk ((by rw [hg]; exact (below_size (by repeat (first | (with_reducible first | exact HB.out | apply below_alloc | apply pw_below_drewN | apply below_drew1 | refine below_set ?_ GE254.out) | exact HB.out))) : w.heap.size ≤ gb255)); have n4_ := Aside0.mk ((by rw [hg]; exact (below_size (by repeat (first | (with_reducible first | exact HB.out | apply below_alloc | apply pw_below_drewN | apply below_drew1 | refine below_set ?_ GE254.out) | exact HB.out))) : w.heap.size ≤ gb255)); have n5_ := Aside0.mk ((by rw [hg]; exact Nat.ne_of_lt (blk_lt_u BK254.out) : gb254 ≠ gb255)); have n6_ := Aside0.mk ((by rw [hg]; exact Nat.ne_of_gt (blk_lt_u BK254.out) : gb255 ≠ gb254)); clear BK254; clear HB; have BK254 := n0_; have HB := n1_; have BK255 := n2_; have GW255 := n3_; have GE255 := n4_; have NB254_255 := n5_; have NB255_254 := n6_; clear n0_ n1_ n2_ n3_ n4_ n5_ n6_; clear hb hbox hg; have hnb24 := NB254_255.out; have hnc24 := NB255_254.out; obtain ⟨hcz25_0, hcz25_1, hcz25_2, hcz25_3⟩ := blk_c4 BK254.out; obtain ⟨hfz25_0, hfz25_1, hfz25_2, hfz25_3⟩ := blk_f4 BK254.out; obtain ⟨hcz26_0, hcz26_1, hcz26_2, hcz26_3⟩ := blk_c4 BK255.out; obtain ⟨hfz26_0, hfz26_1, hfz26_2, hfz26_3⟩ := blk_f4 BK255.out))
   go_ret
   exact ⟨by first | rfl | (simp [errW_none, errW_some] <;> rfl) | (simp [*, errW_none, errW_some] <;> rfl), by repeat (first | (with_reducible first | exact HB.out | apply below_alloc | apply pw_below_drewN | apply below_drew1 | refine below_set ?_ GE254.out | refine below_set ?_ GE255.out) | exact HB.out)⟩
 ·
  rw [if_neg c3] at H
  have c3b0 : (a0_0 == a1_0) = false := beq_eq_false_iff_ne.mpr c3
  have c3b1 : (a0_0 != a1_0) = true := bne_iff_ne.mpr c3
  obtain rfl := Option.some.inj H
  go_enter Try.func14, Try.ntmps14
  go_wp2_with (first | ((with_reducible refine gate_dst (N := 2) rfl ?_); refine box_event ?hg (N := 2) ?hd (cs := #[.int .i64 a0_0, .int .i64 a0_1, .int .i64 a0_2, .int .i64 a0_3]) (t := 34) ?hr ?_; (case hd => rfl); (case hg => rfl); (case hr => first | (go_simp; done) | (go_simp; rfl)); intro gb254 hg w27 hbox hb; have n0_ := Aside0.mk (below_step (by repeat (first | (with_reducible first | exact HB.out | apply below_alloc | apply pw_below_drewN | apply below_drew1) | exact HB.out)) hb); have n1_ := Aside0.mk (hbox); have n2_ := Aside0.mk ((by rw [hg]; exact (below_size (by repeat (first | (with_reducible first | exact HB.out | apply below_alloc | apply pw_below_drewN | apply below_drew1) | exact HB.out))) : w.heap.size ≤ gb254)); have n3_ := Aside0.mk ((by rw [hg]; exact (below_size (by repeat (first | (with_reducible first | exact HB.out | apply below_alloc | apply pw_below_drewN | apply below_drew1) | exact HB.out))) : w.heap.size ≤ gb254)); clear HB; have HB := n0_; have BK254 := n1_; have GW254 := n2_; have GE254 := n3_; clear n0_ n1_ n2_ n3_; clear hb hbox hg) | ((with_reducible refine gate_dst (N := 3) rfl ?_); refine box_event ?hg (N := 3) ?hd (cs := #[.int .i64 a1_0, .int .i64 a1_1, .int .i64 a1_2, .int .i64 a1_3]) (t := 34) ?hr ?_; (case hd => rfl); (case hg => rfl); (case hr => first | (go_simp; done) | (go_simp; rfl)); intro gb255 hg w28 hbox hb; have n0_ := Aside0.mk (blk_below_u BK254.out hb); have n1_ := Aside0.mk (below_step (by repeat (first | (with_reducible first | exact HB.out | apply below_alloc | apply pw_below_drewN | apply below_drew1 | refine below_set ?_ GE254.out) | exact HB.out)) hb); have n2_ := Aside0.mk (hbox); have n3_ := Aside0.mk ((by rw [hg]; exact (below_size (by repeat (first | (with_reducible first | exact HB.out | apply below_alloc | apply pw_below_drewN | apply below_drew1 | refine below_set ?_ GE254.out) | exact HB.out))) : w.heap.size ≤ gb255)); have n4_ := Aside0.mk ((by rw [hg]; exact (below_size (by repeat (first | (with_reducible first | exact HB.out | apply below_alloc | apply pw_below_drewN | apply below_drew1 | refine below_set ?_ GE254.out) | exact HB.out))) : w.heap.size ≤ gb255)); have n5_ := Aside0.mk ((by rw [hg]; exact Nat.ne_of_lt (blk_lt_u BK254.out) : gb254 ≠ gb255)); have n6_ := Aside0.mk ((by rw [hg]; exact Nat.ne_of_gt (blk_lt_u BK254.out) : gb255 ≠ gb254)); clear BK254; clear HB; have BK254 := n0_; have HB := n1_; have BK255 := n2_; have GW255 := n3_; have GE255 := n4_; have NB254_255 := n5_; have NB255_254 := n6_; clear n0_ n1_ n2_ n3_ n4_ n5_ n6_; clear hb hbox hg; have hnb29 := NB254_255.out; have hnc29 := NB255_254.out; obtain ⟨hcz30_0, hcz30_1, hcz30_2, hcz30_3⟩ := blk_c4 BK254.out; obtain ⟨hfz30_0, hfz30_1, hfz30_2, hfz30_3⟩ := blk_f4 BK254.out; obtain ⟨hcz31_0, hcz31_1, hcz31_2, hcz31_3⟩ := blk_c4 BK255.out; obtain ⟨hfz31_0, hfz31_1, hfz31_2, hfz31_3⟩ := blk_f4 BK255.out))
  go_ret
  exact ⟨by first | rfl | (simp [errW_none, errW_some] <;> rfl) | (simp [*, errW_none, errW_some] <;> rfl), by repeat (first | (with_reducible first | exact HB.out | apply below_alloc | apply pw_below_drewN | apply below_drew1 | refine below_set ?_ GE254.out | refine below_set ?_ GE255.out) | exact HB.out)⟩

end Go.Proofs.Ytofaojdkpbheoaa.PFnExactSameTerms
