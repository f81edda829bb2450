/- Proved: the law FnExactSamePacket answers true at every input that Go can hand in (it says: The program's SamePacket returns what the reference's returns, for all arguments.) No condition beyond the statement's own. -/
import Derived.Test.YtfggalllhcohaaaStFnExactSamePacket
namespace Go.Proofs.Ytfggalllhcohaaa.Pure
open Go.RowKit Go.Proofs.Ytfggalllhcohaaa.PFnExactSamePacket Go.Proofs.YtfggalllhcohaaaW.PrintWords Go.Proofs.YtfggalllhcohaaaW.PrintLast Go.Proofs.YtfggalllhcohaaaW.PrintMore
set_option linter.unusedVariables false
set_option linter.unusedSimpArgs false

theorem w64 {x : Int} (h0 : -9223372036854775808 ≤ x) (h1 : x ≤ 9223372036854775807) : wrap64 x = x := by
  unfold wrap64
  omega
theorem tmod_pos {a b : Int} (h : 0 ≤ a) : Int.tmod a b = a % b := Int.tmod_eq_emod_of_nonneg h
theorem tdiv_pos {a b : Int} (h : 0 ≤ a) : Int.tdiv a b = a / b := Int.tdiv_eq_ediv_of_nonneg h
theorem ev_some {α : Type} (r : α) : Ev (fun _ => some r) r := Ev.now r
theorem ev_pos {α : Type} {c : Prop} [Decidable c] {A B : Nat → Option α} {r : α} (h : c) (e : Ev A r) : Ev (fun k => if c then A k else B k) r := by
  simpa only [if_pos h] using e
theorem ev_neg {α : Type} {c : Prop} [Decidable c] {A B : Nat → Option α} {r : α} (h : ¬ c) (e : Ev B r) : Ev (fun k => if c then A k else B k) r := by
  simpa only [if_neg h] using e
theorem ev_opt {α β : Type} {o : Option α} {f : Nat → α → Option β} {a : α} {r : β} (h : o = some a) (e : Ev (fun n => f n a) r) : Ev (fun n => o.bind (f n)) r := by
  simpa only [h, Option.bind_some] using e
theorem ev_to {α : Type} {g : Nat → Option α} {r r' : α} (e : Ev g r) (h : r = r') : Ev g r' := h ▸ e
theorem ev_fix {α : Type} {o : Option α} {r : α} (h : o = some r) : Ev (fun _ => o) r := ⟨0, fun _ _ => h⟩
theorem rd_nat (l : List Int) (i : Nat) (h : i < l.length) : rd l (i : Int) = l[i] := by
  unfold rd
  simp [List.getD_eq_getElem?_getD, h]
theorem rd_mem (l : List Int) (i : Int) (h0 : 0 ≤ i) (h : i < l.length) : rd l i ∈ l := by
  obtain ⟨n, rfl⟩ := Int.eq_ofNat_of_zero_le h0
  rw [rd_nat l n (by omega)]
  exact List.getElem_mem _
theorem u8_range {x : Int} (h : (Lit.int .u8 x).wf = true) : 0 ≤ x ∧ x ≤ 255 := by
  simp [Lit.wf, IntKind.min, IntKind.max, IntKind.signed, IntKind.bits] at h
  omega
theorem i64_range {x : Int} (h : (Lit.int .i64 x).wf = true) : -9223372036854775808 ≤ x ∧ x ≤ 9223372036854775807 := by
  simp [Lit.wf, IntKind.min, IntKind.max, IntKind.signed, IntKind.bits] at h
  omega
theorem set_mid {α : Type} (a : List α) (x : α) (b : List α) (y : α) : (a ++ x :: b).set a.length y = a ++ y :: b := by simp
theorem take_full {α : Type} {a b : List α} (hl : b.length = a.length) (ht : b.take a.length = a.take a.length) : b = a := by
  rw [List.take_of_length_le (by omega), List.take_of_length_le (by omega)] at ht
  exact ht
theorem take_next {α : Type} {a b : List α} {i : Nat} (ha : i < a.length) (hb : i < b.length) (ht : b.take i = a.take i) (hx : b[i] = a[i]) : b.take (i + 1) = a.take (i + 1) := by
  rw [List.take_succ_eq_append_getElem ha, List.take_succ_eq_append_getElem hb, ht, hx]
theorem ev_cond {α : Type} {c : Prop} [Decidable c] {A B : Nat → Option α} {r r' : α} (hp : c → Ev A r) (hn : ¬ c → Ev B r') : Ev (fun k => if c then A k else B k) (if c then r else r') := by
  by_cases h : c
  · rw [if_pos h]; exact ev_pos h (hp h)
  · rw [if_neg h]; exact ev_neg h (hn h)
theorem set_take {α : Type} {a b : List α} {i : Nat} {x : α} (h : i < a.length) (hl : b.length = a.length) (ht : b.take i = a.take i) (hx : x = a[i]) : (b.set i x).take (i + 1) = a.take (i + 1) := by
  refine take_next h (by simp; omega) ?_ (by simp [hx])
  rw [← ht]
  apply List.ext_getElem?
  intro j
  simp only [List.getElem?_take, List.getElem?_set]
  by_cases hj : j < i
  · rw [if_pos hj, if_pos hj, if_neg (by omega)]
  · rw [if_neg hj, if_neg hj]
theorem ev_succ {α : Type} {g : Nat → Option α} {r : α} (h : ∀ k, g (k + 1) = some r) : Ev g r := Ev.step h (ev_some r)
theorem down {P : Nat → Prop} (n : Nat) (hend : P n) (hstep : ∀ i, i < n → P (i + 1) → P i) : ∀ i, i ≤ n → P i := by
  intro i hi
  obtain ⟨d, hd⟩ : ∃ d, i + d = n := ⟨n - i, by omega⟩
  induction d generalizing i with
  | zero =>
    obtain rfl : i = n := by omega
    exact hend
  | succ d ih => exact hstep i (by omega) (ih (i + 1) (by omega) (by omega))
theorem getD_nat {α : Type} (l : List α) (z : α) (i : Nat) (h : i < l.length) : l.getD (i : Int).toNat z = l[i] := by
  simp [List.getD_eq_getElem?_getD, h]
/-- A loop that writes the image of each element into its place. -/
theorem map_loop {α β : Type} (F : Nat → List β → Int → Option (List β)) (l : List α) (c : α → β)
    (hend : ∀ k (b : List β), F (k + 1) b l.length = some b) (hstep : ∀ k (b : List β) (i : Nat) (h : i < l.length), b.length = l.length → F (k + 1) b i = F k (b.set i (c l[i])) ((i + 1 : Nat) : Int)) :
    ∀ (b : List β), b.length = l.length → Ev (fun k => F k b 0) (l.map c) := by
  have key : ∀ (i : Nat), i ≤ l.length → ∀ (b : List β), b.length = l.length → b.take i = (l.map c).take i → Ev (fun k => F k b i) (l.map c) := by
    refine down l.length ?_ ?_
    · intro b hl ht
      refine Ev.step (fun k => hend k b) ?_
      rw [take_full (a := l.map c) (b := b) (by simpa using hl) (by simpa using ht)]
      exact ev_some _
    · intro i hi ih b hl ht
      refine Ev.step (fun k => hstep k b i hi hl) (ih _ (by simpa using hl) ?_)
      exact set_take (by simpa using hi) (by simpa using hl) ht (by simp)
  intro b hl
  exact key 0 (by omega) b hl (by simp)
/-- A loop that goes through all places and answers r. -/
theorem count_loop {ρ : Type} (F : Nat → Int → Option ρ) (n : Nat) (r : ρ) (hend : ∀ k, F (k + 1) n = some r) (hstep : ∀ k (i : Nat), i < n → F (k + 1) i = F k ((i + 1 : Nat) : Int)) : Ev (fun k => F k 0) r := by
  have key : ∀ i, i ≤ n → Ev (fun k => F k (i : Nat)) r := down n (Ev.step hend (ev_some r)) (fun i hi ih => Ev.step (fun k => hstep k i hi) ih)
  exact key 0 (by omega)

theorem q_szPacket (a b c d e f : Int) {l : List Int} (h : l.length ≤ 1048576) : laws_szPacket.f a b c d e f l 1048576 = some (1048576 - (l.length : Int)) := by
  unfold laws_szPacket.f laws_szByteS.f
  rw [w64 (by omega) (by omega), if_neg (by omega), Option.bind_some, if_neg (by omega)]
theorem q_szPacket_big (a b c d e f : Int) {l : List Int} (h : ¬ l.length ≤ 1048576) (hm : l.length ≤ maxLen) : laws_szPacket.f a b c d e f l 1048576 = some (-1) := by
  unfold laws_szPacket.f laws_szByteS.f
  unfold maxLen at hm
  rw [w64 (by omega) (by omega), if_pos (by omega), Option.bind_some, if_pos (by omega)]

theorem q_szPacketAt (a b c d e f : Int) {l : List Int} {t : Int} (ht : 0 ≤ t ∧ t ≤ 1048576) (h : (l.length : Int) ≤ t) : laws_szPacket.f a b c d e f l t = some (t - (l.length : Int)) := by
  unfold laws_szPacket.f laws_szByteS.f
  rw [w64 (by omega) (by omega), if_neg (by omega), Option.bind_some, if_neg (by omega)]
theorem q_szPacketAt_big (a b c d e f : Int) {l : List Int} {t : Int} (ht : 0 ≤ t ∧ t ≤ 1048576) (h : ¬ (l.length : Int) ≤ t) (hm : l.length ≤ maxLen) : laws_szPacket.f a b c d e f l t = some (-1) := by
  unfold laws_szPacket.f laws_szByteS.f
  unfold maxLen at hm
  rw [w64 (by omega) (by omega), if_pos (by omega), Option.bind_some, if_pos (by omega)]

theorem ev_toByteS_loop (a : List Int) (hn : a.length ≤ 140737488355328) : ∀ (d i : Nat) (b : List Int), i + d = a.length → b.length = a.length → b.take i = a.take i → Ev (fun k => laws_toByteS.l0 k a b i) a := by
  intro d
  induction d with
  | zero =>
    intro i b hi hl ht
    refine Ev.step (fun k => by rw [laws_toByteS.l0, if_neg (by omega)]) ?_
    obtain rfl : i = a.length := by omega
    rw [take_full hl ht]
    exact ev_some a
  | succ d ih =>
    intro i b hi hl ht
    refine Ev.step (fun k => by rw [laws_toByteS.l0, if_pos (by omega), if_pos (by omega), if_pos (by omega)]) ?_
    rw [w64 (by omega) (by omega), Int.toNat_natCast]
    exact ih (i + 1) _ (by omega) (by simpa using hl) (set_take (by omega) hl ht (rd_nat a i (by omega)))
theorem ev_toByteS {a : List Int} (hn : a.length ≤ 140737488355328) : Ev (fun k => laws_toByteS.f k a) a := by
  unfold laws_toByteS.f
  refine ev_pos (by omega) (ev_pos (by omega) ?_)
  exact ev_toByteS_loop a hn a.length 0 _ (by omega) (by simp) (by simp)

theorem ev_toPacket (a b c d e f : Int) {l : List Int} (h : l.length ≤ 1048576) : Ev (fun k => laws_toPacket.f k a b c d e f l) (a, b, c, d, e, f, l) := by
  unfold laws_toPacket.f
  exact Ev.bind (ev_toByteS (by omega)) (ev_some _)

theorem ev_eqByteS_loop (a b : List Int) (hn : a.length ≤ 140737488355328) (hl : b.length = a.length) : ∀ (d i : Nat), i + d = a.length → b.take i = a.take i → Ev (fun k => laws_eqByteS.l0 k a b i) (decide (a = b)) := by
  intro d
  induction d with
  | zero =>
    intro i hi ht
    refine Ev.step (fun k => by rw [laws_eqByteS.l0, if_neg (by omega)]) ?_
    obtain rfl : i = a.length := by omega
    rw [take_full hl ht]
    simpa using ev_some true
  | succ d ih =>
    intro i hi ht
    by_cases he : rd a i = rd b i
    · refine Ev.step (fun k => by rw [laws_eqByteS.l0, if_pos (by omega), if_pos (by omega), if_pos (by omega), if_pos he]) ?_
      rw [w64 (by omega) (by omega)]
      rw [rd_nat a i (by omega), rd_nat b i (by omega)] at he
      exact ih (i + 1) (by omega) (take_next (by omega) (by omega) ht he.symm)
    · refine Ev.step (fun k => by rw [laws_eqByteS.l0, if_pos (by omega), if_pos (by omega), if_pos (by omega), if_neg he]) ?_
      have : a ≠ b := fun h => he (by rw [h])
      simpa [this] using ev_some false
theorem ev_eqByteS {a b : List Int} (hn : a.length ≤ 140737488355328) : Ev (fun k => laws_eqByteS.f k a b) (decide (a = b)) := by
  unfold laws_eqByteS.f
  by_cases h : (a.length : Int) = b.length
  · exact ev_pos h (ev_eqByteS_loop a b hn (by omega) a.length 0 (by omega) (by simp))
  · refine ev_neg h ?_
    have : a ≠ b := fun h' => h (by rw [h'])
    simpa [this] using ev_some false
theorem ev_eqByteS_refl {a : List Int} (hn : a.length ≤ 140737488355328) : Ev (fun k => laws_eqByteS.f k a a) true := by
  simpa using ev_eqByteS (b := a) hn

theorem ev_eqPacket (a b c d e f : Int) {l : List Int} (h : l.length ≤ 1048576) : Ev (fun k => laws_eqPacket.f k a b c d e f l a b c d e f l) true := by
  unfold laws_eqPacket.f
  refine ev_pos rfl (ev_pos rfl (ev_pos rfl (ev_pos rfl (ev_pos rfl (ev_pos rfl ?_)))))
  exact Ev.bind (ev_eqByteS_refl (by omega)) (ev_pos rfl (ev_some _))

theorem q_impl_SamePacket (a b c d e f : Int) (l : List Int) (a' b' c' d' e' f' : Int) (l' : List Int) : impl_SamePacket.f a b c d e f l a' b' c' d' e' f' l' = spec_SamePacket.f a b c d e f l a' b' c' d' e' f' l' := rfl
theorem spec_SamePacket_some (a b c d e f : Int) (l : List Int) (a' b' c' d' e' f' : Int) (l' : List Int) : ∃ r, spec_SamePacket.f a b c d e f l a' b' c' d' e' f' l' = some r := by
  unfold spec_SamePacket.f
  repeat' split
  all_goals exact ⟨_, rfl⟩
theorem FnExactSamePacket : laws_FnExactSamePacket.Pure := by
  intro a b c d e f l a' b' c' d' e' f' l'
  intro _ _ _ _ _ _ hm _ _ _ _ _ _ _ hm' _
  apply Ev.rounds
  unfold laws_FnExactSamePacket.f
  simp only [q_impl_SamePacket]
  by_cases h : l.length ≤ 1048576
  · refine ev_opt (q_szPacket a b c d e f h) (ev_neg (by omega) ?_)
    by_cases h' : (l'.length : Int) ≤ 1048576 - (l.length : Int)
    · have hy : l'.length ≤ 1048576 := by omega
      obtain ⟨r, hr⟩ := spec_SamePacket_some a b c d e f l a' b' c' d' e' f' l'
      refine ev_opt (q_szPacketAt a' b' c' d' e' f' (by omega) h') (ev_neg (by omega) ?_)
      refine Ev.bind (ev_toPacket a b c d e f h) (Ev.bind (ev_toPacket a' b' c' d' e' f' hy) (ev_opt hr ?_))
      refine Ev.bind (ev_toPacket a b c d e f h) (Ev.bind (ev_toPacket a' b' c' d' e' f' hy) (ev_opt hr (ev_neg (by simp) ?_)))
      refine Ev.bind (ev_toPacket a b c d e f h) (Ev.bind (ev_eqPacket a b c d e f h) (ev_pos rfl ?_))
      exact Ev.bind (ev_toPacket a' b' c' d' e' f' hy) (Ev.bind (ev_eqPacket a' b' c' d' e' f' hy) (ev_pos rfl (ev_some _)))
    · exact ev_opt (q_szPacketAt_big a' b' c' d' e' f' (by omega) h' hm') (ev_pos (by omega) (ev_some _))
  · exact ev_opt (q_szPacket_big a b c d e f h hm) (ev_pos (by omega) (ev_some _))

end Go.Proofs.Ytfggalllhcohaaa.Pure
