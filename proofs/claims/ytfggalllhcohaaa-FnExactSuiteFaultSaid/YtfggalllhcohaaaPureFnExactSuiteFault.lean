/- Proved: the law FnExactSuiteFault answers true at every input that Go can hand in (it says: The program's SuiteFault returns what the reference's returns, for all arguments.) No condition beyond the statement's own. -/
import Derived.Test.YtfggalllhcohaaaStFnExactSuiteFault
namespace Go.Proofs.Ytfggalllhcohaaa.Pure
open Go.RowKit Go.Proofs.Ytfggalllhcohaaa.PFnExactSuiteFault Go.Proofs.YtfggalllhcohaaaW.PrintWords Go.Proofs.YtfggalllhcohaaaW.PrintLast Go.Proofs.YtfggalllhcohaaaW.PrintMore
set_option linter.unusedVariables false
set_option linter.unusedSimpArgs false

theorem w64 {x : Int} (h0 : -9223372036854775808 ≤ x) (h1 : x ≤ 9223372036854775807) : wrap64 x = x := by
  unfold wrap64
  omega
theorem tmod_pos {a b : Int} (h : 0 ≤ a) : Int.tmod a b = a % b := Int.tmod_eq_emod_of_nonneg h
theorem tdiv_pos {a b : Int} (h : 0 ≤ a) : Int.tdiv a b = a / b := Int.tdiv_eq_ediv_of_nonneg h
theorem ev_some {α : Type} (r : α) : Ev (fun _ => some r) r := Ev.now r
theorem ev_pos {α : Type} {c : Prop} [Decidable c] {A B : Nat → Option α} {r : α} (h : c) (e : Ev A r) : Ev (fun k => if c then A k else B k) r := by
  simpa only [if_pos h] using e
theorem ev_neg {α : Type} {c : Prop} [Decidable c] {A B : Nat → Option α} {r : α} (h : ¬ c) (e : Ev B r) : Ev (fun k => if c then A k else B k) r := by
  simpa only [if_neg h] using e
theorem ev_opt {α β : Type} {o : Option α} {f : Nat → α → Option β} {a : α} {r : β} (h : o = some a) (e : Ev (fun n => f n a) r) : Ev (fun n => o.bind (f n)) r := by
  simpa only [h, Option.bind_some] using e
theorem ev_to {α : Type} {g : Nat → Option α} {r r' : α} (e : Ev g r) (h : r = r') : Ev g r' := h ▸ e
theorem ev_fix {α : Type} {o : Option α} {r : α} (h : o = some r) : Ev (fun _ => o) r := ⟨0, fun _ _ => h⟩
theorem rd_nat (l : List Int) (i : Nat) (h : i < l.length) : rd l (i : Int) = l[i] := by
  unfold rd
  simp [List.getD_eq_getElem?_getD, h]
theorem rd_mem (l : List Int) (i : Int) (h0 : 0 ≤ i) (h : i < l.length) : rd l i ∈ l := by
  obtain ⟨n, rfl⟩ := Int.eq_ofNat_of_zero_le h0
  rw [rd_nat l n (by omega)]
  exact List.getElem_mem _
theorem u8_range {x : Int} (h : (Lit.int .u8 x).wf = true) : 0 ≤ x ∧ x ≤ 255 := by
  simp [Lit.wf, IntKind.min, IntKind.max, IntKind.signed, IntKind.bits] at h
  omega
theorem i64_range {x : Int} (h : (Lit.int .i64 x).wf = true) : -9223372036854775808 ≤ x ∧ x ≤ 9223372036854775807 := by
  simp [Lit.wf, IntKind.min, IntKind.max, IntKind.signed, IntKind.bits] at h
  omega
theorem set_mid {α : Type} (a : List α) (x : α) (b : List α) (y : α) : (a ++ x :: b).set a.length y = a ++ y :: b := by simp
theorem take_full {α : Type} {a b : List α} (hl : b.length = a.length) (ht : b.take a.length = a.take a.length) : b = a := by
  rw [List.take_of_length_le (by omega), List.take_of_length_le (by omega)] at ht
  exact ht
theorem take_next {α : Type} {a b : List α} {i : Nat} (ha : i < a.length) (hb : i < b.length) (ht : b.take i = a.take i) (hx : b[i] = a[i]) : b.take (i + 1) = a.take (i + 1) := by
  rw [List.take_succ_eq_append_getElem ha, List.take_succ_eq_append_getElem hb, ht, hx]
theorem ev_cond {α : Type} {c : Prop} [Decidable c] {A B : Nat → Option α} {r r' : α} (hp : c → Ev A r) (hn : ¬ c → Ev B r') : Ev (fun k => if c then A k else B k) (if c then r else r') := by
  by_cases h : c
  · rw [if_pos h]; exact ev_pos h (hp h)
  · rw [if_neg h]; exact ev_neg h (hn h)
theorem set_take {α : Type} {a b : List α} {i : Nat} {x : α} (h : i < a.length) (hl : b.length = a.length) (ht : b.take i = a.take i) (hx : x = a[i]) : (b.set i x).take (i + 1) = a.take (i + 1) := by
  refine take_next h (by simp; omega) ?_ (by simp [hx])
  rw [← ht]
  apply List.ext_getElem?
  intro j
  simp only [List.getElem?_take, List.getElem?_set]
  by_cases hj : j < i
  · rw [if_pos hj, if_pos hj, if_neg (by omega)]
  · rw [if_neg hj, if_neg hj]
theorem ev_succ {α : Type} {g : Nat → Option α} {r : α} (h : ∀ k, g (k + 1) = some r) : Ev g r := Ev.step h (ev_some r)

theorem ev_slices_Index_loop (l : List Int) (x : Int) (hl : l.length ≤ 1000000) : ∀ (d i : Nat), i + d = l.length → (∀ j : Nat, j < i → rd l j ≠ x) → ∃ r, Ev (fun k => slices_Index_int64_int64.l0 k l x l.length i) r ∧ (r ≥ 0 ↔ x ∈ l) := by
  intro d
  induction d with
  | zero =>
    intro i hi hn
    refine ⟨-1, ?_, ?_⟩
    · refine Ev.step (fun k => by rw [slices_Index_int64_int64.l0, if_neg (by omega)]) ?_
      exact ev_some _
    · constructor
      · intro h; omega
      · intro h
        obtain ⟨j, hj, rfl⟩ := List.getElem_of_mem h
        exact absurd (rd_nat l j hj) (hn j (by omega))
  | succ d ih =>
    intro i hi hn
    by_cases h : x = rd l i
    · refine ⟨i, ?_, ?_⟩
      · refine Ev.step (fun k => by rw [slices_Index_int64_int64.l0, if_pos (by omega), if_pos (by omega), if_pos (by omega), if_pos h]) ?_
        exact ev_some _
      · constructor
        · intro _; rw [h]; exact rd_mem l i (by omega) (by omega)
        · intro _; omega
    · obtain ⟨r, hr, hm⟩ := ih (i + 1) (by omega) (fun j hj => by
        rcases Nat.lt_or_ge j i with h1 | h1
        · exact hn j h1
        · obtain rfl : j = i := by omega
          exact fun e => h e.symm)
      refine ⟨r, ?_, hm⟩
      refine Ev.step (fun k => by rw [slices_Index_int64_int64.l0, if_pos (by omega), if_pos (by omega), if_pos (by omega), if_neg h]) ?_
      rw [w64 (by omega) (by omega)]
      exact hr
theorem ev_slices_Contains (l : List Int) (x : Int) (hl : l.length ≤ 1000000) : Ev (fun k => slices_Contains_int64_int64.f k l x) (decide (x ∈ l)) := by
  obtain ⟨r, hr, hm⟩ := ev_slices_Index_loop l x hl l.length 0 (by omega) (fun j hj => by omega)
  refine Ev.bind hr (ev_to (ev_some _) ?_)
  rw [decide_eq_decide]
  exact hm

theorem q_impl_in (a b c : Int) : impl_in.f a b c = some (decide (b ≤ a ∧ a ≤ c)) := by
  unfold impl_in.f
  by_cases h : b ≤ a
  · simp [h]
  · simp [h]

theorem q_spec_l1In (a b c : Int) : spec_l1In.f a b c = some (decide (b ≤ a ∧ a ≤ c)) := by
  unfold spec_l1In.f
  by_cases h : b ≤ a
  · simp [h]
  · simp [h]

def suiteF (c b m g : Int) : Int := if (1 ≤ c ∧ c ≤ 4) ∧ (b = 128 ∨ b = 192 ∨ b = 256) ∧ (1 ≤ m ∧ m ≤ 3) ∧ (1 ≤ g ∧ g ≤ 6) then 0 else 3
theorem q_spec_SuiteFault (c b m g : Int) : spec_SuiteFault.f c b m g = some (suiteF c b m g) := by
  unfold spec_SuiteFault.f suiteF
  simp only [q_spec_l1In, Option.bind_some, decide_eq_true_eq]
  by_cases h1 : 1 ≤ c ∧ c ≤ 4 <;> by_cases h2 : b = 128 <;> by_cases h3 : b = 192 <;> by_cases h4 : b = 256 <;> by_cases h5 : 1 ≤ m ∧ m ≤ 3 <;> by_cases h6 : 1 ≤ g ∧ g ≤ 6 <;> simp [h1, h2, h3, h4, h5, h6]
theorem ev_impl_SuiteFault (c b m g : Int) : Ev (fun k => impl_SuiteFault.f k c b m g) (suiteF c b m g) := by
  unfold impl_SuiteFault.f
  refine Ev.bind (ev_slices_Contains [128, 192, 256] b (by simp)) ?_
  simp only [q_impl_in, Option.bind_some, decide_eq_true_eq, List.mem_cons, List.not_mem_nil, or_false]
  unfold suiteF
  by_cases h1 : 1 ≤ c ∧ c ≤ 4 <;> by_cases h2 : b = 128 ∨ b = 192 ∨ b = 256 <;> by_cases h5 : 1 ≤ m ∧ m ≤ 3 <;> by_cases h6 : 1 ≤ g ∧ g ≤ 6 <;> simp only [h1, h2, h5, h6, if_true, if_false, and_self, and_true, true_and, and_false, false_and] <;> exact ev_some _
theorem FnExactSuiteFault : laws_FnExactSuiteFault.Pure := by
  intro c b m g _ _ _ _
  apply Ev.rounds
  unfold laws_FnExactSuiteFault.f
  simp only [laws_toSuite.f, q_spec_SuiteFault, Option.bind_some]
  exact Ev.bind (ev_impl_SuiteFault c b m g) (ev_pos rfl (ev_some _))

end Go.Proofs.Ytfggalllhcohaaa.Pure
