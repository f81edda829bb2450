/- Proved: the law FnExactTrimPolicy answers true at every input that Go can hand in (it says: The program's TrimPolicy returns what the reference's returns, for all arguments.) No condition beyond the statement's own. -/
import Derived.Test.YteelmjkoncomiaaStFnExactTrimPolicy
namespace Go.Proofs.Yteelmjkoncomiaa.Pure
open Go.RowKit Go.Proofs.Yteelmjkoncomiaa.PFnExactTrimPolicy Go.Proofs.YteelmjkoncomiaaW.PrintWords Go.Proofs.YteelmjkoncomiaaW.PrintLast Go.Proofs.YteelmjkoncomiaaW.PrintMore
set_option linter.unusedVariables false
set_option linter.unusedSimpArgs false

theorem w64 {x : Int} (h0 : -9223372036854775808 ≤ x) (h1 : x ≤ 9223372036854775807) : wrap64 x = x := by
  unfold wrap64
  omega
theorem tmod_pos {a b : Int} (h : 0 ≤ a) : Int.tmod a b = a % b := Int.tmod_eq_emod_of_nonneg h
theorem tdiv_pos {a b : Int} (h : 0 ≤ a) : Int.tdiv a b = a / b := Int.tdiv_eq_ediv_of_nonneg h
theorem ev_some {α : Type} (r : α) : Ev (fun _ => some r) r := Ev.now r
theorem ev_pos {α : Type} {c : Prop} [Decidable c] {A B : Nat → Option α} {r : α} (h : c) (e : Ev A r) : Ev (fun k => if c then A k else B k) r := by
  simpa only [if_pos h] using e
theorem ev_neg {α : Type} {c : Prop} [Decidable c] {A B : Nat → Option α} {r : α} (h : ¬ c) (e : Ev B r) : Ev (fun k => if c then A k else B k) r := by
  simpa only [if_neg h] using e
theorem ev_opt {α β : Type} {o : Option α} {f : Nat → α → Option β} {a : α} {r : β} (h : o = some a) (e : Ev (fun n => f n a) r) : Ev (fun n => o.bind (f n)) r := by
  simpa only [h, Option.bind_some] using e
theorem ev_to {α : Type} {g : Nat → Option α} {r r' : α} (e : Ev g r) (h : r = r') : Ev g r' := h ▸ e
theorem ev_fix {α : Type} {o : Option α} {r : α} (h : o = some r) : Ev (fun _ => o) r := ⟨0, fun _ _ => h⟩
theorem rd_nat (l : List Int) (i : Nat) (h : i < l.length) : rd l (i : Int) = l[i] := by
  unfold rd
  simp [List.getD_eq_getElem?_getD, h]
theorem rd_mem (l : List Int) (i : Int) (h0 : 0 ≤ i) (h : i < l.length) : rd l i ∈ l := by
  obtain ⟨n, rfl⟩ := Int.eq_ofNat_of_zero_le h0
  rw [rd_nat l n (by omega)]
  exact List.getElem_mem _
theorem u8_range {x : Int} (h : (Lit.int .u8 x).wf = true) : 0 ≤ x ∧ x ≤ 255 := by
  simp [Lit.wf, IntKind.min, IntKind.max, IntKind.signed, IntKind.bits] at h
  omega
theorem i64_range {x : Int} (h : (Lit.int .i64 x).wf = true) : -9223372036854775808 ≤ x ∧ x ≤ 9223372036854775807 := by
  simp [Lit.wf, IntKind.min, IntKind.max, IntKind.signed, IntKind.bits] at h
  omega
theorem set_mid {α : Type} (a : List α) (x : α) (b : List α) (y : α) : (a ++ x :: b).set a.length y = a ++ y :: b := by simp
theorem take_full {α : Type} {a b : List α} (hl : b.length = a.length) (ht : b.take a.length = a.take a.length) : b = a := by
  rw [List.take_of_length_le (by omega), List.take_of_length_le (by omega)] at ht
  exact ht
theorem take_next {α : Type} {a b : List α} {i : Nat} (ha : i < a.length) (hb : i < b.length) (ht : b.take i = a.take i) (hx : b[i] = a[i]) : b.take (i + 1) = a.take (i + 1) := by
  rw [List.take_succ_eq_append_getElem ha, List.take_succ_eq_append_getElem hb, ht, hx]
theorem ev_cond {α : Type} {c : Prop} [Decidable c] {A B : Nat → Option α} {r r' : α} (hp : c → Ev A r) (hn : ¬ c → Ev B r') : Ev (fun k => if c then A k else B k) (if c then r else r') := by
  by_cases h : c
  · rw [if_pos h]; exact ev_pos h (hp h)
  · rw [if_neg h]; exact ev_neg h (hn h)
theorem set_take {α : Type} {a b : List α} {i : Nat} {x : α} (h : i < a.length) (hl : b.length = a.length) (ht : b.take i = a.take i) (hx : x = a[i]) : (b.set i x).take (i + 1) = a.take (i + 1) := by
  refine take_next h (by simp; omega) ?_ (by simp [hx])
  rw [← ht]
  apply List.ext_getElem?
  intro j
  simp only [List.getElem?_take, List.getElem?_set]
  by_cases hj : j < i
  · rw [if_pos hj, if_pos hj, if_neg (by omega)]
  · rw [if_neg hj, if_neg hj]
theorem ev_succ {α : Type} {g : Nat → Option α} {r : α} (h : ∀ k, g (k + 1) = some r) : Ev g r := Ev.step h (ev_some r)
theorem down {P : Nat → Prop} (n : Nat) (hend : P n) (hstep : ∀ i, i < n → P (i + 1) → P i) : ∀ i, i ≤ n → P i := by
  intro i hi
  obtain ⟨d, hd⟩ : ∃ d, i + d = n := ⟨n - i, by omega⟩
  induction d generalizing i with
  | zero =>
    obtain rfl : i = n := by omega
    exact hend
  | succ d ih => exact hstep i (by omega) (ih (i + 1) (by omega) (by omega))
theorem getD_nat {α : Type} (l : List α) (z : α) (i : Nat) (h : i < l.length) : l.getD (i : Int).toNat z = l[i] := by
  simp [List.getD_eq_getElem?_getD, h]
/-- A loop that writes the image of each element into its place. -/
theorem map_loop {α β : Type} (F : Nat → List β → Int → Option (List β)) (l : List α) (c : α → β)
    (hend : ∀ k (b : List β), F (k + 1) b l.length = some b) (hstep : ∀ k (b : List β) (i : Nat) (h : i < l.length), b.length = l.length → F (k + 1) b i = F k (b.set i (c l[i])) ((i + 1 : Nat) : Int)) :
    ∀ (b : List β), b.length = l.length → Ev (fun k => F k b 0) (l.map c) := by
  have key : ∀ (i : Nat), i ≤ l.length → ∀ (b : List β), b.length = l.length → b.take i = (l.map c).take i → Ev (fun k => F k b i) (l.map c) := by
    refine down l.length ?_ ?_
    · intro b hl ht
      refine Ev.step (fun k => hend k b) ?_
      rw [take_full (a := l.map c) (b := b) (by simpa using hl) (by simpa using ht)]
      exact ev_some _
    · intro i hi ih b hl ht
      refine Ev.step (fun k => hstep k b i hi hl) (ih _ (by simpa using hl) ?_)
      exact set_take (by simpa using hi) (by simpa using hl) ht (by simp)
  intro b hl
  exact key 0 (by omega) b hl (by simp)
/-- A loop that goes through all places and answers r. -/
theorem count_loop {ρ : Type} (F : Nat → Int → Option ρ) (n : Nat) (r : ρ) (hend : ∀ k, F (k + 1) n = some r) (hstep : ∀ k (i : Nat), i < n → F (k + 1) i = F k ((i + 1 : Nat) : Int)) : Ev (fun k => F k 0) r := by
  have key : ∀ i, i ≤ n → Ev (fun k => F k (i : Nat)) r := down n (Ev.step hend (ev_some r)) (fun i hi ih => Ev.step (fun k => hstep k i hi) ih)
  exact key 0 (by omega)

structure Sl where
  fl : Int
  fh : Int
  tl : Int
  th : Int
  pl : Int
  ph : Int
  ql : Int
  qh : Int
  pr : Int
def rok (lo hi most : Int) : Prop := 0 ≤ lo ∧ lo ≤ hi ∧ hi ≤ most
instance (lo hi most : Int) : Decidable (rok lo hi most) := by unfold rok; infer_instance
def selOk (s : Sl) : Prop := rok s.fl s.fh 4294967295 ∧ rok s.tl s.th 4294967295 ∧ rok s.pl s.ph 65535 ∧ rok s.ql s.qh 65535 ∧ 0 ≤ s.pr ∧ s.pr ≤ 255
instance (s : Sl) : Decidable (selOk s) := by unfold selOk; infer_instance
def hasP (p : Int) : Prop := p = 6 ∨ p = 17
instance (p : Int) : Decidable (hasP p) := by unfold hasP; infer_instance
def selPorts (s : Sl) : Prop := s.pr = 0 ∨ hasP s.pr ∨ (s.pl = 0 ∧ s.ph = 65535 ∧ s.ql = 0 ∧ s.qh = 65535)
instance (s : Sl) : Decidable (selPorts s) := by unfold selPorts; infer_instance
def selF (s : Sl) : Int := if selOk s then (if selPorts s then 0 else 1) else 3

def slOf (x : S52) : Sl := ⟨x.f0.f0, x.f0.f1, x.f1.f0, x.f1.f1, x.f2.f0, x.f2.f1, x.f3.f0, x.f3.f1, x.f4⟩

def rin (al ah bl bh : Int) : Prop := bl ≤ al ∧ ah ≤ bh
instance (al ah bl bh : Int) : Decidable (rin al ah bl bh) := by unfold rin; infer_instance
def withinS (a b : Sl) : Prop := rin a.fl a.fh b.fl b.fh ∧ rin a.tl a.th b.tl b.th ∧ rin a.pl a.ph b.pl b.ph ∧ rin a.ql a.qh b.ql b.qh ∧ (b.pr = 0 ∨ a.pr = b.pr)
instance (a b : Sl) : Decidable (withinS a b) := by unfold withinS; infer_instance

def shR (l : List S96) (y : S96) : Bool := l.any fun x => decide (withinS (slOf y.f0) (slOf x.f0))

def shL : List S96 → List S96 → Int → List Int
  | _, [], _ => []
  | pre, y :: ys, i => (if shR pre y = true then [i] else []) ++ shL (pre ++ [y]) ys (i + 1)
theorem shL_len : ∀ (ys pre : List S96) (i : Int), (shL pre ys i).length ≤ ys.length
  | [], _, _ => by simp [shL]
  | y :: ys, pre, i => by
    have := shL_len ys (pre ++ [y]) (i + 1)
    rw [shL, List.length_append, List.length_cons]
    by_cases h : shR pre y = true
    · rw [if_pos h, List.length_singleton]
      omega
    · rw [if_neg h, List.length_nil]
      omega
theorem take_step {α : Type} (l : List α) (i : Nat) (h : i < l.length) : l.take (i + 1) = l.take i ++ [l[i]] := List.take_succ_eq_append_getElem h

def trL : List S96 → List S96 → List S96
  | _, [] => []
  | pre, y :: ys => (if shR pre y = true then [] else [y]) ++ trL (pre ++ [y]) ys
theorem trL_len : ∀ (ys pre : List S96), (trL pre ys).length ≤ ys.length
  | [], _ => by simp [trL]
  | y :: ys, pre => by
    have := trL_len ys (pre ++ [y])
    rw [trL, List.length_append, List.length_cons]
    by_cases h : shR pre y = true
    · rw [if_pos h, List.length_nil]
      omega
    · rw [if_neg h, List.length_singleton]
      omega
theorem shL_ge : ∀ (ys pre : List S96) (i j : Int), j ∈ shL pre ys i → i ≤ j
  | [], _, _, _, h => absurd h (by simp [shL])
  | y :: ys, pre, i, j, h => by
    rw [shL, List.mem_append] at h
    rcases h with h | h
    · split at h
      · have := List.mem_singleton.mp h
        omega
      · exact absurd h (by simp)
    · have := shL_ge ys _ _ _ h
      omega
theorem shL_mem : ∀ (ys pre : List S96) (i : Int) (m : Nat) (h : m < ys.length), (i + (m : Int) ∈ shL pre ys i) ↔ shR (pre ++ ys.take m) ys[m] = true
  | [], _, _, _, h => absurd h (by simp)
  | y :: ys, pre, i, 0, _ => by
    rw [shL, List.mem_append]
    have hn : ¬ (i + ((0 : Nat) : Int)) ∈ shL (pre ++ [y]) ys (i + 1) := fun e => by
      have := shL_ge _ _ _ _ e
      omega
    by_cases g : shR pre y = true
    · simp [g]
    · simp [g]
      simpa using hn
  | y :: ys, pre, i, m + 1, h => by
    rw [List.length_cons] at h
    have ih := shL_mem ys (pre ++ [y]) (i + 1) m (by omega)
    rw [shL, List.mem_append, show i + ((m + 1 : Nat) : Int) = i + 1 + (m : Int) by omega, ih]
    have hn : ¬ (i + 1 + (m : Int)) ∈ (if shR pre y = true then [i] else []) := by
      split
      · simp
        omega
      · simp
    simp [hn, List.append_assoc]

theorem ev_spec_l1Has (l : List Int) (x : Int) (hl : l.length ≤ 1048576) : Ev (fun k => spec_l1Has.f k l x) (decide (x ∈ l)) := by
  have key : ∀ i, i ≤ l.length → Ev (fun k => spec_l1Has.l0 k l x (i : Nat)) (decide (x ∈ l.drop i)) := by
    refine down l.length ?_ ?_
    · rw [List.drop_length]
      refine Ev.step (fun k => by rw [spec_l1Has.l0, if_neg (by omega)]) ?_
      exact ev_to (ev_some _) (by simp)
    · intro i hi ih
      rw [List.drop_eq_getElem_cons hi]
      refine Ev.step (fun k => by rw [spec_l1Has.l0, if_pos (by omega), if_pos (by omega), rd_nat l i hi, w64 (by omega) (by omega)]) ?_
      by_cases h : l[i] = x
      · exact ev_pos h (ev_to (ev_some _) (by simp [h]))
      · exact ev_neg h (ev_to ih (by rw [decide_eq_decide, List.mem_cons]; exact ⟨.inr, fun e => e.resolve_left (fun z => h z.symm)⟩))
  have h := key 0 (by omega)
  rw [List.drop_zero] at h
  exact h

theorem q_spec_l3In (a b c d : Int) : spec_l3In.f a b c d = some (decide (rin a b c d)) := by
  unfold spec_l3In.f rin
  by_cases h : c ≤ a
  · simp [h]
  · simp [h]
theorem q_spec_l3Within (a b : Sl) : spec_l3Within.f a.fl a.fh a.tl a.th a.pl a.ph a.ql a.qh a.pr b.fl b.fh b.tl b.th b.pl b.ph b.ql b.qh b.pr = some (decide (withinS a b)) := by
  have h7 : (b.pr == a.pr) = (a.pr == b.pr) := by rw [Bool.eq_iff_iff, beq_iff_eq, beq_iff_eq]; exact eq_comm
  unfold spec_l3Within.f withinS
  simp only [q_spec_l3In, Option.bind_some, decide_eq_true_eq, h7]
  by_cases h1 : rin a.fl a.fh b.fl b.fh <;> by_cases h2 : rin a.tl a.th b.tl b.th <;> by_cases h3 : rin a.pl a.ph b.pl b.ph <;> by_cases h4 : rin a.ql a.qh b.ql b.qh <;> by_cases h5 : b.pr = 0 <;> by_cases h6 : a.pr = b.pr <;> simp [h1, h2, h3, h4, h5, h6]

theorem rdRule_nat (l : List S96) (i : Nat) (h : i < l.length) : rd_T96 l i = l[i] := getD_nat l _ i h

theorem ev_l4Shadowed_in (l : List S96) (hl : l.length ≤ 1048576) (i : Nat) (hi : i < l.length) (acc : List Int) (hacc : acc.length ≤ 1048576) (R : Bool → List Int) (h1 : Ev (fun k => spec_l4Shadowed.l0 k l (acc ++ [(i : Int)]) ((i + 1 : Nat) : Int)) (R true)) (h0 : Ev (fun k => spec_l4Shadowed.l0 k l acc ((i + 1 : Nat) : Int)) (R false)) :
    ∀ j, j ≤ i → Ev (fun k => spec_l4Shadowed.l1 k l acc (i : Nat) (j : Nat)) (R (((l.take i).drop j).any fun x => decide (withinS (slOf l[i].f0) (slOf x.f0)))) := by
  have hlen : (l.take i).length = i := by rw [List.length_take]; omega
  refine down i ?_ ?_
  · rw [List.drop_eq_nil_of_le (by omega)]
    refine Ev.step (fun k => by rw [spec_l4Shadowed.l1, if_neg (by omega), w64 (by omega) (by omega)]) ?_
    exact h0
  · intro j hj ih
    rw [List.drop_eq_getElem_cons (by omega : j < (l.take i).length), List.any_cons, List.getElem_take]
    refine Ev.step (fun k => by rw [spec_l4Shadowed.l1, if_pos (by omega), if_pos (by omega), if_pos (by omega), if_pos (by omega), if_pos (by omega), rdRule_nat l i hi, rdRule_nat l j (by omega), w64 (by omega) (by omega), w64 (by omega) (by omega)]) ?_
    refine ev_opt (q_spec_l3Within (slOf l[i].f0) (slOf l[j].f0)) ?_
    by_cases h : withinS (slOf l[i].f0) (slOf l[j].f0)
    · rw [decide_eq_true h, Bool.true_or]
      exact ev_pos rfl (ev_pos (by omega) h1)
    · rw [decide_eq_false h, Bool.false_or]
      exact ev_neg (by simp) ih
theorem ev_spec_l4Shadowed (l : List S96) (hl : l.length ≤ 1048576) : Ev (fun k => spec_l4Shadowed.f k l) (shL [] l 0) := by
  have key : ∀ i, i ≤ l.length → ∀ acc : List Int, acc.length ≤ i → Ev (fun k => spec_l4Shadowed.l0 k l acc (i : Nat)) (acc ++ shL (l.take i) (l.drop i) (i : Nat)) := by
    refine down l.length ?_ ?_
    · intro acc _
      rw [List.drop_length, shL, List.append_nil]
      refine Ev.step (fun k => by rw [spec_l4Shadowed.l0, if_neg (by omega)]) ?_
      exact ev_some _
    · intro i hi ih acc hacc
      refine Ev.step (fun k => by rw [spec_l4Shadowed.l0, if_pos (by omega)]) ?_
      rw [List.drop_eq_getElem_cons hi, shL, ← take_step l i hi]
      have h1 := ih (acc ++ [(i : Int)]) (by rw [List.length_append, List.length_singleton]; omega)
      have h0 := ih acc (by omega)
      have h := ev_l4Shadowed_in l hl i hi acc (by omega) (fun b => acc ++ ((if b = true then [(i : Int)] else []) ++ shL (l.take (i + 1)) (l.drop (i + 1)) ((i : Int) + 1))) (by simpa using h1) (by simpa using h0) 0 (by omega)
      rw [List.drop_zero] at h
      exact h
  have h := key 0 (by omega) [] (by simp)
  simp only [List.take_zero, List.drop_zero, List.nil_append] at h
  exact h

theorem ev_spec_TrimPolicy_loop (l : List S96) (hl : l.length ≤ 1048576) : Ev (fun k => spec_TrimPolicy.l0 k l (shL [] l 0) 0 0 []) (0, trL [] l) := by
  have hg := shL_len l [] 0
  have key : ∀ i, i ≤ l.length → ∀ acc : List S96, acc.length ≤ i → Ev (fun k => spec_TrimPolicy.l0 k l (shL [] l 0) (i : Nat) 0 acc) (0, acc ++ trL (l.take i) (l.drop i)) := by
    refine down l.length ?_ ?_
    · intro acc _
      rw [List.drop_length, trL, List.append_nil]
      refine Ev.step (fun k => by rw [spec_TrimPolicy.l0, if_neg (by omega)]) ?_
      exact ev_some _
    · intro i hi ih acc hacc
      refine Ev.step (fun k => by rw [spec_TrimPolicy.l0, if_pos (by omega), rdRule_nat l i hi, w64 (by omega) (by omega)]) ?_
      refine Ev.bind (ev_spec_l1Has _ _ (by omega)) ?_
      rw [List.drop_eq_getElem_cons hi, trL, ← take_step l i hi]
      have hm := shL_mem l [] 0 i hi
      rw [List.nil_append, Int.zero_add] at hm
      by_cases h : shR (l.take i) l[i] = true
      · refine ev_pos (by simpa using hm.mpr h) ?_
        rw [if_pos h]
        have h0 := ih acc (by omega)
        simpa using h0
      · refine ev_neg (by simpa using fun e => h (hm.mp e)) (ev_pos (by omega) (ev_pos (by omega) ?_))
        rw [if_neg h]
        have h1 := ih (acc ++ [l[i]]) (by rw [List.length_append, List.length_singleton]; omega)
        simpa using h1
  have h := key 0 (by omega) [] (by simp)
  simp only [List.take_zero, List.drop_zero, List.nil_append] at h
  exact h

theorem q_impl_Range_within (a b c d : Int) : impl_Range_within.f a b c d = some (decide (rin a b c d)) := by
  unfold impl_Range_within.f rin
  by_cases h : c ≤ a
  · simp [h]
  · simp [h]
theorem q_impl_withinSel (a b : Sl) : impl_withinSel.f a.fl a.fh a.tl a.th a.pl a.ph a.ql a.qh a.pr b.fl b.fh b.tl b.th b.pl b.ph b.ql b.qh b.pr = some (decide (withinS a b)) := by
  unfold impl_withinSel.f withinS
  simp only [q_impl_Range_within, Option.bind_some, decide_eq_true_eq]
  by_cases h1 : rin a.fl a.fh b.fl b.fh <;> by_cases h2 : rin a.tl a.th b.tl b.th <;> by_cases h3 : rin a.pl a.ph b.pl b.ph <;> by_cases h4 : rin a.ql a.qh b.ql b.qh <;> by_cases h5 : b.pr = 0 <;> by_cases h6 : a.pr = b.pr <;> simp [h1, h2, h3, h4, h5, h6]

theorem q_idxO {α : Type} (p : α → Option Bool) (P : α → Bool) (h : ∀ x, p x = some (P x)) : ∀ (l : List α) (i : Int), 0 ≤ i → ∃ r, idxO p l i = some r ∧ (0 ≤ r ↔ l.any P = true)
  | [], i, _ => ⟨-1, rfl, by simp⟩
  | x :: xs, i, hi => by
    cases hp : P x with
    | true => exact ⟨i, by rw [idxO, h, hp]; rfl, by simp [hp, hi]⟩
    | false =>
      obtain ⟨r, hr, hm⟩ := q_idxO p P h xs (i + 1) (by omega)
      exact ⟨r, by rw [idxO, h, hp]; exact hr, by simp [hp, hm]⟩
theorem q_impl_shadowed (l : List S96) (i : Nat) (h : i < l.length) : impl_shadowed.f l (i : Int) = some (shR (l.take i) l[i]) := by
  have hp : ∀ x, impl_shadowed.p l (i : Int) x = some (decide (withinS (slOf l[i].f0) (slOf x.f0))) := by
    intro x
    rw [impl_shadowed.p, rdRule_nat l i h]
    exact q_impl_withinSel (slOf l[i].f0) (slOf x.f0)
  obtain ⟨r, hr, hm⟩ := q_idxO (impl_shadowed.p l (i : Int)) _ hp (l.take i) 0 (by omega)
  rw [impl_shadowed.f, if_pos (by omega), if_pos (by omega), Int.toNat_natCast, hr, Option.bind_some]
  refine congrArg some ?_
  rw [shR, Bool.eq_iff_iff, decide_eq_true_eq]
  exact hm

theorem ev_impl_TrimPolicy_loop (l : List S96) (hl : l.length ≤ 1048576) : Ev (fun k => impl_TrimPolicy.l0 k l [] l l.length 0) (0, trL [] l) := by
  have key : ∀ i, i ≤ l.length → ∀ acc : List S96, acc.length ≤ i → Ev (fun k => impl_TrimPolicy.l0 k l acc l l.length (i : Nat)) (0, acc ++ trL (l.take i) (l.drop i)) := by
    refine down l.length ?_ ?_
    · intro acc _
      rw [List.drop_length, trL, List.append_nil]
      refine Ev.step (fun k => by rw [impl_TrimPolicy.l0, if_neg (by omega)]) ?_
      exact ev_some _
    · intro i hi ih acc hacc
      refine Ev.step (fun k => by rw [impl_TrimPolicy.l0, if_pos (by omega), if_pos (by omega), if_pos (by omega), q_impl_shadowed l i hi, Option.bind_some, rdRule_nat l i hi, w64 (by omega) (by omega)]) ?_
      rw [List.drop_eq_getElem_cons hi, trL, ← take_step l i hi]
      by_cases h : shR (l.take i) l[i] = true
      · refine ev_pos h ?_
        rw [if_pos h]
        have h0 := ih acc (by omega)
        simpa using h0
      · refine ev_neg h (ev_pos (by omega) ?_)
        rw [if_neg h]
        have h1 := ih (acc ++ [l[i]]) (by rw [List.length_append, List.length_singleton]; omega)
        simpa using h1
  have h := key 0 (by omega) [] (by simp)
  simp only [List.take_zero, List.drop_zero, List.nil_append] at h
  exact h

def ruleF (x : S96) : Int := if selF (slOf x.f0) = 0 then (if 1 ≤ x.f1 ∧ x.f1 ≤ 3 then (if (x.f1 = 3 ∧ 1 ≤ x.f2 ∧ x.f2 ≤ 9) ∨ (x.f1 ≠ 3 ∧ x.f2 = 0) then 0 else 1) else 3) else selF (slOf x.f0)
def scanRule : List S96 → Int
  | [] => 0
  | x :: xs => if ruleF x = 0 then scanRule xs else ruleF x
def policyF (l : List S96) : Int := if 20 < l.length then 2 else scanRule l

theorem q_spec_HasPorts (a : Int) : spec_HasPorts.f a = some (decide (a = 6 ∨ a = 17)) := by
  unfold spec_HasPorts.f
  by_cases h : a = 6
  · simp [h]
  · by_cases g : a = 17
    · simp [g]
    · simp [h, g]
theorem q_impl_HasPorts (a : Int) : impl_HasPorts.f a = some (decide (a = 6 ∨ a = 17)) := by
  unfold impl_HasPorts.f
  by_cases h : a = 6
  · simp [h]
  · by_cases g : a = 17
    · simp [g]
    · simp [h, g]

theorem q_spec_l1In (a b c : Int) : spec_l1In.f a b c = some (decide (b ≤ a ∧ a ≤ c)) := by
  unfold spec_l1In.f
  by_cases h : b ≤ a
  · simp [h]
  · simp [h]

theorem q_spec_l3Range (lo hi m : Int) : spec_l3Range.f lo hi m = some (decide (rok lo hi m)) := by
  unfold spec_l3Range.f rok
  by_cases h : 0 ≤ lo
  · by_cases g : lo ≤ hi
    · simp [h, g]
    · simp [h, g]
  · simp [h]
theorem q_spec_SelFault_j0 (k : Nat) (b : Bool) (s : Sl) : spec_SelFault.j0 (k + 1) b s.fl s.fh s.tl s.th s.pl s.ph s.ql s.qh s.pr = some (if b = true then 3 else if selPorts s then 0 else 1) := by
  rw [spec_SelFault.j0]
  simp only [q_spec_HasPorts, spec_l3All.f, Option.bind_some, decide_eq_true_eq]
  unfold selPorts hasP
  cases b
  · by_cases h1 : s.pr = 0
    · simp [h1]
    · by_cases h2 : s.pr = 6 ∨ s.pr = 17
      · simp [h1, h2]
      · by_cases h3 : s.pl = 0 <;> by_cases h4 : s.ph = 65535 <;> by_cases h5 : s.ql = 0 <;> by_cases h6 : s.qh = 65535 <;> simp [h1, h2, h3, h4, h5, h6]
  · simp
theorem q_spec_SelFault (k : Nat) (s : Sl) : spec_SelFault.f (k + 1) s.fl s.fh s.tl s.th s.pl s.ph s.ql s.qh s.pr = some (selF s) := by
  unfold spec_SelFault.f
  simp only [q_spec_l3Range, q_spec_l1In, q_spec_SelFault_j0, Option.bind_some, decide_eq_true_eq]
  unfold selF selOk
  by_cases h1 : rok s.fl s.fh 4294967295 <;> by_cases h2 : rok s.tl s.th 4294967295 <;> by_cases h3 : rok s.pl s.ph 65535 <;> by_cases h4 : rok s.ql s.qh 65535 <;> by_cases h5 : 0 ≤ s.pr ∧ s.pr ≤ 255 <;> simp [h1, h2, h3, h4, h5]
theorem ev_spec_SelFault (s : Sl) : Ev (fun k => spec_SelFault.f k s.fl s.fh s.tl s.th s.pl s.ph s.ql s.qh s.pr) (selF s) := ev_succ (fun k => q_spec_SelFault k s)

theorem ev_spec_PolicyFault_loop (l : List S96) (hl : l.length ≤ 1048576) : ∀ i, i ≤ l.length → Ev (fun k => spec_PolicyFault.l0 k l i) (scanRule (l.drop i)) := by
  refine down l.length ?_ ?_
  · rw [List.drop_length]
    refine Ev.step (fun k => by rw [spec_PolicyFault.l0, if_neg (by omega)]) ?_
    exact ev_some _
  · intro i hi ih
    rw [List.drop_eq_getElem_cons hi, scanRule]
    refine Ev.step (fun k => by rw [spec_PolicyFault.l0, if_pos (by omega), if_pos (by omega), rdRule_nat l i hi, w64 (by omega) (by omega)]) ?_
    refine Ev.bind (ev_spec_SelFault (slOf l[i].f0)) ?_
    have hr : ruleF l[i] = if selF (slOf l[i].f0) = 0 then (if 1 ≤ l[i].f1 ∧ l[i].f1 ≤ 3 then (if (l[i].f1 = 3 ∧ 1 ≤ l[i].f2 ∧ l[i].f2 ≤ 9) ∨ (l[i].f1 ≠ 3 ∧ l[i].f2 = 0) then 0 else 1) else 3) else selF (slOf l[i].f0) := rfl
    generalize hx : l[i] = x at *
    by_cases h : selF (slOf x.f0) = 0
    · refine ev_pos h (ev_opt (q_spec_l1In _ _ _) ?_)
      rw [if_pos h] at hr
      by_cases h1 : 1 ≤ x.f1 ∧ x.f1 ≤ 3
      · refine ev_pos (by simpa using h1) ?_
        rw [if_pos h1] at hr
        by_cases h3 : x.f1 = 3
        · refine ev_pos h3 (ev_opt (q_spec_l1In _ _ _) ?_)
          by_cases h4 : 1 ≤ x.f2 ∧ x.f2 ≤ 9
          · rw [if_pos (.inl ⟨h3, h4⟩)] at hr
            rw [if_pos hr]
            exact ev_pos (by simpa using h4) ih
          · rw [if_neg (by omega)] at hr
            rw [if_neg (by omega), hr]
            exact ev_neg (by simpa using h4) (ev_some _)
        · refine ev_neg h3 ?_
          by_cases h4 : x.f2 = 0
          · rw [if_pos (.inr ⟨h3, h4⟩)] at hr
            rw [if_pos hr]
            exact ev_pos h4 ih
          · rw [if_neg (by omega)] at hr
            rw [if_neg (by omega), hr]
            exact ev_neg h4 (ev_some _)
      · rw [if_neg h1] at hr
        rw [if_neg (by omega), hr]
        exact ev_neg (by simpa using h1) (ev_some _)
    · rw [if_neg h] at hr
      rw [hr, if_neg h]
      exact ev_neg h (ev_some _)
theorem ev_spec_PolicyFault (l : List S96) (hl : l.length ≤ 1048576) : Ev (fun k => spec_PolicyFault.f k l) (policyF l) := by
  unfold spec_PolicyFault.f policyF
  by_cases h1 : (l.length : Int) > 20
  · rw [if_pos (by omega)]
    exact ev_pos h1 (ev_some _)
  · rw [if_neg (by omega)]
    exact ev_neg h1 (ev_spec_PolicyFault_loop l hl 0 (by omega))

theorem q_impl_in (a b c : Int) : impl_in.f a b c = some (decide (b ≤ a ∧ a ≤ c)) := by
  unfold impl_in.f
  by_cases h : b ≤ a
  · simp [h]
  · simp [h]

theorem q_impl_Range_ok (lo hi m : Int) : impl_Range_ok.f lo hi m = some (decide (rok lo hi m)) := by
  unfold impl_Range_ok.f
  simp only [q_impl_in, Option.bind_some, decide_eq_true_eq]
  by_cases hr : rok lo hi m
  · rw [decide_eq_true hr]
    unfold rok at hr
    rw [if_pos (by omega), if_pos (by omega), decide_eq_true (by omega)]
  · rw [decide_eq_false hr]
    unfold rok at hr
    by_cases h : 0 ≤ lo ∧ lo ≤ m
    · by_cases g : 0 ≤ hi ∧ hi ≤ m
      · rw [if_pos h, if_pos g, decide_eq_false (by omega)]
      · rw [if_pos h, if_neg g]
    · rw [if_neg h]
theorem q_impl_SelFault_j0 (k : Nat) (b : Bool) (s : Sl) : impl_SelFault.j0 (k + 1) b s.fl s.fh s.tl s.th s.pl s.ph s.ql s.qh s.pr = some (if b = true then 3 else if selPorts s then 0 else 1) := by
  rw [impl_SelFault.j0]
  simp only [q_impl_HasPorts, impl_whole.f, Option.bind_some, decide_eq_true_eq]
  unfold selPorts hasP
  cases b
  · by_cases h1 : s.pr = 0
    · simp [h1]
    · by_cases h2 : s.pr = 6 ∨ s.pr = 17
      · simp [h1, h2]
      · by_cases h3 : s.pl = 0 <;> by_cases h4 : s.ph = 65535 <;> by_cases h5 : s.ql = 0 <;> by_cases h6 : s.qh = 65535 <;> simp [h1, h2, h3, h4, h5, h6]
  · simp
theorem q_impl_SelFault (k : Nat) (s : Sl) : impl_SelFault.f (k + 1) s.fl s.fh s.tl s.th s.pl s.ph s.ql s.qh s.pr = some (selF s) := by
  unfold impl_SelFault.f
  simp only [q_impl_Range_ok, q_impl_in, q_impl_SelFault_j0, Option.bind_some, decide_eq_true_eq]
  unfold selF selOk
  by_cases h1 : rok s.fl s.fh 4294967295 <;> by_cases h2 : rok s.tl s.th 4294967295 <;> by_cases h3 : rok s.pl s.ph 65535 <;> by_cases h4 : rok s.ql s.qh 65535 <;> by_cases h5 : 0 ≤ s.pr ∧ s.pr ≤ 255 <;> simp [h1, h2, h3, h4, h5]
theorem ev_impl_SelFault (s : Sl) : Ev (fun k => impl_SelFault.f k s.fl s.fh s.tl s.th s.pl s.ph s.ql s.qh s.pr) (selF s) := ev_succ (fun k => q_impl_SelFault k s)

theorem ev_impl_PolicyFault_loop (l : List S96) (hl : l.length ≤ 1048576) : ∀ i, i ≤ l.length → Ev (fun k => impl_PolicyFault.l0 k l l.length i) (scanRule (l.drop i)) := by
  refine down l.length ?_ ?_
  · rw [List.drop_length]
    refine Ev.step (fun k => by rw [impl_PolicyFault.l0, if_neg (by omega)]) ?_
    exact ev_some _
  · intro i hi ih
    rw [List.drop_eq_getElem_cons hi, scanRule]
    refine Ev.step (fun k => by rw [impl_PolicyFault.l0, if_pos (by omega), if_pos (by omega), if_pos (by omega), rdRule_nat l i hi, w64 (by omega) (by omega)]) ?_
    refine Ev.bind (ev_impl_SelFault (slOf l[i].f0)) ?_
    have hr : ruleF l[i] = if selF (slOf l[i].f0) = 0 then (if 1 ≤ l[i].f1 ∧ l[i].f1 ≤ 3 then (if (l[i].f1 = 3 ∧ 1 ≤ l[i].f2 ∧ l[i].f2 ≤ 9) ∨ (l[i].f1 ≠ 3 ∧ l[i].f2 = 0) then 0 else 1) else 3) else selF (slOf l[i].f0) := rfl
    generalize hx : l[i] = x at *
    by_cases h : selF (slOf x.f0) = 0
    · refine ev_pos h (ev_opt (q_impl_in _ _ _) ?_)
      rw [if_pos h] at hr
      by_cases h1 : 1 ≤ x.f1 ∧ x.f1 ≤ 3
      · refine ev_pos (by simpa using h1) ?_
        rw [if_pos h1] at hr
        by_cases h3 : x.f1 = 3
        · refine ev_pos h3 (ev_opt (by rw [impl_isPeer.f, q_impl_in]; rfl) ?_)
          by_cases h4 : 1 ≤ x.f2 ∧ x.f2 ≤ 9
          · rw [if_pos (.inl ⟨h3, h4⟩)] at hr
            rw [if_pos hr]
            exact ev_pos (by simpa using h4) ih
          · rw [if_neg (by omega)] at hr
            rw [if_neg (by omega), hr]
            exact ev_neg (by simpa using h4) (ev_some _)
        · refine ev_neg h3 ?_
          by_cases h4 : x.f2 = 0
          · rw [if_pos (.inr ⟨h3, h4⟩)] at hr
            rw [if_pos hr]
            exact ev_pos h4 ih
          · rw [if_neg (by omega)] at hr
            rw [if_neg (by omega), hr]
            exact ev_neg h4 (ev_some _)
      · rw [if_neg h1] at hr
        rw [if_neg (by omega), hr]
        exact ev_neg (by simpa using h1) (ev_some _)
    · rw [if_neg h] at hr
      rw [hr, if_neg h]
      exact ev_neg h (ev_some _)
theorem ev_impl_PolicyFault (l : List S96) (hl : l.length ≤ 1048576) : Ev (fun k => impl_PolicyFault.f k l) (policyF l) := by
  unfold impl_PolicyFault.f policyF
  by_cases h1 : (l.length : Int) > 20
  · rw [if_pos (by omega)]
    exact ev_pos h1 (ev_some _)
  · rw [if_neg (by omega)]
    exact ev_neg h1 (ev_impl_PolicyFault_loop l hl 0 (by omega))

theorem q_szRuleS {l : List S133} (h : l.length ≤ 1048576) : laws_szRuleS.f l 1048576 = some (1048576 - (l.length : Int)) := by
  unfold laws_szRuleS.f
  rw [w64 (by omega) (by omega), if_neg (by omega)]
theorem q_szRuleS_big {l : List S133} (h : ¬ l.length ≤ 1048576) (hm : l.length ≤ maxLen) : laws_szRuleS.f l 1048576 = some (-1) := by
  unfold laws_szRuleS.f
  unfold maxLen at hm
  rw [w64 (by omega) (by omega), if_pos (by omega)]

theorem rdLRule_nat (l : List S133) (i : Nat) (h : i < l.length) : rd_T133 l i = l[i] := getD_nat l _ i h

theorem q_toSel (a b c d e f g h i : Int) : laws_toSel.f a b c d e f g h i = some (a, b, c, d, e, f, g, h, i) := rfl

def cvRule (x : S133) : S96 := ⟨⟨⟨x.f0.f0.f0, x.f0.f0.f1⟩, ⟨x.f0.f1.f0, x.f0.f1.f1⟩, ⟨x.f0.f2.f0, x.f0.f2.f1⟩, ⟨x.f0.f3.f0, x.f0.f3.f1⟩, x.f0.f4⟩, x.f1, x.f2⟩
theorem q_toRule (a b c d e f g h i j m : Int) : laws_toRule.f a b c d e f g h i j m = some (a, b, c, d, e, f, g, h, i, j, m) := rfl
theorem ev_toRuleS {l : List S133} (hn : l.length ≤ 1048576) : Ev (fun k => laws_toRuleS.f k l) (l.map cvRule) := by
  unfold laws_toRuleS.f
  refine ev_pos (by omega) (ev_pos (by omega) ?_)
  refine map_loop (fun k b i => laws_toRuleS.l0 k l b i) l cvRule ?_ ?_ _ (by simp)
  · intro k b
    rw [laws_toRuleS.l0, if_neg (by omega)]
  · intro k b i h hb
    rw [laws_toRuleS.l0, if_pos (by omega), if_pos (by omega), q_toRule, Option.bind_some, if_pos (by omega), w64 (by omega) (by omega), rdLRule_nat l i h, Int.toNat_natCast]
    rfl

theorem q_eqRule (a b c d e f g h i j m : Int) : laws_eqRule.f a b c d e f g h i j m a b c d e f g h i j m = some true := by
  simp [laws_eqRule.f, laws_eqSel.f, laws_eqRange.f]
theorem ev_eqRuleS {l : List S96} (hn : l.length ≤ 1048576) : Ev (fun k => laws_eqRuleS.f k l l) true := by
  unfold laws_eqRuleS.f
  refine ev_pos rfl ?_
  refine count_loop (fun k i => laws_eqRuleS.l0 k l l i) l.length true ?_ ?_
  · intro k
    rw [laws_eqRuleS.l0, if_neg (by omega)]
  · intro k i h
    rw [laws_eqRuleS.l0, if_pos (by omega), if_pos (by omega), if_pos (by omega), q_eqRule, Option.bind_some, if_pos rfl, w64 (by omega) (by omega)]
    rfl

def elRule (k : Int) : S96 := ⟨⟨⟨k, k + 1⟩, ⟨k + 1 + 1, k + 1 + 1 + 1⟩, ⟨k + 1 + 1 + 1 + 1, k + 1 + 1 + 1 + 1 + 1⟩, ⟨k + 1 + 1 + 1 + 1 + 1 + 1, k + 1 + 1 + 1 + 1 + 1 + 1 + 1⟩, k + 1 + 1 + 1 + 1 + 1 + 1 + 1 + 1⟩, k + 1 + 1 + 1 + 1 + 1 + 1 + 1 + 1 + 1, k + 1 + 1 + 1 + 1 + 1 + 1 + 1 + 1 + 1 + 1⟩
theorem q_goRule : ∀ (l : List S96) (k : Int), 0 ≤ k → k + 11 * (l.length : Int) ≤ 4611686018427387904 → (laws_markRuleS.go l k).1 = k + 11 * (l.length : Int) ∧ (laws_markRuleS.go l k).2.length = l.length ∧ ∀ (j : Nat), j < l.length → (laws_markRuleS.go l k).2[j]? = some (elRule (k + 11 * (j : Int)))
  | [], k, _, _ => ⟨by simp [laws_markRuleS.go], rfl, fun j h => absurd h (by simp)⟩
  | x :: xs, k, h0, hm => by
    rw [List.length_cons] at hm
    have e1 : wrap64 (k + 1) = k + 1 := w64 (by omega) (by omega)
    have e2 : wrap64 (k + 1 + 1) = k + 1 + 1 := w64 (by omega) (by omega)
    have e3 : wrap64 (k + 1 + 1 + 1) = k + 1 + 1 + 1 := w64 (by omega) (by omega)
    have e4 : wrap64 (k + 1 + 1 + 1 + 1) = k + 1 + 1 + 1 + 1 := w64 (by omega) (by omega)
    have e5 : wrap64 (k + 1 + 1 + 1 + 1 + 1) = k + 1 + 1 + 1 + 1 + 1 := w64 (by omega) (by omega)
    have e6 : wrap64 (k + 1 + 1 + 1 + 1 + 1 + 1) = k + 1 + 1 + 1 + 1 + 1 + 1 := w64 (by omega) (by omega)
    have e7 : wrap64 (k + 1 + 1 + 1 + 1 + 1 + 1 + 1) = k + 1 + 1 + 1 + 1 + 1 + 1 + 1 := w64 (by omega) (by omega)
    have e8 : wrap64 (k + 1 + 1 + 1 + 1 + 1 + 1 + 1 + 1) = k + 1 + 1 + 1 + 1 + 1 + 1 + 1 + 1 := w64 (by omega) (by omega)
    have e9 : wrap64 (k + 1 + 1 + 1 + 1 + 1 + 1 + 1 + 1 + 1) = k + 1 + 1 + 1 + 1 + 1 + 1 + 1 + 1 + 1 := w64 (by omega) (by omega)
    have e10 : wrap64 (k + 1 + 1 + 1 + 1 + 1 + 1 + 1 + 1 + 1 + 1) = k + 1 + 1 + 1 + 1 + 1 + 1 + 1 + 1 + 1 + 1 := w64 (by omega) (by omega)
    have e11 : wrap64 (k + 1 + 1 + 1 + 1 + 1 + 1 + 1 + 1 + 1 + 1 + 1) = k + 1 + 1 + 1 + 1 + 1 + 1 + 1 + 1 + 1 + 1 + 1 := w64 (by omega) (by omega)
    obtain ⟨h1, h2, h3⟩ := q_goRule xs (k + 1 + 1 + 1 + 1 + 1 + 1 + 1 + 1 + 1 + 1 + 1) (by omega) (by omega)
    rw [laws_markRuleS.go]
    simp only [e1, e2, e3, e4, e5, e6, e7, e8, e9, e10, e11]
    refine ⟨by rw [h1, List.length_cons]; omega, by rw [List.length_cons, h2, List.length_cons], ?_⟩
    intro j hj
    cases j with
    | zero => exact congrArg some (by rw [show k + 11 * ((0 : Nat) : Int) = k by omega]; rfl)
    | succ j =>
      rw [List.length_cons] at hj
      refine (h3 j (by omega)).trans ?_
      rw [show k + 1 + 1 + 1 + 1 + 1 + 1 + 1 + 1 + 1 + 1 + 1 + 11 * (j : Int) = k + 11 * ((j + 1 : Nat) : Int) by omega]
theorem q_markRule (l : List S96) (hl : l.length ≤ 4294967296) : ∃ r, laws_markRuleS.f l 1 = some (1 + 11 * (l.length : Int), r) := by
  obtain ⟨h1, _, _⟩ := q_goRule l 1 (by omega) (by omega)
  exact ⟨_, by rw [laws_markRuleS.f, ← h1]⟩

theorem ev_heldRule (r : List S96) (hl : r.length ≤ 4294967296) (hj : ∀ j : Nat, j < r.length → r[j]? = some (elRule (1 + 11 * (j : Int)))) : Ev (fun k => laws_heldRuleS.f k r 1) (1 + 11 * (r.length : Int)) := by
  have key : ∀ i, i ≤ r.length → Ev (fun k => laws_heldRuleS.l0 k r (1 + 11 * (i : Int)) i) (1 + 11 * (r.length : Int)) := by
    refine down r.length ?_ ?_
    · refine Ev.step (fun k => by rw [laws_heldRuleS.l0, if_neg (by omega)]) ?_
      exact ev_some _
    · intro i hi ih
      have h1 := hj i hi
      rw [List.getElem?_eq_getElem hi] at h1
      have h2 : rd_T96 r (i : Int) = elRule (1 + 11 * (i : Int)) := (rdRule_nat r i hi).trans (Option.some.inj h1)
      obtain ⟨k, hk⟩ : ∃ k, k = 1 + 11 * (i : Int) := ⟨_, rfl⟩
      rw [← hk] at h2 ⊢
      have e1 : wrap64 (k + 1) = k + 1 := w64 (by omega) (by omega)
      have e2 : wrap64 (k + 1 + 1) = k + 1 + 1 := w64 (by omega) (by omega)
      have e3 : wrap64 (k + 1 + 1 + 1) = k + 1 + 1 + 1 := w64 (by omega) (by omega)
      have e4 : wrap64 (k + 1 + 1 + 1 + 1) = k + 1 + 1 + 1 + 1 := w64 (by omega) (by omega)
      have e5 : wrap64 (k + 1 + 1 + 1 + 1 + 1) = k + 1 + 1 + 1 + 1 + 1 := w64 (by omega) (by omega)
      have e6 : wrap64 (k + 1 + 1 + 1 + 1 + 1 + 1) = k + 1 + 1 + 1 + 1 + 1 + 1 := w64 (by omega) (by omega)
      have e7 : wrap64 (k + 1 + 1 + 1 + 1 + 1 + 1 + 1) = k + 1 + 1 + 1 + 1 + 1 + 1 + 1 := w64 (by omega) (by omega)
      have e8 : wrap64 (k + 1 + 1 + 1 + 1 + 1 + 1 + 1 + 1) = k + 1 + 1 + 1 + 1 + 1 + 1 + 1 + 1 := w64 (by omega) (by omega)
      have e9 : wrap64 (k + 1 + 1 + 1 + 1 + 1 + 1 + 1 + 1 + 1) = k + 1 + 1 + 1 + 1 + 1 + 1 + 1 + 1 + 1 := w64 (by omega) (by omega)
      have e10 : wrap64 (k + 1 + 1 + 1 + 1 + 1 + 1 + 1 + 1 + 1 + 1) = k + 1 + 1 + 1 + 1 + 1 + 1 + 1 + 1 + 1 + 1 := w64 (by omega) (by omega)
      have e11 : wrap64 (k + 1 + 1 + 1 + 1 + 1 + 1 + 1 + 1 + 1 + 1 + 1) = k + 1 + 1 + 1 + 1 + 1 + 1 + 1 + 1 + 1 + 1 + 1 := w64 (by omega) (by omega)
      have b1 : (i : Int) < (r.length : Int) := by omega
      have b2 : 0 ≤ (i : Int) := by omega
      refine Ev.step (f := fun q => laws_heldRuleS.l0 q r (1 + 11 * ((i + 1 : Nat) : Int)) ((i + 1 : Nat) : Int)) (fun q => ?_) ih
      rw [laws_heldRuleS.l0, if_pos b1, if_pos b2, h2]
      simp only [e1, e2, e3, e4, e5, e6, e7, e8, e9, e10, e11, elRule, if_true]
      rw [w64 (by omega) (by omega), show k + 1 + 1 + 1 + 1 + 1 + 1 + 1 + 1 + 1 + 1 + 1 = 1 + 11 * ((i + 1 : Nat) : Int) by omega]
      rfl
  exact key 0 (by omega)
theorem ev_markheldRule (l : List S96) (hl : l.length ≤ 4294967296) : ∃ r, laws_markRuleS.f l 1 = some (1 + 11 * (l.length : Int), r) ∧ Ev (fun k => laws_heldRuleS.f k r 1) (1 + 11 * (l.length : Int)) := by
  obtain ⟨h1, h2, h3⟩ := q_goRule l 1 (by omega) (by omega)
  refine ⟨(laws_markRuleS.go l 1).2, ?_, ?_⟩
  · rw [laws_markRuleS.f, ← h1]
  · rw [← h2]
    exact ev_heldRule _ (by omega) (fun j hj => h3 j (by omega))

theorem ev_eqRulesResult (c : Int) {l : List S96} (h : l.length ≤ 1048576) : Ev (fun k => laws_eqRulesResult.f k c l c l) true := by
  unfold laws_eqRulesResult.f
  exact ev_pos rfl (Ev.bind (ev_eqRuleS h) (ev_pos rfl (ev_some _)))
theorem ev_markheldRulesResult (c : Int) (l : List S96) (hl : l.length ≤ 4294967296) : ∃ r, laws_markRulesResult.f c l 1 = some (1 + 11 * (l.length : Int), r) ∧ Ev (fun k => laws_heldRulesResult.f k c r 1) (1 + 11 * (l.length : Int)) := by
  obtain ⟨r, h1, h2⟩ := ev_markheldRule l hl
  refine ⟨r, ?_, ?_⟩
  · rw [laws_markRulesResult.f, h1]
    rfl
  · unfold laws_heldRulesResult.f
    exact Ev.bind h2 (ev_neg (by omega) (ev_some _))

def trimR (l : List S96) : Int × List S96 := if policyF l = 0 then (0, trL [] l) else (policyF l, [])
theorem ev_spec_TrimPolicy (l : List S96) (hl : l.length ≤ 1048576) : Ev (fun k => spec_TrimPolicy.f k l) (trimR l) := by
  unfold spec_TrimPolicy.f trimR
  exact Ev.bind (ev_spec_PolicyFault l hl) (ev_cond (fun h => Ev.bind (ev_spec_l4Shadowed l hl) (ev_spec_TrimPolicy_loop l hl)) (fun h => ev_some _))
theorem ev_impl_TrimPolicy (l : List S96) (hl : l.length ≤ 1048576) : Ev (fun k => impl_TrimPolicy.f k l) (trimR l) := by
  unfold impl_TrimPolicy.f trimR
  exact Ev.bind (ev_impl_PolicyFault l hl) (ev_cond (fun h => ev_impl_TrimPolicy_loop l hl) (fun h => ev_some _))
theorem trimR_len (l : List S96) : (trimR l).2.length ≤ l.length := by
  unfold trimR
  split
  · exact trL_len l []
  · simp
theorem FnExactTrimPolicy : laws_FnExactTrimPolicy.Pure := by
  intro l
  intro hm
  intros
  apply Ev.rounds
  unfold laws_FnExactTrimPolicy.f
  by_cases h : l.length ≤ 1048576
  · have hc : (l.map cvRule).length ≤ 1048576 := by simpa using h
    have hsp := ev_spec_TrimPolicy (l.map cvRule) hc
    have him := ev_impl_TrimPolicy (l.map cvRule) hc
    have hlen := trimR_len (l.map cvRule)
    generalize trimR (l.map cvRule) = z at *
    obtain ⟨z1, z2⟩ := z
    have hz : z2.length ≤ 1048576 := Nat.le_trans hlen hc
    obtain ⟨r1, m1⟩ := q_markRule (l.map cvRule) (by omega)
    obtain ⟨r2, m2, m3⟩ := ev_markheldRulesResult z1 z2 (by omega)
    refine ev_opt (q_szRuleS h) (ev_neg (by omega) ?_)
    refine Ev.bind (ev_toRuleS h) (Ev.bind hsp (Ev.bind (ev_toRuleS h) (Ev.bind him (Ev.bind (ev_eqRulesResult z1 hz) (ev_pos rfl ?_)))))
    refine Ev.bind (ev_toRuleS h) (Ev.bind (ev_eqRuleS hc) (ev_pos rfl (ev_opt m1 (ev_neg (by omega) (Ev.bind (ev_eqRulesResult z1 hz) ?_)))))
    refine Ev.step (fun k => by rw [laws_FnExactTrimPolicy.j0, if_neg (by simp)]) ?_
    refine ev_opt m2 (Ev.bind m3 (ev_neg (by omega) (ev_pos rfl ?_)))
    refine Ev.bind (ev_toRuleS h) (Ev.bind him (Ev.bind (ev_eqRulesResult z1 hz) (ev_pos rfl ?_)))
    exact Ev.bind m3 (ev_neg (by omega) (ev_pos rfl (ev_some _)))
  · exact ev_opt (q_szRuleS_big h hm) (ev_pos (by omega) (ev_some _))

end Go.Proofs.Yteelmjkoncomiaa.Pure
