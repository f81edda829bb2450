/- Proved: the law FnExactFoldSum answers true at every input that Go can hand in (it says: The program's FoldSum returns what the reference's returns, for all arguments.) No condition beyond the statement's own. -/
import Derived.Test.YtfggalllhcohaaaPFnExactFoldSumx1
namespace Go.Proofs.Ytfggalllhcohaaa.Pure
open Go.RowKit Go.Proofs.Ytfggalllhcohaaa.PFnExactFoldSum Go.Proofs.YtfggalllhcohaaaW.PrintWords Go.Proofs.YtfggalllhcohaaaW.PrintLast Go.Proofs.YtfggalllhcohaaaW.PrintMore
set_option linter.unusedVariables false
set_option linter.unusedSimpArgs false

theorem w64 {x : Int} (h0 : -9223372036854775808 ≤ x) (h1 : x ≤ 9223372036854775807) : wrap64 x = x := by
  unfold wrap64
  omega
theorem tmod_pos {a b : Int} (h : 0 ≤ a) : Int.tmod a b = a % b := Int.tmod_eq_emod_of_nonneg h
theorem tdiv_pos {a b : Int} (h : 0 ≤ a) : Int.tdiv a b = a / b := Int.tdiv_eq_ediv_of_nonneg h
theorem ev_some {α : Type} (r : α) : Ev (fun _ => some r) r := Ev.now r
theorem ev_pos {α : Type} {c : Prop} [Decidable c] {A B : Nat → Option α} {r : α} (h : c) (e : Ev A r) : Ev (fun k => if c then A k else B k) r := by
  simpa only [if_pos h] using e
theorem ev_neg {α : Type} {c : Prop} [Decidable c] {A B : Nat → Option α} {r : α} (h : ¬ c) (e : Ev B r) : Ev (fun k => if c then A k else B k) r := by
  simpa only [if_neg h] using e
theorem ev_opt {α β : Type} {o : Option α} {f : Nat → α → Option β} {a : α} {r : β} (h : o = some a) (e : Ev (fun n => f n a) r) : Ev (fun n => o.bind (f n)) r := by
  simpa only [h, Option.bind_some] using e
theorem ev_to {α : Type} {g : Nat → Option α} {r r' : α} (e : Ev g r) (h : r = r') : Ev g r' := h ▸ e
theorem ev_fix {α : Type} {o : Option α} {r : α} (h : o = some r) : Ev (fun _ => o) r := ⟨0, fun _ _ => h⟩
theorem rd_nat (l : List Int) (i : Nat) (h : i < l.length) : rd l (i : Int) = l[i] := by
  unfold rd
  simp [List.getD_eq_getElem?_getD, h]
theorem rd_mem (l : List Int) (i : Int) (h0 : 0 ≤ i) (h : i < l.length) : rd l i ∈ l := by
  obtain ⟨n, rfl⟩ := Int.eq_ofNat_of_zero_le h0
  rw [rd_nat l n (by omega)]
  exact List.getElem_mem _
theorem u8_range {x : Int} (h : (Lit.int .u8 x).wf = true) : 0 ≤ x ∧ x ≤ 255 := by
  simp [Lit.wf, IntKind.min, IntKind.max, IntKind.signed, IntKind.bits] at h
  omega
theorem i64_range {x : Int} (h : (Lit.int .i64 x).wf = true) : -9223372036854775808 ≤ x ∧ x ≤ 9223372036854775807 := by
  simp [Lit.wf, IntKind.min, IntKind.max, IntKind.signed, IntKind.bits] at h
  omega
theorem set_mid {α : Type} (a : List α) (x : α) (b : List α) (y : α) : (a ++ x :: b).set a.length y = a ++ y :: b := by simp
theorem take_full {α : Type} {a b : List α} (hl : b.length = a.length) (ht : b.take a.length = a.take a.length) : b = a := by
  rw [List.take_of_length_le (by omega), List.take_of_length_le (by omega)] at ht
  exact ht
theorem take_next {α : Type} {a b : List α} {i : Nat} (ha : i < a.length) (hb : i < b.length) (ht : b.take i = a.take i) (hx : b[i] = a[i]) : b.take (i + 1) = a.take (i + 1) := by
  rw [List.take_succ_eq_append_getElem ha, List.take_succ_eq_append_getElem hb, ht, hx]
theorem ev_cond {α : Type} {c : Prop} [Decidable c] {A B : Nat → Option α} {r r' : α} (hp : c → Ev A r) (hn : ¬ c → Ev B r') : Ev (fun k => if c then A k else B k) (if c then r else r') := by
  by_cases h : c
  · rw [if_pos h]; exact ev_pos h (hp h)
  · rw [if_neg h]; exact ev_neg h (hn h)
theorem set_take {α : Type} {a b : List α} {i : Nat} {x : α} (h : i < a.length) (hl : b.length = a.length) (ht : b.take i = a.take i) (hx : x = a[i]) : (b.set i x).take (i + 1) = a.take (i + 1) := by
  refine take_next h (by simp; omega) ?_ (by simp [hx])
  rw [← ht]
  apply List.ext_getElem?
  intro j
  simp only [List.getElem?_take, List.getElem?_set]
  by_cases hj : j < i
  · rw [if_pos hj, if_pos hj, if_neg (by omega)]
  · rw [if_neg hj, if_neg hj]
theorem ev_succ {α : Type} {g : Nat → Option α} {r : α} (h : ∀ k, g (k + 1) = some r) : Ev g r := Ev.step h (ev_some r)

def foldv (n : Int) : Int := if n ≤ 65535 then n else (n - 1) % 65535 + 1
theorem foldv_step (n : Int) (h : 65536 ≤ n) : foldv (n % 65536 + n / 65536) = foldv n := by
  unfold foldv
  split <;> split <;> omega
theorem foldv_low {n : Int} (h : n ≤ 65535) : foldv n = n := by
  unfold foldv
  rw [if_pos h]
theorem foldv_range {n : Int} (h : 0 ≤ n) : 0 ≤ foldv n ∧ foldv n ≤ 65535 := by
  unfold foldv
  split <;> omega
theorem foldv_add (a b : Int) (ha : 0 ≤ a) (hb : 0 ≤ b) : foldv (foldv a + b) = foldv (a + b) := by
  unfold foldv
  repeat' split
  all_goals omega

theorem ev_impl_fold : ∀ (d : Nat) (n : Int), 0 ≤ n → n < d → n ≤ 4611686018427387904 → Ev (fun k => impl_fold.l0 k n) (foldv n) := by
  intro d
  induction d with
  | zero => intro n h0 hd; omega
  | succ d ih =>
    intro n h0 hd hb
    by_cases h : n ≥ 65536
    · refine Ev.step (fun k => by rw [impl_fold.l0, if_pos h]) ?_
      rw [tmod_pos h0, tdiv_pos h0, w64 (x := n / 65536) (by omega) (by omega), w64 (by omega) (by omega), ← foldv_step n h]
      exact ih _ (by omega) (by omega) (by omega)
    · refine Ev.step (fun k => by rw [impl_fold.l0, if_neg h]) ?_
      rw [foldv_low (by omega)]
      exact ev_some n
theorem ev_impl_fold_f {n : Int} (h0 : 0 ≤ n) (hb : n ≤ 4611686018427387904) : Ev (fun k => impl_fold.f k n) (foldv n) :=
  ev_impl_fold (n.toNat + 1) n h0 (by omega) hb

theorem ev_spec_l1Fold : ∀ (d : Nat) (n : Int), 0 ≤ n → n < d → n ≤ 4611686018427387904 → Ev (fun k => spec_l1Fold.l0 k n) (foldv n) := by
  intro d
  induction d with
  | zero => intro n h0 hd; omega
  | succ d ih =>
    intro n h0 hd hb
    by_cases h : n > 65535
    · refine Ev.step (fun k => by rw [spec_l1Fold.l0, if_pos h]) ?_
      rw [tmod_pos h0, tdiv_pos h0, w64 (x := n / 65536) (by omega) (by omega), w64 (by omega) (by omega), ← foldv_step n (by omega)]
      exact ih _ (by omega) (by omega) (by omega)
    · refine Ev.step (fun k => by rw [spec_l1Fold.l0, if_neg h]) ?_
      rw [foldv_low (by omega)]
      exact ev_some n
theorem ev_spec_l1Fold_f {n : Int} (h0 : 0 ≤ n) (hb : n ≤ 4611686018427387904) : Ev (fun k => spec_l1Fold.f k n) (foldv n) :=
  ev_spec_l1Fold (n.toNat + 1) n h0 (by omega) hb

theorem q_impl_in (a b c : Int) : impl_in.f a b c = some (decide (b ≤ a ∧ a ≤ c)) := by
  unfold impl_in.f
  by_cases h : b ≤ a
  · simp [h]
  · simp [h]

theorem q_spec_l1In (a b c : Int) : spec_l1In.f a b c = some (decide (b ≤ a ∧ a ≤ c)) := by
  unfold spec_l1In.f
  by_cases h : b ≤ a
  · simp [h]
  · simp [h]

theorem FnExactFoldSum : laws_FnExactFoldSum.Pure := by
  intro n _
  apply Ev.rounds
  unfold laws_FnExactFoldSum.f spec_FoldSum.f impl_FoldSum.f
  simp only [q_spec_l1In, q_impl_in, Option.bind_some, decide_eq_true_eq]
  by_cases h : 0 ≤ n ∧ n ≤ 281474976710656
  · simp only [if_pos h]
    refine Ev.bind (a := (0, foldv n)) (Ev.bind (ev_spec_l1Fold_f h.1 (by omega)) (ev_some _)) ?_
    refine Ev.bind (a := (0, foldv n)) (Ev.bind (ev_impl_fold_f h.1 (by omega)) (ev_some _)) ?_
    simp [laws_eqIntResult.f, ev_some]
  · simp only [if_neg h]
    simp [laws_eqIntResult.f, ev_some]

end Go.Proofs.Ytfggalllhcohaaa.Pure
