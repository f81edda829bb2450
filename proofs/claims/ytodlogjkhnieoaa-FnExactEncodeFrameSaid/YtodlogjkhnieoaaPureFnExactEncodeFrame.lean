/- Proved: the law FnExactEncodeFrame answers true at every input that Go can hand in (it says: The program's EncodeFrame returns what the reference's returns, for all arguments.) No condition beyond the statement's own. -/
import Derived.Test.YtodlogjkhnieoaaPFnExactEncodeFramex3
namespace Go.Proofs.Ytodlogjkhnieoaa.Pure
open Go.RowKit Go.Proofs.Ytodlogjkhnieoaa.PFnExactEncodeFrame Go.Proofs.YtodlogjkhnieoaaW.PrintWords Go.Proofs.YtodlogjkhnieoaaW.PrintLast Go.Proofs.YtodlogjkhnieoaaW.PrintMore
set_option linter.unusedVariables false
set_option linter.unusedSimpArgs false

theorem w64 {x : Int} (h0 : -9223372036854775808 ≤ x) (h1 : x ≤ 9223372036854775807) : wrap64 x = x := by
  unfold wrap64
  omega
theorem tmod_pos {a b : Int} (h : 0 ≤ a) : Int.tmod a b = a % b := Int.tmod_eq_emod_of_nonneg h
theorem tdiv_pos {a b : Int} (h : 0 ≤ a) : Int.tdiv a b = a / b := Int.tdiv_eq_ediv_of_nonneg h
theorem ev_some {α : Type} (r : α) : Ev (fun _ => some r) r := Ev.now r
theorem ev_pos {α : Type} {c : Prop} [Decidable c] {A B : Nat → Option α} {r : α} (h : c) (e : Ev A r) : Ev (fun k => if c then A k else B k) r := by
  simpa only [if_pos h] using e
theorem ev_neg {α : Type} {c : Prop} [Decidable c] {A B : Nat → Option α} {r : α} (h : ¬ c) (e : Ev B r) : Ev (fun k => if c then A k else B k) r := by
  simpa only [if_neg h] using e
theorem ev_opt {α β : Type} {o : Option α} {f : Nat → α → Option β} {a : α} {r : β} (h : o = some a) (e : Ev (fun n => f n a) r) : Ev (fun n => o.bind (f n)) r := by
  simpa only [h, Option.bind_some] using e
theorem ev_to {α : Type} {g : Nat → Option α} {r r' : α} (e : Ev g r) (h : r = r') : Ev g r' := h ▸ e
theorem ev_fix {α : Type} {o : Option α} {r : α} (h : o = some r) : Ev (fun _ => o) r := ⟨0, fun _ _ => h⟩
theorem rd_nat (l : List Int) (i : Nat) (h : i < l.length) : rd l (i : Int) = l[i] := by
  unfold rd
  simp [List.getD_eq_getElem?_getD, h]
theorem rd_mem (l : List Int) (i : Int) (h0 : 0 ≤ i) (h : i < l.length) : rd l i ∈ l := by
  obtain ⟨n, rfl⟩ := Int.eq_ofNat_of_zero_le h0
  rw [rd_nat l n (by omega)]
  exact List.getElem_mem _
theorem u8_range {x : Int} (h : (Lit.int .u8 x).wf = true) : 0 ≤ x ∧ x ≤ 255 := by
  simp [Lit.wf, IntKind.min, IntKind.max, IntKind.signed, IntKind.bits] at h
  omega
theorem i64_range {x : Int} (h : (Lit.int .i64 x).wf = true) : -9223372036854775808 ≤ x ∧ x ≤ 9223372036854775807 := by
  simp [Lit.wf, IntKind.min, IntKind.max, IntKind.signed, IntKind.bits] at h
  omega
theorem set_mid {α : Type} (a : List α) (x : α) (b : List α) (y : α) : (a ++ x :: b).set a.length y = a ++ y :: b := by simp
theorem take_full {α : Type} {a b : List α} (hl : b.length = a.length) (ht : b.take a.length = a.take a.length) : b = a := by
  rw [List.take_of_length_le (by omega), List.take_of_length_le (by omega)] at ht
  exact ht
theorem take_next {α : Type} {a b : List α} {i : Nat} (ha : i < a.length) (hb : i < b.length) (ht : b.take i = a.take i) (hx : b[i] = a[i]) : b.take (i + 1) = a.take (i + 1) := by
  rw [List.take_succ_eq_append_getElem ha, List.take_succ_eq_append_getElem hb, ht, hx]
theorem ev_cond {α : Type} {c : Prop} [Decidable c] {A B : Nat → Option α} {r r' : α} (hp : c → Ev A r) (hn : ¬ c → Ev B r') : Ev (fun k => if c then A k else B k) (if c then r else r') := by
  by_cases h : c
  · rw [if_pos h]; exact ev_pos h (hp h)
  · rw [if_neg h]; exact ev_neg h (hn h)
theorem set_take {α : Type} {a b : List α} {i : Nat} {x : α} (h : i < a.length) (hl : b.length = a.length) (ht : b.take i = a.take i) (hx : x = a[i]) : (b.set i x).take (i + 1) = a.take (i + 1) := by
  refine take_next h (by simp; omega) ?_ (by simp [hx])
  rw [← ht]
  apply List.ext_getElem?
  intro j
  simp only [List.getElem?_take, List.getElem?_set]
  by_cases hj : j < i
  · rw [if_pos hj, if_pos hj, if_neg (by omega)]
  · rw [if_neg hj, if_neg hj]
theorem ev_succ {α : Type} {g : Nat → Option α} {r : α} (h : ∀ k, g (k + 1) = some r) : Ev g r := Ev.step h (ev_some r)
theorem down {P : Nat → Prop} (n : Nat) (hend : P n) (hstep : ∀ i, i < n → P (i + 1) → P i) : ∀ i, i ≤ n → P i := by
  intro i hi
  obtain ⟨d, hd⟩ : ∃ d, i + d = n := ⟨n - i, by omega⟩
  induction d generalizing i with
  | zero =>
    obtain rfl : i = n := by omega
    exact hend
  | succ d ih => exact hstep i (by omega) (ih (i + 1) (by omega) (by omega))
theorem getD_nat {α : Type} (l : List α) (z : α) (i : Nat) (h : i < l.length) : l.getD (i : Int).toNat z = l[i] := by
  simp [List.getD_eq_getElem?_getD, h]
/-- A loop that writes the image of each element into its place. -/
theorem map_loop {α β : Type} (F : Nat → List β → Int → Option (List β)) (l : List α) (c : α → β)
    (hend : ∀ k (b : List β), F (k + 1) b l.length = some b) (hstep : ∀ k (b : List β) (i : Nat) (h : i < l.length), b.length = l.length → F (k + 1) b i = F k (b.set i (c l[i])) ((i + 1 : Nat) : Int)) :
    ∀ (b : List β), b.length = l.length → Ev (fun k => F k b 0) (l.map c) := by
  have key : ∀ (i : Nat), i ≤ l.length → ∀ (b : List β), b.length = l.length → b.take i = (l.map c).take i → Ev (fun k => F k b i) (l.map c) := by
    refine down l.length ?_ ?_
    · intro b hl ht
      refine Ev.step (fun k => hend k b) ?_
      rw [take_full (a := l.map c) (b := b) (by simpa using hl) (by simpa using ht)]
      exact ev_some _
    · intro i hi ih b hl ht
      refine Ev.step (fun k => hstep k b i hi hl) (ih _ (by simpa using hl) ?_)
      exact set_take (by simpa using hi) (by simpa using hl) ht (by simp)
  intro b hl
  exact key 0 (by omega) b hl (by simp)
/-- A loop that goes through all places and answers r. -/
theorem count_loop {ρ : Type} (F : Nat → Int → Option ρ) (n : Nat) (r : ρ) (hend : ∀ k, F (k + 1) n = some r) (hstep : ∀ k (i : Nat), i < n → F (k + 1) i = F k ((i + 1 : Nat) : Int)) : Ev (fun k => F k 0) r := by
  have key : ∀ i, i ≤ n → Ev (fun k => F k (i : Nat)) r := down n (Ev.step hend (ev_some r)) (fun i hi ih => Ev.step (fun k => hstep k i hi) ih)
  exact key 0 (by omega)

def nb (n : Int) : Nat → List Int
  | 0 => []
  | s + 1 => nb (n / 256) s ++ [n % 256]
theorem nb_length (s : Nat) : ∀ n : Int, (nb n s).length = s := by
  induction s with
  | zero => intro n; rfl
  | succ s ih => intro n; rw [nb, List.length_append, ih]; rfl
theorem nb_bytes (s : Nat) : ∀ n : Int, ∀ x ∈ nb n s, 0 ≤ x ∧ x ≤ 255 := by
  induction s with
  | zero => intro n x hx; simp [nb] at hx
  | succ s ih =>
    intro n x hx
    rw [nb, List.mem_append] at hx
    rcases hx with hx | hx
    · exact ih _ x hx
    · simp at hx
      omega
theorem nb_cons (s : Nat) : ∀ n : Int, nb n (s + 1) = (n / 256 ^ s) % 256 :: nb n s := by
  induction s with
  | zero => intro n; simp [nb]
  | succ s ih =>
    intro n
    rw [nb, ih (n / 256), nb, List.cons_append]
    congr 2
    rw [Int.ediv_ediv_of_nonneg (by omega), Int.pow_succ, Int.mul_comm]

def frameOk (a b c d : Int) : Prop := (1 ≤ a ∧ a ≤ 9) ∧ (0 ≤ b ∧ b ≤ 4294967295) ∧ (0 ≤ c ∧ c ≤ 4294967295) ∧ 0 ≤ d ∧ d ≤ 4294967295
instance (a b c d : Int) : Decidable (frameOk a b c d) := by unfold frameOk; exact inferInstance
def frameF (a b c d : Int) (l : List Int) : Int × List Int := if frameOk a b c d then (if (l.length : Int) > 300 then (2, []) else (0, [32, a % 256] ++ nb b 4 ++ nb c 4 ++ nb d 4 ++ nb (l.length : Int) 2 ++ l)) else (3, [])
theorem frameF_len (a b c d : Int) (l : List Int) : (frameF a b c d l).2.length ≤ 400 := by
  unfold frameF
  split
  · split
    · simp
    · simp only [List.length_append, nb_length, List.length_cons, List.length_nil]
      omega
  · simp

theorem u64_small (x : Int) (h0 : 0 ≤ x) (h : x < 18446744073709551616) : IntKind.u64.wrap x = x := by
  simp [IntKind.wrap, IntKind.signed, IntKind.bits]
  omega
theorem shr8 (n : Int) (i : Nat) (h : i ≤ 7) : shr .i64 n (IntKind.u64.wrap (wrap64 (8 * (i : Int)))) = n / 256 ^ i := by
  rw [w64 (by omega) (by omega)]
  have e : IntKind.u64.wrap (8 * (i : Int)) = 8 * (i : Int) := u64_small _ (by omega) (by omega)
  rw [e]
  unfold shr
  have e2 : min (8 * (i : Int)).toNat IntKind.i64.bits = 8 * i := by
    simp [IntKind.bits]
    omega
  rw [e2, Int.pow_mul]
  rfl
theorem ev_spec_l1Bytes_loop (n : Int) : ∀ (i : Nat) (b : List Int), i ≤ 8 → b.length + i ≤ 1000 → Ev (fun k => spec_l1Bytes.l0 k n b ((i : Int) - 1)) (b ++ nb n i) := by
  intro i
  induction i with
  | zero =>
    intro b _ _
    refine Ev.step (fun k => by rw [spec_l1Bytes.l0, if_neg (by omega)]) ?_
    rw [nb, List.append_nil]
    exact ev_some _
  | succ i ih =>
    intro b hi hb
    have hs := shr8 n i (by omega)
    have hw : 0 ≤ IntKind.u64.wrap (wrap64 (8 * (i : Int))) := by
      rw [w64 (by omega) (by omega), u64_small _ (by omega) (by omega)]
      omega
    have e : (((i + 1 : Nat) : Int) - 1) = (i : Int) := by omega
    refine Ev.step (fun k => by rw [e, spec_l1Bytes.l0, if_pos (show (i : Int) ≥ 0 by omega), if_pos hw, if_pos (show b.length < 140737488355328 by omega), hs, w64 (by omega) (by omega)]) ?_
    rw [nb_cons]
    have h := ih (b ++ [n / 256 ^ i % 256]) (by omega) (by simp; omega)
    rw [List.append_assoc] at h
    exact h
theorem ev_spec_l1Bytes (n : Int) (s : Nat) (h : s ≤ 8) : Ev (fun k => spec_l1Bytes.f k n s) (nb n s) := by
  unfold spec_l1Bytes.f
  rw [w64 (by omega) (by omega)]
  exact ev_spec_l1Bytes_loop n s [] h (by simp; omega)

theorem q_spec_l1In (a b c : Int) : spec_l1In.f a b c = some (decide (b ≤ a ∧ a ≤ c)) := by
  unfold spec_l1In.f
  by_cases h : b ≤ a
  · simp [h]
  · simp [h]

theorem ev_spec_EncodeFrame0 (a b c d : Int) (l : List Int) (t : Bool) (ht : (!t) = decide (frameOk a b c d)) : Ev (fun k => spec_EncodeFrame.j0 k a b c d l t) (frameF a b c d l) := by
  refine Ev.step (fun k => by rw [spec_EncodeFrame.j0]) ?_
  unfold frameF
  by_cases h : frameOk a b c d
  · rw [if_pos h]
    obtain rfl : t = false := by simpa [h] using ht
    refine ev_neg (by simp) ?_
    by_cases g : (l.length : Int) > 300
    · rw [if_pos g]
      exact ev_pos g (ev_some _)
    · rw [if_neg g]
      refine ev_neg g (ev_opt rfl (Ev.bind (ev_spec_l1Bytes b 4 (by omega)) (ev_pos ?_ (ev_opt rfl (Ev.bind (ev_spec_l1Bytes c 4 (by omega)) (ev_pos ?_ (ev_opt rfl (Ev.bind (ev_spec_l1Bytes d 4 (by omega)) (ev_pos ?_ (ev_opt rfl (Ev.bind (ev_spec_l1Bytes (l.length : Int) 2 (by omega)) (ev_pos ?_ (ev_opt rfl (ev_pos ?_ (ev_some _)))))))))))))))
      all_goals
        simp only [List.length_append, nb_length, List.length_cons, List.length_nil]
        omega
  · rw [if_neg h]
    obtain rfl : t = true := by simpa [h] using ht
    exact ev_pos rfl (ev_some _)
theorem ev_spec_EncodeFrame (a b c d : Int) (l : List Int) : Ev (fun k => spec_EncodeFrame.f k a b c d l) (frameF a b c d l) := by
  unfold spec_EncodeFrame.f spec_l7Word.f
  simp only [q_spec_l1In, Option.bind_some]
  by_cases h1 : 1 ≤ a ∧ a ≤ 9
  · refine ev_pos (decide_eq_true h1) ?_
    by_cases h2 : 0 ≤ b ∧ b ≤ 4294967295
    · refine ev_pos (decide_eq_true h2) ?_
      by_cases h3 : 0 ≤ c ∧ c ≤ 4294967295
      · refine ev_pos (decide_eq_true h3) ?_
        exact ev_spec_EncodeFrame0 a b c d l _ (by simp [frameOk, h1, h2, h3])
      · exact ev_neg (by simpa using h3) (ev_spec_EncodeFrame0 a b c d l _ (by simp only [frameOk, h3, false_and, and_false]; rfl))
    · exact ev_neg (by simpa using h2) (ev_spec_EncodeFrame0 a b c d l _ (by simp only [frameOk, h2, false_and, and_false]; rfl))
  · exact ev_neg (by simpa using h1) (ev_spec_EncodeFrame0 a b c d l _ (by simp only [frameOk, h1, false_and]; rfl))

theorem ev_impl_put_loop : ∀ (i : Nat) (n : Int) (b : List Int), i ≤ b.length → b.length ≤ 1000 → Ev (fun k => impl_put.l0 k n b ((i : Int) - 1)) (nb n i ++ b.drop i) := by
  intro i
  induction i with
  | zero =>
    intro n b _ _
    refine Ev.step (fun k => by rw [impl_put.l0, if_neg (by omega)]) ?_
    rw [nb, List.nil_append, List.drop_zero]
    exact ev_some _
  | succ i ih =>
    intro n b hi hb
    have e : (((i + 1 : Nat) : Int) - 1) = (i : Int) := by omega
    refine Ev.step (fun k => by rw [e, impl_put.l0, if_pos (by omega), if_pos (by omega), if_pos (by omega), Int.toNat_natCast, w64 (by omega) (by omega)]) ?_
    have h := ih (n / 256) (b.set i (n % 256)) (by simp; omega) (by simpa using hb)
    refine ev_to h ?_
    rw [nb, List.append_assoc]
    congr 1
    rw [List.drop_eq_getElem_cons (by simp; omega : i < (b.set i (n % 256)).length), List.getElem_set_self, List.drop_set_of_lt (by omega)]
    rfl
theorem ev_impl_put (n : Int) (s : Nat) (h : s ≤ 8) : Ev (fun k => impl_put.f k n s) (nb n s) := by
  unfold impl_put.f
  refine ev_pos (by omega) (ev_pos (by omega) ?_)
  rw [w64 (by omega) (by omega), Int.toNat_natCast]
  have h := ev_impl_put_loop s n (List.replicate s 0) (by simp) (by simp; omega)
  refine ev_to h ?_
  simp

theorem q_impl_in (a b c : Int) : impl_in.f a b c = some (decide (b ≤ a ∧ a ≤ c)) := by
  unfold impl_in.f
  by_cases h : b ≤ a
  · simp [h]
  · simp [h]

theorem q_concat6 (a b c d e f : List Int) (h : a.length + b.length + c.length + d.length + e.length + f.length ≤ 1000000) : slices_Concat_byte_byte.f [a, b, c, d, e, f] = some (a ++ b ++ c ++ d ++ e ++ f) := by
  unfold slices_Concat_byte_byte.f
  rw [if_pos ⟨by simp, by simp [slices_Concat_byte_byte.s0]; omega⟩]
  simp
theorem ev_impl_EncodeFrame0 (a b c d : Int) (l : List Int) (t : Bool) (ht : (!t) = decide (frameOk a b c d)) : Ev (fun k => impl_EncodeFrame.j0 k a b c d l t) (frameF a b c d l) := by
  refine Ev.step (fun k => by rw [impl_EncodeFrame.j0]) ?_
  unfold frameF
  by_cases h : frameOk a b c d
  · rw [if_pos h]
    obtain rfl : t = false := by simpa [h] using ht
    refine ev_neg (by simp) ?_
    by_cases g : (l.length : Int) > 300
    · rw [if_pos g]
      exact ev_pos g (ev_some _)
    · rw [if_neg g]
      refine ev_neg g (Ev.bind (ev_impl_put b 4 (by omega)) (Ev.bind (ev_impl_put c 4 (by omega)) (Ev.bind (ev_impl_put d 4 (by omega)) (Ev.bind (ev_impl_put (l.length : Int) 2 (by omega)) (ev_opt (q_concat6 _ _ _ _ _ _ ?_) (ev_some _))))))
      simp only [nb_length, List.length_cons, List.length_nil]
      omega
  · rw [if_neg h]
    obtain rfl : t = true := by simpa [h] using ht
    exact ev_pos rfl (ev_some _)
theorem ev_impl_EncodeFrame (a b c d : Int) (l : List Int) : Ev (fun k => impl_EncodeFrame.f k a b c d l) (frameF a b c d l) := by
  unfold impl_EncodeFrame.f impl_isWord.f
  simp only [q_impl_in, Option.bind_some]
  by_cases h1 : 1 ≤ a ∧ a ≤ 9
  · refine ev_pos (decide_eq_true h1) ?_
    by_cases h2 : 0 ≤ b ∧ b ≤ 4294967295
    · refine ev_pos (decide_eq_true h2) ?_
      by_cases h3 : 0 ≤ c ∧ c ≤ 4294967295
      · refine ev_pos (decide_eq_true h3) ?_
        exact ev_impl_EncodeFrame0 a b c d l _ (by simp [frameOk, h1, h2, h3])
      · exact ev_neg (by simpa using h3) (ev_impl_EncodeFrame0 a b c d l _ (by simp only [frameOk, h3, false_and, and_false]; rfl))
    · exact ev_neg (by simpa using h2) (ev_impl_EncodeFrame0 a b c d l _ (by simp only [frameOk, h2, false_and, and_false]; rfl))
  · exact ev_neg (by simpa using h1) (ev_impl_EncodeFrame0 a b c d l _ (by simp only [frameOk, h1, false_and]; rfl))

theorem ev_markByteS_loop : ∀ (d i : Nat) (b : List Int), i + d = b.length → b.length ≤ 4294967296 → (∀ j : Nat, j < i → b[j]? = some ((1 + (j : Int)) % 256)) →
    ∃ r, Ev (fun k => laws_markByteS.l0 k b (1 + (i : Int)) i) (1 + (b.length : Int), r) ∧ r.length = b.length ∧ ∀ j : Nat, j < b.length → r[j]? = some ((1 + (j : Int)) % 256) := by
  intro d
  induction d with
  | zero =>
    intro i b hi hl hj
    obtain rfl : i = b.length := by omega
    refine ⟨b, Ev.step (fun k => by rw [laws_markByteS.l0, if_neg (by omega)]) ?_, rfl, hj⟩
    exact ev_some _
  | succ d ih =>
    intro i b hi hl hj
    obtain ⟨r, hr, hrl, hrj⟩ := ih (i + 1) (b.set i ((1 + (i : Int)) % 256)) (by simp; omega) (by simpa using hl) (fun j h => by
      rw [List.getElem?_set]
      by_cases e : i = j
      · subst e
        rw [if_pos rfl, if_pos (by omega)]
      · rw [if_neg e]
        exact hj j (by omega))
    rw [List.length_set] at hr hrl hrj
    refine ⟨r, Ev.step (fun k => by rw [laws_markByteS.l0, if_pos (by omega), if_pos (by omega), Int.toNat_natCast, w64 (by omega) (by omega), w64 (by omega) (by omega)]) ?_, hrl, hrj⟩
    rw [show 1 + (i : Int) + 1 = 1 + ((i + 1 : Nat) : Int) from by omega]
    exact hr
theorem ev_heldByteS_loop (r : List Int) (hl : r.length ≤ 4294967296) (hj : ∀ j : Nat, j < r.length → r[j]? = some ((1 + (j : Int)) % 256)) : ∀ i, i ≤ r.length → Ev (fun k => laws_heldByteS.l0 k r (1 + (i : Int)) i) (1 + (r.length : Int)) := by
  refine down r.length ?_ ?_
  · refine Ev.step (fun k => by rw [laws_heldByteS.l0, if_neg (by omega)]) ?_
    exact ev_some _
  · intro i hi ih
    have h1 := hj i hi
    rw [List.getElem?_eq_getElem hi] at h1
    have h2 : rd r (i : Int) = (1 + (i : Int)) % 256 := by
      rw [rd_nat r i hi]
      exact Option.some.inj h1
    refine Ev.step (fun k => by rw [laws_heldByteS.l0, if_pos (by omega), if_pos (by omega), if_pos h2, w64 (by omega) (by omega), w64 (by omega) (by omega)]) ?_
    rw [show 1 + (i : Int) + 1 = 1 + ((i + 1 : Nat) : Int) from by omega]
    exact ih
/-- Marks laid into a row of bytes are found there again. -/
theorem ev_markheldByteS (l : List Int) (hl : l.length ≤ 4294967296) : ∃ r, Ev (fun k => laws_markByteS.f k l 1) (1 + (l.length : Int), r) ∧ Ev (fun k => laws_heldByteS.f k r 1) (1 + (l.length : Int)) := by
  obtain ⟨r, hr, hrl, hrj⟩ := ev_markByteS_loop l.length 0 l (by omega) hl (fun j h => by omega)
  have h := ev_heldByteS_loop r (by omega) (fun j h => hrj j (by omega)) 0 (by omega)
  rw [hrl] at h
  exact ⟨r, hr, h⟩

theorem ev_eqByteS_loop (a b : List Int) (hn : a.length ≤ 140737488355328) (hl : b.length = a.length) : ∀ (d i : Nat), i + d = a.length → b.take i = a.take i → Ev (fun k => laws_eqByteS.l0 k a b i) (decide (a = b)) := by
  intro d
  induction d with
  | zero =>
    intro i hi ht
    refine Ev.step (fun k => by rw [laws_eqByteS.l0, if_neg (by omega)]) ?_
    obtain rfl : i = a.length := by omega
    rw [take_full hl ht]
    simpa using ev_some true
  | succ d ih =>
    intro i hi ht
    by_cases he : rd a i = rd b i
    · refine Ev.step (fun k => by rw [laws_eqByteS.l0, if_pos (by omega), if_pos (by omega), if_pos (by omega), if_pos he]) ?_
      rw [w64 (by omega) (by omega)]
      rw [rd_nat a i (by omega), rd_nat b i (by omega)] at he
      exact ih (i + 1) (by omega) (take_next (by omega) (by omega) ht he.symm)
    · refine Ev.step (fun k => by rw [laws_eqByteS.l0, if_pos (by omega), if_pos (by omega), if_pos (by omega), if_neg he]) ?_
      have : a ≠ b := fun h => he (by rw [h])
      simpa [this] using ev_some false
theorem ev_eqByteS {a b : List Int} (hn : a.length ≤ 140737488355328) : Ev (fun k => laws_eqByteS.f k a b) (decide (a = b)) := by
  unfold laws_eqByteS.f
  by_cases h : (a.length : Int) = b.length
  · exact ev_pos h (ev_eqByteS_loop a b hn (by omega) a.length 0 (by omega) (by simp))
  · refine ev_neg h ?_
    have : a ≠ b := fun h' => h (by rw [h'])
    simpa [this] using ev_some false
theorem ev_eqByteS_refl {a : List Int} (hn : a.length ≤ 140737488355328) : Ev (fun k => laws_eqByteS.f k a a) true := by
  simpa using ev_eqByteS (b := a) hn

theorem ev_markheldBytesResult (c : Int) (l : List Int) (hl : l.length ≤ 4294967296) : ∃ r, Ev (fun k => laws_markBytesResult.f k c l 1) (1 + (l.length : Int), r) ∧ Ev (fun k => laws_heldBytesResult.f k c r 1) (1 + (l.length : Int)) := by
  obtain ⟨r, h1, h2⟩ := ev_markheldByteS l hl
  refine ⟨r, ?_, ?_⟩
  · unfold laws_markBytesResult.f
    exact Ev.bind h1 (ev_some _)
  · unfold laws_heldBytesResult.f
    exact Ev.bind h2 (ev_neg (by omega) (ev_some _))
theorem ev_eqBytesResult (c : Int) (l : List Int) (hl : l.length ≤ 4294967296) : Ev (fun k => laws_eqBytesResult.f k c l c l) true := by
  unfold laws_eqBytesResult.f
  exact ev_pos rfl (Ev.bind (ev_eqByteS_refl (by omega)) (ev_pos rfl (ev_some _)))

theorem ev_toByteS_loop (a : List Int) (hn : a.length ≤ 140737488355328) : ∀ (d i : Nat) (b : List Int), i + d = a.length → b.length = a.length → b.take i = a.take i → Ev (fun k => laws_toByteS.l0 k a b i) a := by
  intro d
  induction d with
  | zero =>
    intro i b hi hl ht
    refine Ev.step (fun k => by rw [laws_toByteS.l0, if_neg (by omega)]) ?_
    obtain rfl : i = a.length := by omega
    rw [take_full hl ht]
    exact ev_some a
  | succ d ih =>
    intro i b hi hl ht
    refine Ev.step (fun k => by rw [laws_toByteS.l0, if_pos (by omega), if_pos (by omega), if_pos (by omega)]) ?_
    rw [w64 (by omega) (by omega), Int.toNat_natCast]
    exact ih (i + 1) _ (by omega) (by simpa using hl) (set_take (by omega) hl ht (rd_nat a i (by omega)))
theorem ev_toByteS {a : List Int} (hn : a.length ≤ 140737488355328) : Ev (fun k => laws_toByteS.f k a) a := by
  unfold laws_toByteS.f
  refine ev_pos (by omega) (ev_pos (by omega) ?_)
  exact ev_toByteS_loop a hn a.length 0 _ (by omega) (by simp) (by simp)

theorem FnExactEncodeFrame : laws_FnExactEncodeFrame.Pure := by
  intro a b c d l _ _ _ _ _ _ _
  apply Ev.rounds
  unfold laws_FnExactEncodeFrame.f
  by_cases h : (l.length : Int) > 1048576
  · exact ev_pos h (ev_some _)
  · have hl := frameF_len a b c d l
    obtain ⟨r0, h0, _⟩ := ev_markheldByteS l (by omega)
    obtain ⟨r, h1, h2⟩ := ev_markheldBytesResult (frameF a b c d l).1 (frameF a b c d l).2 (by omega)
    have heq := ev_eqBytesResult (frameF a b c d l).1 (frameF a b c d l).2 (by omega)
    have hb := ev_toByteS (a := l) (by omega)
    refine ev_neg h (Ev.bind hb (Ev.bind (ev_spec_EncodeFrame a b c d l) (Ev.bind hb (Ev.bind (ev_impl_EncodeFrame a b c d l) (Ev.bind heq (ev_pos rfl (Ev.bind hb (Ev.bind (ev_eqByteS_refl (by omega)) (ev_pos rfl (Ev.bind h0 (ev_neg (by dsimp only; omega) (Ev.bind heq ?_))))))))))))
    refine Ev.step (fun k => by rw [laws_FnExactEncodeFrame.j0, if_neg (by simp)]) ?_
    refine Ev.bind h1 (Ev.bind h2 (ev_neg (by omega) (ev_pos rfl (Ev.bind hb (Ev.bind (ev_impl_EncodeFrame a b c d l) (Ev.bind heq (ev_pos rfl ?_)))))))
    exact Ev.bind h2 (ev_neg (by omega) (ev_pos rfl (ev_some _)))

end Go.Proofs.Ytodlogjkhnieoaa.Pure
