
/- Proved: the law FnExactPolicyText answers true at every input that Go can hand in (it says: The program's PolicyText returns what the reference's returns, for all arguments.) No condition beyond the statement's own. -/
import Derived.Test.YtbficbiignpnoaaDoorStFnExactPolicyText
namespace Go.Proofs.YtbficbiignpnoaaDoor.Pure
open Go.RowKit Go.Proofs.YtbficbiignpnoaaDoor.PFnExactPolicyText Go.Proofs.YtbficbiignpnoaaDoorW.PrintWords Go.Proofs.YtbficbiignpnoaaDoorW.PrintLast Go.Proofs.YtbficbiignpnoaaDoorW.PrintMore
set_option linter.unusedVariables false
set_option linter.unusedSimpArgs false

theorem w64 {x : Int} (h0 : -9223372036854775808 ≤ x) (h1 : x ≤ 9223372036854775807) : wrap64 x = x := by
  unfold wrap64
  omega
theorem tmod_pos {a b : Int} (h : 0 ≤ a) : Int.tmod a b = a % b := Int.tmod_eq_emod_of_nonneg h
theorem tdiv_pos {a b : Int} (h : 0 ≤ a) : Int.tdiv a b = a / b := Int.tdiv_eq_ediv_of_nonneg h
theorem ev_some {α : Type} (r : α) : Ev (fun _ => some r) r := Ev.now r
theorem ev_pos {α : Type} {c : Prop} [Decidable c] {A B : Nat → Option α} {r : α} (h : c) (e : Ev A r) : Ev (fun k => if c then A k else B k) r := by
  simpa only [if_pos h] using e
theorem ev_neg {α : Type} {c : Prop} [Decidable c] {A B : Nat → Option α} {r : α} (h : ¬ c) (e : Ev B r) : Ev (fun k => if c then A k else B k) r := by
  simpa only [if_neg h] using e
theorem ev_opt {α β : Type} {o : Option α} {f : Nat → α → Option β} {a : α} {r : β} (h : o = some a) (e : Ev (fun n => f n a) r) : Ev (fun n => o.bind (f n)) r := by
  simpa only [h, Option.bind_some] using e
theorem ev_to {α : Type} {g : Nat → Option α} {r r' : α} (e : Ev g r) (h : r = r') : Ev g r' := h ▸ e
theorem ev_fix {α : Type} {o : Option α} {r : α} (h : o = some r) : Ev (fun _ => o) r := ⟨0, fun _ _ => h⟩
theorem take_full {α : Type} {a b : List α} (hl : b.length = a.length) (ht : b.take a.length = a.take a.length) : b = a := by
  rw [List.take_of_length_le (by omega), List.take_of_length_le (by omega)] at ht
  exact ht
theorem take_next {α : Type} {a b : List α} {i : Nat} (ha : i < a.length) (hb : i < b.length) (ht : b.take i = a.take i) (hx : b[i] = a[i]) : b.take (i + 1) = a.take (i + 1) := by
  rw [List.take_succ_eq_append_getElem ha, List.take_succ_eq_append_getElem hb, ht, hx]
theorem ev_cond {α : Type} {c : Prop} [Decidable c] {A B : Nat → Option α} {r r' : α} (hp : c → Ev A r) (hn : ¬ c → Ev B r') : Ev (fun k => if c then A k else B k) (if c then r else r') := by
  by_cases h : c
  · rw [if_pos h]; exact ev_pos h (hp h)
  · rw [if_neg h]; exact ev_neg h (hn h)
theorem set_take {α : Type} {a b : List α} {i : Nat} {x : α} (h : i < a.length) (hl : b.length = a.length) (ht : b.take i = a.take i) (hx : x = a[i]) : (b.set i x).take (i + 1) = a.take (i + 1) := by
  refine take_next h (by simp; omega) ?_ (by simp [hx])
  rw [← ht]
  apply List.ext_getElem?
  intro j
  simp only [List.getElem?_take, List.getElem?_set]
  by_cases hj : j < i
  · rw [if_pos hj, if_pos hj, if_neg (by omega)]
  · rw [if_neg hj, if_neg hj]
theorem ev_succ {α : Type} {g : Nat → Option α} {r : α} (h : ∀ k, g (k + 1) = some r) : Ev g r := Ev.step h (ev_some r)
theorem down {P : Nat → Prop} (n : Nat) (hend : P n) (hstep : ∀ i, i < n → P (i + 1) → P i) : ∀ i, i ≤ n → P i := by
  intro i hi
  obtain ⟨d, hd⟩ : ∃ d, i + d = n := ⟨n - i, by omega⟩
  induction d generalizing i with
  | zero =>
    obtain rfl : i = n := by omega
    exact hend
  | succ d ih => exact hstep i (by omega) (ih (i + 1) (by omega) (by omega))
theorem getD_nat {α : Type} (l : List α) (z : α) (i : Nat) (h : i < l.length) : l.getD (i : Int).toNat z = l[i] := by
  simp [List.getD_eq_getElem?_getD, h]
/-- A loop that writes the image of each element into its place. -/
theorem map_loop {α β : Type} (F : Nat → List β → Int → Option (List β)) (l : List α) (c : α → β)
    (hend : ∀ k (b : List β), F (k + 1) b l.length = some b) (hstep : ∀ k (b : List β) (i : Nat) (h : i < l.length), b.length = l.length → F (k + 1) b i = F k (b.set i (c l[i])) ((i + 1 : Nat) : Int)) :
    ∀ (b : List β), b.length = l.length → Ev (fun k => F k b 0) (l.map c) := by
  have key : ∀ (i : Nat), i ≤ l.length → ∀ (b : List β), b.length = l.length → b.take i = (l.map c).take i → Ev (fun k => F k b i) (l.map c) := by
    refine down l.length ?_ ?_
    · intro b hl ht
      refine Ev.step (fun k => hend k b) ?_
      rw [take_full (a := l.map c) (b := b) (by simpa using hl) (by simpa using ht)]
      exact ev_some _
    · intro i hi ih b hl ht
      refine Ev.step (fun k => hstep k b i hi hl) (ih _ (by simpa using hl) ?_)
      exact set_take (by simpa using hi) (by simpa using hl) ht (by simp)
  intro b hl
  exact key 0 (by omega) b hl (by simp)
/-- A loop that goes through all places and answers r. -/
theorem count_loop {ρ : Type} (F : Nat → Int → Option ρ) (n : Nat) (r : ρ) (hend : ∀ k, F (k + 1) n = some r) (hstep : ∀ k (i : Nat), i < n → F (k + 1) i = F k ((i + 1 : Nat) : Int)) : Ev (fun k => F k 0) r := by
  have key : ∀ i, i ≤ n → Ev (fun k => F k (i : Nat)) r := down n (Ev.step hend (ev_some r)) (fun i hi ih => Ev.step (fun k => hstep k i hi) ih)
  exact key 0 (by omega)

def dig (n : Int) : ByteArray := ⟨(Lib.decDigits n.toNat).toArray⟩
theorem dig_size (n : Int) : (dig n).size = Lib.nDigits n.toNat := by
  rw [← Lib.decDigits_length]
  rfl
theorem nDigits_le : ∀ (d u : Nat), u < 10 ^ (d + 1) → Lib.nDigits u ≤ d + 1 := by
  intro d
  induction d with
  | zero =>
    intro u h
    rw [Lib.nDigits, dif_pos (by omega)]
    omega
  | succ d ih =>
    intro u h
    rw [Lib.nDigits]
    split
    · omega
    · have := ih (u / 10) (by rw [Nat.pow_succ] at h; omega)
      omega
theorem dig_size_le (n : Int) (h : n ≤ 9223372036854775807) : (dig n).size ≤ 19 := by
  rw [dig_size]
  exact nDigits_le 18 _ (by simp only [Nat.reduceAdd, Nat.reducePow]; omega)
theorem dig_size_byte (n : Int) (h : n ≤ 255) : (dig n).size ≤ 3 := by
  rw [dig_size]
  exact nDigits_le 2 _ (by simp only [Nat.reduceAdd, Nat.reducePow]; omega)
theorem dig_size_small (n : Int) (h : n ≤ 99999) : (dig n).size ≤ 5 := by
  rw [dig_size]
  exact nDigits_le 4 _ (by simp only [Nat.reduceAdd, Nat.reducePow]; omega)
theorem str_one (n : Int) (h0 : 0 ≤ n) (h : n < 10) : strOfNums [(wrap64 (48 + n)) % 256] = ⟨#[UInt8.ofNat (48 + n.toNat)]⟩ := by
  rw [w64 (by omega) (by omega)]
  have : ∀ k : Fin 10, strOfNums [(48 + ((k.val : Nat) : Int)) % 256] = ⟨#[UInt8.ofNat (48 + k.val)]⟩ := by decide +kernel
  have h1 := this ⟨n.toNat, by omega⟩
  rw [show (((⟨n.toNat, by omega⟩ : Fin 10).val : Nat) : Int) = n by simp; omega] at h1
  exact h1
theorem dig_one (n : Int) (h0 : 0 ≤ n) (h : n < 10) : dig n = strOfNums [(wrap64 (48 + n)) % 256] := by
  rw [str_one n h0 h, dig, Lib.decDigits, dif_pos (by omega)]
theorem dig_more (n : Int) (h0 : 10 ≤ n) (h : n ≤ 9223372036854775807) : dig n = dig (n / 10) ++ strOfNums [(wrap64 (48 + n % 10)) % 256] := by
  rw [str_one (n % 10) (by omega) (by omega)]
  apply ByteArray.ext
  rw [ByteArray.data_append]
  unfold dig
  rw [Lib.decDigits, dif_neg (by omega)]
  rw [show (n / 10).toNat = n.toNat / 10 by omega, show (n % 10).toNat = n.toNat % 10 by omega]
  simp
theorem ev_spec_l2Digits : ∀ (d : Nat) (n : Int), 0 ≤ n → n < 10 ^ (d + 1) → n ≤ 9223372036854775807 → Ev (fun k => spec_l2Digits.f k n) (dig n) := by
  intro d
  induction d with
  | zero =>
    intro n h0 h h1
    refine Ev.step (fun k => by rw [spec_l2Digits.f, if_pos (by omega)]) ?_
    rw [dig_one n h0 (by omega)]
    exact ev_some _
  | succ d ih =>
    intro n h0 h h1
    by_cases c : n < 10
    · refine Ev.step (fun k => by rw [spec_l2Digits.f, if_pos c]) ?_
      rw [dig_one n h0 c]
      exact ev_some _
    · refine Ev.step (fun k => by rw [spec_l2Digits.f, if_neg c]) ?_
      rw [tdiv_pos h0, tmod_pos h0, w64 (x := n / 10) (by omega) (by omega)]
      have h2 : n / 10 < 10 ^ (d + 1) := by
        rw [Int.pow_succ] at h
        omega
      refine Ev.bind (ih (n / 10) (by omega) h2 (by omega)) (ev_opt rfl (ev_pos ?_ ?_))
      · have := dig_size_le (n / 10) (by omega)
        rw [strOfNums_size]
        simp only [List.length_cons, List.length_nil]
        omega
      · rw [← dig_more n (by omega) h1]
        exact ev_some _
theorem ev_digits (n : Int) (h0 : 0 ≤ n) (h : n ≤ 9223372036854775807) : Ev (fun k => spec_l2Digits.f k n) (dig n) := ev_spec_l2Digits 18 n h0 (by omega) h
theorem itoa_dig (n : Int) (h0 : 0 ≤ n) : (⟨(Lib.itoa n).toArray⟩ : ByteArray) = dig n := by
  unfold Lib.itoa dig
  rw [if_neg (by omega)]

def nb (n : Int) : Nat → List Int
  | 0 => []
  | s + 1 => nb (n / 256) s ++ [n % 256]
theorem nb_cons (s : Nat) : ∀ n : Int, nb n (s + 1) = (n / 256 ^ s) % 256 :: nb n s := by
  induction s with
  | zero => intro n; simp [nb]
  | succ s ih =>
    intro n
    rw [nb, ih (n / 256), nb, List.cons_append]
    congr 2
    rw [Int.ediv_ediv_of_nonneg (by omega), Int.pow_succ, Int.mul_comm]

theorem u64_small (x : Int) (h0 : 0 ≤ x) (h : x < 18446744073709551616) : IntKind.u64.wrap x = x := by
  simp [IntKind.wrap, IntKind.signed, IntKind.bits]
  omega
theorem shr8 (n : Int) (i : Nat) (h : i ≤ 7) : shr .i64 n (IntKind.u64.wrap (wrap64 (8 * (i : Int)))) = n / 256 ^ i := by
  rw [w64 (by omega) (by omega)]
  have e : IntKind.u64.wrap (8 * (i : Int)) = 8 * (i : Int) := u64_small _ (by omega) (by omega)
  rw [e]
  unfold shr
  have e2 : min (8 * (i : Int)).toNat IntKind.i64.bits = 8 * i := by
    simp [IntKind.bits]
    omega
  rw [e2, Int.pow_mul]
  rfl
theorem ev_spec_l1Bytes_loop (n : Int) : ∀ (i : Nat) (b : List Int), i ≤ 8 → b.length + i ≤ 1000 → Ev (fun k => spec_l1Bytes.l0 k n b ((i : Int) - 1)) (b ++ nb n i) := by
  intro i
  induction i with
  | zero =>
    intro b _ _
    refine Ev.step (fun k => by rw [spec_l1Bytes.l0, if_neg (by omega)]) ?_
    rw [nb, List.append_nil]
    exact ev_some _
  | succ i ih =>
    intro b hi hb
    have hs := shr8 n i (by omega)
    have hw : 0 ≤ IntKind.u64.wrap (wrap64 (8 * (i : Int))) := by
      rw [w64 (by omega) (by omega), u64_small _ (by omega) (by omega)]
      omega
    have e : (((i + 1 : Nat) : Int) - 1) = (i : Int) := by omega
    refine Ev.step (fun k => by rw [e, spec_l1Bytes.l0, if_pos (show (i : Int) ≥ 0 by omega), if_pos hw, if_pos (show b.length < 140737488355328 by omega), hs, w64 (by omega) (by omega)]) ?_
    rw [nb_cons]
    have h := ih (b ++ [n / 256 ^ i % 256]) (by omega) (by simp; omega)
    rw [List.append_assoc] at h
    exact h
theorem ev_spec_l1Bytes (n : Int) (s : Nat) (h : s ≤ 8) : Ev (fun k => spec_l1Bytes.f k n s) (nb n s) := by
  unfold spec_l1Bytes.f
  rw [w64 (by omega) (by omega)]
  exact ev_spec_l1Bytes_loop n s [] h (by simp; omega)

theorem ev_impl_put_loop : ∀ (i : Nat) (n : Int) (b : List Int), i ≤ b.length → b.length ≤ 1000 → Ev (fun k => impl_put.l0 k n b ((i : Int) - 1)) (nb n i ++ b.drop i) := by
  intro i
  induction i with
  | zero =>
    intro n b _ _
    refine Ev.step (fun k => by rw [impl_put.l0, if_neg (by omega)]) ?_
    rw [nb, List.nil_append, List.drop_zero]
    exact ev_some _
  | succ i ih =>
    intro n b hi hb
    have e : (((i + 1 : Nat) : Int) - 1) = (i : Int) := by omega
    refine Ev.step (fun k => by rw [e, impl_put.l0, if_pos (by omega), if_pos (by omega), if_pos (by omega), Int.toNat_natCast, w64 (by omega) (by omega)]) ?_
    have h := ih (n / 256) (b.set i (n % 256)) (by simp; omega) (by simpa using hb)
    refine ev_to h ?_
    rw [nb, List.append_assoc]
    congr 1
    rw [List.drop_eq_getElem_cons (by simp; omega : i < (b.set i (n % 256)).length), List.getElem_set_self, List.drop_set_of_lt (by omega)]
    rfl
theorem ev_impl_put (n : Int) (s : Nat) (h : s ≤ 8) : Ev (fun k => impl_put.f k n s) (nb n s) := by
  unfold impl_put.f
  refine ev_pos (by omega) (ev_pos (by omega) ?_)
  rw [w64 (by omega) (by omega), Int.toNat_natCast]
  have h := ev_impl_put_loop s n (List.replicate s 0) (by simp) (by simp; omega)
  refine ev_to h ?_
  simp

-- an address: four numbers with dots between
def dots (a : Int) : ByteArray := dig (a / 16777216 % 256) ++ ⟨#[46]⟩ ++ dig (a / 65536 % 256) ++ ⟨#[46]⟩ ++ dig (a / 256 % 256) ++ ⟨#[46]⟩ ++ dig (a % 256)
theorem dots_size (a : Int) : (dots a).size ≤ 15 := by
  have h0 := dig_size_byte (a / 16777216 % 256) (by omega)
  have h1 := dig_size_byte (a / 65536 % 256) (by omega)
  have h2 := dig_size_byte (a / 256 % 256) (by omega)
  have h3 := dig_size_byte (a % 256) (by omega)
  unfold dots
  simp only [ByteArray.size_append]
  have e : (⟨#[46]⟩ : ByteArray).size = 1 := rfl
  omega
theorem nb_four (a : Int) : nb a 4 = [a / 16777216 % 256, a / 65536 % 256, a / 256 % 256, a % 256] := by
  simp only [nb, List.nil_append, List.cons_append]
  congr 1
  · omega
  · congr 1
    omega
theorem join_four (a b c d : ByteArray) : (⟨(Lib.join ([a, b, c, d].map fun x : ByteArray => x.data.toList) [46]).toArray⟩ : ByteArray) = a ++ ⟨#[46]⟩ ++ b ++ ⟨#[46]⟩ ++ c ++ ⟨#[46]⟩ ++ d := by
  apply ByteArray.ext
  simp [Lib.join, List.intercalate]
theorem ev_addressText (a : Int) : Ev (fun k => impl_addressText.f k a) (dots a) := by
  unfold impl_addressText.f
  refine Ev.bind (ev_impl_put a 4 (by omega)) ?_
  rw [nb_four]
  have q : ∀ x : Int, 0 ≤ x → x ≤ 255 → strconv_Itoa.f (wrap64 x) = some (dig x) := fun x h0 h1 => by
    rw [w64 (by omega) (by omega), strconv_Itoa.f, if_pos (by omega), itoa_dig x h0]
  have q0 := q (a / 16777216 % 256) (by omega) (by omega)
  have q1 := q (a / 65536 % 256) (by omega) (by omega)
  have q2 := q (a / 256 % 256) (by omega) (by omega)
  have q3 := q (a % 256) (by omega) (by omega)
  generalize ha : a / 16777216 % 256 = x0 at *
  generalize hb : a / 65536 % 256 = x1 at *
  generalize hc : a / 256 % 256 = x2 at *
  generalize hd : a % 256 = x3 at *
  have s0 := dig_size_byte x0 (by omega)
  have s1 := dig_size_byte x1 (by omega)
  have s2 := dig_size_byte x2 (by omega)
  have s3 := dig_size_byte x3 (by omega)
  refine Ev.step (fun k => by rw [impl_addressText.l0, if_pos (by simp), if_pos (by omega), if_pos (by simp), show rd [x0, x1, x2, x3] 0 = x0 from rfl, q0, Option.bind_some, if_pos (by simp), show wrap64 (0 + 1) = 1 from w64 (by omega) (by omega)]) ?_
  refine Ev.step (fun k => by rw [impl_addressText.l0, if_pos (by simp), if_pos (by omega), if_pos (by simp), show rd [x0, x1, x2, x3] 1 = x1 from rfl, q1, Option.bind_some, if_pos (by simp), show wrap64 (1 + 1) = 2 from w64 (by omega) (by omega)]) ?_
  refine Ev.step (fun k => by rw [impl_addressText.l0, if_pos (by simp), if_pos (by omega), if_pos (by simp), show rd [x0, x1, x2, x3] 2 = x2 from rfl, q2, Option.bind_some, if_pos (by simp), show wrap64 (2 + 1) = 3 from w64 (by omega) (by omega)]) ?_
  refine Ev.step (fun k => by rw [impl_addressText.l0, if_pos (by simp), if_pos (by omega), if_pos (by simp), show rd [x0, x1, x2, x3] 3 = x3 from rfl, q3, Option.bind_some, if_pos (by simp), show wrap64 (3 + 1) = 4 from w64 (by omega) (by omega)]) ?_
  refine Ev.step (fun k => by rw [impl_addressText.l0, if_neg (by simp)]) ?_
  have hj := join_four (dig x0) (dig x1) (dig x2) (dig x3)
  have hd : dots a = dig x0 ++ ⟨#[46]⟩ ++ dig x1 ++ ⟨#[46]⟩ ++ dig x2 ++ ⟨#[46]⟩ ++ dig x3 := by
    unfold dots
    rw [ha, hb, hc, hd]
  have hz := dots_size a
  rw [hd, ← hj] at hz
  refine ev_opt (a := dots a) ?_ (ev_some _)
  rw [strings_Join.f, if_pos ⟨by simp, by
    have : (Lib.join (([] ++ [dig x0] ++ [dig x1] ++ [dig x2] ++ [dig x3]).map fun x : ByteArray => x.data.toList) (⟨#[46]⟩ : ByteArray).data.toList).length ≤ 15 := hz
    omega⟩, hd, ← hj]
  rfl

theorem q_spec_l1In (a b c : Int) : spec_l1In.f a b c = some (decide (b ≤ a ∧ a ≤ c)) := by
  unfold spec_l1In.f
  by_cases h : b ≤ a
  · simp [h]
  · simp [h]

theorem ev_spec_AddressText (a : Int) (h0 : 0 ≤ a) (h1 : a ≤ 4294967295) : Ev (fun k => spec_AddressText.f k a) (0, dots a) := by
  unfold spec_AddressText.f spec_l2Address.f
  simp only [q_spec_l1In, Option.bind_some]
  refine ev_pos (decide_eq_true ⟨h0, h1⟩) (Ev.bind (ev_spec_l1Bytes a 4 (by omega)) ?_)
  rw [nb_four]
  have q : ∀ x : Int, 0 ≤ x → x ≤ 255 → Ev (fun k => spec_l2Digits.f k (wrap64 x)) (dig x) := fun x h0 h1 => by
    rw [w64 (by omega) (by omega)]
    exact ev_digits x h0 (by omega)
  have q0 := q (a / 16777216 % 256) (by omega) (by omega)
  have q1 := q (a / 65536 % 256) (by omega) (by omega)
  have q2 := q (a / 256 % 256) (by omega) (by omega)
  have q3 := q (a % 256) (by omega) (by omega)
  have hz := dots_size a
  generalize ha : a / 16777216 % 256 = x0 at *
  generalize hb : a / 65536 % 256 = x1 at *
  generalize hc : a / 256 % 256 = x2 at *
  generalize hd : a % 256 = x3 at *
  have hd : dots a = dig x0 ++ ⟨#[46]⟩ ++ dig x1 ++ ⟨#[46]⟩ ++ dig x2 ++ ⟨#[46]⟩ ++ dig x3 := by
    unfold dots
    rw [ha, hb, hc, hd]
  rw [hd] at hz
  simp only [ByteArray.size_append] at hz
  rw [hd]
  refine ev_pos (by simp) (Ev.bind (by rw [show rd [x0, x1, x2, x3] 0 = x0 from rfl]; exact q0) ?_)
  refine Ev.step (fun k => by rw [spec_AddressText.l0, if_pos (by omega)]) ?_
  refine (ev_pos (by omega) (ev_pos (by omega) (ev_pos (by simp) (Ev.bind (by rw [show rd [x0, x1, x2, x3] 1 = x1 from rfl]; exact q1) (ev_pos (by simp only [ByteArray.size_append]; omega) ?_)))))
  rw [show wrap64 (1 + 1) = 2 from w64 (by omega) (by omega)]
  refine Ev.step (fun k => by rw [spec_AddressText.l0, if_pos (by omega)]) ?_
  refine (ev_pos (by simp only [ByteArray.size_append]; omega) (ev_pos (by omega) (ev_pos (by simp) (Ev.bind (by rw [show rd [x0, x1, x2, x3] 2 = x2 from rfl]; exact q2) (ev_pos (by simp only [ByteArray.size_append]; omega) ?_)))))
  rw [show wrap64 (2 + 1) = 3 from w64 (by omega) (by omega)]
  refine Ev.step (fun k => by rw [spec_AddressText.l0, if_pos (by omega)]) ?_
  refine (ev_pos (by simp only [ByteArray.size_append]; omega) (ev_pos (by omega) (ev_pos (by simp) (Ev.bind (by rw [show rd [x0, x1, x2, x3] 3 = x3 from rfl]; exact q3) (ev_pos (by simp only [ByteArray.size_append]; omega) ?_)))))
  rw [show wrap64 (3 + 1) = 4 from w64 (by omega) (by omega)]
  refine Ev.step (fun k => by rw [spec_AddressText.l0, if_neg (by omega)]) (ev_some _)

structure Sl where
  fl : Int
  fh : Int
  tl : Int
  th : Int
  pl : Int
  ph : Int
  ql : Int
  qh : Int
  pr : Int
def rok (lo hi most : Int) : Prop := 0 ≤ lo ∧ lo ≤ hi ∧ hi ≤ most
instance (lo hi most : Int) : Decidable (rok lo hi most) := by unfold rok; infer_instance
def selOk (s : Sl) : Prop := rok s.fl s.fh 4294967295 ∧ rok s.tl s.th 4294967295 ∧ rok s.pl s.ph 65535 ∧ rok s.ql s.qh 65535 ∧ 0 ≤ s.pr ∧ s.pr ≤ 255
instance (s : Sl) : Decidable (selOk s) := by unfold selOk; infer_instance
def hasP (p : Int) : Prop := p = 6 ∨ p = 17
instance (p : Int) : Decidable (hasP p) := by unfold hasP; infer_instance
def selPorts (s : Sl) : Prop := s.pr = 0 ∨ hasP s.pr ∨ (s.pl = 0 ∧ s.ph = 65535 ∧ s.ql = 0 ∧ s.qh = 65535)
instance (s : Sl) : Decidable (selPorts s) := by unfold selPorts; infer_instance
def selF (s : Sl) : Int := if selOk s then (if selPorts s then 0 else 1) else 3

def slOf (x : S48) : Sl := ⟨x.f0.f0, x.f0.f1, x.f1.f0, x.f1.f1, x.f2.f0, x.f2.f1, x.f3.f0, x.f3.f1, x.f4⟩

def ruleF (x : S50) : Int := if selF (slOf x.f0) = 0 then (if 1 ≤ x.f1 ∧ x.f1 ≤ 3 then (if (x.f1 = 3 ∧ 1 ≤ x.f2 ∧ x.f2 ≤ 9) ∨ (x.f1 ≠ 3 ∧ x.f2 = 0) then 0 else 1) else 3) else selF (slOf x.f0)
def scanRule : List S50 → Int
  | [] => 0
  | x :: xs => if ruleF x = 0 then scanRule xs else ruleF x
def policyF (l : List S50) : Int := if 20 < l.length then 2 else scanRule l

theorem scanRule_ok : ∀ (l : List S50), scanRule l = 0 → ∀ x ∈ l, ruleF x = 0
  | [], _, _, h => absurd h (by simp)
  | y :: ys, h, x, hx => by
    rw [scanRule] at h
    by_cases g : ruleF y = 0
    · rw [if_pos g] at h
      rcases List.mem_cons.mp hx with rfl | hx
      · exact g
      · exact scanRule_ok ys h x hx
    · rw [if_neg g] at h
      exact absurd h g
theorem policyF_ok {l : List S50} (h : policyF l = 0) : l.length ≤ 20 ∧ ∀ x ∈ l, ruleF x = 0 := by
  unfold policyF at h
  split at h
  · exact absurd h (by omega)
  · exact ⟨by omega, scanRule_ok l h⟩
theorem ruleF_sel {x : S50} (h : ruleF x = 0) : selF (slOf x.f0) = 0 := by
  unfold ruleF at h
  by_cases g : selF (slOf x.f0) = 0
  · exact g
  · rw [if_neg g] at h
    exact h
theorem q_catL (a b : ByteArray) (h : a.size + b.size ≤ 1000000) : cat a b = some (a ++ b) := by
  unfold cat
  rw [if_pos (by omega)]
theorem q_decimalL (n : Int) (h0 : 0 ≤ n) (h : n ≤ 9223372036854775807) : impl_decimal.f n = some (dig n) := by
  unfold impl_decimal.f strconv_FormatInt.f
  rw [if_pos ⟨rfl, by omega, h⟩, itoa_dig n h0]
  rfl
def endsT (a b : Int) : ByteArray := dots a ++ ⟨#[45]⟩ ++ dots b
def wordT (a : Int) : ByteArray := if a = 1 then ⟨#[100, 114, 111, 112]⟩ else if a = 2 then ⟨#[112, 97, 115, 115]⟩ else ⟨#[115, 101, 97, 108]⟩
def peerT (a b : Int) : ByteArray := if a = 3 then ⟨#[32]⟩ ++ dig b else ⟨#[]⟩
def lineT (x : S50) : ByteArray := wordT x.f1 ++ ⟨#[32]⟩ ++ endsT x.f0.f0.f0 x.f0.f0.f1 ++ ⟨#[32]⟩ ++ endsT x.f0.f1.f0 x.f0.f1.f1 ++ ⟨#[32]⟩ ++ dig x.f0.f4 ++ ⟨#[32]⟩ ++ (dig x.f0.f3.f0 ++ ⟨#[45]⟩ ++ dig x.f0.f3.f1) ++ peerT x.f1 x.f2 ++ ⟨#[10]⟩
def allT : List S50 → ByteArray
  | [] => ⟨#[]⟩
  | x :: xs => lineT x ++ allT xs
theorem s1_32 : (⟨#[32]⟩ : ByteArray).size = 1 := rfl
theorem s1_45 : (⟨#[45]⟩ : ByteArray).size = 1 := rfl
theorem s1_10 : (⟨#[10]⟩ : ByteArray).size = 1 := rfl
theorem endsT_size (a b : Int) : (endsT a b).size ≤ 31 := by
  have h0 := dots_size a
  have h1 := dots_size b
  unfold endsT
  simp only [ByteArray.size_append, s1_45]
  omega
theorem wordT_size (a : Int) : (wordT a).size ≤ 4 := by
  unfold wordT
  split
  · exact Nat.le_refl 4
  · split
    · exact Nat.le_refl 4
    · exact Nat.le_refl 4
/-- What is known of a right rule's numbers. -/
theorem rule_nums {x : S50} (h : ruleF x = 0) : (1 ≤ x.f1 ∧ x.f1 ≤ 3) ∧ (x.f1 = 3 → 1 ≤ x.f2 ∧ x.f2 ≤ 9) ∧ (0 ≤ x.f0.f4 ∧ x.f0.f4 ≤ 255) ∧ (0 ≤ x.f0.f3.f0 ∧ x.f0.f3.f0 ≤ 65535) ∧ (0 ≤ x.f0.f3.f1 ∧ x.f0.f3.f1 ≤ 65535) ∧
    (0 ≤ x.f0.f0.f0 ∧ x.f0.f0.f0 ≤ 4294967295) ∧ (0 ≤ x.f0.f0.f1 ∧ x.f0.f0.f1 ≤ 4294967295) ∧ (0 ≤ x.f0.f1.f0 ∧ x.f0.f1.f0 ≤ 4294967295) ∧ (0 ≤ x.f0.f1.f1 ∧ x.f0.f1.f1 ≤ 4294967295) := by
  have g := ruleF_sel h
  unfold ruleF at h
  rw [if_pos g] at h
  unfold selF at g
  by_cases c : selOk (slOf x.f0)
  · obtain ⟨r1, r2, _, r4, r5⟩ := c
    simp only [slOf, rok] at r1 r2 r4 r5
    by_cases g1 : 1 ≤ x.f1 ∧ x.f1 ≤ 3
    · rw [if_pos g1] at h
      by_cases g2 : (x.f1 = 3 ∧ 1 ≤ x.f2 ∧ x.f2 ≤ 9) ∨ (x.f1 ≠ 3 ∧ x.f2 = 0)
      · refine ⟨g1, ?_, ?_, ?_, ?_, ?_, ?_, ?_, ?_⟩ <;> omega
      · rw [if_neg g2] at h
        exact absurd h (by omega)
    · rw [if_neg g1] at h
      exact absurd h (by omega)
  · rw [if_neg c] at g
    exact absurd g (by omega)
theorem peerT_size {a b : Int} (h : a = 3 → 1 ≤ b ∧ b ≤ 9) : (peerT a b).size ≤ 6 := by
  unfold peerT
  split
  · rename_i c
    have := h c
    have h1 := dig_size_small b (by omega)
    simp only [ByteArray.size_append, s1_32]
    omega
  · exact Nat.zero_le 6
theorem lineT_size {x : S50} (h : ruleF x = 0) : (lineT x).size ≤ 100 := by
  obtain ⟨n1, n2, n3, n4, n5, _⟩ := rule_nums h
  have h1 := wordT_size x.f1
  have h2 := endsT_size x.f0.f0.f0 x.f0.f0.f1
  have h3 := endsT_size x.f0.f1.f0 x.f0.f1.f1
  have h4 := dig_size_small x.f0.f4 (by omega)
  have h5 := dig_size_small x.f0.f3.f0 (by omega)
  have h6 := dig_size_small x.f0.f3.f1 (by omega)
  have h7 := peerT_size n2
  unfold lineT
  simp only [ByteArray.size_append, s1_32, s1_45, s1_10]
  omega
theorem rdRule_nat (l : List S50) (i : Nat) (h : i < l.length) : rd_T50 l i = l[i] := getD_nat l _ i h

theorem q_spec_HasPorts (a : Int) : spec_HasPorts.f a = some (decide (a = 6 ∨ a = 17)) := by
  unfold spec_HasPorts.f
  by_cases h : a = 6
  · simp [h]
  · by_cases g : a = 17
    · simp [g]
    · simp [h, g]
theorem q_impl_HasPorts (a : Int) : impl_HasPorts.f a = some (decide (a = 6 ∨ a = 17)) := by
  unfold impl_HasPorts.f
  by_cases h : a = 6
  · simp [h]
  · by_cases g : a = 17
    · simp [g]
    · simp [h, g]

theorem q_spec_l3Range (lo hi m : Int) : spec_l3Range.f lo hi m = some (decide (rok lo hi m)) := by
  unfold spec_l3Range.f rok
  by_cases h : 0 ≤ lo
  · by_cases g : lo ≤ hi
    · simp [h, g]
    · simp [h, g]
  · simp [h]
theorem q_spec_SelFault_j0 (k : Nat) (b : Bool) (s : Sl) : spec_SelFault.j0 (k + 1) b s.fl s.fh s.tl s.th s.pl s.ph s.ql s.qh s.pr = some (if b = true then 3 else if selPorts s then 0 else 1) := by
  rw [spec_SelFault.j0]
  simp only [q_spec_HasPorts, spec_l3All.f, Option.bind_some, decide_eq_true_eq]
  unfold selPorts hasP
  cases b
  · by_cases h1 : s.pr = 0
    · simp [h1]
    · by_cases h2 : s.pr = 6 ∨ s.pr = 17
      · simp [h1, h2]
      · by_cases h3 : s.pl = 0 <;> by_cases h4 : s.ph = 65535 <;> by_cases h5 : s.ql = 0 <;> by_cases h6 : s.qh = 65535 <;> simp [h1, h2, h3, h4, h5, h6]
  · simp
theorem q_spec_SelFault (k : Nat) (s : Sl) : spec_SelFault.f (k + 1) s.fl s.fh s.tl s.th s.pl s.ph s.ql s.qh s.pr = some (selF s) := by
  unfold spec_SelFault.f
  simp only [q_spec_l3Range, q_spec_l1In, q_spec_SelFault_j0, Option.bind_some, decide_eq_true_eq]
  unfold selF selOk
  by_cases h1 : rok s.fl s.fh 4294967295 <;> by_cases h2 : rok s.tl s.th 4294967295 <;> by_cases h3 : rok s.pl s.ph 65535 <;> by_cases h4 : rok s.ql s.qh 65535 <;> by_cases h5 : 0 ≤ s.pr ∧ s.pr ≤ 255 <;> simp [h1, h2, h3, h4, h5]
theorem ev_spec_SelFault (s : Sl) : Ev (fun k => spec_SelFault.f k s.fl s.fh s.tl s.th s.pl s.ph s.ql s.qh s.pr) (selF s) := ev_succ (fun k => q_spec_SelFault k s)

theorem ev_spec_PolicyFault_loop (l : List S50) (hl : l.length ≤ 1048576) : ∀ i, i ≤ l.length → Ev (fun k => spec_PolicyFault.l0 k l i) (scanRule (l.drop i)) := by
  refine down l.length ?_ ?_
  · rw [List.drop_length]
    refine Ev.step (fun k => by rw [spec_PolicyFault.l0, if_neg (by omega)]) ?_
    exact ev_some _
  · intro i hi ih
    rw [List.drop_eq_getElem_cons hi, scanRule]
    refine Ev.step (fun k => by rw [spec_PolicyFault.l0, if_pos (by omega), if_pos (by omega), rdRule_nat l i hi, w64 (by omega) (by omega)]) ?_
    refine Ev.bind (ev_spec_SelFault (slOf l[i].f0)) ?_
    have hr : ruleF l[i] = if selF (slOf l[i].f0) = 0 then (if 1 ≤ l[i].f1 ∧ l[i].f1 ≤ 3 then (if (l[i].f1 = 3 ∧ 1 ≤ l[i].f2 ∧ l[i].f2 ≤ 9) ∨ (l[i].f1 ≠ 3 ∧ l[i].f2 = 0) then 0 else 1) else 3) else selF (slOf l[i].f0) := rfl
    generalize hx : l[i] = x at *
    by_cases h : selF (slOf x.f0) = 0
    · refine ev_pos h (ev_opt (q_spec_l1In _ _ _) ?_)
      rw [if_pos h] at hr
      by_cases h1 : 1 ≤ x.f1 ∧ x.f1 ≤ 3
      · refine ev_pos (by simpa using h1) ?_
        rw [if_pos h1] at hr
        by_cases h3 : x.f1 = 3
        · refine ev_pos h3 (ev_opt (q_spec_l1In _ _ _) ?_)
          by_cases h4 : 1 ≤ x.f2 ∧ x.f2 ≤ 9
          · rw [if_pos (.inl ⟨h3, h4⟩)] at hr
            rw [if_pos hr]
            exact ev_pos (by simpa using h4) ih
          · rw [if_neg (by omega)] at hr
            rw [if_neg (by omega), hr]
            exact ev_neg (by simpa using h4) (ev_some _)
        · refine ev_neg h3 ?_
          by_cases h4 : x.f2 = 0
          · rw [if_pos (.inr ⟨h3, h4⟩)] at hr
            rw [if_pos hr]
            exact ev_pos h4 ih
          · rw [if_neg (by omega)] at hr
            rw [if_neg (by omega), hr]
            exact ev_neg h4 (ev_some _)
      · rw [if_neg h1] at hr
        rw [if_neg (by omega), hr]
        exact ev_neg (by simpa using h1) (ev_some _)
    · rw [if_neg h] at hr
      rw [hr, if_neg h]
      exact ev_neg h (ev_some _)
theorem ev_spec_PolicyFault (l : List S50) (hl : l.length ≤ 1048576) : Ev (fun k => spec_PolicyFault.f k l) (policyF l) := by
  unfold spec_PolicyFault.f policyF
  by_cases h1 : (l.length : Int) > 20
  · rw [if_pos (by omega)]
    exact ev_pos h1 (ev_some _)
  · rw [if_neg (by omega)]
    exact ev_neg h1 (ev_spec_PolicyFault_loop l hl 0 (by omega))

theorem ev_l4Ends (a b : Int) (ha : 0 ≤ a ∧ a ≤ 4294967295) (hb : 0 ≤ b ∧ b ≤ 4294967295) : Ev (fun k => spec_l4Ends.f k a b) (endsT a b) := by
  have h0 := dots_size a
  have h1 := dots_size b
  have z := s1_45
  unfold spec_l4Ends.f
  refine Ev.bind (ev_spec_AddressText a ha.1 ha.2) (ev_pos (by dsimp only; omega) (Ev.bind (ev_spec_AddressText b hb.1 hb.2) (ev_pos (by simp only [ByteArray.size_append]; omega) ?_)))
  exact ev_some _
theorem word_rd {a : Int} (h : 1 ≤ a ∧ a ≤ 3) : rdOf ByteArray.empty [(⟨#[]⟩ : ByteArray), (⟨#[100, 114, 111, 112]⟩ : ByteArray), (⟨#[112, 97, 115, 115]⟩ : ByteArray), (⟨#[115, 101, 97, 108]⟩ : ByteArray)] a = wordT a := by
  obtain h0 | h0 | h0 : a = 1 ∨ a = 2 ∨ a = 3 := by omega
  all_goals subst h0; rfl
theorem ev_spec_PolicyText_loop (l : List S50) (hl : l.length ≤ 20) (hok : ∀ x ∈ l, ruleF x = 0) : ∀ (d i : Nat) (acc : ByteArray), i + d = l.length → acc.size ≤ 100 * i → Ev (fun k => spec_PolicyText.l0 k l acc i) (0, acc ++ allT (l.drop i)) := by
  intro d
  induction d with
  | zero =>
    intro i acc hi hs
    obtain rfl : i = l.length := by omega
    refine Ev.step (fun k => by rw [spec_PolicyText.l0, if_neg (by omega)]) ?_
    rw [List.drop_length, allT]
    exact ev_to (ev_some _) (by rw [show (⟨#[]⟩ : ByteArray) = ByteArray.empty from rfl, ByteArray.append_empty])
  | succ d ih =>
    intro i acc hi hs
    have hlt : i < l.length := by omega
    have hx := hok l[i] (List.getElem_mem hlt)
    have hsz := lineT_size hx
    have hrd := rdRule_nat l i hlt
    have hnx : acc ++ allT (l.drop i) = (acc ++ lineT l[i]) ++ allT (l.drop (i + 1)) := by rw [List.drop_eq_getElem_cons hlt, allT, ByteArray.append_assoc]
    have hih := ih (i + 1) (acc ++ lineT l[i]) (by omega) (by rw [ByteArray.size_append]; omega)
    rw [hnx]
    generalize l[i] = x at *
    obtain ⟨n1, n2, n3, n4, n5, n6, n7, n8, n9⟩ := rule_nums hx
    have h1 := wordT_size x.f1
    have h2 := endsT_size x.f0.f0.f0 x.f0.f0.f1
    have h3 := endsT_size x.f0.f1.f0 x.f0.f1.f1
    have h4 := dig_size_small x.f0.f4 (by omega)
    have h5 := dig_size_small x.f0.f3.f0 (by omega)
    have h6 := dig_size_small x.f0.f3.f1 (by omega)
    have z1 := s1_32
    have z2 := s1_45
    have z3 := s1_10
    have hw := word_rd n1
    have E : Aside0 (wrap64 ((i : Int) + 1) = ((i + 1 : Nat) : Int)) := ⟨by rw [w64 (by omega) (by omega)]; rfl⟩
    have hp : lineT x = wordT x.f1 ++ ⟨#[32]⟩ ++ endsT x.f0.f0.f0 x.f0.f0.f1 ++ ⟨#[32]⟩ ++ endsT x.f0.f1.f0 x.f0.f1.f1 ++ ⟨#[32]⟩ ++ dig x.f0.f4 ++ ⟨#[32]⟩ ++ (dig x.f0.f3.f0 ++ ⟨#[45]⟩ ++ dig x.f0.f3.f1) ++ (if x.f1 = 3 then ⟨#[32]⟩ ++ dig x.f2 else ByteArray.empty) ++ ⟨#[10]⟩ := rfl
    have h8 : x.f1 = 3 → (dig x.f2).size ≤ 5 := fun c => dig_size_small x.f2 (by have := n2 c; omega)
    refine Ev.step (fun k => by rw [spec_PolicyText.l0, if_pos (by omega), hrd]) ?_
    refine ev_pos (by omega) (ev_opt rfl ?_)
    rw [hw, E.out]
    rw [hp] at hih ⊢
    clear hp hw hrd hsz hnx ih hok
    generalize (⟨#[32]⟩ : ByteArray) = sp at *
    generalize (⟨#[45]⟩ : ByteArray) = da at *
    generalize (⟨#[10]⟩ : ByteArray) = nl at *
    have g1 := ev_l4Ends _ _ n6 n7
    have g2 := ev_l4Ends _ _ n8 n9
    have g3 := ev_digits x.f0.f4 (by omega) (by omega)
    have g4 := ev_digits x.f0.f3.f0 (by omega) (by omega)
    have g5 := ev_digits x.f0.f3.f1 (by omega) (by omega)
    have g6 := fun c : x.f1 = 3 => ev_digits x.f2 (by have := n2 c; omega) (by have := n2 c; omega)
    refine ev_pos (by omega) (ev_pos (by simp only [List.length_cons, List.length_nil]; omega) ?_)
    generalize wordT x.f1 = w at *
    generalize endsT x.f0.f0.f0 x.f0.f0.f1 = u1 at *
    generalize endsT x.f0.f1.f0 x.f0.f1.f1 = u2 at *
    generalize dig x.f0.f4 = u3 at *
    generalize dig x.f0.f3.f0 = u4 at *
    generalize dig x.f0.f3.f1 = u5 at *
    generalize dig x.f2 = u6 at *
    refine ev_pos (by (try simp only [ByteArray.size_append]); omega) (ev_pos (by (try simp only [ByteArray.size_append]); omega) (Ev.bind g1 (ev_pos (by (try simp only [ByteArray.size_append]); omega) (ev_pos (by (try simp only [ByteArray.size_append]); omega) (Ev.bind g2 (ev_pos (by (try simp only [ByteArray.size_append]); omega) (ev_pos (by (try simp only [ByteArray.size_append]); omega) ?_)))))))
    refine Ev.bind g3 (ev_pos (by (try simp only [ByteArray.size_append]); omega) (ev_pos (by (try simp only [ByteArray.size_append]); omega) (Ev.bind g4 (ev_pos (by (try simp only [ByteArray.size_append]); omega) (ev_pos (by (try simp only [ByteArray.size_append]); omega) (Ev.bind g5 (ev_pos (by (try simp only [ByteArray.size_append]); omega) ?_)))))))
    by_cases c : x.f1 = 3
    · have h9 := h8 c
      refine ev_pos c (ev_pos (by (try simp only [ByteArray.size_append]); omega) (Ev.bind (g6 c) (ev_pos (by (try simp only [ByteArray.size_append]); omega) (ev_pos (by (try simp only [ByteArray.size_append]); omega) ?_))))
      rw [if_pos c] at hih ⊢
      simp only [ByteArray.append_assoc] at hih ⊢
      exact hih
    · refine ev_neg c (ev_pos (by (try simp only [ByteArray.size_append]); omega) ?_)
      rw [if_neg c] at hih ⊢
      simp only [ByteArray.append_assoc, ByteArray.append_empty, ByteArray.empty_append] at hih ⊢
      exact hih
theorem ev_spec_PolicyText (l : List S50) (hl : l.length ≤ 1048576) : Ev (fun k => spec_PolicyText.f k l) (if policyF l = 0 then (0, allT l) else (policyF l, ⟨#[]⟩)) := by
  unfold spec_PolicyText.f
  refine Ev.bind (ev_spec_PolicyFault l hl) (ev_cond (fun h => ?_) (fun h => ev_some _))
  obtain ⟨h1, h2⟩ := policyF_ok h
  refine ev_to (ev_spec_PolicyText_loop l h1 h2 l.length 0 ⟨#[]⟩ (by omega) (Nat.le_refl 0)) ?_
  rw [List.drop_zero, show (⟨#[]⟩ : ByteArray) = ByteArray.empty from rfl, ByteArray.empty_append]

theorem q_impl_in (a b c : Int) : impl_in.f a b c = some (decide (b ≤ a ∧ a ≤ c)) := by
  unfold impl_in.f
  by_cases h : b ≤ a
  · simp [h]
  · simp [h]

theorem q_impl_Range_ok (lo hi m : Int) : impl_Range_ok.f lo hi m = some (decide (rok lo hi m)) := by
  unfold impl_Range_ok.f
  simp only [q_impl_in, Option.bind_some, decide_eq_true_eq]
  by_cases hr : rok lo hi m
  · rw [decide_eq_true hr]
    unfold rok at hr
    rw [if_pos (by omega), if_pos (by omega), decide_eq_true (by omega)]
  · rw [decide_eq_false hr]
    unfold rok at hr
    by_cases h : 0 ≤ lo ∧ lo ≤ m
    · by_cases g : 0 ≤ hi ∧ hi ≤ m
      · rw [if_pos h, if_pos g, decide_eq_false (by omega)]
      · rw [if_pos h, if_neg g]
    · rw [if_neg h]
theorem q_impl_SelFault_j0 (k : Nat) (b : Bool) (s : Sl) : impl_SelFault.j0 (k + 1) b s.fl s.fh s.tl s.th s.pl s.ph s.ql s.qh s.pr = some (if b = true then 3 else if selPorts s then 0 else 1) := by
  rw [impl_SelFault.j0]
  simp only [q_impl_HasPorts, impl_whole.f, Option.bind_some, decide_eq_true_eq]
  unfold selPorts hasP
  cases b
  · by_cases h1 : s.pr = 0
    · simp [h1]
    · by_cases h2 : s.pr = 6 ∨ s.pr = 17
      · simp [h1, h2]
      · by_cases h3 : s.pl = 0 <;> by_cases h4 : s.ph = 65535 <;> by_cases h5 : s.ql = 0 <;> by_cases h6 : s.qh = 65535 <;> simp [h1, h2, h3, h4, h5, h6]
  · simp
theorem q_impl_SelFault (k : Nat) (s : Sl) : impl_SelFault.f (k + 1) s.fl s.fh s.tl s.th s.pl s.ph s.ql s.qh s.pr = some (selF s) := by
  unfold impl_SelFault.f
  simp only [q_impl_Range_ok, q_impl_in, q_impl_SelFault_j0, Option.bind_some, decide_eq_true_eq]
  unfold selF selOk
  by_cases h1 : rok s.fl s.fh 4294967295 <;> by_cases h2 : rok s.tl s.th 4294967295 <;> by_cases h3 : rok s.pl s.ph 65535 <;> by_cases h4 : rok s.ql s.qh 65535 <;> by_cases h5 : 0 ≤ s.pr ∧ s.pr ≤ 255 <;> simp [h1, h2, h3, h4, h5]
theorem ev_impl_SelFault (s : Sl) : Ev (fun k => impl_SelFault.f k s.fl s.fh s.tl s.th s.pl s.ph s.ql s.qh s.pr) (selF s) := ev_succ (fun k => q_impl_SelFault k s)

theorem ev_impl_PolicyFault_loop (l : List S50) (hl : l.length ≤ 1048576) : ∀ i, i ≤ l.length → Ev (fun k => impl_PolicyFault.l0 k l l.length i) (scanRule (l.drop i)) := by
  refine down l.length ?_ ?_
  · rw [List.drop_length]
    refine Ev.step (fun k => by rw [impl_PolicyFault.l0, if_neg (by omega)]) ?_
    exact ev_some _
  · intro i hi ih
    rw [List.drop_eq_getElem_cons hi, scanRule]
    refine Ev.step (fun k => by rw [impl_PolicyFault.l0, if_pos (by omega), if_pos (by omega), if_pos (by omega), rdRule_nat l i hi, w64 (by omega) (by omega)]) ?_
    refine Ev.bind (ev_impl_SelFault (slOf l[i].f0)) ?_
    have hr : ruleF l[i] = if selF (slOf l[i].f0) = 0 then (if 1 ≤ l[i].f1 ∧ l[i].f1 ≤ 3 then (if (l[i].f1 = 3 ∧ 1 ≤ l[i].f2 ∧ l[i].f2 ≤ 9) ∨ (l[i].f1 ≠ 3 ∧ l[i].f2 = 0) then 0 else 1) else 3) else selF (slOf l[i].f0) := rfl
    generalize hx : l[i] = x at *
    by_cases h : selF (slOf x.f0) = 0
    · refine ev_pos h (ev_opt (q_impl_in _ _ _) ?_)
      rw [if_pos h] at hr
      by_cases h1 : 1 ≤ x.f1 ∧ x.f1 ≤ 3
      · refine ev_pos (by simpa using h1) ?_
        rw [if_pos h1] at hr
        by_cases h3 : x.f1 = 3
        · refine ev_pos h3 (ev_opt (by rw [impl_isPeer.f, q_impl_in]; rfl) ?_)
          by_cases h4 : 1 ≤ x.f2 ∧ x.f2 ≤ 9
          · rw [if_pos (.inl ⟨h3, h4⟩)] at hr
            rw [if_pos hr]
            exact ev_pos (by simpa using h4) ih
          · rw [if_neg (by omega)] at hr
            rw [if_neg (by omega), hr]
            exact ev_neg (by simpa using h4) (ev_some _)
        · refine ev_neg h3 ?_
          by_cases h4 : x.f2 = 0
          · rw [if_pos (.inr ⟨h3, h4⟩)] at hr
            rw [if_pos hr]
            exact ev_pos h4 ih
          · rw [if_neg (by omega)] at hr
            rw [if_neg (by omega), hr]
            exact ev_neg h4 (ev_some _)
      · rw [if_neg h1] at hr
        rw [if_neg (by omega), hr]
        exact ev_neg (by simpa using h1) (ev_some _)
    · rw [if_neg h] at hr
      rw [hr, if_neg h]
      exact ev_neg h (ev_some _)
theorem ev_impl_PolicyFault (l : List S50) (hl : l.length ≤ 1048576) : Ev (fun k => impl_PolicyFault.f k l) (policyF l) := by
  unfold impl_PolicyFault.f policyF
  by_cases h1 : (l.length : Int) > 20
  · rw [if_pos (by omega)]
    exact ev_pos h1 (ev_some _)
  · rw [if_neg (by omega)]
    exact ev_neg h1 (ev_impl_PolicyFault_loop l hl 0 (by omega))

theorem ev_range (a b : Int) : Ev (fun k => impl_policyText.range k a b) (endsT a b) := by
  have h0 := dots_size a
  have h1 := dots_size b
  have z := s1_45
  unfold impl_policyText.range
  exact Ev.bind (ev_addressText a) (ev_opt (q_catL _ _ (by omega)) (Ev.bind (ev_addressText b) (ev_fix (q_catL _ _ (by simp only [ByteArray.size_append]; omega)))))
theorem join_five (a b c d e : ByteArray) : (⟨(Lib.join ([a, b, c, d, e].map fun x : ByteArray => x.data.toList) [32]).toArray⟩ : ByteArray) = a ++ ⟨#[32]⟩ ++ b ++ ⟨#[32]⟩ ++ c ++ ⟨#[32]⟩ ++ d ++ ⟨#[32]⟩ ++ e := by
  apply ByteArray.ext
  simp [Lib.join, List.intercalate]
theorem join_six (a b c d e f : ByteArray) : (⟨(Lib.join ([a, b, c, d, e, f].map fun x : ByteArray => x.data.toList) [32]).toArray⟩ : ByteArray) = a ++ ⟨#[32]⟩ ++ b ++ ⟨#[32]⟩ ++ c ++ ⟨#[32]⟩ ++ d ++ ⟨#[32]⟩ ++ e ++ ⟨#[32]⟩ ++ f := by
  apply ByteArray.ext
  simp [Lib.join, List.intercalate]
theorem q_fin5 (a b c d e : ByteArray) (h : a.size + b.size + c.size + d.size + e.size ≤ 1000) : impl_policyText.fin ([a, b, c] ++ [d, e]) = some (a ++ ⟨#[32]⟩ ++ b ++ ⟨#[32]⟩ ++ c ++ ⟨#[32]⟩ ++ d ++ ⟨#[32]⟩ ++ e ++ ⟨#[10]⟩) := by
  have z1 := s1_32
  have z3 := s1_10
  have hj := join_five a b c d e
  have hz : (a ++ ⟨#[32]⟩ ++ b ++ ⟨#[32]⟩ ++ c ++ ⟨#[32]⟩ ++ d ++ ⟨#[32]⟩ ++ e : ByteArray).size ≤ 1004 := by simp only [ByteArray.size_append]; omega
  have hq : strings_Join.f ([a, b, c] ++ [d, e]) ⟨#[32]⟩ = some (a ++ ⟨#[32]⟩ ++ b ++ ⟨#[32]⟩ ++ c ++ ⟨#[32]⟩ ++ d ++ ⟨#[32]⟩ ++ e) := by
    rw [← hj] at hz
    rw [strings_Join.f, if_pos ⟨by simp, by
      have : (Lib.join (([a, b, c] ++ [d, e]).map fun x : ByteArray => x.data.toList) (⟨#[32]⟩ : ByteArray).data.toList).length ≤ 1004 := hz
      omega⟩, ← hj]
    rfl
  unfold impl_policyText.fin
  rw [hq, Option.bind_some]
  exact q_catL _ _ (by omega)
theorem q_fin6 (a b c d e f : ByteArray) (h : a.size + b.size + c.size + d.size + e.size + f.size ≤ 1000) : impl_policyText.fin ([a, b, c] ++ [d, e] ++ [f]) = some (a ++ ⟨#[32]⟩ ++ b ++ ⟨#[32]⟩ ++ c ++ ⟨#[32]⟩ ++ d ++ ⟨#[32]⟩ ++ e ++ ⟨#[32]⟩ ++ f ++ ⟨#[10]⟩) := by
  have z1 := s1_32
  have z3 := s1_10
  have hj := join_six a b c d e f
  have hz : (a ++ ⟨#[32]⟩ ++ b ++ ⟨#[32]⟩ ++ c ++ ⟨#[32]⟩ ++ d ++ ⟨#[32]⟩ ++ e ++ ⟨#[32]⟩ ++ f : ByteArray).size ≤ 1005 := by simp only [ByteArray.size_append]; omega
  have hq : strings_Join.f ([a, b, c] ++ [d, e] ++ [f]) ⟨#[32]⟩ = some (a ++ ⟨#[32]⟩ ++ b ++ ⟨#[32]⟩ ++ c ++ ⟨#[32]⟩ ++ d ++ ⟨#[32]⟩ ++ e ++ ⟨#[32]⟩ ++ f) := by
    rw [← hj] at hz
    rw [strings_Join.f, if_pos ⟨by simp, by
      have : (Lib.join (([a, b, c] ++ [d, e] ++ [f]).map fun x : ByteArray => x.data.toList) (⟨#[32]⟩ : ByteArray).data.toList).length ≤ 1005 := hz
      omega⟩, ← hj]
    rfl
  unfold impl_policyText.fin
  rw [hq, Option.bind_some]
  exact q_catL _ _ (by omega)
theorem ev_line {x : S50} (hx : ruleF x = 0) : Ev (fun k => impl_policyText.line k x.f0.f0.f0 x.f0.f0.f1 x.f0.f1.f0 x.f0.f1.f1 x.f0.f3.f0 x.f0.f3.f1 x.f0.f4 x.f1 x.f2) (lineT x) := by
  obtain ⟨n1, n2, n3, n4, n5, n6, n7, n8, n9⟩ := rule_nums hx
  have h1 := wordT_size x.f1
  have h2 := endsT_size x.f0.f0.f0 x.f0.f0.f1
  have h3 := endsT_size x.f0.f1.f0 x.f0.f1.f1
  have h4 := dig_size_small x.f0.f4 (by omega)
  have h5 := dig_size_small x.f0.f3.f0 (by omega)
  have h6 := dig_size_small x.f0.f3.f1 (by omega)
  have z1 := s1_32
  have z2 := s1_45
  have hw : impl_policyText.word x.f1 = some (wordT x.f1) := by
    unfold impl_policyText.word wordT
    obtain h0 | h0 | h0 : x.f1 = 1 ∨ x.f1 = 2 ∨ x.f1 = 3 := by omega
    all_goals simp [h0]
  unfold impl_policyText.line
  refine ev_opt hw (Ev.bind (ev_range _ _) (Ev.bind (ev_range _ _) (ev_opt (q_decimalL _ (by omega) (by omega)) (ev_opt (q_decimalL _ (by omega) (by omega)) (ev_opt (q_catL _ _ (by omega)) (ev_opt (q_decimalL _ (by omega) (by omega)) (ev_opt (q_catL _ _ (by simp only [ByteArray.size_append]; omega)) ?_)))))))
  by_cases c : x.f1 = 3
  · have h8 := dig_size_small x.f2 (by have := n2 c; omega)
    refine ev_pos c (ev_opt (q_decimalL _ (by have := n2 c; omega) (by have := n2 c; omega)) (ev_fix ?_))
    rw [q_fin6 _ _ _ _ _ _ (by simp only [ByteArray.size_append]; omega), lineT, peerT, if_pos c]
    simp only [ByteArray.append_assoc]
  · refine ev_neg c (ev_fix ?_)
    rw [q_fin5 _ _ _ _ _ (by simp only [ByteArray.size_append]; omega), lineT, peerT, if_neg c, show (⟨#[]⟩ : ByteArray) = ByteArray.empty from rfl, ByteArray.append_empty]
theorem ev_go : ∀ (xs : List S50) (l : List UInt8), (∀ x ∈ xs, ruleF x = 0) → l.length + 100 * xs.length ≤ 1000000 → Ev (fun k => impl_policyText.go k xs l) ⟨(l ++ (allT xs).data.toList).toArray⟩
  | [], l, _, _ => by
    unfold impl_policyText.go
    exact ev_to (ev_some _) (by simp [allT])
  | x :: xs, l, h, hs => by
    have h1 := h x (List.mem_cons_self ..)
    have h2 := lineT_size h1
    rw [List.length_cons] at hs
    have e : (lineT x).data.toList.length = (lineT x).size := by rw [Array.length_toList]; rfl
    unfold impl_policyText.go
    refine Ev.bind (ev_line h1) (ev_pos (by omega) (ev_to (ev_go xs _ (fun y hy => h y (List.mem_cons_of_mem _ hy)) (by rw [List.length_append, e]; omega)) ?_))
    rw [allT, ByteArray.data_append]
    simp
theorem ev_impl_PolicyText (l : List S50) (hl : l.length ≤ 1048576) : Ev (fun k => impl_PolicyText.f k l) (if policyF l = 0 then (0, allT l) else (policyF l, ⟨#[]⟩)) := by
  unfold impl_PolicyText.f
  refine Ev.bind (ev_impl_PolicyFault l hl) (ev_cond (fun h => ?_) (fun h => ev_some _))
  obtain ⟨h1, h2⟩ := policyF_ok h
  unfold impl_policyText.f
  refine Ev.bind (ev_go l [] h2 (by simp; omega)) (ev_to (ev_some _) ?_)
  simp

theorem q_szRuleS {l : List S58} (h : l.length ≤ 1048576) : laws_szRuleS.f l 1048576 = some (1048576 - (l.length : Int)) := by
  unfold laws_szRuleS.f
  rw [w64 (by omega) (by omega), if_neg (by omega)]
theorem q_szRuleS_big {l : List S58} (h : ¬ l.length ≤ 1048576) (hm : l.length ≤ maxLen) : laws_szRuleS.f l 1048576 = some (-1) := by
  unfold laws_szRuleS.f
  unfold maxLen at hm
  rw [w64 (by omega) (by omega), if_pos (by omega)]

theorem rdLRule_nat (l : List S58) (i : Nat) (h : i < l.length) : rd_T58 l i = l[i] := getD_nat l _ i h

def cvRule (x : S58) : S50 := ⟨⟨⟨x.f0.f0.f0, x.f0.f0.f1⟩, ⟨x.f0.f1.f0, x.f0.f1.f1⟩, ⟨x.f0.f2.f0, x.f0.f2.f1⟩, ⟨x.f0.f3.f0, x.f0.f3.f1⟩, x.f0.f4⟩, x.f1, x.f2⟩
theorem q_toRule (a b c d e f g h i j m : Int) : laws_toRule.f a b c d e f g h i j m = some (a, b, c, d, e, f, g, h, i, j, m) := rfl
theorem ev_toRuleS {l : List S58} (hn : l.length ≤ 1048576) : Ev (fun k => laws_toRuleS.f k l) (l.map cvRule) := by
  unfold laws_toRuleS.f
  refine ev_pos (by omega) (ev_pos (by omega) ?_)
  refine map_loop (fun k b i => laws_toRuleS.l0 k l b i) l cvRule ?_ ?_ _ (by simp)
  · intro k b
    rw [laws_toRuleS.l0, if_neg (by omega)]
  · intro k b i h hb
    rw [laws_toRuleS.l0, if_pos (by omega), if_pos (by omega), q_toRule, Option.bind_some, if_pos (by omega), w64 (by omega) (by omega), rdLRule_nat l i h, Int.toNat_natCast]
    rfl

theorem q_eqRule (a b c d e f g h i j m : Int) : laws_eqRule.f a b c d e f g h i j m a b c d e f g h i j m = some true := by
  simp [laws_eqRule.f, laws_eqSel.f, laws_eqRange.f]
theorem ev_eqRuleS {l : List S50} (hn : l.length ≤ 1048576) : Ev (fun k => laws_eqRuleS.f k l l) true := by
  unfold laws_eqRuleS.f
  refine ev_pos rfl ?_
  refine count_loop (fun k i => laws_eqRuleS.l0 k l l i) l.length true ?_ ?_
  · intro k
    rw [laws_eqRuleS.l0, if_neg (by omega)]
  · intro k i h
    rw [laws_eqRuleS.l0, if_pos (by omega), if_pos (by omega), if_pos (by omega), q_eqRule, Option.bind_some, if_pos rfl, w64 (by omega) (by omega)]
    rfl

theorem FnExactPolicyText : laws_FnExactPolicyText.Pure := by
  intro l hm _ _
  apply Ev.rounds
  unfold laws_FnExactPolicyText.f
  by_cases h : l.length ≤ 1048576
  · have hc : (l.map cvRule).length ≤ 1048576 := by simpa using h
    have hs := ev_spec_PolicyText _ hc
    have hi := ev_impl_PolicyText _ hc
    generalize (if policyF (l.map cvRule) = 0 then (0, allT (l.map cvRule)) else (policyF (l.map cvRule), (⟨#[]⟩ : ByteArray))) = z at hs hi
    refine ev_opt (q_szRuleS h) (ev_neg (by omega) ?_)
    refine Ev.bind (ev_toRuleS h) (Ev.bind hs (Ev.bind (ev_toRuleS h) (Ev.bind hi (ev_opt (a := true) (by simp [laws_eqTextResult.f]) (ev_pos rfl ?_)))))
    exact Ev.bind (ev_toRuleS h) (Ev.bind (ev_eqRuleS hc) (ev_pos rfl (ev_some _)))
  · exact ev_opt (q_szRuleS_big h hm) (ev_pos (by omega) (ev_some _))

end Go.Proofs.YtbficbiignpnoaaDoor.Pure
