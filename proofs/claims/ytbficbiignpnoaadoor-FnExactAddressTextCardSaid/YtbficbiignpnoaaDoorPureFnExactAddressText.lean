
/- Proved: the law FnExactAddressText answers true at every input that Go can hand in (it says: The program's AddressText returns what the reference's returns, for all arguments.) No condition beyond the statement's own. -/
import Derived.Test.YtbficbiignpnoaaDoorPFnExactAddressTextx2
namespace Go.Proofs.YtbficbiignpnoaaDoor.Pure
open Go.RowKit Go.Proofs.YtbficbiignpnoaaDoor.PFnExactAddressText Go.Proofs.YtbficbiignpnoaaDoorW.PrintWords Go.Proofs.YtbficbiignpnoaaDoorW.PrintLast Go.Proofs.YtbficbiignpnoaaDoorW.PrintMore
set_option linter.unusedVariables false
set_option linter.unusedSimpArgs false

theorem w64 {x : Int} (h0 : -9223372036854775808 ≤ x) (h1 : x ≤ 9223372036854775807) : wrap64 x = x := by
  unfold wrap64
  omega
theorem tmod_pos {a b : Int} (h : 0 ≤ a) : Int.tmod a b = a % b := Int.tmod_eq_emod_of_nonneg h
theorem tdiv_pos {a b : Int} (h : 0 ≤ a) : Int.tdiv a b = a / b := Int.tdiv_eq_ediv_of_nonneg h
theorem ev_some {α : Type} (r : α) : Ev (fun _ => some r) r := Ev.now r
theorem ev_pos {α : Type} {c : Prop} [Decidable c] {A B : Nat → Option α} {r : α} (h : c) (e : Ev A r) : Ev (fun k => if c then A k else B k) r := by
  simpa only [if_pos h] using e
theorem ev_neg {α : Type} {c : Prop} [Decidable c] {A B : Nat → Option α} {r : α} (h : ¬ c) (e : Ev B r) : Ev (fun k => if c then A k else B k) r := by
  simpa only [if_neg h] using e
theorem ev_opt {α β : Type} {o : Option α} {f : Nat → α → Option β} {a : α} {r : β} (h : o = some a) (e : Ev (fun n => f n a) r) : Ev (fun n => o.bind (f n)) r := by
  simpa only [h, Option.bind_some] using e
theorem ev_to {α : Type} {g : Nat → Option α} {r r' : α} (e : Ev g r) (h : r = r') : Ev g r' := h ▸ e
def dig (n : Int) : ByteArray := ⟨(Lib.decDigits n.toNat).toArray⟩
theorem dig_size (n : Int) : (dig n).size = Lib.nDigits n.toNat := by
  rw [← Lib.decDigits_length]
  rfl
theorem nDigits_le : ∀ (d u : Nat), u < 10 ^ (d + 1) → Lib.nDigits u ≤ d + 1 := by
  intro d
  induction d with
  | zero =>
    intro u h
    rw [Lib.nDigits, dif_pos (by omega)]
    omega
  | succ d ih =>
    intro u h
    rw [Lib.nDigits]
    split
    · omega
    · have := ih (u / 10) (by rw [Nat.pow_succ] at h; omega)
      omega
theorem dig_size_le (n : Int) (h : n ≤ 9223372036854775807) : (dig n).size ≤ 19 := by
  rw [dig_size]
  exact nDigits_le 18 _ (by simp only [Nat.reduceAdd, Nat.reducePow]; omega)
theorem dig_size_byte (n : Int) (h : n ≤ 255) : (dig n).size ≤ 3 := by
  rw [dig_size]
  exact nDigits_le 2 _ (by simp only [Nat.reduceAdd, Nat.reducePow]; omega)
theorem str_one (n : Int) (h0 : 0 ≤ n) (h : n < 10) : strOfNums [(wrap64 (48 + n)) % 256] = ⟨#[UInt8.ofNat (48 + n.toNat)]⟩ := by
  rw [w64 (by omega) (by omega)]
  have : ∀ k : Fin 10, strOfNums [(48 + ((k.val : Nat) : Int)) % 256] = ⟨#[UInt8.ofNat (48 + k.val)]⟩ := by decide +kernel
  have h1 := this ⟨n.toNat, by omega⟩
  rw [show (((⟨n.toNat, by omega⟩ : Fin 10).val : Nat) : Int) = n by simp; omega] at h1
  exact h1
theorem dig_one (n : Int) (h0 : 0 ≤ n) (h : n < 10) : dig n = strOfNums [(wrap64 (48 + n)) % 256] := by
  rw [str_one n h0 h, dig, Lib.decDigits, dif_pos (by omega)]
theorem dig_more (n : Int) (h0 : 10 ≤ n) (h : n ≤ 9223372036854775807) : dig n = dig (n / 10) ++ strOfNums [(wrap64 (48 + n % 10)) % 256] := by
  rw [str_one (n % 10) (by omega) (by omega)]
  apply ByteArray.ext
  rw [ByteArray.data_append]
  unfold dig
  rw [Lib.decDigits, dif_neg (by omega)]
  rw [show (n / 10).toNat = n.toNat / 10 by omega, show (n % 10).toNat = n.toNat % 10 by omega]
  simp
theorem ev_spec_l2Digits : ∀ (d : Nat) (n : Int), 0 ≤ n → n < 10 ^ (d + 1) → n ≤ 9223372036854775807 → Ev (fun k => spec_l2Digits.f k n) (dig n) := by
  intro d
  induction d with
  | zero =>
    intro n h0 h h1
    refine Ev.step (fun k => by rw [spec_l2Digits.f, if_pos (by omega)]) ?_
    rw [dig_one n h0 (by omega)]
    exact ev_some _
  | succ d ih =>
    intro n h0 h h1
    by_cases c : n < 10
    · refine Ev.step (fun k => by rw [spec_l2Digits.f, if_pos c]) ?_
      rw [dig_one n h0 c]
      exact ev_some _
    · refine Ev.step (fun k => by rw [spec_l2Digits.f, if_neg c]) ?_
      rw [tdiv_pos h0, tmod_pos h0, w64 (x := n / 10) (by omega) (by omega)]
      have h2 : n / 10 < 10 ^ (d + 1) := by
        rw [Int.pow_succ] at h
        omega
      refine Ev.bind (ih (n / 10) (by omega) h2 (by omega)) (ev_opt rfl (ev_pos ?_ ?_))
      · have := dig_size_le (n / 10) (by omega)
        rw [strOfNums_size]
        simp only [List.length_cons, List.length_nil]
        omega
      · rw [← dig_more n (by omega) h1]
        exact ev_some _
theorem ev_digits (n : Int) (h0 : 0 ≤ n) (h : n ≤ 9223372036854775807) : Ev (fun k => spec_l2Digits.f k n) (dig n) := ev_spec_l2Digits 18 n h0 (by omega) h
theorem itoa_dig (n : Int) (h0 : 0 ≤ n) : (⟨(Lib.itoa n).toArray⟩ : ByteArray) = dig n := by
  unfold Lib.itoa dig
  rw [if_neg (by omega)]

def nb (n : Int) : Nat → List Int
  | 0 => []
  | s + 1 => nb (n / 256) s ++ [n % 256]
theorem nb_cons (s : Nat) : ∀ n : Int, nb n (s + 1) = (n / 256 ^ s) % 256 :: nb n s := by
  induction s with
  | zero => intro n; simp [nb]
  | succ s ih =>
    intro n
    rw [nb, ih (n / 256), nb, List.cons_append]
    congr 2
    rw [Int.ediv_ediv_of_nonneg (by omega), Int.pow_succ, Int.mul_comm]

theorem u64_small (x : Int) (h0 : 0 ≤ x) (h : x < 18446744073709551616) : IntKind.u64.wrap x = x := by
  simp [IntKind.wrap, IntKind.signed, IntKind.bits]
  omega
theorem shr8 (n : Int) (i : Nat) (h : i ≤ 7) : shr .i64 n (IntKind.u64.wrap (wrap64 (8 * (i : Int)))) = n / 256 ^ i := by
  rw [w64 (by omega) (by omega)]
  have e : IntKind.u64.wrap (8 * (i : Int)) = 8 * (i : Int) := u64_small _ (by omega) (by omega)
  rw [e]
  unfold shr
  have e2 : min (8 * (i : Int)).toNat IntKind.i64.bits = 8 * i := by
    simp [IntKind.bits]
    omega
  rw [e2, Int.pow_mul]
  rfl
theorem ev_spec_l1Bytes_loop (n : Int) : ∀ (i : Nat) (b : List Int), i ≤ 8 → b.length + i ≤ 1000 → Ev (fun k => spec_l1Bytes.l0 k n b ((i : Int) - 1)) (b ++ nb n i) := by
  intro i
  induction i with
  | zero =>
    intro b _ _
    refine Ev.step (fun k => by rw [spec_l1Bytes.l0, if_neg (by omega)]) ?_
    rw [nb, List.append_nil]
    exact ev_some _
  | succ i ih =>
    intro b hi hb
    have hs := shr8 n i (by omega)
    have hw : 0 ≤ IntKind.u64.wrap (wrap64 (8 * (i : Int))) := by
      rw [w64 (by omega) (by omega), u64_small _ (by omega) (by omega)]
      omega
    have e : (((i + 1 : Nat) : Int) - 1) = (i : Int) := by omega
    refine Ev.step (fun k => by rw [e, spec_l1Bytes.l0, if_pos (show (i : Int) ≥ 0 by omega), if_pos hw, if_pos (show b.length < 140737488355328 by omega), hs, w64 (by omega) (by omega)]) ?_
    rw [nb_cons]
    have h := ih (b ++ [n / 256 ^ i % 256]) (by omega) (by simp; omega)
    rw [List.append_assoc] at h
    exact h
theorem ev_spec_l1Bytes (n : Int) (s : Nat) (h : s ≤ 8) : Ev (fun k => spec_l1Bytes.f k n s) (nb n s) := by
  unfold spec_l1Bytes.f
  rw [w64 (by omega) (by omega)]
  exact ev_spec_l1Bytes_loop n s [] h (by simp; omega)

theorem ev_impl_put_loop : ∀ (i : Nat) (n : Int) (b : List Int), i ≤ b.length → b.length ≤ 1000 → Ev (fun k => impl_put.l0 k n b ((i : Int) - 1)) (nb n i ++ b.drop i) := by
  intro i
  induction i with
  | zero =>
    intro n b _ _
    refine Ev.step (fun k => by rw [impl_put.l0, if_neg (by omega)]) ?_
    rw [nb, List.nil_append, List.drop_zero]
    exact ev_some _
  | succ i ih =>
    intro n b hi hb
    have e : (((i + 1 : Nat) : Int) - 1) = (i : Int) := by omega
    refine Ev.step (fun k => by rw [e, impl_put.l0, if_pos (by omega), if_pos (by omega), if_pos (by omega), Int.toNat_natCast, w64 (by omega) (by omega)]) ?_
    have h := ih (n / 256) (b.set i (n % 256)) (by simp; omega) (by simpa using hb)
    refine ev_to h ?_
    rw [nb, List.append_assoc]
    congr 1
    rw [List.drop_eq_getElem_cons (by simp; omega : i < (b.set i (n % 256)).length), List.getElem_set_self, List.drop_set_of_lt (by omega)]
    rfl
theorem ev_impl_put (n : Int) (s : Nat) (h : s ≤ 8) : Ev (fun k => impl_put.f k n s) (nb n s) := by
  unfold impl_put.f
  refine ev_pos (by omega) (ev_pos (by omega) ?_)
  rw [w64 (by omega) (by omega), Int.toNat_natCast]
  have h := ev_impl_put_loop s n (List.replicate s 0) (by simp) (by simp; omega)
  refine ev_to h ?_
  simp

-- an address: four numbers with dots between
def dots (a : Int) : ByteArray := dig (a / 16777216 % 256) ++ ⟨#[46]⟩ ++ dig (a / 65536 % 256) ++ ⟨#[46]⟩ ++ dig (a / 256 % 256) ++ ⟨#[46]⟩ ++ dig (a % 256)
theorem dots_size (a : Int) : (dots a).size ≤ 15 := by
  have h0 := dig_size_byte (a / 16777216 % 256) (by omega)
  have h1 := dig_size_byte (a / 65536 % 256) (by omega)
  have h2 := dig_size_byte (a / 256 % 256) (by omega)
  have h3 := dig_size_byte (a % 256) (by omega)
  unfold dots
  simp only [ByteArray.size_append]
  have e : (⟨#[46]⟩ : ByteArray).size = 1 := rfl
  omega
theorem nb_four (a : Int) : nb a 4 = [a / 16777216 % 256, a / 65536 % 256, a / 256 % 256, a % 256] := by
  simp only [nb, List.nil_append, List.cons_append]
  congr 1
  · omega
  · congr 1
    omega
theorem join_four (a b c d : ByteArray) : (⟨(Lib.join ([a, b, c, d].map fun x : ByteArray => x.data.toList) [46]).toArray⟩ : ByteArray) = a ++ ⟨#[46]⟩ ++ b ++ ⟨#[46]⟩ ++ c ++ ⟨#[46]⟩ ++ d := by
  apply ByteArray.ext
  simp [Lib.join, List.intercalate]
theorem ev_addressText (a : Int) : Ev (fun k => impl_addressText.f k a) (dots a) := by
  unfold impl_addressText.f
  refine Ev.bind (ev_impl_put a 4 (by omega)) ?_
  rw [nb_four]
  have q : ∀ x : Int, 0 ≤ x → x ≤ 255 → strconv_Itoa.f (wrap64 x) = some (dig x) := fun x h0 h1 => by
    rw [w64 (by omega) (by omega), strconv_Itoa.f, if_pos (by omega), itoa_dig x h0]
  have q0 := q (a / 16777216 % 256) (by omega) (by omega)
  have q1 := q (a / 65536 % 256) (by omega) (by omega)
  have q2 := q (a / 256 % 256) (by omega) (by omega)
  have q3 := q (a % 256) (by omega) (by omega)
  generalize ha : a / 16777216 % 256 = x0 at *
  generalize hb : a / 65536 % 256 = x1 at *
  generalize hc : a / 256 % 256 = x2 at *
  generalize hd : a % 256 = x3 at *
  have s0 := dig_size_byte x0 (by omega)
  have s1 := dig_size_byte x1 (by omega)
  have s2 := dig_size_byte x2 (by omega)
  have s3 := dig_size_byte x3 (by omega)
  refine Ev.step (fun k => by rw [impl_addressText.l0, if_pos (by simp), if_pos (by omega), if_pos (by simp), show rd [x0, x1, x2, x3] 0 = x0 from rfl, q0, Option.bind_some, if_pos (by simp), show wrap64 (0 + 1) = 1 from w64 (by omega) (by omega)]) ?_
  refine Ev.step (fun k => by rw [impl_addressText.l0, if_pos (by simp), if_pos (by omega), if_pos (by simp), show rd [x0, x1, x2, x3] 1 = x1 from rfl, q1, Option.bind_some, if_pos (by simp), show wrap64 (1 + 1) = 2 from w64 (by omega) (by omega)]) ?_
  refine Ev.step (fun k => by rw [impl_addressText.l0, if_pos (by simp), if_pos (by omega), if_pos (by simp), show rd [x0, x1, x2, x3] 2 = x2 from rfl, q2, Option.bind_some, if_pos (by simp), show wrap64 (2 + 1) = 3 from w64 (by omega) (by omega)]) ?_
  refine Ev.step (fun k => by rw [impl_addressText.l0, if_pos (by simp), if_pos (by omega), if_pos (by simp), show rd [x0, x1, x2, x3] 3 = x3 from rfl, q3, Option.bind_some, if_pos (by simp), show wrap64 (3 + 1) = 4 from w64 (by omega) (by omega)]) ?_
  refine Ev.step (fun k => by rw [impl_addressText.l0, if_neg (by simp)]) ?_
  have hj := join_four (dig x0) (dig x1) (dig x2) (dig x3)
  have hd : dots a = dig x0 ++ ⟨#[46]⟩ ++ dig x1 ++ ⟨#[46]⟩ ++ dig x2 ++ ⟨#[46]⟩ ++ dig x3 := by
    unfold dots
    rw [ha, hb, hc, hd]
  have hz := dots_size a
  rw [hd, ← hj] at hz
  refine ev_opt (a := dots a) ?_ (ev_some _)
  rw [strings_Join.f, if_pos ⟨by simp, by
    have : (Lib.join (([] ++ [dig x0] ++ [dig x1] ++ [dig x2] ++ [dig x3]).map fun x : ByteArray => x.data.toList) (⟨#[46]⟩ : ByteArray).data.toList).length ≤ 15 := hz
    omega⟩, hd, ← hj]
  rfl

theorem q_spec_l1In (a b c : Int) : spec_l1In.f a b c = some (decide (b ≤ a ∧ a ≤ c)) := by
  unfold spec_l1In.f
  by_cases h : b ≤ a
  · simp [h]
  · simp [h]

theorem ev_spec_AddressText (a : Int) (h0 : 0 ≤ a) (h1 : a ≤ 4294967295) : Ev (fun k => spec_AddressText.f k a) (0, dots a) := by
  unfold spec_AddressText.f spec_l2Address.f
  simp only [q_spec_l1In, Option.bind_some]
  refine ev_pos (decide_eq_true ⟨h0, h1⟩) (Ev.bind (ev_spec_l1Bytes a 4 (by omega)) ?_)
  rw [nb_four]
  have q : ∀ x : Int, 0 ≤ x → x ≤ 255 → Ev (fun k => spec_l2Digits.f k (wrap64 x)) (dig x) := fun x h0 h1 => by
    rw [w64 (by omega) (by omega)]
    exact ev_digits x h0 (by omega)
  have q0 := q (a / 16777216 % 256) (by omega) (by omega)
  have q1 := q (a / 65536 % 256) (by omega) (by omega)
  have q2 := q (a / 256 % 256) (by omega) (by omega)
  have q3 := q (a % 256) (by omega) (by omega)
  have hz := dots_size a
  generalize ha : a / 16777216 % 256 = x0 at *
  generalize hb : a / 65536 % 256 = x1 at *
  generalize hc : a / 256 % 256 = x2 at *
  generalize hd : a % 256 = x3 at *
  have hd : dots a = dig x0 ++ ⟨#[46]⟩ ++ dig x1 ++ ⟨#[46]⟩ ++ dig x2 ++ ⟨#[46]⟩ ++ dig x3 := by
    unfold dots
    rw [ha, hb, hc, hd]
  rw [hd] at hz
  simp only [ByteArray.size_append] at hz
  rw [hd]
  refine ev_pos (by simp) (Ev.bind (by rw [show rd [x0, x1, x2, x3] 0 = x0 from rfl]; exact q0) ?_)
  refine Ev.step (fun k => by rw [spec_AddressText.l0, if_pos (by omega)]) ?_
  refine (ev_pos (by omega) (ev_pos (by omega) (ev_pos (by simp) (Ev.bind (by rw [show rd [x0, x1, x2, x3] 1 = x1 from rfl]; exact q1) (ev_pos (by simp only [ByteArray.size_append]; omega) ?_)))))
  rw [show wrap64 (1 + 1) = 2 from w64 (by omega) (by omega)]
  refine Ev.step (fun k => by rw [spec_AddressText.l0, if_pos (by omega)]) ?_
  refine (ev_pos (by simp only [ByteArray.size_append]; omega) (ev_pos (by omega) (ev_pos (by simp) (Ev.bind (by rw [show rd [x0, x1, x2, x3] 2 = x2 from rfl]; exact q2) (ev_pos (by simp only [ByteArray.size_append]; omega) ?_)))))
  rw [show wrap64 (2 + 1) = 3 from w64 (by omega) (by omega)]
  refine Ev.step (fun k => by rw [spec_AddressText.l0, if_pos (by omega)]) ?_
  refine (ev_pos (by simp only [ByteArray.size_append]; omega) (ev_pos (by omega) (ev_pos (by simp) (Ev.bind (by rw [show rd [x0, x1, x2, x3] 3 = x3 from rfl]; exact q3) (ev_pos (by simp only [ByteArray.size_append]; omega) ?_)))))
  rw [show wrap64 (3 + 1) = 4 from w64 (by omega) (by omega)]
  refine Ev.step (fun k => by rw [spec_AddressText.l0, if_neg (by omega)]) (ev_some _)

theorem q_impl_in (a b c : Int) : impl_in.f a b c = some (decide (b ≤ a ∧ a ≤ c)) := by
  unfold impl_in.f
  by_cases h : b ≤ a
  · simp [h]
  · simp [h]

theorem FnExactAddressText : laws_FnExactAddressText.Pure := by
  intro a _
  apply Ev.rounds
  unfold laws_FnExactAddressText.f
  by_cases h : 0 ≤ a ∧ a ≤ 4294967295
  · refine Ev.bind (ev_spec_AddressText a h.1 h.2) ?_
    have hi : Ev (fun k => impl_AddressText.f k a) (0, dots a) := by
      unfold impl_AddressText.f impl_isAddress.f
      simp only [q_impl_in, Option.bind_some]
      exact ev_pos (decide_eq_true h) (Ev.bind (ev_addressText a) (ev_some _))
    refine Ev.bind hi ?_
    simp only [laws_eqTextResult.f, if_true, Option.bind_some]
    exact ev_some _
  · have hs : Ev (fun k => spec_AddressText.f k a) (3, ⟨#[]⟩) := by
      unfold spec_AddressText.f spec_l2Address.f
      simp only [q_spec_l1In, Option.bind_some]
      exact ev_neg (by simp only [decide_eq_true_eq]; exact h) (ev_some _)
    refine Ev.bind hs ?_
    have hi : Ev (fun k => impl_AddressText.f k a) (3, ⟨#[]⟩) := by
      unfold impl_AddressText.f impl_isAddress.f
      simp only [q_impl_in, Option.bind_some]
      exact ev_neg (by simp only [decide_eq_true_eq]; exact h) (ev_some _)
    refine Ev.bind hi ?_
    simp only [laws_eqTextResult.f, if_true, Option.bind_some]
    exact ev_some _

end Go.Proofs.YtbficbiignpnoaaDoor.Pure
