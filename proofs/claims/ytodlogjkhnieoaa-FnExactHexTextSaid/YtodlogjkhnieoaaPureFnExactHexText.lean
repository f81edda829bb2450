/- Proved: the law FnExactHexText answers true at every input that Go can hand in (it says: The program's HexText returns what the reference's returns, for all arguments.) No condition beyond the statement's own. -/
import Derived.Test.YtodlogjkhnieoaaPFnExactHexTextx2
namespace Go.Proofs.Ytodlogjkhnieoaa.Pure
open Go.RowKit Go.Proofs.Ytodlogjkhnieoaa.PFnExactHexText Go.Proofs.YtodlogjkhnieoaaW.PrintWords Go.Proofs.YtodlogjkhnieoaaW.PrintLast Go.Proofs.YtodlogjkhnieoaaW.PrintMore
set_option linter.unusedVariables false
set_option linter.unusedSimpArgs false

theorem w64 {x : Int} (h0 : -9223372036854775808 ≤ x) (h1 : x ≤ 9223372036854775807) : wrap64 x = x := by
  unfold wrap64
  omega
theorem tmod_pos {a b : Int} (h : 0 ≤ a) : Int.tmod a b = a % b := Int.tmod_eq_emod_of_nonneg h
theorem tdiv_pos {a b : Int} (h : 0 ≤ a) : Int.tdiv a b = a / b := Int.tdiv_eq_ediv_of_nonneg h
theorem ev_some {α : Type} (r : α) : Ev (fun _ => some r) r := Ev.now r
theorem ev_pos {α : Type} {c : Prop} [Decidable c] {A B : Nat → Option α} {r : α} (h : c) (e : Ev A r) : Ev (fun k => if c then A k else B k) r := by
  simpa only [if_pos h] using e
theorem ev_neg {α : Type} {c : Prop} [Decidable c] {A B : Nat → Option α} {r : α} (h : ¬ c) (e : Ev B r) : Ev (fun k => if c then A k else B k) r := by
  simpa only [if_neg h] using e
theorem ev_opt {α β : Type} {o : Option α} {f : Nat → α → Option β} {a : α} {r : β} (h : o = some a) (e : Ev (fun n => f n a) r) : Ev (fun n => o.bind (f n)) r := by
  simpa only [h, Option.bind_some] using e
theorem ev_to {α : Type} {g : Nat → Option α} {r r' : α} (e : Ev g r) (h : r = r') : Ev g r' := h ▸ e
theorem ev_fix {α : Type} {o : Option α} {r : α} (h : o = some r) : Ev (fun _ => o) r := ⟨0, fun _ _ => h⟩
theorem rd_nat (l : List Int) (i : Nat) (h : i < l.length) : rd l (i : Int) = l[i] := by
  unfold rd
  simp [List.getD_eq_getElem?_getD, h]
theorem rd_mem (l : List Int) (i : Int) (h0 : 0 ≤ i) (h : i < l.length) : rd l i ∈ l := by
  obtain ⟨n, rfl⟩ := Int.eq_ofNat_of_zero_le h0
  rw [rd_nat l n (by omega)]
  exact List.getElem_mem _
theorem u8_range {x : Int} (h : (Lit.int .u8 x).wf = true) : 0 ≤ x ∧ x ≤ 255 := by
  simp [Lit.wf, IntKind.min, IntKind.max, IntKind.signed, IntKind.bits] at h
  omega
theorem i64_range {x : Int} (h : (Lit.int .i64 x).wf = true) : -9223372036854775808 ≤ x ∧ x ≤ 9223372036854775807 := by
  simp [Lit.wf, IntKind.min, IntKind.max, IntKind.signed, IntKind.bits] at h
  omega
theorem set_mid {α : Type} (a : List α) (x : α) (b : List α) (y : α) : (a ++ x :: b).set a.length y = a ++ y :: b := by simp
theorem take_full {α : Type} {a b : List α} (hl : b.length = a.length) (ht : b.take a.length = a.take a.length) : b = a := by
  rw [List.take_of_length_le (by omega), List.take_of_length_le (by omega)] at ht
  exact ht
theorem take_next {α : Type} {a b : List α} {i : Nat} (ha : i < a.length) (hb : i < b.length) (ht : b.take i = a.take i) (hx : b[i] = a[i]) : b.take (i + 1) = a.take (i + 1) := by
  rw [List.take_succ_eq_append_getElem ha, List.take_succ_eq_append_getElem hb, ht, hx]
theorem ev_cond {α : Type} {c : Prop} [Decidable c] {A B : Nat → Option α} {r r' : α} (hp : c → Ev A r) (hn : ¬ c → Ev B r') : Ev (fun k => if c then A k else B k) (if c then r else r') := by
  by_cases h : c
  · rw [if_pos h]; exact ev_pos h (hp h)
  · rw [if_neg h]; exact ev_neg h (hn h)
theorem set_take {α : Type} {a b : List α} {i : Nat} {x : α} (h : i < a.length) (hl : b.length = a.length) (ht : b.take i = a.take i) (hx : x = a[i]) : (b.set i x).take (i + 1) = a.take (i + 1) := by
  refine take_next h (by simp; omega) ?_ (by simp [hx])
  rw [← ht]
  apply List.ext_getElem?
  intro j
  simp only [List.getElem?_take, List.getElem?_set]
  by_cases hj : j < i
  · rw [if_pos hj, if_pos hj, if_neg (by omega)]
  · rw [if_neg hj, if_neg hj]
theorem ev_succ {α : Type} {g : Nat → Option α} {r : α} (h : ∀ k, g (k + 1) = some r) : Ev g r := Ev.step h (ev_some r)
theorem down {P : Nat → Prop} (n : Nat) (hend : P n) (hstep : ∀ i, i < n → P (i + 1) → P i) : ∀ i, i ≤ n → P i := by
  intro i hi
  obtain ⟨d, hd⟩ : ∃ d, i + d = n := ⟨n - i, by omega⟩
  induction d generalizing i with
  | zero =>
    obtain rfl : i = n := by omega
    exact hend
  | succ d ih => exact hstep i (by omega) (ih (i + 1) (by omega) (by omega))
theorem getD_nat {α : Type} (l : List α) (z : α) (i : Nat) (h : i < l.length) : l.getD (i : Int).toNat z = l[i] := by
  simp [List.getD_eq_getElem?_getD, h]
/-- A loop that writes the image of each element into its place. -/
theorem map_loop {α β : Type} (F : Nat → List β → Int → Option (List β)) (l : List α) (c : α → β)
    (hend : ∀ k (b : List β), F (k + 1) b l.length = some b) (hstep : ∀ k (b : List β) (i : Nat) (h : i < l.length), b.length = l.length → F (k + 1) b i = F k (b.set i (c l[i])) ((i + 1 : Nat) : Int)) :
    ∀ (b : List β), b.length = l.length → Ev (fun k => F k b 0) (l.map c) := by
  have key : ∀ (i : Nat), i ≤ l.length → ∀ (b : List β), b.length = l.length → b.take i = (l.map c).take i → Ev (fun k => F k b i) (l.map c) := by
    refine down l.length ?_ ?_
    · intro b hl ht
      refine Ev.step (fun k => hend k b) ?_
      rw [take_full (a := l.map c) (b := b) (by simpa using hl) (by simpa using ht)]
      exact ev_some _
    · intro i hi ih b hl ht
      refine Ev.step (fun k => hstep k b i hi hl) (ih _ (by simpa using hl) ?_)
      exact set_take (by simpa using hi) (by simpa using hl) ht (by simp)
  intro b hl
  exact key 0 (by omega) b hl (by simp)
/-- A loop that goes through all places and answers r. -/
theorem count_loop {ρ : Type} (F : Nat → Int → Option ρ) (n : Nat) (r : ρ) (hend : ∀ k, F (k + 1) n = some r) (hstep : ∀ k (i : Nat), i < n → F (k + 1) i = F k ((i + 1 : Nat) : Int)) : Ev (fun k => F k 0) r := by
  have key : ∀ i, i ≤ n → Ev (fun k => F k (i : Nat)) r := down n (Ev.step hend (ev_some r)) (fun i hi ih => Ev.step (fun k => hstep k i hi) ih)
  exact key 0 (by omega)

theorem strOfNums_append (a b : List Int) : strOfNums (a ++ b) = strOfNums a ++ strOfNums b := by
  apply ByteArray.ext
  simp [strOfNums]
theorem strOfNums_nil : strOfNums [] = (⟨#[]⟩ : ByteArray) := rfl
theorem hex_cut0 : ∀ a : Fin 16, (⟨#[48, 49, 50, 51, 52, 53, 54, 55, 56, 57, 97, 98, 99, 100, 101, 102]⟩ : ByteArray).extract a.val (a.val + 1) = strOfNums [bt (⟨#[48, 49, 50, 51, 52, 53, 54, 55, 56, 57, 97, 98, 99, 100, 101, 102]⟩ : ByteArray) (a.val : Int)] := by
  decide +kernel
theorem hex_cut (y : Int) (h0 : 0 ≤ y) (h : y < 16) : (⟨#[48, 49, 50, 51, 52, 53, 54, 55, 56, 57, 97, 98, 99, 100, 101, 102]⟩ : ByteArray).extract y.toNat (y + 1).toNat = strOfNums [bt (⟨#[48, 49, 50, 51, 52, 53, 54, 55, 56, 57, 97, 98, 99, 100, 101, 102]⟩ : ByteArray) y] := by
  obtain ⟨n, rfl⟩ := Int.eq_ofNat_of_zero_le h0
  exact hex_cut0 ⟨n, by omega⟩
def hexs (l : List Int) : Nat → List Int
  | 0 => []
  | n + 1 => hexs l n ++ [bt (⟨#[48, 49, 50, 51, 52, 53, 54, 55, 56, 57, 97, 98, 99, 100, 101, 102]⟩ : ByteArray) (rd l n / 16), bt (⟨#[48, 49, 50, 51, 52, 53, 54, 55, 56, 57, 97, 98, 99, 100, 101, 102]⟩ : ByteArray) (rd l n % 16)]
theorem hexs_length (l : List Int) : ∀ n, (hexs l n).length = 2 * n := by
  intro n
  induction n with
  | zero => rfl
  | succ n ih => rw [hexs, List.length_append, ih]; simp; omega

theorem ev_spec_HexText_loop (l : List Int) (hl : l.length ≤ 400) (hb : ∀ x ∈ l, 0 ≤ x ∧ x ≤ 255) : ∀ (d i : Nat), i + d = l.length → Ev (fun k => spec_HexText.l0 k l (strOfNums (hexs l i)) i) (0, strOfNums (hexs l l.length)) := by
  intro d
  induction d with
  | zero =>
    intro i hi
    obtain rfl : i = l.length := by omega
    refine Ev.step (fun k => by rw [spec_HexText.l0, if_neg (by omega)]) ?_
    exact ev_some _
  | succ d ih =>
    intro i hi
    have hx := hb _ (rd_mem l i (by omega) (by omega))
    have hs := ih (i + 1) (by omega)
    rw [hexs] at hs
    have e1 : Int.tdiv (rd l i) 16 % 256 = rd l i / 16 := by rw [tdiv_pos hx.1]; omega
    have e2 : (rd l i / 16 + 1) % 256 = rd l i / 16 + 1 := by omega
    have e3 : Int.tmod (rd l i) 16 = rd l i % 16 := tmod_pos hx.1
    have e4 : (rd l i % 16 + 1) % 256 = rd l i % 16 + 1 := by omega
    have c1 := hex_cut (rd l i / 16) (by omega) (by omega)
    have c2 := hex_cut (rd l i % 16) (by omega) (by omega)
    have z1 : (strOfNums (hexs l i)).size = 2 * i := by rw [strOfNums_size, hexs_length]
    have s1 : ∀ b : Int, (strOfNums [b]).size = 1 := fun b => by rw [strOfNums_size]; rfl
    refine Ev.step (fun k => by
      rw [spec_HexText.l0, e1, e2, e3, e4, c1, c2, if_pos (by omega), if_pos (by omega), if_pos (by omega), if_pos (by omega), if_pos (by omega), if_pos (by rw [z1, s1]; omega), if_pos (by omega), if_pos (by omega), if_pos (by omega), if_pos (by rw [← strOfNums_append, s1, strOfNums_size, List.length_append, hexs_length]; simp; omega)]) ?_
    rw [w64 (by omega) (by omega), ← strOfNums_append, ← strOfNums_append, List.append_assoc]
    exact hs
theorem ev_spec_HexText {l : List Int} (hl : l.length ≤ 400) (hb : ∀ x ∈ l, 0 ≤ x ∧ x ≤ 255) : Ev (fun k => spec_HexText.f k l) (0, strOfNums (hexs l l.length)) := by
  unfold spec_HexText.f
  exact ev_neg (by omega) (ev_spec_HexText_loop l hl hb l.length 0 (by omega))

theorem ev_impl_HexText_loop (l : List Int) (hl : l.length ≤ 400) (hb : ∀ x ∈ l, 0 ≤ x ∧ x ≤ 255) : ∀ (d i : Nat), i + d = l.length → Ev (fun k => impl_HexText.l0 k (hexs l i) l l.length i) (0, strOfNums (hexs l l.length)) := by
  intro d
  induction d with
  | zero =>
    intro i hi
    obtain rfl : i = l.length := by omega
    refine Ev.step (fun k => by rw [impl_HexText.l0, if_neg (by omega)]) ?_
    exact ev_some _
  | succ d ih =>
    intro i hi
    have hx := hb _ (rd_mem l i (by omega) (by omega))
    have hs := ih (i + 1) (by omega)
    rw [hexs] at hs
    have e1 : Int.tdiv (rd l i) 16 % 256 = rd l i / 16 := by rw [tdiv_pos hx.1]; omega
    have e3 : Int.tmod (rd l i) 16 = rd l i % 16 := tmod_pos hx.1
    refine Ev.step (fun k => by
      rw [impl_HexText.l0, e1, e3, if_pos (by omega), if_pos (by omega), if_pos (by omega), if_pos (by omega), if_pos (by omega), if_pos (by omega), if_pos (by omega)]) ?_
    refine ev_opt rfl (ev_pos (by rw [hexs_length]; simp; omega) ?_)
    rw [w64 (by omega) (by omega)]
    exact hs
theorem ev_impl_HexText {l : List Int} (hl : l.length ≤ 400) (hb : ∀ x ∈ l, 0 ≤ x ∧ x ≤ 255) : Ev (fun k => impl_HexText.f k l) (0, strOfNums (hexs l l.length)) := by
  unfold impl_HexText.f
  exact ev_neg (by omega) (ev_impl_HexText_loop l hl hb l.length 0 (by omega))

theorem ev_toByteS_loop (a : List Int) (hn : a.length ≤ 140737488355328) : ∀ (d i : Nat) (b : List Int), i + d = a.length → b.length = a.length → b.take i = a.take i → Ev (fun k => laws_toByteS.l0 k a b i) a := by
  intro d
  induction d with
  | zero =>
    intro i b hi hl ht
    refine Ev.step (fun k => by rw [laws_toByteS.l0, if_neg (by omega)]) ?_
    obtain rfl : i = a.length := by omega
    rw [take_full hl ht]
    exact ev_some a
  | succ d ih =>
    intro i b hi hl ht
    refine Ev.step (fun k => by rw [laws_toByteS.l0, if_pos (by omega), if_pos (by omega), if_pos (by omega)]) ?_
    rw [w64 (by omega) (by omega), Int.toNat_natCast]
    exact ih (i + 1) _ (by omega) (by simpa using hl) (set_take (by omega) hl ht (rd_nat a i (by omega)))
theorem ev_toByteS {a : List Int} (hn : a.length ≤ 140737488355328) : Ev (fun k => laws_toByteS.f k a) a := by
  unfold laws_toByteS.f
  refine ev_pos (by omega) (ev_pos (by omega) ?_)
  exact ev_toByteS_loop a hn a.length 0 _ (by omega) (by simp) (by simp)

theorem ev_eqByteS_loop (a b : List Int) (hn : a.length ≤ 140737488355328) (hl : b.length = a.length) : ∀ (d i : Nat), i + d = a.length → b.take i = a.take i → Ev (fun k => laws_eqByteS.l0 k a b i) (decide (a = b)) := by
  intro d
  induction d with
  | zero =>
    intro i hi ht
    refine Ev.step (fun k => by rw [laws_eqByteS.l0, if_neg (by omega)]) ?_
    obtain rfl : i = a.length := by omega
    rw [take_full hl ht]
    simpa using ev_some true
  | succ d ih =>
    intro i hi ht
    by_cases he : rd a i = rd b i
    · refine Ev.step (fun k => by rw [laws_eqByteS.l0, if_pos (by omega), if_pos (by omega), if_pos (by omega), if_pos he]) ?_
      rw [w64 (by omega) (by omega)]
      rw [rd_nat a i (by omega), rd_nat b i (by omega)] at he
      exact ih (i + 1) (by omega) (take_next (by omega) (by omega) ht he.symm)
    · refine Ev.step (fun k => by rw [laws_eqByteS.l0, if_pos (by omega), if_pos (by omega), if_pos (by omega), if_neg he]) ?_
      have : a ≠ b := fun h => he (by rw [h])
      simpa [this] using ev_some false
theorem ev_eqByteS {a b : List Int} (hn : a.length ≤ 140737488355328) : Ev (fun k => laws_eqByteS.f k a b) (decide (a = b)) := by
  unfold laws_eqByteS.f
  by_cases h : (a.length : Int) = b.length
  · exact ev_pos h (ev_eqByteS_loop a b hn (by omega) a.length 0 (by omega) (by simp))
  · refine ev_neg h ?_
    have : a ≠ b := fun h' => h (by rw [h'])
    simpa [this] using ev_some false
theorem ev_eqByteS_refl {a : List Int} (hn : a.length ≤ 140737488355328) : Ev (fun k => laws_eqByteS.f k a a) true := by
  simpa using ev_eqByteS (b := a) hn

theorem q_eqTextResult (c : Int) (s : ByteArray) : laws_eqTextResult.f c s c s = some true := by
  unfold laws_eqTextResult.f
  rw [if_pos rfl, if_pos rfl]

theorem FnExactHexText : laws_FnExactHexText.Pure := by
  intro l _ _ hw
  apply Ev.rounds
  unfold laws_FnExactHexText.f
  by_cases h : (l.length : Int) > 1048576
  · exact ev_pos h (ev_some _)
  · have hb : ∀ x ∈ l, 0 ≤ x ∧ x ≤ 255 := fun x hx => u8_range (hw x hx)
    have tail : Ev (fun k => (laws_toByteS.f k l).bind fun t => (laws_eqByteS.f k l t).bind fun u => if u = true then some true else some false) true :=
      Ev.bind (ev_toByteS (by omega)) (Ev.bind (ev_eqByteS_refl (by omega)) (ev_pos rfl (ev_some _)))
    refine ev_neg h (Ev.bind (ev_toByteS (by omega)) ?_)
    by_cases h4 : l.length ≤ 400
    · refine Ev.bind (ev_spec_HexText h4 hb) (Ev.bind (ev_toByteS (by omega)) (Ev.bind (ev_impl_HexText h4 hb) ?_))
      exact ev_opt (q_eqTextResult _ _) (ev_pos rfl tail)
    · have a1 : Ev (fun k => spec_HexText.f k l) (2, (⟨#[]⟩ : ByteArray)) := by
        unfold spec_HexText.f
        exact ev_pos (by omega) (ev_some _)
      have a2 : Ev (fun k => impl_HexText.f k l) (2, (⟨#[]⟩ : ByteArray)) := by
        unfold impl_HexText.f
        exact ev_pos (by omega) (ev_some _)
      refine Ev.bind a1 (Ev.bind (ev_toByteS (by omega)) (Ev.bind a2 ?_))
      exact ev_opt (q_eqTextResult _ _) (ev_pos rfl tail)

end Go.Proofs.Ytodlogjkhnieoaa.Pure
