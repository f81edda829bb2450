/- Proved: the law FnExactPutParts answers true at every input that Go can hand in (it says: The program's PutParts returns what the reference's returns, for all arguments.) No condition beyond the statement's own. -/
import Derived.Test.YtodlogjkhnieoaaStFnExactPutParts
namespace Go.Proofs.Ytodlogjkhnieoaa.Pure
open Go.RowKit Go.Proofs.Ytodlogjkhnieoaa.PFnExactPutParts Go.Proofs.YtodlogjkhnieoaaW.PrintWords Go.Proofs.YtodlogjkhnieoaaW.PrintLast Go.Proofs.YtodlogjkhnieoaaW.PrintMore
set_option linter.unusedVariables false
set_option linter.unusedSimpArgs false

theorem w64 {x : Int} (h0 : -9223372036854775808 ≤ x) (h1 : x ≤ 9223372036854775807) : wrap64 x = x := by
  unfold wrap64
  omega
theorem tmod_pos {a b : Int} (h : 0 ≤ a) : Int.tmod a b = a % b := Int.tmod_eq_emod_of_nonneg h
theorem tdiv_pos {a b : Int} (h : 0 ≤ a) : Int.tdiv a b = a / b := Int.tdiv_eq_ediv_of_nonneg h
theorem ev_some {α : Type} (r : α) : Ev (fun _ => some r) r := Ev.now r
theorem ev_pos {α : Type} {c : Prop} [Decidable c] {A B : Nat → Option α} {r : α} (h : c) (e : Ev A r) : Ev (fun k => if c then A k else B k) r := by
  simpa only [if_pos h] using e
theorem ev_neg {α : Type} {c : Prop} [Decidable c] {A B : Nat → Option α} {r : α} (h : ¬ c) (e : Ev B r) : Ev (fun k => if c then A k else B k) r := by
  simpa only [if_neg h] using e
theorem ev_opt {α β : Type} {o : Option α} {f : Nat → α → Option β} {a : α} {r : β} (h : o = some a) (e : Ev (fun n => f n a) r) : Ev (fun n => o.bind (f n)) r := by
  simpa only [h, Option.bind_some] using e
theorem ev_to {α : Type} {g : Nat → Option α} {r r' : α} (e : Ev g r) (h : r = r') : Ev g r' := h ▸ e
theorem ev_fix {α : Type} {o : Option α} {r : α} (h : o = some r) : Ev (fun _ => o) r := ⟨0, fun _ _ => h⟩
theorem rd_nat (l : List Int) (i : Nat) (h : i < l.length) : rd l (i : Int) = l[i] := by
  unfold rd
  simp [List.getD_eq_getElem?_getD, h]
theorem rd_mem (l : List Int) (i : Int) (h0 : 0 ≤ i) (h : i < l.length) : rd l i ∈ l := by
  obtain ⟨n, rfl⟩ := Int.eq_ofNat_of_zero_le h0
  rw [rd_nat l n (by omega)]
  exact List.getElem_mem _
theorem u8_range {x : Int} (h : (Lit.int .u8 x).wf = true) : 0 ≤ x ∧ x ≤ 255 := by
  simp [Lit.wf, IntKind.min, IntKind.max, IntKind.signed, IntKind.bits] at h
  omega
theorem i64_range {x : Int} (h : (Lit.int .i64 x).wf = true) : -9223372036854775808 ≤ x ∧ x ≤ 9223372036854775807 := by
  simp [Lit.wf, IntKind.min, IntKind.max, IntKind.signed, IntKind.bits] at h
  omega
theorem set_mid {α : Type} (a : List α) (x : α) (b : List α) (y : α) : (a ++ x :: b).set a.length y = a ++ y :: b := by simp
theorem take_full {α : Type} {a b : List α} (hl : b.length = a.length) (ht : b.take a.length = a.take a.length) : b = a := by
  rw [List.take_of_length_le (by omega), List.take_of_length_le (by omega)] at ht
  exact ht
theorem take_next {α : Type} {a b : List α} {i : Nat} (ha : i < a.length) (hb : i < b.length) (ht : b.take i = a.take i) (hx : b[i] = a[i]) : b.take (i + 1) = a.take (i + 1) := by
  rw [List.take_succ_eq_append_getElem ha, List.take_succ_eq_append_getElem hb, ht, hx]
theorem ev_cond {α : Type} {c : Prop} [Decidable c] {A B : Nat → Option α} {r r' : α} (hp : c → Ev A r) (hn : ¬ c → Ev B r') : Ev (fun k => if c then A k else B k) (if c then r else r') := by
  by_cases h : c
  · rw [if_pos h]; exact ev_pos h (hp h)
  · rw [if_neg h]; exact ev_neg h (hn h)
theorem set_take {α : Type} {a b : List α} {i : Nat} {x : α} (h : i < a.length) (hl : b.length = a.length) (ht : b.take i = a.take i) (hx : x = a[i]) : (b.set i x).take (i + 1) = a.take (i + 1) := by
  refine take_next h (by simp; omega) ?_ (by simp [hx])
  rw [← ht]
  apply List.ext_getElem?
  intro j
  simp only [List.getElem?_take, List.getElem?_set]
  by_cases hj : j < i
  · rw [if_pos hj, if_pos hj, if_neg (by omega)]
  · rw [if_neg hj, if_neg hj]
theorem ev_succ {α : Type} {g : Nat → Option α} {r : α} (h : ∀ k, g (k + 1) = some r) : Ev g r := Ev.step h (ev_some r)
theorem down {P : Nat → Prop} (n : Nat) (hend : P n) (hstep : ∀ i, i < n → P (i + 1) → P i) : ∀ i, i ≤ n → P i := by
  intro i hi
  obtain ⟨d, hd⟩ : ∃ d, i + d = n := ⟨n - i, by omega⟩
  induction d generalizing i with
  | zero =>
    obtain rfl : i = n := by omega
    exact hend
  | succ d ih => exact hstep i (by omega) (ih (i + 1) (by omega) (by omega))
theorem getD_nat {α : Type} (l : List α) (z : α) (i : Nat) (h : i < l.length) : l.getD (i : Int).toNat z = l[i] := by
  simp [List.getD_eq_getElem?_getD, h]
/-- A loop that writes the image of each element into its place. -/
theorem map_loop {α β : Type} (F : Nat → List β → Int → Option (List β)) (l : List α) (c : α → β)
    (hend : ∀ k (b : List β), F (k + 1) b l.length = some b) (hstep : ∀ k (b : List β) (i : Nat) (h : i < l.length), b.length = l.length → F (k + 1) b i = F k (b.set i (c l[i])) ((i + 1 : Nat) : Int)) :
    ∀ (b : List β), b.length = l.length → Ev (fun k => F k b 0) (l.map c) := by
  have key : ∀ (i : Nat), i ≤ l.length → ∀ (b : List β), b.length = l.length → b.take i = (l.map c).take i → Ev (fun k => F k b i) (l.map c) := by
    refine down l.length ?_ ?_
    · intro b hl ht
      refine Ev.step (fun k => hend k b) ?_
      rw [take_full (a := l.map c) (b := b) (by simpa using hl) (by simpa using ht)]
      exact ev_some _
    · intro i hi ih b hl ht
      refine Ev.step (fun k => hstep k b i hi hl) (ih _ (by simpa using hl) ?_)
      exact set_take (by simpa using hi) (by simpa using hl) ht (by simp)
  intro b hl
  exact key 0 (by omega) b hl (by simp)
/-- A loop that goes through all places and answers r. -/
theorem count_loop {ρ : Type} (F : Nat → Int → Option ρ) (n : Nat) (r : ρ) (hend : ∀ k, F (k + 1) n = some r) (hstep : ∀ k (i : Nat), i < n → F (k + 1) i = F k ((i + 1 : Nat) : Int)) : Ev (fun k => F k 0) r := by
  have key : ∀ i, i ≤ n → Ev (fun k => F k (i : Nat)) r := down n (Ev.step hend (ev_some r)) (fun i hi ih => Ev.step (fun k => hstep k i hi) ih)
  exact key 0 (by omega)

def Bytes (l : List Int) : Prop := ∀ x ∈ l, 0 ≤ x ∧ x ≤ 255
theorem bytes_wf {l : List Int} (h : ∀ x ∈ l, (Lit.int .u8 x).wf = true) : Bytes l := fun x hx => u8_range (h x hx)
theorem bytes_append {a b : List Int} (ha : Bytes a) (hb : Bytes b) : Bytes (a ++ b) := by
  intro x hx
  rcases List.mem_append.1 hx with h | h
  · exact ha x h
  · exact hb x h
theorem bytes_nil : Bytes [] := fun x hx => by simp at hx
theorem bytes_one {x : Int} (h : 0 ≤ x ∧ x ≤ 255) : Bytes [x] := fun y hy => by simp at hy; subst hy; exact h

def enc : List (List Int) → List Int
  | [] => []
  | p :: ps => (p.length : Int) :: (p ++ enc ps)
theorem enc_append (a b : List (List Int)) : enc (a ++ b) = enc a ++ enc b := by
  induction a with
  | nil => rfl
  | cons p ps ih => simp [enc, ih]
theorem enc_one (p : List Int) : enc [p] = (p.length : Int) :: p := by simp [enc]
def tp : Nat → List Int → List (List Int) → Int × List (List Int)
  | _, [], x => (0, x)
  | 0, _ :: _, _ => (5, [])
  | f + 1, b :: r, x => if (r.length : Int) < b ∨ x.length = 20 then (5, []) else tp f (r.drop b.toNat) (x ++ [r.take b.toNat])
def tpF (l : List Int) : Int × List (List Int) := if 400 < l.length then (2, []) else tp l.length l []
theorem tp_good : ∀ (f : Nat) (l : List Int) (x : List (List Int)) (ps : List (List Int)), Bytes l → l.length ≤ f → x.length ≤ 20 → tp f l x = (0, ps) → ∃ qs, ps = x ++ qs ∧ enc qs = l ∧ (∀ q ∈ qs, q.length ≤ 255) ∧ ps.length ≤ 20 := by
  intro f
  induction f with
  | zero =>
    intro l x ps hb hl hx h
    cases l with
    | nil =>
      simp [tp] at h
      exact ⟨[], by simp [h], rfl, by simp, by rw [← h]; exact hx⟩
    | cons b r => simp at hl
  | succ f ih =>
    intro l x ps hb hl hx h
    cases l with
    | nil =>
      simp [tp] at h
      exact ⟨[], by simp [h], rfl, by simp, by rw [← h]; exact hx⟩
    | cons b r =>
      have hb0 := hb b (by simp)
      rw [tp] at h
      by_cases hc : (r.length : Int) < b ∨ x.length = 20
      · rw [if_pos hc] at h
        simp at h
      · rw [if_neg hc] at h
        simp only [List.length_cons] at hl
        obtain ⟨qs, e1, e2, e3, e4⟩ := ih (r.drop b.toNat) (x ++ [r.take b.toNat]) ps (fun y hy => hb y (List.mem_cons_of_mem _ (List.mem_of_mem_drop hy))) (by rw [List.length_drop]; omega) (by simp; omega) h
        have hlen : (r.take b.toNat).length = b.toNat := by rw [List.length_take]; omega
        refine ⟨r.take b.toNat :: qs, by rw [e1]; simp, ?_, ?_, e4⟩
        · rw [enc, e2, hlen, List.take_append_drop, Int.toNat_of_nonneg hb0.1]
        · intro q hq
          rcases List.mem_cons.1 hq with rfl | hq
          · omega
          · exact e3 q hq
theorem tp_enc : ∀ (qs : List (List Int)) (f : Nat) (x : List (List Int)), (enc qs).length ≤ f → (∀ q ∈ qs, q.length ≤ 255) → x.length + qs.length ≤ 20 → tp f (enc qs) x = (0, x ++ qs) := by
  intro qs
  induction qs with
  | nil =>
    intro f x _ _ _
    cases f <;> simp [enc, tp]
  | cons q qs ih =>
    intro f x hf hq hx
    simp only [enc, List.length_cons, List.length_append] at hf
    obtain ⟨f, rfl⟩ : ∃ m, f = m + 1 := ⟨f - 1, by omega⟩
    simp only [List.length_cons] at hx
    rw [enc, tp, if_neg (by simp; omega), Int.toNat_natCast, List.drop_left, List.take_left, ih f _ (by omega) (fun p hp => hq p (List.mem_cons_of_mem _ hp)) (by simp; omega)]
    simp
def ppF (ps : List (List Int)) : Int × List Int := if ps.length ≤ 20 ∧ (∀ p ∈ ps, p.length ≤ 255) ∧ (enc ps).length ≤ 400 then (0, enc ps) else (2, [])
theorem rdL1_nat (l : List (List Int)) (i : Nat) (h : i < l.length) : rd_L1 l i = l[i] := getD_nat l _ i h
theorem enc_take_succ (ps : List (List Int)) (i : Nat) (h : i < ps.length) : enc (ps.take (i + 1)) = enc (ps.take i) ++ ((ps[i].length : Int) :: ps[i]) := by
  rw [List.take_succ_eq_append_getElem h, enc_append, enc_one]
theorem enc_take_le (ps : List (List Int)) : ∀ i, (enc (ps.take i)).length ≤ (enc ps).length := by
  intro i
  have h : enc ps = enc (ps.take i) ++ enc (ps.drop i) := by rw [← enc_append, List.take_append_drop]
  rw [h, List.length_append]
  omega

theorem ev_spec_PutParts_loop (ps : List (List Int)) (hp : ∀ p ∈ ps, p.length ≤ 2000000) (hn : ps.length ≤ 20) (hall : ∀ p ∈ ps, p.length ≤ 255) : ∀ i, i ≤ ps.length → Ev (fun k => spec_PutParts.l0 k ps (enc (ps.take i)) i) (if (enc ps).length ≤ 400 then (0, enc ps) else (2, [])) := by
  have hlen : ∀ i, i ≤ ps.length → (enc (ps.take i)).length ≤ 256 * i := by
    intro i
    induction i with
    | zero => intro _; simp [enc]
    | succ i ih =>
      intro hi
      have h1 := ih (by omega)
      have h2 := hall _ (List.getElem_mem (by omega : i < ps.length))
      rw [enc_take_succ ps i (by omega), List.length_append, List.length_cons]
      omega
  refine down ps.length ?_ ?_
  · rw [List.take_length]
    refine Ev.step (fun k => by rw [spec_PutParts.l0, if_neg (by omega)]) ?_
    by_cases h : (enc ps).length ≤ 400
    · rw [if_pos h]
      exact ev_neg (by omega) (ev_some _)
    · rw [if_neg h]
      exact ev_pos (by omega) (ev_some _)
  · intro i hi ih
    have h2 := hall _ (List.getElem_mem hi)
    have h3 := hlen i (by omega)
    refine Ev.step (fun k => by rw [spec_PutParts.l0, if_pos (by omega), if_pos (by omega), rdL1_nat ps i hi, w64 (by omega) (by omega)]) ?_
    refine ev_neg (by omega) (ev_pos (by omega) (ev_opt rfl (ev_pos (by simp; omega) ?_)))
    rw [enc_take_succ ps i hi] at ih
    rw [show ((ps[i].length : Nat) : Int) % 256 = ps[i].length from by omega, List.append_assoc]
    exact ih
theorem ev_spec_PutParts_long (ps : List (List Int)) (hp : ∀ p ∈ ps, p.length ≤ 2000000) (hn : ps.length ≤ 20) (hall : ¬ ∀ p ∈ ps, p.length ≤ 255) : ∀ (d i : Nat) (out : List Int), i + d = ps.length → (∀ j : Nat, j < i → ∀ h : j < ps.length, ps[j].length ≤ 255) → out.length ≤ 256 * i → Ev (fun k => spec_PutParts.l0 k ps out i) (2, []) := by
  intro d
  induction d with
  | zero =>
    intro i out hi hj _
    exfalso
    apply hall
    intro p hp
    obtain ⟨j, h, rfl⟩ := List.getElem_of_mem hp
    exact hj j (by omega) h
  | succ d ih =>
    intro i out hi hj ho
    have hil : i < ps.length := by omega
    refine Ev.step (fun k => by rw [spec_PutParts.l0, if_pos (by omega), if_pos (by omega), rdL1_nat ps i hil, w64 (by omega) (by omega)]) ?_
    by_cases h : ps[i].length ≤ 255
    · refine ev_neg (by omega) (ev_pos (by omega) (ev_opt rfl (ev_pos (by simp; omega) ?_)))
      refine ih (i + 1) _ (by omega) (fun j h1 h2 => ?_) (by simp; omega)
      by_cases e : j = i
      · subst e; exact h
      · exact hj j (by omega) h2
    · exact ev_pos (by omega) (ev_some _)
theorem ev_spec_PutParts {ps : List (List Int)} (hp : ∀ p ∈ ps, p.length ≤ 2000000) : Ev (fun k => spec_PutParts.f k ps) (ppF ps) := by
  unfold spec_PutParts.f ppF
  by_cases hn : ps.length ≤ 20
  · refine ev_neg (by omega) ?_
    by_cases hall : ∀ p ∈ ps, p.length ≤ 255
    · have h := ev_spec_PutParts_loop ps hp hn hall 0 (by omega)
      by_cases h4 : (enc ps).length ≤ 400
      · rw [if_pos ⟨hn, hall, h4⟩]
        rw [if_pos h4] at h
        exact h
      · rw [if_neg (fun z => h4 z.2.2)]
        rw [if_neg h4] at h
        exact h
    · rw [if_neg (fun z => hall z.2.1)]
      exact ev_spec_PutParts_long ps hp hn hall ps.length 0 [] (by omega) (fun j h => by omega) (by simp)
  · rw [if_neg (fun z => hn z.1)]
    exact ev_pos (by omega) (ev_some _)

theorem ev_impl_PutParts_good (ps : List (List Int)) (hn : ps.length ≤ 20) (hall : ∀ p ∈ ps, p.length ≤ 255) (h4 : (enc ps).length ≤ 400) : ∀ i, i ≤ ps.length → Ev (fun k => impl_PutParts.l0 k (enc (ps.take i)) false ps ps.length i) (0, enc ps) := by
  refine down ps.length ?_ ?_
  · rw [List.take_length]
    refine Ev.step (fun k => by rw [impl_PutParts.l0, if_neg (by omega), if_neg (by simp)]) ?_
    exact ev_some _
  · intro i hi ih
    have h2 := hall _ (List.getElem_mem hi)
    have h3 := enc_take_le ps i
    have h5 := enc_take_le ps (i + 1)
    rw [enc_take_succ ps i hi] at ih h5
    simp only [List.length_append, List.length_cons] at h5
    refine Ev.step (fun k => by rw [impl_PutParts.l0, if_pos (by omega), if_pos (by omega), if_pos (by omega), if_neg (by simp), rdL1_nat ps i hi, w64 (x := ((enc (ps.take i)).length : Int) + 1) (by omega) (by omega), w64 (by omega) (by omega), w64 (by omega) (by omega)]) ?_
    refine ev_neg (by omega) (ev_neg (by omega) (ev_pos (by omega) (ev_opt rfl (ev_pos (by simp; omega) ?_))))
    rw [decide_eq_false (by omega), show ((ps[i].length : Nat) : Int) % 256 = ps[i].length from by omega, List.append_assoc]
    exact ih
theorem ev_impl_PutParts_bad (ps : List (List Int)) (hp : ∀ p ∈ ps, p.length ≤ 2000000) (hn : ps.length ≤ 20) (hbad : ¬ ((∀ p ∈ ps, p.length ≤ 255) ∧ (enc ps).length ≤ 400)) : ∀ (d i : Nat), i + d = ps.length → (∀ j : Nat, j < i → ∀ h : j < ps.length, ps[j].length ≤ 255) → (enc (ps.take i)).length ≤ 400 → Ev (fun k => impl_PutParts.l0 k (enc (ps.take i)) false ps ps.length i) (2, []) := by
  intro d
  induction d with
  | zero =>
    intro i hi hj h4
    exfalso
    apply hbad
    refine ⟨?_, ?_⟩
    · intro p hp
      obtain ⟨j, h, rfl⟩ := List.getElem_of_mem hp
      exact hj j (by omega) h
    · rw [List.take_of_length_le (by omega)] at h4
      exact h4
  | succ d ih =>
    intro i hi hj h4
    have hil : i < ps.length := by omega
    have h6 := hp _ (List.getElem_mem hil)
    have h5 := enc_take_succ ps i hil
    refine Ev.step (fun k => by rw [impl_PutParts.l0, if_pos (by omega), if_pos (by omega), if_pos (by omega), if_neg (by simp), rdL1_nat ps i hil, w64 (x := ((enc (ps.take i)).length : Int) + 1) (by omega) (by omega), w64 (by omega) (by omega), w64 (by omega) (by omega)]) ?_
    by_cases h : ps[i].length ≤ 255
    · refine ev_neg (by omega) ?_
      by_cases h7 : (enc (ps.take i)).length + 1 + ps[i].length ≤ 400
      · refine ev_neg (by omega) (ev_pos (by omega) (ev_opt rfl (ev_pos (by simp; omega) ?_)))
        have h8 := ih (i + 1) (by omega) (fun j h1 h2 => by
          by_cases e : j = i
          · subst e; exact h
          · exact hj j (by omega) h2) (by rw [h5, List.length_append, List.length_cons]; omega)
        rw [h5] at h8
        rw [decide_eq_false (by omega), show ((ps[i].length : Nat) : Int) % 256 = ps[i].length from by omega, List.append_assoc]
        exact h8
      · exact ev_pos (by omega) (ev_some _)
    · exact ev_pos (by omega) (ev_some _)
theorem ev_impl_PutParts {ps : List (List Int)} (hp : ∀ p ∈ ps, p.length ≤ 2000000) (hm : ps.length ≤ 2000000) : Ev (fun k => impl_PutParts.f k ps) (ppF ps) := by
  unfold impl_PutParts.f ppF
  by_cases hn : ps.length ≤ 20
  · rw [decide_eq_false (by omega)]
    by_cases hall : (∀ p ∈ ps, p.length ≤ 255) ∧ (enc ps).length ≤ 400
    · rw [if_pos ⟨hn, hall⟩]
      exact ev_impl_PutParts_good ps hn hall.1 hall.2 0 (by omega)
    · rw [if_neg (fun z => hall z.2)]
      exact ev_impl_PutParts_bad ps hp hn hall ps.length 0 (by omega) (fun j h => by omega) (by simp [enc])
  · rw [if_neg (fun z => hn z.1), decide_eq_true (by omega)]
    refine Ev.step (fun k => by rw [impl_PutParts.l0, if_pos (by omega), if_pos (by omega), if_pos (by omega), if_pos rfl]) ?_
    exact ev_some _

theorem ev_markByteS_from_loop (c : Int) (h0 : 0 ≤ c) (h1 : c ≤ 1000000000) : ∀ (d i : Nat) (b : List Int), i + d = b.length → b.length ≤ 4000000 → (∀ j : Nat, j < i → b[j]? = some ((c + (j : Int)) % 256)) →
    ∃ r, Ev (fun k => laws_markByteS.l0 k b (c + (i : Int)) i) (c + (b.length : Int), r) ∧ r.length = b.length ∧ ∀ j : Nat, j < b.length → r[j]? = some ((c + (j : Int)) % 256) := by
  intro d
  induction d with
  | zero =>
    intro i b hi hl hj
    obtain rfl : i = b.length := by omega
    refine ⟨b, Ev.step (fun k => by rw [laws_markByteS.l0, if_neg (by omega)]) ?_, rfl, hj⟩
    exact ev_some _
  | succ d ih =>
    intro i b hi hl hj
    obtain ⟨r, hr, hrl, hrj⟩ := ih (i + 1) (b.set i ((c + (i : Int)) % 256)) (by simp; omega) (by simpa using hl) (fun j h => by
      rw [List.getElem?_set]
      by_cases e : i = j
      · subst e
        rw [if_pos rfl, if_pos (by omega)]
      · rw [if_neg e]
        exact hj j (by omega))
    rw [List.length_set] at hr hrl hrj
    refine ⟨r, Ev.step (fun k => by rw [laws_markByteS.l0, if_pos (by omega), if_pos (by omega), Int.toNat_natCast, w64 (by omega) (by omega), w64 (by omega) (by omega)]) ?_, hrl, hrj⟩
    rw [show c + (i : Int) + 1 = c + ((i + 1 : Nat) : Int) from by omega]
    exact hr
theorem ev_heldByteS_from_loop (c : Int) (h0 : 0 ≤ c) (h1 : c ≤ 1000000000) (r : List Int) (hl : r.length ≤ 4000000) (hj : ∀ j : Nat, j < r.length → r[j]? = some ((c + (j : Int)) % 256)) : ∀ i, i ≤ r.length → Ev (fun k => laws_heldByteS.l0 k r (c + (i : Int)) i) (c + (r.length : Int)) := by
  refine down r.length ?_ ?_
  · refine Ev.step (fun k => by rw [laws_heldByteS.l0, if_neg (by omega)]) ?_
    exact ev_some _
  · intro i hi ih
    have h1 := hj i hi
    rw [List.getElem?_eq_getElem hi] at h1
    have h2 : rd r (i : Int) = (c + (i : Int)) % 256 := by
      rw [rd_nat r i hi]
      exact Option.some.inj h1
    refine Ev.step (fun k => by rw [laws_heldByteS.l0, if_pos (by omega), if_pos (by omega), if_pos h2, w64 (by omega) (by omega), w64 (by omega) (by omega)]) ?_
    rw [show c + (i : Int) + 1 = c + ((i + 1 : Nat) : Int) from by omega]
    exact ih
theorem ev_markheldByteS_from (l : List Int) (hl : l.length ≤ 4000000) (c : Int) (h0 : 0 ≤ c) (h1 : c ≤ 1000000000) : ∃ r, Ev (fun k => laws_markByteS.f k l c) (c + (l.length : Int), r) ∧ Ev (fun k => laws_heldByteS.f k r c) (c + (l.length : Int)) := by
  obtain ⟨r, hr, hrl, hrj⟩ := ev_markByteS_from_loop c h0 h1 l.length 0 l (by omega) hl (fun j h => by omega)
  have h := ev_heldByteS_from_loop c h0 h1 r (by omega) (fun j h => hrj j (by omega)) 0 (by omega)
  rw [hrl] at h
  have e : c + ((0 : Nat) : Int) = c := by omega
  rw [e] at hr h
  exact ⟨r, hr, h⟩

/-- How many bytes lie in the rows. -/
def tot : List (List Int) → Nat
  | [] => 0
  | x :: xs => x.length + tot xs
theorem ev_markByteSS_go : ∀ (l : List (List Int)) (c : Int), 0 ≤ c → c + (tot l : Int) ≤ 2000000 → l.length ≤ 2000000 → ∃ r, Ev (fun k => laws_markByteSS.go k l c) (c + (tot l : Int), r) ∧ r.length = l.length ∧ ∀ j (h : j < r.length), Ev (fun k => laws_heldByteS.f k r[j] (c + (tot (l.take j) : Int))) (c + (tot (l.take (j + 1)) : Int))
  | [], c, _, _, _ => ⟨[], ev_to (ev_some _) (by simp [tot]), rfl, fun j h => absurd h (by simp)⟩
  | x :: xs, c, h0, hm, hl => by
    rw [tot] at hm
    rw [List.length_cons] at hl
    obtain ⟨b, m1, m2⟩ := ev_markheldByteS_from x (by omega) c h0 (by omega)
    obtain ⟨r, g1, g2, g3⟩ := ev_markByteSS_go xs (c + (x.length : Int)) (by omega) (by omega) (by omega)
    refine ⟨b :: r, ?_, by simp [g2], fun j h => ?_⟩
    · refine Ev.bind m1 (Ev.bind g1 (ev_to (ev_some _) ?_))
      rw [tot, show c + (x.length : Int) + (tot xs : Int) = c + ((x.length + tot xs : Nat) : Int) from by omega]
    · cases j with
      | zero =>
        rw [List.getElem_cons_zero, List.take_zero, List.take_succ_cons, List.take_zero, tot, tot, tot, show c + ((0 : Nat) : Int) = c from by omega, show c + ((x.length + 0 : Nat) : Int) = c + (x.length : Int) from by omega]
        exact m2
      | succ j =>
        have := g3 j (by simpa using h)
        rw [List.getElem_cons_succ, List.take_succ_cons, List.take_succ_cons, tot, tot, show c + ((x.length + tot (xs.take j) : Nat) : Int) = c + (x.length : Int) + (tot (xs.take j) : Int) from by omega, show c + ((x.length + tot (xs.take (j + 1)) : Nat) : Int) = c + (x.length : Int) + (tot (xs.take (j + 1)) : Int) from by omega]
        exact this
theorem tot_take_le (l : List (List Int)) : ∀ i, tot (l.take i) ≤ tot l := by
  induction l with
  | nil => intro i; simp [tot]
  | cons x xs ih =>
    intro i
    cases i with
    | zero => simp [tot]
    | succ i =>
      rw [List.take_succ_cons, tot, tot]
      have := ih i
      omega

theorem ev_szByteSS_loop (l : List (List Int)) (hl : l.length ≤ 1048576) (hp : ∀ p ∈ l, p.length ≤ maxLen) : ∀ (d i : Nat) (a : Int), i + d = l.length → 0 ≤ a → a ≤ 1048576 → ∃ s, Ev (fun k => laws_szByteSS.l0 k l a i) s ∧ (0 ≤ s → (tot (l.drop i) : Int) ≤ a) := by
  intro d
  induction d with
  | zero =>
    intro i a hi h0 h1
    refine ⟨a, Ev.step (fun k => by rw [laws_szByteSS.l0, if_neg (by omega)]) (ev_some _), fun _ => ?_⟩
    obtain rfl : i = l.length := by omega
    rw [List.drop_length, tot]
    omega
  | succ d ih =>
    intro i a hi h0 h1
    have hi' : i < l.length := by omega
    have hb := hp _ (List.getElem_mem hi')
    unfold maxLen at hb
    have e1 : wrap64 (a - (l[i].length : Int)) = a - (l[i].length : Int) := w64 (by omega) (by omega)
    by_cases c : a - (l[i].length : Int) < 0
    · refine ⟨-1, ?_, fun h => by omega⟩
      refine Ev.step (fun k => by rw [laws_szByteSS.l0, if_pos (by omega), if_pos (by omega), rdL1_nat l i hi']) ?_
      exact ev_opt (show laws_szByteS.f l[i] a = some (-1) from by unfold laws_szByteS.f; rw [e1, if_pos c]) (ev_pos (show (-1 : Int) < 0 by decide) (ev_some _))
    · obtain ⟨s, g1, g2⟩ := ih (i + 1) (a - (l[i].length : Int)) (by omega) (by omega) (by omega)
      refine ⟨s, ?_, fun h => ?_⟩
      · refine Ev.step (fun k => by rw [laws_szByteSS.l0, if_pos (by omega), if_pos (by omega), rdL1_nat l i hi', w64 (x := (i : Int) + 1) (by omega) (by omega)]) ?_
        exact ev_opt (show laws_szByteS.f l[i] a = some (a - (l[i].length : Int)) from by unfold laws_szByteS.f; rw [e1, if_neg c]) (ev_neg c g1)
      have := g2 h
      rw [List.drop_eq_getElem_cons hi', tot]
      omega
theorem ev_szByteSS (l : List (List Int)) (hl : l.length ≤ maxLen) (hp : ∀ p ∈ l, p.length ≤ maxLen) : ∃ s, Ev (fun k => laws_szByteSS.f k l 1048576) s ∧ (0 ≤ s → l.length ≤ 1048576 ∧ tot l ≤ 1048576) := by
  unfold maxLen at hl
  have e1 : wrap64 (1048576 - (l.length : Int)) = 1048576 - (l.length : Int) := w64 (by omega) (by omega)
  unfold laws_szByteSS.f
  rw [e1]
  by_cases c : 1048576 - (l.length : Int) < 0
  · exact ⟨-1, ev_pos c (ev_some _), fun h => by omega⟩
  · obtain ⟨s, g1, g2⟩ := ev_szByteSS_loop l (by omega) hp l.length 0 (1048576 - (l.length : Int)) (by omega) (by omega) (by omega)
    refine ⟨s, ev_neg c g1, fun h => ⟨by omega, ?_⟩⟩
    have := g2 h
    rw [List.drop_zero] at this
    omega
theorem len_le_tot : ∀ (l : List (List Int)), ∀ p ∈ l, p.length ≤ tot l
  | x :: xs, p, hp => by
    rw [tot]
    rcases List.mem_cons.1 hp with rfl | h
    · omega
    · have := len_le_tot xs p h
      omega

theorem ev_toByteS_loop (a : List Int) (hn : a.length ≤ 140737488355328) : ∀ (d i : Nat) (b : List Int), i + d = a.length → b.length = a.length → b.take i = a.take i → Ev (fun k => laws_toByteS.l0 k a b i) a := by
  intro d
  induction d with
  | zero =>
    intro i b hi hl ht
    refine Ev.step (fun k => by rw [laws_toByteS.l0, if_neg (by omega)]) ?_
    obtain rfl : i = a.length := by omega
    rw [take_full hl ht]
    exact ev_some a
  | succ d ih =>
    intro i b hi hl ht
    refine Ev.step (fun k => by rw [laws_toByteS.l0, if_pos (by omega), if_pos (by omega), if_pos (by omega)]) ?_
    rw [w64 (by omega) (by omega), Int.toNat_natCast]
    exact ih (i + 1) _ (by omega) (by simpa using hl) (set_take (by omega) hl ht (rd_nat a i (by omega)))
theorem ev_toByteS {a : List Int} (hn : a.length ≤ 140737488355328) : Ev (fun k => laws_toByteS.f k a) a := by
  unfold laws_toByteS.f
  refine ev_pos (by omega) (ev_pos (by omega) ?_)
  exact ev_toByteS_loop a hn a.length 0 _ (by omega) (by simp) (by simp)

theorem ev_toByteSS_loop (a : List (List Int)) (hn : a.length ≤ 2000000) (hp : ∀ p ∈ a, p.length ≤ 2000000) : ∀ (d i : Nat) (b : List (List Int)), i + d = a.length → b.length = a.length → b.take i = a.take i → Ev (fun k => laws_toByteSS.l0 k a b i) a := by
  intro d
  induction d with
  | zero =>
    intro i b hi hl ht
    refine Ev.step (fun k => by rw [laws_toByteSS.l0, if_neg (by omega)]) ?_
    obtain rfl : i = a.length := by omega
    rw [take_full hl ht]
    exact ev_some a
  | succ d ih =>
    intro i b hi hl ht
    have hi' : i < a.length := by omega
    have hb := hp _ (List.getElem_mem hi')
    refine Ev.step (fun k => by rw [laws_toByteSS.l0, if_pos (by omega), if_pos (by omega), rdL1_nat a i hi', w64 (by omega) (by omega), Int.toNat_natCast]) (Ev.bind (ev_toByteS (a := a[i]) (by omega)) (ev_pos (show (i : Int) < (b.length : Int) by omega) ?_))
    exact ih (i + 1) _ (by omega) (by simpa using hl) (set_take (by omega) hl ht rfl)
theorem ev_toByteSS {a : List (List Int)} (hn : a.length ≤ 2000000) (hp : ∀ p ∈ a, p.length ≤ 2000000) : Ev (fun k => laws_toByteSS.f k a) a := by
  unfold laws_toByteSS.f
  refine ev_pos (by omega) (ev_pos (by omega) ?_)
  exact ev_toByteSS_loop a hn hp a.length 0 _ (by omega) (by simp) (by simp)

theorem ev_eqByteS_loop (a b : List Int) (hn : a.length ≤ 140737488355328) (hl : b.length = a.length) : ∀ (d i : Nat), i + d = a.length → b.take i = a.take i → Ev (fun k => laws_eqByteS.l0 k a b i) (decide (a = b)) := by
  intro d
  induction d with
  | zero =>
    intro i hi ht
    refine Ev.step (fun k => by rw [laws_eqByteS.l0, if_neg (by omega)]) ?_
    obtain rfl : i = a.length := by omega
    rw [take_full hl ht]
    simpa using ev_some true
  | succ d ih =>
    intro i hi ht
    by_cases he : rd a i = rd b i
    · refine Ev.step (fun k => by rw [laws_eqByteS.l0, if_pos (by omega), if_pos (by omega), if_pos (by omega), if_pos he]) ?_
      rw [w64 (by omega) (by omega)]
      rw [rd_nat a i (by omega), rd_nat b i (by omega)] at he
      exact ih (i + 1) (by omega) (take_next (by omega) (by omega) ht he.symm)
    · refine Ev.step (fun k => by rw [laws_eqByteS.l0, if_pos (by omega), if_pos (by omega), if_pos (by omega), if_neg he]) ?_
      have : a ≠ b := fun h => he (by rw [h])
      simpa [this] using ev_some false
theorem ev_eqByteS {a b : List Int} (hn : a.length ≤ 140737488355328) : Ev (fun k => laws_eqByteS.f k a b) (decide (a = b)) := by
  unfold laws_eqByteS.f
  by_cases h : (a.length : Int) = b.length
  · exact ev_pos h (ev_eqByteS_loop a b hn (by omega) a.length 0 (by omega) (by simp))
  · refine ev_neg h ?_
    have : a ≠ b := fun h' => h (by rw [h'])
    simpa [this] using ev_some false
theorem ev_eqByteS_refl {a : List Int} (hn : a.length ≤ 140737488355328) : Ev (fun k => laws_eqByteS.f k a a) true := by
  simpa using ev_eqByteS (b := a) hn

theorem ev_eqByteSS (l : List (List Int)) (hl : l.length ≤ 2000000) (hp : ∀ p ∈ l, p.length ≤ 1048576) : Ev (fun k => laws_eqByteSS.f k l l) true := by
  unfold laws_eqByteSS.f
  refine ev_pos rfl ?_
  have key : ∀ i, i ≤ l.length → Ev (fun k => laws_eqByteSS.l0 k l l (i : Nat)) true := by
    refine down l.length ?_ ?_
    · exact Ev.step (fun k => by rw [laws_eqByteSS.l0, if_neg (by omega)]) (ev_some _)
    · intro i hi ih
      have hb := hp _ (List.getElem_mem hi)
      refine Ev.step (fun k => by rw [laws_eqByteSS.l0, if_pos (by omega), if_pos (by omega), if_pos (by omega), rdL1_nat l i hi, w64 (by omega) (by omega)]) (Ev.bind (ev_eqByteS_refl (by omega)) (ev_pos rfl ih))
  exact key 0 (by omega)

theorem ev_markByteS_loop : ∀ (d i : Nat) (b : List Int), i + d = b.length → b.length ≤ 4294967296 → (∀ j : Nat, j < i → b[j]? = some ((1 + (j : Int)) % 256)) →
    ∃ r, Ev (fun k => laws_markByteS.l0 k b (1 + (i : Int)) i) (1 + (b.length : Int), r) ∧ r.length = b.length ∧ ∀ j : Nat, j < b.length → r[j]? = some ((1 + (j : Int)) % 256) := by
  intro d
  induction d with
  | zero =>
    intro i b hi hl hj
    obtain rfl : i = b.length := by omega
    refine ⟨b, Ev.step (fun k => by rw [laws_markByteS.l0, if_neg (by omega)]) ?_, rfl, hj⟩
    exact ev_some _
  | succ d ih =>
    intro i b hi hl hj
    obtain ⟨r, hr, hrl, hrj⟩ := ih (i + 1) (b.set i ((1 + (i : Int)) % 256)) (by simp; omega) (by simpa using hl) (fun j h => by
      rw [List.getElem?_set]
      by_cases e : i = j
      · subst e
        rw [if_pos rfl, if_pos (by omega)]
      · rw [if_neg e]
        exact hj j (by omega))
    rw [List.length_set] at hr hrl hrj
    refine ⟨r, Ev.step (fun k => by rw [laws_markByteS.l0, if_pos (by omega), if_pos (by omega), Int.toNat_natCast, w64 (by omega) (by omega), w64 (by omega) (by omega)]) ?_, hrl, hrj⟩
    rw [show 1 + (i : Int) + 1 = 1 + ((i + 1 : Nat) : Int) from by omega]
    exact hr
theorem ev_heldByteS_loop (r : List Int) (hl : r.length ≤ 4294967296) (hj : ∀ j : Nat, j < r.length → r[j]? = some ((1 + (j : Int)) % 256)) : ∀ i, i ≤ r.length → Ev (fun k => laws_heldByteS.l0 k r (1 + (i : Int)) i) (1 + (r.length : Int)) := by
  refine down r.length ?_ ?_
  · refine Ev.step (fun k => by rw [laws_heldByteS.l0, if_neg (by omega)]) ?_
    exact ev_some _
  · intro i hi ih
    have h1 := hj i hi
    rw [List.getElem?_eq_getElem hi] at h1
    have h2 : rd r (i : Int) = (1 + (i : Int)) % 256 := by
      rw [rd_nat r i hi]
      exact Option.some.inj h1
    refine Ev.step (fun k => by rw [laws_heldByteS.l0, if_pos (by omega), if_pos (by omega), if_pos h2, w64 (by omega) (by omega), w64 (by omega) (by omega)]) ?_
    rw [show 1 + (i : Int) + 1 = 1 + ((i + 1 : Nat) : Int) from by omega]
    exact ih
/-- Marks laid into a row of bytes are found there again. -/
theorem ev_markheldByteS (l : List Int) (hl : l.length ≤ 4294967296) : ∃ r, Ev (fun k => laws_markByteS.f k l 1) (1 + (l.length : Int), r) ∧ Ev (fun k => laws_heldByteS.f k r 1) (1 + (l.length : Int)) := by
  obtain ⟨r, hr, hrl, hrj⟩ := ev_markByteS_loop l.length 0 l (by omega) hl (fun j h => by omega)
  have h := ev_heldByteS_loop r (by omega) (fun j h => hrj j (by omega)) 0 (by omega)
  rw [hrl] at h
  exact ⟨r, hr, h⟩

theorem ev_markheldBytesResult (c : Int) (l : List Int) (hl : l.length ≤ 4294967296) : ∃ r, Ev (fun k => laws_markBytesResult.f k c l 1) (1 + (l.length : Int), r) ∧ Ev (fun k => laws_heldBytesResult.f k c r 1) (1 + (l.length : Int)) := by
  obtain ⟨r, h1, h2⟩ := ev_markheldByteS l hl
  refine ⟨r, ?_, ?_⟩
  · unfold laws_markBytesResult.f
    exact Ev.bind h1 (ev_some _)
  · unfold laws_heldBytesResult.f
    exact Ev.bind h2 (ev_neg (by omega) (ev_some _))
theorem ev_eqBytesResult (c : Int) (l : List Int) (hl : l.length ≤ 4294967296) : Ev (fun k => laws_eqBytesResult.f k c l c l) true := by
  unfold laws_eqBytesResult.f
  exact ev_pos rfl (Ev.bind (ev_eqByteS_refl (by omega)) (ev_pos rfl (ev_some _)))

theorem ppF_len (ps : List (List Int)) : (ppF ps).2.length ≤ 400 := by
  unfold ppF
  split
  · rename_i h
    exact h.2.2
  · simp
theorem FnExactPutParts : laws_FnExactPutParts.Pure := by
  intro l hm _ hw
  apply Ev.rounds
  unfold laws_FnExactPutParts.f
  obtain ⟨s, hs, hs2⟩ := ev_szByteSS l hm (fun p hp => (hw p hp).1)
  refine Ev.bind hs ?_
  by_cases h : s < 0
  · exact ev_pos h (ev_some _)
  · obtain ⟨hl, ht⟩ := hs2 (by omega)
    have hp : ∀ p ∈ l, p.length ≤ 1048576 := fun p hp => Nat.le_trans (len_le_tot l p hp) ht
    have hp2 : ∀ p ∈ l, p.length ≤ 2000000 := fun p h => by have := hp p h; omega
    have hr := ppF_len l
    obtain ⟨r0, h0, _, _⟩ := ev_markByteSS_go l 1 (by omega) (by omega) (by omega)
    have h0 : Ev (fun k => laws_markByteSS.f k l 1) (1 + (tot l : Int), r0) := h0
    obtain ⟨r, h1, h2⟩ := ev_markheldBytesResult (ppF l).1 (ppF l).2 (by omega)
    have heq := ev_eqBytesResult (ppF l).1 (ppF l).2 (by omega)
    have hb := ev_toByteSS (a := l) (by omega) hp2
    have hq := ev_eqByteSS l (by omega) (fun p h => by have := hp p h; omega)
    have hS := ev_spec_PutParts (ps := l) hp2
    have hI := ev_impl_PutParts (ps := l) hp2 (by omega)
    refine ev_neg h (Ev.bind hb (Ev.bind hS (Ev.bind hb (Ev.bind hI (Ev.bind heq (ev_pos rfl (Ev.bind hb (Ev.bind hq (ev_pos rfl (Ev.bind h0 (ev_neg (by dsimp only; omega) (Ev.bind heq ?_))))))))))))
    refine Ev.step (fun k => by rw [laws_FnExactPutParts.j0, if_neg (by simp)]) ?_
    refine Ev.bind h1 (Ev.bind h2 (ev_neg (by omega) (ev_pos rfl (Ev.bind hb (Ev.bind hI (Ev.bind heq (ev_pos rfl ?_)))))))
    exact Ev.bind h2 (ev_neg (by omega) (ev_pos rfl (ev_some _)))

end Go.Proofs.Ytodlogjkhnieoaa.Pure
