/- Proved: the law FnExactEncodeTerm answers true at every input that Go can hand in (it says: The program's EncodeTerm returns what the reference's returns, for all arguments.) No condition beyond the statement's own. -/
import Derived.Test.YtihipdmjacplfaaStFnExactEncodeTerm
namespace Go.Proofs.Ytihipdmjacplfaa.Pure
open Go.RowKit Go.Proofs.Ytihipdmjacplfaa.PFnExactEncodeTerm Go.Proofs.YtihipdmjacplfaaW.PrintWords Go.Proofs.YtihipdmjacplfaaW.PrintLast Go.Proofs.YtihipdmjacplfaaW.PrintMore
set_option linter.unusedVariables false
set_option linter.unusedSimpArgs false

theorem w64 {x : Int} (h0 : -9223372036854775808 ≤ x) (h1 : x ≤ 9223372036854775807) : wrap64 x = x := by
  unfold wrap64
  omega
theorem tmod_pos {a b : Int} (h : 0 ≤ a) : Int.tmod a b = a % b := Int.tmod_eq_emod_of_nonneg h
theorem tdiv_pos {a b : Int} (h : 0 ≤ a) : Int.tdiv a b = a / b := Int.tdiv_eq_ediv_of_nonneg h
theorem ev_some {α : Type} (r : α) : Ev (fun _ => some r) r := Ev.now r
theorem ev_pos {α : Type} {c : Prop} [Decidable c] {A B : Nat → Option α} {r : α} (h : c) (e : Ev A r) : Ev (fun k => if c then A k else B k) r := by
  simpa only [if_pos h] using e
theorem ev_neg {α : Type} {c : Prop} [Decidable c] {A B : Nat → Option α} {r : α} (h : ¬ c) (e : Ev B r) : Ev (fun k => if c then A k else B k) r := by
  simpa only [if_neg h] using e
theorem ev_opt {α β : Type} {o : Option α} {f : Nat → α → Option β} {a : α} {r : β} (h : o = some a) (e : Ev (fun n => f n a) r) : Ev (fun n => o.bind (f n)) r := by
  simpa only [h, Option.bind_some] using e
theorem ev_to {α : Type} {g : Nat → Option α} {r r' : α} (e : Ev g r) (h : r = r') : Ev g r' := h ▸ e
theorem ev_fix {α : Type} {o : Option α} {r : α} (h : o = some r) : Ev (fun _ => o) r := ⟨0, fun _ _ => h⟩
theorem rd_nat (l : List Int) (i : Nat) (h : i < l.length) : rd l (i : Int) = l[i] := by
  unfold rd
  simp [List.getD_eq_getElem?_getD, h]
theorem rd_mem (l : List Int) (i : Int) (h0 : 0 ≤ i) (h : i < l.length) : rd l i ∈ l := by
  obtain ⟨n, rfl⟩ := Int.eq_ofNat_of_zero_le h0
  rw [rd_nat l n (by omega)]
  exact List.getElem_mem _
theorem u8_range {x : Int} (h : (Lit.int .u8 x).wf = true) : 0 ≤ x ∧ x ≤ 255 := by
  simp [Lit.wf, IntKind.min, IntKind.max, IntKind.signed, IntKind.bits] at h
  omega
theorem i64_range {x : Int} (h : (Lit.int .i64 x).wf = true) : -9223372036854775808 ≤ x ∧ x ≤ 9223372036854775807 := by
  simp [Lit.wf, IntKind.min, IntKind.max, IntKind.signed, IntKind.bits] at h
  omega
theorem set_mid {α : Type} (a : List α) (x : α) (b : List α) (y : α) : (a ++ x :: b).set a.length y = a ++ y :: b := by simp
theorem take_full {α : Type} {a b : List α} (hl : b.length = a.length) (ht : b.take a.length = a.take a.length) : b = a := by
  rw [List.take_of_length_le (by omega), List.take_of_length_le (by omega)] at ht
  exact ht
theorem take_next {α : Type} {a b : List α} {i : Nat} (ha : i < a.length) (hb : i < b.length) (ht : b.take i = a.take i) (hx : b[i] = a[i]) : b.take (i + 1) = a.take (i + 1) := by
  rw [List.take_succ_eq_append_getElem ha, List.take_succ_eq_append_getElem hb, ht, hx]
theorem ev_cond {α : Type} {c : Prop} [Decidable c] {A B : Nat → Option α} {r r' : α} (hp : c → Ev A r) (hn : ¬ c → Ev B r') : Ev (fun k => if c then A k else B k) (if c then r else r') := by
  by_cases h : c
  · rw [if_pos h]; exact ev_pos h (hp h)
  · rw [if_neg h]; exact ev_neg h (hn h)
theorem set_take {α : Type} {a b : List α} {i : Nat} {x : α} (h : i < a.length) (hl : b.length = a.length) (ht : b.take i = a.take i) (hx : x = a[i]) : (b.set i x).take (i + 1) = a.take (i + 1) := by
  refine take_next h (by simp; omega) ?_ (by simp [hx])
  rw [← ht]
  apply List.ext_getElem?
  intro j
  simp only [List.getElem?_take, List.getElem?_set]
  by_cases hj : j < i
  · rw [if_pos hj, if_pos hj, if_neg (by omega)]
  · rw [if_neg hj, if_neg hj]
theorem ev_succ {α : Type} {g : Nat → Option α} {r : α} (h : ∀ k, g (k + 1) = some r) : Ev g r := Ev.step h (ev_some r)
theorem down {P : Nat → Prop} (n : Nat) (hend : P n) (hstep : ∀ i, i < n → P (i + 1) → P i) : ∀ i, i ≤ n → P i := by
  intro i hi
  obtain ⟨d, hd⟩ : ∃ d, i + d = n := ⟨n - i, by omega⟩
  induction d generalizing i with
  | zero =>
    obtain rfl : i = n := by omega
    exact hend
  | succ d ih => exact hstep i (by omega) (ih (i + 1) (by omega) (by omega))
theorem getD_nat {α : Type} (l : List α) (z : α) (i : Nat) (h : i < l.length) : l.getD (i : Int).toNat z = l[i] := by
  simp [List.getD_eq_getElem?_getD, h]
/-- A loop that writes the image of each element into its place. -/
theorem map_loop {α β : Type} (F : Nat → List β → Int → Option (List β)) (l : List α) (c : α → β)
    (hend : ∀ k (b : List β), F (k + 1) b l.length = some b) (hstep : ∀ k (b : List β) (i : Nat) (h : i < l.length), b.length = l.length → F (k + 1) b i = F k (b.set i (c l[i])) ((i + 1 : Nat) : Int)) :
    ∀ (b : List β), b.length = l.length → Ev (fun k => F k b 0) (l.map c) := by
  have key : ∀ (i : Nat), i ≤ l.length → ∀ (b : List β), b.length = l.length → b.take i = (l.map c).take i → Ev (fun k => F k b i) (l.map c) := by
    refine down l.length ?_ ?_
    · intro b hl ht
      refine Ev.step (fun k => hend k b) ?_
      rw [take_full (a := l.map c) (b := b) (by simpa using hl) (by simpa using ht)]
      exact ev_some _
    · intro i hi ih b hl ht
      refine Ev.step (fun k => hstep k b i hi hl) (ih _ (by simpa using hl) ?_)
      exact set_take (by simpa using hi) (by simpa using hl) ht (by simp)
  intro b hl
  exact key 0 (by omega) b hl (by simp)
/-- A loop that goes through all places and answers r. -/
theorem count_loop {ρ : Type} (F : Nat → Int → Option ρ) (n : Nat) (r : ρ) (hend : ∀ k, F (k + 1) n = some r) (hstep : ∀ k (i : Nat), i < n → F (k + 1) i = F k ((i + 1 : Nat) : Int)) : Ev (fun k => F k 0) r := by
  have key : ∀ i, i ≤ n → Ev (fun k => F k (i : Nat)) r := down n (Ev.step hend (ev_some r)) (fun i hi ih => Ev.step (fun k => hstep k i hi) ih)
  exact key 0 (by omega)

def kidsT (op : Int) : Int := if op = 3 ∨ op = 4 ∨ op = 5 ∨ op = 7 then 2 else if op = 6 then 1 else 0
def termF (s : List S66) (t : S66) : Int :=
  if 1 ≤ t.f0 ∧ t.f0 ≤ 7 then
    (if (0 < kidsT t.f0 ∧ t.f3 ≠ 0) ∨ (kidsT t.f0 < 1 ∧ t.f1 ≠ 0) ∨ (kidsT t.f0 < 2 ∧ t.f2 ≠ 0) then 1
     else if ¬ (0 ≤ t.f3 ∧ t.f3 ≤ 9999) ∨ (0 < kidsT t.f0 ∧ ¬ (0 ≤ t.f1 ∧ t.f1 < s.length)) ∨ (1 < kidsT t.f0 ∧ ¬ (0 ≤ t.f2 ∧ t.f2 < s.length)) then 3
     else if (t.f0 = 6 ∨ t.f0 = 7) ∧ ((rd_T66 s t.f1).f0 ≠ 2 ∨ (1 < kidsT t.f0 ∧ ((rd_T66 s t.f2).f0 ≠ 2 ∨ t.f1 > t.f2))) then 1 else 0)
  else 5

theorem rdTerm_nat (l : List S66) (i : Nat) (h : i < l.length) : rd_T66 l i = l[i] := getD_nat l _ i h
theorem rdTerm_take (l : List S66) (i : Nat) (a : Int) (h0 : 0 ≤ a) (h : a < i) (hi : i ≤ l.length) : rd_T66 (l.take i) a = rd_T66 l a := by
  obtain ⟨n, rfl⟩ := Int.eq_ofNat_of_zero_le h0
  rw [rdTerm_nat _ n (by rw [List.length_take]; omega), rdTerm_nat l n (by omega), List.getElem_take]

def sameT (x y : S66) : Bool := x.f0 == y.f0 && (x.f1 == y.f1 && (x.f2 == y.f2 && x.f3 == y.f3))
theorem ev_spec_l5Find (s : List S66) (hs : s.length ≤ 1048576) (t : S66) : ∃ r, Ev (fun k => spec_l5Find.f k s t.f0 t.f1 t.f2 t.f3) r ∧ (0 ≤ r ↔ s.any (fun x => sameT x t) = true) := by
  have key : ∀ i, i ≤ s.length → ∃ r, Ev (fun k => spec_l5Find.l0 k s (i : Nat) t.f0 t.f1 t.f2 t.f3) r ∧ (0 ≤ r ↔ (s.drop i).any (fun x => sameT x t) = true) := by
    refine down s.length ?_ ?_
    · refine ⟨-1, Ev.step (fun k => by rw [spec_l5Find.l0, if_neg (by omega)]) (ev_some _), ?_⟩
      simp
    · intro i hi ih
      obtain ⟨r, hr, hm⟩ := ih
      rw [List.drop_eq_getElem_cons hi, List.any_cons]
      by_cases h : sameT s[i] t = true
      · refine ⟨(i : Int), Ev.step (fun k => by rw [spec_l5Find.l0, if_pos (by omega), if_pos (by omega), rdTerm_nat s i hi, show (s[i].f0 == t.f0 && (s[i].f1 == t.f1 && (s[i].f2 == t.f2 && s[i].f3 == t.f3))) = true from h, if_pos rfl]) (ev_some _), ?_⟩
        simp [h]
      · refine ⟨r, Ev.step (fun k => by rw [spec_l5Find.l0, if_pos (by omega), if_pos (by omega), rdTerm_nat s i hi, show (s[i].f0 == t.f0 && (s[i].f1 == t.f1 && (s[i].f2 == t.f2 && s[i].f3 == t.f3))) = false from Bool.eq_false_iff.mpr h, if_neg (by simp), w64 (by omega) (by omega)]; rfl) hr, ?_⟩
        simp only [Bool.not_eq_true] at h
        rw [h, Bool.false_or]
        exact hm
  have h := key 0 (by omega)
  rw [List.drop_zero] at h
  exact h

def scanT : List S66 → List S66 → Int
  | _, [] => 0
  | s, t :: ts => if termF s t = 0 then (if s.any (fun x => sameT x t) = true then 7 else scanT (s ++ [t]) ts) else termF s t
def termsF (l : List S66) : Int := if 400 < l.length then 2 else scanT [] l

theorem q_impl_in (a b c : Int) : impl_in.f a b c = some (decide (b ≤ a ∧ a ≤ c)) := by
  unfold impl_in.f
  by_cases h : b ≤ a
  · simp [h]
  · simp [h]

theorem q_isPlace (s : List S66) (hs : s.length ≤ 1048576) (a : Int) : impl_isPlace.f s a = some (decide (0 ≤ a ∧ a < (s.length : Int))) := by
  unfold impl_isPlace.f
  rw [q_impl_in, Option.bind_some, w64 (by omega) (by omega)]
  congr 2
  simp only [eq_iff_iff]
  omega
theorem q_names12 {op : Int} (h : op = 1 ∨ op = 2) : impl_namesOf.f 9 op = some (false, false, true) := by
  rcases h with rfl | rfl <;> rfl
theorem q_names6 : impl_namesOf.f 9 6 = some (true, false, false) := rfl
theorem q_namesP {op : Int} (h1 : op ≠ 1) (h2 : op ≠ 2) (h6 : op ≠ 6) : impl_namesOf.f 9 op = some (true, true, false) := by
  simp [impl_namesOf.f, impl_namesOf.j0, h1, h2, h6]
theorem q_impl_fault (s : List S66) (hs : s.length ≤ 1048576) (t : S66) : impl_Term_fault.f t.f0 t.f1 t.f2 t.f3 s = some (termF s t) := by
  obtain ⟨op, A, B, N⟩ := t
  have hp1 : ∀ a, impl_Term_fault.p1 s a = some (!decide (0 ≤ a ∧ a < (s.length : Int))) := fun a => by
    rw [impl_Term_fault.p1, q_isPlace s hs]
    rfl
  have hp2 : ∀ a, 0 ≤ a ∧ a < (s.length : Int) → impl_Term_fault.p2 s a = some ((rd_T66 s a).f0 != 2) := fun a h => by
    rw [impl_Term_fault.p2, if_pos h.1, if_pos h.2]
  unfold impl_Term_fault.f termF
  dsimp only
  rw [q_impl_in, Option.bind_some]
  by_cases h12 : op = 1 ∨ op = 2
  · have hk : kidsT op = 0 := by
      unfold kidsT
      rw [if_neg (by omega), if_neg (by omega)]
    have hps : impl_Term_parts.f 9 op A B N = some [] := by rw [impl_Term_parts.f, q_names12 h12]; rfl
    rw [q_names12 h12, Option.bind_some, q_impl_in, Option.bind_some, hps, Option.bind_some, idxO, Option.bind_some, if_neg (by omega), idxO, Option.bind_some, hk]
    refine congrArg some ?_
    simp only [impl_Term_fault.r, decide_eq_true_eq, true_and, reduceCtorEq, false_and, or_false, false_or]
    (repeat' split) <;> (first | omega | simp_all)
  · by_cases h6 : op = 6
    · subst h6
      have hk : kidsT 6 = 1 := rfl
      have hps : impl_Term_parts.f 9 6 A B N = some [A] := by rw [impl_Term_parts.f, q_names6]; rfl
      rw [q_names6, Option.bind_some, q_impl_in, Option.bind_some, hps, Option.bind_some, idxO, hp1, Option.bind_some, hk]
      by_cases ha : 0 ≤ A ∧ A < (s.length : Int)
      · rw [decide_eq_true ha, Bool.not_true, if_neg (by simp), idxO, Option.bind_some, if_neg (by omega), idxO, hp2 A ha, Option.bind_some]
        by_cases g : (rd_T66 s A).f0 = 2
        · rw [if_neg (by simp [g]), idxO, Option.bind_some]
          refine congrArg some ?_
          simp only [impl_Term_fault.r, decide_eq_true_eq, true_and, reduceCtorEq, false_and, or_false, false_or]
          (repeat' split) <;> (first | omega | simp_all)
        · rw [if_pos (by simp [g]), Option.bind_some]
          refine congrArg some ?_
          simp only [impl_Term_fault.r, decide_eq_true_eq, true_and, reduceCtorEq, false_and, or_false, false_or]
          (repeat' split) <;> (first | omega | simp_all)
      · rw [decide_eq_false ha, Bool.not_false, if_pos rfl, Option.bind_some, if_pos (by omega), Option.bind_some]
        refine congrArg some ?_
        simp only [impl_Term_fault.r, decide_eq_true_eq, true_and, reduceCtorEq, false_and, or_false, false_or]
        (repeat' split) <;> (first | omega | simp_all)
    · have hps : impl_Term_parts.f 9 op A B N = some [A, B] := by rw [impl_Term_parts.f, q_namesP (by omega) (by omega) h6]; rfl
      have hk : 1 ≤ op ∧ op ≤ 7 → kidsT op = 2 := by
        intro h
        unfold kidsT
        rw [if_pos (by omega)]
      rw [q_namesP (by omega) (by omega) h6, Option.bind_some, q_impl_in, Option.bind_some, hps, Option.bind_some, idxO, hp1, Option.bind_some]
      have fin : ∀ (i j : Int), (1 ≤ op ∧ op ≤ 7 → (0 ≤ i ↔ ¬ ((0 ≤ A ∧ A < (s.length : Int)) ∧ (0 ≤ B ∧ B < (s.length : Int))))) → (¬ 0 ≤ i → (0 ≤ j ↔ (rd_T66 s A).f0 ≠ 2 ∨ (rd_T66 s B).f0 ≠ 2)) →
          impl_Term_fault.r op A B N (decide (1 ≤ op ∧ op ≤ 7)) true true false (decide (0 ≤ N ∧ N ≤ 9999)) i j = (if 1 ≤ op ∧ op ≤ 7 then
    (if (0 < kidsT op ∧ N ≠ 0) ∨ (kidsT op < 1 ∧ A ≠ 0) ∨ (kidsT op < 2 ∧ B ≠ 0) then 1
     else if ¬ (0 ≤ N ∧ N ≤ 9999) ∨ (0 < kidsT op ∧ ¬ (0 ≤ A ∧ A < s.length)) ∨ (1 < kidsT op ∧ ¬ (0 ≤ B ∧ B < s.length)) then 3
     else if (op = 6 ∨ op = 7) ∧ ((rd_T66 s A).f0 ≠ 2 ∨ (1 < kidsT op ∧ ((rd_T66 s B).f0 ≠ 2 ∨ A > B))) then 1 else 0)
  else 5) := by
        intro i j hi hj
        by_cases h : 1 ≤ op ∧ op ≤ 7
        · have hi := hi h
          rw [hk h]
          simp only [impl_Term_fault.r, decide_eq_true_eq, true_and, reduceCtorEq, false_and, or_false, false_or]
          (repeat' split) <;> (first | omega | simp_all)
        · simp only [impl_Term_fault.r, decide_eq_true_eq, true_and, reduceCtorEq, false_and, or_false, false_or]
          rw [if_neg h, if_neg h]
      by_cases ha : 0 ≤ A ∧ A < (s.length : Int)
      · rw [decide_eq_true ha, Bool.not_true, if_neg (by simp), idxO, hp1, Option.bind_some]
        by_cases hb : 0 ≤ B ∧ B < (s.length : Int)
        · rw [decide_eq_true hb, Bool.not_true, if_neg (by simp), idxO, Option.bind_some, if_neg (by omega), idxO, hp2 A ha, Option.bind_some]
          by_cases g : (rd_T66 s A).f0 = 2
          · rw [if_neg (by simp [g]), idxO, hp2 B hb, Option.bind_some]
            by_cases g2 : (rd_T66 s B).f0 = 2
            · rw [if_neg (by simp [g2]), idxO, Option.bind_some, fin _ _ (fun _ => by omega) (fun _ => by simp [g, g2])]
            · rw [if_pos (by simp [g2]), Option.bind_some, fin _ _ (fun _ => by omega) (fun _ => by simp [g, g2])]
          · rw [if_pos (by simp [g]), Option.bind_some, fin _ _ (fun _ => by omega) (fun _ => by simp [g])]
        · rw [decide_eq_false hb, Bool.not_false, if_pos rfl, Option.bind_some, if_pos (by omega), Option.bind_some, fin _ _ (fun _ => by omega) (fun h => absurd (by omega) h)]
      · rw [decide_eq_false ha, Bool.not_false, if_pos rfl, Option.bind_some, if_pos (by omega), Option.bind_some, fin _ _ (fun _ => by omega) (fun h => absurd (by omega) h)]

theorem termF_ok {s : List S66} {t : S66} (h : termF s t = 0) : (1 ≤ t.f0 ∧ t.f0 ≤ 7) ∧ (0 < kidsT t.f0 → t.f3 = 0 ∧ 0 ≤ t.f1 ∧ t.f1 < s.length) ∧ (kidsT t.f0 < 1 → t.f1 = 0) ∧ (kidsT t.f0 < 2 → t.f2 = 0) ∧ (1 < kidsT t.f0 → 0 ≤ t.f2 ∧ t.f2 < s.length) ∧ 0 ≤ t.f3 ∧ t.f3 ≤ 9999 ∧
    (t.f0 = 6 ∨ t.f0 = 7 → (rd_T66 s t.f1).f0 = 2) ∧ (t.f0 = 7 → (rd_T66 s t.f2).f0 = 2 ∧ t.f1 ≤ t.f2) := by
  have hk7 : t.f0 = 7 → kidsT t.f0 = 2 := fun e => by rw [e]; rfl
  unfold termF at h
  by_cases c0 : 1 ≤ t.f0 ∧ t.f0 ≤ 7
  · rw [if_pos c0] at h
    by_cases c1 : (0 < kidsT t.f0 ∧ t.f3 ≠ 0) ∨ (kidsT t.f0 < 1 ∧ t.f1 ≠ 0) ∨ (kidsT t.f0 < 2 ∧ t.f2 ≠ 0)
    · rw [if_pos c1] at h
      exact absurd h (by omega)
    · rw [if_neg c1] at h
      by_cases c2 : ¬ (0 ≤ t.f3 ∧ t.f3 ≤ 9999) ∨ (0 < kidsT t.f0 ∧ ¬ (0 ≤ t.f1 ∧ t.f1 < s.length)) ∨ (1 < kidsT t.f0 ∧ ¬ (0 ≤ t.f2 ∧ t.f2 < s.length))
      · rw [if_pos c2] at h
        exact absurd h (by omega)
      · rw [if_neg c2] at h
        by_cases c3 : (t.f0 = 6 ∨ t.f0 = 7) ∧ ((rd_T66 s t.f1).f0 ≠ 2 ∨ (1 < kidsT t.f0 ∧ ((rd_T66 s t.f2).f0 ≠ 2 ∨ t.f1 > t.f2)))
        · rw [if_pos c3] at h
          exact absurd h (by omega)
        · refine ⟨c0, ?_, ?_, ?_, ?_, ?_, ?_, ?_, ?_⟩ <;> omega
  · rw [if_neg c0] at h
    exact absurd h (by omega)
theorem sameT_eqT (x t : S66) : eqT t x = sameT x t := by
  unfold eqT sameT
  rw [Bool.eq_iff_iff]
  simp
  constructor
  · rintro ⟨h1, h2, h3, h4⟩
    exact ⟨h1.symm, h2.symm, h3.symm, h4.symm⟩
  · rintro ⟨h1, h2, h3, h4⟩
    exact ⟨h1.symm, h2.symm, h3.symm, h4.symm⟩
theorem q_TermsFault_l : ∀ (ts s : List S66), s.length + ts.length ≤ 1048576 → impl_TermsFault.l s ts = some (scanT s ts)
  | [], _, _ => by rw [impl_TermsFault.l, scanT]
  | t :: ts, s, h => by
    rw [List.length_cons] at h
    rw [impl_TermsFault.l, q_impl_fault s (by omega) t, Option.bind_some, scanT]
    by_cases c : termF s t = 0
    · have hk := termF_ok c
      have hr : okT t = true := by
        unfold okT okI
        simp only [Bool.and_eq_true, decide_eq_true_eq]
        have h0 := hk.1
        by_cases k0 : 0 < kidsT t.f0 <;> by_cases k1 : 1 < kidsT t.f0 <;> omega
      rw [if_pos c, if_pos c, if_pos hr]
      have ha : s.any (eqT t) = s.any (fun x => sameT x t) := by
        congr 1
        funext x
        exact sameT_eqT x t
      rw [ha]
      by_cases g : s.any (fun x => sameT x t) = true
      · rw [if_pos g, if_pos g]
      · rw [if_neg g, if_neg g]
        exact q_TermsFault_l ts _ (by rw [List.length_append, List.length_singleton]; omega)
    · rw [if_neg c, if_neg c]
theorem q_impl_TermsFault (l : List S66) (hl : l.length ≤ 1048576) : impl_TermsFault.f l = some (termsF l) := by
  unfold impl_TermsFault.f termsF
  by_cases h : 400 < l.length
  · rw [if_pos h, if_pos h]
  · rw [if_neg h, if_neg h, q_TermsFault_l l [] (by simpa using hl)]

theorem scanT_ok : ∀ (ts s : List S66), scanT s ts = 0 → ∀ i (h : i < ts.length), termF (s ++ ts.take i) ts[i] = 0
  | [], _, _, i, h => absurd h (by simp)
  | t :: ts, s, e, i, h => by
    rw [scanT] at e
    by_cases c : termF s t = 0
    · rw [if_pos c] at e
      by_cases g : s.any (fun x => sameT x t) = true
      · rw [if_pos g] at e
        exact absurd e (by omega)
      · rw [if_neg g] at e
        cases i with
        | zero => simpa using c
        | succ i =>
          have := scanT_ok ts (s ++ [t]) e i (by simpa using h)
          simpa using this
    · rw [if_neg c] at e
      exact absurd e c
theorem termsF_ok {l : List S66} (h : termsF l = 0) : l.length ≤ 400 ∧ ∀ i (h : i < l.length), termF (l.take i) l[i] = 0 := by
  unfold termsF at h
  by_cases c : 400 < l.length
  · rw [if_pos c] at h
    exact absurd h (by omega)
  · rw [if_neg c] at h
    refine ⟨by omega, fun i hi => ?_⟩
    have := scanT_ok l [] h i hi
    simpa using this
theorem kids_cases (op : Int) : kidsT op = 0 ∨ kidsT op = 1 ∨ kidsT op = 2 := by
  unfold kidsT
  split
  · exact .inr (.inr rfl)
  · split
    · exact .inr (.inl rfl)
    · exact .inl rfl
/-- What is known of a term of a right table: its parts stand ahead of it. -/
theorem term_parts {l : List S66} (h : termsF l = 0) (i : Nat) (hi : i < l.length) : (1 ≤ l[i].f0 ∧ l[i].f0 ≤ 7) ∧ (0 < kidsT l[i].f0 → 0 ≤ l[i].f1 ∧ l[i].f1 < (i : Int)) ∧ (1 < kidsT l[i].f0 → 0 ≤ l[i].f2 ∧ l[i].f2 < (i : Int)) := by
  have hk := termF_ok ((termsF_ok h).2 i hi)
  have hl : (l.take i).length = i := by rw [List.length_take]; omega
  rw [hl] at hk
  exact ⟨hk.1, fun e => ⟨(hk.2.1 e).2.1, (hk.2.1 e).2.2⟩, hk.2.2.2.2.1⟩

def partsT (t : S66) : List Int := if kidsT t.f0 = 0 then [] else if kidsT t.f0 = 1 then [t.f1] else [t.f1, t.f2]
theorem ev_names (op : Int) (h : 1 ≤ op ∧ op ≤ 7) : Ev (fun k => impl_namesOf.f k op) (if kidsT op = 0 then (false, false, true) else if kidsT op = 1 then (true, false, false) else (true, true, false)) := by
  refine ev_succ (fun k => ?_)
  obtain h1 | h1 | h1 | h1 | h1 | h1 | h1 : op = 1 ∨ op = 2 ∨ op = 3 ∨ op = 4 ∨ op = 5 ∨ op = 6 ∨ op = 7 := by omega
  all_goals subst h1; rfl
theorem ev_parts (t : S66) (h : 1 ≤ t.f0 ∧ t.f0 ≤ 7) : Ev (fun k => impl_Term_parts.f k t.f0 t.f1 t.f2 t.f3) (partsT t) := by
  unfold impl_Term_parts.f partsT
  refine Ev.bind (ev_names t.f0 h) ?_
  rcases kids_cases t.f0 with e | e | e
  · rw [if_pos e, if_pos e]
    exact ev_pos rfl (ev_some _)
  · rw [if_neg (show ¬ kidsT t.f0 = 0 by omega), if_pos e, if_neg (show ¬ kidsT t.f0 = 0 by omega), if_pos e]
    exact ev_neg (by simp) (ev_neg (by simp) (ev_some _))
  · rw [if_neg (show ¬ kidsT t.f0 = 0 by omega), if_neg (show ¬ kidsT t.f0 = 1 by omega), if_neg (show ¬ kidsT t.f0 = 0 by omega), if_neg (show ¬ kidsT t.f0 = 1 by omega)]
    exact ev_neg (by simp) (ev_pos rfl (ev_some _))

def sizV (acc : List Int) (t : S66) : Int := min 1000000 (if kidsT t.f0 = 0 then 1 else if kidsT t.f0 = 1 then 1 + rd acc t.f1 else 1 + rd acc t.f1 + rd acc t.f2)
def sizL : List Int → List S66 → List Int
  | acc, [] => acc
  | acc, t :: ts => sizL (acc ++ [sizV acc t]) ts
def sizOk (acc : List Int) : Prop := ∀ x ∈ acc, 0 ≤ x ∧ x ≤ 1000000
theorem rd_siz {acc : List Int} (h : sizOk acc) (i : Int) (h0 : 0 ≤ i) (h1 : i < acc.length) : 0 ≤ rd acc i ∧ rd acc i ≤ 1000000 := h _ (rd_mem acc i h0 h1)
theorem sizV_range {acc : List Int} (h : sizOk acc) {t : S66} (hA : 0 < kidsT t.f0 → 0 ≤ t.f1 ∧ t.f1 < (acc.length : Int)) (hB : 1 < kidsT t.f0 → 0 ≤ t.f2 ∧ t.f2 < (acc.length : Int)) : 0 ≤ sizV acc t ∧ sizV acc t ≤ 1000000 := by
  unfold sizV
  rcases kids_cases t.f0 with e | e | e
  · rw [if_pos e]
    omega
  · rw [if_neg (by omega), if_pos e]
    have := rd_siz h _ (hA (by omega)).1 (hA (by omega)).2
    omega
  · rw [if_neg (by omega), if_neg (by omega)]
    have h1 := rd_siz h _ (hA (by omega)).1 (hA (by omega)).2
    have h2 := rd_siz h _ (hB (by omega)).1 (hB (by omega)).2
    omega
theorem sizOk_snoc {acc : List Int} (h : sizOk acc) {x : Int} (hx : 0 ≤ x ∧ x ≤ 1000000) : sizOk (acc ++ [x]) := by
  intro y hy
  rcases List.mem_append.mp hy with hy | hy
  · exact h y hy
  · have := List.mem_singleton.mp hy
    omega
theorem sizL_len : ∀ (ts : List S66) (acc : List Int), (sizL acc ts).length = acc.length + ts.length
  | [], acc => by simp [sizL]
  | t :: ts, acc => by
    rw [sizL, sizL_len ts, List.length_append, List.length_singleton, List.length_cons]
    omega
theorem q_l1Min6 (n : Int) : spec_l1Min.f 1000000 n = some (min 1000000 n) := by
  unfold spec_l1Min.f
  by_cases g : (1000000 : Int) < n <;> simp [g] <;> omega
theorem mn6 (n : Int) : mn n 1000000 = min 1000000 n := by unfold mn; omega

theorem sizL_more : ∀ (ts : List S66) (acc : List Int), ∃ more, sizL acc ts = acc ++ more
  | [], acc => ⟨[], by simp [sizL]⟩
  | t :: ts, acc => by
    obtain ⟨m, hm⟩ := sizL_more ts (acc ++ [sizV acc t])
    exact ⟨sizV acc t :: m, by rw [sizL, hm, List.append_assoc, List.singleton_append]⟩
theorem sizL_append : ∀ (a b : List S66) (acc : List Int), sizL acc (a ++ b) = sizL (sizL acc a) b
  | [], b, acc => rfl
  | t :: a, b, acc => by rw [List.cons_append, sizL, sizL, sizL_append a b]
theorem rd_prefix (a b : List Int) (x : Int) (h0 : 0 ≤ x) (h1 : x < (a.length : Int)) : rd (a ++ b) x = rd a x := by
  obtain ⟨n, rfl⟩ := Int.eq_ofNat_of_zero_le h0
  rw [rd_nat _ n (by rw [List.length_append]; omega), rd_nat _ n (by omega), List.getElem_append_left (by omega)]
theorem sizL_rd (l : List S66) (j : Nat) (hj : j ≤ l.length) (x : Int) (h0 : 0 ≤ x) (h1 : x < (j : Int)) : rd (sizL [] l) x = rd (sizL [] (l.take j)) x := by
  have e : sizL [] l = sizL (sizL [] (l.take j)) (l.drop j) := by rw [← sizL_append, List.take_append_drop]
  obtain ⟨m, hm⟩ := sizL_more (l.drop j) (sizL [] (l.take j))
  rw [e, hm]
  refine rd_prefix _ _ x h0 ?_
  rw [sizL_len, List.length_nil, List.length_take]
  omega
theorem sizL_at (l : List S66) (j : Nat) (hj : j < l.length) : rd (sizL [] l) (j : Int) = sizV (sizL [] (l.take j)) l[j] := by
  have e : sizL [] l = sizL (sizL [] (l.take j)) (l.drop j) := by rw [← sizL_append, List.take_append_drop]
  have hlen : (sizL [] (l.take j)).length = j := by rw [sizL_len, List.length_nil, List.length_take]; omega
  rw [List.drop_eq_getElem_cons hj, sizL] at e
  obtain ⟨m, hm⟩ := sizL_more (l.drop (j + 1)) (sizL [] (l.take j) ++ [sizV (sizL [] (l.take j)) l[j]])
  rw [e, hm, rd_nat _ j (by simp [hlen]), List.getElem_append_left (by simp [hlen])]
  simp [hlen]
theorem siz_eq {l : List S66} (ht : termsF l = 0) (j : Nat) (hj : j < l.length) : rd (sizL [] l) (j : Int) = min 1000000 (if kidsT l[j].f0 = 0 then 1 else if kidsT l[j].f0 = 1 then 1 + rd (sizL [] l) l[j].f1 else 1 + rd (sizL [] l) l[j].f1 + rd (sizL [] l) l[j].f2) := by
  obtain ⟨_, hA, hB⟩ := term_parts ht j hj
  rw [sizL_at l j hj, sizV]
  congr 1
  rcases kids_cases l[j].f0 with e | e | e
  · rw [if_pos e, if_pos e]
  · rw [if_neg (by omega), if_pos e, if_neg (by omega), if_pos e, sizL_rd l j (by omega) _ (hA (by omega)).1 (hA (by omega)).2]
  · rw [if_neg (by omega), if_neg (by omega), if_neg (by omega), if_neg (by omega), sizL_rd l j (by omega) _ (hA (by omega)).1 (hA (by omega)).2, sizL_rd l j (by omega) _ (hB (by omega)).1 (hB (by omega)).2]
theorem siz_pos {l : List S66} (ht : termsF l = 0) : ∀ (j : Nat), j < l.length → 1 ≤ rd (sizL [] l) (j : Int) := by
  intro j
  induction j using Nat.strongRecOn with
  | _ j ih =>
    intro hj
    obtain ⟨_, hA, hB⟩ := term_parts ht j hj
    have hs := siz_eq ht j hj
    rcases kids_cases l[j].f0 with e | e | e
    · rw [if_pos e] at hs
      omega
    · rw [if_neg (by omega), if_pos e] at hs
      have h1 := hA (by omega)
      have := ih l[j].f1.toNat (by omega) (by omega)
      rw [show ((l[j].f1.toNat : Nat) : Int) = l[j].f1 by omega] at this
      omega
    · rw [if_neg (by omega), if_neg (by omega)] at hs
      have h1 := hA (by omega)
      have h2 := hB (by omega)
      have g1 := ih l[j].f1.toNat (by omega) (by omega)
      have g2 := ih l[j].f2.toNat (by omega) (by omega)
      rw [show ((l[j].f1.toNat : Nat) : Int) = l[j].f1 by omega] at g1
      rw [show ((l[j].f2.toNat : Nat) : Int) = l[j].f2 by omega] at g2
      omega

theorem q_concat2 (a b : List Int) (h : a.length + b.length ≤ 1000000) : slices_Concat_byte_byte.f [a, b] = some (a ++ b) := by
  unfold slices_Concat_byte_byte.f
  rw [if_pos ⟨by simp, by simp [slices_Concat_byte_byte.s0]; omega⟩]
  simp
theorem q_concat3 (a b c : List Int) (h : a.length + b.length + c.length ≤ 1000000) : slices_Concat_byte_byte.f [a, b, c] = some (a ++ b ++ c) := by
  unfold slices_Concat_byte_byte.f
  rw [if_pos ⟨by simp, by simp [slices_Concat_byte_byte.s0]; omega⟩]
  simp

theorem ev_spec_l5Kids (op : Int) : Ev (fun k => spec_l5Kids.f k op) (kidsT op) := by
  refine ev_succ (fun k => ?_)
  unfold spec_l5Kids.f kidsT
  simp only [spec_l5Kids.j0]
  by_cases h3 : op = 3
  · simp [h3]
  · by_cases h4 : op = 4
    · simp [h4]
    · by_cases h5 : op = 5
      · simp [h5]
      · by_cases h7 : op = 7
        · simp [h7]
        · by_cases h6 : op = 6
          · simp [h6]
          · simp [h3, h4, h5, h6, h7]

def nb (n : Int) : Nat → List Int
  | 0 => []
  | s + 1 => nb (n / 256) s ++ [n % 256]
theorem nb_length (s : Nat) : ∀ n : Int, (nb n s).length = s := by
  induction s with
  | zero => intro n; rfl
  | succ s ih => intro n; rw [nb, List.length_append, ih]; rfl
theorem nb_bytes (s : Nat) : ∀ n : Int, ∀ x ∈ nb n s, 0 ≤ x ∧ x ≤ 255 := by
  induction s with
  | zero => intro n x hx; simp [nb] at hx
  | succ s ih =>
    intro n x hx
    rw [nb, List.mem_append] at hx
    rcases hx with hx | hx
    · exact ih _ x hx
    · simp at hx
      omega
theorem nb_cons (s : Nat) : ∀ n : Int, nb n (s + 1) = (n / 256 ^ s) % 256 :: nb n s := by
  induction s with
  | zero => intro n; simp [nb]
  | succ s ih =>
    intro n
    rw [nb, ih (n / 256), nb, List.cons_append]
    congr 2
    rw [Int.ediv_ediv_of_nonneg (by omega), Int.pow_succ, Int.mul_comm]

theorem u64_small (x : Int) (h0 : 0 ≤ x) (h : x < 18446744073709551616) : IntKind.u64.wrap x = x := by
  simp [IntKind.wrap, IntKind.signed, IntKind.bits]
  omega
theorem shr8 (n : Int) (i : Nat) (h : i ≤ 7) : shr .i64 n (IntKind.u64.wrap (wrap64 (8 * (i : Int)))) = n / 256 ^ i := by
  rw [w64 (by omega) (by omega)]
  have e : IntKind.u64.wrap (8 * (i : Int)) = 8 * (i : Int) := u64_small _ (by omega) (by omega)
  rw [e]
  unfold shr
  have e2 : min (8 * (i : Int)).toNat IntKind.i64.bits = 8 * i := by
    simp [IntKind.bits]
    omega
  rw [e2, Int.pow_mul]
  rfl
theorem ev_spec_l1Bytes_loop (n : Int) : ∀ (i : Nat) (b : List Int), i ≤ 8 → b.length + i ≤ 1000 → Ev (fun k => spec_l1Bytes.l0 k n b ((i : Int) - 1)) (b ++ nb n i) := by
  intro i
  induction i with
  | zero =>
    intro b _ _
    refine Ev.step (fun k => by rw [spec_l1Bytes.l0, if_neg (by omega)]) ?_
    rw [nb, List.append_nil]
    exact ev_some _
  | succ i ih =>
    intro b hi hb
    have hs := shr8 n i (by omega)
    have hw : 0 ≤ IntKind.u64.wrap (wrap64 (8 * (i : Int))) := by
      rw [w64 (by omega) (by omega), u64_small _ (by omega) (by omega)]
      omega
    have e : (((i + 1 : Nat) : Int) - 1) = (i : Int) := by omega
    refine Ev.step (fun k => by rw [e, spec_l1Bytes.l0, if_pos (show (i : Int) ≥ 0 by omega), if_pos hw, if_pos (show b.length < 140737488355328 by omega), hs, w64 (by omega) (by omega)]) ?_
    rw [nb_cons]
    have h := ih (b ++ [n / 256 ^ i % 256]) (by omega) (by simp; omega)
    rw [List.append_assoc] at h
    exact h
theorem ev_spec_l1Bytes (n : Int) (s : Nat) (h : s ≤ 8) : Ev (fun k => spec_l1Bytes.f k n s) (nb n s) := by
  unfold spec_l1Bytes.f
  rw [w64 (by omega) (by omega)]
  exact ev_spec_l1Bytes_loop n s [] h (by simp; omega)

theorem ev_impl_put_loop : ∀ (i : Nat) (n : Int) (b : List Int), i ≤ b.length → b.length ≤ 1000 → Ev (fun k => impl_put.l0 k n b ((i : Int) - 1)) (nb n i ++ b.drop i) := by
  intro i
  induction i with
  | zero =>
    intro n b _ _
    refine Ev.step (fun k => by rw [impl_put.l0, if_neg (by omega)]) ?_
    rw [nb, List.nil_append, List.drop_zero]
    exact ev_some _
  | succ i ih =>
    intro n b hi hb
    have e : (((i + 1 : Nat) : Int) - 1) = (i : Int) := by omega
    refine Ev.step (fun k => by rw [e, impl_put.l0, if_pos (by omega), if_pos (by omega), if_pos (by omega), Int.toNat_natCast, w64 (by omega) (by omega)]) ?_
    have h := ih (n / 256) (b.set i (n % 256)) (by simp; omega) (by simpa using hb)
    refine ev_to h ?_
    rw [nb, List.append_assoc]
    congr 1
    rw [List.drop_eq_getElem_cons (by simp; omega : i < (b.set i (n % 256)).length), List.getElem_set_self, List.drop_set_of_lt (by omega)]
    rfl
theorem ev_impl_put (n : Int) (s : Nat) (h : s ≤ 8) : Ev (fun k => impl_put.f k n s) (nb n s) := by
  unfold impl_put.f
  refine ev_pos (by omega) (ev_pos (by omega) ?_)
  rw [w64 (by omega) (by omega), Int.toNat_natCast]
  have h := ev_impl_put_loop s n (List.replicate s 0) (by simp) (by simp; omega)
  refine ev_to h ?_
  simp

theorem kids2 (op : Int) : (op = 3 ∨ op = 4 ∨ op = 5 ∨ op = 7 → kidsT op = 2) ∧ (op = 6 → kidsT op = 1) := by
  unfold kidsT
  constructor
  · intro h
    rw [if_pos h]
  · rintro rfl
    simp

def bothE (l : List S66) (x : Int) : Prop := ∃ r : List Int, Ev (fun k => spec_l7Encode.f k l x) r ∧ Ev (fun k => impl_encode.f k l x) r ∧ (r.length : Int) ≤ 3 * rd (sizL [] l) x
theorem encode_both (l : List S66) (ht : termsF l = 0) : ∀ (j : Nat) (hj : j < l.length), rd (sizL [] l) (j : Int) ≤ 200 → bothE l (j : Int) := by
  have hl := (termsF_ok ht).1
  intro j
  induction j using Nat.strongRecOn with
  | _ j ih =>
    intro hj hs
    obtain ⟨hop, hA, hB⟩ := term_parts ht j hj
    have hz := siz_eq ht j hj
    have iA : 0 < kidsT l[j].f0 → rd (sizL [] l) l[j].f1 ≤ 200 → bothE l l[j].f1 := fun e e2 => by
      have h1 := hA e
      have := ih l[j].f1.toNat (by omega) (by omega)
      rw [show ((l[j].f1.toNat : Nat) : Int) = l[j].f1 by omega] at this
      exact this e2
    have iB : 1 < kidsT l[j].f0 → rd (sizL [] l) l[j].f2 ≤ 200 → bothE l l[j].f2 := fun e e2 => by
      have h1 := hB e
      have := ih l[j].f2.toNat (by omega) (by omega)
      rw [show ((l[j].f2.toNat : Nat) : Int) = l[j].f2 by omega] at this
      exact this e2
    have pA : 0 < kidsT l[j].f0 → 1 ≤ rd (sizL [] l) l[j].f1 := fun e => by
      have h1 := hA e
      have := siz_pos ht l[j].f1.toNat (by omega)
      rwa [show ((l[j].f1.toNat : Nat) : Int) = l[j].f1 by omega] at this
    have pB : 1 < kidsT l[j].f0 → 1 ≤ rd (sizL [] l) l[j].f2 := fun e => by
      have h1 := hB e
      have := siz_pos ht l[j].f2.toNat (by omega)
      rwa [show ((l[j].f2.toNat : Nat) : Int) = l[j].f2 by omega] at this
    -- both begin alike
    have hspec : ∀ r, Ev (fun k => (spec_l5Kids.f k l[j].f0).bind fun t196 => (if t196 = 0 then ((spec_l1Bytes.f k l[j].f3 2).bind fun t197 => (if ([l[j].f0 % 256] : List Int).length + t197.length < 140737488355328 then (some ([l[j].f0 % 256] ++ t197)) else (none))) else (if l[j].f0 = 7 then (if 0 ≤ l[j].f1 then (if l[j].f1 < (l.length : Int) then (if 0 ≤ l[j].f2 then (if l[j].f2 < (l.length : Int) then (spec_l7Encode.j0 k l [l[j].f0 % 256] l[j].f1 l[j].f2 (decide ((rd_T66 l l[j].f1).f3 > (rd_T66 l l[j].f2).f3)) l[j].f0 l[j].f1 l[j].f2 l[j].f3) else (none)) else (none)) else (none)) else (none)) else (spec_l7Encode.j0 k l [l[j].f0 % 256] l[j].f1 l[j].f2 false l[j].f0 l[j].f1 l[j].f2 l[j].f3)))) r → Ev (fun k => spec_l7Encode.f k l (j : Int)) r := by
      intro r h
      exact Ev.step (fun k => by rw [spec_l7Encode.f, if_pos (by omega), if_pos (by omega), rdTerm_nat l j hj, Option.bind_some]) h
    have himpl : ∀ (b : Bool) r, b = (l[j].f0 == 1 || l[j].f0 == 2) → Ev (fun k => impl_encode.j0 k l [l[j].f0 % 256] l[j].f0 b l[j].f0 l[j].f1 l[j].f2 l[j].f3) r → Ev (fun k => impl_encode.f k l (j : Int)) r := by
      intro b r hb h
      refine Ev.step (fun k => by rw [impl_encode.f, if_pos (by omega), if_pos (by omega), rdTerm_nat l j hj, Option.bind_some]) ?_
      by_cases h1 : l[j].f0 = 1
      · refine ev_pos h1 ?_
        have : b = (l[j].f0 == 1) := by rw [hb]; simp [h1]
        rw [← this]
        exact h
      · refine ev_neg h1 ?_
        have : b = (l[j].f0 == 2) := by rw [hb, show (l[j].f0 == 1) = false by simp [h1]]; rfl
        rw [← this]
        exact h
    rcases kids_cases l[j].f0 with e | e | e
    · -- a name, or a fresh one
      rw [if_pos e] at hz
      have h12 : l[j].f0 = 1 ∨ l[j].f0 = 2 := by
        have := kids2 l[j].f0
        have h3 := this.1
        have h4 := this.2
        by_cases g : l[j].f0 = 6
        · have := h4 g
          omega
        · by_cases g2 : l[j].f0 = 3 ∨ l[j].f0 = 4 ∨ l[j].f0 = 5 ∨ l[j].f0 = 7
          · have := h3 g2
            omega
          · omega
      have hn := nb_length 2 l[j].f3
      refine ⟨[l[j].f0 % 256] ++ nb l[j].f3 2, hspec _ ?_, himpl true _ ?_ ?_, ?_⟩
      · refine Ev.bind (ev_spec_l5Kids _) (ev_pos e ?_)
        exact Ev.bind (ev_spec_l1Bytes l[j].f3 2 (by omega)) (ev_pos (by rw [hn]; simp) (ev_some _))
      · rcases h12 with h | h <;> simp [h]
      · refine Ev.step (fun k => by rw [impl_encode.j0, if_pos rfl]) ?_
        exact Ev.bind (ev_impl_put l[j].f3 2 (by omega)) (ev_opt (q_concat2 _ _ (by rw [hn]; simp)) (ev_some _))
      · rw [List.length_append, hn, List.length_singleton]
        omega
    · -- a half
      rw [if_neg (by omega), if_pos e] at hz
      have h6 : l[j].f0 = 6 := by
        have := kids2 l[j].f0
        unfold kidsT at e
        by_cases g : l[j].f0 = 3 ∨ l[j].f0 = 4 ∨ l[j].f0 = 5 ∨ l[j].f0 = 7
        · rw [if_pos g] at e
          omega
        · rw [if_neg g] at e
          by_cases g6 : l[j].f0 = 6
          · exact g6
          · rw [if_neg g6] at e
            omega
      have p1 := pA (by omega)
      obtain ⟨rA, hsA, hiA, hlA⟩ := iA (by omega) (by omega)
      refine ⟨[l[j].f0 % 256] ++ rA, hspec _ ?_, himpl false _ (by rw [h6]; rfl) ?_, ?_⟩
      · refine Ev.bind (ev_spec_l5Kids _) (ev_neg (by omega) (ev_neg (by omega) ?_))
        refine Ev.step (fun k => by rw [spec_l7Encode.j0, if_neg (by simp)]) ?_
        refine Ev.step (fun k => by rw [spec_l7Encode.j1]) ?_
        refine Ev.bind hsA (ev_pos (by rw [List.length_singleton]; omega) (ev_opt rfl (Ev.bind (ev_spec_l5Kids _) (ev_pos e (ev_some _)))))
      · refine Ev.step (fun k => by rw [impl_encode.j0, if_neg (by simp)]) ?_
        exact ev_pos h6 (Ev.bind hiA (ev_opt (q_concat2 _ _ (by rw [List.length_singleton]; omega)) (ev_some _)))
      · rw [List.length_append, List.length_singleton]
        omega
    · -- two parts
      rw [if_neg (by omega), if_neg (by omega)] at hz
      have p1 := pA (by omega)
      have p2 := pB (by omega)
      have gA := hA (by omega)
      have gB := hB (by omega)
      have n6 : l[j].f0 ≠ 6 := fun g => by
        have := (kids2 l[j].f0).2 g
        omega
      have n12 : ¬ (l[j].f0 = 1 ∨ l[j].f0 = 2) := fun g => by
        unfold kidsT at e
        rw [if_neg (by omega), if_neg n6] at e
        omega
      obtain ⟨rA, hsA, hiA, hlA⟩ := iA (by omega) (by omega)
      obtain ⟨rB, hsB, hiB, hlB⟩ := iB (by omega) (by omega)
      have hb0 : false = (l[j].f0 == 1 || l[j].f0 == 2) := by
        rw [show (l[j].f0 == 1) = false by simp; omega, show (l[j].f0 == 2) = false by simp; omega]
        rfl
      have hj1 : ∀ (x y : Int) (rx ry : List Int), Ev (fun k => spec_l7Encode.f k l x) rx → Ev (fun k => spec_l7Encode.f k l y) ry → rx.length ≤ 600 → ry.length ≤ 600 → Ev (fun k => spec_l7Encode.j1 k l [l[j].f0 % 256] x y l[j].f0 l[j].f1 l[j].f2 l[j].f3) ([l[j].f0 % 256] ++ rx ++ ry) := by
        intro x y rx ry hx hy b1 b2
        refine Ev.step (fun k => by rw [spec_l7Encode.j1]) ?_
        refine Ev.bind hx (ev_pos (by rw [List.length_singleton]; omega) (ev_opt rfl (Ev.bind (ev_spec_l5Kids _) (ev_neg (by omega) ?_))))
        exact Ev.bind hy (ev_pos (by rw [List.length_append, List.length_singleton]; omega) (ev_some _))
      by_cases h7 : l[j].f0 = 7
      · by_cases hgt : (rd_T66 l l[j].f1).f3 > (rd_T66 l l[j].f2).f3
        · refine ⟨[l[j].f0 % 256] ++ rB ++ rA, hspec _ ?_, himpl false _ hb0 ?_, ?_⟩
          · refine Ev.bind (ev_spec_l5Kids _) (ev_neg (by omega) (ev_pos h7 (ev_pos gA.1 (ev_pos (by omega) (ev_pos gB.1 (ev_pos (by omega) ?_))))))
            refine Ev.step (fun k => by rw [spec_l7Encode.j0, if_pos (decide_eq_true hgt)]) ?_
            exact hj1 _ _ rB rA hsB hsA (by omega) (by omega)
          · refine Ev.step (fun k => by rw [impl_encode.j0, if_neg (by simp)]) ?_
            refine ev_neg n6 (ev_pos h7 (ev_opt (a := (l[j].f2, l[j].f1)) (by rw [impl_ordered.f, if_pos gB.1, if_pos (by omega), if_pos gA.1, if_pos (by omega), if_pos (by omega)]) ?_))
            exact Ev.bind hiB (Ev.bind hiA (ev_opt (q_concat3 _ _ _ (by rw [List.length_singleton]; omega)) (ev_some _)))
          · rw [List.length_append, List.length_append, List.length_singleton]
            omega
        · refine ⟨[l[j].f0 % 256] ++ rA ++ rB, hspec _ ?_, himpl false _ hb0 ?_, ?_⟩
          · refine Ev.bind (ev_spec_l5Kids _) (ev_neg (by omega) (ev_pos h7 (ev_pos gA.1 (ev_pos (by omega) (ev_pos gB.1 (ev_pos (by omega) ?_))))))
            refine Ev.step (fun k => by rw [spec_l7Encode.j0, if_neg (by simpa using hgt)]) ?_
            exact hj1 _ _ rA rB hsA hsB (by omega) (by omega)
          · refine Ev.step (fun k => by rw [impl_encode.j0, if_neg (by simp)]) ?_
            refine ev_neg n6 (ev_pos h7 (ev_opt (a := (l[j].f1, l[j].f2)) (by rw [impl_ordered.f, if_pos gB.1, if_pos (by omega), if_pos gA.1, if_pos (by omega), if_neg (by omega)]) ?_))
            exact Ev.bind hiA (Ev.bind hiB (ev_opt (q_concat3 _ _ _ (by rw [List.length_singleton]; omega)) (ev_some _)))
          · rw [List.length_append, List.length_append, List.length_singleton]
            omega
      · refine ⟨[l[j].f0 % 256] ++ rA ++ rB, hspec _ ?_, himpl false _ hb0 ?_, ?_⟩
        · refine Ev.bind (ev_spec_l5Kids _) (ev_neg (by omega) (ev_neg h7 ?_))
          refine Ev.step (fun k => by rw [spec_l7Encode.j0, if_neg (by simp)]) ?_
          exact hj1 _ _ rA rB hsA hsB (by omega) (by omega)
        · refine Ev.step (fun k => by rw [impl_encode.j0, if_neg (by simp)]) ?_
          refine ev_neg n6 (ev_neg h7 ?_)
          exact Ev.bind hiA (Ev.bind hiB (ev_opt (q_concat3 _ _ _ (by rw [List.length_singleton]; omega)) (ev_some _)))
        · rw [List.length_append, List.length_append, List.length_singleton]
          omega

def depV (acc : List Int) (t : S66) : Int := if kidsT t.f0 = 0 then 1 else if kidsT t.f0 = 1 then rd acc t.f1 + 1 else max (rd acc t.f1) (rd acc t.f2) + 1
def depL : List Int → List S66 → List Int
  | acc, [] => acc
  | acc, t :: ts => depL (acc ++ [depV acc t]) ts
def depOk (acc : List Int) : Prop := ∀ x ∈ acc, 0 ≤ x ∧ x ≤ (acc.length : Int)
theorem rd_dep {acc : List Int} (h : depOk acc) (i : Int) (h0 : 0 ≤ i) (h1 : i < acc.length) : 0 ≤ rd acc i ∧ rd acc i ≤ acc.length := h _ (rd_mem acc i h0 h1)
theorem depV_range {acc : List Int} (h : depOk acc) {t : S66} (hA : 0 < kidsT t.f0 → 0 ≤ t.f1 ∧ t.f1 < (acc.length : Int)) (hB : 1 < kidsT t.f0 → 0 ≤ t.f2 ∧ t.f2 < (acc.length : Int)) : 0 ≤ depV acc t ∧ depV acc t ≤ acc.length + 1 := by
  unfold depV
  rcases kids_cases t.f0 with e | e | e
  · rw [if_pos e]
    omega
  · rw [if_neg (by omega), if_pos e]
    have := rd_dep h _ (hA (by omega)).1 (hA (by omega)).2
    omega
  · rw [if_neg (by omega), if_neg (by omega)]
    have h1 := rd_dep h _ (hA (by omega)).1 (hA (by omega)).2
    have h2 := rd_dep h _ (hB (by omega)).1 (hB (by omega)).2
    omega
theorem depOk_snoc {acc : List Int} (h : depOk acc) {x : Int} (hx : 0 ≤ x ∧ x ≤ acc.length + 1) : depOk (acc ++ [x]) := by
  intro y hy
  rw [List.length_append, List.length_singleton]
  rcases List.mem_append.mp hy with hy | hy
  · have := h y hy
    omega
  · have := List.mem_singleton.mp hy
    omega
theorem depL_len : ∀ (ts : List S66) (acc : List Int), (depL acc ts).length = acc.length + ts.length
  | [], acc => by simp [depL]
  | t :: ts, acc => by
    rw [depL, depL_len ts, List.length_append, List.length_singleton, List.length_cons]
    omega

theorem ev_spec_l7Depths (l : List S66) (ht : termsF l = 0) : Ev (fun k => spec_l7Depths.f k l) (depL [] l) := by
  have hl := (termsF_ok ht).1
  have key : ∀ i, i ≤ l.length → ∀ acc : List Int, acc.length = i → depOk acc → Ev (fun k => spec_l7Depths.l0 k l acc (i : Nat)) (depL acc (l.drop i)) := by
    refine down l.length ?_ ?_
    · intro acc _ _
      rw [List.drop_length, depL]
      exact Ev.step (fun k => by rw [spec_l7Depths.l0, if_neg (by omega)]) (ev_some _)
    · intro i hi ih acc ha hok
      obtain ⟨hop, hA0, hB0⟩ := term_parts ht i hi
      have hA : 0 < kidsT l[i].f0 → 0 ≤ l[i].f1 ∧ l[i].f1 < (acc.length : Int) := by rw [ha]; exact hA0
      have hB : 1 < kidsT l[i].f0 → 0 ≤ l[i].f2 ∧ l[i].f2 < (acc.length : Int) := by rw [ha]; exact hB0
      have hr := depV_range hok hA hB
      have hnext := ih (acc ++ [depV acc l[i]]) (by rw [List.length_append, List.length_singleton]; omega) (depOk_snoc hok hr)
      rw [List.drop_eq_getElem_cons hi, depL]
      refine Ev.step (fun k => by rw [spec_l7Depths.l0, if_pos (by omega), if_pos (by omega), rdTerm_nat l i hi]) ?_
      refine Ev.bind (ev_spec_l5Kids _) ?_
      have hv : depV acc l[i] = if kidsT l[i].f0 = 0 then 1 else if kidsT l[i].f0 = 1 then rd acc l[i].f1 + 1 else max (rd acc l[i].f1) (rd acc l[i].f2) + 1 := rfl
      rcases kids_cases l[i].f0 with e | e | e
      · refine ev_neg (by omega) ?_
        rw [if_pos e] at hv
        refine Ev.step (fun k => by rw [spec_l7Depths.j1, if_pos (by omega), if_pos (by omega), rdTerm_nat l i hi, w64 (by omega) (by omega), w64 (by omega) (by omega)]) ?_
        refine Ev.bind (ev_spec_l5Kids _) (ev_neg (by omega) (ev_pos (by omega) ?_))
        rw [hv] at hnext ⊢
        exact hnext
      · have hA := hA (by omega)
        have h1 := rd_dep hok _ hA.1 hA.2
        refine ev_pos (by omega) (ev_pos hA.1 (ev_pos hA.2 ?_))
        rw [if_neg (by omega), if_pos e] at hv
        refine Ev.step (fun k => by rw [spec_l7Depths.j1, if_pos (by omega), if_pos (by omega), rdTerm_nat l i hi, w64 (by omega) (by omega), w64 (by omega) (by omega)]) ?_
        refine Ev.bind (ev_spec_l5Kids _) (ev_neg (by omega) (ev_pos (by omega) ?_))
        rw [hv] at hnext ⊢
        exact hnext
      · have hA := hA (by omega)
        have hB := hB (by omega)
        have h1 := rd_dep hok _ hA.1 hA.2
        have h2 := rd_dep hok _ hB.1 hB.2
        refine ev_pos (by omega) (ev_pos hA.1 (ev_pos hA.2 ?_))
        rw [if_neg (by omega), if_neg (by omega)] at hv
        refine Ev.step (fun k => by rw [spec_l7Depths.j1, if_pos (by omega), if_pos (by omega), rdTerm_nat l i hi, w64 (by omega) (by omega)]) ?_
        refine Ev.bind (ev_spec_l5Kids _) (ev_pos (by omega) (ev_pos hB.1 (ev_pos hB.2 ?_)))
        refine ev_opt (a := max (rd acc l[i].f1) (rd acc l[i].f2)) (by unfold spec_l1Max.f; by_cases g : rd acc l[i].f1 > rd acc l[i].f2 <;> simp [g] <;> omega) (ev_pos (by omega) ?_)
        rw [hv] at hnext ⊢
        rw [w64 (by omega) (by omega)]
        exact hnext
  exact key 0 (by omega) [] rfl (fun x hx => absurd hx (by simp))

theorem ev_impl_depths (l : List S66) (ht : termsF l = 0) : Ev (fun k => impl_depths.f k l) (depL [] l) := by
  have hl := (termsF_ok ht).1
  have key : ∀ i, i ≤ l.length → ∀ acc : List Int, acc.length = i → depOk acc → Ev (fun k => impl_depths.l0 k acc l l.length (i : Nat)) (depL acc (l.drop i)) := by
    refine down l.length ?_ ?_
    · intro acc _ _
      rw [List.drop_length, depL]
      exact Ev.step (fun k => by rw [impl_depths.l0, if_neg (by omega)]) (ev_some _)
    · intro i hi ih acc ha hok
      obtain ⟨hop, hA0, hB0⟩ := term_parts ht i hi
      have hA : 0 < kidsT l[i].f0 → 0 ≤ l[i].f1 ∧ l[i].f1 < (acc.length : Int) := by rw [ha]; exact hA0
      have hB : 1 < kidsT l[i].f0 → 0 ≤ l[i].f2 ∧ l[i].f2 < (acc.length : Int) := by rw [ha]; exact hB0
      have hr := depV_range hok hA hB
      have hnext := ih (acc ++ [depV acc l[i]]) (by rw [List.length_append, List.length_singleton]; omega) (depOk_snoc hok hr)
      rw [List.drop_eq_getElem_cons hi, depL]
      refine Ev.step (fun k => by rw [impl_depths.l0, if_pos (by omega), if_pos (by omega), if_pos (by omega), rdTerm_nat l i hi]) ?_
      refine Ev.bind (ev_parts _ hop) ?_
      have hend : ∀ (ps : List Int) (d : Int), d + 1 = depV acc l[i] → 0 ≤ d ∧ d ≤ 400 → Ev (fun k => impl_depths.l1 k acc d l l.length (i : Nat) ps ps.length ps.length) (depL (acc ++ [depV acc l[i]]) (l.drop (i + 1))) := by
        intro ps d hd hd2
        refine Ev.step (fun k => by rw [impl_depths.l1, if_neg (by omega), if_pos (by omega), w64 (by omega) (by omega), w64 (by omega) (by omega), hd]) ?_
        exact hnext
      have hv : depV acc l[i] = if kidsT l[i].f0 = 0 then 1 else if kidsT l[i].f0 = 1 then rd acc l[i].f1 + 1 else max (rd acc l[i].f1) (rd acc l[i].f2) + 1 := rfl
      unfold partsT
      rcases kids_cases l[i].f0 with e | e | e
      · rw [if_pos e] at hv ⊢
        exact hend [] 0 (by omega) (by omega)
      · have hA := hA (by omega)
        have h1 := rd_dep hok _ hA.1 hA.2
        rw [if_neg (by omega), if_pos e] at hv ⊢
        have r0 : rd [l[i].f1] 0 = l[i].f1 := rfl
        have hm : mx 0 (rd acc l[i].f1) = rd acc l[i].f1 := by unfold mx; omega
        refine Ev.step (fun k => by rw [impl_depths.l1, if_pos (by simp), if_pos (by omega), if_pos (by simp), r0, if_pos hA.1, if_pos hA.2, hm, w64 (by omega) (by omega)]) ?_
        exact hend [l[i].f1] _ (by omega) (by omega)
      · have hA := hA (by omega)
        have hB := hB (by omega)
        have h1 := rd_dep hok _ hA.1 hA.2
        have h2 := rd_dep hok _ hB.1 hB.2
        rw [if_neg (by omega), if_neg (by omega)] at hv ⊢
        have r0 : rd [l[i].f1, l[i].f2] 0 = l[i].f1 := rfl
        have r1 : rd [l[i].f1, l[i].f2] 1 = l[i].f2 := rfl
        have hm : mx 0 (rd acc l[i].f1) = rd acc l[i].f1 := by unfold mx; omega
        have hm2 : mx (rd acc l[i].f1) (rd acc l[i].f2) = max (rd acc l[i].f1) (rd acc l[i].f2) := by unfold mx; omega
        refine Ev.step (fun k => by rw [impl_depths.l1, if_pos (by simp), if_pos (by omega), if_pos (by simp), r0, if_pos hA.1, if_pos hA.2, hm, w64 (by omega) (by omega), Int.zero_add]) ?_
        refine Ev.step (fun k => by rw [impl_depths.l1, if_pos (by simp), if_pos (by omega), if_pos (by simp), r1, if_pos hB.1, if_pos hB.2, hm2, w64 (by omega) (by omega)]) ?_
        exact hend [l[i].f1, l[i].f2] _ (by omega) (by omega)
  exact key 0 (by omega) [] rfl (fun x hx => absurd hx (by simp))

theorem ev_spec_l5Sizes (l : List S66) (ht : termsF l = 0) : Ev (fun k => spec_l5Sizes.f k l) (sizL [] l) := by
  have hl := (termsF_ok ht).1
  have key : ∀ i, i ≤ l.length → ∀ acc : List Int, acc.length = i → sizOk acc → Ev (fun k => spec_l5Sizes.l0 k l acc (i : Nat)) (sizL acc (l.drop i)) := by
    refine down l.length ?_ ?_
    · intro acc _ _
      rw [List.drop_length, sizL]
      exact Ev.step (fun k => by rw [spec_l5Sizes.l0, if_neg (by omega)]) (ev_some _)
    · intro i hi ih acc ha hok
      obtain ⟨hop, hA0, hB0⟩ := term_parts ht i hi
      have hA : 0 < kidsT l[i].f0 → 0 ≤ l[i].f1 ∧ l[i].f1 < (acc.length : Int) := by rw [ha]; exact hA0
      have hB : 1 < kidsT l[i].f0 → 0 ≤ l[i].f2 ∧ l[i].f2 < (acc.length : Int) := by rw [ha]; exact hB0
      have hr := sizV_range hok hA hB
      have hnext := ih (acc ++ [sizV acc l[i]]) (by rw [List.length_append, List.length_singleton]; omega) (sizOk_snoc hok hr)
      rw [List.drop_eq_getElem_cons hi, sizL]
      refine Ev.step (fun k => by rw [spec_l5Sizes.l0, if_pos (by omega), if_pos (by omega), rdTerm_nat l i hi]) ?_
      refine Ev.bind (ev_spec_l5Kids _) ?_
      have hv : sizV acc l[i] = min 1000000 (if kidsT l[i].f0 = 0 then 1 else if kidsT l[i].f0 = 1 then 1 + rd acc l[i].f1 else 1 + rd acc l[i].f1 + rd acc l[i].f2) := rfl
      rcases kids_cases l[i].f0 with e | e | e
      · refine ev_neg (by omega) ?_
        rw [if_pos e] at hv
        refine Ev.step (fun k => by rw [spec_l5Sizes.j1, if_pos (by omega), if_pos (by omega), rdTerm_nat l i hi, w64 (x := (i : Int) + 1) (by omega) (by omega)]) ?_
        refine Ev.bind (ev_spec_l5Kids _) (ev_neg (by omega) (ev_opt (q_l1Min6 _) (ev_pos (by omega) ?_)))
        rw [← hv]
        exact hnext
      · have hA := hA (by omega)
        have h1 := rd_siz hok _ hA.1 hA.2
        refine ev_pos (by omega) (ev_pos hA.1 (ev_pos hA.2 ?_))
        rw [if_neg (by omega), if_pos e] at hv
        refine Ev.step (fun k => by rw [spec_l5Sizes.j1, if_pos (by omega), if_pos (by omega), rdTerm_nat l i hi, w64 (x := 1 + rd acc l[i].f1) (by omega) (by omega), w64 (x := (i : Int) + 1) (by omega) (by omega)]) ?_
        refine Ev.bind (ev_spec_l5Kids _) (ev_neg (by omega) (ev_opt (q_l1Min6 _) (ev_pos (by omega) ?_)))
        rw [← hv]
        exact hnext
      · have hA := hA (by omega)
        have hB := hB (by omega)
        have h1 := rd_siz hok _ hA.1 hA.2
        have h2 := rd_siz hok _ hB.1 hB.2
        refine ev_pos (by omega) (ev_pos hA.1 (ev_pos hA.2 ?_))
        rw [if_neg (by omega), if_neg (by omega)] at hv
        refine Ev.step (fun k => by rw [spec_l5Sizes.j1, if_pos (by omega), if_pos (by omega), rdTerm_nat l i hi, w64 (x := 1 + rd acc l[i].f1) (by omega) (by omega), w64 (x := 1 + rd acc l[i].f1 + rd acc l[i].f2) (by omega) (by omega), w64 (x := (i : Int) + 1) (by omega) (by omega)]) ?_
        refine Ev.bind (ev_spec_l5Kids _) (ev_pos (by omega) (ev_pos hB.1 (ev_pos hB.2 (ev_opt (q_l1Min6 _) (ev_pos (by omega) ?_)))))
        rw [← hv]
        exact hnext
  exact key 0 (by omega) [] rfl (fun x hx => absurd hx (by simp))

theorem ev_impl_sizes (l : List S66) (ht : termsF l = 0) : Ev (fun k => impl_sizes.f k l) (sizL [] l) := by
  have hl := (termsF_ok ht).1
  have key : ∀ i, i ≤ l.length → ∀ acc : List Int, acc.length = i → sizOk acc → Ev (fun k => impl_sizes.l0 k acc l l.length (i : Nat)) (sizL acc (l.drop i)) := by
    refine down l.length ?_ ?_
    · intro acc _ _
      rw [List.drop_length, sizL]
      exact Ev.step (fun k => by rw [impl_sizes.l0, if_neg (by omega)]) (ev_some _)
    · intro i hi ih acc ha hok
      obtain ⟨hop, hA0, hB0⟩ := term_parts ht i hi
      have hA : 0 < kidsT l[i].f0 → 0 ≤ l[i].f1 ∧ l[i].f1 < (acc.length : Int) := by rw [ha]; exact hA0
      have hB : 1 < kidsT l[i].f0 → 0 ≤ l[i].f2 ∧ l[i].f2 < (acc.length : Int) := by rw [ha]; exact hB0
      have hr := sizV_range hok hA hB
      have hnext := ih (acc ++ [sizV acc l[i]]) (by rw [List.length_append, List.length_singleton]; omega) (sizOk_snoc hok hr)
      rw [List.drop_eq_getElem_cons hi, sizL]
      refine Ev.step (fun k => by rw [impl_sizes.l0, if_pos (by omega), if_pos (by omega), if_pos (by omega), rdTerm_nat l i hi]) ?_
      refine Ev.bind (ev_parts _ hop) ?_
      have hend : ∀ (ps : List Int) (d : Int), min 1000000 d = sizV acc l[i] → Ev (fun k => impl_sizes.l1 k acc d l l.length (i : Nat) ps ps.length ps.length) (sizL (acc ++ [sizV acc l[i]]) (l.drop (i + 1))) := by
        intro ps d hd
        refine Ev.step (fun k => by rw [impl_sizes.l1, if_neg (by omega), if_pos (by omega), w64 (by omega) (by omega), mn6, hd]) ?_
        exact hnext
      have hv : sizV acc l[i] = min 1000000 (if kidsT l[i].f0 = 0 then 1 else if kidsT l[i].f0 = 1 then 1 + rd acc l[i].f1 else 1 + rd acc l[i].f1 + rd acc l[i].f2) := rfl
      unfold partsT
      rcases kids_cases l[i].f0 with e | e | e
      · rw [if_pos e] at hv ⊢
        exact hend [] 1 hv.symm
      · have hA := hA (by omega)
        have h1 := rd_siz hok _ hA.1 hA.2
        rw [if_neg (by omega), if_pos e] at hv ⊢
        have r0 : rd [l[i].f1] 0 = l[i].f1 := rfl
        refine Ev.step (fun k => by rw [impl_sizes.l1, if_pos (by simp), if_pos (by omega), if_pos (by simp), r0, if_pos hA.1, if_pos hA.2, w64 (x := 1 + rd acc l[i].f1) (by omega) (by omega), w64 (x := (0 : Int) + 1) (by omega) (by omega)]) ?_
        exact hend [l[i].f1] _ hv.symm
      · have hA := hA (by omega)
        have hB := hB (by omega)
        have h1 := rd_siz hok _ hA.1 hA.2
        have h2 := rd_siz hok _ hB.1 hB.2
        rw [if_neg (by omega), if_neg (by omega)] at hv ⊢
        have r0 : rd [l[i].f1, l[i].f2] 0 = l[i].f1 := rfl
        have r1 : rd [l[i].f1, l[i].f2] 1 = l[i].f2 := rfl
        refine Ev.step (fun k => by rw [impl_sizes.l1, if_pos (by simp), if_pos (by omega), if_pos (by simp), r0, if_pos hA.1, if_pos hA.2, w64 (x := 1 + rd acc l[i].f1) (by omega) (by omega), w64 (x := (0 : Int) + 1) (by omega) (by omega), Int.zero_add]) ?_
        refine Ev.step (fun k => by rw [impl_sizes.l1, if_pos (by simp), if_pos (by omega), if_pos (by simp), r1, if_pos hB.1, if_pos hB.2, w64 (x := 1 + rd acc l[i].f1 + rd acc l[i].f2) (by omega) (by omega), w64 (x := (1 : Int) + 1) (by omega) (by omega)]) ?_
        exact hend [l[i].f1, l[i].f2] _ hv.symm
  exact key 0 (by omega) [] rfl (fun x hx => absurd hx (by simp))

theorem q_spec_l1In (a b c : Int) : spec_l1In.f a b c = some (decide (b ≤ a ∧ a ≤ c)) := by
  unfold spec_l1In.f
  by_cases h : b ≤ a
  · simp [h]
  · simp [h]

theorem q_spec_l5At (s : List S66) (hs : s.length ≤ 1048576) (a : Int) : spec_l5At.f s a = some (decide (0 ≤ a ∧ a < (s.length : Int))) := by
  unfold spec_l5At.f
  rw [q_spec_l1In, Option.bind_some, w64 (by omega) (by omega)]
  congr 2
  simp only [eq_iff_iff]
  omega

theorem ev_l5Term_j2 (s : List S66) (kk : Int) (b : Bool) (op A B N : Int) (hA : b = true → 0 ≤ A ∧ A < (s.length : Int)) (hB : b = true → 1 < kk → 0 ≤ B ∧ B < (s.length : Int)) :
    Ev (fun k => spec_l5Term.j2 k s kk b op A B N) (if b = true ∧ ((rd_T66 s A).f0 ≠ 2 ∨ (1 < kk ∧ ((rd_T66 s B).f0 ≠ 2 ∨ A > B))) then 1 else 0) := by
  refine ev_succ (fun k => ?_)
  rw [spec_l5Term.j2]
  cases b with
  | false => simp
  | true =>
    obtain ⟨a1, a2⟩ := hA rfl
    rw [if_pos rfl, if_pos a1, if_pos a2]
    by_cases g1 : (rd_T66 s A).f0 = 2
    · rw [if_pos g1]
      by_cases g2 : 1 < kk
      · obtain ⟨b1, b2⟩ := hB rfl g2
        rw [if_pos (by omega), if_pos b1, if_pos b2]
        by_cases g3 : (rd_T66 s B).f0 = 2
        · rw [if_pos g3]
          by_cases g4 : A > B
          · rw [if_pos g4, if_pos ⟨rfl, .inr ⟨g2, .inr g4⟩⟩]
          · rw [if_neg g4, if_neg (fun e => e.2.elim (fun h => h g1) (fun h => h.2.elim (fun h => h g3) g4))]
        · rw [if_neg g3, if_pos ⟨rfl, .inr ⟨g2, .inl g3⟩⟩]
      · rw [if_neg (by omega), if_neg (fun e => e.2.elim (fun h => h g1) (fun h => g2 h.1))]
    · rw [if_neg g1, if_pos ⟨rfl, .inl g1⟩]
theorem ev_l5Term_j1 (s : List S66) (kk : Int) (b : Bool) (op A B N : Int) (hA : b = false → op = 6 ∨ op = 7 → 0 ≤ A ∧ A < (s.length : Int)) (hB : b = false → op = 6 ∨ op = 7 → 1 < kk → 0 ≤ B ∧ B < (s.length : Int)) :
    Ev (fun k => spec_l5Term.j1 k s kk b op A B N) (if b = true then 3 else if (op = 6 ∨ op = 7) ∧ ((rd_T66 s A).f0 ≠ 2 ∨ (1 < kk ∧ ((rd_T66 s B).f0 ≠ 2 ∨ A > B))) then 1 else 0) := by
  cases b with
  | true =>
    refine Ev.step (fun k => by rw [spec_l5Term.j1, if_pos rfl]) ?_
    exact ev_some _
  | false =>
    rw [if_neg (by simp)]
    by_cases h6 : op = 6
    · refine Ev.step (fun k => by rw [spec_l5Term.j1, if_neg (by simp), if_pos h6]) ?_
      refine ev_to (ev_l5Term_j2 s kk true op A B N (fun _ => hA rfl (.inl h6)) (fun _ => hB rfl (.inl h6))) ?_
      simp [h6]
    · refine Ev.step (fun k => by rw [spec_l5Term.j1, if_neg (by simp), if_neg h6]) ?_
      refine ev_to (ev_l5Term_j2 s kk (op == 7) op A B N (fun e => hA rfl (.inr (by simpa using e))) (fun e => hB rfl (.inr (by simpa using e)))) ?_
      simp [h6]
theorem ev_l5Term_j0 (s : List S66) (hs : s.length ≤ 1048576) (op A B N : Int) (b : Bool) :
    Ev (fun k => spec_l5Term.j0 k s (kidsT op) b op A B N) (if b = true then 1 else if ¬ (0 ≤ N ∧ N ≤ 9999) ∨ (0 < kidsT op ∧ ¬ (0 ≤ A ∧ A < (s.length : Int))) ∨ (1 < kidsT op ∧ ¬ (0 ≤ B ∧ B < (s.length : Int))) then 3 else if (op = 6 ∨ op = 7) ∧ ((rd_T66 s A).f0 ≠ 2 ∨ (1 < kidsT op ∧ ((rd_T66 s B).f0 ≠ 2 ∨ A > B))) then 1 else 0) := by
  have hk6 : op = 6 ∨ op = 7 → 0 < kidsT op := by
    unfold kidsT
    rintro (rfl | rfl) <;> simp
  cases b with
  | true =>
    refine Ev.step (fun k => by rw [spec_l5Term.j0, if_pos rfl]) ?_
    exact ev_some _
  | false =>
    rw [if_neg (by simp)]
    refine Ev.step (fun k => by rw [spec_l5Term.j0, if_neg (by simp), w64 (by omega) (by omega)]) ?_
    refine ev_opt (q_spec_l1In _ _ _) ?_
    by_cases hN : 0 ≤ N ∧ N ≤ 9999
    · refine ev_pos (by simpa using hN) ?_
      by_cases k0 : 0 < kidsT op
      · refine ev_pos (by omega) (ev_opt (q_spec_l1In _ _ _) ?_)
        by_cases hA : 0 ≤ A ∧ A ≤ (s.length : Int) - 1
        · refine ev_pos (by simpa using hA) ?_
          by_cases k1 : 1 < kidsT op
          · refine ev_pos (by omega) (ev_opt (q_spec_l1In _ _ _) ?_)
            by_cases hB : 0 ≤ B ∧ B ≤ (s.length : Int) - 1
            · rw [decide_eq_true hB, if_neg (by omega)]
              exact ev_to (ev_l5Term_j1 s _ _ op A B N (fun _ _ => by omega) (fun _ _ _ => by omega)) (by simp)
            · rw [decide_eq_false hB, if_pos (by omega)]
              exact ev_to (ev_l5Term_j1 s _ _ op A B N (fun e => absurd e (by simp)) (fun e => absurd e (by simp))) (by simp)
          · refine ev_neg (by omega) ?_
            rw [if_neg (by omega)]
            exact ev_to (ev_l5Term_j1 s _ _ op A B N (fun _ _ => by omega) (fun _ _ e => absurd e k1)) (by simp)
        · refine ev_neg (by simpa using hA) ?_
          rw [if_pos (by omega)]
          exact ev_to (ev_l5Term_j1 s _ _ op A B N (fun e => absurd e (by simp)) (fun e => absurd e (by simp))) (by simp)
      · refine ev_neg (by omega) ?_
        refine ev_neg (by omega) ?_
        rw [if_neg (by omega)]
        exact ev_to (ev_l5Term_j1 s _ _ op A B N (fun _ e => absurd (hk6 e) k0) (fun _ e => absurd (hk6 e) k0)) (by simp)
    · refine ev_neg (by simpa using hN) ?_
      rw [if_pos (.inl hN)]
      exact ev_to (ev_l5Term_j1 s _ _ op A B N (fun e => absurd e (by simp)) (fun e => absurd e (by simp))) (by simp)
theorem ev_spec_l5Term (s : List S66) (hs : s.length ≤ 1048576) (t : S66) : Ev (fun k => spec_l5Term.f k s t.f0 t.f1 t.f2 t.f3) (termF s t) := by
  obtain ⟨op, A, B, N⟩ := t
  unfold spec_l5Term.f termF
  dsimp only
  refine ev_opt (q_spec_l1In _ _ _) ?_
  by_cases h : 1 ≤ op ∧ op ≤ 7
  · rw [if_pos h]
    refine ev_pos (by simpa using h) (Ev.bind (ev_spec_l5Kids op) ?_)
    have hj := ev_l5Term_j0 s hs op A B N
    by_cases k0 : 0 < kidsT op
    · refine ev_pos k0 ?_
      by_cases hN : N = 0
      · refine ev_pos hN (ev_neg (by omega) ?_)
        by_cases k2 : kidsT op < 2
        · refine ev_pos k2 (ev_to (hj (B != 0)) ?_)
          by_cases hB : B = 0
          · rw [if_neg (by simp [hB]), if_neg (show ¬ ((0 < kidsT op ∧ N ≠ 0) ∨ (kidsT op < 1 ∧ A ≠ 0) ∨ (kidsT op < 2 ∧ B ≠ 0)) by omega)]
          · rw [if_pos (by simp [hB]), if_pos (by omega)]
        · refine ev_neg k2 (ev_to (hj false) ?_)
          rw [if_neg (by simp), if_neg (show ¬ ((0 < kidsT op ∧ N ≠ 0) ∨ (kidsT op < 1 ∧ A ≠ 0) ∨ (kidsT op < 2 ∧ B ≠ 0)) by omega)]
      · refine ev_neg hN (ev_to (hj true) ?_)
        rw [if_pos rfl, if_pos (by omega)]
    · refine ev_neg k0 (ev_pos (by omega) ?_)
      by_cases hA : A = 0
      · refine ev_pos hA (ev_pos (by omega) (ev_to (hj (B != 0)) ?_))
        by_cases hB : B = 0
        · rw [if_neg (by simp [hB]), if_neg (show ¬ ((0 < kidsT op ∧ N ≠ 0) ∨ (kidsT op < 1 ∧ A ≠ 0) ∨ (kidsT op < 2 ∧ B ≠ 0)) by omega)]
        · rw [if_pos (by simp [hB]), if_pos (by omega)]
      · refine ev_neg hA (ev_to (hj true) ?_)
        rw [if_pos rfl, if_pos (by omega)]
  · rw [if_neg h]
    exact ev_neg (by simpa using h) (ev_some _)

theorem ev_spec_TermsFault (l : List S66) (hl : l.length ≤ 1048576) : Ev (fun k => spec_TermsFault.f k l) (termsF l) := by
  have key : ∀ i, i ≤ l.length → Ev (fun k => spec_TermsFault.l0 k l (i : Nat)) (scanT (l.take i) (l.drop i)) := by
    refine down l.length ?_ ?_
    · rw [List.drop_length, scanT]
      refine Ev.step (fun k => by rw [spec_TermsFault.l0, if_neg (by omega)]) ?_
      exact ev_some _
    · intro i hi ih
      rw [List.drop_eq_getElem_cons hi, scanT, ← List.take_succ_eq_append_getElem hi]
      refine Ev.step (fun k => by rw [spec_TermsFault.l0, if_pos (by omega), if_pos (by omega), if_pos (by omega), rdTerm_nat l i hi, Int.toNat_natCast, w64 (by omega) (by omega)]) ?_
      refine Ev.bind (ev_spec_l5Term (l.take i) (by rw [List.length_take]; omega) l[i]) (ev_cond (fun h => ?_) (fun h => ev_some _))
      obtain ⟨r, hr, hm⟩ := ev_spec_l5Find (l.take i) (by rw [List.length_take]; omega) l[i]
      refine Ev.bind hr ?_
      by_cases g : 0 ≤ r
      · rw [if_pos (hm.mp g)]
        exact ev_pos g (ev_some _)
      · rw [if_neg (fun e => g (hm.mpr e))]
        exact ev_neg g ih
  have h := key 0 (by omega)
  rw [List.take_zero, List.drop_zero] at h
  unfold spec_TermsFault.f termsF
  by_cases h4 : 400 < l.length
  · rw [if_pos h4]
    exact ev_pos (by omega) (ev_some _)
  · rw [if_neg h4]
    exact ev_neg (by omega) h

def askedF (l : List S66) (a : Int) : Int := if termsF l = 0 then (if 0 ≤ a ∧ a < (l.length : Int) then 0 else 3) else termsF l
theorem ev_spec_l5Asked (l : List S66) (hl : l.length ≤ 1048576) (a : Int) : Ev (fun k => spec_l5Asked.f k l a) (askedF l a) := by
  unfold spec_l5Asked.f askedF
  refine Ev.bind (ev_spec_TermsFault l hl) (ev_cond (fun h => ev_opt (q_spec_l5At l hl a) ?_) (fun h => ev_some _))
  by_cases g : 0 ≤ a ∧ a < (l.length : Int)
  · rw [if_pos g]
    exact ev_pos (by simpa using g) (ev_some _)
  · rw [if_neg g]
    exact ev_neg (by simpa using g) (ev_some _)
theorem askedF_ok {l : List S66} {a : Int} (h : askedF l a = 0) : termsF l = 0 ∧ 0 ≤ a ∧ a < (l.length : Int) := by
  unfold askedF at h
  by_cases c : termsF l = 0
  · rw [if_pos c] at h
    by_cases g : 0 ≤ a ∧ a < (l.length : Int)
    · exact ⟨c, g⟩
    · rw [if_neg g] at h
      exact absurd h (by omega)
  · rw [if_neg c] at h
    exact absurd h c

theorem q_places_p (l : List S66) (hl : l.length ≤ 1048576) (a : Int) : impl_placesFault.p l a = some (!decide (0 ≤ a ∧ a < (l.length : Int))) := by
  unfold impl_placesFault.p
  rw [q_isPlace l hl]
  rfl
theorem q_impl_places1 (l : List S66) (hl : l.length ≤ 1048576) (a : Int) : impl_placesFault.f l [a] = some (askedF l a) := by
  unfold impl_placesFault.f askedF
  rw [q_impl_TermsFault l hl, Option.bind_some]
  by_cases c : termsF l = 0
  · rw [if_pos c, if_pos c, idxO, q_places_p l hl, Option.bind_some]
    by_cases g : 0 ≤ a ∧ a < (l.length : Int)
    · rw [decide_eq_true g, Bool.not_true, if_neg (by simp), idxO, Option.bind_some, if_pos g]
      rfl
    · rw [decide_eq_false g, Bool.not_false, if_pos rfl, Option.bind_some, if_neg g]
      rfl
  · rw [if_neg c, if_neg c]
theorem q_impl_places2 (l : List S66) (hl : l.length ≤ 1048576) (a b : Int) : impl_placesFault.f l [a, b] = some (if askedF l a = 0 then askedF l b else askedF l a) := by
  unfold impl_placesFault.f
  rw [q_impl_TermsFault l hl, Option.bind_some]
  by_cases c : termsF l = 0
  · have h0 : ∀ x, askedF l x = if 0 ≤ x ∧ x < (l.length : Int) then 0 else 3 := fun x => by rw [askedF, if_pos c]
    rw [if_pos c, idxO, q_places_p l hl, Option.bind_some]
    by_cases g : 0 ≤ a ∧ a < (l.length : Int)
    · have ha : askedF l a = 0 := by rw [h0, if_pos g]
      rw [decide_eq_true g, Bool.not_true, if_neg (by simp), idxO, q_places_p l hl, Option.bind_some, if_pos ha]
      by_cases g2 : 0 ≤ b ∧ b < (l.length : Int)
      · rw [decide_eq_true g2, Bool.not_true, if_neg (by simp), idxO, Option.bind_some, h0, if_pos g2]
        rfl
      · rw [decide_eq_false g2, Bool.not_false, if_pos rfl, Option.bind_some, h0, if_neg g2]
        rfl
    · have ha : askedF l a = 3 := by rw [h0, if_neg g]
      rw [decide_eq_false g, Bool.not_false, if_pos rfl, Option.bind_some, ha]
      rfl
  · have h0 : ∀ x, askedF l x = termsF l := fun x => by rw [askedF, if_neg c]
    rw [if_neg c, h0, h0, if_neg c]

theorem q_szTermS {l : List S69} (h : l.length ≤ 1048576) : laws_szTermS.f l 1048576 = some (1048576 - (l.length : Int)) := by
  unfold laws_szTermS.f
  rw [w64 (by omega) (by omega), if_neg (by omega)]
theorem q_szTermS_big {l : List S69} (h : ¬ l.length ≤ 1048576) (hm : l.length ≤ maxLen) : laws_szTermS.f l 1048576 = some (-1) := by
  unfold laws_szTermS.f
  unfold maxLen at hm
  rw [w64 (by omega) (by omega), if_pos (by omega)]

theorem rdLTerm_nat (l : List S69) (i : Nat) (h : i < l.length) : rd_T69 l i = l[i] := getD_nat l _ i h

def cvTerm (x : S69) : S66 := ⟨x.f0, x.f1, x.f2, x.f3⟩
theorem q_toTerm (a b c d : Int) : laws_toTerm.f a b c d = some (a, b, c, d) := rfl
theorem ev_toTermS {l : List S69} (hn : l.length ≤ 1048576) : Ev (fun k => laws_toTermS.f k l) (l.map cvTerm) := by
  unfold laws_toTermS.f
  refine ev_pos (by omega) (ev_pos (by omega) ?_)
  refine map_loop (fun k b i => laws_toTermS.l0 k l b i) l cvTerm ?_ ?_ _ (by simp)
  · intro k b
    rw [laws_toTermS.l0, if_neg (by omega)]
  · intro k b i h hb
    rw [laws_toTermS.l0, if_pos (by omega), if_pos (by omega), q_toTerm, Option.bind_some, if_pos (by omega), w64 (by omega) (by omega), rdLTerm_nat l i h, Int.toNat_natCast]
    rfl

theorem q_eqTerm (a b c d : Int) : laws_eqTerm.f a b c d a b c d = some true := by
  simp [laws_eqTerm.f]
theorem ev_eqTermS {l : List S66} (hn : l.length ≤ 1048576) : Ev (fun k => laws_eqTermS.f k l l) true := by
  unfold laws_eqTermS.f
  refine ev_pos rfl ?_
  refine count_loop (fun k i => laws_eqTermS.l0 k l l i) l.length true ?_ ?_
  · intro k
    rw [laws_eqTermS.l0, if_neg (by omega)]
  · intro k i h
    rw [laws_eqTermS.l0, if_pos (by omega), if_pos (by omega), if_pos (by omega), q_eqTerm, Option.bind_some, if_pos rfl, w64 (by omega) (by omega)]
    rfl

theorem ev_markByteS_loop : ∀ (d i : Nat) (b : List Int), i + d = b.length → b.length ≤ 4294967296 → (∀ j : Nat, j < i → b[j]? = some ((1 + (j : Int)) % 256)) →
    ∃ r, Ev (fun k => laws_markByteS.l0 k b (1 + (i : Int)) i) (1 + (b.length : Int), r) ∧ r.length = b.length ∧ ∀ j : Nat, j < b.length → r[j]? = some ((1 + (j : Int)) % 256) := by
  intro d
  induction d with
  | zero =>
    intro i b hi hl hj
    obtain rfl : i = b.length := by omega
    refine ⟨b, Ev.step (fun k => by rw [laws_markByteS.l0, if_neg (by omega)]) ?_, rfl, hj⟩
    exact ev_some _
  | succ d ih =>
    intro i b hi hl hj
    obtain ⟨r, hr, hrl, hrj⟩ := ih (i + 1) (b.set i ((1 + (i : Int)) % 256)) (by simp; omega) (by simpa using hl) (fun j h => by
      rw [List.getElem?_set]
      by_cases e : i = j
      · subst e
        rw [if_pos rfl, if_pos (by omega)]
      · rw [if_neg e]
        exact hj j (by omega))
    rw [List.length_set] at hr hrl hrj
    refine ⟨r, Ev.step (fun k => by rw [laws_markByteS.l0, if_pos (by omega), if_pos (by omega), Int.toNat_natCast, w64 (by omega) (by omega), w64 (by omega) (by omega)]) ?_, hrl, hrj⟩
    rw [show 1 + (i : Int) + 1 = 1 + ((i + 1 : Nat) : Int) from by omega]
    exact hr
theorem ev_heldByteS_loop (r : List Int) (hl : r.length ≤ 4294967296) (hj : ∀ j : Nat, j < r.length → r[j]? = some ((1 + (j : Int)) % 256)) : ∀ i, i ≤ r.length → Ev (fun k => laws_heldByteS.l0 k r (1 + (i : Int)) i) (1 + (r.length : Int)) := by
  refine down r.length ?_ ?_
  · refine Ev.step (fun k => by rw [laws_heldByteS.l0, if_neg (by omega)]) ?_
    exact ev_some _
  · intro i hi ih
    have h1 := hj i hi
    rw [List.getElem?_eq_getElem hi] at h1
    have h2 : rd r (i : Int) = (1 + (i : Int)) % 256 := by
      rw [rd_nat r i hi]
      exact Option.some.inj h1
    refine Ev.step (fun k => by rw [laws_heldByteS.l0, if_pos (by omega), if_pos (by omega), if_pos h2, w64 (by omega) (by omega), w64 (by omega) (by omega)]) ?_
    rw [show 1 + (i : Int) + 1 = 1 + ((i + 1 : Nat) : Int) from by omega]
    exact ih
/-- Marks laid into a row of bytes are found there again. -/
theorem ev_markheldByteS (l : List Int) (hl : l.length ≤ 4294967296) : ∃ r, Ev (fun k => laws_markByteS.f k l 1) (1 + (l.length : Int), r) ∧ Ev (fun k => laws_heldByteS.f k r 1) (1 + (l.length : Int)) := by
  obtain ⟨r, hr, hrl, hrj⟩ := ev_markByteS_loop l.length 0 l (by omega) hl (fun j h => by omega)
  have h := ev_heldByteS_loop r (by omega) (fun j h => hrj j (by omega)) 0 (by omega)
  rw [hrl] at h
  exact ⟨r, hr, h⟩

theorem ev_eqByteS_loop (a b : List Int) (hn : a.length ≤ 140737488355328) (hl : b.length = a.length) : ∀ (d i : Nat), i + d = a.length → b.take i = a.take i → Ev (fun k => laws_eqByteS.l0 k a b i) (decide (a = b)) := by
  intro d
  induction d with
  | zero =>
    intro i hi ht
    refine Ev.step (fun k => by rw [laws_eqByteS.l0, if_neg (by omega)]) ?_
    obtain rfl : i = a.length := by omega
    rw [take_full hl ht]
    simpa using ev_some true
  | succ d ih =>
    intro i hi ht
    by_cases he : rd a i = rd b i
    · refine Ev.step (fun k => by rw [laws_eqByteS.l0, if_pos (by omega), if_pos (by omega), if_pos (by omega), if_pos he]) ?_
      rw [w64 (by omega) (by omega)]
      rw [rd_nat a i (by omega), rd_nat b i (by omega)] at he
      exact ih (i + 1) (by omega) (take_next (by omega) (by omega) ht he.symm)
    · refine Ev.step (fun k => by rw [laws_eqByteS.l0, if_pos (by omega), if_pos (by omega), if_pos (by omega), if_neg he]) ?_
      have : a ≠ b := fun h => he (by rw [h])
      simpa [this] using ev_some false
theorem ev_eqByteS {a b : List Int} (hn : a.length ≤ 140737488355328) : Ev (fun k => laws_eqByteS.f k a b) (decide (a = b)) := by
  unfold laws_eqByteS.f
  by_cases h : (a.length : Int) = b.length
  · exact ev_pos h (ev_eqByteS_loop a b hn (by omega) a.length 0 (by omega) (by simp))
  · refine ev_neg h ?_
    have : a ≠ b := fun h' => h (by rw [h'])
    simpa [this] using ev_some false
theorem ev_eqByteS_refl {a : List Int} (hn : a.length ≤ 140737488355328) : Ev (fun k => laws_eqByteS.f k a a) true := by
  simpa using ev_eqByteS (b := a) hn

theorem ev_markheldBytesResult (c : Int) (l : List Int) (hl : l.length ≤ 4294967296) : ∃ r, Ev (fun k => laws_markBytesResult.f k c l 1) (1 + (l.length : Int), r) ∧ Ev (fun k => laws_heldBytesResult.f k c r 1) (1 + (l.length : Int)) := by
  obtain ⟨r, h1, h2⟩ := ev_markheldByteS l hl
  refine ⟨r, ?_, ?_⟩
  · unfold laws_markBytesResult.f
    exact Ev.bind h1 (ev_some _)
  · unfold laws_heldBytesResult.f
    exact Ev.bind h2 (ev_neg (by omega) (ev_some _))
theorem ev_eqBytesResult (c : Int) (l : List Int) (hl : l.length ≤ 4294967296) : Ev (fun k => laws_eqBytesResult.f k c l c l) true := by
  unfold laws_eqBytesResult.f
  exact ev_pos rfl (Ev.bind (ev_eqByteS_refl (by omega)) (ev_pos rfl (ev_some _)))

theorem ev_markTermS_loop (n : Nat) (hn : n ≤ 1048576) : ∀ (d i : Nat) (b : List S66), i + d = n → b.length = n → ∃ r, Ev (fun k => laws_markTermS.l0 k b (1 + 4 * (i : Int)) i) (1 + 4 * (n : Int), r) := by
  intro d
  induction d with
  | zero =>
    intro i b hi hl
    obtain rfl : i = n := by omega
    exact ⟨b, Ev.step (fun k => by rw [laws_markTermS.l0, if_neg (by omega)]) (ev_some _)⟩
  | succ d ih =>
    intro i b hi hl
    have hs : ∀ (B : List S66), B.length = n → ∃ r, Ev (fun k => laws_markTermS.l0 k B (1 + 4 * (i : Int) + 1 + 1 + 1 + 1) ((i : Int) + 1)) (1 + 4 * (n : Int), r) := by
      intro B hB
      obtain ⟨r, hr⟩ := ih (i + 1) B (by omega) hB
      refine ⟨r, ?_⟩
      rw [show 1 + 4 * (i : Int) + 1 + 1 + 1 + 1 = 1 + 4 * ((i + 1 : Nat) : Int) by omega]
      exact hr
    refine (hs _ ?_).imp fun r hr => Ev.step (fun k => by rw [laws_markTermS.l0, if_pos (by omega), if_pos (by omega), Option.bind_some, Option.bind_some, Option.bind_some, w64 (x := 1 + 4 * (i : Int) + 1) (by omega) (by omega), w64 (x := 1 + 4 * (i : Int) + 1 + 1) (by omega) (by omega), w64 (x := 1 + 4 * (i : Int) + 1 + 1 + 1) (by omega) (by omega), w64 (x := 1 + 4 * (i : Int) + 1 + 1 + 1 + 1) (by omega) (by omega), w64 (x := (i : Int) + 1) (by omega) (by omega)]) hr
    simpa using hl
theorem ev_markTermS (l : List S66) (hl : l.length ≤ 1048576) : ∃ r, Ev (fun k => laws_markTermS.f k l 1) (1 + 4 * (l.length : Int), r) := by
  obtain ⟨r, hr⟩ := ev_markTermS_loop l.length hl l.length 0 l (by omega) rfl
  exact ⟨r, hr⟩

theorem encodeTerm_both (l : List S66) (hl : l.length ≤ 1048576) (a : Int) : ∃ z : Int × List Int, Ev (fun k => spec_EncodeTerm.f k l a) z ∧ Ev (fun k => impl_EncodeTerm.f k l a) z ∧ z.2.length ≤ 400 := by
  by_cases h : askedF l a = 0
  · obtain ⟨ht, h0, h1⟩ := askedF_ok h
    have hd : a < ((depL [] l).length : Int) := by rw [depL_len]; simpa using h1
    have hz : a < ((sizL [] l).length : Int) := by rw [sizL_len]; simpa using h1
    have many : (∃ z : Int × List Int, z = (2, [])) := ⟨_, rfl⟩
    have hsp : ∀ z : Int × List Int, (rd (depL [] l) a > 30 → z = (2, [])) → (¬ rd (depL [] l) a > 30 → Ev (fun k => spec_EncodeTerm.j0 k l a (decide (rd (sizL [] l) a > 200))) z) → Ev (fun k => spec_EncodeTerm.f k l a) z := by
      intro z g1 g2
      unfold spec_EncodeTerm.f
      refine Ev.bind (ev_spec_l5Asked l hl a) (ev_pos h (Ev.bind (ev_spec_l7Depths l ht) (ev_pos h0 (ev_pos hd ?_))))
      by_cases g : rd (depL [] l) a > 30
      · refine ev_pos g ?_
        rw [g1 g]
        exact Ev.step (fun k => by rw [spec_EncodeTerm.j0, if_pos rfl]) (ev_some _)
      · exact ev_neg g (Ev.bind (ev_spec_l5Sizes l ht) (ev_pos hz (g2 g)))
    have him : ∀ z : Int × List Int, (rd (depL [] l) a > 30 → z = (2, [])) → (¬ rd (depL [] l) a > 30 → Ev (fun k => impl_EncodeTerm.j0 k l a (decide (rd (sizL [] l) a > 200))) z) → Ev (fun k => impl_EncodeTerm.f k l a) z := by
      intro z g1 g2
      unfold impl_EncodeTerm.f
      refine ev_opt (q_impl_places1 l hl a) (ev_pos h (Ev.bind (ev_impl_depths l ht) (ev_pos h0 (ev_pos hd ?_))))
      by_cases g : rd (depL [] l) a > 30
      · refine ev_pos g ?_
        rw [g1 g]
        exact Ev.step (fun k => by rw [impl_EncodeTerm.j0, if_pos rfl]) (ev_some _)
      · exact ev_neg g (Ev.bind (ev_impl_sizes l ht) (ev_pos hz (g2 g)))
    by_cases g : rd (depL [] l) a > 30
    · exact ⟨(2, []), hsp _ (fun _ => rfl) (fun e => absurd g e), him _ (fun _ => rfl) (fun e => absurd g e), by simp⟩
    · by_cases gs : rd (sizL [] l) a > 200
      · refine ⟨(2, []), hsp _ (fun e => absurd e g) (fun _ => ?_), him _ (fun e => absurd e g) (fun _ => ?_), by simp⟩
        · rw [decide_eq_true gs]
          exact Ev.step (fun k => by rw [spec_EncodeTerm.j0, if_pos rfl]) (ev_some _)
        · rw [decide_eq_true gs]
          exact Ev.step (fun k => by rw [impl_EncodeTerm.j0, if_pos rfl]) (ev_some _)
      · obtain ⟨n, rfl⟩ := Int.eq_ofNat_of_zero_le h0
        obtain ⟨r, h2, h3, h4⟩ := encode_both l ht n (by omega) (by omega)
        by_cases g4 : (r.length : Int) > 400
        · refine ⟨(2, []), hsp _ (fun e => absurd e g) (fun _ => ?_), him _ (fun e => absurd e g) (fun _ => ?_), by simp⟩
          · rw [decide_eq_false gs]
            exact Ev.step (fun k => by rw [spec_EncodeTerm.j0, if_neg (by simp)]) (Ev.bind h2 (ev_pos g4 (ev_some _)))
          · rw [decide_eq_false gs]
            exact Ev.step (fun k => by rw [impl_EncodeTerm.j0, if_neg (by simp)]) (Ev.bind h3 (ev_pos g4 (ev_some _)))
        · refine ⟨(0, r), hsp _ (fun e => absurd e g) (fun _ => ?_), him _ (fun e => absurd e g) (fun _ => ?_), by dsimp only; omega⟩
          · rw [decide_eq_false gs]
            exact Ev.step (fun k => by rw [spec_EncodeTerm.j0, if_neg (by simp)]) (Ev.bind h2 (ev_neg g4 (ev_some _)))
          · rw [decide_eq_false gs]
            exact Ev.step (fun k => by rw [impl_EncodeTerm.j0, if_neg (by simp)]) (Ev.bind h3 (ev_neg g4 (ev_some _)))
  · refine ⟨(askedF l a, []), ?_, ?_, by simp⟩
    · unfold spec_EncodeTerm.f
      exact Ev.bind (ev_spec_l5Asked l hl a) (ev_neg h (ev_some _))
    · unfold impl_EncodeTerm.f
      exact ev_opt (q_impl_places1 l hl a) (ev_neg h (ev_some _))
theorem FnExactEncodeTerm : laws_FnExactEncodeTerm.Pure := by
  intro l a hm
  intros
  apply Ev.rounds
  unfold laws_FnExactEncodeTerm.f
  by_cases h : l.length ≤ 1048576
  · have hc : (l.map cvTerm).length ≤ 1048576 := by simpa using h
    obtain ⟨⟨z1, z2⟩, hsp, him, hlen⟩ := encodeTerm_both (l.map cvTerm) hc a
    dsimp only at hlen
    obtain ⟨r1, m1⟩ := ev_markTermS (l.map cvTerm) hc
    obtain ⟨r2, m2, m3⟩ := ev_markheldBytesResult z1 z2 (by omega)
    have heq := ev_eqBytesResult z1 z2 (by omega)
    refine ev_opt (q_szTermS h) (ev_neg (by omega) ?_)
    refine Ev.bind (ev_toTermS h) (Ev.bind hsp (Ev.bind (ev_toTermS h) (Ev.bind him (Ev.bind heq (ev_pos rfl ?_)))))
    refine Ev.bind (ev_toTermS h) (Ev.bind (ev_eqTermS hc) (ev_pos rfl (Ev.bind m1 (ev_neg (by omega) (Ev.bind heq ?_)))))
    refine Ev.step (fun k => by rw [laws_FnExactEncodeTerm.j0, if_neg (by simp)]) ?_
    refine Ev.bind m2 (Ev.bind m3 (ev_neg (by omega) (ev_pos rfl ?_)))
    refine Ev.bind (ev_toTermS h) (Ev.bind him (Ev.bind heq (ev_pos rfl ?_)))
    exact Ev.bind m3 (ev_neg (by omega) (ev_pos rfl (ev_some _)))
  · exact ev_opt (q_szTermS_big h hm) (ev_pos (by omega) (ev_some _))

end Go.Proofs.Ytihipdmjacplfaa.Pure
