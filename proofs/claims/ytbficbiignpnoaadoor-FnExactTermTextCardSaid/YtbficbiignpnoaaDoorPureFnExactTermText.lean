
/- Proved: the law FnExactTermText answers true at every input that Go can hand in (it says: The program's TermText returns what the reference's returns, for all arguments.) No condition beyond the statement's own. -/
import Derived.Test.YtbficbiignpnoaaDoorStFnExactTermText
namespace Go.Proofs.YtbficbiignpnoaaDoor.Pure
open Go.RowKit Go.Proofs.YtbficbiignpnoaaDoor.PFnExactTermText Go.Proofs.YtbficbiignpnoaaDoorW.PrintWords Go.Proofs.YtbficbiignpnoaaDoorW.PrintLast Go.Proofs.YtbficbiignpnoaaDoorW.PrintMore
set_option linter.unusedVariables false
set_option linter.unusedSimpArgs false

theorem w64 {x : Int} (h0 : -9223372036854775808 ≤ x) (h1 : x ≤ 9223372036854775807) : wrap64 x = x := by
  unfold wrap64
  omega
theorem tmod_pos {a b : Int} (h : 0 ≤ a) : Int.tmod a b = a % b := Int.tmod_eq_emod_of_nonneg h
theorem tdiv_pos {a b : Int} (h : 0 ≤ a) : Int.tdiv a b = a / b := Int.tdiv_eq_ediv_of_nonneg h
theorem ev_some {α : Type} (r : α) : Ev (fun _ => some r) r := Ev.now r
theorem ev_pos {α : Type} {c : Prop} [Decidable c] {A B : Nat → Option α} {r : α} (h : c) (e : Ev A r) : Ev (fun k => if c then A k else B k) r := by
  simpa only [if_pos h] using e
theorem ev_neg {α : Type} {c : Prop} [Decidable c] {A B : Nat → Option α} {r : α} (h : ¬ c) (e : Ev B r) : Ev (fun k => if c then A k else B k) r := by
  simpa only [if_neg h] using e
theorem ev_opt {α β : Type} {o : Option α} {f : Nat → α → Option β} {a : α} {r : β} (h : o = some a) (e : Ev (fun n => f n a) r) : Ev (fun n => o.bind (f n)) r := by
  simpa only [h, Option.bind_some] using e
theorem ev_to {α : Type} {g : Nat → Option α} {r r' : α} (e : Ev g r) (h : r = r') : Ev g r' := h ▸ e
theorem ev_fix {α : Type} {o : Option α} {r : α} (h : o = some r) : Ev (fun _ => o) r := ⟨0, fun _ _ => h⟩
theorem rd_nat (l : List Int) (i : Nat) (h : i < l.length) : rd l (i : Int) = l[i] := by
  unfold rd
  simp [List.getD_eq_getElem?_getD, h]
theorem rd_mem (l : List Int) (i : Int) (h0 : 0 ≤ i) (h : i < l.length) : rd l i ∈ l := by
  obtain ⟨n, rfl⟩ := Int.eq_ofNat_of_zero_le h0
  rw [rd_nat l n (by omega)]
  exact List.getElem_mem _
theorem take_full {α : Type} {a b : List α} (hl : b.length = a.length) (ht : b.take a.length = a.take a.length) : b = a := by
  rw [List.take_of_length_le (by omega), List.take_of_length_le (by omega)] at ht
  exact ht
theorem take_next {α : Type} {a b : List α} {i : Nat} (ha : i < a.length) (hb : i < b.length) (ht : b.take i = a.take i) (hx : b[i] = a[i]) : b.take (i + 1) = a.take (i + 1) := by
  rw [List.take_succ_eq_append_getElem ha, List.take_succ_eq_append_getElem hb, ht, hx]
theorem ev_cond {α : Type} {c : Prop} [Decidable c] {A B : Nat → Option α} {r r' : α} (hp : c → Ev A r) (hn : ¬ c → Ev B r') : Ev (fun k => if c then A k else B k) (if c then r else r') := by
  by_cases h : c
  · rw [if_pos h]; exact ev_pos h (hp h)
  · rw [if_neg h]; exact ev_neg h (hn h)
theorem set_take {α : Type} {a b : List α} {i : Nat} {x : α} (h : i < a.length) (hl : b.length = a.length) (ht : b.take i = a.take i) (hx : x = a[i]) : (b.set i x).take (i + 1) = a.take (i + 1) := by
  refine take_next h (by simp; omega) ?_ (by simp [hx])
  rw [← ht]
  apply List.ext_getElem?
  intro j
  simp only [List.getElem?_take, List.getElem?_set]
  by_cases hj : j < i
  · rw [if_pos hj, if_pos hj, if_neg (by omega)]
  · rw [if_neg hj, if_neg hj]
theorem ev_succ {α : Type} {g : Nat → Option α} {r : α} (h : ∀ k, g (k + 1) = some r) : Ev g r := Ev.step h (ev_some r)
theorem down {P : Nat → Prop} (n : Nat) (hend : P n) (hstep : ∀ i, i < n → P (i + 1) → P i) : ∀ i, i ≤ n → P i := by
  intro i hi
  obtain ⟨d, hd⟩ : ∃ d, i + d = n := ⟨n - i, by omega⟩
  induction d generalizing i with
  | zero =>
    obtain rfl : i = n := by omega
    exact hend
  | succ d ih => exact hstep i (by omega) (ih (i + 1) (by omega) (by omega))
theorem getD_nat {α : Type} (l : List α) (z : α) (i : Nat) (h : i < l.length) : l.getD (i : Int).toNat z = l[i] := by
  simp [List.getD_eq_getElem?_getD, h]
/-- A loop that writes the image of each element into its place. -/
theorem map_loop {α β : Type} (F : Nat → List β → Int → Option (List β)) (l : List α) (c : α → β)
    (hend : ∀ k (b : List β), F (k + 1) b l.length = some b) (hstep : ∀ k (b : List β) (i : Nat) (h : i < l.length), b.length = l.length → F (k + 1) b i = F k (b.set i (c l[i])) ((i + 1 : Nat) : Int)) :
    ∀ (b : List β), b.length = l.length → Ev (fun k => F k b 0) (l.map c) := by
  have key : ∀ (i : Nat), i ≤ l.length → ∀ (b : List β), b.length = l.length → b.take i = (l.map c).take i → Ev (fun k => F k b i) (l.map c) := by
    refine down l.length ?_ ?_
    · intro b hl ht
      refine Ev.step (fun k => hend k b) ?_
      rw [take_full (a := l.map c) (b := b) (by simpa using hl) (by simpa using ht)]
      exact ev_some _
    · intro i hi ih b hl ht
      refine Ev.step (fun k => hstep k b i hi hl) (ih _ (by simpa using hl) ?_)
      exact set_take (by simpa using hi) (by simpa using hl) ht (by simp)
  intro b hl
  exact key 0 (by omega) b hl (by simp)
/-- A loop that goes through all places and answers r. -/
theorem count_loop {ρ : Type} (F : Nat → Int → Option ρ) (n : Nat) (r : ρ) (hend : ∀ k, F (k + 1) n = some r) (hstep : ∀ k (i : Nat), i < n → F (k + 1) i = F k ((i + 1 : Nat) : Int)) : Ev (fun k => F k 0) r := by
  have key : ∀ i, i ≤ n → Ev (fun k => F k (i : Nat)) r := down n (Ev.step hend (ev_some r)) (fun i hi ih => Ev.step (fun k => hstep k i hi) ih)
  exact key 0 (by omega)

def kidsT (op : Int) : Int := if op = 3 ∨ op = 4 ∨ op = 5 ∨ op = 7 then 2 else if op = 6 then 1 else 0
def termF (s : List S66) (t : S66) : Int :=
  if 1 ≤ t.f0 ∧ t.f0 ≤ 7 then
    (if (0 < kidsT t.f0 ∧ t.f3 ≠ 0) ∨ (kidsT t.f0 < 1 ∧ t.f1 ≠ 0) ∨ (kidsT t.f0 < 2 ∧ t.f2 ≠ 0) then 1
     else if ¬ (0 ≤ t.f3 ∧ t.f3 ≤ 9999) ∨ (0 < kidsT t.f0 ∧ ¬ (0 ≤ t.f1 ∧ t.f1 < s.length)) ∨ (1 < kidsT t.f0 ∧ ¬ (0 ≤ t.f2 ∧ t.f2 < s.length)) then 3
     else if (t.f0 = 6 ∨ t.f0 = 7) ∧ ((rd_T66 s t.f1).f0 ≠ 2 ∨ (1 < kidsT t.f0 ∧ ((rd_T66 s t.f2).f0 ≠ 2 ∨ t.f1 > t.f2))) then 1 else 0)
  else 5

theorem rdTerm_nat (l : List S66) (i : Nat) (h : i < l.length) : rd_T66 l i = l[i] := getD_nat l _ i h
def sameT (x y : S66) : Bool := x.f0 == y.f0 && (x.f1 == y.f1 && (x.f2 == y.f2 && x.f3 == y.f3))
theorem ev_spec_l5Find (s : List S66) (hs : s.length ≤ 1048576) (t : S66) : ∃ r, Ev (fun k => spec_l5Find.f k s t.f0 t.f1 t.f2 t.f3) r ∧ (0 ≤ r ↔ s.any (fun x => sameT x t) = true) := by
  have key : ∀ i, i ≤ s.length → ∃ r, Ev (fun k => spec_l5Find.l0 k s (i : Nat) t.f0 t.f1 t.f2 t.f3) r ∧ (0 ≤ r ↔ (s.drop i).any (fun x => sameT x t) = true) := by
    refine down s.length ?_ ?_
    · refine ⟨-1, Ev.step (fun k => by rw [spec_l5Find.l0, if_neg (by omega)]) (ev_some _), ?_⟩
      simp
    · intro i hi ih
      obtain ⟨r, hr, hm⟩ := ih
      rw [List.drop_eq_getElem_cons hi, List.any_cons]
      by_cases h : sameT s[i] t = true
      · refine ⟨(i : Int), Ev.step (fun k => by rw [spec_l5Find.l0, if_pos (by omega), if_pos (by omega), rdTerm_nat s i hi, show (s[i].f0 == t.f0 && (s[i].f1 == t.f1 && (s[i].f2 == t.f2 && s[i].f3 == t.f3))) = true from h, if_pos rfl]) (ev_some _), ?_⟩
        simp [h]
      · refine ⟨r, Ev.step (fun k => by rw [spec_l5Find.l0, if_pos (by omega), if_pos (by omega), rdTerm_nat s i hi, show (s[i].f0 == t.f0 && (s[i].f1 == t.f1 && (s[i].f2 == t.f2 && s[i].f3 == t.f3))) = false from Bool.eq_false_iff.mpr h, if_neg (by simp), w64 (by omega) (by omega)]; rfl) hr, ?_⟩
        simp only [Bool.not_eq_true] at h
        rw [h, Bool.false_or]
        exact hm
  have h := key 0 (by omega)
  rw [List.drop_zero] at h
  exact h

def scanT : List S66 → List S66 → Int
  | _, [] => 0
  | s, t :: ts => if termF s t = 0 then (if s.any (fun x => sameT x t) = true then 7 else scanT (s ++ [t]) ts) else termF s t
def termsF (l : List S66) : Int := if 400 < l.length then 2 else scanT [] l

theorem q_impl_in (a b c : Int) : impl_in.f a b c = some (decide (b ≤ a ∧ a ≤ c)) := by
  unfold impl_in.f
  by_cases h : b ≤ a
  · simp [h]
  · simp [h]

theorem q_isPlace (s : List S66) (hs : s.length ≤ 1048576) (a : Int) : impl_isPlace.f s a = some (decide (0 ≤ a ∧ a < (s.length : Int))) := by
  unfold impl_isPlace.f
  rw [q_impl_in, Option.bind_some, w64 (by omega) (by omega)]
  congr 2
  simp only [eq_iff_iff]
  omega
theorem q_names12 {op : Int} (h : op = 1 ∨ op = 2) : impl_namesOf.f 9 op = some (false, false, true) := by
  rcases h with rfl | rfl <;> rfl
theorem q_names6 : impl_namesOf.f 9 6 = some (true, false, false) := rfl
theorem q_namesP {op : Int} (h1 : op ≠ 1) (h2 : op ≠ 2) (h6 : op ≠ 6) : impl_namesOf.f 9 op = some (true, true, false) := by
  simp [impl_namesOf.f, impl_namesOf.j0, h1, h2, h6]
theorem q_impl_fault (s : List S66) (hs : s.length ≤ 1048576) (t : S66) : impl_Term_fault.f t.f0 t.f1 t.f2 t.f3 s = some (termF s t) := by
  obtain ⟨op, A, B, N⟩ := t
  have hp1 : ∀ a, impl_Term_fault.p1 s a = some (!decide (0 ≤ a ∧ a < (s.length : Int))) := fun a => by
    rw [impl_Term_fault.p1, q_isPlace s hs]
    rfl
  have hp2 : ∀ a, 0 ≤ a ∧ a < (s.length : Int) → impl_Term_fault.p2 s a = some ((rd_T66 s a).f0 != 2) := fun a h => by
    rw [impl_Term_fault.p2, if_pos h.1, if_pos h.2]
  unfold impl_Term_fault.f termF
  dsimp only
  rw [q_impl_in, Option.bind_some]
  by_cases h12 : op = 1 ∨ op = 2
  · have hk : kidsT op = 0 := by
      unfold kidsT
      rw [if_neg (by omega), if_neg (by omega)]
    have hps : impl_Term_parts.f 9 op A B N = some [] := by rw [impl_Term_parts.f, q_names12 h12]; rfl
    rw [q_names12 h12, Option.bind_some, q_impl_in, Option.bind_some, hps, Option.bind_some, idxO, Option.bind_some, if_neg (by omega), idxO, Option.bind_some, hk]
    refine congrArg some ?_
    simp only [impl_Term_fault.r, decide_eq_true_eq, true_and, reduceCtorEq, false_and, or_false, false_or]
    (repeat' split) <;> (first | omega | simp_all)
  · by_cases h6 : op = 6
    · subst h6
      have hk : kidsT 6 = 1 := rfl
      have hps : impl_Term_parts.f 9 6 A B N = some [A] := by rw [impl_Term_parts.f, q_names6]; rfl
      rw [q_names6, Option.bind_some, q_impl_in, Option.bind_some, hps, Option.bind_some, idxO, hp1, Option.bind_some, hk]
      by_cases ha : 0 ≤ A ∧ A < (s.length : Int)
      · rw [decide_eq_true ha, Bool.not_true, if_neg (by simp), idxO, Option.bind_some, if_neg (by omega), idxO, hp2 A ha, Option.bind_some]
        by_cases g : (rd_T66 s A).f0 = 2
        · rw [if_neg (by simp [g]), idxO, Option.bind_some]
          refine congrArg some ?_
          simp only [impl_Term_fault.r, decide_eq_true_eq, true_and, reduceCtorEq, false_and, or_false, false_or]
          (repeat' split) <;> (first | omega | simp_all)
        · rw [if_pos (by simp [g]), Option.bind_some]
          refine congrArg some ?_
          simp only [impl_Term_fault.r, decide_eq_true_eq, true_and, reduceCtorEq, false_and, or_false, false_or]
          (repeat' split) <;> (first | omega | simp_all)
      · rw [decide_eq_false ha, Bool.not_false, if_pos rfl, Option.bind_some, if_pos (by omega), Option.bind_some]
        refine congrArg some ?_
        simp only [impl_Term_fault.r, decide_eq_true_eq, true_and, reduceCtorEq, false_and, or_false, false_or]
        (repeat' split) <;> (first | omega | simp_all)
    · have hps : impl_Term_parts.f 9 op A B N = some [A, B] := by rw [impl_Term_parts.f, q_namesP (by omega) (by omega) h6]; rfl
      have hk : 1 ≤ op ∧ op ≤ 7 → kidsT op = 2 := by
        intro h
        unfold kidsT
        rw [if_pos (by omega)]
      rw [q_namesP (by omega) (by omega) h6, Option.bind_some, q_impl_in, Option.bind_some, hps, Option.bind_some, idxO, hp1, Option.bind_some]
      have fin : ∀ (i j : Int), (1 ≤ op ∧ op ≤ 7 → (0 ≤ i ↔ ¬ ((0 ≤ A ∧ A < (s.length : Int)) ∧ (0 ≤ B ∧ B < (s.length : Int))))) → (¬ 0 ≤ i → (0 ≤ j ↔ (rd_T66 s A).f0 ≠ 2 ∨ (rd_T66 s B).f0 ≠ 2)) →
          impl_Term_fault.r op A B N (decide (1 ≤ op ∧ op ≤ 7)) true true false (decide (0 ≤ N ∧ N ≤ 9999)) i j = (if 1 ≤ op ∧ op ≤ 7 then
    (if (0 < kidsT op ∧ N ≠ 0) ∨ (kidsT op < 1 ∧ A ≠ 0) ∨ (kidsT op < 2 ∧ B ≠ 0) then 1
     else if ¬ (0 ≤ N ∧ N ≤ 9999) ∨ (0 < kidsT op ∧ ¬ (0 ≤ A ∧ A < s.length)) ∨ (1 < kidsT op ∧ ¬ (0 ≤ B ∧ B < s.length)) then 3
     else if (op = 6 ∨ op = 7) ∧ ((rd_T66 s A).f0 ≠ 2 ∨ (1 < kidsT op ∧ ((rd_T66 s B).f0 ≠ 2 ∨ A > B))) then 1 else 0)
  else 5) := by
        intro i j hi hj
        by_cases h : 1 ≤ op ∧ op ≤ 7
        · have hi := hi h
          rw [hk h]
          simp only [impl_Term_fault.r, decide_eq_true_eq, true_and, reduceCtorEq, false_and, or_false, false_or]
          (repeat' split) <;> (first | omega | simp_all)
        · simp only [impl_Term_fault.r, decide_eq_true_eq, true_and, reduceCtorEq, false_and, or_false, false_or]
          rw [if_neg h, if_neg h]
      by_cases ha : 0 ≤ A ∧ A < (s.length : Int)
      · rw [decide_eq_true ha, Bool.not_true, if_neg (by simp), idxO, hp1, Option.bind_some]
        by_cases hb : 0 ≤ B ∧ B < (s.length : Int)
        · rw [decide_eq_true hb, Bool.not_true, if_neg (by simp), idxO, Option.bind_some, if_neg (by omega), idxO, hp2 A ha, Option.bind_some]
          by_cases g : (rd_T66 s A).f0 = 2
          · rw [if_neg (by simp [g]), idxO, hp2 B hb, Option.bind_some]
            by_cases g2 : (rd_T66 s B).f0 = 2
            · rw [if_neg (by simp [g2]), idxO, Option.bind_some, fin _ _ (fun _ => by omega) (fun _ => by simp [g, g2])]
            · rw [if_pos (by simp [g2]), Option.bind_some, fin _ _ (fun _ => by omega) (fun _ => by simp [g, g2])]
          · rw [if_pos (by simp [g]), Option.bind_some, fin _ _ (fun _ => by omega) (fun _ => by simp [g])]
        · rw [decide_eq_false hb, Bool.not_false, if_pos rfl, Option.bind_some, if_pos (by omega), Option.bind_some, fin _ _ (fun _ => by omega) (fun h => absurd (by omega) h)]
      · rw [decide_eq_false ha, Bool.not_false, if_pos rfl, Option.bind_some, if_pos (by omega), Option.bind_some, fin _ _ (fun _ => by omega) (fun h => absurd (by omega) h)]

theorem termF_ok {s : List S66} {t : S66} (h : termF s t = 0) : (1 ≤ t.f0 ∧ t.f0 ≤ 7) ∧ (0 < kidsT t.f0 → t.f3 = 0 ∧ 0 ≤ t.f1 ∧ t.f1 < s.length) ∧ (kidsT t.f0 < 1 → t.f1 = 0) ∧ (kidsT t.f0 < 2 → t.f2 = 0) ∧ (1 < kidsT t.f0 → 0 ≤ t.f2 ∧ t.f2 < s.length) ∧ 0 ≤ t.f3 ∧ t.f3 ≤ 9999 ∧
    (t.f0 = 6 ∨ t.f0 = 7 → (rd_T66 s t.f1).f0 = 2) ∧ (t.f0 = 7 → (rd_T66 s t.f2).f0 = 2 ∧ t.f1 ≤ t.f2) := by
  have hk7 : t.f0 = 7 → kidsT t.f0 = 2 := fun e => by rw [e]; rfl
  unfold termF at h
  by_cases c0 : 1 ≤ t.f0 ∧ t.f0 ≤ 7
  · rw [if_pos c0] at h
    by_cases c1 : (0 < kidsT t.f0 ∧ t.f3 ≠ 0) ∨ (kidsT t.f0 < 1 ∧ t.f1 ≠ 0) ∨ (kidsT t.f0 < 2 ∧ t.f2 ≠ 0)
    · rw [if_pos c1] at h
      exact absurd h (by omega)
    · rw [if_neg c1] at h
      by_cases c2 : ¬ (0 ≤ t.f3 ∧ t.f3 ≤ 9999) ∨ (0 < kidsT t.f0 ∧ ¬ (0 ≤ t.f1 ∧ t.f1 < s.length)) ∨ (1 < kidsT t.f0 ∧ ¬ (0 ≤ t.f2 ∧ t.f2 < s.length))
      · rw [if_pos c2] at h
        exact absurd h (by omega)
      · rw [if_neg c2] at h
        by_cases c3 : (t.f0 = 6 ∨ t.f0 = 7) ∧ ((rd_T66 s t.f1).f0 ≠ 2 ∨ (1 < kidsT t.f0 ∧ ((rd_T66 s t.f2).f0 ≠ 2 ∨ t.f1 > t.f2)))
        · rw [if_pos c3] at h
          exact absurd h (by omega)
        · refine ⟨c0, ?_, ?_, ?_, ?_, ?_, ?_, ?_, ?_⟩ <;> omega
  · rw [if_neg c0] at h
    exact absurd h (by omega)
theorem sameT_eqT (x t : S66) : eqT t x = sameT x t := by
  unfold eqT sameT
  rw [Bool.eq_iff_iff]
  simp
  constructor
  · rintro ⟨h1, h2, h3, h4⟩
    exact ⟨h1.symm, h2.symm, h3.symm, h4.symm⟩
  · rintro ⟨h1, h2, h3, h4⟩
    exact ⟨h1.symm, h2.symm, h3.symm, h4.symm⟩
theorem q_TermsFault_l : ∀ (ts s : List S66), s.length + ts.length ≤ 1048576 → impl_TermsFault.l s ts = some (scanT s ts)
  | [], _, _ => by rw [impl_TermsFault.l, scanT]
  | t :: ts, s, h => by
    rw [List.length_cons] at h
    rw [impl_TermsFault.l, q_impl_fault s (by omega) t, Option.bind_some, scanT]
    by_cases c : termF s t = 0
    · have hk := termF_ok c
      have hr : okT t = true := by
        unfold okT okI
        simp only [Bool.and_eq_true, decide_eq_true_eq]
        have h0 := hk.1
        by_cases k0 : 0 < kidsT t.f0 <;> by_cases k1 : 1 < kidsT t.f0 <;> omega
      rw [if_pos c, if_pos c, if_pos hr]
      have ha : s.any (eqT t) = s.any (fun x => sameT x t) := by
        congr 1
        funext x
        exact sameT_eqT x t
      rw [ha]
      by_cases g : s.any (fun x => sameT x t) = true
      · rw [if_pos g, if_pos g]
      · rw [if_neg g, if_neg g]
        exact q_TermsFault_l ts _ (by rw [List.length_append, List.length_singleton]; omega)
    · rw [if_neg c, if_neg c]
theorem q_impl_TermsFault (l : List S66) (hl : l.length ≤ 1048576) : impl_TermsFault.f l = some (termsF l) := by
  unfold impl_TermsFault.f termsF
  by_cases h : 400 < l.length
  · rw [if_pos h, if_pos h]
  · rw [if_neg h, if_neg h, q_TermsFault_l l [] (by simpa using hl)]

theorem scanT_ok : ∀ (ts s : List S66), scanT s ts = 0 → ∀ i (h : i < ts.length), termF (s ++ ts.take i) ts[i] = 0
  | [], _, _, i, h => absurd h (by simp)
  | t :: ts, s, e, i, h => by
    rw [scanT] at e
    by_cases c : termF s t = 0
    · rw [if_pos c] at e
      by_cases g : s.any (fun x => sameT x t) = true
      · rw [if_pos g] at e
        exact absurd e (by omega)
      · rw [if_neg g] at e
        cases i with
        | zero => simpa using c
        | succ i =>
          have := scanT_ok ts (s ++ [t]) e i (by simpa using h)
          simpa using this
    · rw [if_neg c] at e
      exact absurd e c
theorem termsF_ok {l : List S66} (h : termsF l = 0) : l.length ≤ 400 ∧ ∀ i (h : i < l.length), termF (l.take i) l[i] = 0 := by
  unfold termsF at h
  by_cases c : 400 < l.length
  · rw [if_pos c] at h
    exact absurd h (by omega)
  · rw [if_neg c] at h
    refine ⟨by omega, fun i hi => ?_⟩
    have := scanT_ok l [] h i hi
    simpa using this
theorem kids_cases (op : Int) : kidsT op = 0 ∨ kidsT op = 1 ∨ kidsT op = 2 := by
  unfold kidsT
  split
  · exact .inr (.inr rfl)
  · split
    · exact .inr (.inl rfl)
    · exact .inl rfl
/-- What is known of a term of a right table: its parts stand ahead of it. -/
theorem term_parts {l : List S66} (h : termsF l = 0) (i : Nat) (hi : i < l.length) : (1 ≤ l[i].f0 ∧ l[i].f0 ≤ 7) ∧ (0 < kidsT l[i].f0 → 0 ≤ l[i].f1 ∧ l[i].f1 < (i : Int)) ∧ (1 < kidsT l[i].f0 → 0 ≤ l[i].f2 ∧ l[i].f2 < (i : Int)) := by
  have hk := termF_ok ((termsF_ok h).2 i hi)
  have hl : (l.take i).length = i := by rw [List.length_take]; omega
  rw [hl] at hk
  exact ⟨hk.1, fun e => ⟨(hk.2.1 e).2.1, (hk.2.1 e).2.2⟩, hk.2.2.2.2.1⟩

def partsT (t : S66) : List Int := if kidsT t.f0 = 0 then [] else if kidsT t.f0 = 1 then [t.f1] else [t.f1, t.f2]
theorem ev_names (op : Int) (h : 1 ≤ op ∧ op ≤ 7) : Ev (fun k => impl_namesOf.f k op) (if kidsT op = 0 then (false, false, true) else if kidsT op = 1 then (true, false, false) else (true, true, false)) := by
  refine ev_succ (fun k => ?_)
  obtain h1 | h1 | h1 | h1 | h1 | h1 | h1 : op = 1 ∨ op = 2 ∨ op = 3 ∨ op = 4 ∨ op = 5 ∨ op = 6 ∨ op = 7 := by omega
  all_goals subst h1; rfl
theorem ev_parts (t : S66) (h : 1 ≤ t.f0 ∧ t.f0 ≤ 7) : Ev (fun k => impl_Term_parts.f k t.f0 t.f1 t.f2 t.f3) (partsT t) := by
  unfold impl_Term_parts.f partsT
  refine Ev.bind (ev_names t.f0 h) ?_
  rcases kids_cases t.f0 with e | e | e
  · rw [if_pos e, if_pos e]
    exact ev_pos rfl (ev_some _)
  · rw [if_neg (show ¬ kidsT t.f0 = 0 by omega), if_pos e, if_neg (show ¬ kidsT t.f0 = 0 by omega), if_pos e]
    exact ev_neg (by simp) (ev_neg (by simp) (ev_some _))
  · rw [if_neg (show ¬ kidsT t.f0 = 0 by omega), if_neg (show ¬ kidsT t.f0 = 1 by omega), if_neg (show ¬ kidsT t.f0 = 0 by omega), if_neg (show ¬ kidsT t.f0 = 1 by omega)]
    exact ev_neg (by simp) (ev_pos rfl (ev_some _))

def sizV (acc : List Int) (t : S66) : Int := min 1000000 (if kidsT t.f0 = 0 then 1 else if kidsT t.f0 = 1 then 1 + rd acc t.f1 else 1 + rd acc t.f1 + rd acc t.f2)
def sizL : List Int → List S66 → List Int
  | acc, [] => acc
  | acc, t :: ts => sizL (acc ++ [sizV acc t]) ts
def sizOk (acc : List Int) : Prop := ∀ x ∈ acc, 0 ≤ x ∧ x ≤ 1000000
theorem rd_siz {acc : List Int} (h : sizOk acc) (i : Int) (h0 : 0 ≤ i) (h1 : i < acc.length) : 0 ≤ rd acc i ∧ rd acc i ≤ 1000000 := h _ (rd_mem acc i h0 h1)
theorem sizV_range {acc : List Int} (h : sizOk acc) {t : S66} (hA : 0 < kidsT t.f0 → 0 ≤ t.f1 ∧ t.f1 < (acc.length : Int)) (hB : 1 < kidsT t.f0 → 0 ≤ t.f2 ∧ t.f2 < (acc.length : Int)) : 0 ≤ sizV acc t ∧ sizV acc t ≤ 1000000 := by
  unfold sizV
  rcases kids_cases t.f0 with e | e | e
  · rw [if_pos e]
    omega
  · rw [if_neg (by omega), if_pos e]
    have := rd_siz h _ (hA (by omega)).1 (hA (by omega)).2
    omega
  · rw [if_neg (by omega), if_neg (by omega)]
    have h1 := rd_siz h _ (hA (by omega)).1 (hA (by omega)).2
    have h2 := rd_siz h _ (hB (by omega)).1 (hB (by omega)).2
    omega
theorem sizOk_snoc {acc : List Int} (h : sizOk acc) {x : Int} (hx : 0 ≤ x ∧ x ≤ 1000000) : sizOk (acc ++ [x]) := by
  intro y hy
  rcases List.mem_append.mp hy with hy | hy
  · exact h y hy
  · have := List.mem_singleton.mp hy
    omega
theorem sizL_len : ∀ (ts : List S66) (acc : List Int), (sizL acc ts).length = acc.length + ts.length
  | [], acc => by simp [sizL]
  | t :: ts, acc => by
    rw [sizL, sizL_len ts, List.length_append, List.length_singleton, List.length_cons]
    omega
theorem q_l1Min6 (n : Int) : spec_l1Min.f 1000000 n = some (min 1000000 n) := by
  unfold spec_l1Min.f
  by_cases g : (1000000 : Int) < n <;> simp [g] <;> omega
theorem mn6 (n : Int) : mn n 1000000 = min 1000000 n := by unfold mn; omega

theorem sizL_more : ∀ (ts : List S66) (acc : List Int), ∃ more, sizL acc ts = acc ++ more
  | [], acc => ⟨[], by simp [sizL]⟩
  | t :: ts, acc => by
    obtain ⟨m, hm⟩ := sizL_more ts (acc ++ [sizV acc t])
    exact ⟨sizV acc t :: m, by rw [sizL, hm, List.append_assoc, List.singleton_append]⟩
theorem sizL_append : ∀ (a b : List S66) (acc : List Int), sizL acc (a ++ b) = sizL (sizL acc a) b
  | [], b, acc => rfl
  | t :: a, b, acc => by rw [List.cons_append, sizL, sizL, sizL_append a b]
theorem rd_prefix (a b : List Int) (x : Int) (h0 : 0 ≤ x) (h1 : x < (a.length : Int)) : rd (a ++ b) x = rd a x := by
  obtain ⟨n, rfl⟩ := Int.eq_ofNat_of_zero_le h0
  rw [rd_nat _ n (by rw [List.length_append]; omega), rd_nat _ n (by omega), List.getElem_append_left (by omega)]
theorem sizL_rd (l : List S66) (j : Nat) (hj : j ≤ l.length) (x : Int) (h0 : 0 ≤ x) (h1 : x < (j : Int)) : rd (sizL [] l) x = rd (sizL [] (l.take j)) x := by
  have e : sizL [] l = sizL (sizL [] (l.take j)) (l.drop j) := by rw [← sizL_append, List.take_append_drop]
  obtain ⟨m, hm⟩ := sizL_more (l.drop j) (sizL [] (l.take j))
  rw [e, hm]
  refine rd_prefix _ _ x h0 ?_
  rw [sizL_len, List.length_nil, List.length_take]
  omega
theorem sizL_at (l : List S66) (j : Nat) (hj : j < l.length) : rd (sizL [] l) (j : Int) = sizV (sizL [] (l.take j)) l[j] := by
  have e : sizL [] l = sizL (sizL [] (l.take j)) (l.drop j) := by rw [← sizL_append, List.take_append_drop]
  have hlen : (sizL [] (l.take j)).length = j := by rw [sizL_len, List.length_nil, List.length_take]; omega
  rw [List.drop_eq_getElem_cons hj, sizL] at e
  obtain ⟨m, hm⟩ := sizL_more (l.drop (j + 1)) (sizL [] (l.take j) ++ [sizV (sizL [] (l.take j)) l[j]])
  rw [e, hm, rd_nat _ j (by simp [hlen]), List.getElem_append_left (by simp [hlen])]
  simp [hlen]
theorem siz_eq {l : List S66} (ht : termsF l = 0) (j : Nat) (hj : j < l.length) : rd (sizL [] l) (j : Int) = min 1000000 (if kidsT l[j].f0 = 0 then 1 else if kidsT l[j].f0 = 1 then 1 + rd (sizL [] l) l[j].f1 else 1 + rd (sizL [] l) l[j].f1 + rd (sizL [] l) l[j].f2) := by
  obtain ⟨_, hA, hB⟩ := term_parts ht j hj
  rw [sizL_at l j hj, sizV]
  congr 1
  rcases kids_cases l[j].f0 with e | e | e
  · rw [if_pos e, if_pos e]
  · rw [if_neg (by omega), if_pos e, if_neg (by omega), if_pos e, sizL_rd l j (by omega) _ (hA (by omega)).1 (hA (by omega)).2]
  · rw [if_neg (by omega), if_neg (by omega), if_neg (by omega), if_neg (by omega), sizL_rd l j (by omega) _ (hA (by omega)).1 (hA (by omega)).2, sizL_rd l j (by omega) _ (hB (by omega)).1 (hB (by omega)).2]
theorem siz_pos {l : List S66} (ht : termsF l = 0) : ∀ (j : Nat), j < l.length → 1 ≤ rd (sizL [] l) (j : Int) := by
  intro j
  induction j using Nat.strongRecOn with
  | _ j ih =>
    intro hj
    obtain ⟨_, hA, hB⟩ := term_parts ht j hj
    have hs := siz_eq ht j hj
    rcases kids_cases l[j].f0 with e | e | e
    · rw [if_pos e] at hs
      omega
    · rw [if_neg (by omega), if_pos e] at hs
      have h1 := hA (by omega)
      have := ih l[j].f1.toNat (by omega) (by omega)
      rw [show ((l[j].f1.toNat : Nat) : Int) = l[j].f1 by omega] at this
      omega
    · rw [if_neg (by omega), if_neg (by omega)] at hs
      have h1 := hA (by omega)
      have h2 := hB (by omega)
      have g1 := ih l[j].f1.toNat (by omega) (by omega)
      have g2 := ih l[j].f2.toNat (by omega) (by omega)
      rw [show ((l[j].f1.toNat : Nat) : Int) = l[j].f1 by omega] at g1
      rw [show ((l[j].f2.toNat : Nat) : Int) = l[j].f2 by omega] at g2
      omega

def dig (n : Int) : ByteArray := ⟨(Lib.decDigits n.toNat).toArray⟩
theorem dig_size (n : Int) : (dig n).size = Lib.nDigits n.toNat := by
  rw [← Lib.decDigits_length]
  rfl
theorem nDigits_le : ∀ (d u : Nat), u < 10 ^ (d + 1) → Lib.nDigits u ≤ d + 1 := by
  intro d
  induction d with
  | zero =>
    intro u h
    rw [Lib.nDigits, dif_pos (by omega)]
    omega
  | succ d ih =>
    intro u h
    rw [Lib.nDigits]
    split
    · omega
    · have := ih (u / 10) (by rw [Nat.pow_succ] at h; omega)
      omega
theorem dig_size_le (n : Int) (h : n ≤ 9223372036854775807) : (dig n).size ≤ 19 := by
  rw [dig_size]
  exact nDigits_le 18 _ (by simp only [Nat.reduceAdd, Nat.reducePow]; omega)
theorem dig_size_small (n : Int) (h : n ≤ 99999) : (dig n).size ≤ 5 := by
  rw [dig_size]
  exact nDigits_le 4 _ (by simp only [Nat.reduceAdd, Nat.reducePow]; omega)
theorem str_one (n : Int) (h0 : 0 ≤ n) (h : n < 10) : strOfNums [(wrap64 (48 + n)) % 256] = ⟨#[UInt8.ofNat (48 + n.toNat)]⟩ := by
  rw [w64 (by omega) (by omega)]
  have : ∀ k : Fin 10, strOfNums [(48 + ((k.val : Nat) : Int)) % 256] = ⟨#[UInt8.ofNat (48 + k.val)]⟩ := by decide +kernel
  have h1 := this ⟨n.toNat, by omega⟩
  rw [show (((⟨n.toNat, by omega⟩ : Fin 10).val : Nat) : Int) = n by simp; omega] at h1
  exact h1
theorem dig_one (n : Int) (h0 : 0 ≤ n) (h : n < 10) : dig n = strOfNums [(wrap64 (48 + n)) % 256] := by
  rw [str_one n h0 h, dig, Lib.decDigits, dif_pos (by omega)]
theorem dig_more (n : Int) (h0 : 10 ≤ n) (h : n ≤ 9223372036854775807) : dig n = dig (n / 10) ++ strOfNums [(wrap64 (48 + n % 10)) % 256] := by
  rw [str_one (n % 10) (by omega) (by omega)]
  apply ByteArray.ext
  rw [ByteArray.data_append]
  unfold dig
  rw [Lib.decDigits, dif_neg (by omega)]
  rw [show (n / 10).toNat = n.toNat / 10 by omega, show (n % 10).toNat = n.toNat % 10 by omega]
  simp
theorem ev_spec_l2Digits : ∀ (d : Nat) (n : Int), 0 ≤ n → n < 10 ^ (d + 1) → n ≤ 9223372036854775807 → Ev (fun k => spec_l2Digits.f k n) (dig n) := by
  intro d
  induction d with
  | zero =>
    intro n h0 h h1
    refine Ev.step (fun k => by rw [spec_l2Digits.f, if_pos (by omega)]) ?_
    rw [dig_one n h0 (by omega)]
    exact ev_some _
  | succ d ih =>
    intro n h0 h h1
    by_cases c : n < 10
    · refine Ev.step (fun k => by rw [spec_l2Digits.f, if_pos c]) ?_
      rw [dig_one n h0 c]
      exact ev_some _
    · refine Ev.step (fun k => by rw [spec_l2Digits.f, if_neg c]) ?_
      rw [tdiv_pos h0, tmod_pos h0, w64 (x := n / 10) (by omega) (by omega)]
      have h2 : n / 10 < 10 ^ (d + 1) := by
        rw [Int.pow_succ] at h
        omega
      refine Ev.bind (ih (n / 10) (by omega) h2 (by omega)) (ev_opt rfl (ev_pos ?_ ?_))
      · have := dig_size_le (n / 10) (by omega)
        rw [strOfNums_size]
        simp only [List.length_cons, List.length_nil]
        omega
      · rw [← dig_more n (by omega) h1]
        exact ev_some _
theorem ev_digits (n : Int) (h0 : 0 ≤ n) (h : n ≤ 9223372036854775807) : Ev (fun k => spec_l2Digits.f k n) (dig n) := ev_spec_l2Digits 18 n h0 (by omega) h
theorem itoa_dig (n : Int) (h0 : 0 ≤ n) : (⟨(Lib.itoa n).toArray⟩ : ByteArray) = dig n := by
  unfold Lib.itoa dig
  rw [if_neg (by omega)]

theorem q_cat (a b : ByteArray) (h : a.size + b.size ≤ 1000000) : cat a b = some (a ++ b) := by
  unfold cat
  rw [if_pos (by omega)]
theorem q_decimal (n : Int) (h0 : 0 ≤ n) (h : n ≤ 9223372036854775807) : impl_decimal.f n = some (dig n) := by
  unfold impl_decimal.f strconv_FormatInt.f
  rw [if_pos ⟨rfl, by omega, h⟩, itoa_dig n h0]
  rfl
theorem ev_two {g : Nat → Int → Option ByteArray} {x y : Int} {rx ry : ByteArray} (p m e : ByteArray) (hx : Ev (fun k => g k x) rx) (hy : Ev (fun k => g k y) ry) (h : p.size + rx.size + m.size + ry.size + e.size ≤ 1000000) :
    Ev (fun k => impl_termText.two (g k) p m e x y) (p ++ rx ++ m ++ ry ++ e) := by
  unfold impl_termText.two
  refine Ev.bind hx (ev_opt (q_cat _ _ (by omega)) (ev_opt (q_cat _ _ (by simp only [ByteArray.size_append]; omega)) (Ev.bind hy (ev_opt (q_cat _ _ (by simp only [ByteArray.size_append]; omega)) (ev_fix (q_cat _ _ (by simp only [ByteArray.size_append]; omega)))))))
def bothX (l : List S66) (x : Int) : Prop := ∃ r : ByteArray, Ev (fun k => spec_l5Text.f k l x) r ∧ Ev (fun k => impl_termText.f k l x) r ∧ (r.size : Int) ≤ 6 * rd (sizL [] l) x
theorem text_both (l : List S66) (ht : termsF l = 0) : ∀ (j : Nat) (hj : j < l.length), rd (sizL [] l) (j : Int) ≤ 200 → bothX l (j : Int) := by
  have hl := (termsF_ok ht).1
  intro j
  induction j using Nat.strongRecOn with
  | _ j ih =>
    intro hj hs
    obtain ⟨hop, hA, hB⟩ := term_parts ht j hj
    have hz := siz_eq ht j hj
    have iA : 0 < kidsT l[j].f0 → rd (sizL [] l) l[j].f1 ≤ 200 → bothX l l[j].f1 := fun e e2 => by
      have h1 := hA e
      have := ih l[j].f1.toNat (by omega) (by omega)
      rw [show ((l[j].f1.toNat : Nat) : Int) = l[j].f1 by omega] at this
      exact this e2
    have iB : 1 < kidsT l[j].f0 → rd (sizL [] l) l[j].f2 ≤ 200 → bothX l l[j].f2 := fun e e2 => by
      have h1 := hB e
      have := ih l[j].f2.toNat (by omega) (by omega)
      rw [show ((l[j].f2.toNat : Nat) : Int) = l[j].f2 by omega] at this
      exact this e2
    have pA : 0 < kidsT l[j].f0 → 1 ≤ rd (sizL [] l) l[j].f1 := fun e => by
      have h1 := hA e
      have := siz_pos ht l[j].f1.toNat (by omega)
      rwa [show ((l[j].f1.toNat : Nat) : Int) = l[j].f1 by omega] at this
    have pB : 1 < kidsT l[j].f0 → 1 ≤ rd (sizL [] l) l[j].f2 := fun e => by
      have h1 := hB e
      have := siz_pos ht l[j].f2.toNat (by omega)
      rwa [show ((l[j].f2.toNat : Nat) : Int) = l[j].f2 by omega] at this
    have h3 := (termF_ok ((termsF_ok ht).2 j hj)).2.2.2.2.2
    have hspec : ∀ {F : Nat → Option ByteArray} {r : ByteArray}, Ev F r → (∀ k, spec_l5Text.f (k + 1) l (j : Int) = F k) → Ev (fun k => spec_l5Text.f k l (j : Int)) r := fun h e => Ev.step e h
    have himpl : ∀ {r : ByteArray}, Ev (fun k => impl_termText.s l (impl_termText.f k l) l[j].f0 l[j].f1 l[j].f2 l[j].f3) r → Ev (fun k => impl_termText.f k l (j : Int)) r := fun h =>
      Ev.step (fun k => by rw [impl_termText.f, if_pos (by omega), if_pos (by omega), rdTerm_nat l j hj]) h
    have hrd := rdTerm_nat l j hj
    generalize ht0 : l[j].f0 = t0 at *
    generalize ht1 : l[j].f1 = t1 at *
    generalize ht2 : l[j].f2 = t2 at *
    generalize ht3 : l[j].f3 = t3 at *
    have z1 : (⟨#[110]⟩ : ByteArray).size = 1 := rfl
    have z2 : (⟨#[115]⟩ : ByteArray).size = 1 := rfl
    have z3 : (⟨#[40]⟩ : ByteArray).size = 1 := rfl
    have z4 : (⟨#[44]⟩ : ByteArray).size = 1 := rfl
    have z5 : (⟨#[41]⟩ : ByteArray).size = 1 := rfl
    have z6 : (⟨#[102, 40]⟩ : ByteArray).size = 2 := rfl
    have z7 : (⟨#[103, 40]⟩ : ByteArray).size = 2 := rfl
    have z8 : (⟨#[123]⟩ : ByteArray).size = 1 := rfl
    have z9 : (⟨#[125]⟩ : ByteArray).size = 1 := rfl
    have hd5 := dig_size_small t3 (by omega)
    have qd := q_decimal t3 (by omega) (by omega)
    have hdig := ev_digits t3 (by omega) (by omega)
    obtain h0 | h0 | h0 | h0 | h0 | h0 | h0 : t0 = 1 ∨ t0 = 2 ∨ t0 = 3 ∨ t0 = 4 ∨ t0 = 5 ∨ t0 = 6 ∨ t0 = 7 := by omega
    · subst h0
      rw [if_pos (by rfl)] at hz
      refine ⟨⟨#[110]⟩ ++ dig t3, hspec ?_ (fun k => by rw [spec_l5Text.f, if_pos (by omega), if_pos (by omega), hrd, ht0, ht3, if_pos rfl]), himpl ?_, ?_⟩
      · exact Ev.bind hdig (ev_pos (by omega) (ev_some _))
      · unfold impl_termText.s
        exact ev_pos rfl (ev_opt qd (ev_fix (q_cat _ _ (by omega))))
      · rw [ByteArray.size_append]
        omega
    · subst h0
      rw [if_pos (by rfl)] at hz
      refine ⟨⟨#[115]⟩ ++ dig t3, hspec ?_ (fun k => by rw [spec_l5Text.f, if_pos (by omega), if_pos (by omega), hrd, ht0, ht3, if_neg (by omega), if_pos rfl]), himpl ?_, ?_⟩
      · exact Ev.bind hdig (ev_pos (by omega) (ev_some _))
      · unfold impl_termText.s
        exact ev_neg (by omega) (ev_pos rfl (ev_opt qd (ev_fix (q_cat _ _ (by omega)))))
      · rw [ByteArray.size_append]
        omega
    · subst h0
      rw [if_neg (by decide), if_neg (by decide)] at hz
      have g1 := pA (by decide)
      have g2 := pB (by decide)
      obtain ⟨rx, sx, ix, lx⟩ := iA (by decide) (by omega)
      obtain ⟨ry, sy, iy, ly⟩ := iB (by decide) (by omega)
      refine ⟨⟨#[40]⟩ ++ rx ++ ⟨#[44]⟩ ++ ry ++ ⟨#[41]⟩, hspec ?_ (fun k => by rw [spec_l5Text.f, if_pos (by omega), if_pos (by omega), hrd, ht0, ht1, ht2, if_neg (by omega), if_neg (by omega), if_neg (by omega)]), himpl ?_, ?_⟩
      · exact Ev.bind sx (Ev.bind sy (ev_pos rfl (ev_pos (by omega) (ev_pos (by simp only [ByteArray.size_append]; omega) (ev_pos (by simp only [ByteArray.size_append]; omega) (ev_pos (by simp only [ByteArray.size_append]; omega) (ev_some _)))))))
      · unfold impl_termText.s
        exact ev_neg (by omega) (ev_neg (by omega) (ev_pos rfl (ev_two _ _ _ ix iy (by omega))))
      · simp only [ByteArray.size_append]
        omega
    · subst h0
      rw [if_neg (by decide), if_neg (by decide)] at hz
      have g1 := pA (by decide)
      have g2 := pB (by decide)
      obtain ⟨rx, sx, ix, lx⟩ := iA (by decide) (by omega)
      obtain ⟨ry, sy, iy, ly⟩ := iB (by decide) (by omega)
      refine ⟨⟨#[102, 40]⟩ ++ rx ++ ⟨#[44]⟩ ++ ry ++ ⟨#[41]⟩, hspec ?_ (fun k => by rw [spec_l5Text.f, if_pos (by omega), if_pos (by omega), hrd, ht0, ht1, ht2, if_neg (by omega), if_neg (by omega), if_neg (by omega)]), himpl ?_, ?_⟩
      · exact Ev.bind sx (Ev.bind sy (ev_neg (by omega) (ev_pos rfl (ev_pos (by omega) (ev_pos (by simp only [ByteArray.size_append]; omega) (ev_pos (by simp only [ByteArray.size_append]; omega) (ev_pos (by simp only [ByteArray.size_append]; omega) (ev_some _))))))))
      · unfold impl_termText.s
        exact ev_neg (by omega) (ev_neg (by omega) (ev_neg (by omega) (ev_pos rfl (ev_two _ _ _ ix iy (by omega)))))
      · simp only [ByteArray.size_append]
        omega
    · subst h0
      rw [if_neg (by decide), if_neg (by decide)] at hz
      have g1 := pA (by decide)
      have g2 := pB (by decide)
      obtain ⟨rx, sx, ix, lx⟩ := iA (by decide) (by omega)
      obtain ⟨ry, sy, iy, ly⟩ := iB (by decide) (by omega)
      refine ⟨⟨#[123]⟩ ++ ry ++ ⟨#[125]⟩ ++ rx, hspec ?_ (fun k => by rw [spec_l5Text.f, if_pos (by omega), if_pos (by omega), hrd, ht0, ht1, ht2, if_neg (by omega), if_neg (by omega), if_neg (by omega)]), himpl ?_, ?_⟩
      · exact Ev.bind sx (Ev.bind sy (ev_neg (by omega) (ev_neg (by omega) (ev_pos rfl (ev_pos (by omega) (ev_pos (by simp only [ByteArray.size_append]; omega) (ev_pos (by simp only [ByteArray.size_append]; omega) (ev_some _))))))))
      · unfold impl_termText.s impl_termText.sl
        exact ev_neg (by omega) (ev_neg (by omega) (ev_neg (by omega) (ev_neg (by omega) (ev_pos rfl (Ev.bind iy (ev_opt (q_cat _ _ (by omega)) (ev_opt (q_cat _ _ (by simp only [ByteArray.size_append]; omega)) (Ev.bind ix (ev_fix (q_cat _ _ (by simp only [ByteArray.size_append]; omega)))))))))))
      · simp only [ByteArray.size_append]
        omega
    · subst h0
      rw [if_neg (by decide), if_pos (by decide)] at hz
      have g1 := pA (by decide)
      obtain ⟨rx, sx, ix, lx⟩ := iA (by decide) (by omega)
      refine ⟨⟨#[103, 40]⟩ ++ rx ++ ⟨#[41]⟩, hspec ?_ (fun k => by rw [spec_l5Text.f, if_pos (by omega), if_pos (by omega), hrd, ht0, ht1, if_neg (by omega), if_neg (by omega), if_pos rfl]), himpl ?_, ?_⟩
      · exact Ev.bind sx (ev_pos (by omega) (ev_pos (by simp only [ByteArray.size_append]; omega) (ev_some _)))
      · unfold impl_termText.s impl_termText.one
        exact ev_neg (by omega) (ev_neg (by omega) (ev_neg (by omega) (ev_neg (by omega) (ev_neg (by omega) (ev_pos rfl (Ev.bind ix (ev_opt (q_cat _ _ (by omega)) (ev_fix (q_cat _ _ (by simp only [ByteArray.size_append]; omega))))))))))
      · simp only [ByteArray.size_append]
        omega
    · subst h0
      rw [if_neg (by decide), if_neg (by decide)] at hz
      have g1 := pA (by decide)
      have g2 := pB (by decide)
      have b1 := hA (by decide)
      have b2 := hB (by decide)
      obtain ⟨rx, sx, ix, lx⟩ := iA (by decide) (by omega)
      obtain ⟨ry, sy, iy, ly⟩ := iB (by decide) (by omega)
      by_cases c : (rd_T66 l t2).f3 < (rd_T66 l t1).f3
      · refine ⟨⟨#[103, 40]⟩ ++ ry ++ ⟨#[44]⟩ ++ rx ++ ⟨#[41]⟩, hspec ?_ (fun k => by rw [spec_l5Text.f, if_pos (by omega), if_pos (by omega), hrd, ht0, ht1, ht2, if_neg (by omega), if_neg (by omega), if_neg (by omega)]), himpl ?_, ?_⟩
        · exact Ev.bind sx (Ev.bind sy (ev_neg (by omega) (ev_neg (by omega) (ev_neg (by omega) (ev_pos (by omega) (ev_pos (by omega) (ev_pos (by omega) (ev_pos (by omega) (ev_pos c (ev_pos (by omega) (ev_pos (by simp only [ByteArray.size_append]; omega) (ev_pos (by simp only [ByteArray.size_append]; omega) (ev_pos (by simp only [ByteArray.size_append]; omega) (ev_some _))))))))))))))
        · unfold impl_termText.s
          refine ev_neg (by omega) (ev_neg (by omega) (ev_neg (by omega) (ev_neg (by omega) (ev_neg (by omega) (ev_neg (by omega) (ev_opt (a := (t2, t1)) ?_ (ev_two _ _ _ iy ix (by omega))))))))
          unfold impl_ordered.f
          rw [if_pos (by omega), if_pos (by omega), if_pos (by omega), if_pos (by omega), if_pos c]
        · simp only [ByteArray.size_append]
          omega
      · refine ⟨⟨#[103, 40]⟩ ++ rx ++ ⟨#[44]⟩ ++ ry ++ ⟨#[41]⟩, hspec ?_ (fun k => by rw [spec_l5Text.f, if_pos (by omega), if_pos (by omega), hrd, ht0, ht1, ht2, if_neg (by omega), if_neg (by omega), if_neg (by omega)]), himpl ?_, ?_⟩
        · exact Ev.bind sx (Ev.bind sy (ev_neg (by omega) (ev_neg (by omega) (ev_neg (by omega) (ev_pos (by omega) (ev_pos (by omega) (ev_pos (by omega) (ev_pos (by omega) (ev_neg c (ev_pos (by omega) (ev_pos (by simp only [ByteArray.size_append]; omega) (ev_pos (by simp only [ByteArray.size_append]; omega) (ev_pos (by simp only [ByteArray.size_append]; omega) (ev_some _))))))))))))))
        · unfold impl_termText.s
          refine ev_neg (by omega) (ev_neg (by omega) (ev_neg (by omega) (ev_neg (by omega) (ev_neg (by omega) (ev_neg (by omega) (ev_opt (a := (t1, t2)) ?_ (ev_two _ _ _ ix iy (by omega))))))))
          unfold impl_ordered.f
          rw [if_pos (by omega), if_pos (by omega), if_pos (by omega), if_pos (by omega), if_neg c]
        · simp only [ByteArray.size_append]
          omega

theorem ev_spec_l5Kids (op : Int) : Ev (fun k => spec_l5Kids.f k op) (kidsT op) := by
  refine ev_succ (fun k => ?_)
  unfold spec_l5Kids.f kidsT
  simp only [spec_l5Kids.j0]
  by_cases h3 : op = 3
  · simp [h3]
  · by_cases h4 : op = 4
    · simp [h4]
    · by_cases h5 : op = 5
      · simp [h5]
      · by_cases h7 : op = 7
        · simp [h7]
        · by_cases h6 : op = 6
          · simp [h6]
          · simp [h3, h4, h5, h6, h7]

theorem ev_spec_l5Sizes (l : List S66) (ht : termsF l = 0) : Ev (fun k => spec_l5Sizes.f k l) (sizL [] l) := by
  have hl := (termsF_ok ht).1
  have key : ∀ i, i ≤ l.length → ∀ acc : List Int, acc.length = i → sizOk acc → Ev (fun k => spec_l5Sizes.l0 k l acc (i : Nat)) (sizL acc (l.drop i)) := by
    refine down l.length ?_ ?_
    · intro acc _ _
      rw [List.drop_length, sizL]
      exact Ev.step (fun k => by rw [spec_l5Sizes.l0, if_neg (by omega)]) (ev_some _)
    · intro i hi ih acc ha hok
      obtain ⟨hop, hA0, hB0⟩ := term_parts ht i hi
      have hA : 0 < kidsT l[i].f0 → 0 ≤ l[i].f1 ∧ l[i].f1 < (acc.length : Int) := by rw [ha]; exact hA0
      have hB : 1 < kidsT l[i].f0 → 0 ≤ l[i].f2 ∧ l[i].f2 < (acc.length : Int) := by rw [ha]; exact hB0
      have hr := sizV_range hok hA hB
      have hnext := ih (acc ++ [sizV acc l[i]]) (by rw [List.length_append, List.length_singleton]; omega) (sizOk_snoc hok hr)
      rw [List.drop_eq_getElem_cons hi, sizL]
      refine Ev.step (fun k => by rw [spec_l5Sizes.l0, if_pos (by omega), if_pos (by omega), rdTerm_nat l i hi]) ?_
      refine Ev.bind (ev_spec_l5Kids _) ?_
      have hv : sizV acc l[i] = min 1000000 (if kidsT l[i].f0 = 0 then 1 else if kidsT l[i].f0 = 1 then 1 + rd acc l[i].f1 else 1 + rd acc l[i].f1 + rd acc l[i].f2) := rfl
      rcases kids_cases l[i].f0 with e | e | e
      · refine ev_neg (by omega) ?_
        rw [if_pos e] at hv
        refine Ev.step (fun k => by rw [spec_l5Sizes.j1, if_pos (by omega), if_pos (by omega), rdTerm_nat l i hi, w64 (x := (i : Int) + 1) (by omega) (by omega)]) ?_
        refine Ev.bind (ev_spec_l5Kids _) (ev_neg (by omega) (ev_opt (q_l1Min6 _) (ev_pos (by omega) ?_)))
        rw [← hv]
        exact hnext
      · have hA := hA (by omega)
        have h1 := rd_siz hok _ hA.1 hA.2
        refine ev_pos (by omega) (ev_pos hA.1 (ev_pos hA.2 ?_))
        rw [if_neg (by omega), if_pos e] at hv
        refine Ev.step (fun k => by rw [spec_l5Sizes.j1, if_pos (by omega), if_pos (by omega), rdTerm_nat l i hi, w64 (x := 1 + rd acc l[i].f1) (by omega) (by omega), w64 (x := (i : Int) + 1) (by omega) (by omega)]) ?_
        refine Ev.bind (ev_spec_l5Kids _) (ev_neg (by omega) (ev_opt (q_l1Min6 _) (ev_pos (by omega) ?_)))
        rw [← hv]
        exact hnext
      · have hA := hA (by omega)
        have hB := hB (by omega)
        have h1 := rd_siz hok _ hA.1 hA.2
        have h2 := rd_siz hok _ hB.1 hB.2
        refine ev_pos (by omega) (ev_pos hA.1 (ev_pos hA.2 ?_))
        rw [if_neg (by omega), if_neg (by omega)] at hv
        refine Ev.step (fun k => by rw [spec_l5Sizes.j1, if_pos (by omega), if_pos (by omega), rdTerm_nat l i hi, w64 (x := 1 + rd acc l[i].f1) (by omega) (by omega), w64 (x := 1 + rd acc l[i].f1 + rd acc l[i].f2) (by omega) (by omega), w64 (x := (i : Int) + 1) (by omega) (by omega)]) ?_
        refine Ev.bind (ev_spec_l5Kids _) (ev_pos (by omega) (ev_pos hB.1 (ev_pos hB.2 (ev_opt (q_l1Min6 _) (ev_pos (by omega) ?_)))))
        rw [← hv]
        exact hnext
  exact key 0 (by omega) [] rfl (fun x hx => absurd hx (by simp))

theorem ev_impl_sizes (l : List S66) (ht : termsF l = 0) : Ev (fun k => impl_sizes.f k l) (sizL [] l) := by
  have hl := (termsF_ok ht).1
  have key : ∀ i, i ≤ l.length → ∀ acc : List Int, acc.length = i → sizOk acc → Ev (fun k => impl_sizes.l0 k acc l l.length (i : Nat)) (sizL acc (l.drop i)) := by
    refine down l.length ?_ ?_
    · intro acc _ _
      rw [List.drop_length, sizL]
      exact Ev.step (fun k => by rw [impl_sizes.l0, if_neg (by omega)]) (ev_some _)
    · intro i hi ih acc ha hok
      obtain ⟨hop, hA0, hB0⟩ := term_parts ht i hi
      have hA : 0 < kidsT l[i].f0 → 0 ≤ l[i].f1 ∧ l[i].f1 < (acc.length : Int) := by rw [ha]; exact hA0
      have hB : 1 < kidsT l[i].f0 → 0 ≤ l[i].f2 ∧ l[i].f2 < (acc.length : Int) := by rw [ha]; exact hB0
      have hr := sizV_range hok hA hB
      have hnext := ih (acc ++ [sizV acc l[i]]) (by rw [List.length_append, List.length_singleton]; omega) (sizOk_snoc hok hr)
      rw [List.drop_eq_getElem_cons hi, sizL]
      refine Ev.step (fun k => by rw [impl_sizes.l0, if_pos (by omega), if_pos (by omega), if_pos (by omega), rdTerm_nat l i hi]) ?_
      refine Ev.bind (ev_parts _ hop) ?_
      have hend : ∀ (ps : List Int) (d : Int), min 1000000 d = sizV acc l[i] → Ev (fun k => impl_sizes.l1 k acc d l l.length (i : Nat) ps ps.length ps.length) (sizL (acc ++ [sizV acc l[i]]) (l.drop (i + 1))) := by
        intro ps d hd
        refine Ev.step (fun k => by rw [impl_sizes.l1, if_neg (by omega), if_pos (by omega), w64 (by omega) (by omega), mn6, hd]) ?_
        exact hnext
      have hv : sizV acc l[i] = min 1000000 (if kidsT l[i].f0 = 0 then 1 else if kidsT l[i].f0 = 1 then 1 + rd acc l[i].f1 else 1 + rd acc l[i].f1 + rd acc l[i].f2) := rfl
      unfold partsT
      rcases kids_cases l[i].f0 with e | e | e
      · rw [if_pos e] at hv ⊢
        exact hend [] 1 hv.symm
      · have hA := hA (by omega)
        have h1 := rd_siz hok _ hA.1 hA.2
        rw [if_neg (by omega), if_pos e] at hv ⊢
        have r0 : rd [l[i].f1] 0 = l[i].f1 := rfl
        refine Ev.step (fun k => by rw [impl_sizes.l1, if_pos (by simp), if_pos (by omega), if_pos (by simp), r0, if_pos hA.1, if_pos hA.2, w64 (x := 1 + rd acc l[i].f1) (by omega) (by omega), w64 (x := (0 : Int) + 1) (by omega) (by omega)]) ?_
        exact hend [l[i].f1] _ hv.symm
      · have hA := hA (by omega)
        have hB := hB (by omega)
        have h1 := rd_siz hok _ hA.1 hA.2
        have h2 := rd_siz hok _ hB.1 hB.2
        rw [if_neg (by omega), if_neg (by omega)] at hv ⊢
        have r0 : rd [l[i].f1, l[i].f2] 0 = l[i].f1 := rfl
        have r1 : rd [l[i].f1, l[i].f2] 1 = l[i].f2 := rfl
        refine Ev.step (fun k => by rw [impl_sizes.l1, if_pos (by simp), if_pos (by omega), if_pos (by simp), r0, if_pos hA.1, if_pos hA.2, w64 (x := 1 + rd acc l[i].f1) (by omega) (by omega), w64 (x := (0 : Int) + 1) (by omega) (by omega), Int.zero_add]) ?_
        refine Ev.step (fun k => by rw [impl_sizes.l1, if_pos (by simp), if_pos (by omega), if_pos (by simp), r1, if_pos hB.1, if_pos hB.2, w64 (x := 1 + rd acc l[i].f1 + rd acc l[i].f2) (by omega) (by omega), w64 (x := (1 : Int) + 1) (by omega) (by omega)]) ?_
        exact hend [l[i].f1, l[i].f2] _ hv.symm
  exact key 0 (by omega) [] rfl (fun x hx => absurd hx (by simp))

theorem q_spec_l1In (a b c : Int) : spec_l1In.f a b c = some (decide (b ≤ a ∧ a ≤ c)) := by
  unfold spec_l1In.f
  by_cases h : b ≤ a
  · simp [h]
  · simp [h]

theorem q_spec_l5At (s : List S66) (hs : s.length ≤ 1048576) (a : Int) : spec_l5At.f s a = some (decide (0 ≤ a ∧ a < (s.length : Int))) := by
  unfold spec_l5At.f
  rw [q_spec_l1In, Option.bind_some, w64 (by omega) (by omega)]
  congr 2
  simp only [eq_iff_iff]
  omega

theorem ev_l5Term_j2 (s : List S66) (kk : Int) (b : Bool) (op A B N : Int) (hA : b = true → 0 ≤ A ∧ A < (s.length : Int)) (hB : b = true → 1 < kk → 0 ≤ B ∧ B < (s.length : Int)) :
    Ev (fun k => spec_l5Term.j2 k s kk b op A B N) (if b = true ∧ ((rd_T66 s A).f0 ≠ 2 ∨ (1 < kk ∧ ((rd_T66 s B).f0 ≠ 2 ∨ A > B))) then 1 else 0) := by
  refine ev_succ (fun k => ?_)
  rw [spec_l5Term.j2]
  cases b with
  | false => simp
  | true =>
    obtain ⟨a1, a2⟩ := hA rfl
    rw [if_pos rfl, if_pos a1, if_pos a2]
    by_cases g1 : (rd_T66 s A).f0 = 2
    · rw [if_pos g1]
      by_cases g2 : 1 < kk
      · obtain ⟨b1, b2⟩ := hB rfl g2
        rw [if_pos (by omega), if_pos b1, if_pos b2]
        by_cases g3 : (rd_T66 s B).f0 = 2
        · rw [if_pos g3]
          by_cases g4 : A > B
          · rw [if_pos g4, if_pos ⟨rfl, .inr ⟨g2, .inr g4⟩⟩]
          · rw [if_neg g4, if_neg (fun e => e.2.elim (fun h => h g1) (fun h => h.2.elim (fun h => h g3) g4))]
        · rw [if_neg g3, if_pos ⟨rfl, .inr ⟨g2, .inl g3⟩⟩]
      · rw [if_neg (by omega), if_neg (fun e => e.2.elim (fun h => h g1) (fun h => g2 h.1))]
    · rw [if_neg g1, if_pos ⟨rfl, .inl g1⟩]
theorem ev_l5Term_j1 (s : List S66) (kk : Int) (b : Bool) (op A B N : Int) (hA : b = false → op = 6 ∨ op = 7 → 0 ≤ A ∧ A < (s.length : Int)) (hB : b = false → op = 6 ∨ op = 7 → 1 < kk → 0 ≤ B ∧ B < (s.length : Int)) :
    Ev (fun k => spec_l5Term.j1 k s kk b op A B N) (if b = true then 3 else if (op = 6 ∨ op = 7) ∧ ((rd_T66 s A).f0 ≠ 2 ∨ (1 < kk ∧ ((rd_T66 s B).f0 ≠ 2 ∨ A > B))) then 1 else 0) := by
  cases b with
  | true =>
    refine Ev.step (fun k => by rw [spec_l5Term.j1, if_pos rfl]) ?_
    exact ev_some _
  | false =>
    rw [if_neg (by simp)]
    by_cases h6 : op = 6
    · refine Ev.step (fun k => by rw [spec_l5Term.j1, if_neg (by simp), if_pos h6]) ?_
      refine ev_to (ev_l5Term_j2 s kk true op A B N (fun _ => hA rfl (.inl h6)) (fun _ => hB rfl (.inl h6))) ?_
      simp [h6]
    · refine Ev.step (fun k => by rw [spec_l5Term.j1, if_neg (by simp), if_neg h6]) ?_
      refine ev_to (ev_l5Term_j2 s kk (op == 7) op A B N (fun e => hA rfl (.inr (by simpa using e))) (fun e => hB rfl (.inr (by simpa using e)))) ?_
      simp [h6]
theorem ev_l5Term_j0 (s : List S66) (hs : s.length ≤ 1048576) (op A B N : Int) (b : Bool) :
    Ev (fun k => spec_l5Term.j0 k s (kidsT op) b op A B N) (if b = true then 1 else if ¬ (0 ≤ N ∧ N ≤ 9999) ∨ (0 < kidsT op ∧ ¬ (0 ≤ A ∧ A < (s.length : Int))) ∨ (1 < kidsT op ∧ ¬ (0 ≤ B ∧ B < (s.length : Int))) then 3 else if (op = 6 ∨ op = 7) ∧ ((rd_T66 s A).f0 ≠ 2 ∨ (1 < kidsT op ∧ ((rd_T66 s B).f0 ≠ 2 ∨ A > B))) then 1 else 0) := by
  have hk6 : op = 6 ∨ op = 7 → 0 < kidsT op := by
    unfold kidsT
    rintro (rfl | rfl) <;> simp
  cases b with
  | true =>
    refine Ev.step (fun k => by rw [spec_l5Term.j0, if_pos rfl]) ?_
    exact ev_some _
  | false =>
    rw [if_neg (by simp)]
    refine Ev.step (fun k => by rw [spec_l5Term.j0, if_neg (by simp), w64 (by omega) (by omega)]) ?_
    refine ev_opt (q_spec_l1In _ _ _) ?_
    by_cases hN : 0 ≤ N ∧ N ≤ 9999
    · refine ev_pos (by simpa using hN) ?_
      by_cases k0 : 0 < kidsT op
      · refine ev_pos (by omega) (ev_opt (q_spec_l1In _ _ _) ?_)
        by_cases hA : 0 ≤ A ∧ A ≤ (s.length : Int) - 1
        · refine ev_pos (by simpa using hA) ?_
          by_cases k1 : 1 < kidsT op
          · refine ev_pos (by omega) (ev_opt (q_spec_l1In _ _ _) ?_)
            by_cases hB : 0 ≤ B ∧ B ≤ (s.length : Int) - 1
            · rw [decide_eq_true hB, if_neg (by omega)]
              exact ev_to (ev_l5Term_j1 s _ _ op A B N (fun _ _ => by omega) (fun _ _ _ => by omega)) (by simp)
            · rw [decide_eq_false hB, if_pos (by omega)]
              exact ev_to (ev_l5Term_j1 s _ _ op A B N (fun e => absurd e (by simp)) (fun e => absurd e (by simp))) (by simp)
          · refine ev_neg (by omega) ?_
            rw [if_neg (by omega)]
            exact ev_to (ev_l5Term_j1 s _ _ op A B N (fun _ _ => by omega) (fun _ _ e => absurd e k1)) (by simp)
        · refine ev_neg (by simpa using hA) ?_
          rw [if_pos (by omega)]
          exact ev_to (ev_l5Term_j1 s _ _ op A B N (fun e => absurd e (by simp)) (fun e => absurd e (by simp))) (by simp)
      · refine ev_neg (by omega) ?_
        refine ev_neg (by omega) ?_
        rw [if_neg (by omega)]
        exact ev_to (ev_l5Term_j1 s _ _ op A B N (fun _ e => absurd (hk6 e) k0) (fun _ e => absurd (hk6 e) k0)) (by simp)
    · refine ev_neg (by simpa using hN) ?_
      rw [if_pos (.inl hN)]
      exact ev_to (ev_l5Term_j1 s _ _ op A B N (fun e => absurd e (by simp)) (fun e => absurd e (by simp))) (by simp)
theorem ev_spec_l5Term (s : List S66) (hs : s.length ≤ 1048576) (t : S66) : Ev (fun k => spec_l5Term.f k s t.f0 t.f1 t.f2 t.f3) (termF s t) := by
  obtain ⟨op, A, B, N⟩ := t
  unfold spec_l5Term.f termF
  dsimp only
  refine ev_opt (q_spec_l1In _ _ _) ?_
  by_cases h : 1 ≤ op ∧ op ≤ 7
  · rw [if_pos h]
    refine ev_pos (by simpa using h) (Ev.bind (ev_spec_l5Kids op) ?_)
    have hj := ev_l5Term_j0 s hs op A B N
    by_cases k0 : 0 < kidsT op
    · refine ev_pos k0 ?_
      by_cases hN : N = 0
      · refine ev_pos hN (ev_neg (by omega) ?_)
        by_cases k2 : kidsT op < 2
        · refine ev_pos k2 (ev_to (hj (B != 0)) ?_)
          by_cases hB : B = 0
          · rw [if_neg (by simp [hB]), if_neg (show ¬ ((0 < kidsT op ∧ N ≠ 0) ∨ (kidsT op < 1 ∧ A ≠ 0) ∨ (kidsT op < 2 ∧ B ≠ 0)) by omega)]
          · rw [if_pos (by simp [hB]), if_pos (by omega)]
        · refine ev_neg k2 (ev_to (hj false) ?_)
          rw [if_neg (by simp), if_neg (show ¬ ((0 < kidsT op ∧ N ≠ 0) ∨ (kidsT op < 1 ∧ A ≠ 0) ∨ (kidsT op < 2 ∧ B ≠ 0)) by omega)]
      · refine ev_neg hN (ev_to (hj true) ?_)
        rw [if_pos rfl, if_pos (by omega)]
    · refine ev_neg k0 (ev_pos (by omega) ?_)
      by_cases hA : A = 0
      · refine ev_pos hA (ev_pos (by omega) (ev_to (hj (B != 0)) ?_))
        by_cases hB : B = 0
        · rw [if_neg (by simp [hB]), if_neg (show ¬ ((0 < kidsT op ∧ N ≠ 0) ∨ (kidsT op < 1 ∧ A ≠ 0) ∨ (kidsT op < 2 ∧ B ≠ 0)) by omega)]
        · rw [if_pos (by simp [hB]), if_pos (by omega)]
      · refine ev_neg hA (ev_to (hj true) ?_)
        rw [if_pos rfl, if_pos (by omega)]
  · rw [if_neg h]
    exact ev_neg (by simpa using h) (ev_some _)

theorem ev_spec_TermsFault (l : List S66) (hl : l.length ≤ 1048576) : Ev (fun k => spec_TermsFault.f k l) (termsF l) := by
  have key : ∀ i, i ≤ l.length → Ev (fun k => spec_TermsFault.l0 k l (i : Nat)) (scanT (l.take i) (l.drop i)) := by
    refine down l.length ?_ ?_
    · rw [List.drop_length, scanT]
      refine Ev.step (fun k => by rw [spec_TermsFault.l0, if_neg (by omega)]) ?_
      exact ev_some _
    · intro i hi ih
      rw [List.drop_eq_getElem_cons hi, scanT, ← List.take_succ_eq_append_getElem hi]
      refine Ev.step (fun k => by rw [spec_TermsFault.l0, if_pos (by omega), if_pos (by omega), if_pos (by omega), rdTerm_nat l i hi, Int.toNat_natCast, w64 (by omega) (by omega)]) ?_
      refine Ev.bind (ev_spec_l5Term (l.take i) (by rw [List.length_take]; omega) l[i]) (ev_cond (fun h => ?_) (fun h => ev_some _))
      obtain ⟨r, hr, hm⟩ := ev_spec_l5Find (l.take i) (by rw [List.length_take]; omega) l[i]
      refine Ev.bind hr ?_
      by_cases g : 0 ≤ r
      · rw [if_pos (hm.mp g)]
        exact ev_pos g (ev_some _)
      · rw [if_neg (fun e => g (hm.mpr e))]
        exact ev_neg g ih
  have h := key 0 (by omega)
  rw [List.take_zero, List.drop_zero] at h
  unfold spec_TermsFault.f termsF
  by_cases h4 : 400 < l.length
  · rw [if_pos h4]
    exact ev_pos (by omega) (ev_some _)
  · rw [if_neg h4]
    exact ev_neg (by omega) h

def askedF (l : List S66) (a : Int) : Int := if termsF l = 0 then (if 0 ≤ a ∧ a < (l.length : Int) then 0 else 3) else termsF l
theorem ev_spec_l5Asked (l : List S66) (hl : l.length ≤ 1048576) (a : Int) : Ev (fun k => spec_l5Asked.f k l a) (askedF l a) := by
  unfold spec_l5Asked.f askedF
  refine Ev.bind (ev_spec_TermsFault l hl) (ev_cond (fun h => ev_opt (q_spec_l5At l hl a) ?_) (fun h => ev_some _))
  by_cases g : 0 ≤ a ∧ a < (l.length : Int)
  · rw [if_pos g]
    exact ev_pos (by simpa using g) (ev_some _)
  · rw [if_neg g]
    exact ev_neg (by simpa using g) (ev_some _)
theorem askedF_ok {l : List S66} {a : Int} (h : askedF l a = 0) : termsF l = 0 ∧ 0 ≤ a ∧ a < (l.length : Int) := by
  unfold askedF at h
  by_cases c : termsF l = 0
  · rw [if_pos c] at h
    by_cases g : 0 ≤ a ∧ a < (l.length : Int)
    · exact ⟨c, g⟩
    · rw [if_neg g] at h
      exact absurd h (by omega)
  · rw [if_neg c] at h
    exact absurd h c

theorem q_places_p (l : List S66) (hl : l.length ≤ 1048576) (a : Int) : impl_placesFault.p l a = some (!decide (0 ≤ a ∧ a < (l.length : Int))) := by
  unfold impl_placesFault.p
  rw [q_isPlace l hl]
  rfl
theorem q_impl_places1 (l : List S66) (hl : l.length ≤ 1048576) (a : Int) : impl_placesFault.f l [a] = some (askedF l a) := by
  unfold impl_placesFault.f askedF
  rw [q_impl_TermsFault l hl, Option.bind_some]
  by_cases c : termsF l = 0
  · rw [if_pos c, if_pos c, idxO, q_places_p l hl, Option.bind_some]
    by_cases g : 0 ≤ a ∧ a < (l.length : Int)
    · rw [decide_eq_true g, Bool.not_true, if_neg (by simp), idxO, Option.bind_some, if_pos g]
      rfl
    · rw [decide_eq_false g, Bool.not_false, if_pos rfl, Option.bind_some, if_neg g]
      rfl
  · rw [if_neg c, if_neg c]
theorem q_szTermS {l : List S68} (h : l.length ≤ 1048576) : laws_szTermS.f l 1048576 = some (1048576 - (l.length : Int)) := by
  unfold laws_szTermS.f
  rw [w64 (by omega) (by omega), if_neg (by omega)]
theorem q_szTermS_big {l : List S68} (h : ¬ l.length ≤ 1048576) (hm : l.length ≤ maxLen) : laws_szTermS.f l 1048576 = some (-1) := by
  unfold laws_szTermS.f
  unfold maxLen at hm
  rw [w64 (by omega) (by omega), if_pos (by omega)]

theorem rdLTerm_nat (l : List S68) (i : Nat) (h : i < l.length) : rd_T68 l i = l[i] := getD_nat l _ i h

def cvTerm (x : S68) : S66 := ⟨x.f0, x.f1, x.f2, x.f3⟩
theorem q_toTerm (a b c d : Int) : laws_toTerm.f a b c d = some (a, b, c, d) := rfl
theorem ev_toTermS {l : List S68} (hn : l.length ≤ 1048576) : Ev (fun k => laws_toTermS.f k l) (l.map cvTerm) := by
  unfold laws_toTermS.f
  refine ev_pos (by omega) (ev_pos (by omega) ?_)
  refine map_loop (fun k b i => laws_toTermS.l0 k l b i) l cvTerm ?_ ?_ _ (by simp)
  · intro k b
    rw [laws_toTermS.l0, if_neg (by omega)]
  · intro k b i h hb
    rw [laws_toTermS.l0, if_pos (by omega), if_pos (by omega), q_toTerm, Option.bind_some, if_pos (by omega), w64 (by omega) (by omega), rdLTerm_nat l i h, Int.toNat_natCast]
    rfl

theorem q_eqTerm (a b c d : Int) : laws_eqTerm.f a b c d a b c d = some true := by
  simp [laws_eqTerm.f]
theorem ev_eqTermS {l : List S66} (hn : l.length ≤ 1048576) : Ev (fun k => laws_eqTermS.f k l l) true := by
  unfold laws_eqTermS.f
  refine ev_pos rfl ?_
  refine count_loop (fun k i => laws_eqTermS.l0 k l l i) l.length true ?_ ?_
  · intro k
    rw [laws_eqTermS.l0, if_neg (by omega)]
  · intro k i h
    rw [laws_eqTermS.l0, if_pos (by omega), if_pos (by omega), if_pos (by omega), q_eqTerm, Option.bind_some, if_pos rfl, w64 (by omega) (by omega)]
    rfl

theorem TermText_both (l : List S66) (hl : l.length ≤ 1048576) (a : Int) : ∃ r, Ev (fun k => spec_TermText.f k l a) r ∧ Ev (fun k => impl_TermText.f k l a) r := by
  by_cases h : askedF l a = 0
  · obtain ⟨ht, h0, h1⟩ := askedF_ok h
    have hs : ∀ {r : Int × ByteArray}, Ev (fun k => if (rd (sizL [] l) a) > 200 then (some (2, (⟨#[]⟩ : ByteArray))) else ((spec_l5Text.f k l a).bind fun t170 => (some (0, t170)))) r → Ev (fun k => spec_TermText.f k l a) r := fun e => by
      unfold spec_TermText.f
      exact Ev.bind (ev_spec_l5Asked l hl a) (ev_pos h (Ev.bind (ev_spec_l5Sizes l ht) (ev_pos h0 (ev_pos (by rw [sizL_len]; simpa using h1) e))))
    have hi : ∀ {r : Int × ByteArray}, Ev (fun k => if (rd (sizL [] l) a) > 200 then (some (2, (⟨#[]⟩ : ByteArray))) else ((impl_termText.f k l a).bind fun t222 => (some (0, t222)))) r → Ev (fun k => impl_TermText.f k l a) r := fun e => by
      unfold impl_TermText.f
      exact ev_opt (q_impl_places1 l hl a) (ev_pos h (Ev.bind (ev_impl_sizes l ht) (ev_pos h0 (ev_pos (by rw [sizL_len]; simpa using h1) e))))
    by_cases c : rd (sizL [] l) a > 200
    · exact ⟨_, hs (ev_pos c (ev_some _)), hi (ev_pos c (ev_some _))⟩
    · have hb := text_both l ht a.toNat (by omega)
      rw [show ((a.toNat : Nat) : Int) = a by omega] at hb
      obtain ⟨r, e1, e2, _⟩ := hb (by omega)
      exact ⟨_, hs (ev_neg c (Ev.bind e1 (ev_some _))), hi (ev_neg c (Ev.bind e2 (ev_some _)))⟩
  · refine ⟨(askedF l a, ⟨#[]⟩), ?_, ?_⟩
    · unfold spec_TermText.f
      exact Ev.bind (ev_spec_l5Asked l hl a) (ev_neg h (ev_some _))
    · unfold impl_TermText.f
      exact ev_opt (q_impl_places1 l hl a) (ev_neg h (ev_some _))
theorem FnExactTermText : laws_FnExactTermText.Pure := by
  intro l a hm
  intros
  apply Ev.rounds
  unfold laws_FnExactTermText.f
  by_cases h : l.length ≤ 1048576
  · have hc : (l.map cvTerm).length ≤ 1048576 := by simpa using h
    obtain ⟨r, h1, h2⟩ := TermText_both _ hc a
    refine ev_opt (q_szTermS h) (ev_neg (by omega) ?_)
    refine Ev.bind (ev_toTermS h) (Ev.bind h1 (Ev.bind (ev_toTermS h) (Ev.bind h2 (ev_opt (a := true) (by simp [laws_eqTextResult.f]) (ev_pos rfl ?_)))))
    exact Ev.bind (ev_toTermS h) (Ev.bind (ev_eqTermS hc) (ev_pos rfl (ev_some _)))
  · exact ev_opt (q_szTermS_big h hm) (ev_pos (by omega) (ev_some _))

end Go.Proofs.YtbficbiignpnoaaDoor.Pure
