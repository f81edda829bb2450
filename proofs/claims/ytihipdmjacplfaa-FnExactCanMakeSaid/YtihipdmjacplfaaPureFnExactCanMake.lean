/- Proved: the law FnExactCanMake answers true at every input that Go can hand in (it says: The program's CanMake returns what the reference's returns, for all arguments.) No condition beyond the statement's own. -/
import Derived.Test.YtihipdmjacplfaaStFnExactCanMake
namespace Go.Proofs.Ytihipdmjacplfaa.Pure
open Go.RowKit Go.Proofs.Ytihipdmjacplfaa.PFnExactCanMake Go.Proofs.YtihipdmjacplfaaW.PrintWords Go.Proofs.YtihipdmjacplfaaW.PrintLast Go.Proofs.YtihipdmjacplfaaW.PrintMore
set_option linter.unusedVariables false
set_option linter.unusedSimpArgs false

theorem w64 {x : Int} (h0 : -9223372036854775808 ≤ x) (h1 : x ≤ 9223372036854775807) : wrap64 x = x := by
  unfold wrap64
  omega
theorem tmod_pos {a b : Int} (h : 0 ≤ a) : Int.tmod a b = a % b := Int.tmod_eq_emod_of_nonneg h
theorem tdiv_pos {a b : Int} (h : 0 ≤ a) : Int.tdiv a b = a / b := Int.tdiv_eq_ediv_of_nonneg h
theorem ev_some {α : Type} (r : α) : Ev (fun _ => some r) r := Ev.now r
theorem ev_pos {α : Type} {c : Prop} [Decidable c] {A B : Nat → Option α} {r : α} (h : c) (e : Ev A r) : Ev (fun k => if c then A k else B k) r := by
  simpa only [if_pos h] using e
theorem ev_neg {α : Type} {c : Prop} [Decidable c] {A B : Nat → Option α} {r : α} (h : ¬ c) (e : Ev B r) : Ev (fun k => if c then A k else B k) r := by
  simpa only [if_neg h] using e
theorem ev_opt {α β : Type} {o : Option α} {f : Nat → α → Option β} {a : α} {r : β} (h : o = some a) (e : Ev (fun n => f n a) r) : Ev (fun n => o.bind (f n)) r := by
  simpa only [h, Option.bind_some] using e
theorem ev_to {α : Type} {g : Nat → Option α} {r r' : α} (e : Ev g r) (h : r = r') : Ev g r' := h ▸ e
theorem ev_fix {α : Type} {o : Option α} {r : α} (h : o = some r) : Ev (fun _ => o) r := ⟨0, fun _ _ => h⟩
theorem rd_nat (l : List Int) (i : Nat) (h : i < l.length) : rd l (i : Int) = l[i] := by
  unfold rd
  simp [List.getD_eq_getElem?_getD, h]
theorem rd_mem (l : List Int) (i : Int) (h0 : 0 ≤ i) (h : i < l.length) : rd l i ∈ l := by
  obtain ⟨n, rfl⟩ := Int.eq_ofNat_of_zero_le h0
  rw [rd_nat l n (by omega)]
  exact List.getElem_mem _
theorem u8_range {x : Int} (h : (Lit.int .u8 x).wf = true) : 0 ≤ x ∧ x ≤ 255 := by
  simp [Lit.wf, IntKind.min, IntKind.max, IntKind.signed, IntKind.bits] at h
  omega
theorem i64_range {x : Int} (h : (Lit.int .i64 x).wf = true) : -9223372036854775808 ≤ x ∧ x ≤ 9223372036854775807 := by
  simp [Lit.wf, IntKind.min, IntKind.max, IntKind.signed, IntKind.bits] at h
  omega
theorem set_mid {α : Type} (a : List α) (x : α) (b : List α) (y : α) : (a ++ x :: b).set a.length y = a ++ y :: b := by simp
theorem take_full {α : Type} {a b : List α} (hl : b.length = a.length) (ht : b.take a.length = a.take a.length) : b = a := by
  rw [List.take_of_length_le (by omega), List.take_of_length_le (by omega)] at ht
  exact ht
theorem take_next {α : Type} {a b : List α} {i : Nat} (ha : i < a.length) (hb : i < b.length) (ht : b.take i = a.take i) (hx : b[i] = a[i]) : b.take (i + 1) = a.take (i + 1) := by
  rw [List.take_succ_eq_append_getElem ha, List.take_succ_eq_append_getElem hb, ht, hx]
theorem ev_cond {α : Type} {c : Prop} [Decidable c] {A B : Nat → Option α} {r r' : α} (hp : c → Ev A r) (hn : ¬ c → Ev B r') : Ev (fun k => if c then A k else B k) (if c then r else r') := by
  by_cases h : c
  · rw [if_pos h]; exact ev_pos h (hp h)
  · rw [if_neg h]; exact ev_neg h (hn h)
theorem set_take {α : Type} {a b : List α} {i : Nat} {x : α} (h : i < a.length) (hl : b.length = a.length) (ht : b.take i = a.take i) (hx : x = a[i]) : (b.set i x).take (i + 1) = a.take (i + 1) := by
  refine take_next h (by simp; omega) ?_ (by simp [hx])
  rw [← ht]
  apply List.ext_getElem?
  intro j
  simp only [List.getElem?_take, List.getElem?_set]
  by_cases hj : j < i
  · rw [if_pos hj, if_pos hj, if_neg (by omega)]
  · rw [if_neg hj, if_neg hj]
theorem ev_succ {α : Type} {g : Nat → Option α} {r : α} (h : ∀ k, g (k + 1) = some r) : Ev g r := Ev.step h (ev_some r)
theorem down {P : Nat → Prop} (n : Nat) (hend : P n) (hstep : ∀ i, i < n → P (i + 1) → P i) : ∀ i, i ≤ n → P i := by
  intro i hi
  obtain ⟨d, hd⟩ : ∃ d, i + d = n := ⟨n - i, by omega⟩
  induction d generalizing i with
  | zero =>
    obtain rfl : i = n := by omega
    exact hend
  | succ d ih => exact hstep i (by omega) (ih (i + 1) (by omega) (by omega))
theorem getD_nat {α : Type} (l : List α) (z : α) (i : Nat) (h : i < l.length) : l.getD (i : Int).toNat z = l[i] := by
  simp [List.getD_eq_getElem?_getD, h]
/-- A loop that writes the image of each element into its place. -/
theorem map_loop {α β : Type} (F : Nat → List β → Int → Option (List β)) (l : List α) (c : α → β)
    (hend : ∀ k (b : List β), F (k + 1) b l.length = some b) (hstep : ∀ k (b : List β) (i : Nat) (h : i < l.length), b.length = l.length → F (k + 1) b i = F k (b.set i (c l[i])) ((i + 1 : Nat) : Int)) :
    ∀ (b : List β), b.length = l.length → Ev (fun k => F k b 0) (l.map c) := by
  have key : ∀ (i : Nat), i ≤ l.length → ∀ (b : List β), b.length = l.length → b.take i = (l.map c).take i → Ev (fun k => F k b i) (l.map c) := by
    refine down l.length ?_ ?_
    · intro b hl ht
      refine Ev.step (fun k => hend k b) ?_
      rw [take_full (a := l.map c) (b := b) (by simpa using hl) (by simpa using ht)]
      exact ev_some _
    · intro i hi ih b hl ht
      refine Ev.step (fun k => hstep k b i hi hl) (ih _ (by simpa using hl) ?_)
      exact set_take (by simpa using hi) (by simpa using hl) ht (by simp)
  intro b hl
  exact key 0 (by omega) b hl (by simp)
/-- A loop that goes through all places and answers r. -/
theorem count_loop {ρ : Type} (F : Nat → Int → Option ρ) (n : Nat) (r : ρ) (hend : ∀ k, F (k + 1) n = some r) (hstep : ∀ k (i : Nat), i < n → F (k + 1) i = F k ((i + 1 : Nat) : Int)) : Ev (fun k => F k 0) r := by
  have key : ∀ i, i ≤ n → Ev (fun k => F k (i : Nat)) r := down n (Ev.step hend (ev_some r)) (fun i hi ih => Ev.step (fun k => hstep k i hi) ih)
  exact key 0 (by omega)

def kidsT (op : Int) : Int := if op = 3 ∨ op = 4 ∨ op = 5 ∨ op = 7 then 2 else if op = 6 then 1 else 0
def termF (s : List S66) (t : S66) : Int :=
  if 1 ≤ t.f0 ∧ t.f0 ≤ 7 then
    (if (0 < kidsT t.f0 ∧ t.f3 ≠ 0) ∨ (kidsT t.f0 < 1 ∧ t.f1 ≠ 0) ∨ (kidsT t.f0 < 2 ∧ t.f2 ≠ 0) then 1
     else if ¬ (0 ≤ t.f3 ∧ t.f3 ≤ 9999) ∨ (0 < kidsT t.f0 ∧ ¬ (0 ≤ t.f1 ∧ t.f1 < s.length)) ∨ (1 < kidsT t.f0 ∧ ¬ (0 ≤ t.f2 ∧ t.f2 < s.length)) then 3
     else if (t.f0 = 6 ∨ t.f0 = 7) ∧ ((rd_T66 s t.f1).f0 ≠ 2 ∨ (1 < kidsT t.f0 ∧ ((rd_T66 s t.f2).f0 ≠ 2 ∨ t.f1 > t.f2))) then 1 else 0)
  else 5

theorem rdTerm_nat (l : List S66) (i : Nat) (h : i < l.length) : rd_T66 l i = l[i] := getD_nat l _ i h
theorem rdTerm_take (l : List S66) (i : Nat) (a : Int) (h0 : 0 ≤ a) (h : a < i) (hi : i ≤ l.length) : rd_T66 (l.take i) a = rd_T66 l a := by
  obtain ⟨n, rfl⟩ := Int.eq_ofNat_of_zero_le h0
  rw [rdTerm_nat _ n (by rw [List.length_take]; omega), rdTerm_nat l n (by omega), List.getElem_take]

def sameT (x y : S66) : Bool := x.f0 == y.f0 && (x.f1 == y.f1 && (x.f2 == y.f2 && x.f3 == y.f3))
theorem ev_spec_l5Find (s : List S66) (hs : s.length ≤ 1048576) (t : S66) : ∃ r, Ev (fun k => spec_l5Find.f k s t.f0 t.f1 t.f2 t.f3) r ∧ (0 ≤ r ↔ s.any (fun x => sameT x t) = true) := by
  have key : ∀ i, i ≤ s.length → ∃ r, Ev (fun k => spec_l5Find.l0 k s (i : Nat) t.f0 t.f1 t.f2 t.f3) r ∧ (0 ≤ r ↔ (s.drop i).any (fun x => sameT x t) = true) := by
    refine down s.length ?_ ?_
    · refine ⟨-1, Ev.step (fun k => by rw [spec_l5Find.l0, if_neg (by omega)]) (ev_some _), ?_⟩
      simp
    · intro i hi ih
      obtain ⟨r, hr, hm⟩ := ih
      rw [List.drop_eq_getElem_cons hi, List.any_cons]
      by_cases h : sameT s[i] t = true
      · refine ⟨(i : Int), Ev.step (fun k => by rw [spec_l5Find.l0, if_pos (by omega), if_pos (by omega), rdTerm_nat s i hi, show (s[i].f0 == t.f0 && (s[i].f1 == t.f1 && (s[i].f2 == t.f2 && s[i].f3 == t.f3))) = true from h, if_pos rfl]) (ev_some _), ?_⟩
        simp [h]
      · refine ⟨r, Ev.step (fun k => by rw [spec_l5Find.l0, if_pos (by omega), if_pos (by omega), rdTerm_nat s i hi, show (s[i].f0 == t.f0 && (s[i].f1 == t.f1 && (s[i].f2 == t.f2 && s[i].f3 == t.f3))) = false from Bool.eq_false_iff.mpr h, if_neg (by simp), w64 (by omega) (by omega)]; rfl) hr, ?_⟩
        simp only [Bool.not_eq_true] at h
        rw [h, Bool.false_or]
        exact hm
  have h := key 0 (by omega)
  rw [List.drop_zero] at h
  exact h

def scanT : List S66 → List S66 → Int
  | _, [] => 0
  | s, t :: ts => if termF s t = 0 then (if s.any (fun x => sameT x t) = true then 7 else scanT (s ++ [t]) ts) else termF s t
def termsF (l : List S66) : Int := if 400 < l.length then 2 else scanT [] l

theorem q_impl_in (a b c : Int) : impl_in.f a b c = some (decide (b ≤ a ∧ a ≤ c)) := by
  unfold impl_in.f
  by_cases h : b ≤ a
  · simp [h]
  · simp [h]

theorem q_isPlace (s : List S66) (hs : s.length ≤ 1048576) (a : Int) : impl_isPlace.f s a = some (decide (0 ≤ a ∧ a < (s.length : Int))) := by
  unfold impl_isPlace.f
  rw [q_impl_in, Option.bind_some, w64 (by omega) (by omega)]
  congr 2
  simp only [eq_iff_iff]
  omega
theorem q_names12 {op : Int} (h : op = 1 ∨ op = 2) : impl_namesOf.f 9 op = some (false, false, true) := by
  rcases h with rfl | rfl <;> rfl
theorem q_names6 : impl_namesOf.f 9 6 = some (true, false, false) := rfl
theorem q_namesP {op : Int} (h1 : op ≠ 1) (h2 : op ≠ 2) (h6 : op ≠ 6) : impl_namesOf.f 9 op = some (true, true, false) := by
  simp [impl_namesOf.f, impl_namesOf.j0, h1, h2, h6]
theorem q_impl_fault (s : List S66) (hs : s.length ≤ 1048576) (t : S66) : impl_Term_fault.f t.f0 t.f1 t.f2 t.f3 s = some (termF s t) := by
  obtain ⟨op, A, B, N⟩ := t
  have hp1 : ∀ a, impl_Term_fault.p1 s a = some (!decide (0 ≤ a ∧ a < (s.length : Int))) := fun a => by
    rw [impl_Term_fault.p1, q_isPlace s hs]
    rfl
  have hp2 : ∀ a, 0 ≤ a ∧ a < (s.length : Int) → impl_Term_fault.p2 s a = some ((rd_T66 s a).f0 != 2) := fun a h => by
    rw [impl_Term_fault.p2, if_pos h.1, if_pos h.2]
  unfold impl_Term_fault.f termF
  dsimp only
  rw [q_impl_in, Option.bind_some]
  by_cases h12 : op = 1 ∨ op = 2
  · have hk : kidsT op = 0 := by
      unfold kidsT
      rw [if_neg (by omega), if_neg (by omega)]
    have hps : impl_Term_parts.f 9 op A B N = some [] := by rw [impl_Term_parts.f, q_names12 h12]; rfl
    rw [q_names12 h12, Option.bind_some, q_impl_in, Option.bind_some, hps, Option.bind_some, idxO, Option.bind_some, if_neg (by omega), idxO, Option.bind_some, hk]
    refine congrArg some ?_
    simp only [impl_Term_fault.r, decide_eq_true_eq, true_and, reduceCtorEq, false_and, or_false, false_or]
    (repeat' split) <;> (first | omega | simp_all)
  · by_cases h6 : op = 6
    · subst h6
      have hk : kidsT 6 = 1 := rfl
      have hps : impl_Term_parts.f 9 6 A B N = some [A] := by rw [impl_Term_parts.f, q_names6]; rfl
      rw [q_names6, Option.bind_some, q_impl_in, Option.bind_some, hps, Option.bind_some, idxO, hp1, Option.bind_some, hk]
      by_cases ha : 0 ≤ A ∧ A < (s.length : Int)
      · rw [decide_eq_true ha, Bool.not_true, if_neg (by simp), idxO, Option.bind_some, if_neg (by omega), idxO, hp2 A ha, Option.bind_some]
        by_cases g : (rd_T66 s A).f0 = 2
        · rw [if_neg (by simp [g]), idxO, Option.bind_some]
          refine congrArg some ?_
          simp only [impl_Term_fault.r, decide_eq_true_eq, true_and, reduceCtorEq, false_and, or_false, false_or]
          (repeat' split) <;> (first | omega | simp_all)
        · rw [if_pos (by simp [g]), Option.bind_some]
          refine congrArg some ?_
          simp only [impl_Term_fault.r, decide_eq_true_eq, true_and, reduceCtorEq, false_and, or_false, false_or]
          (repeat' split) <;> (first | omega | simp_all)
      · rw [decide_eq_false ha, Bool.not_false, if_pos rfl, Option.bind_some, if_pos (by omega), Option.bind_some]
        refine congrArg some ?_
        simp only [impl_Term_fault.r, decide_eq_true_eq, true_and, reduceCtorEq, false_and, or_false, false_or]
        (repeat' split) <;> (first | omega | simp_all)
    · have hps : impl_Term_parts.f 9 op A B N = some [A, B] := by rw [impl_Term_parts.f, q_namesP (by omega) (by omega) h6]; rfl
      have hk : 1 ≤ op ∧ op ≤ 7 → kidsT op = 2 := by
        intro h
        unfold kidsT
        rw [if_pos (by omega)]
      rw [q_namesP (by omega) (by omega) h6, Option.bind_some, q_impl_in, Option.bind_some, hps, Option.bind_some, idxO, hp1, Option.bind_some]
      have fin : ∀ (i j : Int), (1 ≤ op ∧ op ≤ 7 → (0 ≤ i ↔ ¬ ((0 ≤ A ∧ A < (s.length : Int)) ∧ (0 ≤ B ∧ B < (s.length : Int))))) → (¬ 0 ≤ i → (0 ≤ j ↔ (rd_T66 s A).f0 ≠ 2 ∨ (rd_T66 s B).f0 ≠ 2)) →
          impl_Term_fault.r op A B N (decide (1 ≤ op ∧ op ≤ 7)) true true false (decide (0 ≤ N ∧ N ≤ 9999)) i j = (if 1 ≤ op ∧ op ≤ 7 then
    (if (0 < kidsT op ∧ N ≠ 0) ∨ (kidsT op < 1 ∧ A ≠ 0) ∨ (kidsT op < 2 ∧ B ≠ 0) then 1
     else if ¬ (0 ≤ N ∧ N ≤ 9999) ∨ (0 < kidsT op ∧ ¬ (0 ≤ A ∧ A < s.length)) ∨ (1 < kidsT op ∧ ¬ (0 ≤ B ∧ B < s.length)) then 3
     else if (op = 6 ∨ op = 7) ∧ ((rd_T66 s A).f0 ≠ 2 ∨ (1 < kidsT op ∧ ((rd_T66 s B).f0 ≠ 2 ∨ A > B))) then 1 else 0)
  else 5) := by
        intro i j hi hj
        by_cases h : 1 ≤ op ∧ op ≤ 7
        · have hi := hi h
          rw [hk h]
          simp only [impl_Term_fault.r, decide_eq_true_eq, true_and, reduceCtorEq, false_and, or_false, false_or]
          (repeat' split) <;> (first | omega | simp_all)
        · simp only [impl_Term_fault.r, decide_eq_true_eq, true_and, reduceCtorEq, false_and, or_false, false_or]
          rw [if_neg h, if_neg h]
      by_cases ha : 0 ≤ A ∧ A < (s.length : Int)
      · rw [decide_eq_true ha, Bool.not_true, if_neg (by simp), idxO, hp1, Option.bind_some]
        by_cases hb : 0 ≤ B ∧ B < (s.length : Int)
        · rw [decide_eq_true hb, Bool.not_true, if_neg (by simp), idxO, Option.bind_some, if_neg (by omega), idxO, hp2 A ha, Option.bind_some]
          by_cases g : (rd_T66 s A).f0 = 2
          · rw [if_neg (by simp [g]), idxO, hp2 B hb, Option.bind_some]
            by_cases g2 : (rd_T66 s B).f0 = 2
            · rw [if_neg (by simp [g2]), idxO, Option.bind_some, fin _ _ (fun _ => by omega) (fun _ => by simp [g, g2])]
            · rw [if_pos (by simp [g2]), Option.bind_some, fin _ _ (fun _ => by omega) (fun _ => by simp [g, g2])]
          · rw [if_pos (by simp [g]), Option.bind_some, fin _ _ (fun _ => by omega) (fun _ => by simp [g])]
        · rw [decide_eq_false hb, Bool.not_false, if_pos rfl, Option.bind_some, if_pos (by omega), Option.bind_some, fin _ _ (fun _ => by omega) (fun h => absurd (by omega) h)]
      · rw [decide_eq_false ha, Bool.not_false, if_pos rfl, Option.bind_some, if_pos (by omega), Option.bind_some, fin _ _ (fun _ => by omega) (fun h => absurd (by omega) h)]

theorem termF_ok {s : List S66} {t : S66} (h : termF s t = 0) : (1 ≤ t.f0 ∧ t.f0 ≤ 7) ∧ (0 < kidsT t.f0 → t.f3 = 0 ∧ 0 ≤ t.f1 ∧ t.f1 < s.length) ∧ (kidsT t.f0 < 1 → t.f1 = 0) ∧ (kidsT t.f0 < 2 → t.f2 = 0) ∧ (1 < kidsT t.f0 → 0 ≤ t.f2 ∧ t.f2 < s.length) ∧ 0 ≤ t.f3 ∧ t.f3 ≤ 9999 ∧
    (t.f0 = 6 ∨ t.f0 = 7 → (rd_T66 s t.f1).f0 = 2) ∧ (t.f0 = 7 → (rd_T66 s t.f2).f0 = 2 ∧ t.f1 ≤ t.f2) := by
  have hk7 : t.f0 = 7 → kidsT t.f0 = 2 := fun e => by rw [e]; rfl
  unfold termF at h
  by_cases c0 : 1 ≤ t.f0 ∧ t.f0 ≤ 7
  · rw [if_pos c0] at h
    by_cases c1 : (0 < kidsT t.f0 ∧ t.f3 ≠ 0) ∨ (kidsT t.f0 < 1 ∧ t.f1 ≠ 0) ∨ (kidsT t.f0 < 2 ∧ t.f2 ≠ 0)
    · rw [if_pos c1] at h
      exact absurd h (by omega)
    · rw [if_neg c1] at h
      by_cases c2 : ¬ (0 ≤ t.f3 ∧ t.f3 ≤ 9999) ∨ (0 < kidsT t.f0 ∧ ¬ (0 ≤ t.f1 ∧ t.f1 < s.length)) ∨ (1 < kidsT t.f0 ∧ ¬ (0 ≤ t.f2 ∧ t.f2 < s.length))
      · rw [if_pos c2] at h
        exact absurd h (by omega)
      · rw [if_neg c2] at h
        by_cases c3 : (t.f0 = 6 ∨ t.f0 = 7) ∧ ((rd_T66 s t.f1).f0 ≠ 2 ∨ (1 < kidsT t.f0 ∧ ((rd_T66 s t.f2).f0 ≠ 2 ∨ t.f1 > t.f2)))
        · rw [if_pos c3] at h
          exact absurd h (by omega)
        · refine ⟨c0, ?_, ?_, ?_, ?_, ?_, ?_, ?_, ?_⟩ <;> omega
  · rw [if_neg c0] at h
    exact absurd h (by omega)
theorem sameT_eqT (x t : S66) : eqT t x = sameT x t := by
  unfold eqT sameT
  rw [Bool.eq_iff_iff]
  simp
  constructor
  · rintro ⟨h1, h2, h3, h4⟩
    exact ⟨h1.symm, h2.symm, h3.symm, h4.symm⟩
  · rintro ⟨h1, h2, h3, h4⟩
    exact ⟨h1.symm, h2.symm, h3.symm, h4.symm⟩
theorem q_TermsFault_l : ∀ (ts s : List S66), s.length + ts.length ≤ 1048576 → impl_TermsFault.l s ts = some (scanT s ts)
  | [], _, _ => by rw [impl_TermsFault.l, scanT]
  | t :: ts, s, h => by
    rw [List.length_cons] at h
    rw [impl_TermsFault.l, q_impl_fault s (by omega) t, Option.bind_some, scanT]
    by_cases c : termF s t = 0
    · have hk := termF_ok c
      have hr : okT t = true := by
        unfold okT okI
        simp only [Bool.and_eq_true, decide_eq_true_eq]
        have h0 := hk.1
        by_cases k0 : 0 < kidsT t.f0 <;> by_cases k1 : 1 < kidsT t.f0 <;> omega
      rw [if_pos c, if_pos c, if_pos hr]
      have ha : s.any (eqT t) = s.any (fun x => sameT x t) := by
        congr 1
        funext x
        exact sameT_eqT x t
      rw [ha]
      by_cases g : s.any (fun x => sameT x t) = true
      · rw [if_pos g, if_pos g]
      · rw [if_neg g, if_neg g]
        exact q_TermsFault_l ts _ (by rw [List.length_append, List.length_singleton]; omega)
    · rw [if_neg c, if_neg c]
theorem q_impl_TermsFault (l : List S66) (hl : l.length ≤ 1048576) : impl_TermsFault.f l = some (termsF l) := by
  unfold impl_TermsFault.f termsF
  by_cases h : 400 < l.length
  · rw [if_pos h, if_pos h]
  · rw [if_neg h, if_neg h, q_TermsFault_l l [] (by simpa using hl)]

theorem scanT_ok : ∀ (ts s : List S66), scanT s ts = 0 → ∀ i (h : i < ts.length), termF (s ++ ts.take i) ts[i] = 0
  | [], _, _, i, h => absurd h (by simp)
  | t :: ts, s, e, i, h => by
    rw [scanT] at e
    by_cases c : termF s t = 0
    · rw [if_pos c] at e
      by_cases g : s.any (fun x => sameT x t) = true
      · rw [if_pos g] at e
        exact absurd e (by omega)
      · rw [if_neg g] at e
        cases i with
        | zero => simpa using c
        | succ i =>
          have := scanT_ok ts (s ++ [t]) e i (by simpa using h)
          simpa using this
    · rw [if_neg c] at e
      exact absurd e c
theorem termsF_ok {l : List S66} (h : termsF l = 0) : l.length ≤ 400 ∧ ∀ i (h : i < l.length), termF (l.take i) l[i] = 0 := by
  unfold termsF at h
  by_cases c : 400 < l.length
  · rw [if_pos c] at h
    exact absurd h (by omega)
  · rw [if_neg c] at h
    refine ⟨by omega, fun i hi => ?_⟩
    have := scanT_ok l [] h i hi
    simpa using this
theorem kids_cases (op : Int) : kidsT op = 0 ∨ kidsT op = 1 ∨ kidsT op = 2 := by
  unfold kidsT
  split
  · exact .inr (.inr rfl)
  · split
    · exact .inr (.inl rfl)
    · exact .inl rfl
/-- What is known of a term of a right table: its parts stand ahead of it. -/
theorem term_parts {l : List S66} (h : termsF l = 0) (i : Nat) (hi : i < l.length) : (1 ≤ l[i].f0 ∧ l[i].f0 ≤ 7) ∧ (0 < kidsT l[i].f0 → 0 ≤ l[i].f1 ∧ l[i].f1 < (i : Int)) ∧ (1 < kidsT l[i].f0 → 0 ≤ l[i].f2 ∧ l[i].f2 < (i : Int)) := by
  have hk := termF_ok ((termsF_ok h).2 i hi)
  have hl : (l.take i).length = i := by rw [List.length_take]; omega
  rw [hl] at hk
  exact ⟨hk.1, fun e => ⟨(hk.2.1 e).2.1, (hk.2.1 e).2.2⟩, hk.2.2.2.2.1⟩

def scanK (n : Int) : Option Int → List Int → Int
  | _, [] => 0
  | p, x :: xs => if 0 ≤ x ∧ x < n then (if (∃ y, p = some y ∧ x ≤ y) then 1 else scanK n (some x) xs) else 3
def prevK (ks : List Int) (i : Nat) : Option Int := if i = 0 then none else ks[i - 1]?
def knownF (l : List S66) (ks : List Int) : Int := if termsF l = 0 then (if 400 < ks.length then 2 else scanK l.length none ks) else termsF l
theorem prevK_zero (ks : List Int) : prevK ks 0 = none := rfl
theorem prevK_succ (ks : List Int) (i : Nat) (h : i < ks.length) : prevK ks (i + 1) = some ks[i] := by
  unfold prevK
  rw [if_neg (by omega), Nat.add_sub_cancel, List.getElem?_eq_getElem h]
theorem prevK_pos (ks : List Int) (i : Nat) (h : i < ks.length) (h0 : 0 < i) : prevK ks i = some (ks[i - 1]) := by
  unfold prevK
  rw [if_neg (by omega), List.getElem?_eq_getElem (by omega)]

theorem scanK_ok (n : Int) : ∀ (ks : List Int) (p : Option Int), scanK n p ks = 0 → ∀ x ∈ ks, 0 ≤ x ∧ x < n
  | [], _, _, x, hx => absurd hx (by simp)
  | y :: ys, p, h, x, hx => by
    rw [scanK] at h
    by_cases g : 0 ≤ y ∧ y < n
    · rw [if_pos g] at h
      by_cases c : ∃ z, p = some z ∧ y ≤ z
      · rw [if_pos c] at h
        exact absurd h (by omega)
      · rw [if_neg c] at h
        rcases List.mem_cons.mp hx with rfl | hx
        · exact g
        · exact scanK_ok n ys _ h x hx
    · rw [if_neg g] at h
      exact absurd h (by omega)
theorem knownF_ok {l : List S66} {ks : List Int} (h : knownF l ks = 0) : termsF l = 0 ∧ ks.length ≤ 400 ∧ ∀ x ∈ ks, 0 ≤ x ∧ x < (l.length : Int) := by
  unfold knownF at h
  by_cases c : termsF l = 0
  · rw [if_pos c] at h
    by_cases g : 400 < ks.length
    · rw [if_pos g] at h
      exact absurd h (by omega)
    · rw [if_neg g] at h
      exact ⟨c, by omega, scanK_ok _ ks _ h⟩
  · rw [if_neg c] at h
    exact absurd h c

def setL (b : List Bool) (ks : List Int) : List Bool := ks.foldl (fun b p => b.set p.toNat true) b
theorem setL_len : ∀ (ks : List Int) (b : List Bool), (setL b ks).length = b.length
  | [], _ => rfl
  | p :: ps, b => (setL_len ps (b.set p.toNat true)).trans List.length_set
def flagsL (n : Nat) (ks : List Int) : List Bool := setL (List.replicate n false) ks
theorem flagsL_len (n : Nat) (ks : List Int) : (flagsL n ks).length = n := by rw [flagsL, setL_len, List.length_replicate]
theorem rdOf_nat' (l : List Bool) (i : Nat) (h : i < l.length) : rdOf false l (i : Int) = l[i] := by
  unfold rdOf
  simp [List.getD_eq_getElem?_getD, h]
theorem rdOf_append (a b : List Bool) (x : Int) (h0 : 0 ≤ x) (h1 : x < (a.length : Int)) : rdOf false (a ++ b) x = rdOf false a x := by
  obtain ⟨n, rfl⟩ := Int.eq_ofNat_of_zero_le h0
  rw [rdOf_nat' _ n (by rw [List.length_append]; omega), rdOf_nat' _ n (by omega), List.getElem_append_left (by omega)]

theorem ev_impl_flags (l : List S66) (hl : l.length ≤ 1048576) (ks : List Int) (hk : ks.length ≤ 1048576) (hr : ∀ x ∈ ks, 0 ≤ x ∧ x < (l.length : Int)) : Ev (fun k => impl_flags.f k l ks) (flagsL l.length ks) := by
  have key : ∀ i, i ≤ ks.length → ∀ b : List Bool, b.length = l.length → Ev (fun k => impl_flags.l0 k b ks ks.length (i : Nat)) (setL b (ks.drop i)) := by
    refine down ks.length ?_ ?_
    · intro b _
      rw [List.drop_length]
      exact Ev.step (fun k => by rw [impl_flags.l0, if_neg (by omega)]; rfl) (ev_some _)
    · intro i hi ih b hb
      have h := hr _ (List.getElem_mem hi)
      rw [List.drop_eq_getElem_cons hi]
      refine Ev.step (fun k => by rw [impl_flags.l0, if_pos (by omega), if_pos (by omega), if_pos (by omega), rd_nat ks i hi, if_pos h.1, if_pos (by omega), w64 (by omega) (by omega)]) ?_
      exact ih (b.set ks[i].toNat true) (by rw [List.length_set]; exact hb)
  have h := key 0 (by omega) (List.replicate l.length false) (by simp)
  unfold impl_flags.f
  rw [Int.toNat_natCast]
  exact ev_pos (by omega) (ev_pos (by omega) h)

def mkV (S : List Int) (o : List Bool) (b : Bool) (t : S66) : Bool :=
  b || cond (t.f0 == 1) true (cond (t.f0 == 3 || (t.f0 == 4 || t.f0 == 5)) (rdOf false o t.f1 && rdOf false o t.f2) (cond (t.f0 == 6) (rdOf false o t.f1) (cond (t.f0 == 7) ((rdOf false o t.f1 && (rdOf false o t.f2 || decide (t.f2 ∈ S))) || (rdOf false o t.f2 && decide (t.f1 ∈ S))) false)))
def mkA (l : List S66) (f : List Bool) (S : List Int) : Nat → List Bool
  | 0 => []
  | k + 1 => mkA l f S k ++ [mkV S (mkA l f S k) (rdOf false f (k : Int)) (rd_T66 l (k : Int))]
theorem mkA_len (l : List S66) (f : List Bool) (S : List Int) : ∀ k, (mkA l f S k).length = k
  | 0 => rfl
  | k + 1 => by rw [mkA, List.length_append, List.length_singleton, mkA_len l f S k]
def halvesL (l : List S66) (f : List Bool) : Nat → List Int
  | 0 => []
  | k + 1 => if (rd_T66 l (k : Int)).f0 = 6 ∧ rdOf false f (k : Int) = true then halvesL l f k ++ [(rd_T66 l (k : Int)).f1] else halvesL l f k
def mkF (l : List S66) (f : List Bool) : List Bool := mkA l f (halvesL l f l.length) l.length
theorem mkF_len (l : List S66) (f : List Bool) : (mkF l f).length = l.length := mkA_len _ _ _ _
theorem kids2 (op : Int) : (op = 3 ∨ op = 4 ∨ op = 5 ∨ op = 7 → kidsT op = 2) ∧ (op = 6 → kidsT op = 1) := by
  unfold kidsT
  constructor
  · intro h
    rw [if_pos h]
  · rintro rfl
    simp
theorem term_range {l : List S66} (h : termsF l = 0) (i : Nat) (hi : i < l.length) : (1 ≤ l[i].f0 ∧ l[i].f0 ≤ 7) ∧ (l[i].f0 = 3 ∨ l[i].f0 = 4 ∨ l[i].f0 = 5 ∨ l[i].f0 = 6 ∨ l[i].f0 = 7 → 0 ≤ l[i].f1 ∧ l[i].f1 < (i : Int)) ∧ (l[i].f0 = 3 ∨ l[i].f0 = 4 ∨ l[i].f0 = 5 ∨ l[i].f0 = 7 → 0 ≤ l[i].f2 ∧ l[i].f2 < (i : Int)) := by
  obtain ⟨h1, h2, h3⟩ := term_parts h i hi
  obtain ⟨k2, k1⟩ := kids2 l[i].f0
  refine ⟨h1, fun e => ?_, fun e => ?_⟩
  · by_cases h6 : l[i].f0 = 6
    · exact h2 (by rw [k1 h6]; omega)
    · exact h2 (by rw [k2 (by omega)]; omega)
  · exact h3 (by rw [k2 e]; omega)

theorem s0_halves (l : List S66) (f : List Bool) : ∀ k, impl_makeable.s0 l f k = halvesL l f k
  | 0 => rfl
  | k + 1 => by rw [impl_makeable.s0, halvesL, s0_halves l f k]
theorem q_impl_makeable (l : List S66) (ht : termsF l = 0) (f : List Bool) (hf : f.length = l.length) : impl_makeable.f l f = some (mkF l f) := by
  have hl := (termsF_ok ht).1
  have hall : l.all (impl_makeable.okR l.length) = true := by
    rw [List.all_eq_true]
    intro x hx
    obtain ⟨i, hi, rfl⟩ := List.getElem_of_mem hx
    obtain ⟨_, h2, h3⟩ := term_range ht i hi
    exact decide_eq_true ⟨fun e => by have := h2 e; omega, fun e => by have := h3 e; omega⟩
  unfold impl_makeable.f
  rw [if_pos ⟨hl, hf, hall⟩, s0_halves]
  have key : ∀ k, k ≤ l.length → impl_makeable.l0 l f (halvesL l f l.length) k = mkA l f (halvesL l f l.length) k ++ List.replicate (l.length - k) false := by
    intro k
    induction k with
    | zero => intro _; rfl
    | succ k ih =>
      intro hk
      have hlen := mkA_len l f (halvesL l f l.length) k
      rw [impl_makeable.l0, ih (by omega), mkA, rdTerm_nat l k (by omega)]
      obtain ⟨h1, h2, h3⟩ := term_range ht k (by omega)
      have hv : (impl_makeable.r (halvesL l f l.length) (mkA l f (halvesL l f l.length) k ++ List.replicate (l.length - k) false) (k : Int) l[k] || rdOf false f (k : Int)) = mkV (halvesL l f l.length) (mkA l f (halvesL l f l.length) k) (rdOf false f (k : Int)) l[k] := by
        unfold impl_makeable.r mkV
        rw [Bool.or_comm]
        congr 1
        have hN : rdOf false (mkA l f (halvesL l f l.length) k ++ List.replicate (l.length - k) false) (k : Int) = false := by
          rw [rdOf_nat' _ k (by rw [List.length_append, List.length_replicate]; omega), List.getElem_append_right (by omega)]
          simp
        rw [hN]
        have hA : l[k].f0 = 3 ∨ l[k].f0 = 4 ∨ l[k].f0 = 5 ∨ l[k].f0 = 6 ∨ l[k].f0 = 7 → rdOf false (mkA l f (halvesL l f l.length) k ++ List.replicate (l.length - k) false) l[k].f1 = rdOf false (mkA l f (halvesL l f l.length) k) l[k].f1 := fun e => rdOf_append _ _ _ (h2 e).1 (by have := (h2 e).2; omega)
        have hB : l[k].f0 = 3 ∨ l[k].f0 = 4 ∨ l[k].f0 = 5 ∨ l[k].f0 = 7 → rdOf false (mkA l f (halvesL l f l.length) k ++ List.replicate (l.length - k) false) l[k].f2 = rdOf false (mkA l f (halvesL l f l.length) k) l[k].f2 := fun e => rdOf_append _ _ _ (h3 e).1 (by have := (h3 e).2; omega)
        obtain e | e | e | e | e | e | e : l[k].f0 = 1 ∨ l[k].f0 = 2 ∨ l[k].f0 = 3 ∨ l[k].f0 = 4 ∨ l[k].f0 = 5 ∨ l[k].f0 = 6 ∨ l[k].f0 = 7 := by omega
        · simp [e]
        · simp [e]
        · simp [e, hA (by omega), hB (by omega)]
        · simp [e, hA (by omega), hB (by omega)]
        · simp [e, hA (by omega), hB (by omega)]
        · simp [e, hA (by omega)]
        · simp [e, hA (by omega), hB (by omega)]
      rw [hv]
      obtain ⟨d, hd⟩ : ∃ d, l.length - k = d + 1 := ⟨l.length - k - 1, by omega⟩
      rw [hd, show l.length - (k + 1) = d by omega, List.replicate_succ]
      have := set_mid (mkA l f (halvesL l f l.length) k) false (List.replicate d false) (mkV (halvesL l f l.length) (mkA l f (halvesL l f l.length) k) (rdOf false f (k : Int)) l[k])
      rw [hlen] at this
      rw [this, List.append_assoc, List.singleton_append]
  rw [key l.length (Nat.le_refl _), Nat.sub_self, List.replicate_zero, List.append_nil]
  rfl

theorem ev_l6Make_l2 (l : List S66) (ht : termsF l = 0) (f : List Bool) (hf : f.length = l.length) (S : List Int) (hv : List Bool) (hh : hv.length = l.length) (hS : ∀ x : Int, 0 ≤ x → x < (l.length : Int) → rdOf false hv x = decide (x ∈ S)) :
    ∀ i, i ≤ l.length → Ev (fun k => spec_l6Make.l2 k l (mkA l f S i ++ f.drop i) hv (i : Nat)) (mkA l f S l.length) := by
  have hl := (termsF_ok ht).1
  refine down l.length ?_ ?_
  · refine Ev.step (fun k => by rw [spec_l6Make.l2, if_neg (by omega)]) ?_
    rw [← hf, List.drop_length, List.append_nil]
    exact ev_some _
  · intro i hi ih
    have hlen := mkA_len l f S i
    have hlen2 : (mkA l f S i ++ f.drop i).length = l.length := by rw [List.length_append, List.length_drop]; omega
    obtain ⟨h1, h2, h3⟩ := term_range ht i hi
    have hrd : rdOf false f (i : Int) = f[i] := rdOf_nat' f i (by omega)
    have hset : ∀ v : Bool, v = mkV S (mkA l f S i) f[i] l[i] → Ev (fun k => spec_l6Make.l2 k l ((mkA l f S i ++ f.drop i).set i v) hv ((i : Int) + 1)) (mkA l f S l.length) := by
      rintro v rfl
      have := set_mid (mkA l f S i) f[i] (f.drop (i + 1)) (mkV S (mkA l f S i) f[i] l[i])
      rw [hlen] at this
      rw [List.drop_eq_getElem_cons (by omega : i < f.length), this, ← List.singleton_append, ← List.append_assoc, ← rdTerm_nat l i hi, ← hrd]
      exact ih
    have hkeep : f[i] = mkV S (mkA l f S i) f[i] l[i] → Ev (fun k => spec_l6Make.l2 k l (mkA l f S i ++ f.drop i) hv ((i : Int) + 1)) (mkA l f S l.length) := by
      intro e
      have h5 : (mkA l f S i ++ f.drop i).set i f[i] = mkA l f S i ++ f.drop i := by
        have h6 := set_mid (mkA l f S i) f[i] (f.drop (i + 1)) f[i]
        rw [hlen] at h6
        rw [List.drop_eq_getElem_cons (by omega : i < f.length)]
        exact h6
      have h7 := hset f[i] e
      rw [h5] at h7
      exact h7
    have hN : rdOf false (mkA l f S i ++ f.drop i) (i : Int) = f[i] := by
      rw [rdOf_nat' _ i (by omega), List.getElem_append_right (by omega)]
      simp [hlen]
    have hA : ∀ x : Int, 0 ≤ x → x < (i : Int) → rdOf false (mkA l f S i ++ f.drop i) x = rdOf false (mkA l f S i) x := fun x g0 g1 => rdOf_append _ _ _ g0 (by omega)
    refine Ev.step (fun k => by rw [spec_l6Make.l2, if_pos (by omega), if_pos (by omega), rdTerm_nat l i hi, w64 (by omega) (by omega), Int.toNat_natCast]) ?_
    generalize hx : l[i] = x at *
    have hj3 : ∀ b : Bool, b = (x.f0 == 3 || (x.f0 == 4 || x.f0 == 5)) → x.f0 ≠ 1 → Ev (fun k => spec_l6Make.j3 k l (mkA l f S i ++ f.drop i) hv (i : Int) x.f0 b x.f0 x.f1 x.f2 x.f3) (mkA l f S l.length) := by
      intro b hb n1
      refine Ev.step (fun k => by rw [spec_l6Make.j3, hN, w64 (by omega) (by omega), Int.toNat_natCast]) ?_
      by_cases h345 : x.f0 = 3 ∨ x.f0 = 4 ∨ x.f0 = 5
      · have hb1 : b = true := by rw [hb]; simp; omega
        have e0 : (x.f0 == 3 || (x.f0 == 4 || x.f0 == 5)) = true := by simp; omega
        have e1 : (x.f0 == 1) = false := by simp; omega
        have g2 := h2 (by omega)
        have g3 := h3 (by omega)
        have hm : mkV S (mkA l f S i) f[i] x = (f[i] || (rdOf false (mkA l f S i) x.f1 && rdOf false (mkA l f S i) x.f2)) := by unfold mkV; rw [e1, e0]; rfl
        refine ev_pos hb1 (ev_pos (by omega) (ev_pos (by omega) ?_))
        by_cases hf1 : f[i] = true
        · exact ev_pos hf1 (hset true (by rw [hm, hf1]; rfl))
        · refine ev_neg hf1 (ev_pos g2.1 (ev_pos (by omega) ?_))
          rw [hA _ g2.1 g2.2]
          have hf0 : f[i] = false := by simpa using hf1
          by_cases ha : rdOf false (mkA l f S i) x.f1 = true
          · refine ev_pos ha (ev_pos g3.1 (ev_pos (by omega) ?_))
            rw [hA _ g3.1 g3.2]
            exact hset _ (by rw [hm, hf0, ha]; rfl)
          · have ha0 : rdOf false (mkA l f S i) x.f1 = false := by simpa using ha
            exact ev_neg ha (hset false (by rw [hm, hf0, ha0]; rfl))
      · have hb0 : b = false := by rw [hb]; simp; omega
        have e0 : (x.f0 == 3 || (x.f0 == 4 || x.f0 == 5)) = false := by simp; omega
        have e1 : (x.f0 == 1) = false := by simp; omega
        refine ev_neg (by rw [hb0]; simp) ?_
        by_cases h6 : x.f0 = 6
        · have g2 := h2 (by omega)
          have hm : mkV S (mkA l f S i) f[i] x = (f[i] || rdOf false (mkA l f S i) x.f1) := by unfold mkV; rw [e1, e0, show (x.f0 == 6) = true by simp [h6]]; rfl
          refine ev_pos h6 (ev_pos (by omega) (ev_pos (by omega) ?_))
          by_cases hf1 : f[i] = true
          · exact ev_pos hf1 (hset true (by rw [hm, hf1]; rfl))
          · have hf0 : f[i] = false := by simpa using hf1
            refine ev_neg hf1 (ev_pos g2.1 (ev_pos (by omega) ?_))
            rw [hA _ g2.1 g2.2]
            exact hset _ (by rw [hm, hf0]; rfl)
        · have e6 : (x.f0 == 6) = false := by simp [h6]
          refine ev_neg h6 ?_
          by_cases h7 : x.f0 = 7
          · have g2 := h2 (by omega)
            have g3 := h3 (by omega)
            have s1 := hS x.f1 g2.1 (by omega)
            have s2 := hS x.f2 g3.1 (by omega)
            have hm : mkV S (mkA l f S i) f[i] x = (f[i] || ((rdOf false (mkA l f S i) x.f1 && (rdOf false (mkA l f S i) x.f2 || decide (x.f2 ∈ S))) || (rdOf false (mkA l f S i) x.f2 && decide (x.f1 ∈ S)))) := by unfold mkV; rw [e1, e0, e6, show (x.f0 == 7) = true by simp [h7]]; rfl
            refine ev_pos h7 (ev_pos g2.1 (ev_pos (by omega) (ev_pos g3.1 (ev_pos (by omega) (ev_pos (by omega) (ev_pos (by omega) ?_))))))
            rw [hA _ g2.1 g2.2, hA _ g3.1 g3.2]
            by_cases hf1 : f[i] = true
            · exact ev_pos hf1 (hset true (by rw [hm, hf1]; rfl))
            · have hf0 : f[i] = false := by simpa using hf1
              refine ev_neg hf1 ?_
              by_cases ha : rdOf false (mkA l f S i) x.f1 = true
              · refine ev_pos ha ?_
                by_cases hb2 : rdOf false (mkA l f S i) x.f2 = true
                · exact ev_pos hb2 (hset true (by rw [hm, ha, hb2]; simp))
                · have hb3 : rdOf false (mkA l f S i) x.f2 = false := by simpa using hb2
                  refine ev_neg hb2 (ev_pos (by omega) ?_)
                  rw [s2]
                  by_cases hs : x.f2 ∈ S
                  · exact ev_pos (by simpa using hs) (hset true (by rw [hm, ha, hb3, hf0]; simp [hs]))
                  · exact ev_neg (by simpa using hs) (hset false (by rw [hm, ha, hb3, hf0]; simp [hs]))
              · have ha0 : rdOf false (mkA l f S i) x.f1 = false := by simpa using ha
                refine ev_neg ha ?_
                by_cases hb2 : rdOf false (mkA l f S i) x.f2 = true
                · refine ev_pos hb2 (ev_pos (by omega) ?_)
                  rw [s1]
                  exact hset _ (by rw [hm, ha0, hb2, hf0]; simp)
                · have hb3 : rdOf false (mkA l f S i) x.f2 = false := by simpa using hb2
                  exact ev_neg hb2 (hset false (by rw [hm, ha0, hb3, hf0]; rfl))
          · have e7 : (x.f0 == 7) = false := by simp [h7]
            refine ev_neg h7 (hkeep ?_)
            unfold mkV
            rw [e1, e0, e6, e7]
            simp
    by_cases n1 : x.f0 = 1
    · refine ev_pos n1 (ev_pos (by omega) (hset true ?_))
      unfold mkV
      rw [show (x.f0 == 1) = true by simp [n1]]
      simp
    · refine ev_neg n1 ?_
      by_cases n3 : x.f0 = 3
      · exact ev_pos n3 (hj3 _ (by simp [n3]) n1)
      · refine ev_neg n3 ?_
        by_cases n4 : x.f0 = 4
        · exact ev_pos n4 (hj3 _ (by simp [n4]) n1)
        · exact ev_neg n4 (hj3 (x.f0 == 5) (by rw [show (x.f0 == 3) = false by simp; omega, show (x.f0 == 4) = false by simp; omega]; rfl) n1)
theorem ev_l6Make_l1 (l : List S66) (ht : termsF l = 0) (f : List Bool) (hf : f.length = l.length) :
    ∀ i, i ≤ l.length → ∀ hv : List Bool, hv.length = l.length → (∀ x : Int, 0 ≤ x → x < (l.length : Int) → rdOf false hv x = decide (x ∈ halvesL l f i)) → Ev (fun k => spec_l6Make.l1 k l f hv (i : Nat)) (mkF l f) := by
  have hl := (termsF_ok ht).1
  refine down l.length ?_ ?_
  · intro hv hh hS
    refine Ev.step (fun k => by rw [spec_l6Make.l1, if_neg (by omega)]) ?_
    have := ev_l6Make_l2 l ht f hf (halvesL l f l.length) hv hh hS 0 (by omega)
    exact this
  · intro i hi ih hv hh hS
    obtain ⟨h1, h2, h3⟩ := term_range ht i hi
    refine Ev.step (fun k => by rw [spec_l6Make.l1, if_pos (by omega), if_pos (by omega), rdTerm_nat l i hi, w64 (by omega) (by omega)]) ?_
    by_cases h6 : l[i].f0 = 6
    · refine ev_pos h6 (ev_pos (by omega) ?_)
      by_cases hk : rdOf false f (i : Int) = true
      · have g2 := h2 (by omega)
        refine ev_pos hk (ev_pos g2.1 (ev_pos (by omega) ?_))
        refine ih (hv.set l[i].f1.toNat true) (by rw [List.length_set]; exact hh) (fun x g0 g1 => ?_)
        rw [halvesL, if_pos ⟨by rw [rdTerm_nat l i hi]; exact h6, hk⟩, rdTerm_nat l i hi]
        obtain ⟨n, rfl⟩ := Int.eq_ofNat_of_zero_le g0
        have hSx := hS n g0 g1
        rw [rdOf_nat' _ n (by omega)] at hSx
        rw [rdOf_nat' _ n (by rw [List.length_set]; omega), List.getElem_set]
        by_cases e : l[i].f1.toNat = n
        · rw [if_pos e]
          have : l[i].f1 = (n : Int) := by omega
          simp [this]
        · rw [if_neg e, hSx]
          have : ¬ (n : Int) = l[i].f1 := by omega
          simp [this]
      · refine ev_neg hk (ih hv hh (fun x g0 g1 => ?_))
        rw [halvesL, if_neg (fun e => hk e.2)]
        exact hS x g0 g1
    · refine ev_neg h6 (ih hv hh (fun x g0 g1 => ?_))
      rw [halvesL, if_neg (fun e => h6 (by rw [← rdTerm_nat l i hi]; exact e.1))]
      exact hS x g0 g1
theorem ev_spec_l6Make (l : List S66) (ht : termsF l = 0) (ks : List Int) (hk : ks.length ≤ 1048576) (hr : ∀ x ∈ ks, 0 ≤ x ∧ x < (l.length : Int)) : Ev (fun k => spec_l6Make.f k l ks) (mkF l (flagsL l.length ks)) := by
  have hl := (termsF_ok ht).1
  have key : ∀ i, i ≤ ks.length → ∀ b : List Bool, b.length = l.length → Ev (fun k => spec_l6Make.l0 k l ks b (i : Nat)) (mkF l (setL b (ks.drop i))) := by
    refine down ks.length ?_ ?_
    · intro b hb
      rw [List.drop_length]
      refine Ev.step (fun k => by rw [spec_l6Make.l0, if_neg (by omega)]) ?_
      rw [Int.toNat_natCast]
      refine ev_pos (by omega) (ev_pos (by omega) ?_)
      exact ev_l6Make_l1 l ht b hb 0 (by omega) (List.replicate l.length false) (by simp) (fun x g0 g1 => by
        obtain ⟨n, rfl⟩ := Int.eq_ofNat_of_zero_le g0
        rw [rdOf_nat' _ n (by rw [List.length_replicate]; omega)]
        simp [halvesL])
    · intro i hi ih b hb
      have h := hr _ (List.getElem_mem hi)
      rw [List.drop_eq_getElem_cons hi]
      refine Ev.step (fun k => by rw [spec_l6Make.l0, if_pos (by omega), if_pos (by omega), rd_nat ks i hi, if_pos h.1, if_pos (by omega), w64 (by omega) (by omega)]) ?_
      exact ih (b.set ks[i].toNat true) (by rw [List.length_set]; exact hb)
  have h := key 0 (by omega) (List.replicate l.length false) (by simp)
  unfold spec_l6Make.f
  rw [Int.toNat_natCast]
  exact ev_pos (by omega) (ev_pos (by omega) h)

theorem q_spec_l1In (a b c : Int) : spec_l1In.f a b c = some (decide (b ≤ a ∧ a ≤ c)) := by
  unfold spec_l1In.f
  by_cases h : b ≤ a
  · simp [h]
  · simp [h]

theorem q_spec_l5At (s : List S66) (hs : s.length ≤ 1048576) (a : Int) : spec_l5At.f s a = some (decide (0 ≤ a ∧ a < (s.length : Int))) := by
  unfold spec_l5At.f
  rw [q_spec_l1In, Option.bind_some, w64 (by omega) (by omega)]
  congr 2
  simp only [eq_iff_iff]
  omega

theorem ev_spec_l5Kids (op : Int) : Ev (fun k => spec_l5Kids.f k op) (kidsT op) := by
  refine ev_succ (fun k => ?_)
  unfold spec_l5Kids.f kidsT
  simp only [spec_l5Kids.j0]
  by_cases h3 : op = 3
  · simp [h3]
  · by_cases h4 : op = 4
    · simp [h4]
    · by_cases h5 : op = 5
      · simp [h5]
      · by_cases h7 : op = 7
        · simp [h7]
        · by_cases h6 : op = 6
          · simp [h6]
          · simp [h3, h4, h5, h6, h7]

theorem ev_l5Term_j2 (s : List S66) (kk : Int) (b : Bool) (op A B N : Int) (hA : b = true → 0 ≤ A ∧ A < (s.length : Int)) (hB : b = true → 1 < kk → 0 ≤ B ∧ B < (s.length : Int)) :
    Ev (fun k => spec_l5Term.j2 k s kk b op A B N) (if b = true ∧ ((rd_T66 s A).f0 ≠ 2 ∨ (1 < kk ∧ ((rd_T66 s B).f0 ≠ 2 ∨ A > B))) then 1 else 0) := by
  refine ev_succ (fun k => ?_)
  rw [spec_l5Term.j2]
  cases b with
  | false => simp
  | true =>
    obtain ⟨a1, a2⟩ := hA rfl
    rw [if_pos rfl, if_pos a1, if_pos a2]
    by_cases g1 : (rd_T66 s A).f0 = 2
    · rw [if_pos g1]
      by_cases g2 : 1 < kk
      · obtain ⟨b1, b2⟩ := hB rfl g2
        rw [if_pos (by omega), if_pos b1, if_pos b2]
        by_cases g3 : (rd_T66 s B).f0 = 2
        · rw [if_pos g3]
          by_cases g4 : A > B
          · rw [if_pos g4, if_pos ⟨rfl, .inr ⟨g2, .inr g4⟩⟩]
          · rw [if_neg g4, if_neg (fun e => e.2.elim (fun h => h g1) (fun h => h.2.elim (fun h => h g3) g4))]
        · rw [if_neg g3, if_pos ⟨rfl, .inr ⟨g2, .inl g3⟩⟩]
      · rw [if_neg (by omega), if_neg (fun e => e.2.elim (fun h => h g1) (fun h => g2 h.1))]
    · rw [if_neg g1, if_pos ⟨rfl, .inl g1⟩]
theorem ev_l5Term_j1 (s : List S66) (kk : Int) (b : Bool) (op A B N : Int) (hA : b = false → op = 6 ∨ op = 7 → 0 ≤ A ∧ A < (s.length : Int)) (hB : b = false → op = 6 ∨ op = 7 → 1 < kk → 0 ≤ B ∧ B < (s.length : Int)) :
    Ev (fun k => spec_l5Term.j1 k s kk b op A B N) (if b = true then 3 else if (op = 6 ∨ op = 7) ∧ ((rd_T66 s A).f0 ≠ 2 ∨ (1 < kk ∧ ((rd_T66 s B).f0 ≠ 2 ∨ A > B))) then 1 else 0) := by
  cases b with
  | true =>
    refine Ev.step (fun k => by rw [spec_l5Term.j1, if_pos rfl]) ?_
    exact ev_some _
  | false =>
    rw [if_neg (by simp)]
    by_cases h6 : op = 6
    · refine Ev.step (fun k => by rw [spec_l5Term.j1, if_neg (by simp), if_pos h6]) ?_
      refine ev_to (ev_l5Term_j2 s kk true op A B N (fun _ => hA rfl (.inl h6)) (fun _ => hB rfl (.inl h6))) ?_
      simp [h6]
    · refine Ev.step (fun k => by rw [spec_l5Term.j1, if_neg (by simp), if_neg h6]) ?_
      refine ev_to (ev_l5Term_j2 s kk (op == 7) op A B N (fun e => hA rfl (.inr (by simpa using e))) (fun e => hB rfl (.inr (by simpa using e)))) ?_
      simp [h6]
theorem ev_l5Term_j0 (s : List S66) (hs : s.length ≤ 1048576) (op A B N : Int) (b : Bool) :
    Ev (fun k => spec_l5Term.j0 k s (kidsT op) b op A B N) (if b = true then 1 else if ¬ (0 ≤ N ∧ N ≤ 9999) ∨ (0 < kidsT op ∧ ¬ (0 ≤ A ∧ A < (s.length : Int))) ∨ (1 < kidsT op ∧ ¬ (0 ≤ B ∧ B < (s.length : Int))) then 3 else if (op = 6 ∨ op = 7) ∧ ((rd_T66 s A).f0 ≠ 2 ∨ (1 < kidsT op ∧ ((rd_T66 s B).f0 ≠ 2 ∨ A > B))) then 1 else 0) := by
  have hk6 : op = 6 ∨ op = 7 → 0 < kidsT op := by
    unfold kidsT
    rintro (rfl | rfl) <;> simp
  cases b with
  | true =>
    refine Ev.step (fun k => by rw [spec_l5Term.j0, if_pos rfl]) ?_
    exact ev_some _
  | false =>
    rw [if_neg (by simp)]
    refine Ev.step (fun k => by rw [spec_l5Term.j0, if_neg (by simp), w64 (by omega) (by omega)]) ?_
    refine ev_opt (q_spec_l1In _ _ _) ?_
    by_cases hN : 0 ≤ N ∧ N ≤ 9999
    · refine ev_pos (by simpa using hN) ?_
      by_cases k0 : 0 < kidsT op
      · refine ev_pos (by omega) (ev_opt (q_spec_l1In _ _ _) ?_)
        by_cases hA : 0 ≤ A ∧ A ≤ (s.length : Int) - 1
        · refine ev_pos (by simpa using hA) ?_
          by_cases k1 : 1 < kidsT op
          · refine ev_pos (by omega) (ev_opt (q_spec_l1In _ _ _) ?_)
            by_cases hB : 0 ≤ B ∧ B ≤ (s.length : Int) - 1
            · rw [decide_eq_true hB, if_neg (by omega)]
              exact ev_to (ev_l5Term_j1 s _ _ op A B N (fun _ _ => by omega) (fun _ _ _ => by omega)) (by simp)
            · rw [decide_eq_false hB, if_pos (by omega)]
              exact ev_to (ev_l5Term_j1 s _ _ op A B N (fun e => absurd e (by simp)) (fun e => absurd e (by simp))) (by simp)
          · refine ev_neg (by omega) ?_
            rw [if_neg (by omega)]
            exact ev_to (ev_l5Term_j1 s _ _ op A B N (fun _ _ => by omega) (fun _ _ e => absurd e k1)) (by simp)
        · refine ev_neg (by simpa using hA) ?_
          rw [if_pos (by omega)]
          exact ev_to (ev_l5Term_j1 s _ _ op A B N (fun e => absurd e (by simp)) (fun e => absurd e (by simp))) (by simp)
      · refine ev_neg (by omega) ?_
        refine ev_neg (by omega) ?_
        rw [if_neg (by omega)]
        exact ev_to (ev_l5Term_j1 s _ _ op A B N (fun _ e => absurd (hk6 e) k0) (fun _ e => absurd (hk6 e) k0)) (by simp)
    · refine ev_neg (by simpa using hN) ?_
      rw [if_pos (.inl hN)]
      exact ev_to (ev_l5Term_j1 s _ _ op A B N (fun e => absurd e (by simp)) (fun e => absurd e (by simp))) (by simp)
theorem ev_spec_l5Term (s : List S66) (hs : s.length ≤ 1048576) (t : S66) : Ev (fun k => spec_l5Term.f k s t.f0 t.f1 t.f2 t.f3) (termF s t) := by
  obtain ⟨op, A, B, N⟩ := t
  unfold spec_l5Term.f termF
  dsimp only
  refine ev_opt (q_spec_l1In _ _ _) ?_
  by_cases h : 1 ≤ op ∧ op ≤ 7
  · rw [if_pos h]
    refine ev_pos (by simpa using h) (Ev.bind (ev_spec_l5Kids op) ?_)
    have hj := ev_l5Term_j0 s hs op A B N
    by_cases k0 : 0 < kidsT op
    · refine ev_pos k0 ?_
      by_cases hN : N = 0
      · refine ev_pos hN (ev_neg (by omega) ?_)
        by_cases k2 : kidsT op < 2
        · refine ev_pos k2 (ev_to (hj (B != 0)) ?_)
          by_cases hB : B = 0
          · rw [if_neg (by simp [hB]), if_neg (show ¬ ((0 < kidsT op ∧ N ≠ 0) ∨ (kidsT op < 1 ∧ A ≠ 0) ∨ (kidsT op < 2 ∧ B ≠ 0)) by omega)]
          · rw [if_pos (by simp [hB]), if_pos (by omega)]
        · refine ev_neg k2 (ev_to (hj false) ?_)
          rw [if_neg (by simp), if_neg (show ¬ ((0 < kidsT op ∧ N ≠ 0) ∨ (kidsT op < 1 ∧ A ≠ 0) ∨ (kidsT op < 2 ∧ B ≠ 0)) by omega)]
      · refine ev_neg hN (ev_to (hj true) ?_)
        rw [if_pos rfl, if_pos (by omega)]
    · refine ev_neg k0 (ev_pos (by omega) ?_)
      by_cases hA : A = 0
      · refine ev_pos hA (ev_pos (by omega) (ev_to (hj (B != 0)) ?_))
        by_cases hB : B = 0
        · rw [if_neg (by simp [hB]), if_neg (show ¬ ((0 < kidsT op ∧ N ≠ 0) ∨ (kidsT op < 1 ∧ A ≠ 0) ∨ (kidsT op < 2 ∧ B ≠ 0)) by omega)]
        · rw [if_pos (by simp [hB]), if_pos (by omega)]
      · refine ev_neg hA (ev_to (hj true) ?_)
        rw [if_pos rfl, if_pos (by omega)]
  · rw [if_neg h]
    exact ev_neg (by simpa using h) (ev_some _)

theorem ev_spec_TermsFault (l : List S66) (hl : l.length ≤ 1048576) : Ev (fun k => spec_TermsFault.f k l) (termsF l) := by
  have key : ∀ i, i ≤ l.length → Ev (fun k => spec_TermsFault.l0 k l (i : Nat)) (scanT (l.take i) (l.drop i)) := by
    refine down l.length ?_ ?_
    · rw [List.drop_length, scanT]
      refine Ev.step (fun k => by rw [spec_TermsFault.l0, if_neg (by omega)]) ?_
      exact ev_some _
    · intro i hi ih
      rw [List.drop_eq_getElem_cons hi, scanT, ← List.take_succ_eq_append_getElem hi]
      refine Ev.step (fun k => by rw [spec_TermsFault.l0, if_pos (by omega), if_pos (by omega), if_pos (by omega), rdTerm_nat l i hi, Int.toNat_natCast, w64 (by omega) (by omega)]) ?_
      refine Ev.bind (ev_spec_l5Term (l.take i) (by rw [List.length_take]; omega) l[i]) (ev_cond (fun h => ?_) (fun h => ev_some _))
      obtain ⟨r, hr, hm⟩ := ev_spec_l5Find (l.take i) (by rw [List.length_take]; omega) l[i]
      refine Ev.bind hr ?_
      by_cases g : 0 ≤ r
      · rw [if_pos (hm.mp g)]
        exact ev_pos g (ev_some _)
      · rw [if_neg (fun e => g (hm.mpr e))]
        exact ev_neg g ih
  have h := key 0 (by omega)
  rw [List.take_zero, List.drop_zero] at h
  unfold spec_TermsFault.f termsF
  by_cases h4 : 400 < l.length
  · rw [if_pos h4]
    exact ev_pos (by omega) (ev_some _)
  · rw [if_neg h4]
    exact ev_neg (by omega) h

theorem ev_spec_KnownFault (l : List S66) (hl : l.length ≤ 1048576) (ks : List Int) (hk : ks.length ≤ 1048576) : Ev (fun k => spec_KnownFault.f k l ks) (knownF l ks) := by
  have key : ∀ i, i ≤ ks.length → Ev (fun k => spec_KnownFault.l0 k l ks (i : Nat)) (scanK l.length (prevK ks i) (ks.drop i)) := by
    refine down ks.length ?_ ?_
    · rw [List.drop_length, scanK]
      exact Ev.step (fun k => by rw [spec_KnownFault.l0, if_neg (by omega)]) (ev_some _)
    · intro i hi ih
      rw [List.drop_eq_getElem_cons hi, scanK]
      refine Ev.step (fun k => by rw [spec_KnownFault.l0, if_pos (by omega), if_pos (by omega), rd_nat ks i hi, w64 (by omega) (by omega), w64 (by omega) (by omega)]) ?_
      refine ev_opt (q_spec_l5At l hl _) ?_
      by_cases g : 0 ≤ ks[i] ∧ ks[i] < (l.length : Int)
      · rw [if_pos g]
        refine ev_pos (by simpa using g) ?_
        rw [prevK_succ ks i hi] at ih
        by_cases h0 : 0 < i
        · refine ev_pos (by omega) (ev_pos (by omega) (ev_pos (by omega) ?_))
          rw [prevK_pos ks i hi h0, show (i : Int) - 1 = ((i - 1 : Nat) : Int) by omega, rd_nat ks (i - 1) (by omega)]
          by_cases c : ks[i] ≤ ks[i - 1]
          · rw [if_pos ⟨_, rfl, c⟩]
            exact ev_pos c (ev_some _)
          · rw [if_neg (fun ⟨y, hy, hc⟩ => c (by rw [Option.some.inj hy]; exact hc))]
            exact ev_neg c ih
        · refine ev_neg (by omega) ?_
          rw [if_neg (fun ⟨y, hy, _⟩ => by obtain rfl : i = 0 := (by omega); exact absurd hy (by simp [prevK_zero]))]
          exact ih
      · rw [if_neg g]
        exact ev_neg (by simpa using g) (ev_some _)
  have h := key 0 (by omega)
  rw [prevK_zero, List.drop_zero] at h
  unfold spec_KnownFault.f knownF
  refine Ev.bind (ev_spec_TermsFault l hl) (ev_cond (fun _ => ?_) (fun _ => ev_some _))
  by_cases c : 400 < ks.length
  · rw [if_pos c]
    exact ev_pos (by omega) (ev_some _)
  · rw [if_neg c]
    exact ev_neg (by omega) h

theorem ev_impl_KnownFault (l : List S66) (hl : l.length ≤ 1048576) (ks : List Int) (hk : ks.length ≤ 1048576) : Ev (fun k => impl_KnownFault.f k l ks) (knownF l ks) := by
  have key : ∀ i, i ≤ ks.length → Ev (fun k => impl_KnownFault.l0 k l ks ks ks.length (i : Nat)) (scanK l.length (prevK ks i) (ks.drop i)) := by
    refine down ks.length ?_ ?_
    · rw [List.drop_length, scanK]
      exact Ev.step (fun k => by rw [impl_KnownFault.l0, if_neg (by omega)]) (ev_some _)
    · intro i hi ih
      rw [List.drop_eq_getElem_cons hi, scanK]
      refine Ev.step (fun k => by rw [impl_KnownFault.l0, if_pos (by omega), if_pos (by omega), if_pos (by omega), rd_nat ks i hi, w64 (by omega) (by omega), w64 (by omega) (by omega)]) ?_
      refine ev_opt (q_isPlace l hl _) ?_
      by_cases g : 0 ≤ ks[i] ∧ ks[i] < (l.length : Int)
      · rw [if_pos g]
        refine ev_pos (by simpa using g) ?_
        rw [prevK_succ ks i hi] at ih
        by_cases h0 : 0 < i
        · refine ev_pos (by omega) (ev_pos (by omega) (ev_pos (by omega) ?_))
          rw [prevK_pos ks i hi h0, show (i : Int) - 1 = ((i - 1 : Nat) : Int) by omega, rd_nat ks (i - 1) (by omega)]
          by_cases c : ks[i] ≤ ks[i - 1]
          · rw [if_pos ⟨_, rfl, c⟩]
            exact ev_pos c (ev_some _)
          · rw [if_neg (fun ⟨y, hy, hc⟩ => c (by rw [Option.some.inj hy]; exact hc))]
            exact ev_neg c ih
        · refine ev_neg (by omega) ?_
          rw [if_neg (fun ⟨y, hy, _⟩ => by obtain rfl : i = 0 := (by omega); exact absurd hy (by simp [prevK_zero]))]
          exact ih
      · rw [if_neg g]
        exact ev_neg (by simpa using g) (ev_some _)
  have h := key 0 (by omega)
  rw [prevK_zero, List.drop_zero] at h
  unfold impl_KnownFault.f knownF
  refine ev_opt (q_impl_TermsFault l hl) (ev_cond (fun _ => ?_) (fun _ => ev_some _))
  by_cases c : 400 < ks.length
  · rw [if_pos c]
    exact ev_pos (by omega) (ev_some _)
  · rw [if_neg c]
    exact ev_neg (by omega) h

theorem q_szTermS {l : List S69} (h : l.length ≤ 1048576) : laws_szTermS.f l 1048576 = some (1048576 - (l.length : Int)) := by
  unfold laws_szTermS.f
  rw [w64 (by omega) (by omega), if_neg (by omega)]
theorem q_szTermS_big {l : List S69} (h : ¬ l.length ≤ 1048576) (hm : l.length ≤ maxLen) : laws_szTermS.f l 1048576 = some (-1) := by
  unfold laws_szTermS.f
  unfold maxLen at hm
  rw [w64 (by omega) (by omega), if_pos (by omega)]

theorem rdLTerm_nat (l : List S69) (i : Nat) (h : i < l.length) : rd_T69 l i = l[i] := getD_nat l _ i h

def cvTerm (x : S69) : S66 := ⟨x.f0, x.f1, x.f2, x.f3⟩
theorem q_toTerm (a b c d : Int) : laws_toTerm.f a b c d = some (a, b, c, d) := rfl
theorem ev_toTermS {l : List S69} (hn : l.length ≤ 1048576) : Ev (fun k => laws_toTermS.f k l) (l.map cvTerm) := by
  unfold laws_toTermS.f
  refine ev_pos (by omega) (ev_pos (by omega) ?_)
  refine map_loop (fun k b i => laws_toTermS.l0 k l b i) l cvTerm ?_ ?_ _ (by simp)
  · intro k b
    rw [laws_toTermS.l0, if_neg (by omega)]
  · intro k b i h hb
    rw [laws_toTermS.l0, if_pos (by omega), if_pos (by omega), q_toTerm, Option.bind_some, if_pos (by omega), w64 (by omega) (by omega), rdLTerm_nat l i h, Int.toNat_natCast]
    rfl

theorem q_eqTerm (a b c d : Int) : laws_eqTerm.f a b c d a b c d = some true := by
  simp [laws_eqTerm.f]
theorem ev_eqTermS {l : List S66} (hn : l.length ≤ 1048576) : Ev (fun k => laws_eqTermS.f k l l) true := by
  unfold laws_eqTermS.f
  refine ev_pos rfl ?_
  refine count_loop (fun k i => laws_eqTermS.l0 k l l i) l.length true ?_ ?_
  · intro k
    rw [laws_eqTermS.l0, if_neg (by omega)]
  · intro k i h
    rw [laws_eqTermS.l0, if_pos (by omega), if_pos (by omega), if_pos (by omega), q_eqTerm, Option.bind_some, if_pos rfl, w64 (by omega) (by omega)]
    rfl

theorem ev_toInt64S_loop (a : List Int) (hn : a.length ≤ 1048576) : ∀ (d i : Nat) (b : List Int), i + d = a.length → b.length = a.length → b.take i = a.take i → Ev (fun k => laws_toInt64S.l0 k a b i) a := by
  intro d
  induction d with
  | zero =>
    intro i b hi hl ht
    refine Ev.step (fun k => by rw [laws_toInt64S.l0, if_neg (by omega)]) ?_
    obtain rfl : i = a.length := by omega
    rw [take_full hl ht]
    exact ev_some a
  | succ d ih =>
    intro i b hi hl ht
    refine Ev.step (fun k => by rw [laws_toInt64S.l0, if_pos (by omega), if_pos (by omega), if_pos (by omega)]) ?_
    rw [w64 (by omega) (by omega), Int.toNat_natCast]
    exact ih (i + 1) _ (by omega) (by simpa using hl) (set_take (by omega) hl ht (rd_nat a i (by omega)))
theorem ev_toInt64S {a : List Int} (hn : a.length ≤ 1048576) : Ev (fun k => laws_toInt64S.f k a) a := by
  unfold laws_toInt64S.f
  refine ev_pos (by omega) (ev_pos (by omega) ?_)
  exact ev_toInt64S_loop a hn a.length 0 _ (by omega) (by simp) (by simp)

theorem ev_eqInt64S {l : List Int} (hn : l.length ≤ 1048576) : Ev (fun k => laws_eqInt64S.f k l l) true := by
  unfold laws_eqInt64S.f
  refine ev_pos rfl ?_
  refine count_loop (fun k i => laws_eqInt64S.l0 k l l i) l.length true ?_ ?_
  · intro k
    rw [laws_eqInt64S.l0, if_neg (by omega)]
  · intro k i h
    rw [laws_eqInt64S.l0, if_pos (by omega), if_pos (by omega), if_pos (by omega), if_pos rfl, w64 (by omega) (by omega)]
    rfl

def canF (l : List S66) (ks : List Int) (a : Int) : Bool := if knownF l ks = 0 then (if 0 ≤ a ∧ a < (l.length : Int) then rdOf false (mkF l (flagsL l.length ks)) a else false) else false
theorem ev_spec_CanMake (l : List S66) (hl : l.length ≤ 1048576) (ks : List Int) (hk : ks.length ≤ 1048576) (a : Int) : Ev (fun k => spec_CanMake.f k l ks a) (canF l ks a) := by
  unfold spec_CanMake.f canF
  refine Ev.bind (ev_spec_KnownFault l hl ks hk) (ev_cond (fun h => ev_opt (q_spec_l5At l hl a) ?_) (fun h => ev_some _))
  obtain ⟨ht, h4, hr⟩ := knownF_ok h
  by_cases g : 0 ≤ a ∧ a < (l.length : Int)
  · rw [if_pos g]
    exact ev_pos (by simpa using g) (Ev.bind (ev_spec_l6Make l ht ks hk hr) (ev_pos g.1 (ev_pos (by rw [mkF_len]; exact g.2) (ev_some _))))
  · rw [if_neg g]
    exact ev_neg (by simpa using g) (ev_some _)
theorem ev_impl_CanMake (l : List S66) (hl : l.length ≤ 1048576) (ks : List Int) (hk : ks.length ≤ 1048576) (a : Int) : Ev (fun k => impl_CanMake.f k l ks a) (canF l ks a) := by
  unfold impl_CanMake.f canF
  refine Ev.bind (ev_impl_KnownFault l hl ks hk) (ev_cond (fun h => ev_opt (q_isPlace l hl a) ?_) (fun h => ev_some _))
  obtain ⟨ht, h4, hr⟩ := knownF_ok h
  by_cases g : 0 ≤ a ∧ a < (l.length : Int)
  · rw [if_pos g]
    exact ev_pos (by simpa using g) (Ev.bind (ev_impl_flags l hl ks hk hr) (ev_opt (q_impl_makeable l ht _ (flagsL_len _ _)) (ev_pos g.1 (ev_pos (by rw [mkF_len]; exact g.2) (ev_some _)))))
  · rw [if_neg g]
    exact ev_neg (by simpa using g) (ev_some _)
theorem FnExactCanMake : laws_FnExactCanMake.Pure := by
  intro l ks a hm
  intros
  apply Ev.rounds
  unfold laws_FnExactCanMake.f
  by_cases hk : ks.length ≤ 1048576
  · refine ev_neg (by omega) ?_
    by_cases h : l.length ≤ 1048576
    · have hc : (l.map cvTerm).length ≤ 1048576 := by simpa using h
      refine ev_opt (q_szTermS h) (ev_neg (by omega) ?_)
      refine Ev.bind (ev_toTermS h) (Ev.bind (ev_toInt64S hk) (Ev.bind (ev_spec_CanMake _ hc ks hk a) (Ev.bind (ev_toTermS h) (Ev.bind (ev_toInt64S hk) (Ev.bind (ev_impl_CanMake _ hc ks hk a) (ev_neg (by simp) ?_))))))
      refine Ev.bind (ev_toTermS h) (Ev.bind (ev_eqTermS hc) (ev_pos rfl ?_))
      exact Ev.bind (ev_toInt64S hk) (Ev.bind (ev_eqInt64S hk) (ev_pos rfl (ev_some _)))
    · exact ev_opt (q_szTermS_big h hm) (ev_pos (by omega) (ev_some _))
  · exact ev_pos (by omega) (ev_some _)

end Go.Proofs.Ytihipdmjacplfaa.Pure
