/- Proved: the law FnExactPartsOf answers true at every input that Go can hand in (it says: The program's PartsOf returns what the reference's returns, for all arguments.) No condition beyond the statement's own. -/
import Derived.Test.YtihipdmjacplfaaStFnExactPartsOf
namespace Go.Proofs.Ytihipdmjacplfaa.Pure
open Go.RowKit Go.Proofs.Ytihipdmjacplfaa.PFnExactPartsOf Go.Proofs.YtihipdmjacplfaaW.PrintWords Go.Proofs.YtihipdmjacplfaaW.PrintLast Go.Proofs.YtihipdmjacplfaaW.PrintMore
set_option linter.unusedVariables false
set_option linter.unusedSimpArgs false

theorem w64 {x : Int} (h0 : -9223372036854775808 ≤ x) (h1 : x ≤ 9223372036854775807) : wrap64 x = x := by
  unfold wrap64
  omega
theorem tmod_pos {a b : Int} (h : 0 ≤ a) : Int.tmod a b = a % b := Int.tmod_eq_emod_of_nonneg h
theorem tdiv_pos {a b : Int} (h : 0 ≤ a) : Int.tdiv a b = a / b := Int.tdiv_eq_ediv_of_nonneg h
theorem ev_some {α : Type} (r : α) : Ev (fun _ => some r) r := Ev.now r
theorem ev_pos {α : Type} {c : Prop} [Decidable c] {A B : Nat → Option α} {r : α} (h : c) (e : Ev A r) : Ev (fun k => if c then A k else B k) r := by
  simpa only [if_pos h] using e
theorem ev_neg {α : Type} {c : Prop} [Decidable c] {A B : Nat → Option α} {r : α} (h : ¬ c) (e : Ev B r) : Ev (fun k => if c then A k else B k) r := by
  simpa only [if_neg h] using e
theorem ev_opt {α β : Type} {o : Option α} {f : Nat → α → Option β} {a : α} {r : β} (h : o = some a) (e : Ev (fun n => f n a) r) : Ev (fun n => o.bind (f n)) r := by
  simpa only [h, Option.bind_some] using e
theorem ev_to {α : Type} {g : Nat → Option α} {r r' : α} (e : Ev g r) (h : r = r') : Ev g r' := h ▸ e
theorem ev_fix {α : Type} {o : Option α} {r : α} (h : o = some r) : Ev (fun _ => o) r := ⟨0, fun _ _ => h⟩
theorem rd_nat (l : List Int) (i : Nat) (h : i < l.length) : rd l (i : Int) = l[i] := by
  unfold rd
  simp [List.getD_eq_getElem?_getD, h]
theorem rd_mem (l : List Int) (i : Int) (h0 : 0 ≤ i) (h : i < l.length) : rd l i ∈ l := by
  obtain ⟨n, rfl⟩ := Int.eq_ofNat_of_zero_le h0
  rw [rd_nat l n (by omega)]
  exact List.getElem_mem _
theorem u8_range {x : Int} (h : (Lit.int .u8 x).wf = true) : 0 ≤ x ∧ x ≤ 255 := by
  simp [Lit.wf, IntKind.min, IntKind.max, IntKind.signed, IntKind.bits] at h
  omega
theorem i64_range {x : Int} (h : (Lit.int .i64 x).wf = true) : -9223372036854775808 ≤ x ∧ x ≤ 9223372036854775807 := by
  simp [Lit.wf, IntKind.min, IntKind.max, IntKind.signed, IntKind.bits] at h
  omega
theorem set_mid {α : Type} (a : List α) (x : α) (b : List α) (y : α) : (a ++ x :: b).set a.length y = a ++ y :: b := by simp
theorem take_full {α : Type} {a b : List α} (hl : b.length = a.length) (ht : b.take a.length = a.take a.length) : b = a := by
  rw [List.take_of_length_le (by omega), List.take_of_length_le (by omega)] at ht
  exact ht
theorem take_next {α : Type} {a b : List α} {i : Nat} (ha : i < a.length) (hb : i < b.length) (ht : b.take i = a.take i) (hx : b[i] = a[i]) : b.take (i + 1) = a.take (i + 1) := by
  rw [List.take_succ_eq_append_getElem ha, List.take_succ_eq_append_getElem hb, ht, hx]
theorem ev_cond {α : Type} {c : Prop} [Decidable c] {A B : Nat → Option α} {r r' : α} (hp : c → Ev A r) (hn : ¬ c → Ev B r') : Ev (fun k => if c then A k else B k) (if c then r else r') := by
  by_cases h : c
  · rw [if_pos h]; exact ev_pos h (hp h)
  · rw [if_neg h]; exact ev_neg h (hn h)
theorem set_take {α : Type} {a b : List α} {i : Nat} {x : α} (h : i < a.length) (hl : b.length = a.length) (ht : b.take i = a.take i) (hx : x = a[i]) : (b.set i x).take (i + 1) = a.take (i + 1) := by
  refine take_next h (by simp; omega) ?_ (by simp [hx])
  rw [← ht]
  apply List.ext_getElem?
  intro j
  simp only [List.getElem?_take, List.getElem?_set]
  by_cases hj : j < i
  · rw [if_pos hj, if_pos hj, if_neg (by omega)]
  · rw [if_neg hj, if_neg hj]
theorem ev_succ {α : Type} {g : Nat → Option α} {r : α} (h : ∀ k, g (k + 1) = some r) : Ev g r := Ev.step h (ev_some r)
theorem down {P : Nat → Prop} (n : Nat) (hend : P n) (hstep : ∀ i, i < n → P (i + 1) → P i) : ∀ i, i ≤ n → P i := by
  intro i hi
  obtain ⟨d, hd⟩ : ∃ d, i + d = n := ⟨n - i, by omega⟩
  induction d generalizing i with
  | zero =>
    obtain rfl : i = n := by omega
    exact hend
  | succ d ih => exact hstep i (by omega) (ih (i + 1) (by omega) (by omega))
theorem getD_nat {α : Type} (l : List α) (z : α) (i : Nat) (h : i < l.length) : l.getD (i : Int).toNat z = l[i] := by
  simp [List.getD_eq_getElem?_getD, h]
/-- A loop that writes the image of each element into its place. -/
theorem map_loop {α β : Type} (F : Nat → List β → Int → Option (List β)) (l : List α) (c : α → β)
    (hend : ∀ k (b : List β), F (k + 1) b l.length = some b) (hstep : ∀ k (b : List β) (i : Nat) (h : i < l.length), b.length = l.length → F (k + 1) b i = F k (b.set i (c l[i])) ((i + 1 : Nat) : Int)) :
    ∀ (b : List β), b.length = l.length → Ev (fun k => F k b 0) (l.map c) := by
  have key : ∀ (i : Nat), i ≤ l.length → ∀ (b : List β), b.length = l.length → b.take i = (l.map c).take i → Ev (fun k => F k b i) (l.map c) := by
    refine down l.length ?_ ?_
    · intro b hl ht
      refine Ev.step (fun k => hend k b) ?_
      rw [take_full (a := l.map c) (b := b) (by simpa using hl) (by simpa using ht)]
      exact ev_some _
    · intro i hi ih b hl ht
      refine Ev.step (fun k => hstep k b i hi hl) (ih _ (by simpa using hl) ?_)
      exact set_take (by simpa using hi) (by simpa using hl) ht (by simp)
  intro b hl
  exact key 0 (by omega) b hl (by simp)
/-- A loop that goes through all places and answers r. -/
theorem count_loop {ρ : Type} (F : Nat → Int → Option ρ) (n : Nat) (r : ρ) (hend : ∀ k, F (k + 1) n = some r) (hstep : ∀ k (i : Nat), i < n → F (k + 1) i = F k ((i + 1 : Nat) : Int)) : Ev (fun k => F k 0) r := by
  have key : ∀ i, i ≤ n → Ev (fun k => F k (i : Nat)) r := down n (Ev.step hend (ev_some r)) (fun i hi ih => Ev.step (fun k => hstep k i hi) ih)
  exact key 0 (by omega)

def kidsT (op : Int) : Int := if op = 3 ∨ op = 4 ∨ op = 5 ∨ op = 7 then 2 else if op = 6 then 1 else 0
def termF (s : List S66) (t : S66) : Int :=
  if 1 ≤ t.f0 ∧ t.f0 ≤ 7 then
    (if (0 < kidsT t.f0 ∧ t.f3 ≠ 0) ∨ (kidsT t.f0 < 1 ∧ t.f1 ≠ 0) ∨ (kidsT t.f0 < 2 ∧ t.f2 ≠ 0) then 1
     else if ¬ (0 ≤ t.f3 ∧ t.f3 ≤ 9999) ∨ (0 < kidsT t.f0 ∧ ¬ (0 ≤ t.f1 ∧ t.f1 < s.length)) ∨ (1 < kidsT t.f0 ∧ ¬ (0 ≤ t.f2 ∧ t.f2 < s.length)) then 3
     else if (t.f0 = 6 ∨ t.f0 = 7) ∧ ((rd_T66 s t.f1).f0 ≠ 2 ∨ (1 < kidsT t.f0 ∧ ((rd_T66 s t.f2).f0 ≠ 2 ∨ t.f1 > t.f2))) then 1 else 0)
  else 5

theorem rdTerm_nat (l : List S66) (i : Nat) (h : i < l.length) : rd_T66 l i = l[i] := getD_nat l _ i h
theorem rdTerm_take (l : List S66) (i : Nat) (a : Int) (h0 : 0 ≤ a) (h : a < i) (hi : i ≤ l.length) : rd_T66 (l.take i) a = rd_T66 l a := by
  obtain ⟨n, rfl⟩ := Int.eq_ofNat_of_zero_le h0
  rw [rdTerm_nat _ n (by rw [List.length_take]; omega), rdTerm_nat l n (by omega), List.getElem_take]

def sameT (x y : S66) : Bool := x.f0 == y.f0 && (x.f1 == y.f1 && (x.f2 == y.f2 && x.f3 == y.f3))
theorem ev_spec_l5Find (s : List S66) (hs : s.length ≤ 1048576) (t : S66) : ∃ r, Ev (fun k => spec_l5Find.f k s t.f0 t.f1 t.f2 t.f3) r ∧ (0 ≤ r ↔ s.any (fun x => sameT x t) = true) := by
  have key : ∀ i, i ≤ s.length → ∃ r, Ev (fun k => spec_l5Find.l0 k s (i : Nat) t.f0 t.f1 t.f2 t.f3) r ∧ (0 ≤ r ↔ (s.drop i).any (fun x => sameT x t) = true) := by
    refine down s.length ?_ ?_
    · refine ⟨-1, Ev.step (fun k => by rw [spec_l5Find.l0, if_neg (by omega)]) (ev_some _), ?_⟩
      simp
    · intro i hi ih
      obtain ⟨r, hr, hm⟩ := ih
      rw [List.drop_eq_getElem_cons hi, List.any_cons]
      by_cases h : sameT s[i] t = true
      · refine ⟨(i : Int), Ev.step (fun k => by rw [spec_l5Find.l0, if_pos (by omega), if_pos (by omega), rdTerm_nat s i hi, show (s[i].f0 == t.f0 && (s[i].f1 == t.f1 && (s[i].f2 == t.f2 && s[i].f3 == t.f3))) = true from h, if_pos rfl]) (ev_some _), ?_⟩
        simp [h]
      · refine ⟨r, Ev.step (fun k => by rw [spec_l5Find.l0, if_pos (by omega), if_pos (by omega), rdTerm_nat s i hi, show (s[i].f0 == t.f0 && (s[i].f1 == t.f1 && (s[i].f2 == t.f2 && s[i].f3 == t.f3))) = false from Bool.eq_false_iff.mpr h, if_neg (by simp), w64 (by omega) (by omega)]; rfl) hr, ?_⟩
        simp only [Bool.not_eq_true] at h
        rw [h, Bool.false_or]
        exact hm
  have h := key 0 (by omega)
  rw [List.drop_zero] at h
  exact h

def scanT : List S66 → List S66 → Int
  | _, [] => 0
  | s, t :: ts => if termF s t = 0 then (if s.any (fun x => sameT x t) = true then 7 else scanT (s ++ [t]) ts) else termF s t
def termsF (l : List S66) : Int := if 400 < l.length then 2 else scanT [] l

theorem q_impl_in (a b c : Int) : impl_in.f a b c = some (decide (b ≤ a ∧ a ≤ c)) := by
  unfold impl_in.f
  by_cases h : b ≤ a
  · simp [h]
  · simp [h]

theorem q_isPlace (s : List S66) (hs : s.length ≤ 1048576) (a : Int) : impl_isPlace.f s a = some (decide (0 ≤ a ∧ a < (s.length : Int))) := by
  unfold impl_isPlace.f
  rw [q_impl_in, Option.bind_some, w64 (by omega) (by omega)]
  congr 2
  simp only [eq_iff_iff]
  omega
theorem q_names12 {op : Int} (h : op = 1 ∨ op = 2) : impl_namesOf.f 9 op = some (false, false, true) := by
  rcases h with rfl | rfl <;> rfl
theorem q_names6 : impl_namesOf.f 9 6 = some (true, false, false) := rfl
theorem q_namesP {op : Int} (h1 : op ≠ 1) (h2 : op ≠ 2) (h6 : op ≠ 6) : impl_namesOf.f 9 op = some (true, true, false) := by
  simp [impl_namesOf.f, impl_namesOf.j0, h1, h2, h6]
theorem q_impl_fault (s : List S66) (hs : s.length ≤ 1048576) (t : S66) : impl_Term_fault.f t.f0 t.f1 t.f2 t.f3 s = some (termF s t) := by
  obtain ⟨op, A, B, N⟩ := t
  have hp1 : ∀ a, impl_Term_fault.p1 s a = some (!decide (0 ≤ a ∧ a < (s.length : Int))) := fun a => by
    rw [impl_Term_fault.p1, q_isPlace s hs]
    rfl
  have hp2 : ∀ a, 0 ≤ a ∧ a < (s.length : Int) → impl_Term_fault.p2 s a = some ((rd_T66 s a).f0 != 2) := fun a h => by
    rw [impl_Term_fault.p2, if_pos h.1, if_pos h.2]
  unfold impl_Term_fault.f termF
  dsimp only
  rw [q_impl_in, Option.bind_some]
  by_cases h12 : op = 1 ∨ op = 2
  · have hk : kidsT op = 0 := by
      unfold kidsT
      rw [if_neg (by omega), if_neg (by omega)]
    have hps : impl_Term_parts.f 9 op A B N = some [] := by rw [impl_Term_parts.f, q_names12 h12]; rfl
    rw [q_names12 h12, Option.bind_some, q_impl_in, Option.bind_some, hps, Option.bind_some, idxO, Option.bind_some, if_neg (by omega), idxO, Option.bind_some, hk]
    refine congrArg some ?_
    simp only [impl_Term_fault.r, decide_eq_true_eq, true_and, reduceCtorEq, false_and, or_false, false_or]
    (repeat' split) <;> (first | omega | simp_all)
  · by_cases h6 : op = 6
    · subst h6
      have hk : kidsT 6 = 1 := rfl
      have hps : impl_Term_parts.f 9 6 A B N = some [A] := by rw [impl_Term_parts.f, q_names6]; rfl
      rw [q_names6, Option.bind_some, q_impl_in, Option.bind_some, hps, Option.bind_some, idxO, hp1, Option.bind_some, hk]
      by_cases ha : 0 ≤ A ∧ A < (s.length : Int)
      · rw [decide_eq_true ha, Bool.not_true, if_neg (by simp), idxO, Option.bind_some, if_neg (by omega), idxO, hp2 A ha, Option.bind_some]
        by_cases g : (rd_T66 s A).f0 = 2
        · rw [if_neg (by simp [g]), idxO, Option.bind_some]
          refine congrArg some ?_
          simp only [impl_Term_fault.r, decide_eq_true_eq, true_and, reduceCtorEq, false_and, or_false, false_or]
          (repeat' split) <;> (first | omega | simp_all)
        · rw [if_pos (by simp [g]), Option.bind_some]
          refine congrArg some ?_
          simp only [impl_Term_fault.r, decide_eq_true_eq, true_and, reduceCtorEq, false_and, or_false, false_or]
          (repeat' split) <;> (first | omega | simp_all)
      · rw [decide_eq_false ha, Bool.not_false, if_pos rfl, Option.bind_some, if_pos (by omega), Option.bind_some]
        refine congrArg some ?_
        simp only [impl_Term_fault.r, decide_eq_true_eq, true_and, reduceCtorEq, false_and, or_false, false_or]
        (repeat' split) <;> (first | omega | simp_all)
    · have hps : impl_Term_parts.f 9 op A B N = some [A, B] := by rw [impl_Term_parts.f, q_namesP (by omega) (by omega) h6]; rfl
      have hk : 1 ≤ op ∧ op ≤ 7 → kidsT op = 2 := by
        intro h
        unfold kidsT
        rw [if_pos (by omega)]
      rw [q_namesP (by omega) (by omega) h6, Option.bind_some, q_impl_in, Option.bind_some, hps, Option.bind_some, idxO, hp1, Option.bind_some]
      have fin : ∀ (i j : Int), (1 ≤ op ∧ op ≤ 7 → (0 ≤ i ↔ ¬ ((0 ≤ A ∧ A < (s.length : Int)) ∧ (0 ≤ B ∧ B < (s.length : Int))))) → (¬ 0 ≤ i → (0 ≤ j ↔ (rd_T66 s A).f0 ≠ 2 ∨ (rd_T66 s B).f0 ≠ 2)) →
          impl_Term_fault.r op A B N (decide (1 ≤ op ∧ op ≤ 7)) true true false (decide (0 ≤ N ∧ N ≤ 9999)) i j = (if 1 ≤ op ∧ op ≤ 7 then
    (if (0 < kidsT op ∧ N ≠ 0) ∨ (kidsT op < 1 ∧ A ≠ 0) ∨ (kidsT op < 2 ∧ B ≠ 0) then 1
     else if ¬ (0 ≤ N ∧ N ≤ 9999) ∨ (0 < kidsT op ∧ ¬ (0 ≤ A ∧ A < s.length)) ∨ (1 < kidsT op ∧ ¬ (0 ≤ B ∧ B < s.length)) then 3
     else if (op = 6 ∨ op = 7) ∧ ((rd_T66 s A).f0 ≠ 2 ∨ (1 < kidsT op ∧ ((rd_T66 s B).f0 ≠ 2 ∨ A > B))) then 1 else 0)
  else 5) := by
        intro i j hi hj
        by_cases h : 1 ≤ op ∧ op ≤ 7
        · have hi := hi h
          rw [hk h]
          simp only [impl_Term_fault.r, decide_eq_true_eq, true_and, reduceCtorEq, false_and, or_false, false_or]
          (repeat' split) <;> (first | omega | simp_all)
        · simp only [impl_Term_fault.r, decide_eq_true_eq, true_and, reduceCtorEq, false_and, or_false, false_or]
          rw [if_neg h, if_neg h]
      by_cases ha : 0 ≤ A ∧ A < (s.length : Int)
      · rw [decide_eq_true ha, Bool.not_true, if_neg (by simp), idxO, hp1, Option.bind_some]
        by_cases hb : 0 ≤ B ∧ B < (s.length : Int)
        · rw [decide_eq_true hb, Bool.not_true, if_neg (by simp), idxO, Option.bind_some, if_neg (by omega), idxO, hp2 A ha, Option.bind_some]
          by_cases g : (rd_T66 s A).f0 = 2
          · rw [if_neg (by simp [g]), idxO, hp2 B hb, Option.bind_some]
            by_cases g2 : (rd_T66 s B).f0 = 2
            · rw [if_neg (by simp [g2]), idxO, Option.bind_some, fin _ _ (fun _ => by omega) (fun _ => by simp [g, g2])]
            · rw [if_pos (by simp [g2]), Option.bind_some, fin _ _ (fun _ => by omega) (fun _ => by simp [g, g2])]
          · rw [if_pos (by simp [g]), Option.bind_some, fin _ _ (fun _ => by omega) (fun _ => by simp [g])]
        · rw [decide_eq_false hb, Bool.not_false, if_pos rfl, Option.bind_some, if_pos (by omega), Option.bind_some, fin _ _ (fun _ => by omega) (fun h => absurd (by omega) h)]
      · rw [decide_eq_false ha, Bool.not_false, if_pos rfl, Option.bind_some, if_pos (by omega), Option.bind_some, fin _ _ (fun _ => by omega) (fun h => absurd (by omega) h)]

theorem termF_ok {s : List S66} {t : S66} (h : termF s t = 0) : (1 ≤ t.f0 ∧ t.f0 ≤ 7) ∧ (0 < kidsT t.f0 → t.f3 = 0 ∧ 0 ≤ t.f1 ∧ t.f1 < s.length) ∧ (kidsT t.f0 < 1 → t.f1 = 0) ∧ (kidsT t.f0 < 2 → t.f2 = 0) ∧ (1 < kidsT t.f0 → 0 ≤ t.f2 ∧ t.f2 < s.length) ∧ 0 ≤ t.f3 ∧ t.f3 ≤ 9999 ∧
    (t.f0 = 6 ∨ t.f0 = 7 → (rd_T66 s t.f1).f0 = 2) ∧ (t.f0 = 7 → (rd_T66 s t.f2).f0 = 2 ∧ t.f1 ≤ t.f2) := by
  have hk7 : t.f0 = 7 → kidsT t.f0 = 2 := fun e => by rw [e]; rfl
  unfold termF at h
  by_cases c0 : 1 ≤ t.f0 ∧ t.f0 ≤ 7
  · rw [if_pos c0] at h
    by_cases c1 : (0 < kidsT t.f0 ∧ t.f3 ≠ 0) ∨ (kidsT t.f0 < 1 ∧ t.f1 ≠ 0) ∨ (kidsT t.f0 < 2 ∧ t.f2 ≠ 0)
    · rw [if_pos c1] at h
      exact absurd h (by omega)
    · rw [if_neg c1] at h
      by_cases c2 : ¬ (0 ≤ t.f3 ∧ t.f3 ≤ 9999) ∨ (0 < kidsT t.f0 ∧ ¬ (0 ≤ t.f1 ∧ t.f1 < s.length)) ∨ (1 < kidsT t.f0 ∧ ¬ (0 ≤ t.f2 ∧ t.f2 < s.length))
      · rw [if_pos c2] at h
        exact absurd h (by omega)
      · rw [if_neg c2] at h
        by_cases c3 : (t.f0 = 6 ∨ t.f0 = 7) ∧ ((rd_T66 s t.f1).f0 ≠ 2 ∨ (1 < kidsT t.f0 ∧ ((rd_T66 s t.f2).f0 ≠ 2 ∨ t.f1 > t.f2)))
        · rw [if_pos c3] at h
          exact absurd h (by omega)
        · refine ⟨c0, ?_, ?_, ?_, ?_, ?_, ?_, ?_, ?_⟩ <;> omega
  · rw [if_neg c0] at h
    exact absurd h (by omega)
theorem sameT_eqT (x t : S66) : eqT t x = sameT x t := by
  unfold eqT sameT
  rw [Bool.eq_iff_iff]
  simp
  constructor
  · rintro ⟨h1, h2, h3, h4⟩
    exact ⟨h1.symm, h2.symm, h3.symm, h4.symm⟩
  · rintro ⟨h1, h2, h3, h4⟩
    exact ⟨h1.symm, h2.symm, h3.symm, h4.symm⟩
theorem q_TermsFault_l : ∀ (ts s : List S66), s.length + ts.length ≤ 1048576 → impl_TermsFault.l s ts = some (scanT s ts)
  | [], _, _ => by rw [impl_TermsFault.l, scanT]
  | t :: ts, s, h => by
    rw [List.length_cons] at h
    rw [impl_TermsFault.l, q_impl_fault s (by omega) t, Option.bind_some, scanT]
    by_cases c : termF s t = 0
    · have hk := termF_ok c
      have hr : okT t = true := by
        unfold okT okI
        simp only [Bool.and_eq_true, decide_eq_true_eq]
        have h0 := hk.1
        by_cases k0 : 0 < kidsT t.f0 <;> by_cases k1 : 1 < kidsT t.f0 <;> omega
      rw [if_pos c, if_pos c, if_pos hr]
      have ha : s.any (eqT t) = s.any (fun x => sameT x t) := by
        congr 1
        funext x
        exact sameT_eqT x t
      rw [ha]
      by_cases g : s.any (fun x => sameT x t) = true
      · rw [if_pos g, if_pos g]
      · rw [if_neg g, if_neg g]
        exact q_TermsFault_l ts _ (by rw [List.length_append, List.length_singleton]; omega)
    · rw [if_neg c, if_neg c]
theorem q_impl_TermsFault (l : List S66) (hl : l.length ≤ 1048576) : impl_TermsFault.f l = some (termsF l) := by
  unfold impl_TermsFault.f termsF
  by_cases h : 400 < l.length
  · rw [if_pos h, if_pos h]
  · rw [if_neg h, if_neg h, q_TermsFault_l l [] (by simpa using hl)]

theorem scanT_ok : ∀ (ts s : List S66), scanT s ts = 0 → ∀ i (h : i < ts.length), termF (s ++ ts.take i) ts[i] = 0
  | [], _, _, i, h => absurd h (by simp)
  | t :: ts, s, e, i, h => by
    rw [scanT] at e
    by_cases c : termF s t = 0
    · rw [if_pos c] at e
      by_cases g : s.any (fun x => sameT x t) = true
      · rw [if_pos g] at e
        exact absurd e (by omega)
      · rw [if_neg g] at e
        cases i with
        | zero => simpa using c
        | succ i =>
          have := scanT_ok ts (s ++ [t]) e i (by simpa using h)
          simpa using this
    · rw [if_neg c] at e
      exact absurd e c
theorem termsF_ok {l : List S66} (h : termsF l = 0) : l.length ≤ 400 ∧ ∀ i (h : i < l.length), termF (l.take i) l[i] = 0 := by
  unfold termsF at h
  by_cases c : 400 < l.length
  · rw [if_pos c] at h
    exact absurd h (by omega)
  · rw [if_neg c] at h
    refine ⟨by omega, fun i hi => ?_⟩
    have := scanT_ok l [] h i hi
    simpa using this
theorem kids_cases (op : Int) : kidsT op = 0 ∨ kidsT op = 1 ∨ kidsT op = 2 := by
  unfold kidsT
  split
  · exact .inr (.inr rfl)
  · split
    · exact .inr (.inl rfl)
    · exact .inl rfl
/-- What is known of a term of a right table: its parts stand ahead of it. -/
theorem term_parts {l : List S66} (h : termsF l = 0) (i : Nat) (hi : i < l.length) : (1 ≤ l[i].f0 ∧ l[i].f0 ≤ 7) ∧ (0 < kidsT l[i].f0 → 0 ≤ l[i].f1 ∧ l[i].f1 < (i : Int)) ∧ (1 < kidsT l[i].f0 → 0 ≤ l[i].f2 ∧ l[i].f2 < (i : Int)) := by
  have hk := termF_ok ((termsF_ok h).2 i hi)
  have hl : (l.take i).length = i := by rw [List.length_take]; omega
  rw [hl] at hk
  exact ⟨hk.1, fun e => ⟨(hk.2.1 e).2.1, (hk.2.1 e).2.2⟩, hk.2.2.2.2.1⟩

def partsT (t : S66) : List Int := if kidsT t.f0 = 0 then [] else if kidsT t.f0 = 1 then [t.f1] else [t.f1, t.f2]
theorem ev_names (op : Int) (h : 1 ≤ op ∧ op ≤ 7) : Ev (fun k => impl_namesOf.f k op) (if kidsT op = 0 then (false, false, true) else if kidsT op = 1 then (true, false, false) else (true, true, false)) := by
  refine ev_succ (fun k => ?_)
  obtain h1 | h1 | h1 | h1 | h1 | h1 | h1 : op = 1 ∨ op = 2 ∨ op = 3 ∨ op = 4 ∨ op = 5 ∨ op = 6 ∨ op = 7 := by omega
  all_goals subst h1; rfl
theorem ev_parts (t : S66) (h : 1 ≤ t.f0 ∧ t.f0 ≤ 7) : Ev (fun k => impl_Term_parts.f k t.f0 t.f1 t.f2 t.f3) (partsT t) := by
  unfold impl_Term_parts.f partsT
  refine Ev.bind (ev_names t.f0 h) ?_
  rcases kids_cases t.f0 with e | e | e
  · rw [if_pos e, if_pos e]
    exact ev_pos rfl (ev_some _)
  · rw [if_neg (show ¬ kidsT t.f0 = 0 by omega), if_pos e, if_neg (show ¬ kidsT t.f0 = 0 by omega), if_pos e]
    exact ev_neg (by simp) (ev_neg (by simp) (ev_some _))
  · rw [if_neg (show ¬ kidsT t.f0 = 0 by omega), if_neg (show ¬ kidsT t.f0 = 1 by omega), if_neg (show ¬ kidsT t.f0 = 0 by omega), if_neg (show ¬ kidsT t.f0 = 1 by omega)]
    exact ev_neg (by simp) (ev_pos rfl (ev_some _))

def setP (is : List Bool) (t : S66) : List Bool := (partsT t).foldl (fun b p => b.set p.toNat true) is
def mkP (l : List S66) : Nat → List Bool → List Bool
  | 0, is => is
  | n + 1, is => mkP l n (if is.getD n false = true then setP is (rd_T66 l (n : Int)) else is)
theorem foldl_set_len : ∀ (ps : List Int) (is : List Bool), (ps.foldl (fun b p => b.set p.toNat true) is).length = is.length
  | [], _ => rfl
  | p :: ps, is => by rw [List.foldl_cons, foldl_set_len ps, List.length_set]
theorem setP_len (is : List Bool) (t : S66) : (setP is t).length = is.length := foldl_set_len _ _
theorem mkP_len (l : List S66) : ∀ (n : Nat) (is : List Bool), (mkP l n is).length = is.length
  | 0, _ => rfl
  | n + 1, is => by
    rw [mkP, mkP_len l n]
    split
    · exact setP_len is _
    · rfl
def colL : List Bool → Int → List Int
  | [], _ => []
  | b :: bs, i => (if b = true then [i] else []) ++ colL bs (i + 1)
theorem colL_len : ∀ (bs : List Bool) (i : Int), (colL bs i).length ≤ bs.length
  | [], _ => by simp [colL]
  | b :: bs, i => by
    have := colL_len bs (i + 1)
    rw [colL, List.length_append, List.length_cons]
    cases b <;> simp <;> omega
theorem rdOf_nat (l : List Bool) (i : Nat) : rdOf false l (i : Int) = l.getD i false := by
  unfold rdOf
  rw [Int.toNat_natCast]
theorem getD_get (l : List Bool) (i : Nat) (h : i < l.length) : l.getD i false = l[i] := by
  simp [List.getD_eq_getElem?_getD, h]
def partsL (l : List S66) (a : Int) : List Int := colL (mkP l (a.toNat + 1) ((List.replicate (a.toNat + 1) false).set a.toNat true)) 0
theorem partsL_len (l : List S66) (a : Int) : (partsL l a).length ≤ a.toNat + 1 := by
  have := colL_len (mkP l (a.toNat + 1) ((List.replicate (a.toNat + 1) false).set a.toNat true)) 0
  rw [mkP_len, List.length_set, List.length_replicate] at this
  exact this

theorem ev_spec_l5Kids (op : Int) : Ev (fun k => spec_l5Kids.f k op) (kidsT op) := by
  refine ev_succ (fun k => ?_)
  unfold spec_l5Kids.f kidsT
  simp only [spec_l5Kids.j0]
  by_cases h3 : op = 3
  · simp [h3]
  · by_cases h4 : op = 4
    · simp [h4]
    · by_cases h5 : op = 5
      · simp [h5]
      · by_cases h7 : op = 7
        · simp [h7]
        · by_cases h6 : op = 6
          · simp [h6]
          · simp [h3, h4, h5, h6, h7]

theorem ev_spec_l5Parts_l1 (is : List Bool) (hl : is.length ≤ 1048576) (a : Int) (ha : a + 1 = is.length) : ∀ i, i ≤ is.length → ∀ acc : List Int, acc.length ≤ i → Ev (fun k => spec_l5Parts.l1 k a is acc (i : Nat)) (acc ++ colL (is.drop i) (i : Nat)) := by
  refine down is.length ?_ ?_
  · intro acc _
    rw [List.drop_length, colL, List.append_nil]
    exact Ev.step (fun k => by rw [spec_l5Parts.l1, if_neg (by omega)]) (ev_some _)
  · intro i hi ih acc hacc
    rw [List.drop_eq_getElem_cons hi, colL]
    refine Ev.step (fun k => by rw [spec_l5Parts.l1, if_pos (by omega), if_pos (by omega), if_pos (by omega), rdOf_nat, getD_get is i hi, w64 (by omega) (by omega)]) ?_
    cases hb : is[i] with
    | true =>
      refine ev_pos rfl (ev_pos (by omega) ?_)
      have h1 := ih (acc ++ [(i : Int)]) (by rw [List.length_append, List.length_singleton]; omega)
      rw [if_pos rfl, ← List.append_assoc]
      exact h1
    | false =>
      refine ev_neg (by simp) ?_
      rw [if_neg (by simp), List.nil_append]
      exact ih acc (by omega)
theorem ev_spec_l5Parts_l0 (l : List S66) (ht : termsF l = 0) (a : Int) (R : List Int) : ∀ (n : Nat) (is : List Bool), n ≤ is.length → is.length ≤ l.length → Ev (fun k => spec_l5Parts.l1 k a (mkP l n is) [] 0) R → Ev (fun k => spec_l5Parts.l0 k l a is ((n : Int) - 1)) R := by
  have hl := (termsF_ok ht).1
  intro n
  induction n with
  | zero =>
    intro is _ _ h
    exact Ev.step (fun k => by rw [spec_l5Parts.l0, if_neg (by omega)]; rfl) h
  | succ n ih =>
    intro is hn hs h
    have hi : n < l.length := by omega
    obtain ⟨hop, hA, hB⟩ := term_parts ht n hi
    rw [show ((n + 1 : Nat) : Int) - 1 = (n : Int) by omega]
    refine Ev.step (fun k => by rw [spec_l5Parts.l0, if_pos (by omega), if_pos (by omega), if_pos (by omega), rdOf_nat, rdTerm_nat l n hi, w64 (by omega) (by omega)]) ?_
    rw [mkP, rdTerm_nat l n hi] at h
    by_cases g : is.getD n false = true
    · rw [if_pos g] at h
      refine ev_pos g (ev_pos (by omega) (Ev.bind (ev_spec_l5Kids _) ?_))
      have hend : ∀ (B : List Bool), B = setP is l[n] → Ev (fun k => spec_l5Parts.l0 k l a B ((n : Int) - 1)) R := by
        rintro B rfl
        exact ih _ (by rw [setP_len]; omega) (by rw [setP_len]; exact hs) h
      unfold setP partsT at hend
      rcases kids_cases l[n].f0 with e | e | e
      · rw [if_pos e] at hend
        exact ev_neg (by omega) (Ev.bind (ev_spec_l5Kids _) (ev_neg (by omega) (hend is rfl)))
      · have hA := hA (by omega)
        rw [if_neg (by omega), if_pos e] at hend
        refine ev_pos (by omega) (ev_pos hA.1 (ev_pos (by omega) (ev_opt rfl (Ev.bind (ev_spec_l5Kids _) (ev_neg (by omega) ?_)))))
        exact hend _ rfl
      · have hA := hA (by omega)
        have hB := hB (by omega)
        rw [if_neg (by omega), if_neg (by omega)] at hend
        refine ev_pos (by omega) (ev_pos hA.1 (ev_pos (by omega) (ev_opt rfl (Ev.bind (ev_spec_l5Kids _) (ev_pos (by omega) (ev_pos hB.1 (ev_pos (by omega) ?_)))))))
        exact hend _ rfl
    · rw [if_neg g] at h
      exact ev_neg g (ih is (by omega) hs h)
theorem ev_spec_l5Parts (l : List S66) (ht : termsF l = 0) (a : Int) (h0 : 0 ≤ a) (h1 : a < (l.length : Int)) : Ev (fun k => spec_l5Parts.f k l a) (partsL l a) := by
  have hl := (termsF_ok ht).1
  obtain ⟨n, rfl⟩ := Int.eq_ofNat_of_zero_le h0
  unfold spec_l5Parts.f partsL
  rw [w64 (by omega) (by omega), show ((n : Int) + 1).toNat = n + 1 by omega, Int.toNat_natCast]
  refine ev_pos (by omega) (ev_pos (by omega) ?_)
  refine ev_opt rfl (ev_pos h0 (ev_pos (by rw [List.length_replicate]; omega) ?_))
  have hk := ev_spec_l5Parts_l0 l ht n (colL (mkP l (n + 1) ((List.replicate (n + 1) false).set n true)) 0) (n + 1) ((List.replicate (n + 1) false).set n true) (by simp) (by simp; omega) (by
    have := ev_spec_l5Parts_l1 (mkP l (n + 1) ((List.replicate (n + 1) false).set n true)) (by rw [mkP_len]; simp; omega) n (by rw [mkP_len]; simp) 0 (by omega) [] (by simp)
    rw [List.drop_zero, List.nil_append] at this
    exact this)
  rw [show ((n + 1 : Nat) : Int) - 1 = (n : Int) by omega] at hk
  exact hk

theorem ev_impl_partsOf_l2 (is : List Bool) (hl : is.length ≤ 1048576) : ∀ i, i ≤ is.length → ∀ acc : List Int, acc.length ≤ i → Ev (fun k => impl_partsOf.l2 k acc is is.length (i : Nat)) (acc ++ colL (is.drop i) (i : Nat)) := by
  refine down is.length ?_ ?_
  · intro acc _
    rw [List.drop_length, colL, List.append_nil]
    exact Ev.step (fun k => by rw [impl_partsOf.l2, if_neg (by omega)]) (ev_some _)
  · intro i hi ih acc hacc
    rw [List.drop_eq_getElem_cons hi, colL]
    refine Ev.step (fun k => by rw [impl_partsOf.l2, if_pos (by omega), if_pos (by omega), if_pos (by omega), rdOf_nat, getD_get is i hi, w64 (by omega) (by omega)]) ?_
    cases hb : is[i] with
    | true =>
      refine ev_pos rfl (ev_pos (by omega) ?_)
      have h1 := ih (acc ++ [(i : Int)]) (by rw [List.length_append, List.length_singleton]; omega)
      rw [if_pos rfl, ← List.append_assoc]
      exact h1
    | false =>
      refine ev_neg (by simp) ?_
      rw [if_neg (by simp), List.nil_append]
      exact ih acc (by omega)
theorem ev_impl_partsOf_l0 (l : List S66) (ht : termsF l = 0) (R : List Int) : ∀ (n : Nat) (is : List Bool), n ≤ is.length → is.length ≤ l.length → Ev (fun k => impl_partsOf.l2 k [] (mkP l n is) (mkP l n is).length 0) R → Ev (fun k => impl_partsOf.l0 k l is [] ((n : Int) - 1)) R := by
  have hl := (termsF_ok ht).1
  intro n
  induction n with
  | zero =>
    intro is _ _ h
    exact Ev.step (fun k => by rw [impl_partsOf.l0, if_neg (by omega)]; rfl) h
  | succ n ih =>
    intro is hn hs h
    have hi : n < l.length := by omega
    obtain ⟨hop, hA, hB⟩ := term_parts ht n hi
    rw [show ((n + 1 : Nat) : Int) - 1 = (n : Int) by omega]
    refine Ev.step (fun k => by rw [impl_partsOf.l0, if_pos (by omega), if_pos (by omega), if_pos (by omega), rdOf_nat, rdTerm_nat l n hi, w64 (by omega) (by omega)]) ?_
    rw [mkP, rdTerm_nat l n hi] at h
    by_cases g : is.getD n false = true
    · rw [if_pos g] at h
      refine ev_pos g (ev_pos (by omega) (Ev.bind (ev_parts _ hop) ?_))
      have hend : ∀ (ps : List Int) (B : List Bool), B = setP is l[n] → Ev (fun k => impl_partsOf.l1 k l B [] (n : Int) ps ps.length ps.length) R := by
        rintro ps B rfl
        refine Ev.step (fun k => by rw [impl_partsOf.l1, if_neg (by omega), w64 (by omega) (by omega)]) ?_
        exact ih _ (by rw [setP_len]; omega) (by rw [setP_len]; exact hs) h
      unfold setP at hend
      unfold partsT at hend ⊢
      rcases kids_cases l[n].f0 with e | e | e
      · rw [if_pos e] at hend ⊢
        exact hend [] is rfl
      · have hA := hA (by omega)
        rw [if_neg (by omega), if_pos e] at hend ⊢
        have r0 : rd [l[n].f1] 0 = l[n].f1 := rfl
        refine Ev.step (fun k => by rw [impl_partsOf.l1, if_pos (by simp), if_pos (by omega), if_pos (by simp), r0, if_pos hA.1, if_pos (by omega), w64 (x := (0 : Int) + 1) (by omega) (by omega)]) ?_
        exact hend [l[n].f1] _ rfl
      · have hA := hA (by omega)
        have hB := hB (by omega)
        rw [if_neg (by omega), if_neg (by omega)] at hend ⊢
        have r0 : rd [l[n].f1, l[n].f2] 0 = l[n].f1 := rfl
        have r1 : rd [l[n].f1, l[n].f2] 1 = l[n].f2 := rfl
        refine Ev.step (fun k => by rw [impl_partsOf.l1, if_pos (by simp), if_pos (by omega), if_pos (by simp), r0, if_pos hA.1, if_pos (by omega), w64 (x := (0 : Int) + 1) (by omega) (by omega), Int.zero_add]) ?_
        refine Ev.step (fun k => by rw [impl_partsOf.l1, if_pos (by simp), if_pos (by omega), if_pos (by simp), r1, if_pos hB.1, if_pos (by rw [List.length_set]; omega), w64 (x := (1 : Int) + 1) (by omega) (by omega)]) ?_
        exact hend [l[n].f1, l[n].f2] _ rfl
    · rw [if_neg g] at h
      exact ev_neg g (ih is (by omega) hs h)
theorem ev_impl_partsOf (l : List S66) (ht : termsF l = 0) (a : Int) (h0 : 0 ≤ a) (h1 : a < (l.length : Int)) : Ev (fun k => impl_partsOf.f k l a) (partsL l a) := by
  have hl := (termsF_ok ht).1
  obtain ⟨n, rfl⟩ := Int.eq_ofNat_of_zero_le h0
  unfold impl_partsOf.f partsL
  rw [w64 (by omega) (by omega), show ((n : Int) + 1).toNat = n + 1 by omega, Int.toNat_natCast]
  refine ev_pos (by omega) (ev_pos (by omega) ?_)
  refine ev_opt rfl (ev_pos h0 (ev_pos (by rw [List.length_replicate]; omega) ?_))
  have hk := ev_impl_partsOf_l0 l ht (colL (mkP l (n + 1) ((List.replicate (n + 1) false).set n true)) 0) (n + 1) ((List.replicate (n + 1) false).set n true) (by simp) (by simp; omega) (by
    have := ev_impl_partsOf_l2 (mkP l (n + 1) ((List.replicate (n + 1) false).set n true)) (by rw [mkP_len]; simp; omega) 0 (by omega) [] (by simp)
    rw [List.drop_zero, List.nil_append] at this
    exact this)
  rw [show ((n + 1 : Nat) : Int) - 1 = (n : Int) by omega] at hk
  exact hk

theorem q_spec_l1In (a b c : Int) : spec_l1In.f a b c = some (decide (b ≤ a ∧ a ≤ c)) := by
  unfold spec_l1In.f
  by_cases h : b ≤ a
  · simp [h]
  · simp [h]

theorem q_spec_l5At (s : List S66) (hs : s.length ≤ 1048576) (a : Int) : spec_l5At.f s a = some (decide (0 ≤ a ∧ a < (s.length : Int))) := by
  unfold spec_l5At.f
  rw [q_spec_l1In, Option.bind_some, w64 (by omega) (by omega)]
  congr 2
  simp only [eq_iff_iff]
  omega

theorem ev_l5Term_j2 (s : List S66) (kk : Int) (b : Bool) (op A B N : Int) (hA : b = true → 0 ≤ A ∧ A < (s.length : Int)) (hB : b = true → 1 < kk → 0 ≤ B ∧ B < (s.length : Int)) :
    Ev (fun k => spec_l5Term.j2 k s kk b op A B N) (if b = true ∧ ((rd_T66 s A).f0 ≠ 2 ∨ (1 < kk ∧ ((rd_T66 s B).f0 ≠ 2 ∨ A > B))) then 1 else 0) := by
  refine ev_succ (fun k => ?_)
  rw [spec_l5Term.j2]
  cases b with
  | false => simp
  | true =>
    obtain ⟨a1, a2⟩ := hA rfl
    rw [if_pos rfl, if_pos a1, if_pos a2]
    by_cases g1 : (rd_T66 s A).f0 = 2
    · rw [if_pos g1]
      by_cases g2 : 1 < kk
      · obtain ⟨b1, b2⟩ := hB rfl g2
        rw [if_pos (by omega), if_pos b1, if_pos b2]
        by_cases g3 : (rd_T66 s B).f0 = 2
        · rw [if_pos g3]
          by_cases g4 : A > B
          · rw [if_pos g4, if_pos ⟨rfl, .inr ⟨g2, .inr g4⟩⟩]
          · rw [if_neg g4, if_neg (fun e => e.2.elim (fun h => h g1) (fun h => h.2.elim (fun h => h g3) g4))]
        · rw [if_neg g3, if_pos ⟨rfl, .inr ⟨g2, .inl g3⟩⟩]
      · rw [if_neg (by omega), if_neg (fun e => e.2.elim (fun h => h g1) (fun h => g2 h.1))]
    · rw [if_neg g1, if_pos ⟨rfl, .inl g1⟩]
theorem ev_l5Term_j1 (s : List S66) (kk : Int) (b : Bool) (op A B N : Int) (hA : b = false → op = 6 ∨ op = 7 → 0 ≤ A ∧ A < (s.length : Int)) (hB : b = false → op = 6 ∨ op = 7 → 1 < kk → 0 ≤ B ∧ B < (s.length : Int)) :
    Ev (fun k => spec_l5Term.j1 k s kk b op A B N) (if b = true then 3 else if (op = 6 ∨ op = 7) ∧ ((rd_T66 s A).f0 ≠ 2 ∨ (1 < kk ∧ ((rd_T66 s B).f0 ≠ 2 ∨ A > B))) then 1 else 0) := by
  cases b with
  | true =>
    refine Ev.step (fun k => by rw [spec_l5Term.j1, if_pos rfl]) ?_
    exact ev_some _
  | false =>
    rw [if_neg (by simp)]
    by_cases h6 : op = 6
    · refine Ev.step (fun k => by rw [spec_l5Term.j1, if_neg (by simp), if_pos h6]) ?_
      refine ev_to (ev_l5Term_j2 s kk true op A B N (fun _ => hA rfl (.inl h6)) (fun _ => hB rfl (.inl h6))) ?_
      simp [h6]
    · refine Ev.step (fun k => by rw [spec_l5Term.j1, if_neg (by simp), if_neg h6]) ?_
      refine ev_to (ev_l5Term_j2 s kk (op == 7) op A B N (fun e => hA rfl (.inr (by simpa using e))) (fun e => hB rfl (.inr (by simpa using e)))) ?_
      simp [h6]
theorem ev_l5Term_j0 (s : List S66) (hs : s.length ≤ 1048576) (op A B N : Int) (b : Bool) :
    Ev (fun k => spec_l5Term.j0 k s (kidsT op) b op A B N) (if b = true then 1 else if ¬ (0 ≤ N ∧ N ≤ 9999) ∨ (0 < kidsT op ∧ ¬ (0 ≤ A ∧ A < (s.length : Int))) ∨ (1 < kidsT op ∧ ¬ (0 ≤ B ∧ B < (s.length : Int))) then 3 else if (op = 6 ∨ op = 7) ∧ ((rd_T66 s A).f0 ≠ 2 ∨ (1 < kidsT op ∧ ((rd_T66 s B).f0 ≠ 2 ∨ A > B))) then 1 else 0) := by
  have hk6 : op = 6 ∨ op = 7 → 0 < kidsT op := by
    unfold kidsT
    rintro (rfl | rfl) <;> simp
  cases b with
  | true =>
    refine Ev.step (fun k => by rw [spec_l5Term.j0, if_pos rfl]) ?_
    exact ev_some _
  | false =>
    rw [if_neg (by simp)]
    refine Ev.step (fun k => by rw [spec_l5Term.j0, if_neg (by simp), w64 (by omega) (by omega)]) ?_
    refine ev_opt (q_spec_l1In _ _ _) ?_
    by_cases hN : 0 ≤ N ∧ N ≤ 9999
    · refine ev_pos (by simpa using hN) ?_
      by_cases k0 : 0 < kidsT op
      · refine ev_pos (by omega) (ev_opt (q_spec_l1In _ _ _) ?_)
        by_cases hA : 0 ≤ A ∧ A ≤ (s.length : Int) - 1
        · refine ev_pos (by simpa using hA) ?_
          by_cases k1 : 1 < kidsT op
          · refine ev_pos (by omega) (ev_opt (q_spec_l1In _ _ _) ?_)
            by_cases hB : 0 ≤ B ∧ B ≤ (s.length : Int) - 1
            · rw [decide_eq_true hB, if_neg (by omega)]
              exact ev_to (ev_l5Term_j1 s _ _ op A B N (fun _ _ => by omega) (fun _ _ _ => by omega)) (by simp)
            · rw [decide_eq_false hB, if_pos (by omega)]
              exact ev_to (ev_l5Term_j1 s _ _ op A B N (fun e => absurd e (by simp)) (fun e => absurd e (by simp))) (by simp)
          · refine ev_neg (by omega) ?_
            rw [if_neg (by omega)]
            exact ev_to (ev_l5Term_j1 s _ _ op A B N (fun _ _ => by omega) (fun _ _ e => absurd e k1)) (by simp)
        · refine ev_neg (by simpa using hA) ?_
          rw [if_pos (by omega)]
          exact ev_to (ev_l5Term_j1 s _ _ op A B N (fun e => absurd e (by simp)) (fun e => absurd e (by simp))) (by simp)
      · refine ev_neg (by omega) ?_
        refine ev_neg (by omega) ?_
        rw [if_neg (by omega)]
        exact ev_to (ev_l5Term_j1 s _ _ op A B N (fun _ e => absurd (hk6 e) k0) (fun _ e => absurd (hk6 e) k0)) (by simp)
    · refine ev_neg (by simpa using hN) ?_
      rw [if_pos (.inl hN)]
      exact ev_to (ev_l5Term_j1 s _ _ op A B N (fun e => absurd e (by simp)) (fun e => absurd e (by simp))) (by simp)
theorem ev_spec_l5Term (s : List S66) (hs : s.length ≤ 1048576) (t : S66) : Ev (fun k => spec_l5Term.f k s t.f0 t.f1 t.f2 t.f3) (termF s t) := by
  obtain ⟨op, A, B, N⟩ := t
  unfold spec_l5Term.f termF
  dsimp only
  refine ev_opt (q_spec_l1In _ _ _) ?_
  by_cases h : 1 ≤ op ∧ op ≤ 7
  · rw [if_pos h]
    refine ev_pos (by simpa using h) (Ev.bind (ev_spec_l5Kids op) ?_)
    have hj := ev_l5Term_j0 s hs op A B N
    by_cases k0 : 0 < kidsT op
    · refine ev_pos k0 ?_
      by_cases hN : N = 0
      · refine ev_pos hN (ev_neg (by omega) ?_)
        by_cases k2 : kidsT op < 2
        · refine ev_pos k2 (ev_to (hj (B != 0)) ?_)
          by_cases hB : B = 0
          · rw [if_neg (by simp [hB]), if_neg (show ¬ ((0 < kidsT op ∧ N ≠ 0) ∨ (kidsT op < 1 ∧ A ≠ 0) ∨ (kidsT op < 2 ∧ B ≠ 0)) by omega)]
          · rw [if_pos (by simp [hB]), if_pos (by omega)]
        · refine ev_neg k2 (ev_to (hj false) ?_)
          rw [if_neg (by simp), if_neg (show ¬ ((0 < kidsT op ∧ N ≠ 0) ∨ (kidsT op < 1 ∧ A ≠ 0) ∨ (kidsT op < 2 ∧ B ≠ 0)) by omega)]
      · refine ev_neg hN (ev_to (hj true) ?_)
        rw [if_pos rfl, if_pos (by omega)]
    · refine ev_neg k0 (ev_pos (by omega) ?_)
      by_cases hA : A = 0
      · refine ev_pos hA (ev_pos (by omega) (ev_to (hj (B != 0)) ?_))
        by_cases hB : B = 0
        · rw [if_neg (by simp [hB]), if_neg (show ¬ ((0 < kidsT op ∧ N ≠ 0) ∨ (kidsT op < 1 ∧ A ≠ 0) ∨ (kidsT op < 2 ∧ B ≠ 0)) by omega)]
        · rw [if_pos (by simp [hB]), if_pos (by omega)]
      · refine ev_neg hA (ev_to (hj true) ?_)
        rw [if_pos rfl, if_pos (by omega)]
  · rw [if_neg h]
    exact ev_neg (by simpa using h) (ev_some _)

theorem ev_spec_TermsFault (l : List S66) (hl : l.length ≤ 1048576) : Ev (fun k => spec_TermsFault.f k l) (termsF l) := by
  have key : ∀ i, i ≤ l.length → Ev (fun k => spec_TermsFault.l0 k l (i : Nat)) (scanT (l.take i) (l.drop i)) := by
    refine down l.length ?_ ?_
    · rw [List.drop_length, scanT]
      refine Ev.step (fun k => by rw [spec_TermsFault.l0, if_neg (by omega)]) ?_
      exact ev_some _
    · intro i hi ih
      rw [List.drop_eq_getElem_cons hi, scanT, ← List.take_succ_eq_append_getElem hi]
      refine Ev.step (fun k => by rw [spec_TermsFault.l0, if_pos (by omega), if_pos (by omega), if_pos (by omega), rdTerm_nat l i hi, Int.toNat_natCast, w64 (by omega) (by omega)]) ?_
      refine Ev.bind (ev_spec_l5Term (l.take i) (by rw [List.length_take]; omega) l[i]) (ev_cond (fun h => ?_) (fun h => ev_some _))
      obtain ⟨r, hr, hm⟩ := ev_spec_l5Find (l.take i) (by rw [List.length_take]; omega) l[i]
      refine Ev.bind hr ?_
      by_cases g : 0 ≤ r
      · rw [if_pos (hm.mp g)]
        exact ev_pos g (ev_some _)
      · rw [if_neg (fun e => g (hm.mpr e))]
        exact ev_neg g ih
  have h := key 0 (by omega)
  rw [List.take_zero, List.drop_zero] at h
  unfold spec_TermsFault.f termsF
  by_cases h4 : 400 < l.length
  · rw [if_pos h4]
    exact ev_pos (by omega) (ev_some _)
  · rw [if_neg h4]
    exact ev_neg (by omega) h

def askedF (l : List S66) (a : Int) : Int := if termsF l = 0 then (if 0 ≤ a ∧ a < (l.length : Int) then 0 else 3) else termsF l
theorem ev_spec_l5Asked (l : List S66) (hl : l.length ≤ 1048576) (a : Int) : Ev (fun k => spec_l5Asked.f k l a) (askedF l a) := by
  unfold spec_l5Asked.f askedF
  refine Ev.bind (ev_spec_TermsFault l hl) (ev_cond (fun h => ev_opt (q_spec_l5At l hl a) ?_) (fun h => ev_some _))
  by_cases g : 0 ≤ a ∧ a < (l.length : Int)
  · rw [if_pos g]
    exact ev_pos (by simpa using g) (ev_some _)
  · rw [if_neg g]
    exact ev_neg (by simpa using g) (ev_some _)
theorem askedF_ok {l : List S66} {a : Int} (h : askedF l a = 0) : termsF l = 0 ∧ 0 ≤ a ∧ a < (l.length : Int) := by
  unfold askedF at h
  by_cases c : termsF l = 0
  · rw [if_pos c] at h
    by_cases g : 0 ≤ a ∧ a < (l.length : Int)
    · exact ⟨c, g⟩
    · rw [if_neg g] at h
      exact absurd h (by omega)
  · rw [if_neg c] at h
    exact absurd h c

theorem q_places_p (l : List S66) (hl : l.length ≤ 1048576) (a : Int) : impl_placesFault.p l a = some (!decide (0 ≤ a ∧ a < (l.length : Int))) := by
  unfold impl_placesFault.p
  rw [q_isPlace l hl]
  rfl
theorem q_impl_places1 (l : List S66) (hl : l.length ≤ 1048576) (a : Int) : impl_placesFault.f l [a] = some (askedF l a) := by
  unfold impl_placesFault.f askedF
  rw [q_impl_TermsFault l hl, Option.bind_some]
  by_cases c : termsF l = 0
  · rw [if_pos c, if_pos c, idxO, q_places_p l hl, Option.bind_some]
    by_cases g : 0 ≤ a ∧ a < (l.length : Int)
    · rw [decide_eq_true g, Bool.not_true, if_neg (by simp), idxO, Option.bind_some, if_pos g]
      rfl
    · rw [decide_eq_false g, Bool.not_false, if_pos rfl, Option.bind_some, if_neg g]
      rfl
  · rw [if_neg c, if_neg c]
theorem q_impl_places2 (l : List S66) (hl : l.length ≤ 1048576) (a b : Int) : impl_placesFault.f l [a, b] = some (if askedF l a = 0 then askedF l b else askedF l a) := by
  unfold impl_placesFault.f
  rw [q_impl_TermsFault l hl, Option.bind_some]
  by_cases c : termsF l = 0
  · have h0 : ∀ x, askedF l x = if 0 ≤ x ∧ x < (l.length : Int) then 0 else 3 := fun x => by rw [askedF, if_pos c]
    rw [if_pos c, idxO, q_places_p l hl, Option.bind_some]
    by_cases g : 0 ≤ a ∧ a < (l.length : Int)
    · have ha : askedF l a = 0 := by rw [h0, if_pos g]
      rw [decide_eq_true g, Bool.not_true, if_neg (by simp), idxO, q_places_p l hl, Option.bind_some, if_pos ha]
      by_cases g2 : 0 ≤ b ∧ b < (l.length : Int)
      · rw [decide_eq_true g2, Bool.not_true, if_neg (by simp), idxO, Option.bind_some, h0, if_pos g2]
        rfl
      · rw [decide_eq_false g2, Bool.not_false, if_pos rfl, Option.bind_some, h0, if_neg g2]
        rfl
    · have ha : askedF l a = 3 := by rw [h0, if_neg g]
      rw [decide_eq_false g, Bool.not_false, if_pos rfl, Option.bind_some, ha]
      rfl
  · have h0 : ∀ x, askedF l x = termsF l := fun x => by rw [askedF, if_neg c]
    rw [if_neg c, h0, h0, if_neg c]

theorem q_szTermS {l : List S69} (h : l.length ≤ 1048576) : laws_szTermS.f l 1048576 = some (1048576 - (l.length : Int)) := by
  unfold laws_szTermS.f
  rw [w64 (by omega) (by omega), if_neg (by omega)]
theorem q_szTermS_big {l : List S69} (h : ¬ l.length ≤ 1048576) (hm : l.length ≤ maxLen) : laws_szTermS.f l 1048576 = some (-1) := by
  unfold laws_szTermS.f
  unfold maxLen at hm
  rw [w64 (by omega) (by omega), if_pos (by omega)]

theorem rdLTerm_nat (l : List S69) (i : Nat) (h : i < l.length) : rd_T69 l i = l[i] := getD_nat l _ i h

def cvTerm (x : S69) : S66 := ⟨x.f0, x.f1, x.f2, x.f3⟩
theorem q_toTerm (a b c d : Int) : laws_toTerm.f a b c d = some (a, b, c, d) := rfl
theorem ev_toTermS {l : List S69} (hn : l.length ≤ 1048576) : Ev (fun k => laws_toTermS.f k l) (l.map cvTerm) := by
  unfold laws_toTermS.f
  refine ev_pos (by omega) (ev_pos (by omega) ?_)
  refine map_loop (fun k b i => laws_toTermS.l0 k l b i) l cvTerm ?_ ?_ _ (by simp)
  · intro k b
    rw [laws_toTermS.l0, if_neg (by omega)]
  · intro k b i h hb
    rw [laws_toTermS.l0, if_pos (by omega), if_pos (by omega), q_toTerm, Option.bind_some, if_pos (by omega), w64 (by omega) (by omega), rdLTerm_nat l i h, Int.toNat_natCast]
    rfl

theorem q_eqTerm (a b c d : Int) : laws_eqTerm.f a b c d a b c d = some true := by
  simp [laws_eqTerm.f]
theorem ev_eqTermS {l : List S66} (hn : l.length ≤ 1048576) : Ev (fun k => laws_eqTermS.f k l l) true := by
  unfold laws_eqTermS.f
  refine ev_pos rfl ?_
  refine count_loop (fun k i => laws_eqTermS.l0 k l l i) l.length true ?_ ?_
  · intro k
    rw [laws_eqTermS.l0, if_neg (by omega)]
  · intro k i h
    rw [laws_eqTermS.l0, if_pos (by omega), if_pos (by omega), if_pos (by omega), q_eqTerm, Option.bind_some, if_pos rfl, w64 (by omega) (by omega)]
    rfl

theorem ev_markInt64S_loop : ∀ (d i : Nat) (b : List Int), i + d = b.length → b.length ≤ 4294967296 → (∀ j : Nat, j < i → b[j]? = some (1 + (j : Int))) →
    ∃ r, Ev (fun k => laws_markInt64S.l0 k b (1 + (i : Int)) i) (1 + (b.length : Int), r) ∧ r.length = b.length ∧ ∀ j : Nat, j < b.length → r[j]? = some (1 + (j : Int)) := by
  intro d
  induction d with
  | zero =>
    intro i b hi hl hj
    obtain rfl : i = b.length := by omega
    refine ⟨b, Ev.step (fun k => by rw [laws_markInt64S.l0, if_neg (by omega)]) ?_, rfl, hj⟩
    exact ev_some _
  | succ d ih =>
    intro i b hi hl hj
    obtain ⟨r, hr, hrl, hrj⟩ := ih (i + 1) (b.set i (1 + (i : Int))) (by simp; omega) (by simpa using hl) (fun j h => by
      rw [List.getElem?_set]
      by_cases e : i = j
      · subst e
        rw [if_pos rfl, if_pos (by omega)]
      · rw [if_neg e]
        exact hj j (by omega))
    rw [List.length_set] at hr hrl hrj
    refine ⟨r, Ev.step (fun k => by rw [laws_markInt64S.l0, if_pos (by omega), if_pos (by omega), Int.toNat_natCast, w64 (by omega) (by omega), w64 (by omega) (by omega)]) ?_, hrl, hrj⟩
    rw [show 1 + (i : Int) + 1 = 1 + ((i + 1 : Nat) : Int) from by omega]
    exact hr
theorem ev_heldInt64S_loop (r : List Int) (hl : r.length ≤ 4294967296) (hj : ∀ j : Nat, j < r.length → r[j]? = some (1 + (j : Int))) : ∀ i, i ≤ r.length → Ev (fun k => laws_heldInt64S.l0 k r (1 + (i : Int)) i) (1 + (r.length : Int)) := by
  refine down r.length ?_ ?_
  · refine Ev.step (fun k => by rw [laws_heldInt64S.l0, if_neg (by omega)]) ?_
    exact ev_some _
  · intro i hi ih
    have h1 := hj i hi
    rw [List.getElem?_eq_getElem hi] at h1
    have h2 : rd r (i : Int) = 1 + (i : Int) := by
      rw [rd_nat r i hi]
      exact Option.some.inj h1
    refine Ev.step (fun k => by rw [laws_heldInt64S.l0, if_pos (by omega), if_pos (by omega), if_pos h2, w64 (by omega) (by omega), w64 (by omega) (by omega)]) ?_
    rw [show 1 + (i : Int) + 1 = 1 + ((i + 1 : Nat) : Int) from by omega]
    exact ih
/-- Marks laid into a row of bytes are found there again. -/
theorem ev_markheldInt64S (l : List Int) (hl : l.length ≤ 4294967296) : ∃ r, Ev (fun k => laws_markInt64S.f k l 1) (1 + (l.length : Int), r) ∧ Ev (fun k => laws_heldInt64S.f k r 1) (1 + (l.length : Int)) := by
  obtain ⟨r, hr, hrl, hrj⟩ := ev_markInt64S_loop l.length 0 l (by omega) hl (fun j h => by omega)
  have h := ev_heldInt64S_loop r (by omega) (fun j h => hrj j (by omega)) 0 (by omega)
  rw [hrl] at h
  exact ⟨r, hr, h⟩

theorem ev_eqInt64S {l : List Int} (hn : l.length ≤ 1048576) : Ev (fun k => laws_eqInt64S.f k l l) true := by
  unfold laws_eqInt64S.f
  refine ev_pos rfl ?_
  refine count_loop (fun k i => laws_eqInt64S.l0 k l l i) l.length true ?_ ?_
  · intro k
    rw [laws_eqInt64S.l0, if_neg (by omega)]
  · intro k i h
    rw [laws_eqInt64S.l0, if_pos (by omega), if_pos (by omega), if_pos (by omega), if_pos rfl, w64 (by omega) (by omega)]
    rfl

theorem ev_eqIntsResult (c : Int) {l : List Int} (h : l.length ≤ 1048576) : Ev (fun k => laws_eqIntsResult.f k c l c l) true := by
  unfold laws_eqIntsResult.f
  exact ev_pos rfl (Ev.bind (ev_eqInt64S h) (ev_pos rfl (ev_some _)))
theorem ev_markheldIntsResult (c : Int) (l : List Int) (hl : l.length ≤ 4294967296) : ∃ r, Ev (fun k => laws_markIntsResult.f k c l 1) (1 + (l.length : Int), r) ∧ Ev (fun k => laws_heldIntsResult.f k c r 1) (1 + (l.length : Int)) := by
  obtain ⟨r, h1, h2⟩ := ev_markheldInt64S l hl
  refine ⟨r, ?_, ?_⟩
  · unfold laws_markIntsResult.f
    exact Ev.bind h1 (ev_some _)
  · unfold laws_heldIntsResult.f
    exact Ev.bind h2 (ev_neg (by omega) (ev_some _))

theorem ev_markTermS_loop (n : Nat) (hn : n ≤ 1048576) : ∀ (d i : Nat) (b : List S66), i + d = n → b.length = n → ∃ r, Ev (fun k => laws_markTermS.l0 k b (1 + 4 * (i : Int)) i) (1 + 4 * (n : Int), r) := by
  intro d
  induction d with
  | zero =>
    intro i b hi hl
    obtain rfl : i = n := by omega
    exact ⟨b, Ev.step (fun k => by rw [laws_markTermS.l0, if_neg (by omega)]) (ev_some _)⟩
  | succ d ih =>
    intro i b hi hl
    have hs : ∀ (B : List S66), B.length = n → ∃ r, Ev (fun k => laws_markTermS.l0 k B (1 + 4 * (i : Int) + 1 + 1 + 1 + 1) ((i : Int) + 1)) (1 + 4 * (n : Int), r) := by
      intro B hB
      obtain ⟨r, hr⟩ := ih (i + 1) B (by omega) hB
      refine ⟨r, ?_⟩
      rw [show 1 + 4 * (i : Int) + 1 + 1 + 1 + 1 = 1 + 4 * ((i + 1 : Nat) : Int) by omega]
      exact hr
    refine (hs _ ?_).imp fun r hr => Ev.step (fun k => by rw [laws_markTermS.l0, if_pos (by omega), if_pos (by omega), Option.bind_some, Option.bind_some, Option.bind_some, w64 (x := 1 + 4 * (i : Int) + 1) (by omega) (by omega), w64 (x := 1 + 4 * (i : Int) + 1 + 1) (by omega) (by omega), w64 (x := 1 + 4 * (i : Int) + 1 + 1 + 1) (by omega) (by omega), w64 (x := 1 + 4 * (i : Int) + 1 + 1 + 1 + 1) (by omega) (by omega), w64 (x := (i : Int) + 1) (by omega) (by omega)]) hr
    simpa using hl
theorem ev_markTermS (l : List S66) (hl : l.length ≤ 1048576) : ∃ r, Ev (fun k => laws_markTermS.f k l 1) (1 + 4 * (l.length : Int), r) := by
  obtain ⟨r, hr⟩ := ev_markTermS_loop l.length hl l.length 0 l (by omega) rfl
  exact ⟨r, hr⟩

def partsF (l : List S66) (a : Int) : Int × List Int := if askedF l a = 0 then (0, partsL l a) else (askedF l a, [])
theorem partsF_len (l : List S66) (a : Int) : (partsF l a).2.length ≤ 400 := by
  unfold partsF
  split
  · rename_i h
    obtain ⟨ht, h0, h1⟩ := askedF_ok h
    have := partsL_len l a
    have := (termsF_ok ht).1
    dsimp only
    omega
  · simp
theorem ev_spec_PartsOf (l : List S66) (hl : l.length ≤ 1048576) (a : Int) : Ev (fun k => spec_PartsOf.f k l a) (partsF l a) := by
  unfold spec_PartsOf.f partsF
  refine Ev.bind (ev_spec_l5Asked l hl a) (ev_cond (fun h => ?_) (fun h => ev_some _))
  obtain ⟨ht, h0, h1⟩ := askedF_ok h
  exact Ev.bind (ev_spec_l5Parts l ht a h0 h1) (ev_some _)
theorem ev_impl_PartsOf (l : List S66) (hl : l.length ≤ 1048576) (a : Int) : Ev (fun k => impl_PartsOf.f k l a) (partsF l a) := by
  unfold impl_PartsOf.f partsF
  refine ev_opt (q_impl_places1 l hl a) (ev_cond (fun h => ?_) (fun h => ev_some _))
  obtain ⟨ht, h0, h1⟩ := askedF_ok h
  exact Ev.bind (ev_impl_partsOf l ht a h0 h1) (ev_some _)
theorem FnExactPartsOf : laws_FnExactPartsOf.Pure := by
  intro l a hm
  intros
  apply Ev.rounds
  unfold laws_FnExactPartsOf.f
  by_cases h : l.length ≤ 1048576
  · have hc : (l.map cvTerm).length ≤ 1048576 := by simpa using h
    have hsp := ev_spec_PartsOf (l.map cvTerm) hc a
    have him := ev_impl_PartsOf (l.map cvTerm) hc a
    have hlen := partsF_len (l.map cvTerm) a
    generalize partsF (l.map cvTerm) a = z at *
    obtain ⟨z1, z2⟩ := z
    have hz : z2.length ≤ 1048576 := Nat.le_trans hlen (by omega)
    obtain ⟨r1, m1⟩ := ev_markTermS (l.map cvTerm) hc
    obtain ⟨r2, m2, m3⟩ := ev_markheldIntsResult z1 z2 (by omega)
    refine ev_opt (q_szTermS h) (ev_neg (by omega) ?_)
    refine Ev.bind (ev_toTermS h) (Ev.bind hsp (Ev.bind (ev_toTermS h) (Ev.bind him (Ev.bind (ev_eqIntsResult z1 hz) (ev_pos rfl ?_)))))
    refine Ev.bind (ev_toTermS h) (Ev.bind (ev_eqTermS hc) (ev_pos rfl (Ev.bind m1 (ev_neg (by omega) (Ev.bind (ev_eqIntsResult z1 hz) ?_)))))
    refine Ev.step (fun k => by rw [laws_FnExactPartsOf.j0, if_neg (by simp)]) ?_
    refine Ev.bind m2 (Ev.bind m3 (ev_neg (by omega) (ev_pos rfl ?_)))
    refine Ev.bind (ev_toTermS h) (Ev.bind him (Ev.bind (ev_eqIntsResult z1 hz) (ev_pos rfl ?_)))
    exact Ev.bind m3 (ev_neg (by omega) (ev_pos rfl (ev_some _)))
  · exact ev_opt (q_szTermS_big h hm) (ev_pos (by omega) (ev_some _))

end Go.Proofs.Ytihipdmjacplfaa.Pure
