
/- Proved: the law FnExactSameTerms answers true at every input that Go can hand in (it says: The program's SameTerms returns what the reference's returns, for all arguments.) No condition beyond the statement's own. -/
import Derived.Test.YtofaojdkpbheoaaStFnExactSameTerms
namespace Go.Proofs.Ytofaojdkpbheoaa.Pure
open Go.RowKit Go.Proofs.Ytofaojdkpbheoaa.PFnExactSameTerms Go.Proofs.YtofaojdkpbheoaaW.PrintWords Go.Proofs.YtofaojdkpbheoaaW.PrintLast Go.Proofs.YtofaojdkpbheoaaW.PrintMore
set_option linter.unusedVariables false
set_option linter.unusedSimpArgs false

theorem w64 {x : Int} (h0 : -9223372036854775808 ≤ x) (h1 : x ≤ 9223372036854775807) : wrap64 x = x := by
  unfold wrap64
  omega
theorem ev_some {α : Type} (r : α) : Ev (fun _ => some r) r := Ev.now r
theorem ev_pos {α : Type} {c : Prop} [Decidable c] {A B : Nat → Option α} {r : α} (h : c) (e : Ev A r) : Ev (fun k => if c then A k else B k) r := by
  simpa only [if_pos h] using e
theorem ev_neg {α : Type} {c : Prop} [Decidable c] {A B : Nat → Option α} {r : α} (h : ¬ c) (e : Ev B r) : Ev (fun k => if c then A k else B k) r := by
  simpa only [if_neg h] using e
theorem ev_opt {α β : Type} {o : Option α} {f : Nat → α → Option β} {a : α} {r : β} (h : o = some a) (e : Ev (fun n => f n a) r) : Ev (fun n => o.bind (f n)) r := by
  simpa only [h, Option.bind_some] using e
theorem ev_to {α : Type} {g : Nat → Option α} {r r' : α} (e : Ev g r) (h : r = r') : Ev g r' := h ▸ e
theorem take_full {α : Type} {a b : List α} (hl : b.length = a.length) (ht : b.take a.length = a.take a.length) : b = a := by
  rw [List.take_of_length_le (by omega), List.take_of_length_le (by omega)] at ht
  exact ht
theorem take_next {α : Type} {a b : List α} {i : Nat} (ha : i < a.length) (hb : i < b.length) (ht : b.take i = a.take i) (hx : b[i] = a[i]) : b.take (i + 1) = a.take (i + 1) := by
  rw [List.take_succ_eq_append_getElem ha, List.take_succ_eq_append_getElem hb, ht, hx]
theorem ev_cond {α : Type} {c : Prop} [Decidable c] {A B : Nat → Option α} {r r' : α} (hp : c → Ev A r) (hn : ¬ c → Ev B r') : Ev (fun k => if c then A k else B k) (if c then r else r') := by
  by_cases h : c
  · rw [if_pos h]; exact ev_pos h (hp h)
  · rw [if_neg h]; exact ev_neg h (hn h)
theorem set_take {α : Type} {a b : List α} {i : Nat} {x : α} (h : i < a.length) (hl : b.length = a.length) (ht : b.take i = a.take i) (hx : x = a[i]) : (b.set i x).take (i + 1) = a.take (i + 1) := by
  refine take_next h (by simp; omega) ?_ (by simp [hx])
  rw [← ht]
  apply List.ext_getElem?
  intro j
  simp only [List.getElem?_take, List.getElem?_set]
  by_cases hj : j < i
  · rw [if_pos hj, if_pos hj, if_neg (by omega)]
  · rw [if_neg hj, if_neg hj]
theorem ev_succ {α : Type} {g : Nat → Option α} {r : α} (h : ∀ k, g (k + 1) = some r) : Ev g r := Ev.step h (ev_some r)
theorem down {P : Nat → Prop} (n : Nat) (hend : P n) (hstep : ∀ i, i < n → P (i + 1) → P i) : ∀ i, i ≤ n → P i := by
  intro i hi
  obtain ⟨d, hd⟩ : ∃ d, i + d = n := ⟨n - i, by omega⟩
  induction d generalizing i with
  | zero =>
    obtain rfl : i = n := by omega
    exact hend
  | succ d ih => exact hstep i (by omega) (ih (i + 1) (by omega) (by omega))
theorem getD_nat {α : Type} (l : List α) (z : α) (i : Nat) (h : i < l.length) : l.getD (i : Int).toNat z = l[i] := by
  simp [List.getD_eq_getElem?_getD, h]
/-- A loop that writes the image of each element into its place. -/
theorem map_loop {α β : Type} (F : Nat → List β → Int → Option (List β)) (l : List α) (c : α → β)
    (hend : ∀ k (b : List β), F (k + 1) b l.length = some b) (hstep : ∀ k (b : List β) (i : Nat) (h : i < l.length), b.length = l.length → F (k + 1) b i = F k (b.set i (c l[i])) ((i + 1 : Nat) : Int)) :
    ∀ (b : List β), b.length = l.length → Ev (fun k => F k b 0) (l.map c) := by
  have key : ∀ (i : Nat), i ≤ l.length → ∀ (b : List β), b.length = l.length → b.take i = (l.map c).take i → Ev (fun k => F k b i) (l.map c) := by
    refine down l.length ?_ ?_
    · intro b hl ht
      refine Ev.step (fun k => hend k b) ?_
      rw [take_full (a := l.map c) (b := b) (by simpa using hl) (by simpa using ht)]
      exact ev_some _
    · intro i hi ih b hl ht
      refine Ev.step (fun k => hstep k b i hi hl) (ih _ (by simpa using hl) ?_)
      exact set_take (by simpa using hi) (by simpa using hl) ht (by simp)
  intro b hl
  exact key 0 (by omega) b hl (by simp)
/-- A loop that goes through all places and answers r. -/
theorem count_loop {ρ : Type} (F : Nat → Int → Option ρ) (n : Nat) (r : ρ) (hend : ∀ k, F (k + 1) n = some r) (hstep : ∀ k (i : Nat), i < n → F (k + 1) i = F k ((i + 1 : Nat) : Int)) : Ev (fun k => F k 0) r := by
  have key : ∀ i, i ≤ n → Ev (fun k => F k (i : Nat)) r := down n (Ev.step hend (ev_some r)) (fun i hi ih => Ev.step (fun k => hstep k i hi) ih)
  exact key 0 (by omega)

def kidsT (op : Int) : Int := if op = 3 ∨ op = 4 ∨ op = 5 ∨ op = 7 then 2 else if op = 6 then 1 else 0
def termF (s : List S34) (t : S34) : Int :=
  if 1 ≤ t.f0 ∧ t.f0 ≤ 7 then
    (if (0 < kidsT t.f0 ∧ t.f3 ≠ 0) ∨ (kidsT t.f0 < 1 ∧ t.f1 ≠ 0) ∨ (kidsT t.f0 < 2 ∧ t.f2 ≠ 0) then 1
     else if ¬ (0 ≤ t.f3 ∧ t.f3 ≤ 9999) ∨ (0 < kidsT t.f0 ∧ ¬ (0 ≤ t.f1 ∧ t.f1 < s.length)) ∨ (1 < kidsT t.f0 ∧ ¬ (0 ≤ t.f2 ∧ t.f2 < s.length)) then 3
     else if (t.f0 = 6 ∨ t.f0 = 7) ∧ ((rd_T34 s t.f1).f0 ≠ 2 ∨ (1 < kidsT t.f0 ∧ ((rd_T34 s t.f2).f0 ≠ 2 ∨ t.f1 > t.f2))) then 1 else 0)
  else 5

theorem ev_spec_l5Kids (op : Int) : Ev (fun k => spec_l5Kids.f k op) (kidsT op) := by
  refine ev_succ (fun k => ?_)
  unfold spec_l5Kids.f kidsT
  simp only [spec_l5Kids.j0]
  by_cases h3 : op = 3
  · simp [h3]
  · by_cases h4 : op = 4
    · simp [h4]
    · by_cases h5 : op = 5
      · simp [h5]
      · by_cases h7 : op = 7
        · simp [h7]
        · by_cases h6 : op = 6
          · simp [h6]
          · simp [h3, h4, h5, h6, h7]

theorem q_spec_l1In (a b c : Int) : spec_l1In.f a b c = some (decide (b ≤ a ∧ a ≤ c)) := by
  unfold spec_l1In.f
  by_cases h : b ≤ a
  · simp [h]
  · simp [h]

theorem ev_l5Term_j2 (s : List S34) (kk : Int) (b : Bool) (op A B N : Int) (hA : b = true → 0 ≤ A ∧ A < (s.length : Int)) (hB : b = true → 1 < kk → 0 ≤ B ∧ B < (s.length : Int)) :
    Ev (fun k => spec_l5Term.j2 k s kk b op A B N) (if b = true ∧ ((rd_T34 s A).f0 ≠ 2 ∨ (1 < kk ∧ ((rd_T34 s B).f0 ≠ 2 ∨ A > B))) then 1 else 0) := by
  refine ev_succ (fun k => ?_)
  rw [spec_l5Term.j2]
  cases b with
  | false => simp
  | true =>
    obtain ⟨a1, a2⟩ := hA rfl
    rw [if_pos rfl, if_pos a1, if_pos a2]
    by_cases g1 : (rd_T34 s A).f0 = 2
    · rw [if_pos g1]
      by_cases g2 : 1 < kk
      · obtain ⟨b1, b2⟩ := hB rfl g2
        rw [if_pos (by omega), if_pos b1, if_pos b2]
        by_cases g3 : (rd_T34 s B).f0 = 2
        · rw [if_pos g3]
          by_cases g4 : A > B
          · rw [if_pos g4, if_pos ⟨rfl, .inr ⟨g2, .inr g4⟩⟩]
          · rw [if_neg g4, if_neg (fun e => e.2.elim (fun h => h g1) (fun h => h.2.elim (fun h => h g3) g4))]
        · rw [if_neg g3, if_pos ⟨rfl, .inr ⟨g2, .inl g3⟩⟩]
      · rw [if_neg (by omega), if_neg (fun e => e.2.elim (fun h => h g1) (fun h => g2 h.1))]
    · rw [if_neg g1, if_pos ⟨rfl, .inl g1⟩]
theorem ev_l5Term_j1 (s : List S34) (kk : Int) (b : Bool) (op A B N : Int) (hA : b = false → op = 6 ∨ op = 7 → 0 ≤ A ∧ A < (s.length : Int)) (hB : b = false → op = 6 ∨ op = 7 → 1 < kk → 0 ≤ B ∧ B < (s.length : Int)) :
    Ev (fun k => spec_l5Term.j1 k s kk b op A B N) (if b = true then 3 else if (op = 6 ∨ op = 7) ∧ ((rd_T34 s A).f0 ≠ 2 ∨ (1 < kk ∧ ((rd_T34 s B).f0 ≠ 2 ∨ A > B))) then 1 else 0) := by
  cases b with
  | true =>
    refine Ev.step (fun k => by rw [spec_l5Term.j1, if_pos rfl]) ?_
    exact ev_some _
  | false =>
    rw [if_neg (by simp)]
    by_cases h6 : op = 6
    · refine Ev.step (fun k => by rw [spec_l5Term.j1, if_neg (by simp), if_pos h6]) ?_
      refine ev_to (ev_l5Term_j2 s kk true op A B N (fun _ => hA rfl (.inl h6)) (fun _ => hB rfl (.inl h6))) ?_
      simp [h6]
    · refine Ev.step (fun k => by rw [spec_l5Term.j1, if_neg (by simp), if_neg h6]) ?_
      refine ev_to (ev_l5Term_j2 s kk (op == 7) op A B N (fun e => hA rfl (.inr (by simpa using e))) (fun e => hB rfl (.inr (by simpa using e)))) ?_
      simp [h6]
theorem ev_l5Term_j0 (s : List S34) (hs : s.length ≤ 1048576) (op A B N : Int) (b : Bool) :
    Ev (fun k => spec_l5Term.j0 k s (kidsT op) b op A B N) (if b = true then 1 else if ¬ (0 ≤ N ∧ N ≤ 9999) ∨ (0 < kidsT op ∧ ¬ (0 ≤ A ∧ A < (s.length : Int))) ∨ (1 < kidsT op ∧ ¬ (0 ≤ B ∧ B < (s.length : Int))) then 3 else if (op = 6 ∨ op = 7) ∧ ((rd_T34 s A).f0 ≠ 2 ∨ (1 < kidsT op ∧ ((rd_T34 s B).f0 ≠ 2 ∨ A > B))) then 1 else 0) := by
  have hk6 : op = 6 ∨ op = 7 → 0 < kidsT op := by
    unfold kidsT
    rintro (rfl | rfl) <;> simp
  cases b with
  | true =>
    refine Ev.step (fun k => by rw [spec_l5Term.j0, if_pos rfl]) ?_
    exact ev_some _
  | false =>
    rw [if_neg (by simp)]
    refine Ev.step (fun k => by rw [spec_l5Term.j0, if_neg (by simp), w64 (by omega) (by omega)]) ?_
    refine ev_opt (q_spec_l1In _ _ _) ?_
    by_cases hN : 0 ≤ N ∧ N ≤ 9999
    · refine ev_pos (by simpa using hN) ?_
      by_cases k0 : 0 < kidsT op
      · refine ev_pos (by omega) (ev_opt (q_spec_l1In _ _ _) ?_)
        by_cases hA : 0 ≤ A ∧ A ≤ (s.length : Int) - 1
        · refine ev_pos (by simpa using hA) ?_
          by_cases k1 : 1 < kidsT op
          · refine ev_pos (by omega) (ev_opt (q_spec_l1In _ _ _) ?_)
            by_cases hB : 0 ≤ B ∧ B ≤ (s.length : Int) - 1
            · rw [decide_eq_true hB, if_neg (by omega)]
              exact ev_to (ev_l5Term_j1 s _ _ op A B N (fun _ _ => by omega) (fun _ _ _ => by omega)) (by simp)
            · rw [decide_eq_false hB, if_pos (by omega)]
              exact ev_to (ev_l5Term_j1 s _ _ op A B N (fun e => absurd e (by simp)) (fun e => absurd e (by simp))) (by simp)
          · refine ev_neg (by omega) ?_
            rw [if_neg (by omega)]
            exact ev_to (ev_l5Term_j1 s _ _ op A B N (fun _ _ => by omega) (fun _ _ e => absurd e k1)) (by simp)
        · refine ev_neg (by simpa using hA) ?_
          rw [if_pos (by omega)]
          exact ev_to (ev_l5Term_j1 s _ _ op A B N (fun e => absurd e (by simp)) (fun e => absurd e (by simp))) (by simp)
      · refine ev_neg (by omega) ?_
        refine ev_neg (by omega) ?_
        rw [if_neg (by omega)]
        exact ev_to (ev_l5Term_j1 s _ _ op A B N (fun _ e => absurd (hk6 e) k0) (fun _ e => absurd (hk6 e) k0)) (by simp)
    · refine ev_neg (by simpa using hN) ?_
      rw [if_pos (.inl hN)]
      exact ev_to (ev_l5Term_j1 s _ _ op A B N (fun e => absurd e (by simp)) (fun e => absurd e (by simp))) (by simp)
theorem ev_spec_l5Term (s : List S34) (hs : s.length ≤ 1048576) (t : S34) : Ev (fun k => spec_l5Term.f k s t.f0 t.f1 t.f2 t.f3) (termF s t) := by
  obtain ⟨op, A, B, N⟩ := t
  unfold spec_l5Term.f termF
  dsimp only
  refine ev_opt (q_spec_l1In _ _ _) ?_
  by_cases h : 1 ≤ op ∧ op ≤ 7
  · rw [if_pos h]
    refine ev_pos (by simpa using h) (Ev.bind (ev_spec_l5Kids op) ?_)
    have hj := ev_l5Term_j0 s hs op A B N
    by_cases k0 : 0 < kidsT op
    · refine ev_pos k0 ?_
      by_cases hN : N = 0
      · refine ev_pos hN (ev_neg (by omega) ?_)
        by_cases k2 : kidsT op < 2
        · refine ev_pos k2 (ev_to (hj (B != 0)) ?_)
          by_cases hB : B = 0
          · rw [if_neg (by simp [hB]), if_neg (show ¬ ((0 < kidsT op ∧ N ≠ 0) ∨ (kidsT op < 1 ∧ A ≠ 0) ∨ (kidsT op < 2 ∧ B ≠ 0)) by omega)]
          · rw [if_pos (by simp [hB]), if_pos (by omega)]
        · refine ev_neg k2 (ev_to (hj false) ?_)
          rw [if_neg (by simp), if_neg (show ¬ ((0 < kidsT op ∧ N ≠ 0) ∨ (kidsT op < 1 ∧ A ≠ 0) ∨ (kidsT op < 2 ∧ B ≠ 0)) by omega)]
      · refine ev_neg hN (ev_to (hj true) ?_)
        rw [if_pos rfl, if_pos (by omega)]
    · refine ev_neg k0 (ev_pos (by omega) ?_)
      by_cases hA : A = 0
      · refine ev_pos hA (ev_pos (by omega) (ev_to (hj (B != 0)) ?_))
        by_cases hB : B = 0
        · rw [if_neg (by simp [hB]), if_neg (show ¬ ((0 < kidsT op ∧ N ≠ 0) ∨ (kidsT op < 1 ∧ A ≠ 0) ∨ (kidsT op < 2 ∧ B ≠ 0)) by omega)]
        · rw [if_pos (by simp [hB]), if_pos (by omega)]
      · refine ev_neg hA (ev_to (hj true) ?_)
        rw [if_pos rfl, if_pos (by omega)]
  · rw [if_neg h]
    exact ev_neg (by simpa using h) (ev_some _)

theorem rdTerm_nat (l : List S34) (i : Nat) (h : i < l.length) : rd_T34 l i = l[i] := getD_nat l _ i h
theorem rdTerm_take (l : List S34) (i : Nat) (a : Int) (h0 : 0 ≤ a) (h : a < i) (hi : i ≤ l.length) : rd_T34 (l.take i) a = rd_T34 l a := by
  obtain ⟨n, rfl⟩ := Int.eq_ofNat_of_zero_le h0
  rw [rdTerm_nat _ n (by rw [List.length_take]; omega), rdTerm_nat l n (by omega), List.getElem_take]

def sameT (x y : S34) : Bool := x.f0 == y.f0 && (x.f1 == y.f1 && (x.f2 == y.f2 && x.f3 == y.f3))
theorem ev_spec_l5Find (s : List S34) (hs : s.length ≤ 1048576) (t : S34) : ∃ r, Ev (fun k => spec_l5Find.f k s t.f0 t.f1 t.f2 t.f3) r ∧ (0 ≤ r ↔ s.any (fun x => sameT x t) = true) := by
  have key : ∀ i, i ≤ s.length → ∃ r, Ev (fun k => spec_l5Find.l0 k s (i : Nat) t.f0 t.f1 t.f2 t.f3) r ∧ (0 ≤ r ↔ (s.drop i).any (fun x => sameT x t) = true) := by
    refine down s.length ?_ ?_
    · refine ⟨-1, Ev.step (fun k => by rw [spec_l5Find.l0, if_neg (by omega)]) (ev_some _), ?_⟩
      simp
    · intro i hi ih
      obtain ⟨r, hr, hm⟩ := ih
      rw [List.drop_eq_getElem_cons hi, List.any_cons]
      by_cases h : sameT s[i] t = true
      · refine ⟨(i : Int), Ev.step (fun k => by rw [spec_l5Find.l0, if_pos (by omega), if_pos (by omega), rdTerm_nat s i hi, show (s[i].f0 == t.f0 && (s[i].f1 == t.f1 && (s[i].f2 == t.f2 && s[i].f3 == t.f3))) = true from h, if_pos rfl]) (ev_some _), ?_⟩
        simp [h]
      · refine ⟨r, Ev.step (fun k => by rw [spec_l5Find.l0, if_pos (by omega), if_pos (by omega), rdTerm_nat s i hi, show (s[i].f0 == t.f0 && (s[i].f1 == t.f1 && (s[i].f2 == t.f2 && s[i].f3 == t.f3))) = false from Bool.eq_false_iff.mpr h, if_neg (by simp), w64 (by omega) (by omega)]; rfl) hr, ?_⟩
        simp only [Bool.not_eq_true] at h
        rw [h, Bool.false_or]
        exact hm
  have h := key 0 (by omega)
  rw [List.drop_zero] at h
  exact h

theorem q_l1Max (a b : Int) : spec_l1Max.f a b = some (if a > b then a else b) := by
  unfold spec_l1Max.f
  split <;> rfl
theorem q_l1Min (a b : Int) : spec_l1Min.f a b = some (if a < b then a else b) := by
  unfold spec_l1Min.f
  split <;> rfl

theorem q_l5Copy (l : List S34) (hl : l.length ≤ 1000) : spec_l5Copy.f l = some l := by
  unfold spec_l5Copy.f
  rw [Option.bind_some, if_pos (by simp; omega)]
  rfl
theorem ev_l5Put (l : List S34) (hl : l.length ≤ 1000) (a b c d : Int) : ∃ r, Ev (fun k => spec_l5Put.f k l a b c d) r ∧ r.2.2.length ≤ l.length + 1 := by
  obtain ⟨q, hq, _⟩ := ev_spec_l5Find l (by omega) ⟨a, b, c, d⟩
  have hT := ev_spec_l5Term l (by omega) ⟨a, b, c, d⟩
  unfold spec_l5Put.f
  by_cases h : termF l ⟨a, b, c, d⟩ = 0
  · by_cases h2 : q ≥ 0
    · exact ⟨(0, q, l), Ev.bind hT (ev_pos h (Ev.bind hq (ev_pos h2 (ev_opt (q_l5Copy l hl) (ev_some _))))), by dsimp only; omega⟩
    · by_cases h3 : (l.length : Int) ≥ 400
      · exact ⟨(2, 0, []), Ev.bind hT (ev_pos h (Ev.bind hq (ev_neg h2 (ev_pos h3 (ev_some _))))), by simp⟩
      · exact ⟨(0, (l.length : Int), l ++ [⟨a, b, c, d⟩]), Ev.bind hT (ev_pos h (Ev.bind hq (ev_neg h2 (ev_neg h3 (ev_opt (q_l5Copy l hl) (ev_opt rfl (ev_pos (by simp; omega) (ev_some _)))))))), by simp⟩
  · exact ⟨(termF l ⟨a, b, c, d⟩, 0, []), Ev.bind hT (ev_neg h (ev_some _)), by simp⟩
def Uq (T : List S34) : Prop := ∀ i j : Nat, i < T.length → j < T.length → rd_T34 T (i : Int) = rd_T34 T (j : Int) → i = j
theorem ev_l5Find_first (s : List S34) (hs : s.length ≤ 1048576) (t : S34) : ∃ r, Ev (fun k => spec_l5Find.f k s t.f0 t.f1 t.f2 t.f3) r ∧ ((0 ≤ r ∧ r < (s.length : Int) ∧ rd_T34 s r = t) ∨ (r < 0 ∧ ∀ i : Nat, i < s.length → rd_T34 s (i : Int) ≠ t)) := by
  have key : ∀ i, i ≤ s.length → ∃ r, Ev (fun k => spec_l5Find.l0 k s (i : Nat) t.f0 t.f1 t.f2 t.f3) r ∧ ((0 ≤ r ∧ r < (s.length : Int) ∧ rd_T34 s r = t) ∨ (r < 0 ∧ ∀ j : Nat, i ≤ j → j < s.length → rd_T34 s (j : Int) ≠ t)) := by
    refine down s.length ?_ ?_
    · exact ⟨-1, Ev.step (fun k => by rw [spec_l5Find.l0, if_neg (by omega)]) (ev_some _), .inr ⟨by omega, fun j h1 h2 => absurd h2 (by omega)⟩⟩
    · intro i hi ih
      obtain ⟨r, hr, hm⟩ := ih
      by_cases h : rd_T34 s (i : Int) = t
      · refine ⟨(i : Int), Ev.step (fun k => by rw [spec_l5Find.l0, if_pos (by omega), if_pos (by omega), h, if_pos (by simp)]) (ev_some _), .inl ⟨by omega, by omega, h⟩⟩
      · have hf : ¬ ((rd_T34 s (i : Int)).f0 == t.f0 && ((rd_T34 s (i : Int)).f1 == t.f1 && ((rd_T34 s (i : Int)).f2 == t.f2 && (rd_T34 s (i : Int)).f3 == t.f3))) = true := by
          intro hc
          simp only [Bool.and_eq_true, beq_iff_eq] at hc
          apply h
          generalize rd_T34 s (i : Int) = u at hc
          cases u
          cases t
          simp_all
        refine ⟨r, Ev.step (fun k => by rw [spec_l5Find.l0, if_pos (by omega), if_pos (by omega), if_neg hf, w64 (by omega) (by omega)]; rfl) hr, ?_⟩
        rcases hm with hm | ⟨h1, h2⟩
        · exact .inl hm
        · refine .inr ⟨h1, fun j hj hjl => ?_⟩
          by_cases e : j = i
          · rw [e]
            exact h
          · exact h2 j (by omega) hjl
  obtain ⟨r, h1, h2⟩ := key 0 (by omega)
  refine ⟨r, h1, h2.imp id (fun h => ⟨h.1, fun i hi => h.2 i (by omega) hi⟩)⟩
/-- A right term put into a table: found, or laid behind, or no room. -/
theorem ev_put (T : List S34) (hT : T.length ≤ 400) (t : S34) (ht : termF T t = 0) :
    (∃ r, 0 ≤ r ∧ r < (T.length : Int) ∧ rd_T34 T r = t ∧ Ev (fun k => spec_l5Put.f k T t.f0 t.f1 t.f2 t.f3) (0, r, T)) ∨
    ((∀ i : Nat, i < T.length → rd_T34 T (i : Int) ≠ t) ∧ T.length < 400 ∧ Ev (fun k => spec_l5Put.f k T t.f0 t.f1 t.f2 t.f3) (0, (T.length : Int), T ++ [t])) ∨
    ((∀ i : Nat, i < T.length → rd_T34 T (i : Int) ≠ t) ∧ T.length = 400 ∧ Ev (fun k => spec_l5Put.f k T t.f0 t.f1 t.f2 t.f3) (2, 0, [])) := by
  obtain ⟨r, hr, hm⟩ := ev_l5Find_first T (by omega) t
  have hE := ev_spec_l5Term T (by omega) t
  unfold spec_l5Put.f
  rcases hm with ⟨h0, h1, h2⟩ | ⟨h0, h1⟩
  · exact .inl ⟨r, h0, h1, h2, Ev.bind hE (ev_pos ht (Ev.bind hr (ev_pos h0 (ev_opt (q_l5Copy T (by omega)) (ev_some _)))))⟩
  · by_cases hf : (T.length : Int) ≥ 400
    · exact .inr (.inr ⟨h1, by omega, Ev.bind hE (ev_pos ht (Ev.bind hr (ev_neg (by omega) (ev_pos hf (ev_some _)))))⟩)
    · exact .inr (.inl ⟨h1, by omega, Ev.bind hE (ev_pos ht (Ev.bind hr (ev_neg (by omega) (ev_neg hf (ev_opt (q_l5Copy T (by omega)) (ev_opt rfl (ev_pos (by simp; omega) (ev_some _))))))))⟩)
theorem rdTerm_app (T U : List S34) (i : Int) (h0 : 0 ≤ i) (h : i < (T.length : Int)) : rd_T34 (T ++ U) i = rd_T34 T i := by
  obtain ⟨n, rfl⟩ := Int.eq_ofNat_of_zero_le h0
  rw [rdTerm_nat _ n (by simp; omega), rdTerm_nat _ n (by omega), List.getElem_append_left (by omega)]
theorem rdTerm_end (T : List S34) (t : S34) : rd_T34 (T ++ [t]) (T.length : Int) = t := by
  rw [rdTerm_nat _ T.length (by simp)]
  simp
theorem Uq.add {T : List S34} (h : Uq T) {t : S34} (hn : ∀ i : Nat, i < T.length → rd_T34 T (i : Int) ≠ t) : Uq (T ++ [t]) := by
  intro i j hi hj e
  rw [List.length_append, List.length_singleton] at hi hj
  by_cases ci : i < T.length
  · by_cases cj : j < T.length
    · rw [rdTerm_app _ _ _ (by omega) (by omega), rdTerm_app _ _ _ (by omega) (by omega)] at e
      exact h i j ci cj e
    · obtain rfl : j = T.length := by omega
      rw [rdTerm_app _ _ _ (by omega) (by omega), rdTerm_end] at e
      exact absurd e (hn i ci)
  · obtain rfl : i = T.length := by omega
    by_cases cj : j < T.length
    · rw [rdTerm_end, rdTerm_app _ _ _ (by omega) (by omega)] at e
      exact absurd e.symm (hn j cj)
    · omega

def scanT : List S34 → List S34 → Int
  | _, [] => 0
  | s, t :: ts => if termF s t = 0 then (if s.any (fun x => sameT x t) = true then 7 else scanT (s ++ [t]) ts) else termF s t
def termsF (l : List S34) : Int := if 400 < l.length then 2 else scanT [] l

theorem q_impl_in (a b c : Int) : impl_in.f a b c = some (decide (b ≤ a ∧ a ≤ c)) := by
  unfold impl_in.f
  by_cases h : b ≤ a
  · simp [h]
  · simp [h]

theorem q_isPlace (s : List S34) (hs : s.length ≤ 1048576) (a : Int) : impl_isPlace.f s a = some (decide (0 ≤ a ∧ a < (s.length : Int))) := by
  unfold impl_isPlace.f
  rw [q_impl_in, Option.bind_some, w64 (by omega) (by omega)]
  congr 2
  simp only [eq_iff_iff]
  omega
theorem q_names12 {op : Int} (h : op = 1 ∨ op = 2) : impl_namesOf.f 9 op = some (false, false, true) := by
  rcases h with rfl | rfl <;> rfl
theorem q_names6 : impl_namesOf.f 9 6 = some (true, false, false) := rfl
theorem q_namesP {op : Int} (h1 : op ≠ 1) (h2 : op ≠ 2) (h6 : op ≠ 6) : impl_namesOf.f 9 op = some (true, true, false) := by
  simp [impl_namesOf.f, impl_namesOf.j0, h1, h2, h6]
theorem q_impl_fault (s : List S34) (hs : s.length ≤ 1048576) (t : S34) : impl_Term_fault.f t.f0 t.f1 t.f2 t.f3 s = some (termF s t) := by
  obtain ⟨op, A, B, N⟩ := t
  have hp1 : ∀ a, impl_Term_fault.p1 s a = some (!decide (0 ≤ a ∧ a < (s.length : Int))) := fun a => by
    rw [impl_Term_fault.p1, q_isPlace s hs]
    rfl
  have hp2 : ∀ a, 0 ≤ a ∧ a < (s.length : Int) → impl_Term_fault.p2 s a = some ((rd_T34 s a).f0 != 2) := fun a h => by
    rw [impl_Term_fault.p2, if_pos h.1, if_pos h.2]
  unfold impl_Term_fault.f termF
  dsimp only
  rw [q_impl_in, Option.bind_some]
  by_cases h12 : op = 1 ∨ op = 2
  · have hk : kidsT op = 0 := by
      unfold kidsT
      rw [if_neg (by omega), if_neg (by omega)]
    have hps : impl_Term_parts.f 9 op A B N = some [] := by rw [impl_Term_parts.f, q_names12 h12]; rfl
    rw [q_names12 h12, Option.bind_some, q_impl_in, Option.bind_some, hps, Option.bind_some, idxO, Option.bind_some, if_neg (by omega), idxO, Option.bind_some, hk]
    refine congrArg some ?_
    simp only [impl_Term_fault.r, decide_eq_true_eq, true_and, reduceCtorEq, false_and, or_false, false_or]
    (repeat' split) <;> (first | omega | simp_all)
  · by_cases h6 : op = 6
    · subst h6
      have hk : kidsT 6 = 1 := rfl
      have hps : impl_Term_parts.f 9 6 A B N = some [A] := by rw [impl_Term_parts.f, q_names6]; rfl
      rw [q_names6, Option.bind_some, q_impl_in, Option.bind_some, hps, Option.bind_some, idxO, hp1, Option.bind_some, hk]
      by_cases ha : 0 ≤ A ∧ A < (s.length : Int)
      · rw [decide_eq_true ha, Bool.not_true, if_neg (by simp), idxO, Option.bind_some, if_neg (by omega), idxO, hp2 A ha, Option.bind_some]
        by_cases g : (rd_T34 s A).f0 = 2
        · rw [if_neg (by simp [g]), idxO, Option.bind_some]
          refine congrArg some ?_
          simp only [impl_Term_fault.r, decide_eq_true_eq, true_and, reduceCtorEq, false_and, or_false, false_or]
          (repeat' split) <;> (first | omega | simp_all)
        · rw [if_pos (by simp [g]), Option.bind_some]
          refine congrArg some ?_
          simp only [impl_Term_fault.r, decide_eq_true_eq, true_and, reduceCtorEq, false_and, or_false, false_or]
          (repeat' split) <;> (first | omega | simp_all)
      · rw [decide_eq_false ha, Bool.not_false, if_pos rfl, Option.bind_some, if_pos (by omega), Option.bind_some]
        refine congrArg some ?_
        simp only [impl_Term_fault.r, decide_eq_true_eq, true_and, reduceCtorEq, false_and, or_false, false_or]
        (repeat' split) <;> (first | omega | simp_all)
    · have hps : impl_Term_parts.f 9 op A B N = some [A, B] := by rw [impl_Term_parts.f, q_namesP (by omega) (by omega) h6]; rfl
      have hk : 1 ≤ op ∧ op ≤ 7 → kidsT op = 2 := by
        intro h
        unfold kidsT
        rw [if_pos (by omega)]
      rw [q_namesP (by omega) (by omega) h6, Option.bind_some, q_impl_in, Option.bind_some, hps, Option.bind_some, idxO, hp1, Option.bind_some]
      have fin : ∀ (i j : Int), (1 ≤ op ∧ op ≤ 7 → (0 ≤ i ↔ ¬ ((0 ≤ A ∧ A < (s.length : Int)) ∧ (0 ≤ B ∧ B < (s.length : Int))))) → (¬ 0 ≤ i → (0 ≤ j ↔ (rd_T34 s A).f0 ≠ 2 ∨ (rd_T34 s B).f0 ≠ 2)) →
          impl_Term_fault.r op A B N (decide (1 ≤ op ∧ op ≤ 7)) true true false (decide (0 ≤ N ∧ N ≤ 9999)) i j = (if 1 ≤ op ∧ op ≤ 7 then
    (if (0 < kidsT op ∧ N ≠ 0) ∨ (kidsT op < 1 ∧ A ≠ 0) ∨ (kidsT op < 2 ∧ B ≠ 0) then 1
     else if ¬ (0 ≤ N ∧ N ≤ 9999) ∨ (0 < kidsT op ∧ ¬ (0 ≤ A ∧ A < s.length)) ∨ (1 < kidsT op ∧ ¬ (0 ≤ B ∧ B < s.length)) then 3
     else if (op = 6 ∨ op = 7) ∧ ((rd_T34 s A).f0 ≠ 2 ∨ (1 < kidsT op ∧ ((rd_T34 s B).f0 ≠ 2 ∨ A > B))) then 1 else 0)
  else 5) := by
        intro i j hi hj
        by_cases h : 1 ≤ op ∧ op ≤ 7
        · have hi := hi h
          rw [hk h]
          simp only [impl_Term_fault.r, decide_eq_true_eq, true_and, reduceCtorEq, false_and, or_false, false_or]
          (repeat' split) <;> (first | omega | simp_all)
        · simp only [impl_Term_fault.r, decide_eq_true_eq, true_and, reduceCtorEq, false_and, or_false, false_or]
          rw [if_neg h, if_neg h]
      by_cases ha : 0 ≤ A ∧ A < (s.length : Int)
      · rw [decide_eq_true ha, Bool.not_true, if_neg (by simp), idxO, hp1, Option.bind_some]
        by_cases hb : 0 ≤ B ∧ B < (s.length : Int)
        · rw [decide_eq_true hb, Bool.not_true, if_neg (by simp), idxO, Option.bind_some, if_neg (by omega), idxO, hp2 A ha, Option.bind_some]
          by_cases g : (rd_T34 s A).f0 = 2
          · rw [if_neg (by simp [g]), idxO, hp2 B hb, Option.bind_some]
            by_cases g2 : (rd_T34 s B).f0 = 2
            · rw [if_neg (by simp [g2]), idxO, Option.bind_some, fin _ _ (fun _ => by omega) (fun _ => by simp [g, g2])]
            · rw [if_pos (by simp [g2]), Option.bind_some, fin _ _ (fun _ => by omega) (fun _ => by simp [g, g2])]
          · rw [if_pos (by simp [g]), Option.bind_some, fin _ _ (fun _ => by omega) (fun _ => by simp [g])]
        · rw [decide_eq_false hb, Bool.not_false, if_pos rfl, Option.bind_some, if_pos (by omega), Option.bind_some, fin _ _ (fun _ => by omega) (fun h => absurd (by omega) h)]
      · rw [decide_eq_false ha, Bool.not_false, if_pos rfl, Option.bind_some, if_pos (by omega), Option.bind_some, fin _ _ (fun _ => by omega) (fun h => absurd (by omega) h)]

theorem termF_ok {s : List S34} {t : S34} (h : termF s t = 0) : (1 ≤ t.f0 ∧ t.f0 ≤ 7) ∧ (0 < kidsT t.f0 → t.f3 = 0 ∧ 0 ≤ t.f1 ∧ t.f1 < s.length) ∧ (kidsT t.f0 < 1 → t.f1 = 0) ∧ (kidsT t.f0 < 2 → t.f2 = 0) ∧ (1 < kidsT t.f0 → 0 ≤ t.f2 ∧ t.f2 < s.length) ∧ 0 ≤ t.f3 ∧ t.f3 ≤ 9999 ∧
    (t.f0 = 6 ∨ t.f0 = 7 → (rd_T34 s t.f1).f0 = 2) ∧ (t.f0 = 7 → (rd_T34 s t.f2).f0 = 2 ∧ t.f1 ≤ t.f2) := by
  have hk7 : t.f0 = 7 → kidsT t.f0 = 2 := fun e => by rw [e]; rfl
  unfold termF at h
  by_cases c0 : 1 ≤ t.f0 ∧ t.f0 ≤ 7
  · rw [if_pos c0] at h
    by_cases c1 : (0 < kidsT t.f0 ∧ t.f3 ≠ 0) ∨ (kidsT t.f0 < 1 ∧ t.f1 ≠ 0) ∨ (kidsT t.f0 < 2 ∧ t.f2 ≠ 0)
    · rw [if_pos c1] at h
      exact absurd h (by omega)
    · rw [if_neg c1] at h
      by_cases c2 : ¬ (0 ≤ t.f3 ∧ t.f3 ≤ 9999) ∨ (0 < kidsT t.f0 ∧ ¬ (0 ≤ t.f1 ∧ t.f1 < s.length)) ∨ (1 < kidsT t.f0 ∧ ¬ (0 ≤ t.f2 ∧ t.f2 < s.length))
      · rw [if_pos c2] at h
        exact absurd h (by omega)
      · rw [if_neg c2] at h
        by_cases c3 : (t.f0 = 6 ∨ t.f0 = 7) ∧ ((rd_T34 s t.f1).f0 ≠ 2 ∨ (1 < kidsT t.f0 ∧ ((rd_T34 s t.f2).f0 ≠ 2 ∨ t.f1 > t.f2)))
        · rw [if_pos c3] at h
          exact absurd h (by omega)
        · refine ⟨c0, ?_, ?_, ?_, ?_, ?_, ?_, ?_, ?_⟩ <;> omega
  · rw [if_neg c0] at h
    exact absurd h (by omega)
theorem sameT_eqT (x t : S34) : eqT t x = sameT x t := by
  unfold eqT sameT
  rw [Bool.eq_iff_iff]
  simp
  constructor
  · rintro ⟨h1, h2, h3, h4⟩
    exact ⟨h1.symm, h2.symm, h3.symm, h4.symm⟩
  · rintro ⟨h1, h2, h3, h4⟩
    exact ⟨h1.symm, h2.symm, h3.symm, h4.symm⟩
theorem q_TermsFault_l : ∀ (ts s : List S34), s.length + ts.length ≤ 1048576 → impl_TermsFault.l s ts = some (scanT s ts)
  | [], _, _ => by rw [impl_TermsFault.l, scanT]
  | t :: ts, s, h => by
    rw [List.length_cons] at h
    rw [impl_TermsFault.l, q_impl_fault s (by omega) t, Option.bind_some, scanT]
    by_cases c : termF s t = 0
    · have hk := termF_ok c
      have hr : okT t = true := by
        unfold okT okI
        simp only [Bool.and_eq_true, decide_eq_true_eq]
        have h0 := hk.1
        by_cases k0 : 0 < kidsT t.f0 <;> by_cases k1 : 1 < kidsT t.f0 <;> omega
      rw [if_pos c, if_pos c, if_pos hr]
      have ha : s.any (eqT t) = s.any (fun x => sameT x t) := by
        congr 1
        funext x
        exact sameT_eqT x t
      rw [ha]
      by_cases g : s.any (fun x => sameT x t) = true
      · rw [if_pos g, if_pos g]
      · rw [if_neg g, if_neg g]
        exact q_TermsFault_l ts _ (by rw [List.length_append, List.length_singleton]; omega)
    · rw [if_neg c, if_neg c]
theorem q_impl_TermsFault (l : List S34) (hl : l.length ≤ 1048576) : impl_TermsFault.f l = some (termsF l) := by
  unfold impl_TermsFault.f termsF
  by_cases h : 400 < l.length
  · rw [if_pos h, if_pos h]
  · rw [if_neg h, if_neg h, q_TermsFault_l l [] (by simpa using hl)]

theorem scanT_ok : ∀ (ts s : List S34), scanT s ts = 0 → ∀ i (h : i < ts.length), termF (s ++ ts.take i) ts[i] = 0
  | [], _, _, i, h => absurd h (by simp)
  | t :: ts, s, e, i, h => by
    rw [scanT] at e
    by_cases c : termF s t = 0
    · rw [if_pos c] at e
      by_cases g : s.any (fun x => sameT x t) = true
      · rw [if_pos g] at e
        exact absurd e (by omega)
      · rw [if_neg g] at e
        cases i with
        | zero => simpa using c
        | succ i =>
          have := scanT_ok ts (s ++ [t]) e i (by simpa using h)
          simpa using this
    · rw [if_neg c] at e
      exact absurd e c
theorem termsF_ok {l : List S34} (h : termsF l = 0) : l.length ≤ 400 ∧ ∀ i (h : i < l.length), termF (l.take i) l[i] = 0 := by
  unfold termsF at h
  by_cases c : 400 < l.length
  · rw [if_pos c] at h
    exact absurd h (by omega)
  · rw [if_neg c] at h
    refine ⟨by omega, fun i hi => ?_⟩
    have := scanT_ok l [] h i hi
    simpa using this
theorem kids_cases (op : Int) : kidsT op = 0 ∨ kidsT op = 1 ∨ kidsT op = 2 := by
  unfold kidsT
  split
  · exact .inr (.inr rfl)
  · split
    · exact .inr (.inl rfl)
    · exact .inl rfl
/-- What is known of a term of a right table: its parts stand ahead of it. -/
theorem term_parts {l : List S34} (h : termsF l = 0) (i : Nat) (hi : i < l.length) : (1 ≤ l[i].f0 ∧ l[i].f0 ≤ 7) ∧ (0 < kidsT l[i].f0 → 0 ≤ l[i].f1 ∧ l[i].f1 < (i : Int)) ∧ (1 < kidsT l[i].f0 → 0 ≤ l[i].f2 ∧ l[i].f2 < (i : Int)) := by
  have hk := termF_ok ((termsF_ok h).2 i hi)
  have hl : (l.take i).length = i := by rw [List.length_take]; omega
  rw [hl] at hk
  exact ⟨hk.1, fun e => ⟨(hk.2.1 e).2.1, (hk.2.1 e).2.2⟩, hk.2.2.2.2.1⟩

def partsT (t : S34) : List Int := if kidsT t.f0 = 0 then [] else if kidsT t.f0 = 1 then [t.f1] else [t.f1, t.f2]
theorem ev_names (op : Int) (h : 1 ≤ op ∧ op ≤ 7) : Ev (fun k => impl_namesOf.f k op) (if kidsT op = 0 then (false, false, true) else if kidsT op = 1 then (true, false, false) else (true, true, false)) := by
  refine ev_succ (fun k => ?_)
  obtain h1 | h1 | h1 | h1 | h1 | h1 | h1 : op = 1 ∨ op = 2 ∨ op = 3 ∨ op = 4 ∨ op = 5 ∨ op = 6 ∨ op = 7 := by omega
  all_goals subst h1; rfl
theorem ev_parts (t : S34) (h : 1 ≤ t.f0 ∧ t.f0 ≤ 7) : Ev (fun k => impl_Term_parts.f k t.f0 t.f1 t.f2 t.f3) (partsT t) := by
  unfold impl_Term_parts.f partsT
  refine Ev.bind (ev_names t.f0 h) ?_
  rcases kids_cases t.f0 with e | e | e
  · rw [if_pos e, if_pos e]
    exact ev_pos rfl (ev_some _)
  · rw [if_neg (show ¬ kidsT t.f0 = 0 by omega), if_pos e, if_neg (show ¬ kidsT t.f0 = 0 by omega), if_pos e]
    exact ev_neg (by simp) (ev_neg (by simp) (ev_some _))
  · rw [if_neg (show ¬ kidsT t.f0 = 0 by omega), if_neg (show ¬ kidsT t.f0 = 1 by omega), if_neg (show ¬ kidsT t.f0 = 0 by omega), if_neg (show ¬ kidsT t.f0 = 1 by omega)]
    exact ev_neg (by simp) (ev_pos rfl (ev_some _))

def setP (is : List Bool) (t : S34) : List Bool := (partsT t).foldl (fun b p => b.set p.toNat true) is
def mkP (l : List S34) : Nat → List Bool → List Bool
  | 0, is => is
  | n + 1, is => mkP l n (if is.getD n false = true then setP is (rd_T34 l (n : Int)) else is)
theorem foldl_set_len : ∀ (ps : List Int) (is : List Bool), (ps.foldl (fun b p => b.set p.toNat true) is).length = is.length
  | [], _ => rfl
  | p :: ps, is => by rw [List.foldl_cons, foldl_set_len ps, List.length_set]
theorem setP_len (is : List Bool) (t : S34) : (setP is t).length = is.length := foldl_set_len _ _
theorem mkP_len (l : List S34) : ∀ (n : Nat) (is : List Bool), (mkP l n is).length = is.length
  | 0, _ => rfl
  | n + 1, is => by
    rw [mkP, mkP_len l n]
    split
    · exact setP_len is _
    · rfl
def colL : List Bool → Int → List Int
  | [], _ => []
  | b :: bs, i => (if b = true then [i] else []) ++ colL bs (i + 1)
theorem colL_len : ∀ (bs : List Bool) (i : Int), (colL bs i).length ≤ bs.length
  | [], _ => by simp [colL]
  | b :: bs, i => by
    have := colL_len bs (i + 1)
    rw [colL, List.length_append, List.length_cons]
    cases b <;> simp <;> omega
theorem rdOf_nat (l : List Bool) (i : Nat) : rdOf false l (i : Int) = l.getD i false := by
  unfold rdOf
  rw [Int.toNat_natCast]
theorem getD_get (l : List Bool) (i : Nat) (h : i < l.length) : l.getD i false = l[i] := by
  simp [List.getD_eq_getElem?_getD, h]
def partsL (l : List S34) (a : Int) : List Int := colL (mkP l (a.toNat + 1) ((List.replicate (a.toNat + 1) false).set a.toNat true)) 0
theorem partsL_len (l : List S34) (a : Int) : (partsL l a).length ≤ a.toNat + 1 := by
  have := colL_len (mkP l (a.toNat + 1) ((List.replicate (a.toNat + 1) false).set a.toNat true)) 0
  rw [mkP_len, List.length_set, List.length_replicate] at this
  exact this

theorem rdTerm_getD (l : List S34) (i : Nat) (h : i < l.length) : rd_T34 l (i : Int) = l[i] := getD_nat l _ i h
theorem kid_lt {l : List S34} (ht : termsF l = 0) (p : Int) (h0 : 0 ≤ p) (hp : p < (l.length : Int)) : ∀ k ∈ partsT (rd_T34 l p), 0 ≤ k ∧ k < p := by
  obtain ⟨i, rfl⟩ := Int.eq_ofNat_of_zero_le h0
  rw [rdTerm_getD l i (by omega)]
  obtain ⟨h1, h2, h3⟩ := term_parts ht i (by omega)
  intro k hk
  unfold partsT at hk
  rcases kids_cases l[i].f0 with e | e | e
  · rw [if_pos e] at hk
    simp at hk
  · rw [if_neg (by omega), if_pos e] at hk
    obtain rfl : k = l[i].f1 := by simpa using hk
    exact h2 (by omega)
  · rw [if_neg (by omega), if_neg (by omega)] at hk
    rcases (by simpa using hk : k = l[i].f1 ∨ k = l[i].f2) with rfl | rfl
    · exact h2 (by omega)
    · exact h3 (by omega)
theorem set_true (is : List Bool) (m i : Nat) : (is.set m true).getD i false = true ↔ is.getD i false = true ∨ (i < is.length ∧ m = i) := by
  simp only [List.getD_eq_getElem?_getD, List.getElem?_set]
  by_cases h : m = i
  · subst h
    by_cases h2 : m < is.length
    · simp [h2]
    · simp [h2]
  · simp [h]
theorem fold_true : ∀ (ps : List Int) (is : List Bool) (i : Nat), (ps.foldl (fun b p => b.set p.toNat true) is).getD i false = true ↔ is.getD i false = true ∨ (i < is.length ∧ ∃ p ∈ ps, p.toNat = i)
  | [], is, i => by simp
  | p :: ps, is, i => by
    rw [List.foldl_cons, fold_true ps, set_true, List.length_set]
    constructor
    · rintro ((h | ⟨h, e⟩) | ⟨h, q, hq, e⟩)
      · exact .inl h
      · exact .inr ⟨h, p, by simp, e⟩
      · exact .inr ⟨h, q, by simp [hq], e⟩
    · rintro (h | ⟨h, q, hq, e⟩)
      · exact .inl (.inl h)
      · rcases List.mem_cons.mp hq with rfl | hq
        · exact .inl (.inr ⟨h, e⟩)
        · exact .inr ⟨h, q, hq, e⟩
theorem setP_true (is : List Bool) (t : S34) (i : Nat) : (setP is t).getD i false = true ↔ is.getD i false = true ∨ (i < is.length ∧ ∃ p ∈ partsT t, p.toNat = i) := fold_true _ _ _
theorem mkP_mono (l : List S34) : ∀ (n : Nat) (is : List Bool) (i : Nat), is.getD i false = true → (mkP l n is).getD i false = true
  | 0, _, _, h => h
  | n + 1, is, i, h => by
    rw [mkP]
    refine mkP_mono l n _ i ?_
    split
    · exact (setP_true _ _ _).2 (.inl h)
    · exact h
theorem mkP_high {l : List S34} (ht : termsF l = 0) : ∀ (n : Nat) (is : List Bool) (i : Nat), n ≤ l.length → n ≤ i → (mkP l n is).getD i false = true → is.getD i false = true
  | 0, _, _, _, _, h => h
  | n + 1, is, i, hl, hi, h => by
    rw [mkP] at h
    have h2 := mkP_high ht n _ i (by omega) (by omega) h
    by_cases c : is.getD n false = true
    · rw [if_pos c] at h2
      rcases (setP_true _ _ _).1 h2 with h3 | ⟨_, p, hp, e⟩
      · exact h3
      · have := kid_lt ht (n : Int) (by omega) (by omega) p hp
        omega
    · rw [if_neg c] at h2
      exact h2
theorem mkP_closed {l : List S34} (ht : termsF l = 0) : ∀ (n : Nat) (is : List Bool), n ≤ l.length → n ≤ is.length → ∀ p : Nat, p < n → (mkP l n is).getD p false = true → ∀ k ∈ partsT (rd_T34 l (p : Int)), (mkP l n is).getD k.toNat false = true
  | 0, _, _, _, p, hp, _, _, _ => absurd hp (by omega)
  | n + 1, is, hl, hi, p, hp, h, k, hk => by
    rw [mkP] at h ⊢
    by_cases e : p = n
    · subst e
      have h2 := mkP_high ht p _ p (by omega) (Nat.le_refl _) h
      have hkl := kid_lt ht (p : Int) (by omega) (by omega) k hk
      have c : is.getD p false = true := by
        by_cases c : is.getD p false = true
        · exact c
        · rw [if_neg c] at h2
          exact h2
      rw [if_pos c]
      exact mkP_mono l p _ _ ((setP_true _ _ _).2 (.inr ⟨by omega, k, hk, rfl⟩))
    · exact mkP_closed ht n _ (by omega) (Nat.le_trans (show n ≤ is.length by omega) (by split <;> first | exact Nat.le_of_eq (setP_len is _).symm | exact Nat.le_refl _)) p (by omega) h k hk
theorem mkP_ind {l : List S34} (Q : Nat → Prop) : ∀ (n : Nat) (is : List Bool), (∀ i, is.getD i false = true → Q i) → (∀ p : Nat, p < n → Q p → ∀ k ∈ partsT (rd_T34 l (p : Int)), Q k.toNat) → ∀ i, (mkP l n is).getD i false = true → Q i
  | 0, _, h, _, i, hi => h i hi
  | n + 1, is, h, hs, i, hi => by
    rw [mkP] at hi
    refine mkP_ind Q n _ ?_ (fun p hp => hs p (by omega)) i hi
    intro j hj
    by_cases c : is.getD n false = true
    · rw [if_pos c] at hj
      rcases (setP_true _ _ _).1 hj with h3 | ⟨_, p, hp, e⟩
      · exact h j h3
      · exact e ▸ hs n (by omega) (h n c) p hp
    · rw [if_neg c] at hj
      exact h j hj
theorem colL_mem : ∀ (bs : List Bool) (i x : Int), x ∈ colL bs i ↔ ∃ j : Nat, x = i + j ∧ bs.getD j false = true
  | [], i, x => by simp [colL]
  | b :: bs, i, x => by
    rw [colL, List.mem_append, colL_mem bs]
    constructor
    · rintro (h | ⟨j, e, h⟩)
      · by_cases c : b = true
        · rw [if_pos c] at h
          exact ⟨0, by simpa using h, by simpa using c⟩
        · rw [if_neg c] at h
          simp at h
      · exact ⟨j + 1, by omega, by simpa using h⟩
    · rintro ⟨j, e, h⟩
      cases j with
      | zero =>
        left
        rw [if_pos (by simpa using h)]
        simpa using e
      | succ j => exact .inr ⟨j, by omega, by simpa using h⟩
theorem colL_sorted : ∀ (bs : List Bool) (i : Int), (colL bs i).Pairwise (· < ·)
  | [], i => by simp [colL]
  | b :: bs, i => by
    rw [colL]
    have h := colL_sorted bs (i + 1)
    by_cases c : b = true
    · rw [if_pos c]
      refine List.pairwise_cons.mpr ⟨fun y hy => ?_, h⟩
      obtain ⟨j, e, _⟩ := (colL_mem bs (i + 1) y).1 hy
      omega
    · rw [if_neg c, List.nil_append]
      exact h
theorem parts_mem (l : List S34) (x q : Int) : q ∈ partsL l x ↔ 0 ≤ q ∧ (mkP l (x.toNat + 1) ((List.replicate (x.toNat + 1) false).set x.toNat true)).getD q.toNat false = true := by
  unfold partsL
  rw [colL_mem]
  constructor
  · rintro ⟨j, e, h⟩
    have : q.toNat = j := by omega
    exact ⟨by omega, this ▸ h⟩
  · rintro ⟨h0, h⟩
    exact ⟨q.toNat, by omega, h⟩
theorem start_true (n i : Nat) : ((List.replicate (n + 1) false).set n true).getD i false = true ↔ i = n := by
  rw [set_true]
  simp [List.getD_eq_getElem?_getD, List.getElem?_replicate]
  constructor
  · rintro (h | ⟨_, e⟩)
    · split at h <;> simp at h
    · exact e.symm
  · intro e
    exact .inr ⟨by omega, e.symm⟩
theorem parts_self (l : List S34) (x : Int) (h0 : 0 ≤ x) : x ∈ partsL l x := (parts_mem l x x).2 ⟨h0, mkP_mono l _ _ _ ((start_true _ _).2 rfl)⟩
theorem parts_range {l : List S34} {x q : Int} (hx : 0 ≤ x) (h : q ∈ partsL l x) : 0 ≤ q ∧ q ≤ x := by
  obtain ⟨h0, h1⟩ := (parts_mem l x q).1 h
  refine ⟨h0, ?_⟩
  have : q.toNat < (mkP l (x.toNat + 1) ((List.replicate (x.toNat + 1) false).set x.toNat true)).length := by
    apply Classical.byContradiction
    intro hc
    rw [List.getD_eq_getElem?_getD, List.getElem?_eq_none (by omega)] at h1
    simp at h1
  rw [mkP_len, List.length_set, List.length_replicate] at this
  omega
theorem parts_closed {l : List S34} (ht : termsF l = 0) {x q k : Int} (hx : 0 ≤ x) (hl : x < (l.length : Int)) (h : q ∈ partsL l x) (hk : k ∈ partsT (rd_T34 l q)) : k ∈ partsL l x := by
  have hr := parts_range hx h
  obtain ⟨h0, h1⟩ := (parts_mem l x q).1 h
  have hkl := kid_lt ht q h0 (by omega) k hk
  refine (parts_mem l x k).2 ⟨hkl.1, mkP_closed ht _ _ (by omega) (by simp) q.toNat (by omega) h1 k ?_⟩
  rw [show ((q.toNat : Nat) : Int) = q by omega]
  exact hk
theorem parts_ind {l : List S34} (ht : termsF l = 0) {x : Int} (hx : 0 ≤ x) (hl : x < (l.length : Int)) (Q : Int → Prop) (h : Q x) (hs : ∀ q, 0 ≤ q → q ≤ x → Q q → ∀ k ∈ partsT (rd_T34 l q), Q k) : ∀ q ∈ partsL l x, Q q := by
  intro q hq
  obtain ⟨h0, h1⟩ := (parts_mem l x q).1 hq
  have := mkP_ind (fun i => Q (i : Int)) _ _ (fun i hi => by rw [(start_true _ _).1 hi, show ((x.toNat : Nat) : Int) = x by omega]; exact h) (fun p hp hQ k hk => by
    have hkl := kid_lt ht (p : Int) (by omega) (by omega) k hk
    rw [show ((k.toNat : Nat) : Int) = k by omega]
    exact hs p (by omega) (by omega) hQ k hk) q.toNat h1
  rw [show ((q.toNat : Nat) : Int) = q by omega] at this
  exact this
theorem parts_sorted (l : List S34) (x : Int) : (partsL l x).Pairwise (· < ·) := colL_sorted _ _

theorem ev_spec_l5Parts_l1 (is : List Bool) (hl : is.length ≤ 1048576) (a : Int) (ha : a + 1 = is.length) : ∀ i, i ≤ is.length → ∀ acc : List Int, acc.length ≤ i → Ev (fun k => spec_l5Parts.l1 k a is acc (i : Nat)) (acc ++ colL (is.drop i) (i : Nat)) := by
  refine down is.length ?_ ?_
  · intro acc _
    rw [List.drop_length, colL, List.append_nil]
    exact Ev.step (fun k => by rw [spec_l5Parts.l1, if_neg (by omega)]) (ev_some _)
  · intro i hi ih acc hacc
    rw [List.drop_eq_getElem_cons hi, colL]
    refine Ev.step (fun k => by rw [spec_l5Parts.l1, if_pos (by omega), if_pos (by omega), if_pos (by omega), rdOf_nat, getD_get is i hi, w64 (by omega) (by omega)]) ?_
    cases hb : is[i] with
    | true =>
      refine ev_pos rfl (ev_pos (by omega) ?_)
      have h1 := ih (acc ++ [(i : Int)]) (by rw [List.length_append, List.length_singleton]; omega)
      rw [if_pos rfl, ← List.append_assoc]
      exact h1
    | false =>
      refine ev_neg (by simp) ?_
      rw [if_neg (by simp), List.nil_append]
      exact ih acc (by omega)
theorem ev_spec_l5Parts_l0 (l : List S34) (ht : termsF l = 0) (a : Int) (R : List Int) : ∀ (n : Nat) (is : List Bool), n ≤ is.length → is.length ≤ l.length → Ev (fun k => spec_l5Parts.l1 k a (mkP l n is) [] 0) R → Ev (fun k => spec_l5Parts.l0 k l a is ((n : Int) - 1)) R := by
  have hl := (termsF_ok ht).1
  intro n
  induction n with
  | zero =>
    intro is _ _ h
    exact Ev.step (fun k => by rw [spec_l5Parts.l0, if_neg (by omega)]; rfl) h
  | succ n ih =>
    intro is hn hs h
    have hi : n < l.length := by omega
    obtain ⟨hop, hA, hB⟩ := term_parts ht n hi
    rw [show ((n + 1 : Nat) : Int) - 1 = (n : Int) by omega]
    refine Ev.step (fun k => by rw [spec_l5Parts.l0, if_pos (by omega), if_pos (by omega), if_pos (by omega), rdOf_nat, rdTerm_nat l n hi, w64 (by omega) (by omega)]) ?_
    rw [mkP, rdTerm_nat l n hi] at h
    by_cases g : is.getD n false = true
    · rw [if_pos g] at h
      refine ev_pos g (ev_pos (by omega) (Ev.bind (ev_spec_l5Kids _) ?_))
      have hend : ∀ (B : List Bool), B = setP is l[n] → Ev (fun k => spec_l5Parts.l0 k l a B ((n : Int) - 1)) R := by
        rintro B rfl
        exact ih _ (by rw [setP_len]; omega) (by rw [setP_len]; exact hs) h
      unfold setP partsT at hend
      rcases kids_cases l[n].f0 with e | e | e
      · rw [if_pos e] at hend
        exact ev_neg (by omega) (Ev.bind (ev_spec_l5Kids _) (ev_neg (by omega) (hend is rfl)))
      · have hA := hA (by omega)
        rw [if_neg (by omega), if_pos e] at hend
        refine ev_pos (by omega) (ev_pos hA.1 (ev_pos (by omega) (ev_opt rfl (Ev.bind (ev_spec_l5Kids _) (ev_neg (by omega) ?_)))))
        exact hend _ rfl
      · have hA := hA (by omega)
        have hB := hB (by omega)
        rw [if_neg (by omega), if_neg (by omega)] at hend
        refine ev_pos (by omega) (ev_pos hA.1 (ev_pos (by omega) (ev_opt rfl (Ev.bind (ev_spec_l5Kids _) (ev_pos (by omega) (ev_pos hB.1 (ev_pos (by omega) ?_)))))))
        exact hend _ rfl
    · rw [if_neg g] at h
      exact ev_neg g (ih is (by omega) hs h)
theorem ev_spec_l5Parts (l : List S34) (ht : termsF l = 0) (a : Int) (h0 : 0 ≤ a) (h1 : a < (l.length : Int)) : Ev (fun k => spec_l5Parts.f k l a) (partsL l a) := by
  have hl := (termsF_ok ht).1
  obtain ⟨n, rfl⟩ := Int.eq_ofNat_of_zero_le h0
  unfold spec_l5Parts.f partsL
  rw [w64 (by omega) (by omega), show ((n : Int) + 1).toNat = n + 1 by omega, Int.toNat_natCast]
  refine ev_pos (by omega) (ev_pos (by omega) ?_)
  refine ev_opt rfl (ev_pos h0 (ev_pos (by rw [List.length_replicate]; omega) ?_))
  have hk := ev_spec_l5Parts_l0 l ht n (colL (mkP l (n + 1) ((List.replicate (n + 1) false).set n true)) 0) (n + 1) ((List.replicate (n + 1) false).set n true) (by simp) (by simp; omega) (by
    have := ev_spec_l5Parts_l1 (mkP l (n + 1) ((List.replicate (n + 1) false).set n true)) (by rw [mkP_len]; simp; omega) n (by rw [mkP_len]; simp) 0 (by omega) [] (by simp)
    rw [List.drop_zero, List.nil_append] at this
    exact this)
  rw [show ((n + 1 : Nat) : Int) - 1 = (n : Int) by omega] at hk
  exact hk

/-- Made the same: the term x of the table a and the term y of the table b. -/
inductive Sm (a b : List S34) : Int → Int → Prop
  | leaf (x y : Int) : (rd_T34 a x).f0 = (rd_T34 b y).f0 → (rd_T34 a x).f3 = (rd_T34 b y).f3 → kidsT (rd_T34 a x).f0 = 0 → Sm a b x y
  | one (x y : Int) : (rd_T34 a x).f0 = (rd_T34 b y).f0 → (rd_T34 a x).f3 = (rd_T34 b y).f3 → kidsT (rd_T34 a x).f0 = 1 → Sm a b (rd_T34 a x).f1 (rd_T34 b y).f1 → Sm a b x y
  | two (x y : Int) : (rd_T34 a x).f0 = (rd_T34 b y).f0 → (rd_T34 a x).f3 = (rd_T34 b y).f3 → kidsT (rd_T34 a x).f0 = 2 → Sm a b (rd_T34 a x).f1 (rd_T34 b y).f1 → Sm a b (rd_T34 a x).f2 (rd_T34 b y).f2 → Sm a b x y
  | cross (x y : Int) : (rd_T34 a x).f0 = (rd_T34 b y).f0 → (rd_T34 a x).f3 = (rd_T34 b y).f3 → (rd_T34 a x).f0 = 7 → Sm a b (rd_T34 a x).f1 (rd_T34 b y).f2 → Sm a b (rd_T34 a x).f2 (rd_T34 b y).f1 → Sm a b x y
theorem Sm.op {a b : List S34} {x y : Int} (h : Sm a b x y) : (rd_T34 a x).f0 = (rd_T34 b y).f0 := by
  cases h <;> assumption
theorem Sm.num {a b : List S34} {x y : Int} (h : Sm a b x y) : (rd_T34 a x).f3 = (rd_T34 b y).f3 := by
  cases h <;> assumption
theorem kids7 : kidsT 7 = 2 := rfl
theorem Sm.kid1 {a b : List S34} {x y : Int} (h : Sm a b x y) (k : kidsT (rd_T34 a x).f0 = 1) : Sm a b (rd_T34 a x).f1 (rd_T34 b y).f1 := by
  cases h with
  | leaf _ _ h1 h2 h3 => exact absurd h3 (by omega)
  | one _ _ h1 h2 h3 h4 => exact h4
  | two _ _ h1 h2 h3 h4 h5 => exact h4
  | cross _ _ h1 h2 h3 h4 h5 => rw [h3, kids7] at k; exact absurd k (by omega)
theorem Sm.kid2 {a b : List S34} {x y : Int} (h : Sm a b x y) (k : kidsT (rd_T34 a x).f0 = 2) :
    (Sm a b (rd_T34 a x).f1 (rd_T34 b y).f1 ∧ Sm a b (rd_T34 a x).f2 (rd_T34 b y).f2) ∨ ((rd_T34 a x).f0 = 7 ∧ Sm a b (rd_T34 a x).f1 (rd_T34 b y).f2 ∧ Sm a b (rd_T34 a x).f2 (rd_T34 b y).f1) := by
  cases h with
  | leaf _ _ h1 h2 h3 => exact absurd h3 (by omega)
  | one _ _ h1 h2 h3 h4 => exact absurd h3 (by omega)
  | two _ _ h1 h2 h3 h4 h5 => exact .inl ⟨h4, h5⟩
  | cross _ _ h1 h2 h3 h4 h5 => exact .inr ⟨h3, h4, h5⟩

def kA (pl : List Int) (t : S34) : Int := if 0 < kidsT t.f0 then rd pl t.f1 else 0
def kB (pl : List Int) (t : S34) : Int := if 1 < kidsT t.f0 then rd pl t.f2 else 0
def mn (a b : Int) : Int := if a < b then a else b
def mx (a b : Int) : Int := if a > b then a else b
/-- The term t told anew, with the places of its parts. -/
def nm (pl : List Int) (t : S34) : S34 := if t.f0 = 7 then ⟨7, mn (kA pl t) (kB pl t), mx (kA pl t) (kB pl t), 0⟩ else ⟨t.f0, kA pl t, kB pl t, t.f3⟩
theorem nm_f0 (pl : List Int) (t : S34) : (nm pl t).f0 = t.f0 := by
  unfold nm
  split
  · rename_i h
    exact h.symm
  · rfl
theorem partsT_1 {t : S34} (h : 0 < kidsT t.f0) : t.f1 ∈ partsT t := by
  unfold partsT
  rcases kids_cases t.f0 with e | e | e
  · omega
  · rw [if_neg (by omega), if_pos e]
    simp
  · rw [if_neg (by omega), if_neg (by omega)]
    simp
theorem partsT_2 {t : S34} (h : 1 < kidsT t.f0) : t.f2 ∈ partsT t := by
  unfold partsT
  rw [if_neg (by omega), if_neg (by omega)]
  simp
theorem nm_cong {pl pl' : List Int} {t : S34} (h : ∀ k ∈ partsT t, rd pl' k = rd pl k) : nm pl' t = nm pl t := by
  have e1 : kA pl' t = kA pl t := by
    unfold kA
    split
    · rename_i c
      exact h _ (partsT_1 c)
    · rfl
  have e2 : kB pl' t = kB pl t := by
    unfold kB
    split
    · rename_i c
      exact h _ (partsT_2 c)
    · rfl
  unfold nm
  rw [e1, e2]
def Pd (b : List S34) (pl : List Int) (T : List S34) (q : Int) : Prop := 0 ≤ rd pl q ∧ rd pl q < (T.length : Int) ∧ rd_T34 T (rd pl q) = nm pl (rd_T34 b q)
theorem nm_ok {b : List S34} (hb : termsF b = 0) {q : Int} (q0 : 0 ≤ q) (q1 : q < (b.length : Int)) {pl : List Int} {T : List S34} (hk : ∀ k ∈ partsT (rd_T34 b q), Pd b pl T k) : termF T (nm pl (rd_T34 b q)) = 0 := by
  obtain ⟨i, rfl⟩ := Int.eq_ofNat_of_zero_le q0
  have hi : i < b.length := by omega
  have hkid := kid_lt hb (i : Int) q0 q1
  have ok := termF_ok ((termsF_ok hb).2 i hi)
  rw [← rdTerm_getD b i hi] at ok
  generalize rd_T34 b (i : Int) = t at *
  have htl : (b.take i).length = i := by rw [List.length_take]; omega
  have two : ∀ k ∈ partsT t, (rd_T34 (b.take i) k).f0 = 2 → (rd_T34 T (rd pl k)).f0 = 2 := fun k hm h2 => by
    have hkk := hkid k hm
    rw [(hk k hm).2.2, nm_f0, ← rdTerm_take b i k hkk.1 hkk.2 (by omega)]
    exact h2
  obtain ⟨o1, o2, o3, o4, o5, o6, o7, o8, o9⟩ := ok
  by_cases e7 : t.f0 = 7
  · have k2 : kidsT t.f0 = 2 := by rw [e7]; rfl
    have p1 := hk _ (partsT_1 (t := t) (by omega))
    have p2 := hk _ (partsT_2 (t := t) (by omega))
    have w1 := two _ (partsT_1 (by omega)) (o8 (.inr e7))
    have w2 := two _ (partsT_2 (by omega)) (o9 e7).1
    have eA : kA pl t = rd pl t.f1 := if_pos (by omega)
    have eB : kB pl t = rd pl t.f2 := if_pos (by omega)
    unfold Pd at p1 p2
    have r1 : rd_T34 T (mn (kA pl t) (kB pl t)) = rd_T34 T (rd pl t.f1) ∨ rd_T34 T (mn (kA pl t) (kB pl t)) = rd_T34 T (rd pl t.f2) := by
      rw [eA, eB]; unfold mn; split
      · exact .inl rfl
      · exact .inr rfl
    have r2 : rd_T34 T (mx (kA pl t) (kB pl t)) = rd_T34 T (rd pl t.f1) ∨ rd_T34 T (mx (kA pl t) (kB pl t)) = rd_T34 T (rd pl t.f2) := by
      rw [eA, eB]; unfold mx; split
      · exact .inl rfl
      · exact .inr rfl
    have r1 : (rd_T34 T (mn (kA pl t) (kB pl t))).f0 = 2 := by rcases r1 with h | h <;> rw [h] <;> assumption
    have r2 : (rd_T34 T (mx (kA pl t) (kB pl t))).f0 = 2 := by rcases r2 with h | h <;> rw [h] <;> assumption
    have rg : 0 ≤ mn (kA pl t) (kB pl t) ∧ mn (kA pl t) (kB pl t) < (T.length : Int) ∧ 0 ≤ mx (kA pl t) (kB pl t) ∧ mx (kA pl t) (kB pl t) < (T.length : Int) ∧ mn (kA pl t) (kB pl t) ≤ mx (kA pl t) (kB pl t) := by
      rw [eA, eB]; unfold mn mx
      refine ⟨?_, ?_, ?_, ?_, ?_⟩ <;> (repeat' split) <;> omega
    unfold nm termF
    rw [if_pos e7]
    dsimp only
    rw [if_pos (by omega), kids7, if_neg (by omega), if_neg (by omega), if_neg (by omega)]
  · unfold nm termF
    rw [if_neg e7]
    dsimp only
    rw [if_pos o1]
    rcases kids_cases t.f0 with e | e | e
    · have eA : kA pl t = 0 := if_neg (by omega)
      have eB : kB pl t = 0 := if_neg (by omega)
      have n6 : t.f0 ≠ 6 := fun e6 => by rw [e6] at e; exact absurd e (by decide)
      rw [eA, eB, e, if_neg (by omega), if_neg (by omega), if_neg (by omega)]
    · have p1 := hk _ (partsT_1 (t := t) (by omega))
      have eA : kA pl t = rd pl t.f1 := if_pos (by omega)
      have eB : kB pl t = 0 := if_neg (by omega)
      have w1 : t.f0 = 6 → (rd_T34 T (rd pl t.f1)).f0 = 2 := fun e6 => two _ (partsT_1 (by omega)) (o8 (.inl e6))
      unfold Pd at p1
      have o2' := o2 (by omega)
      rw [eA, eB, e, if_neg (by omega), if_neg (by omega), if_neg (by omega)]
    · have p1 := hk _ (partsT_1 (t := t) (by omega))
      have p2 := hk _ (partsT_2 (t := t) (by omega))
      have eA : kA pl t = rd pl t.f1 := if_pos (by omega)
      have eB : kB pl t = rd pl t.f2 := if_pos (by omega)
      have n6 : t.f0 ≠ 6 := fun e6 => by rw [e6] at e; exact absurd e (by decide)
      unfold Pd at p1 p2
      have o2' := o2 (by omega)
      rw [eA, eB, e, if_neg (by omega), if_neg (by omega), if_neg (by omega)]
theorem rd_mid (a : List Int) (x : Int) (c : List Int) : rd (a ++ x :: c) (a.length : Int) = x := by
  unfold rd
  simp [List.getD_eq_getElem?_getD]
theorem rd_set_same (pl : List Int) (q r : Int) (h0 : 0 ≤ q) (h : q < (pl.length : Int)) : rd (pl.set q.toNat r) q = r := by
  unfold rd
  simp only [List.getD_eq_getElem?_getD, List.getElem?_set]
  rw [if_pos trivial, if_pos (by omega)]
  rfl
theorem rd_set_other (pl : List Int) (q k r : Int) (h0 : 0 ≤ q) (h1 : 0 ≤ k) (h : k ≠ q) : rd (pl.set q.toNat r) k = rd pl k := by
  unfold rd
  simp only [List.getD_eq_getElem?_getD, List.getElem?_set]
  rw [if_neg (by omega)]
structure MoveI (b T0 : List S34) (y : Int) (HH : Prop) (S : Int → Int → Prop) (done pl : List Int) (T : List S34) : Prop where
  len : (pl.length : Int) = y + 1
  tl : T.length ≤ 400
  uq : Uq T
  ext : ∃ e, T = T0 ++ e
  grow : T.length ≤ T0.length + done.length
  pd : ∀ q ∈ done, Pd b pl T q
  ng : HH → T = T0 ∧ ∀ q ∈ done, S q (rd pl q)
def MoveR (b T0 : List S34) (y : Int) (HH : Prop) (S : Int → Int → Prop) (R : Int × Int × List S34) : Prop :=
  (∃ pl T, R = (0, rd pl y, T) ∧ MoveI b T0 y HH S (partsL b y) pl T) ∨ (R = (2, 0, []) ∧ 400 < T0.length + (partsL b y).length ∧ ¬ HH)
theorem ev_move_j2 {b : List S34} {y : Int} {ps pl : List Int} {T : List S34} {i : Nat} {q : Int} {t : S34} (hT : T.length ≤ 400) (hi : i < ps.length) (hp : ps.length ≤ 400) (hq : rd ps (i : Int) = q) (q0 : 0 ≤ q) (q1 : q < (pl.length : Int))
    {c r : Int} {T' : List S34} (hput : Ev (fun k => spec_l5Put.f k T (nm pl t).f0 (nm pl t).f1 (nm pl t).f2 (nm pl t).f3) (c, r, T')) {R : Int × Int × List S34}
    (h0 : c = 0 → Ev (fun k => spec_l5Move.l0 k b y ps (pl.set q.toNat r) T' ((i + 1 : Nat) : Int)) R) (h1 : c ≠ 0 → R = (c, 0, [])) :
    Ev (fun k => spec_l5Move.j2 k b y ps pl T (i : Int) t.f0 t.f1 t.f2 t.f3 t.f0 (kA pl t) (kB pl t) t.f3) R := by
  have fin : Ev (fun k => if c = 0 then (if 0 ≤ (i : Int) then (if (i : Int) < (ps.length : Int) then (if 0 ≤ (rd ps (i : Int)) then (if (rd ps (i : Int)) < (pl.length : Int) then (spec_l5Move.l0 k b y ps (pl.set ((rd ps (i : Int)) : Int).toNat r) T' (wrap64 ((i : Int) + 1))) else (none)) else (none)) else (none)) else (none)) else (some (c, 0, ([] : List (S34))))) R := by
    by_cases hc : c = 0
    · refine ev_pos hc (ev_pos (by omega) (ev_pos (by omega) (ev_pos (by omega) (ev_pos (by omega) ?_))))
      rw [hq, w64 (by omega) (by omega)]
      exact h0 hc
    · rw [h1 hc]
      exact ev_neg hc (ev_some _)
  refine Ev.step (fun k => by rw [spec_l5Move.j2]) ?_
  by_cases e7 : t.f0 = 7
  · have en : nm pl t = ⟨7, mn (kA pl t) (kB pl t), mx (kA pl t) (kB pl t), 0⟩ := if_pos e7
    obtain ⟨r0, hr0, _⟩ := ev_l5Put T (by omega) t.f0 (kA pl t) (kB pl t) t.f3
    rw [en] at hput
    refine Ev.bind hr0 (ev_pos e7 (Ev.bind (r := R) (a := (c, r, T')) ?_ fin))
    unfold spec_l5Both.f
    exact ev_opt (q_l1Min _ _) (ev_opt (q_l1Max _ _) (Ev.bind hput (ev_some _)))
  · have en : nm pl t = ⟨t.f0, kA pl t, kB pl t, t.f3⟩ := if_neg e7
    rw [en] at hput
    exact Ev.bind hput (ev_neg e7 fin)
theorem ev_move_l0 {b : List S34} (hb : termsF b = 0) {y : Int} {ps pl : List Int} {T : List S34} {i : Nat} {q : Int} (hi : i < ps.length) (hq : rd ps (i : Int) = q) (q0 : 0 ≤ q) (q1 : q < (b.length : Int)) (q2 : q < (pl.length : Int)) {R : Int × Int × List S34}
    (h : Ev (fun k => spec_l5Move.j2 k b y ps pl T (i : Int) (rd_T34 b q).f0 (rd_T34 b q).f1 (rd_T34 b q).f2 (rd_T34 b q).f3 (rd_T34 b q).f0 (kA pl (rd_T34 b q)) (kB pl (rd_T34 b q)) (rd_T34 b q).f3) R) : Ev (fun k => spec_l5Move.l0 k b y ps pl T (i : Int)) R := by
  have hkid := kid_lt hb q q0 q1
  refine Ev.step (fun k => by rw [spec_l5Move.l0, if_pos (by omega), if_pos (by omega), hq, if_pos q0, if_pos q1]) ?_
  generalize rd_T34 b q = t at *
  have hj : Ev (fun k => spec_l5Move.j1 k b y ps pl T (i : Int) t.f0 t.f1 t.f2 t.f3 t.f0 (kA pl t) 0 t.f3) R := by
    refine Ev.step (fun k => by rw [spec_l5Move.j1]) (Ev.bind (ev_spec_l5Kids _) ?_)
    by_cases c : 1 < kidsT t.f0
    · have hk := hkid _ (partsT_2 c)
      have e : kB pl t = rd pl t.f2 := if_pos c
      rw [e] at h
      exact ev_pos c (ev_pos hk.1 (ev_pos (by omega) h))
    · have e : kB pl t = 0 := if_neg c
      rw [e] at h
      exact ev_neg c h
  refine Ev.bind (ev_spec_l5Kids _) ?_
  by_cases c : 0 < kidsT t.f0
  · have hk := hkid _ (partsT_1 c)
    have e : kA pl t = rd pl t.f1 := if_pos c
    rw [e] at hj
    exact ev_pos c (ev_pos hk.1 (ev_pos (by omega) hj))
  · have e : kA pl t = 0 := if_neg c
    rw [e] at hj
    exact ev_neg c hj
theorem move_loop {b : List S34} (hb : termsF b = 0) {y : Int} (y0 : 0 ≤ y) (y1 : y < (b.length : Int)) {T0 : List S34} {HH : Prop} {S : Int → Int → Prop}
    (hH : HH → ∀ q ∈ partsL b y, ∀ pl : List Int, (∀ k ∈ partsT (rd_T34 b q), S k (rd pl k)) → ∃ i : Nat, i < T0.length ∧ rd_T34 T0 (i : Int) = nm pl (rd_T34 b q) ∧ S q (i : Int)) :
    ∀ (rest done pl : List Int) (T : List S34), partsL b y = done ++ rest → MoveI b T0 y HH S done pl T → ∃ R, Ev (fun k => spec_l5Move.l0 k b y (partsL b y) pl T (done.length : Int)) R ∧ MoveR b T0 y HH S R
  | [], done, pl, T, e, I => by
    rw [List.append_nil] at e
    have := I.len
    refine ⟨(0, rd pl y, T), Ev.step (fun k => by rw [spec_l5Move.l0, e, if_neg (by omega), if_pos y0, if_pos (by omega)]) (ev_some _), .inl ⟨pl, T, rfl, e ▸ I⟩⟩
  | q :: rest, done, pl, T, e, I => by
    have hbl := (termsF_ok hb).1
    have hpl : (partsL b y).length ≤ 400 := by
      have := partsL_len b y
      omega
    have hql : done.length < (partsL b y).length := by
      rw [e, List.length_append, List.length_cons]
      omega
    have hqm : q ∈ partsL b y := by rw [e]; simp
    have hqr := parts_range y0 hqm
    have hrd : rd (partsL b y) (done.length : Int) = q := by rw [e]; exact rd_mid done q rest
    have hlen := I.len
    have hso := parts_sorted b y
    rw [e, List.pairwise_append] at hso
    obtain ⟨_, hs2, hs3⟩ := hso
    have hkid := kid_lt hb q hqr.1 (by omega)
    have hdone : ∀ k ∈ partsT (rd_T34 b q), k ∈ done := fun k hk => by
      have hm := parts_closed hb y0 y1 hqm hk
      have hlt := hkid k hk
      rw [e, List.mem_append, List.mem_cons] at hm
      rcases hm with hm | hm | hm
      · exact hm
      · omega
      · have := (List.pairwise_cons.mp hs2).1 k hm
        omega
    have hdr : ∀ k ∈ done, 0 ≤ k ∧ k < q := fun k hk => ⟨(parts_range y0 (by rw [e]; simp [hk])).1, hs3 k hk q (by simp)⟩
    have hok := nm_ok hb hqr.1 (by omega) (fun k hk => I.pd k (hdone k hk))
    have step : ∀ (c r : Int) (T' : List S34), Ev (fun k => spec_l5Put.f k T (nm pl (rd_T34 b q)).f0 (nm pl (rd_T34 b q)).f1 (nm pl (rd_T34 b q)).f2 (nm pl (rd_T34 b q)).f3) (c, r, T') →
        ∀ {R : Int × Int × List S34}, (c = 0 → Ev (fun k => spec_l5Move.l0 k b y (partsL b y) (pl.set q.toNat r) T' ((done.length + 1 : Nat) : Int)) R) → (c ≠ 0 → R = (c, 0, [])) → Ev (fun k => spec_l5Move.l0 k b y (partsL b y) pl T (done.length : Int)) R :=
      fun c r T' hput R h0 h1 => ev_move_l0 hb hql hrd hqr.1 (by omega) (by omega) (ev_move_j2 I.tl hql hpl hrd hqr.1 (by omega) hput h0 h1)
    have next : ∀ (r : Int) (T' : List S34), (∃ u, T' = T ++ u) → T'.length ≤ 400 → T'.length ≤ T.length + 1 → Uq T' → 0 ≤ r → r < (T'.length : Int) → rd_T34 T' r = nm pl (rd_T34 b q) → (HH → T' = T0 ∧ S q r) → MoveI b T0 y HH S (done ++ [q]) (pl.set q.toNat r) T' := by
      intro r T' hu ht hg huq r0 r1 hr hN
      obtain ⟨u, rfl⟩ := hu
      have hsame : ∀ k ∈ done, rd (pl.set q.toNat r) k = rd pl k := fun k hk => rd_set_other pl q k r hqr.1 (hdr k hk).1 (by have := hdr k hk; omega)
      have hself : rd (pl.set q.toNat r) q = r := rd_set_same pl q r hqr.1 (by omega)
      refine ⟨by rw [List.length_set]; exact hlen, ht, huq, ?_, ?_, fun k hk => ?_, fun hh => ⟨(hN hh).1, fun k hk => ?_⟩⟩
      · obtain ⟨v, hv⟩ := I.ext
        exact ⟨v ++ u, by rw [hv, List.append_assoc]⟩
      · have := I.grow
        have h2 : (done ++ [q]).length = done.length + 1 := by simp
        omega
      · rcases List.mem_append.mp hk with hk | hk
        · have hp := I.pd k hk
          have hkr := hdr k hk
          unfold Pd at hp ⊢
          rw [hsame k hk, nm_cong (pl := pl) (fun j hj => rd_set_other pl q j r hqr.1 (kid_lt hb k hkr.1 (by omega) j hj).1 (by have := kid_lt hb k hkr.1 (by omega) j hj; omega)), rdTerm_app _ _ _ hp.1 hp.2.1]
          exact ⟨hp.1, by rw [List.length_append]; omega, hp.2.2⟩
        · obtain rfl : k = q := by simpa using hk
          unfold Pd
          rw [hself, nm_cong (pl := pl) (fun j hj => rd_set_other pl k j r hqr.1 (hkid j hj).1 (by have := hkid j hj; omega))]
          exact ⟨r0, r1, hr⟩
      · rcases List.mem_append.mp hk with hk | hk
        · rw [hsame k hk]
          exact (I.ng hh).2 k hk
        · obtain rfl : k = q := by simpa using hk
          rw [hself]
          exact (hN hh).2
    have go : ∀ (r : Int) (T' : List S34), Ev (fun k => spec_l5Put.f k T (nm pl (rd_T34 b q)).f0 (nm pl (rd_T34 b q)).f1 (nm pl (rd_T34 b q)).f2 (nm pl (rd_T34 b q)).f3) (0, r, T') → MoveI b T0 y HH S (done ++ [q]) (pl.set q.toNat r) T' →
        ∃ R, Ev (fun k => spec_l5Move.l0 k b y (partsL b y) pl T (done.length : Int)) R ∧ MoveR b T0 y HH S R := fun r T' hput I' => by
      obtain ⟨R, hR, hM⟩ := move_loop hb y0 y1 hH rest (done ++ [q]) _ T' (by rw [e]; simp) I'
      rw [List.length_append, List.length_singleton] at hR
      exact ⟨R, step 0 r T' hput (fun _ => hR) (fun h => absurd rfl h), hM⟩
    have have_ : HH → ∃ i : Nat, i < T.length ∧ rd_T34 T (i : Int) = nm pl (rd_T34 b q) ∧ S q (i : Int) := fun hh => by
      obtain ⟨i, h1, h2, h3⟩ := hH hh q hqm pl (fun k hk => (I.ng hh).2 k (hdone k hk))
      rw [(I.ng hh).1]
      exact ⟨i, h1, h2, h3⟩
    rcases ev_put T I.tl _ hok with ⟨r, r0, r1, r2, hput⟩ | ⟨hno, hl, hput⟩ | ⟨hno, hl, hput⟩
    · refine go r T hput (next r T ⟨[], by simp⟩ I.tl (by omega) I.uq r0 r1 r2 (fun hh => ⟨(I.ng hh).1, ?_⟩))
      obtain ⟨i, h1, h2, h3⟩ := have_ hh
      have := I.uq r.toNat i (by omega) h1 (by rw [show ((r.toNat : Nat) : Int) = r by omega, r2, h2])
      rw [show r = (i : Int) by omega]
      exact h3
    · refine go (T.length : Int) (T ++ [nm pl (rd_T34 b q)]) hput (next _ _ ⟨_, rfl⟩ (by simp; omega) (by simp) (I.uq.add hno) (by omega) (by rw [List.length_append, List.length_singleton]; omega) (rdTerm_end T _) (fun hh => ?_))
      obtain ⟨i, h1, h2, h3⟩ := have_ hh
      exact absurd h2 (hno i h1)
    · refine ⟨(2, 0, []), step 2 0 [] hput (fun h => absurd h (by omega)) (fun _ => rfl), .inr ⟨rfl, ?_, fun hh => ?_⟩⟩
      · have := I.grow
        omega
      · obtain ⟨i, h1, h2, h3⟩ := have_ hh
        exact absurd h2 (hno i h1)
theorem ev_move {b : List S34} (hb : termsF b = 0) {y : Int} (y0 : 0 ≤ y) (y1 : y < (b.length : Int)) {T0 : List S34} (hT : T0.length ≤ 400) (hU : Uq T0) {HH : Prop} {S : Int → Int → Prop}
    (hH : HH → ∀ q ∈ partsL b y, ∀ pl : List Int, (∀ k ∈ partsT (rd_T34 b q), S k (rd pl k)) → ∃ i : Nat, i < T0.length ∧ rd_T34 T0 (i : Int) = nm pl (rd_T34 b q) ∧ S q (i : Int)) :
    ∃ R, Ev (fun k => spec_l5Move.f k b y T0) R ∧ MoveR b T0 y HH S R := by
  have hbl := (termsF_ok hb).1
  obtain ⟨R, hR, hM⟩ := move_loop hb y0 y1 hH (partsL b y) [] (List.replicate (wrap64 (y + 1)).toNat 0) T0 (by simp) ⟨by rw [w64 (by omega) (by omega)]; simp; omega, hT, hU, ⟨[], by simp⟩, by simp, fun q hq => by simp at hq, fun _ => ⟨rfl, fun q hq => by simp at hq⟩⟩
  refine ⟨R, ?_, hM⟩
  unfold spec_l5Move.f
  exact Ev.bind (ev_spec_l5Parts b hb y y0 y1) (ev_pos (by rw [w64 (by omega) (by omega)]; omega) (ev_pos (by rw [w64 (by omega) (by omega)]; omega) (ev_opt (q_l5Copy T0 (by omega)) hR)))

theorem mn_comm (a b : Int) : mn a b = mn b a := by
  unfold mn
  split <;> split <;> omega
theorem mx_comm (a b : Int) : mx a b = mx b a := by
  unfold mx
  split <;> split <;> omega
theorem sm_partner {a b : List S34} {p q : Int} (h : Sm a b p q) : ∀ k ∈ partsT (rd_T34 b q), ∃ p' ∈ partsT (rd_T34 a p), Sm a b p' k := by
  have ho := h.op
  intro k hk
  rcases kids_cases (rd_T34 a p).f0 with e | e | e
  · unfold partsT at hk
    rw [← ho, if_pos e] at hk
    simp at hk
  · have hk2 := h.kid1 e
    unfold partsT at hk
    rw [← ho, if_neg (by omega), if_pos e] at hk
    obtain rfl := List.mem_singleton.mp hk
    exact ⟨_, partsT_1 (by omega), hk2⟩
  · have hk2 := h.kid2 e
    unfold partsT at hk
    rw [← ho, if_neg (by omega), if_neg (by omega), List.mem_cons, List.mem_singleton] at hk
    rcases hk2 with ⟨h1, h2⟩ | ⟨_, h1, h2⟩ <;> rcases hk with rfl | rfl
    · exact ⟨_, partsT_1 (by omega), h1⟩
    · exact ⟨_, partsT_2 (by omega), h2⟩
    · exact ⟨_, partsT_2 (by omega), h2⟩
    · exact ⟨_, partsT_1 (by omega), h1⟩
theorem nm_leaf {pl : List Int} {t : S34} (e : kidsT t.f0 = 0) : nm pl t = ⟨t.f0, 0, 0, t.f3⟩ := by
  have n7 : t.f0 ≠ 7 := fun e7 => by rw [e7, kids7] at e; exact absurd e (by omega)
  unfold nm kA kB
  rw [if_neg n7, if_neg (by omega), if_neg (by omega)]
theorem nm_one {pl : List Int} {t : S34} (e : kidsT t.f0 = 1) : nm pl t = ⟨t.f0, rd pl t.f1, 0, t.f3⟩ := by
  have n7 : t.f0 ≠ 7 := fun e7 => by rw [e7, kids7] at e; exact absurd e (by omega)
  unfold nm kA kB
  rw [if_neg n7, if_pos (by omega), if_neg (by omega)]
theorem nm_two {pl : List Int} {t : S34} (e : kidsT t.f0 = 2) (n7 : t.f0 ≠ 7) : nm pl t = ⟨t.f0, rd pl t.f1, rd pl t.f2, t.f3⟩ := by
  unfold nm kA kB
  rw [if_neg n7, if_pos (by omega), if_pos (by omega)]
theorem nm_seven {pl : List Int} {t : S34} (e : t.f0 = 7) : nm pl t = ⟨7, mn (rd pl t.f1) (rd pl t.f2), mx (rd pl t.f1) (rd pl t.f2), 0⟩ := by
  have k2 : kidsT t.f0 = 2 := by rw [e]; rfl
  unfold nm kA kB
  rw [if_pos e, if_pos (by omega), if_pos (by omega)]
theorem sm_nm {a b : List S34} {p q : Int} (h : Sm a b p q) {pl1 pl : List Int} (hk : ∀ p' ∈ partsT (rd_T34 a p), ∀ k ∈ partsT (rd_T34 b q), Sm a b p' k → rd pl1 p' = rd pl k) : nm pl1 (rd_T34 a p) = nm pl (rd_T34 b q) := by
  have ho := h.op
  have hn := h.num
  rcases kids_cases (rd_T34 a p).f0 with e | e | e
  · rw [nm_leaf e, nm_leaf (ho ▸ e), ho, hn]
  · have e' : kidsT (rd_T34 b q).f0 = 1 := ho ▸ e
    rw [nm_one e, nm_one e', ho, hn, hk _ (partsT_1 (by omega)) _ (partsT_1 (by omega)) (h.kid1 e)]
  · have e' : kidsT (rd_T34 b q).f0 = 2 := ho ▸ e
    by_cases n7 : (rd_T34 a p).f0 = 7
    · rw [nm_seven n7, nm_seven (ho ▸ n7)]
      rcases h.kid2 e with ⟨h1, h2⟩ | ⟨_, h1, h2⟩
      · rw [hk _ (partsT_1 (by omega)) _ (partsT_1 (by omega)) h1, hk _ (partsT_2 (by omega)) _ (partsT_2 (by omega)) h2]
      · rw [hk _ (partsT_1 (by omega)) _ (partsT_2 (by omega)) h1, hk _ (partsT_2 (by omega)) _ (partsT_1 (by omega)) h2, mn_comm, mx_comm]
    · rcases h.kid2 e with ⟨h1, h2⟩ | ⟨h7, _⟩
      · rw [nm_two e n7, nm_two e' (ho ▸ n7), ho, hn, hk _ (partsT_1 (by omega)) _ (partsT_1 (by omega)) h1, hk _ (partsT_2 (by omega)) _ (partsT_2 (by omega)) h2]
      · exact absurd h7 n7
theorem num_zero {b : List S34} (hb : termsF b = 0) {q : Int} (q0 : 0 ≤ q) (q1 : q < (b.length : Int)) (h : 0 < kidsT (rd_T34 b q).f0) : (rd_T34 b q).f3 = 0 := by
  obtain ⟨i, rfl⟩ := Int.eq_ofNat_of_zero_le q0
  rw [rdTerm_getD b i (by omega)] at h ⊢
  exact ((termF_ok ((termsF_ok hb).2 i (by omega))).2.1 h).1
theorem mnmx {a b c d : Int} (h1 : mn a b = mn c d) (h2 : mx a b = mx c d) : (a = c ∧ b = d) ∨ (a = d ∧ b = c) := by
  unfold mn at h1
  unfold mx at h2
  split at h1 <;> split at h1 <;> split at h2 <;> split at h2 <;> omega
theorem nm_sm {a b : List S34} (ha : termsF a = 0) (hb : termsF b = 0) {p q : Int} (p0 : 0 ≤ p) (p1 : p < (a.length : Int)) (q0 : 0 ≤ q) (q1 : q < (b.length : Int)) {pl1 pl : List Int} (h : nm pl1 (rd_T34 a p) = nm pl (rd_T34 b q))
    (hk : ∀ p' ∈ partsT (rd_T34 a p), ∀ k ∈ partsT (rd_T34 b q), rd pl1 p' = rd pl k → Sm a b p' k) : Sm a b p q := by
  have ho : (rd_T34 a p).f0 = (rd_T34 b q).f0 := by
    have := congrArg (·.f0) h
    rw [nm_f0, nm_f0] at this
    exact this
  rcases kids_cases (rd_T34 a p).f0 with e | e | e
  · rw [nm_leaf e, nm_leaf (ho ▸ e)] at h
    injection h with _ _ _ h3
    exact Sm.leaf p q ho h3 e
  · have e' : kidsT (rd_T34 b q).f0 = 1 := ho ▸ e
    rw [nm_one e, nm_one e'] at h
    injection h with _ h1 _ h3
    exact Sm.one p q ho h3 e (hk _ (partsT_1 (by omega)) _ (partsT_1 (by omega)) h1)
  · have e' : kidsT (rd_T34 b q).f0 = 2 := ho ▸ e
    have h3 : (rd_T34 a p).f3 = (rd_T34 b q).f3 := by rw [num_zero ha p0 p1 (by omega), num_zero hb q0 q1 (by omega)]
    by_cases n7 : (rd_T34 a p).f0 = 7
    · rw [nm_seven n7, nm_seven (ho ▸ n7)] at h
      injection h with _ h1 h2 _
      rcases mnmx h1 h2 with ⟨h1, h2⟩ | ⟨h1, h2⟩
      · exact Sm.two p q ho h3 e (hk _ (partsT_1 (by omega)) _ (partsT_1 (by omega)) h1) (hk _ (partsT_2 (by omega)) _ (partsT_2 (by omega)) h2)
      · exact Sm.cross p q ho h3 n7 (hk _ (partsT_1 (by omega)) _ (partsT_2 (by omega)) h1) (hk _ (partsT_2 (by omega)) _ (partsT_1 (by omega)) h2)
    · rw [nm_two e n7, nm_two e' (ho ▸ n7)] at h
      injection h with _ h1 h2 _
      exact Sm.two p q ho h3 e (hk _ (partsT_1 (by omega)) _ (partsT_1 (by omega)) h1) (hk _ (partsT_2 (by omega)) _ (partsT_2 (by omega)) h2)
theorem place_sm {a b : List S34} (ha : termsF a = 0) (hb : termsF b = 0) {x y : Int} (x0 : 0 ≤ x) (x1 : x < (a.length : Int)) (y0 : 0 ≤ y) (y1 : y < (b.length : Int)) {pl1 pl2 : List Int} {T1 e : List S34}
    (h1 : ∀ p ∈ partsL a x, Pd a pl1 T1 p) (h2 : ∀ q ∈ partsL b y, Pd b pl2 (T1 ++ e) q) : ∀ (n : Nat) (p : Int), p.toNat < n → p ∈ partsL a x → ∀ q ∈ partsL b y, rd pl1 p = rd pl2 q → Sm a b p q
  | 0, _, h, _, _, _, _ => absurd h (by omega)
  | n + 1, p, hn, hp, q, hq, he => by
    have pr := parts_range x0 hp
    have qr := parts_range y0 hq
    have P1 := h1 p hp
    have P2 := h2 q hq
    unfold Pd at P1 P2
    rw [← he, rdTerm_app _ _ _ P1.1 P1.2.1] at P2
    refine nm_sm ha hb pr.1 (by omega) qr.1 (by omega) (P1.2.2.symm.trans P2.2.2) (fun p' hp' k hk hr => ?_)
    have kr := kid_lt ha p pr.1 (by omega) p' hp'
    exact place_sm ha hb x0 x1 y0 y1 h1 h2 n p' (by omega) (parts_closed ha x0 x1 hp hp') k (parts_closed hb y0 y1 hq hk) hr
theorem same_spec {a b : List S34} (ha : termsF a = 0) (hb : termsF b = 0) {x y : Int} (x0 : 0 ≤ x) (x1 : x < (a.length : Int)) (y0 : 0 ≤ y) (y1 : y < (b.length : Int)) : ∃ r : Bool, Ev (fun k => spec_SameTerms.j0 k a x b y false) r ∧ (r = true ↔ Sm a b x y) := by
  have hal := (termsF_ok ha).1
  obtain ⟨R1, hR1, hM1⟩ := ev_move ha x0 x1 (T0 := []) (by simp) (fun i j hi => absurd hi (Nat.not_lt_zero i)) (HH := False) (S := fun _ _ => True) (fun h => h.elim)
  rcases hM1 with ⟨pl1, T1, rfl, I1⟩ | ⟨_, h, _⟩
  rotate_left
  · have := partsL_len a x
    simp at h
    omega
  have look : ∀ (p q : Int) (pl : List Int), p ∈ partsL a x → Sm a b p q → (∀ k ∈ partsT (rd_T34 b q), ∀ p' ∈ partsL a x, Sm a b p' k → rd pl1 p' = rd pl k) → rd_T34 T1 (rd pl1 p) = nm pl (rd_T34 b q) := fun p q pl hp hs hk =>
    (I1.pd p hp).2.2.trans (sm_nm hs (fun p' hp' k hk' hs' => hk k hk' p' (parts_closed ha x0 x1 hp hp') hs'))
  obtain ⟨R2, hR2, hM2⟩ := ev_move hb y0 y1 (T0 := T1) I1.tl I1.uq (HH := Sm a b x y) (S := fun q i => ∀ p ∈ partsL a x, Sm a b p q → rd pl1 p = i) (fun hs q hq pl hk => by
    obtain ⟨p, hp, hpq⟩ := parts_ind hb y0 y1 (fun q => ∃ p ∈ partsL a x, Sm a b p q) ⟨x, parts_self a x x0, hs⟩ (fun q _ _ hQ k hk => by
      obtain ⟨p, hp, hpq⟩ := hQ
      obtain ⟨p', hp', hs'⟩ := sm_partner hpq k hk
      exact ⟨p', parts_closed ha x0 x1 hp hp', hs'⟩) q hq
    have P := I1.pd p hp
    have L := look p q pl hp hpq hk
    unfold Pd at P
    refine ⟨(rd pl1 p).toNat, by omega, by rw [show (((rd pl1 p).toNat : Nat) : Int) = rd pl1 p by omega]; exact L, fun p2 hp2 hpq2 => ?_⟩
    have P2 := I1.pd p2 hp2
    have L2 := look p2 q pl hp2 hpq2 hk
    unfold Pd at P2
    have := I1.uq (rd pl1 p2).toNat (rd pl1 p).toNat (by omega) (by omega) (by
      rw [show (((rd pl1 p).toNat : Nat) : Int) = rd pl1 p by omega, show (((rd pl1 p2).toNat : Nat) : Int) = rd pl1 p2 by omega, L, L2])
    omega)
  rcases hM2 with ⟨pl2, T2, rfl, I2⟩ | ⟨rfl, _, hno⟩
  · by_cases he : rd pl2 y = rd pl1 x
    · obtain ⟨e, hee⟩ := I2.ext
      have hs : Sm a b x y := place_sm ha hb x0 x1 y0 y1 I1.pd (fun q hq => hee ▸ I2.pd q hq) _ x (Nat.lt_succ_self _) (parts_self a x x0) y (parts_self b y y0) he.symm
      refine ⟨true, Ev.step (fun k => by rw [spec_SameTerms.j0, if_neg (by simp)]) (Ev.bind hR1 (Ev.bind hR2 (ev_pos rfl (ev_pos he (ev_to (ev_some _) ?_))))), fun _ => hs, fun _ => rfl⟩
      rw [(I2.ng hs).1]
      simp
    · refine ⟨false, Ev.step (fun k => by rw [spec_SameTerms.j0, if_neg (by simp)]) (Ev.bind hR1 (Ev.bind hR2 (ev_pos rfl (ev_neg he (ev_some _))))), fun h => by simp at h, fun hs => absurd ?_ he⟩
      exact ((I2.ng hs).2 y (parts_self b y y0) x (parts_self a x x0) hs).symm
  · refine ⟨false, Ev.step (fun k => by rw [spec_SameTerms.j0, if_neg (by simp)]) (Ev.bind hR1 (Ev.bind hR2 ?_)), fun h => by simp at h, fun hs => absurd hs hno⟩
    exact ev_neg (by simp) (ev_some _)

theorem nodup_lt : ∀ (N : Nat) (l : List Nat), l.Nodup → (∀ x ∈ l, x < N) → l.length ≤ N
  | 0, l, _, h => by
    cases l with
    | nil => simp
    | cons x l => exact absurd (h x (by simp)) (by omega)
  | N + 1, l, hn, h => by
    have h2 := nodup_lt N (l.erase N) (hn.erase N) (fun x hx => by
      have h3 := (hn.mem_erase_iff).1 hx
      have := h x h3.2
      have := h3.1
      omega)
    by_cases hm : N ∈ l
    · rw [List.length_erase_of_mem hm] at h2
      omega
    · rw [List.erase_of_not_mem hm] at h2
      omega
theorem lookup_mem : ∀ (M : Mm) (p : Int × Int) (v : Bool), M.lookup p = some v → (p, v) ∈ M
  | [], _, _, h => by simp at h
  | (q, u) :: M, p, v, h => by
    rw [List.lookup_cons] at h
    by_cases e : p = q
    · subst e
      simp at h
      simp [h]
    · rw [show (p == q) = false from by simpa using e] at h
      exact List.mem_cons_of_mem _ (lookup_mem M p v h)
theorem lookup_none : ∀ (M : Mm) (p : Int × Int), M.lookup p = none → p ∉ M.map Prod.fst
  | [], _, _ => by simp
  | (q, u) :: M, p, h => by
    rw [List.lookup_cons] at h
    by_cases e : p = q
    · subst e
      simp at h
    · rw [show (p == q) = false from by simpa using e] at h
      rw [List.map_cons, List.mem_cons]
      rintro (h2 | h2)
      · exact e h2
      · exact lookup_none M p h h2
/-- The memo: what it tells is so; its keys are in range, and no key comes twice. -/
structure Memo (a b : List S34) (M : Mm) : Prop where
  say : ∀ e ∈ M, (e.2 = true ↔ Sm a b e.1.1 e.1.2) ∧ 0 ≤ e.1.1 ∧ e.1.1 < (a.length : Int) ∧ 0 ≤ e.1.2 ∧ e.1.2 < (b.length : Int)
  nod : (M.map Prod.fst).Nodup
theorem Memo.len {a b : List S34} {M : Mm} (h : Memo a b M) (ha : a.length ≤ 400) (hb : b.length ≤ 400) : M.length ≤ 160400 := by
  have := nodup_lt 160400 (M.map fun e => e.1.1.toNat * 401 + e.1.2.toNat) (by
    have hn := h.nod
    rw [List.Nodup, List.pairwise_map] at hn ⊢
    refine hn.imp_of_mem (fun {e f} he hf hne hc => hne ?_)
    obtain ⟨_, h1, h2, h3, h4⟩ := h.say e he
    obtain ⟨_, g1, g2, g3, g4⟩ := h.say f hf
    refine Prod.ext ?_ ?_
    · omega
    · omega) (fun x hx => by
    obtain ⟨e, he, rfl⟩ := List.mem_map.mp hx
    obtain ⟨_, h1, h2, h3, h4⟩ := h.say e he
    omega)
  rw [List.length_map] at this
  exact this
def SaysG (a b : List S34) (n : Int) (g : Nat → impl_same_terms.G) : Prop := ∀ x y M, 0 ≤ x → x < n → 0 ≤ y → y < (b.length : Int) → Memo a b M → ∃ r M', Ev (fun k => g k M x y) (r, M') ∧ Memo a b M' ∧ (r = true ↔ Sm a b x y) ∧ (∀ e ∈ M', e ∈ M ∨ e.1.1 < n)
def Says2 (a b : List S34) (n : Int) (M : Mm) (P : Prop) (A : Nat → Option (Bool × Mm)) : Prop := ∃ r M', Ev A (r, M') ∧ Memo a b M' ∧ (r = true ↔ P) ∧ (∀ e ∈ M', e ∈ M ∨ e.1.1 < n)
theorem Says2.next {a b : List S34} {n : Int} {M : Mm} {P Q : Prop} {A : Nat → Option (Bool × Mm)} {F : Nat → Bool × Mm → Option (Bool × Mm)} (h : Says2 a b n M P A)
    (h1 : P → ∀ M', Memo a b M' → Says2 a b n M' Q (fun k => F k (true, M'))) (h0 : ¬ P → ∀ M', Memo a b M' → Says2 a b n M' Q (fun k => F k (false, M'))) : Says2 a b n M Q (fun k => (A k).bind (F k)) := by
  obtain ⟨r, M1, e, hM, hr, hk⟩ := h
  have go : Says2 a b n M1 Q (fun k => F k (r, M1)) := by
    cases r with
    | true => exact h1 (hr.1 rfl) M1 hM
    | false => exact h0 (fun h => by simpa using hr.2 h) M1 hM
  obtain ⟨r2, M2, e2, hM2, hr2, hk2⟩ := go
  refine ⟨r2, M2, Ev.bind e e2, hM2, hr2, fun x hx => ?_⟩
  rcases hk2 x hx with h | h
  · exact hk x h
  · exact .inr h
theorem Says2.done {a b : List S34} {n : Int} {M : Mm} {P : Prop} (r : Bool) (hM : Memo a b M) (h : r = true ↔ P) : Says2 a b n M P (fun _ => some (r, M)) := ⟨r, M, ev_some _, hM, h, fun _ he => .inl he⟩
theorem Says2.iff {a b : List S34} {n : Int} {M : Mm} {P Q : Prop} {A : Nat → Option (Bool × Mm)} (h : Says2 a b n M P A) (e : P ↔ Q) : Says2 a b n M Q A := by
  obtain ⟨r, M1, h1, h2, h3, h4⟩ := h
  exact ⟨r, M1, h1, h2, h3.trans e, h4⟩
theorem SaysG.at {a b : List S34} {n : Int} {g : Nat → impl_same_terms.G} (h : SaysG a b n g) {x y : Int} {M : Mm} (x0 : 0 ≤ x) (x1 : x < n) (y0 : 0 ≤ y) (y1 : y < (b.length : Int)) (hM : Memo a b M) : Says2 a b n M (Sm a b x y) (fun k => g k M x y) := h x y M x0 x1 y0 y1 hM
theorem same_alt {a b : List S34} {n : Int} {g : Nat → impl_same_terms.G} (h : SaysG a b n g) {p0 p1 q0 q1 : Int} (hp0 : 0 ≤ p0 ∧ p0 < n) (hp1 : 0 ≤ p1 ∧ p1 < n) (hq0 : 0 ≤ q0 ∧ q0 < (b.length : Int)) (hq1 : 0 ≤ q1 ∧ q1 < (b.length : Int)) {M : Mm} (hM : Memo a b M) :
    Says2 a b n M (Sm a b p0 q1 ∧ Sm a b p1 q0) (fun k => impl_same_terms.alt (g k) M p0 p1 q0 q1) := by
  unfold impl_same_terms.alt
  refine Says2.next (h.at hp0.1 hp0.2 hq1.1 hq1.2 hM) (fun hP M' hM' => ?_) (fun hP M' hM' => ?_)
  · simp only [if_true]
    exact (h.at hp1.1 hp1.2 hq0.1 hq0.2 hM').iff (by simp [hP])
  · simp only [Bool.false_eq_true, if_false]
    exact Says2.done false hM' (by simp [hP])
theorem same_both {a b : List S34} {n : Int} {g : Nat → impl_same_terms.G} (h : SaysG a b n g) {p0 p1 q0 q1 : Int} (hp0 : 0 ≤ p0 ∧ p0 < n) (hp1 : 0 ≤ p1 ∧ p1 < n) (hq0 : 0 ≤ q0 ∧ q0 < (b.length : Int)) (hq1 : 0 ≤ q1 ∧ q1 < (b.length : Int)) {M : Mm} (hM : Memo a b M) :
    Says2 a b n M ((Sm a b p0 q0 ∧ Sm a b p1 q1) ∨ (Sm a b p0 q1 ∧ Sm a b p1 q0)) (fun k => impl_same_terms.both (g k) M p0 p1 q0 q1) := by
  unfold impl_same_terms.both
  refine Says2.next (h.at hp0.1 hp0.2 hq0.1 hq0.2 hM) (fun hP M' hM' => ?_) (fun hP M' hM' => ?_)
  · simp only [if_true]
    refine Says2.next (h.at hp1.1 hp1.2 hq1.1 hq1.2 hM') (fun hQ M2 hM2 => ?_) (fun hQ M2 hM2 => ?_)
    · simp only [if_true]
      exact Says2.done true hM2 (by simp [hP, hQ])
    · simp only [Bool.false_eq_true, if_false]
      exact (same_alt h hp0 hp1 hq0 hq1 hM2).iff (by simp [hQ])
  · simp only [Bool.false_eq_true, if_false]
    exact (same_alt h hp0 hp1 hq0 hq1 hM').iff (by simp [hP])
theorem same_body {a b : List S34} (ha : termsF a = 0) (hb : termsF b = 0) {x y : Int} (x0 : 0 ≤ x) (x1 : x < (a.length : Int)) (y0 : 0 ≤ y) (y1 : y < (b.length : Int)) {g : Nat → impl_same_terms.G} (h : SaysG a b x g) {M : Mm} (hM : Memo a b M) :
    Says2 a b x M (Sm a b x y) (fun k => impl_same_terms.body (g k) k M (rd_T34 a x).f0 (rd_T34 a x).f1 (rd_T34 a x).f2 (rd_T34 a x).f3 (rd_T34 b y).f0 (rd_T34 b y).f1 (rd_T34 b y).f2 (rd_T34 b y).f3) := by
  obtain ⟨i, rfl⟩ := Int.eq_ofNat_of_zero_le x0
  obtain ⟨j, rfl⟩ := Int.eq_ofNat_of_zero_le y0
  have ea := rdTerm_nat a i (by omega)
  have eb := rdTerm_nat b j (by omega)
  obtain ⟨a1, a2, a3⟩ := term_parts ha i (by omega)
  obtain ⟨b1, b2, b3⟩ := term_parts hb j (by omega)
  rw [← ea] at a1 a2 a3
  rw [← eb] at b1 b2 b3
  generalize hs : rd_T34 a (i : Int) = s at *
  generalize hu : rd_T34 b (j : Int) = u at *
  unfold impl_same_terms.body
  by_cases c0 : s.f0 = u.f0
  rotate_left
  · simp only [if_neg c0]
    exact Says2.done false hM ⟨fun h => by simp at h, fun h => absurd (hs ▸ hu ▸ h.op) c0⟩
  simp only [if_pos c0]
  by_cases c3 : s.f3 = u.f3
  rotate_left
  · simp only [if_neg c3]
    exact Says2.done false hM ⟨fun h => by simp at h, fun h => absurd (hs ▸ hu ▸ h.num) c3⟩
  simp only [if_pos c3]
  have hk : Says2 a b (i : Int) M (Sm a b (i : Int) (j : Int)) (fun k => impl_same_terms.kids (g k) M s.f0 (partsT s) (partsT u)) := by
    unfold impl_same_terms.kids partsT
    rw [← c0]
    rcases kids_cases s.f0 with e | e | e
    · have n7 : s.f0 ≠ 7 := fun e7 => by rw [e7, kids7] at e; exact absurd e (by omega)
      simp only [if_neg n7, if_pos e, impl_same_terms.loop]
      refine Says2.done true hM ⟨fun _ => ?_, fun _ => rfl⟩
      subst hs hu
      exact Sm.leaf _ _ c0 c3 e
    · have n7 : s.f0 ≠ 7 := fun e7 => by rw [e7, kids7] at e; exact absurd e (by omega)
      simp only [if_neg n7, if_neg (show ¬ kidsT s.f0 = 0 by omega), if_pos e, impl_same_terms.loop, if_true]
      have q1 := a2 (by omega)
      have q2 := b2 (by rw [← c0]; omega)
      refine Says2.next (h.at q1.1 q1.2 q2.1 (by omega) hM) (fun hP M' hM' => ?_) (fun hP M' hM' => ?_)
      · refine Says2.done true hM' ⟨fun _ => ?_, fun _ => rfl⟩
        subst hs hu
        exact Sm.one _ _ c0 c3 e hP
      · refine Says2.done false hM' ⟨fun h => by simp at h, fun h => absurd ?_ hP⟩
        subst hs hu
        exact h.kid1 e
    · have q1 := a2 (by omega)
      have q2 := b2 (by rw [← c0]; omega)
      have q3 := a3 (by omega)
      have q4 := b3 (by rw [← c0]; omega)
      by_cases n7 : s.f0 = 7
      · simp only [if_pos n7, if_neg (show ¬ kidsT s.f0 = 0 by omega), if_neg (show ¬ kidsT s.f0 = 1 by omega), impl_same_terms.two]
        refine (same_both h q1 q3 (by omega) (by omega) hM).iff ⟨fun hh => ?_, fun hh => ?_⟩
        · subst hs hu
          rcases hh with ⟨h1, h2⟩ | ⟨h1, h2⟩
          · exact Sm.two _ _ c0 c3 e h1 h2
          · exact Sm.cross _ _ c0 c3 n7 h1 h2
        · subst hs hu
          rcases hh.kid2 e with hh | ⟨_, hh⟩
          · exact .inl hh
          · exact .inr hh
      · simp only [if_neg n7, if_neg (show ¬ kidsT s.f0 = 0 by omega), if_neg (show ¬ kidsT s.f0 = 1 by omega), impl_same_terms.loop, if_true]
        refine Says2.next (h.at q1.1 q1.2 q2.1 (by omega) hM) (fun hP M' hM' => ?_) (fun hP M' hM' => ?_)
        · simp only [if_true]
          refine Says2.next (h.at q3.1 q3.2 q4.1 (by omega) hM') (fun hQ M2 hM2 => ?_) (fun hQ M2 hM2 => ?_)
          · refine Says2.done true hM2 ⟨fun _ => ?_, fun _ => rfl⟩
            subst hs hu
            exact Sm.two _ _ c0 c3 e hP hQ
          · refine Says2.done false hM2 ⟨fun h => by simp at h, fun h => absurd ?_ hQ⟩
            subst hs hu
            rcases h.kid2 e with hh | ⟨hh, _⟩
            · exact hh.2
            · exact absurd hh n7
        · simp only [Bool.false_eq_true, if_false]
          refine Says2.done false hM' ⟨fun h => by simp at h, fun h => absurd ?_ hP⟩
          subst hs hu
          rcases h.kid2 e with hh | ⟨hh, _⟩
          · exact hh.1
          · exact absurd hh n7
  obtain ⟨r, M', h1, h2, h3, h4⟩ := hk
  exact ⟨r, M', Ev.bind (ev_parts s a1) (Ev.bind (ev_parts u b1) h1), h2, h3, h4⟩
theorem same_f_eq (k : Nat) (l0 l1 : List S34) (M : Mm) (x y : Int) : impl_same_terms.f (k + 1) l0 l1 M x y = if 0 ≤ x then (if x < (l0.length : Int) then (if 0 ≤ y then (if y < (l1.length : Int) then
      (if (M.lookup (x, y)).isSome = true then some ((M.lookup (x, y)).getD false, M)
       else (impl_same_terms.body (impl_same_terms.f k l0 l1) k M (rd_T34 l0 x).f0 (rd_T34 l0 x).f1 (rd_T34 l0 x).f2 (rd_T34 l0 x).f3 (rd_T34 l1 y).f0 (rd_T34 l1 y).f1 (rd_T34 l1 y).f2 (rd_T34 l1 y).f3).bind (impl_same_terms.fin x y)) else none) else none) else none) else none := rfl
theorem same_f {a b : List S34} (ha : termsF a = 0) (hb : termsF b = 0) : ∀ n : Nat, n ≤ a.length → SaysG a b (n : Int) (fun k => impl_same_terms.f k a b)
  | 0, _ => fun x y M x0 x1 _ _ _ => absurd x1 (by omega)
  | n + 1, hn => by
    intro x y M x0 x1 y0 y1 hM
    by_cases hx : x < (n : Int)
    · obtain ⟨r, M', h1, h2, h3, h4⟩ := same_f ha hb n (by omega) x y M x0 hx y0 y1 hM
      exact ⟨r, M', h1, h2, h3, fun e he => (h4 e he).imp id (fun h => by omega)⟩
    · obtain rfl : x = (n : Int) := by omega
      cases hl : M.lookup ((n : Int), y) with
      | some v =>
        refine ⟨v, M, Ev.step (fun k => by show impl_same_terms.f (k + 1) a b M (n : Int) y = _; rw [same_f_eq, if_pos x0, if_pos (by omega), if_pos y0, if_pos y1, hl, if_pos (show (some v).isSome = true from rfl)]; rfl) (ev_some _), hM, (hM.say _ (lookup_mem M _ v hl)).1, fun _ he => .inl he⟩
      | none =>
        obtain ⟨r, M', h1, h2, h3, h4⟩ := same_body ha hb x0 (by omega) y0 y1 (same_f ha hb n (by omega)) hM
        refine ⟨r, (((n : Int), y), r) :: M', Ev.step (fun k => by show impl_same_terms.f (k + 1) a b M (n : Int) y = _; rw [same_f_eq, if_pos x0, if_pos (by omega), if_pos y0, if_pos y1, hl, if_neg (by simp)]) (Ev.bind h1 ?_), ⟨fun e he => ?_, ?_⟩, h3, fun e he => ?_⟩
        · unfold impl_same_terms.fin
          have := h2.len (termsF_ok ha).1 (termsF_ok hb).1
          exact ev_pos (by dsimp only; omega) (ev_some _)
        · rcases List.mem_cons.mp he with rfl | he
          · exact ⟨h3, x0, by dsimp only; omega, y0, y1⟩
          · exact h2.say e he
        · rw [List.map_cons, List.nodup_cons]
          refine ⟨fun hc => ?_, h2.nod⟩
          obtain ⟨e, he, hee⟩ := List.mem_map.mp hc
          replace hee : e.1 = ((n : Int), y) := hee
          rcases h4 e he with h | h
          · exact lookup_none M _ hl (hee ▸ List.mem_map_of_mem h)
          · rw [hee] at h
            exact absurd h (by dsimp only; omega)
        · rcases List.mem_cons.mp he with rfl | he
          · exact .inr (by dsimp only; omega)
          · exact (h4 e he).imp id (fun h => by omega)
theorem same_impl {a b : List S34} (ha : termsF a = 0) (hb : termsF b = 0) {x y : Int} (x0 : 0 ≤ x) (x1 : x < (a.length : Int)) (y0 : 0 ≤ y) (y1 : y < (b.length : Int)) : ∃ r M, Ev (fun k => impl_same_terms.f k a b [] x y) (r, M) ∧ (r = true ↔ Sm a b x y) := by
  obtain ⟨r, M, h1, _, h3, _⟩ := same_f ha hb a.length (Nat.le_refl _) x y [] x0 x1 y0 y1 ⟨fun e he => by simp at he, by simp⟩
  exact ⟨r, M, h1, h3⟩

theorem q_szTermS {l : List S36} (h : l.length ≤ 1048576) : laws_szTermS.f l 1048576 = some (1048576 - (l.length : Int)) := by
  unfold laws_szTermS.f
  rw [w64 (by omega) (by omega), if_neg (by omega)]
theorem q_szTermS_big {l : List S36} (h : ¬ l.length ≤ 1048576) (hm : l.length ≤ maxLen) : laws_szTermS.f l 1048576 = some (-1) := by
  unfold laws_szTermS.f
  unfold maxLen at hm
  rw [w64 (by omega) (by omega), if_pos (by omega)]

theorem rdLTerm_nat (l : List S36) (i : Nat) (h : i < l.length) : rd_T36 l i = l[i] := getD_nat l _ i h

def cvTerm (x : S36) : S34 := ⟨x.f0, x.f1, x.f2, x.f3⟩
theorem q_toTerm (a b c d : Int) : laws_toTerm.f a b c d = some (a, b, c, d) := rfl
theorem ev_toTermS {l : List S36} (hn : l.length ≤ 1048576) : Ev (fun k => laws_toTermS.f k l) (l.map cvTerm) := by
  unfold laws_toTermS.f
  refine ev_pos (by omega) (ev_pos (by omega) ?_)
  refine map_loop (fun k b i => laws_toTermS.l0 k l b i) l cvTerm ?_ ?_ _ (by simp)
  · intro k b
    rw [laws_toTermS.l0, if_neg (by omega)]
  · intro k b i h hb
    rw [laws_toTermS.l0, if_pos (by omega), if_pos (by omega), q_toTerm, Option.bind_some, if_pos (by omega), w64 (by omega) (by omega), rdLTerm_nat l i h, Int.toNat_natCast]
    rfl

theorem q_eqTerm (a b c d : Int) : laws_eqTerm.f a b c d a b c d = some true := by
  simp [laws_eqTerm.f]
theorem ev_eqTermS {l : List S34} (hn : l.length ≤ 1048576) : Ev (fun k => laws_eqTermS.f k l l) true := by
  unfold laws_eqTermS.f
  refine ev_pos rfl ?_
  refine count_loop (fun k i => laws_eqTermS.l0 k l l i) l.length true ?_ ?_
  · intro k
    rw [laws_eqTermS.l0, if_neg (by omega)]
  · intro k i h
    rw [laws_eqTermS.l0, if_pos (by omega), if_pos (by omega), if_pos (by omega), q_eqTerm, Option.bind_some, if_pos rfl, w64 (by omega) (by omega)]
    rfl

theorem q_spec_l5At (s : List S34) (hs : s.length ≤ 1048576) (a : Int) : spec_l5At.f s a = some (decide (0 ≤ a ∧ a < (s.length : Int))) := by
  unfold spec_l5At.f
  rw [q_spec_l1In, Option.bind_some, w64 (by omega) (by omega)]
  congr 2
  simp only [eq_iff_iff]
  omega

theorem ev_spec_TermsFault (l : List S34) (hl : l.length ≤ 1048576) : Ev (fun k => spec_TermsFault.f k l) (termsF l) := by
  have key : ∀ i, i ≤ l.length → Ev (fun k => spec_TermsFault.l0 k l (i : Nat)) (scanT (l.take i) (l.drop i)) := by
    refine down l.length ?_ ?_
    · rw [List.drop_length, scanT]
      refine Ev.step (fun k => by rw [spec_TermsFault.l0, if_neg (by omega)]) ?_
      exact ev_some _
    · intro i hi ih
      rw [List.drop_eq_getElem_cons hi, scanT, ← List.take_succ_eq_append_getElem hi]
      refine Ev.step (fun k => by rw [spec_TermsFault.l0, if_pos (by omega), if_pos (by omega), if_pos (by omega), rdTerm_nat l i hi, Int.toNat_natCast, w64 (by omega) (by omega)]) ?_
      refine Ev.bind (ev_spec_l5Term (l.take i) (by rw [List.length_take]; omega) l[i]) (ev_cond (fun h => ?_) (fun h => ev_some _))
      obtain ⟨r, hr, hm⟩ := ev_spec_l5Find (l.take i) (by rw [List.length_take]; omega) l[i]
      refine Ev.bind hr ?_
      by_cases g : 0 ≤ r
      · rw [if_pos (hm.mp g)]
        exact ev_pos g (ev_some _)
      · rw [if_neg (fun e => g (hm.mpr e))]
        exact ev_neg g ih
  have h := key 0 (by omega)
  rw [List.take_zero, List.drop_zero] at h
  unfold spec_TermsFault.f termsF
  by_cases h4 : 400 < l.length
  · rw [if_pos h4]
    exact ev_pos (by omega) (ev_some _)
  · rw [if_neg h4]
    exact ev_neg (by omega) h

def askedF (l : List S34) (a : Int) : Int := if termsF l = 0 then (if 0 ≤ a ∧ a < (l.length : Int) then 0 else 3) else termsF l
theorem ev_spec_l5Asked (l : List S34) (hl : l.length ≤ 1048576) (a : Int) : Ev (fun k => spec_l5Asked.f k l a) (askedF l a) := by
  unfold spec_l5Asked.f askedF
  refine Ev.bind (ev_spec_TermsFault l hl) (ev_cond (fun h => ev_opt (q_spec_l5At l hl a) ?_) (fun h => ev_some _))
  by_cases g : 0 ≤ a ∧ a < (l.length : Int)
  · rw [if_pos g]
    exact ev_pos (by simpa using g) (ev_some _)
  · rw [if_neg g]
    exact ev_neg (by simpa using g) (ev_some _)
theorem askedF_ok {l : List S34} {a : Int} (h : askedF l a = 0) : termsF l = 0 ∧ 0 ≤ a ∧ a < (l.length : Int) := by
  unfold askedF at h
  by_cases c : termsF l = 0
  · rw [if_pos c] at h
    by_cases g : 0 ≤ a ∧ a < (l.length : Int)
    · exact ⟨c, g⟩
    · rw [if_neg g] at h
      exact absurd h (by omega)
  · rw [if_neg c] at h
    exact absurd h c

theorem q_places_p (l : List S34) (hl : l.length ≤ 1048576) (a : Int) : impl_placesFault.p l a = some (!decide (0 ≤ a ∧ a < (l.length : Int))) := by
  unfold impl_placesFault.p
  rw [q_isPlace l hl]
  rfl
theorem q_impl_places1 (l : List S34) (hl : l.length ≤ 1048576) (a : Int) : impl_placesFault.f l [a] = some (askedF l a) := by
  unfold impl_placesFault.f askedF
  rw [q_impl_TermsFault l hl, Option.bind_some]
  by_cases c : termsF l = 0
  · rw [if_pos c, if_pos c, idxO, q_places_p l hl, Option.bind_some]
    by_cases g : 0 ≤ a ∧ a < (l.length : Int)
    · rw [decide_eq_true g, Bool.not_true, if_neg (by simp), idxO, Option.bind_some, if_pos g]
      rfl
    · rw [decide_eq_false g, Bool.not_false, if_pos rfl, Option.bind_some, if_neg g]
      rfl
  · rw [if_neg c, if_neg c]
theorem sameTerms_both (a b : List S34) (hla : a.length ≤ 1048576) (hlb : b.length ≤ 1048576) (x y : Int) : ∃ r : Bool, Ev (fun k => spec_SameTerms.f k a x b y) r ∧ Ev (fun k => impl_SameTerms.f k a x b y) r := by
  unfold spec_SameTerms.f impl_SameTerms.f
  have hA := ev_spec_l5Asked a hla x
  have hB := ev_spec_l5Asked b hlb y
  have no : Ev (fun k => spec_SameTerms.j0 k a x b y true) false := Ev.step (fun k => by rw [spec_SameTerms.j0, if_pos rfl]) (ev_some _)
  by_cases ha : askedF a x = 0
  · obtain ⟨ta, x0, x1⟩ := askedF_ok ha
    by_cases hb : askedF b y = 0
    · obtain ⟨tb, y0, y1⟩ := askedF_ok hb
      obtain ⟨r, M, h1, h2⟩ := same_impl ta tb x0 x1 y0 y1
      obtain ⟨s, h3, h4⟩ := same_spec ta tb x0 x1 y0 y1
      have : s = r := by
        rw [Bool.eq_iff_iff]
        exact h4.trans h2.symm
      subst this
      refine ⟨s, Ev.bind hA (ev_pos ha (Ev.bind hB ?_)), ev_opt (q_impl_places1 a hla x) (ev_pos ha (ev_opt (q_impl_places1 b hlb y) (ev_pos hb (Ev.bind h1 (ev_some _)))))⟩
      rw [hb]
      exact h3
    · refine ⟨false, Ev.bind hA (ev_pos ha (Ev.bind hB ?_)), ev_opt (q_impl_places1 a hla x) (ev_pos ha (ev_opt (q_impl_places1 b hlb y) (ev_neg hb (ev_some _))))⟩
      rw [show (askedF b y != 0) = true by simpa using hb]
      exact no
  · exact ⟨false, Ev.bind hA (ev_neg ha no), ev_opt (q_impl_places1 a hla x) (ev_neg ha (ev_some _))⟩
theorem FnExactSameTerms : laws_FnExactSameTerms.Pure := by
  intro l x m y hm _ _ _ hm2 _ _ _
  apply Ev.rounds
  unfold laws_FnExactSameTerms.f
  by_cases h : l.length ≤ 1048576
  · have hc : (l.map cvTerm).length ≤ 1048576 := by simpa using h
    refine ev_opt (q_szTermS h) (ev_neg (by omega) ?_)
    by_cases h2 : m.length + l.length ≤ 1048576
    · have hd : (m.map cvTerm).length ≤ 1048576 := by rw [List.length_map]; omega
      have e : laws_szTermS.f m (1048576 - (l.length : Int)) = some (1048576 - (l.length : Int) - (m.length : Int)) := by
        unfold laws_szTermS.f
        rw [w64 (by omega) (by omega), if_neg (by omega)]
      obtain ⟨r, hs, hi⟩ := sameTerms_both _ _ hc hd x y
      have hm3 : m.length ≤ 1048576 := by omega
      refine ev_opt e (ev_neg (by omega) ?_)
      refine Ev.bind (ev_toTermS h) (Ev.bind (ev_toTermS hm3) (Ev.bind hs (Ev.bind (ev_toTermS h) (Ev.bind (ev_toTermS hm3) (Ev.bind hi (ev_neg (by simp) ?_))))))
      refine Ev.bind (ev_toTermS h) (Ev.bind (ev_eqTermS hc) (ev_pos rfl ?_))
      exact Ev.bind (ev_toTermS hm3) (Ev.bind (ev_eqTermS hd) (ev_pos rfl (ev_some _)))
    · have e : laws_szTermS.f m (1048576 - (l.length : Int)) = some (-1) := by
        unfold laws_szTermS.f
        unfold maxLen at hm2
        rw [w64 (by omega) (by omega), if_pos (by omega)]
      exact ev_opt e (ev_pos (by omega) (ev_some _))
  · exact ev_opt (q_szTermS_big h hm) (ev_pos (by omega) (ev_some _))

end Go.Proofs.Ytofaojdkpbheoaa.Pure
