
/- Proved: the law FnOpens answers true at every input that Go can hand in (it says: what is opened once is open, and what is derived is closed. (P7, P1)) No condition beyond the statement's own. -/
import Derived.Test.YtidfgmekhededaaPFnOpensx17
namespace Go.Proofs.Ytidfgmekhededaa.Pure
open Go.RowKit Go.Proofs.Ytidfgmekhededaa.PFnOpens Go.Proofs.YtidfgmekhededaaW.PrintWords Go.Proofs.YtidfgmekhededaaW.PrintLast Go.Proofs.YtidfgmekhededaaW.PrintMore
set_option linter.unusedVariables false
set_option linter.unusedSimpArgs false

theorem w64 {x : Int} (h0 : -9223372036854775808 ≤ x) (h1 : x ≤ 9223372036854775807) : wrap64 x = x := by
  unfold wrap64
  omega
theorem tmod_pos {a b : Int} (h : 0 ≤ a) : Int.tmod a b = a % b := Int.tmod_eq_emod_of_nonneg h
theorem tdiv_pos {a b : Int} (h : 0 ≤ a) : Int.tdiv a b = a / b := Int.tdiv_eq_ediv_of_nonneg h
theorem ev_some {α : Type} (r : α) : Ev (fun _ => some r) r := Ev.now r
theorem ev_pos {α : Type} {c : Prop} [Decidable c] {A B : Nat → Option α} {r : α} (h : c) (e : Ev A r) : Ev (fun k => if c then A k else B k) r := by
  simpa only [if_pos h] using e
theorem ev_neg {α : Type} {c : Prop} [Decidable c] {A B : Nat → Option α} {r : α} (h : ¬ c) (e : Ev B r) : Ev (fun k => if c then A k else B k) r := by
  simpa only [if_neg h] using e
theorem ev_opt {α β : Type} {o : Option α} {f : Nat → α → Option β} {a : α} {r : β} (h : o = some a) (e : Ev (fun n => f n a) r) : Ev (fun n => o.bind (f n)) r := by
  simpa only [h, Option.bind_some] using e
theorem ev_to {α : Type} {g : Nat → Option α} {r r' : α} (e : Ev g r) (h : r = r') : Ev g r' := h ▸ e
theorem rd_nat (l : List Int) (i : Nat) (h : i < l.length) : rd l (i : Int) = l[i] := by
  unfold rd
  simp [List.getD_eq_getElem?_getD, h]
theorem rd_mem (l : List Int) (i : Int) (h0 : 0 ≤ i) (h : i < l.length) : rd l i ∈ l := by
  obtain ⟨n, rfl⟩ := Int.eq_ofNat_of_zero_le h0
  rw [rd_nat l n (by omega)]
  exact List.getElem_mem _
theorem u8_range {x : Int} (h : (Lit.int .u8 x).wf = true) : 0 ≤ x ∧ x ≤ 255 := by
  simp [Lit.wf, IntKind.min, IntKind.max, IntKind.signed, IntKind.bits] at h
  omega
theorem set_mid {α : Type} (a : List α) (x : α) (b : List α) (y : α) : (a ++ x :: b).set a.length y = a ++ y :: b := by simp
theorem ev_cond {α : Type} {c : Prop} [Decidable c] {A B : Nat → Option α} {r r' : α} (hp : c → Ev A r) (hn : ¬ c → Ev B r') : Ev (fun k => if c then A k else B k) (if c then r else r') := by
  by_cases h : c
  · rw [if_pos h]; exact ev_pos h (hp h)
  · rw [if_neg h]; exact ev_neg h (hn h)
theorem ev_succ {α : Type} {g : Nat → Option α} {r : α} (h : ∀ k, g (k + 1) = some r) : Ev g r := Ev.step h (ev_some r)
theorem down {P : Nat → Prop} (n : Nat) (hend : P n) (hstep : ∀ i, i < n → P (i + 1) → P i) : ∀ i, i ≤ n → P i := by
  intro i hi
  obtain ⟨d, hd⟩ : ∃ d, i + d = n := ⟨n - i, by omega⟩
  induction d generalizing i with
  | zero =>
    obtain rfl : i = n := by omega
    exact hend
  | succ d ih => exact hstep i (by omega) (ih (i + 1) (by omega) (by omega))
theorem getD_nat {α : Type} (l : List α) (z : α) (i : Nat) (h : i < l.length) : l.getD (i : Int).toNat z = l[i] := by
  simp [List.getD_eq_getElem?_getD, h]
/-- A loop that goes through all places and answers r. -/
theorem count_loop {ρ : Type} (F : Nat → Int → Option ρ) (n : Nat) (r : ρ) (hend : ∀ k, F (k + 1) n = some r) (hstep : ∀ k (i : Nat), i < n → F (k + 1) i = F k ((i + 1 : Nat) : Int)) : Ev (fun k => F k 0) r := by
  have key : ∀ i, i ≤ n → Ev (fun k => F k (i : Nat)) r := down n (Ev.step hend (ev_some r)) (fun i hi ih => Ev.step (fun k => hstep k i hi) ih)
  exact key 0 (by omega)

inductive Dr (op : Nat → Int) (a b : Nat → Nat) (F : Nat → Prop) : Nat → Prop
  | known {i : Nat} : F i → Dr op a b F i
  | name {i : Nat} : op i = 1 → Dr op a b F i
  | pair {i : Nat} : (op i = 3 ∨ op i = 4 ∨ op i = 5) → Dr op a b F (a i) → Dr op a b F (b i) → Dr op a b F i
  | half {i : Nat} : op i = 6 → Dr op a b F (a i) → Dr op a b F i
  | both {i : Nat} : op i = 7 → Dr op a b F (a i) → Dr op a b F (b i) → Dr op a b F i
  | bothA {i : Nat} (j : Nat) : op i = 7 → Dr op a b F (a i) → op j = 6 → F j → a j = b i → Dr op a b F i
  | bothB {i : Nat} (j : Nat) : op i = 7 → Dr op a b F (b i) → op j = 6 → F j → a j = a i → Dr op a b F i
theorem Dr.mono {op : Nat → Int} {a b : Nat → Nat} {F G : Nat → Prop} (h : ∀ i, F i → G i) {i : Nat} (d : Dr op a b F i) : Dr op a b G i := by
  induction d with
  | known x => exact .known (h _ x)
  | name e => exact .name e
  | pair e _ _ x y => exact .pair e x y
  | half e _ x => exact .half e x
  | both e _ _ x y => exact .both e x y
  | bothA j e _ g f q x => exact .bothA j e x g (h _ f) q
  | bothB j e _ g f q x => exact .bothB j e x g (h _ f) q
theorem Dr.half_inv {op : Nat → Int} {a b : Nat → Nat} {F : Nat → Prop} {j : Nat} (g : op j = 6) (d : Dr op a b F j) : F j ∨ Dr op a b F (a j) := by
  cases d with
  | known x => exact .inl x
  | name e => omega
  | pair e _ _ => omega
  | half _ x => exact .inr x
  | both e _ _ => omega
  | bothA _ e _ _ _ _ => omega
  | bothB _ e _ _ _ _ => omega
theorem Dr.trans {op : Nat → Int} {a b : Nat → Nat} {F G : Nat → Prop} (h : ∀ i, G i → Dr op a b F i) {i : Nat} (d : Dr op a b G i) : Dr op a b F i := by
  induction d with
  | known x => exact h _ x
  | name e => exact .name e
  | pair e _ _ x y => exact .pair e x y
  | half e _ x => exact .half e x
  | both e _ _ x y => exact .both e x y
  | bothA j e _ g f q x =>
    rcases (h _ f).half_inv g with f1 | f1
    · exact .bothA j e x g f1 q
    · exact .both e x (q ▸ f1)
  | bothB j e _ g f q x =>
    rcases (h _ f).half_inv g with f1 | f1
    · exact .bothB j e x g f1 q
    · exact .both e (q ▸ f1) x
def ClosedF (op : Nat → Int) (a b : Nat → Nat) (F : Nat → Prop) : Prop := ∀ i, F i → (op i = 3 → F (a i) ∧ F (b i)) ∧ (op i = 5 → Dr op a b F (a i) → F (b i))
theorem closed_Dr {op : Nat → Int} {a b : Nat → Nat} {F : Nat → Prop} (h : ClosedF op a b F) : ClosedF op a b (Dr op a b F) := by
  intro i d
  constructor
  · intro e
    cases d with
    | known x => exact ⟨.known ((h i x).1 e).1, .known ((h i x).1 e).2⟩
    | name e' => omega
    | pair _ x y => exact ⟨x, y⟩
    | half e' _ => omega
    | both e' _ _ => omega
    | bothA _ e' _ _ _ _ => omega
    | bothB _ e' _ _ _ _ => omega
  · intro e hk
    have hk := Dr.trans (fun _ x => x) hk
    cases d with
    | known x => exact .known ((h i x).2 e hk)
    | name e' => omega
    | pair _ x y => exact y
    | half e' _ => omega
    | both e' _ _ => omega
    | bothA _ e' _ _ _ _ => omega
    | bothB _ e' _ _ _ _ => omega
def OpF (op : Nat → Int) (a b : Nat → Nat) (K : Nat → Prop) (i : Nat) : Prop := ∀ S : Nat → Prop, (∀ j, K j → S j) → ClosedF op a b S → S i
theorem OpF.sub {op : Nat → Int} {a b : Nat → Nat} {K : Nat → Prop} {i : Nat} (h : K i) : OpF op a b K i := fun _ hs _ => hs _ h
theorem OpF.closed (op : Nat → Int) (a b : Nat → Nat) (K : Nat → Prop) : ClosedF op a b (OpF op a b K) := by
  intro i h
  refine ⟨fun e => ⟨fun S hs hc => ((hc i (h S hs hc)).1 e).1, fun S hs hc => ((hc i (h S hs hc)).1 e).2⟩, fun e d S hs hc => (hc i (h S hs hc)).2 e (d.mono (fun j hj => hj S hs hc))⟩
theorem OpF.mono {op : Nat → Int} {a b : Nat → Nat} {K L : Nat → Prop} (h : ∀ i, K i → OpF op a b L i) {i : Nat} (d : OpF op a b K i) : OpF op a b L i := d _ h (OpF.closed _ _ _ _)
def kidsT (op : Int) : Int := if op = 3 ∨ op = 4 ∨ op = 5 ∨ op = 7 then 2 else if op = 6 then 1 else 0
def termF (s : List S50) (t : S50) : Int :=
  if 1 ≤ t.f0 ∧ t.f0 ≤ 7 then
    (if (0 < kidsT t.f0 ∧ t.f3 ≠ 0) ∨ (kidsT t.f0 < 1 ∧ t.f1 ≠ 0) ∨ (kidsT t.f0 < 2 ∧ t.f2 ≠ 0) then 1
     else if ¬ (0 ≤ t.f3 ∧ t.f3 ≤ 9999) ∨ (0 < kidsT t.f0 ∧ ¬ (0 ≤ t.f1 ∧ t.f1 < s.length)) ∨ (1 < kidsT t.f0 ∧ ¬ (0 ≤ t.f2 ∧ t.f2 < s.length)) then 3
     else if (t.f0 = 6 ∨ t.f0 = 7) ∧ ((rd_T50 s t.f1).f0 ≠ 2 ∨ (1 < kidsT t.f0 ∧ ((rd_T50 s t.f2).f0 ≠ 2 ∨ t.f1 > t.f2))) then 1 else 0)
  else 5

theorem rdTerm_nat (l : List S50) (i : Nat) (h : i < l.length) : rd_T50 l i = l[i] := getD_nat l _ i h
def sameT (x y : S50) : Bool := x.f0 == y.f0 && (x.f1 == y.f1 && (x.f2 == y.f2 && x.f3 == y.f3))
theorem ev_spec_l5Find (s : List S50) (hs : s.length ≤ 1048576) (t : S50) : ∃ r, Ev (fun k => spec_l5Find.f k s t.f0 t.f1 t.f2 t.f3) r ∧ (0 ≤ r ↔ s.any (fun x => sameT x t) = true) := by
  have key : ∀ i, i ≤ s.length → ∃ r, Ev (fun k => spec_l5Find.l0 k s (i : Nat) t.f0 t.f1 t.f2 t.f3) r ∧ (0 ≤ r ↔ (s.drop i).any (fun x => sameT x t) = true) := by
    refine down s.length ?_ ?_
    · refine ⟨-1, Ev.step (fun k => by rw [spec_l5Find.l0, if_neg (by omega)]) (ev_some _), ?_⟩
      simp
    · intro i hi ih
      obtain ⟨r, hr, hm⟩ := ih
      rw [List.drop_eq_getElem_cons hi, List.any_cons]
      by_cases h : sameT s[i] t = true
      · refine ⟨(i : Int), Ev.step (fun k => by rw [spec_l5Find.l0, if_pos (by omega), if_pos (by omega), rdTerm_nat s i hi, show (s[i].f0 == t.f0 && (s[i].f1 == t.f1 && (s[i].f2 == t.f2 && s[i].f3 == t.f3))) = true from h, if_pos rfl]) (ev_some _), ?_⟩
        simp [h]
      · refine ⟨r, Ev.step (fun k => by rw [spec_l5Find.l0, if_pos (by omega), if_pos (by omega), rdTerm_nat s i hi, show (s[i].f0 == t.f0 && (s[i].f1 == t.f1 && (s[i].f2 == t.f2 && s[i].f3 == t.f3))) = false from Bool.eq_false_iff.mpr h, if_neg (by simp), w64 (by omega) (by omega)]; rfl) hr, ?_⟩
        simp only [Bool.not_eq_true] at h
        rw [h, Bool.false_or]
        exact hm
  have h := key 0 (by omega)
  rw [List.drop_zero] at h
  exact h

def scanT : List S50 → List S50 → Int
  | _, [] => 0
  | s, t :: ts => if termF s t = 0 then (if s.any (fun x => sameT x t) = true then 7 else scanT (s ++ [t]) ts) else termF s t
def termsF (l : List S50) : Int := if 400 < l.length then 2 else scanT [] l

theorem q_impl_in (a b c : Int) : impl_in.f a b c = some (decide (b ≤ a ∧ a ≤ c)) := by
  unfold impl_in.f
  by_cases h : b ≤ a
  · simp [h]
  · simp [h]

theorem q_isPlace (s : List S50) (hs : s.length ≤ 1048576) (a : Int) : impl_isPlace.f s a = some (decide (0 ≤ a ∧ a < (s.length : Int))) := by
  unfold impl_isPlace.f
  rw [q_impl_in, Option.bind_some, w64 (by omega) (by omega)]
  congr 2
  simp only [eq_iff_iff]
  omega
theorem q_names12 {op : Int} (h : op = 1 ∨ op = 2) : impl_namesOf.f 9 op = some (false, false, true) := by
  rcases h with rfl | rfl <;> rfl
theorem q_names6 : impl_namesOf.f 9 6 = some (true, false, false) := rfl
theorem q_namesP {op : Int} (h1 : op ≠ 1) (h2 : op ≠ 2) (h6 : op ≠ 6) : impl_namesOf.f 9 op = some (true, true, false) := by
  simp [impl_namesOf.f, impl_namesOf.j0, h1, h2, h6]
theorem q_impl_fault (s : List S50) (hs : s.length ≤ 1048576) (t : S50) : impl_Term_fault.f t.f0 t.f1 t.f2 t.f3 s = some (termF s t) := by
  obtain ⟨op, A, B, N⟩ := t
  have hp1 : ∀ a, impl_Term_fault.p1 s a = some (!decide (0 ≤ a ∧ a < (s.length : Int))) := fun a => by
    rw [impl_Term_fault.p1, q_isPlace s hs]
    rfl
  have hp2 : ∀ a, 0 ≤ a ∧ a < (s.length : Int) → impl_Term_fault.p2 s a = some ((rd_T50 s a).f0 != 2) := fun a h => by
    rw [impl_Term_fault.p2, if_pos h.1, if_pos h.2]
  unfold impl_Term_fault.f termF
  dsimp only
  rw [q_impl_in, Option.bind_some]
  by_cases h12 : op = 1 ∨ op = 2
  · have hk : kidsT op = 0 := by
      unfold kidsT
      rw [if_neg (by omega), if_neg (by omega)]
    have hps : impl_Term_parts.f 9 op A B N = some [] := by rw [impl_Term_parts.f, q_names12 h12]; rfl
    rw [q_names12 h12, Option.bind_some, q_impl_in, Option.bind_some, hps, Option.bind_some, idxO, Option.bind_some, if_neg (by omega), idxO, Option.bind_some, hk]
    refine congrArg some ?_
    simp only [impl_Term_fault.r, decide_eq_true_eq, true_and, reduceCtorEq, false_and, or_false, false_or]
    (repeat' split) <;> (first | omega | simp_all)
  · by_cases h6 : op = 6
    · subst h6
      have hk : kidsT 6 = 1 := rfl
      have hps : impl_Term_parts.f 9 6 A B N = some [A] := by rw [impl_Term_parts.f, q_names6]; rfl
      rw [q_names6, Option.bind_some, q_impl_in, Option.bind_some, hps, Option.bind_some, idxO, hp1, Option.bind_some, hk]
      by_cases ha : 0 ≤ A ∧ A < (s.length : Int)
      · rw [decide_eq_true ha, Bool.not_true, if_neg (by simp), idxO, Option.bind_some, if_neg (by omega), idxO, hp2 A ha, Option.bind_some]
        by_cases g : (rd_T50 s A).f0 = 2
        · rw [if_neg (by simp [g]), idxO, Option.bind_some]
          refine congrArg some ?_
          simp only [impl_Term_fault.r, decide_eq_true_eq, true_and, reduceCtorEq, false_and, or_false, false_or]
          (repeat' split) <;> (first | omega | simp_all)
        · rw [if_pos (by simp [g]), Option.bind_some]
          refine congrArg some ?_
          simp only [impl_Term_fault.r, decide_eq_true_eq, true_and, reduceCtorEq, false_and, or_false, false_or]
          (repeat' split) <;> (first | omega | simp_all)
      · rw [decide_eq_false ha, Bool.not_false, if_pos rfl, Option.bind_some, if_pos (by omega), Option.bind_some]
        refine congrArg some ?_
        simp only [impl_Term_fault.r, decide_eq_true_eq, true_and, reduceCtorEq, false_and, or_false, false_or]
        (repeat' split) <;> (first | omega | simp_all)
    · have hps : impl_Term_parts.f 9 op A B N = some [A, B] := by rw [impl_Term_parts.f, q_namesP (by omega) (by omega) h6]; rfl
      have hk : 1 ≤ op ∧ op ≤ 7 → kidsT op = 2 := by
        intro h
        unfold kidsT
        rw [if_pos (by omega)]
      rw [q_namesP (by omega) (by omega) h6, Option.bind_some, q_impl_in, Option.bind_some, hps, Option.bind_some, idxO, hp1, Option.bind_some]
      have fin : ∀ (i j : Int), (1 ≤ op ∧ op ≤ 7 → (0 ≤ i ↔ ¬ ((0 ≤ A ∧ A < (s.length : Int)) ∧ (0 ≤ B ∧ B < (s.length : Int))))) → (¬ 0 ≤ i → (0 ≤ j ↔ (rd_T50 s A).f0 ≠ 2 ∨ (rd_T50 s B).f0 ≠ 2)) →
          impl_Term_fault.r op A B N (decide (1 ≤ op ∧ op ≤ 7)) true true false (decide (0 ≤ N ∧ N ≤ 9999)) i j = (if 1 ≤ op ∧ op ≤ 7 then
    (if (0 < kidsT op ∧ N ≠ 0) ∨ (kidsT op < 1 ∧ A ≠ 0) ∨ (kidsT op < 2 ∧ B ≠ 0) then 1
     else if ¬ (0 ≤ N ∧ N ≤ 9999) ∨ (0 < kidsT op ∧ ¬ (0 ≤ A ∧ A < s.length)) ∨ (1 < kidsT op ∧ ¬ (0 ≤ B ∧ B < s.length)) then 3
     else if (op = 6 ∨ op = 7) ∧ ((rd_T50 s A).f0 ≠ 2 ∨ (1 < kidsT op ∧ ((rd_T50 s B).f0 ≠ 2 ∨ A > B))) then 1 else 0)
  else 5) := by
        intro i j hi hj
        by_cases h : 1 ≤ op ∧ op ≤ 7
        · have hi := hi h
          rw [hk h]
          simp only [impl_Term_fault.r, decide_eq_true_eq, true_and, reduceCtorEq, false_and, or_false, false_or]
          (repeat' split) <;> (first | omega | simp_all)
        · simp only [impl_Term_fault.r, decide_eq_true_eq, true_and, reduceCtorEq, false_and, or_false, false_or]
          rw [if_neg h, if_neg h]
      by_cases ha : 0 ≤ A ∧ A < (s.length : Int)
      · rw [decide_eq_true ha, Bool.not_true, if_neg (by simp), idxO, hp1, Option.bind_some]
        by_cases hb : 0 ≤ B ∧ B < (s.length : Int)
        · rw [decide_eq_true hb, Bool.not_true, if_neg (by simp), idxO, Option.bind_some, if_neg (by omega), idxO, hp2 A ha, Option.bind_some]
          by_cases g : (rd_T50 s A).f0 = 2
          · rw [if_neg (by simp [g]), idxO, hp2 B hb, Option.bind_some]
            by_cases g2 : (rd_T50 s B).f0 = 2
            · rw [if_neg (by simp [g2]), idxO, Option.bind_some, fin _ _ (fun _ => by omega) (fun _ => by simp [g, g2])]
            · rw [if_pos (by simp [g2]), Option.bind_some, fin _ _ (fun _ => by omega) (fun _ => by simp [g, g2])]
          · rw [if_pos (by simp [g]), Option.bind_some, fin _ _ (fun _ => by omega) (fun _ => by simp [g])]
        · rw [decide_eq_false hb, Bool.not_false, if_pos rfl, Option.bind_some, if_pos (by omega), Option.bind_some, fin _ _ (fun _ => by omega) (fun h => absurd (by omega) h)]
      · rw [decide_eq_false ha, Bool.not_false, if_pos rfl, Option.bind_some, if_pos (by omega), Option.bind_some, fin _ _ (fun _ => by omega) (fun h => absurd (by omega) h)]

theorem termF_ok {s : List S50} {t : S50} (h : termF s t = 0) : (1 ≤ t.f0 ∧ t.f0 ≤ 7) ∧ (0 < kidsT t.f0 → t.f3 = 0 ∧ 0 ≤ t.f1 ∧ t.f1 < s.length) ∧ (kidsT t.f0 < 1 → t.f1 = 0) ∧ (kidsT t.f0 < 2 → t.f2 = 0) ∧ (1 < kidsT t.f0 → 0 ≤ t.f2 ∧ t.f2 < s.length) ∧ 0 ≤ t.f3 ∧ t.f3 ≤ 9999 ∧
    (t.f0 = 6 ∨ t.f0 = 7 → (rd_T50 s t.f1).f0 = 2) ∧ (t.f0 = 7 → (rd_T50 s t.f2).f0 = 2 ∧ t.f1 ≤ t.f2) := by
  have hk7 : t.f0 = 7 → kidsT t.f0 = 2 := fun e => by rw [e]; rfl
  unfold termF at h
  by_cases c0 : 1 ≤ t.f0 ∧ t.f0 ≤ 7
  · rw [if_pos c0] at h
    by_cases c1 : (0 < kidsT t.f0 ∧ t.f3 ≠ 0) ∨ (kidsT t.f0 < 1 ∧ t.f1 ≠ 0) ∨ (kidsT t.f0 < 2 ∧ t.f2 ≠ 0)
    · rw [if_pos c1] at h
      exact absurd h (by omega)
    · rw [if_neg c1] at h
      by_cases c2 : ¬ (0 ≤ t.f3 ∧ t.f3 ≤ 9999) ∨ (0 < kidsT t.f0 ∧ ¬ (0 ≤ t.f1 ∧ t.f1 < s.length)) ∨ (1 < kidsT t.f0 ∧ ¬ (0 ≤ t.f2 ∧ t.f2 < s.length))
      · rw [if_pos c2] at h
        exact absurd h (by omega)
      · rw [if_neg c2] at h
        by_cases c3 : (t.f0 = 6 ∨ t.f0 = 7) ∧ ((rd_T50 s t.f1).f0 ≠ 2 ∨ (1 < kidsT t.f0 ∧ ((rd_T50 s t.f2).f0 ≠ 2 ∨ t.f1 > t.f2)))
        · rw [if_pos c3] at h
          exact absurd h (by omega)
        · refine ⟨c0, ?_, ?_, ?_, ?_, ?_, ?_, ?_, ?_⟩ <;> omega
  · rw [if_neg c0] at h
    exact absurd h (by omega)
theorem sameT_eqT (x t : S50) : eqT t x = sameT x t := by
  unfold eqT sameT
  rw [Bool.eq_iff_iff]
  simp
  constructor
  · rintro ⟨h1, h2, h3, h4⟩
    exact ⟨h1.symm, h2.symm, h3.symm, h4.symm⟩
  · rintro ⟨h1, h2, h3, h4⟩
    exact ⟨h1.symm, h2.symm, h3.symm, h4.symm⟩
theorem q_TermsFault_l : ∀ (ts s : List S50), s.length + ts.length ≤ 1048576 → impl_TermsFault.l s ts = some (scanT s ts)
  | [], _, _ => by rw [impl_TermsFault.l, scanT]
  | t :: ts, s, h => by
    rw [List.length_cons] at h
    rw [impl_TermsFault.l, q_impl_fault s (by omega) t, Option.bind_some, scanT]
    by_cases c : termF s t = 0
    · have hk := termF_ok c
      have hr : okT t = true := by
        unfold okT okI
        simp only [Bool.and_eq_true, decide_eq_true_eq]
        have h0 := hk.1
        by_cases k0 : 0 < kidsT t.f0 <;> by_cases k1 : 1 < kidsT t.f0 <;> omega
      rw [if_pos c, if_pos c, if_pos hr]
      have ha : s.any (eqT t) = s.any (fun x => sameT x t) := by
        congr 1
        funext x
        exact sameT_eqT x t
      rw [ha]
      by_cases g : s.any (fun x => sameT x t) = true
      · rw [if_pos g, if_pos g]
      · rw [if_neg g, if_neg g]
        exact q_TermsFault_l ts _ (by rw [List.length_append, List.length_singleton]; omega)
    · rw [if_neg c, if_neg c]
theorem q_impl_TermsFault (l : List S50) (hl : l.length ≤ 1048576) : impl_TermsFault.f l = some (termsF l) := by
  unfold impl_TermsFault.f termsF
  by_cases h : 400 < l.length
  · rw [if_pos h, if_pos h]
  · rw [if_neg h, if_neg h, q_TermsFault_l l [] (by simpa using hl)]

theorem scanT_ok : ∀ (ts s : List S50), scanT s ts = 0 → ∀ i (h : i < ts.length), termF (s ++ ts.take i) ts[i] = 0
  | [], _, _, i, h => absurd h (by simp)
  | t :: ts, s, e, i, h => by
    rw [scanT] at e
    by_cases c : termF s t = 0
    · rw [if_pos c] at e
      by_cases g : s.any (fun x => sameT x t) = true
      · rw [if_pos g] at e
        exact absurd e (by omega)
      · rw [if_neg g] at e
        cases i with
        | zero => simpa using c
        | succ i =>
          have := scanT_ok ts (s ++ [t]) e i (by simpa using h)
          simpa using this
    · rw [if_neg c] at e
      exact absurd e c
theorem termsF_ok {l : List S50} (h : termsF l = 0) : l.length ≤ 400 ∧ ∀ i (h : i < l.length), termF (l.take i) l[i] = 0 := by
  unfold termsF at h
  by_cases c : 400 < l.length
  · rw [if_pos c] at h
    exact absurd h (by omega)
  · rw [if_neg c] at h
    refine ⟨by omega, fun i hi => ?_⟩
    have := scanT_ok l [] h i hi
    simpa using this
/-- What is known of a term of a right table: its parts stand ahead of it. -/
theorem term_parts {l : List S50} (h : termsF l = 0) (i : Nat) (hi : i < l.length) : (1 ≤ l[i].f0 ∧ l[i].f0 ≤ 7) ∧ (0 < kidsT l[i].f0 → 0 ≤ l[i].f1 ∧ l[i].f1 < (i : Int)) ∧ (1 < kidsT l[i].f0 → 0 ≤ l[i].f2 ∧ l[i].f2 < (i : Int)) := by
  have hk := termF_ok ((termsF_ok h).2 i hi)
  have hl : (l.take i).length = i := by rw [List.length_take]; omega
  rw [hl] at hk
  exact ⟨hk.1, fun e => ⟨(hk.2.1 e).2.1, (hk.2.1 e).2.2⟩, hk.2.2.2.2.1⟩

def scanK (n : Int) : Option Int → List Int → Int
  | _, [] => 0
  | p, x :: xs => if 0 ≤ x ∧ x < n then (if (∃ y, p = some y ∧ x ≤ y) then 1 else scanK n (some x) xs) else 3
def prevK (ks : List Int) (i : Nat) : Option Int := if i = 0 then none else ks[i - 1]?
def knownF (l : List S50) (ks : List Int) : Int := if termsF l = 0 then (if 400 < ks.length then 2 else scanK l.length none ks) else termsF l
theorem prevK_zero (ks : List Int) : prevK ks 0 = none := rfl
theorem prevK_succ (ks : List Int) (i : Nat) (h : i < ks.length) : prevK ks (i + 1) = some ks[i] := by
  unfold prevK
  rw [if_neg (by omega), Nat.add_sub_cancel, List.getElem?_eq_getElem h]
theorem prevK_pos (ks : List Int) (i : Nat) (h : i < ks.length) (h0 : 0 < i) : prevK ks i = some (ks[i - 1]) := by
  unfold prevK
  rw [if_neg (by omega), List.getElem?_eq_getElem (by omega)]

theorem scanK_ok (n : Int) : ∀ (ks : List Int) (p : Option Int), scanK n p ks = 0 → ∀ x ∈ ks, 0 ≤ x ∧ x < n
  | [], _, _, x, hx => absurd hx (by simp)
  | y :: ys, p, h, x, hx => by
    rw [scanK] at h
    by_cases g : 0 ≤ y ∧ y < n
    · rw [if_pos g] at h
      by_cases c : ∃ z, p = some z ∧ y ≤ z
      · rw [if_pos c] at h
        exact absurd h (by omega)
      · rw [if_neg c] at h
        rcases List.mem_cons.mp hx with rfl | hx
        · exact g
        · exact scanK_ok n ys _ h x hx
    · rw [if_neg g] at h
      exact absurd h (by omega)
theorem knownF_ok {l : List S50} {ks : List Int} (h : knownF l ks = 0) : termsF l = 0 ∧ ks.length ≤ 400 ∧ ∀ x ∈ ks, 0 ≤ x ∧ x < (l.length : Int) := by
  unfold knownF at h
  by_cases c : termsF l = 0
  · rw [if_pos c] at h
    by_cases g : 400 < ks.length
    · rw [if_pos g] at h
      exact absurd h (by omega)
    · rw [if_neg g] at h
      exact ⟨c, by omega, scanK_ok _ ks _ h⟩
  · rw [if_neg c] at h
    exact absurd h c

def setL (b : List Bool) (ks : List Int) : List Bool := ks.foldl (fun b p => b.set p.toNat true) b
theorem setL_len : ∀ (ks : List Int) (b : List Bool), (setL b ks).length = b.length
  | [], _ => rfl
  | p :: ps, b => (setL_len ps (b.set p.toNat true)).trans List.length_set
def flagsL (n : Nat) (ks : List Int) : List Bool := setL (List.replicate n false) ks
theorem flagsL_len (n : Nat) (ks : List Int) : (flagsL n ks).length = n := by rw [flagsL, setL_len, List.length_replicate]
theorem rdOf_nat' (l : List Bool) (i : Nat) (h : i < l.length) : rdOf false l (i : Int) = l[i] := by
  unfold rdOf
  simp [List.getD_eq_getElem?_getD, h]
theorem rdOf_append (a b : List Bool) (x : Int) (h0 : 0 ≤ x) (h1 : x < (a.length : Int)) : rdOf false (a ++ b) x = rdOf false a x := by
  obtain ⟨n, rfl⟩ := Int.eq_ofNat_of_zero_le h0
  rw [rdOf_nat' _ n (by rw [List.length_append]; omega), rdOf_nat' _ n (by omega), List.getElem_append_left (by omega)]

theorem kids2 (op : Int) : (op = 3 ∨ op = 4 ∨ op = 5 ∨ op = 7 → kidsT op = 2) ∧ (op = 6 → kidsT op = 1) := by
  unfold kidsT
  constructor
  · intro h
    rw [if_pos h]
  · rintro rfl
    simp

def mkV (S : List Int) (o : List Bool) (b : Bool) (t : S50) : Bool :=
  b || cond (t.f0 == 1) true (cond (t.f0 == 3 || (t.f0 == 4 || t.f0 == 5)) (rdOf false o t.f1 && rdOf false o t.f2) (cond (t.f0 == 6) (rdOf false o t.f1) (cond (t.f0 == 7) ((rdOf false o t.f1 && (rdOf false o t.f2 || decide (t.f2 ∈ S))) || (rdOf false o t.f2 && decide (t.f1 ∈ S))) false)))
def mkA (l : List S50) (f : List Bool) (S : List Int) : Nat → List Bool
  | 0 => []
  | k + 1 => mkA l f S k ++ [mkV S (mkA l f S k) (rdOf false f (k : Int)) (rd_T50 l (k : Int))]
theorem mkA_len (l : List S50) (f : List Bool) (S : List Int) : ∀ k, (mkA l f S k).length = k
  | 0 => rfl
  | k + 1 => by rw [mkA, List.length_append, List.length_singleton, mkA_len l f S k]
def halvesL (l : List S50) (f : List Bool) : Nat → List Int
  | 0 => []
  | k + 1 => if (rd_T50 l (k : Int)).f0 = 6 ∧ rdOf false f (k : Int) = true then halvesL l f k ++ [(rd_T50 l (k : Int)).f1] else halvesL l f k
def mkF (l : List S50) (f : List Bool) : List Bool := mkA l f (halvesL l f l.length) l.length
theorem mkF_len (l : List S50) (f : List Bool) : (mkF l f).length = l.length := mkA_len _ _ _ _
theorem term_range {l : List S50} (h : termsF l = 0) (i : Nat) (hi : i < l.length) : (1 ≤ l[i].f0 ∧ l[i].f0 ≤ 7) ∧ (l[i].f0 = 3 ∨ l[i].f0 = 4 ∨ l[i].f0 = 5 ∨ l[i].f0 = 6 ∨ l[i].f0 = 7 → 0 ≤ l[i].f1 ∧ l[i].f1 < (i : Int)) ∧ (l[i].f0 = 3 ∨ l[i].f0 = 4 ∨ l[i].f0 = 5 ∨ l[i].f0 = 7 → 0 ≤ l[i].f2 ∧ l[i].f2 < (i : Int)) := by
  obtain ⟨h1, h2, h3⟩ := term_parts h i hi
  obtain ⟨k2, k1⟩ := kids2 l[i].f0
  refine ⟨h1, fun e => ?_, fun e => ?_⟩
  · by_cases h6 : l[i].f0 = 6
    · exact h2 (by rw [k1 h6]; omega)
    · exact h2 (by rw [k2 (by omega)]; omega)
  · exact h3 (by rw [k2 e]; omega)

def opT (l : List S50) (i : Nat) : Int := (rd_T50 l (i : Int)).f0
def aT (l : List S50) (i : Nat) : Nat := (rd_T50 l (i : Int)).f1.toNat
def bT (l : List S50) (i : Nat) : Nat := (rd_T50 l (i : Int)).f2.toNat
def onF (f : List Bool) (i : Nat) : Prop := rdOf false f (i : Int) = true
def DrT (l : List S50) (F : Nat → Prop) (i : Nat) : Prop := Dr (opT l) (aT l) (bT l) F i
theorem onF_lt {f : List Bool} {i : Nat} (h : onF f i) : i < f.length := by
  unfold onF rdOf at h
  rw [Int.toNat_natCast, List.getD_eq_getElem?_getD] at h
  by_cases c : i < f.length
  · exact c
  · rw [List.getElem?_eq_none (by omega)] at h
    exact absurd h (by simp)
theorem opT_lt {l : List S50} {i : Nat} (h : opT l i ≠ 0) : i < l.length := by
  by_cases c : i < l.length
  · exact c
  · refine absurd ?_ h
    unfold opT
    show (l.getD (i : Int).toNat z50).f0 = 0
    rw [Int.toNat_natCast, List.getD_eq_getElem?_getD, List.getElem?_eq_none (by omega)]
    rfl
theorem refs {l : List S50} (ht : termsF l = 0) (i : Nat) (hi : i < l.length) : (1 ≤ opT l i ∧ opT l i ≤ 7) ∧ (opT l i = 3 ∨ opT l i = 4 ∨ opT l i = 5 ∨ opT l i = 6 ∨ opT l i = 7 → (rd_T50 l (i : Int)).f1 = (aT l i : Int) ∧ aT l i < i) ∧ (opT l i = 3 ∨ opT l i = 4 ∨ opT l i = 5 ∨ opT l i = 7 → (rd_T50 l (i : Int)).f2 = (bT l i : Int) ∧ bT l i < i) := by
  obtain ⟨h1, h2, h3⟩ := term_range ht i hi
  unfold opT aT bT
  rw [rdTerm_nat l i hi]
  refine ⟨h1, fun e => ?_, fun e => ?_⟩
  · have := h2 e
    omega
  · have := h3 e
    omega
theorem halves_mem (l : List S50) (f : List Bool) (x : Int) : ∀ k, x ∈ halvesL l f k ↔ ∃ j : Nat, j < k ∧ opT l j = 6 ∧ onF f j ∧ (rd_T50 l (j : Int)).f1 = x
  | 0 => by simp [halvesL]
  | k + 1 => by
    have ih := halves_mem l f x k
    rw [halvesL]
    by_cases c : (rd_T50 l (k : Int)).f0 = 6 ∧ rdOf false f (k : Int) = true
    · rw [if_pos c, List.mem_append, List.mem_singleton, ih]
      constructor
      · rintro (⟨j, h1, h2⟩ | h)
        · exact ⟨j, by omega, h2⟩
        · exact ⟨k, by omega, c.1, c.2, h.symm⟩
      · rintro ⟨j, h1, h2⟩
        by_cases e : j = k
        · subst e
          exact .inr h2.2.2.symm
        · exact .inl ⟨j, by omega, h2⟩
    · rw [if_neg c, ih]
      constructor
      · rintro ⟨j, h1, h2⟩
        exact ⟨j, by omega, h2⟩
      · rintro ⟨j, h1, h2⟩
        by_cases e : j = k
        · subst e
          exact absurd ⟨h2.1, h2.2.1⟩ c
        · exact ⟨j, by omega, h2⟩
theorem mkA_pre (l : List S50) (f : List Bool) (S : List Int) (x i : Nat) (hx : x < i) : ∀ k, i ≤ k → rdOf false (mkA l f S k) (x : Int) = rdOf false (mkA l f S i) (x : Int)
  | 0, h => by omega
  | k + 1, h => by
    by_cases e : i = k + 1
    · rw [e]
    · rw [mkA, rdOf_append _ _ _ (by omega) (by rw [mkA_len]; omega)]
      exact mkA_pre l f S x i hx k (by omega)
theorem mkA_at (l : List S50) (f : List Bool) (S : List Int) (i k : Nat) (h : i < k) : rdOf false (mkA l f S k) (i : Int) = mkV S (mkA l f S i) (rdOf false f (i : Int)) (rd_T50 l (i : Int)) := by
  rw [mkA_pre l f S i (i + 1) (by omega) k (by omega), mkA]
  have hl := mkA_len l f S i
  rw [rdOf_nat' _ i (by rw [List.length_append, hl]; simp), List.getElem_append_right (by omega)]
  simp [hl]
theorem mkF_at (l : List S50) (ht : termsF l = 0) (f : List Bool) (i : Nat) (hi : i < l.length) : onF (mkF l f) i ↔ onF f i ∨ opT l i = 1 ∨ ((opT l i = 3 ∨ opT l i = 4 ∨ opT l i = 5) ∧ onF (mkF l f) (aT l i) ∧ onF (mkF l f) (bT l i)) ∨ (opT l i = 6 ∧ onF (mkF l f) (aT l i)) ∨
    (opT l i = 7 ∧ ((onF (mkF l f) (aT l i) ∧ (onF (mkF l f) (bT l i) ∨ (bT l i : Int) ∈ halvesL l f l.length)) ∨ (onF (mkF l f) (bT l i) ∧ (aT l i : Int) ∈ halvesL l f l.length))) := by
  obtain ⟨h1, h2, h3⟩ := refs ht i hi
  have e0 : onF (mkF l f) i ↔ mkV (halvesL l f l.length) (mkA l f (halvesL l f l.length) i) (rdOf false f (i : Int)) (rd_T50 l (i : Int)) = true := by
    unfold onF mkF
    rw [mkA_at l f _ i l.length hi]
  have pr : ∀ x, x < i → (onF (mkF l f) x ↔ rdOf false (mkA l f (halvesL l f l.length) i) (x : Int) = true) := by
    intro x hx
    unfold onF mkF
    rw [mkA_pre l f _ x i hx l.length (by omega)]
  rw [e0]
  unfold mkV
  have hop : (rd_T50 l (i : Int)).f0 = opT l i := rfl
  rw [hop]
  obtain e | e | e | e | e | e | e : opT l i = 1 ∨ opT l i = 2 ∨ opT l i = 3 ∨ opT l i = 4 ∨ opT l i = 5 ∨ opT l i = 6 ∨ opT l i = 7 := by omega
  · simp [e]
  · simp [e, onF]
  · obtain ⟨q2, r2⟩ := h2 (by omega)
    obtain ⟨q3, r3⟩ := h3 (by omega)
    rw [pr _ r2, pr _ r3, q2, q3]
    simp [e, onF]
  · obtain ⟨q2, r2⟩ := h2 (by omega)
    obtain ⟨q3, r3⟩ := h3 (by omega)
    rw [pr _ r2, pr _ r3, q2, q3]
    simp [e, onF]
  · obtain ⟨q2, r2⟩ := h2 (by omega)
    obtain ⟨q3, r3⟩ := h3 (by omega)
    rw [pr _ r2, pr _ r3, q2, q3]
    simp [e, onF]
  · obtain ⟨q2, r2⟩ := h2 (by omega)
    rw [pr _ r2, q2]
    simp [e, onF]
  · obtain ⟨q2, r2⟩ := h2 (by omega)
    obtain ⟨q3, r3⟩ := h3 (by omega)
    rw [pr _ r2, pr _ r3, q2, q3]
    simp [e, onF]
theorem mkF_dr (l : List S50) (ht : termsF l = 0) (f : List Bool) (hf : f.length = l.length) : ∀ i, onF (mkF l f) i ↔ DrT l (onF f) i := by
  intro i
  induction i using Nat.strongRecOn with
  | _ i ih =>
  by_cases hi : i < l.length
  · obtain ⟨h1, h2, h3⟩ := refs ht i hi
    rw [mkF_at l ht f i hi]
    constructor
    · rintro (h | h | ⟨e, ha, hb⟩ | ⟨e, ha⟩ | ⟨e, h⟩)
      · exact .known h
      · exact .name h
      · exact .pair e ((ih _ (h2 (by omega)).2).1 ha) ((ih _ (h3 (by omega)).2).1 hb)
      · exact .half e ((ih _ (h2 (by omega)).2).1 ha)
      · rcases h with ⟨ha, hb | hb⟩ | ⟨hb, ha⟩
        · exact .both e ((ih _ (h2 (by omega)).2).1 ha) ((ih _ (h3 (by omega)).2).1 hb)
        · obtain ⟨j, j1, j2, j3, j4⟩ := (halves_mem _ _ _ _).1 hb
          exact .bothA j e ((ih _ (h2 (by omega)).2).1 ha) j2 j3 (by unfold aT; omega)
        · obtain ⟨j, j1, j2, j3, j4⟩ := (halves_mem _ _ _ _).1 ha
          exact .bothB j e ((ih _ (h3 (by omega)).2).1 hb) j2 j3 (by have : aT l j = ((rd_T50 l (j : Int)).f1).toNat := rfl; omega)
    · intro d
      cases d with
      | known h => exact .inl h
      | name h => exact .inr (.inl h)
      | pair e x y => exact .inr (.inr (.inl ⟨e, (ih _ (h2 (by omega)).2).2 x, (ih _ (h3 (by omega)).2).2 y⟩))
      | half e x => exact .inr (.inr (.inr (.inl ⟨e, (ih _ (h2 (by omega)).2).2 x⟩)))
      | both e x y => exact .inr (.inr (.inr (.inr ⟨e, .inl ⟨(ih _ (h2 (by omega)).2).2 x, .inl ((ih _ (h3 (by omega)).2).2 y)⟩⟩)))
      | bothA j e x g hj q =>
        have hjl := opT_lt (l := l) (i := j) (by omega)
        obtain ⟨_, j2, _⟩ := refs ht j hjl
        exact .inr (.inr (.inr (.inr ⟨e, .inl ⟨(ih _ (h2 (by omega)).2).2 x, .inr ((halves_mem _ _ _ _).2 ⟨j, hjl, g, hj, by rw [(j2 (by omega)).1, q]⟩)⟩⟩)))
      | bothB j e x g hj q =>
        have hjl := opT_lt (l := l) (i := j) (by omega)
        obtain ⟨_, j2, _⟩ := refs ht j hjl
        exact .inr (.inr (.inr (.inr ⟨e, .inr ⟨(ih _ (h3 (by omega)).2).2 x, (halves_mem _ _ _ _).2 ⟨j, hjl, g, hj, by rw [(j2 (by omega)).1, q]⟩⟩⟩)))
  · constructor
    · intro h
      have := onF_lt h
      rw [mkF_len] at this
      omega
    · intro d
      exfalso
      cases d with
      | known h => have := onF_lt h; omega
      | name e => exact hi (opT_lt (by omega))
      | pair e _ _ => exact hi (opT_lt (by omega))
      | half e _ => exact hi (opT_lt (by omega))
      | both e _ _ => exact hi (opT_lt (by omega))
      | bothA _ e _ _ _ _ => exact hi (opT_lt (by omega))
      | bothB _ e _ _ _ _ => exact hi (opT_lt (by omega))

def OpT (l : List S50) (K : Nat → Prop) (i : Nat) : Prop := OpF (opT l) (aT l) (bT l) K i
def ClT (l : List S50) (F : Nat → Prop) : Prop := ClosedF (opT l) (aT l) (bT l) F
def inL (ks : List Int) (i : Nat) : Prop := (i : Int) ∈ ks
theorem onF_set (o : List Bool) (m j : Nat) (hm : m < o.length) : onF (o.set m true) j ↔ onF o j ∨ j = m := by
  unfold onF rdOf
  rw [Int.toNat_natCast, List.getD_eq_getElem?_getD, List.getD_eq_getElem?_getD, List.getElem?_set]
  by_cases e : m = j
  · subst e
    simp [hm]
  · simp [e, Ne.symm e]
theorem onF_setL : ∀ (ks : List Int) (b : List Bool) (j : Nat), (∀ x ∈ ks, 0 ≤ x ∧ x < (b.length : Int)) → (onF (setL b ks) j ↔ onF b j ∨ inL ks j)
  | [], b, j, _ => by simp [setL, inL]
  | p :: ps, b, j, h => by
    have hp := h p List.mem_cons_self
    have ih := onF_setL ps (b.set p.toNat true) j (fun x hx => by rw [List.length_set]; exact h x (List.mem_cons_of_mem _ hx))
    have e : setL b (p :: ps) = setL (b.set p.toNat true) ps := rfl
    rw [e, ih, onF_set b p.toNat j (by omega)]
    unfold inL
    rw [List.mem_cons]
    constructor
    · rintro ((h1 | h1) | h1)
      · exact .inl h1
      · exact .inr (.inl (by omega))
      · exact .inr (.inr h1)
    · rintro (h1 | h1 | h1)
      · exact .inl (.inl h1)
      · exact .inl (.inr (by omega))
      · exact .inr h1
theorem onF_flags (n : Nat) (ks : List Int) (j : Nat) (h : ∀ x ∈ ks, 0 ≤ x ∧ x < (n : Int)) : onF (flagsL n ks) j ↔ inL ks j := by
  unfold flagsL
  rw [onF_setL ks _ j (by rw [List.length_replicate]; exact h)]
  constructor
  · rintro (h1 | h1)
    · exfalso
      have := onF_lt h1
      unfold onF at h1
      rw [rdOf_nat' _ j (by rw [List.length_replicate] at *; exact this), List.getElem_replicate] at h1
      exact absurd h1 (by simp)
    · exact h1
  · exact .inr
theorem onF_ext {a b : List Bool} (hl : a.length = b.length) (h : ∀ j, onF a j ↔ onF b j) : a = b := by
  apply List.ext_getElem hl
  intro j h1 h2
  have := h j
  unfold onF at this
  rw [rdOf_nat' a j h1, rdOf_nat' b j h2] at this
  exact Bool.eq_iff_iff.2 this
theorem DrT.mono {l : List S50} {F G : Nat → Prop} (h : ∀ i, F i → G i) {i : Nat} (d : DrT l F i) : DrT l G i := Dr.mono h d
theorem DrT.congr {l : List S50} {F G : Nat → Prop} (h : ∀ i, F i ↔ G i) (i : Nat) : DrT l F i ↔ DrT l G i := ⟨fun d => d.mono (fun j => (h j).1), fun d => d.mono (fun j => (h j).2)⟩
theorem OpT.congr {l : List S50} {F G : Nat → Prop} (h : ∀ i, F i ↔ G i) (i : Nat) : OpT l F i ↔ OpT l G i :=
  ⟨fun d S hs hc => d S (fun j hj => hs j ((h j).1 hj)) hc, fun d S hs hc => d S (fun j hj => hs j ((h j).2 hj)) hc⟩
theorem mkF_flags (l : List S50) (ht : termsF l = 0) (ks : List Int) (h : ∀ x ∈ ks, 0 ≤ x ∧ x < (l.length : Int)) (i : Nat) : onF (mkF l (flagsL l.length ks)) i ↔ DrT l (inL ks) i := by
  rw [mkF_dr l ht _ (flagsL_len _ _)]
  exact DrT.congr (fun j => onF_flags _ _ _ h) i

def Ris (l : List Int) : Prop := l.Pairwise (· < ·)
theorem ris_ext : ∀ {a b : List Int}, Ris a → Ris b → (∀ x, x ∈ a ↔ x ∈ b) → a = b
  | [], [], _, _, _ => rfl
  | [], y :: ys, _, _, h => absurd ((h y).2 List.mem_cons_self) (by simp)
  | x :: xs, [], _, _, h => absurd ((h x).1 List.mem_cons_self) (by simp)
  | x :: xs, y :: ys, ha, hb, h => by
    obtain ⟨a1, a2⟩ := List.pairwise_cons.1 ha
    obtain ⟨b1, b2⟩ := List.pairwise_cons.1 hb
    have hxy : x = y := by
      rcases List.mem_cons.1 ((h x).1 List.mem_cons_self) with e | e
      · exact e
      · rcases List.mem_cons.1 ((h y).2 List.mem_cons_self) with e2 | e2
        · exact e2.symm
        · have := a1 y e2
          have := b1 x e
          omega
    subst hxy
    refine congrArg (x :: ·) (ris_ext a2 b2 (fun z => ⟨fun hz => ?_, fun hz => ?_⟩))
    · rcases List.mem_cons.1 ((h z).1 (List.mem_cons_of_mem _ hz)) with e | e
      · have := a1 z hz
        omega
      · exact e
    · rcases List.mem_cons.1 ((h z).2 (List.mem_cons_of_mem _ hz)) with e | e
      · have := b1 z hz
        omega
      · exact e
theorem ris_len : ∀ (l : List Int) (lo n : Int), Ris l → (∀ x ∈ l, lo ≤ x ∧ x < n) → l.length ≤ (n - lo).toNat
  | [], _, _, _, _ => by simp
  | x :: xs, lo, n, h, hr => by
    obtain ⟨a1, a2⟩ := List.pairwise_cons.1 h
    have := ris_len xs (x + 1) n a2 (fun y hy => ⟨by have := a1 y hy; omega, (hr y (List.mem_cons_of_mem _ hy)).2⟩)
    have := hr x List.mem_cons_self
    rw [List.length_cons]
    omega
theorem riseL_mem (l : List Int) (v x : Int) : x ∈ riseL l v ↔ x ∈ l ∨ x = v := by
  unfold riseL
  by_cases c : riseAt v l < l.length ∧ rd l (riseAt v l : Int) = v
  · rw [if_pos c]
    constructor
    · exact .inl
    · rintro (h | rfl)
      · exact h
      · have := rd_mem l (riseAt x l) (by omega) (by omega)
        rwa [c.2] at this
  · rw [if_neg c, List.mem_append, List.mem_append, List.mem_singleton]
    have := List.take_append_drop (riseAt v l) l
    constructor
    · rintro ((h | h) | h)
      · exact .inl (List.mem_of_mem_take h)
      · exact .inr h
      · exact .inl (List.mem_of_mem_drop h)
    · rintro (h | h)
      · rw [← this, List.mem_append] at h
        rcases h with h | h
        · exact .inl (.inl h)
        · exact .inr h
      · exact .inl (.inr h)
theorem riseL_len (l : List Int) (v : Int) : riseL l v = l ∨ (riseL l v).length = l.length + 1 := by
  unfold riseL
  by_cases c : riseAt v l < l.length ∧ rd l (riseAt v l : Int) = v
  · rw [if_pos c]
    exact .inl rfl
  · rw [if_neg c]
    right
    have := riseAt_le v l
    rw [List.length_append, List.length_append, List.length_take, List.length_drop, List.length_singleton]
    omega
theorem riseL_ris {l : List Int} (h : Ris l) (v : Int) : Ris (riseL l v) := by
  unfold riseL
  by_cases c : riseAt v l < l.length ∧ rd l (riseAt v l : Int) = v
  · rw [if_pos c]
    exact h
  · rw [if_neg c]
    have hle := riseAt_le v l
    have hT : ∀ x ∈ l.take (riseAt v l), x < v := by
      intro x hx
      obtain ⟨i, hi, rfl⟩ := List.getElem_of_mem hx
      rw [List.getElem_take]
      rw [List.length_take] at hi
      obtain ⟨_, h2⟩ := riseAt_lt v l i (by omega)
      exact h2
    have hD : ∀ x ∈ l.drop (riseAt v l), v < x := by
      by_cases e : riseAt v l < l.length
      · intro x hx
        have h1 := riseAt_ge v l e
        have h2 : l[riseAt v l] ≠ v := fun e2 => c ⟨e, by rw [rd_nat l _ e]; exact e2⟩
        rw [List.drop_eq_getElem_cons e] at hx
        rcases List.mem_cons.1 hx with rfl | hx
        · omega
        · have h3 : (l.drop (riseAt v l)).Pairwise (· < ·) := h.sublist (List.drop_sublist _ _)
          rw [List.drop_eq_getElem_cons e] at h3
          have := (List.pairwise_cons.1 h3).1 x hx
          omega
      · rw [List.drop_eq_nil_of_le (by omega)]
        simp
    refine List.pairwise_append.2 ⟨List.pairwise_append.2 ⟨h.sublist (List.take_sublist _ _), List.pairwise_singleton _ _, fun x hx y hy => ?_⟩, h.sublist (List.drop_sublist _ _), fun x hx y hy => ?_⟩
    · rw [List.mem_singleton] at hy
      rw [hy]
      exact hT x hx
    · rw [List.mem_append, List.mem_singleton] at hx
      have := hD y hy
      rcases hx with hx | rfl
      · have := hT x hx
        omega
      · exact this
theorem scanK_ris (n : Int) : ∀ (ks : List Int) (p : Option Int), scanK n p ks = 0 → Ris ks ∧ ∀ y, p = some y → ∀ x ∈ ks, y < x
  | [], _, _ => ⟨List.Pairwise.nil, fun _ _ _ hx => by cases hx⟩
  | x :: xs, p, h => by
    rw [scanK] at h
    by_cases g : 0 ≤ x ∧ x < n
    · rw [if_pos g] at h
      by_cases c : ∃ z, p = some z ∧ x ≤ z
      · rw [if_pos c] at h
        exact absurd h (by omega)
      · rw [if_neg c] at h
        obtain ⟨h1, h2⟩ := scanK_ris n xs (some x) h
        refine ⟨List.pairwise_cons.2 ⟨fun y hy => h2 x rfl y hy, h1⟩, fun y hy z hz => ?_⟩
        have hxy : y < x := by
          by_cases e : y < x
          · exact e
          · exact absurd ⟨y, hy, by omega⟩ c
        rcases List.mem_cons.1 hz with rfl | hz
        · exact hxy
        · have := h2 x rfl z hz
          omega
    · rw [if_neg g] at h
      exact absurd h (by omega)
theorem knownF_ris {l : List S50} {ks : List Int} (h : knownF l ks = 0) : Ris ks := by
  unfold knownF at h
  by_cases c : termsF l = 0
  · rw [if_pos c] at h
    by_cases g : 400 < ks.length
    · rw [if_pos g] at h
      exact absurd h (by omega)
    · rw [if_neg g] at h
      exact (scanK_ris _ ks _ h).1
  · rw [if_neg c] at h
    exact absurd h c

theorem ev_l6Make_l2 (l : List S50) (ht : termsF l = 0) (f : List Bool) (hf : f.length = l.length) (S : List Int) (hv : List Bool) (hh : hv.length = l.length) (hS : ∀ x : Int, 0 ≤ x → x < (l.length : Int) → rdOf false hv x = decide (x ∈ S)) :
    ∀ i, i ≤ l.length → Ev (fun k => spec_l6Make.l2 k l (mkA l f S i ++ f.drop i) hv (i : Nat)) (mkA l f S l.length) := by
  have hl := (termsF_ok ht).1
  refine down l.length ?_ ?_
  · refine Ev.step (fun k => by rw [spec_l6Make.l2, if_neg (by omega)]) ?_
    rw [← hf, List.drop_length, List.append_nil]
    exact ev_some _
  · intro i hi ih
    have hlen := mkA_len l f S i
    have hlen2 : (mkA l f S i ++ f.drop i).length = l.length := by rw [List.length_append, List.length_drop]; omega
    obtain ⟨h1, h2, h3⟩ := term_range ht i hi
    have hrd : rdOf false f (i : Int) = f[i] := rdOf_nat' f i (by omega)
    have hset : ∀ v : Bool, v = mkV S (mkA l f S i) f[i] l[i] → Ev (fun k => spec_l6Make.l2 k l ((mkA l f S i ++ f.drop i).set i v) hv ((i : Int) + 1)) (mkA l f S l.length) := by
      rintro v rfl
      have := set_mid (mkA l f S i) f[i] (f.drop (i + 1)) (mkV S (mkA l f S i) f[i] l[i])
      rw [hlen] at this
      rw [List.drop_eq_getElem_cons (by omega : i < f.length), this, ← List.singleton_append, ← List.append_assoc, ← rdTerm_nat l i hi, ← hrd]
      exact ih
    have hkeep : f[i] = mkV S (mkA l f S i) f[i] l[i] → Ev (fun k => spec_l6Make.l2 k l (mkA l f S i ++ f.drop i) hv ((i : Int) + 1)) (mkA l f S l.length) := by
      intro e
      have h5 : (mkA l f S i ++ f.drop i).set i f[i] = mkA l f S i ++ f.drop i := by
        have h6 := set_mid (mkA l f S i) f[i] (f.drop (i + 1)) f[i]
        rw [hlen] at h6
        rw [List.drop_eq_getElem_cons (by omega : i < f.length)]
        exact h6
      have h7 := hset f[i] e
      rw [h5] at h7
      exact h7
    have hN : rdOf false (mkA l f S i ++ f.drop i) (i : Int) = f[i] := by
      rw [rdOf_nat' _ i (by omega), List.getElem_append_right (by omega)]
      simp [hlen]
    have hA : ∀ x : Int, 0 ≤ x → x < (i : Int) → rdOf false (mkA l f S i ++ f.drop i) x = rdOf false (mkA l f S i) x := fun x g0 g1 => rdOf_append _ _ _ g0 (by omega)
    refine Ev.step (fun k => by rw [spec_l6Make.l2, if_pos (by omega), if_pos (by omega), rdTerm_nat l i hi, w64 (by omega) (by omega), Int.toNat_natCast]) ?_
    generalize hx : l[i] = x at *
    have hj3 : ∀ b : Bool, b = (x.f0 == 3 || (x.f0 == 4 || x.f0 == 5)) → x.f0 ≠ 1 → Ev (fun k => spec_l6Make.j3 k l (mkA l f S i ++ f.drop i) hv (i : Int) x.f0 b x.f0 x.f1 x.f2 x.f3) (mkA l f S l.length) := by
      intro b hb n1
      refine Ev.step (fun k => by rw [spec_l6Make.j3, hN, w64 (by omega) (by omega), Int.toNat_natCast]) ?_
      by_cases h345 : x.f0 = 3 ∨ x.f0 = 4 ∨ x.f0 = 5
      · have hb1 : b = true := by rw [hb]; simp; omega
        have e0 : (x.f0 == 3 || (x.f0 == 4 || x.f0 == 5)) = true := by simp; omega
        have e1 : (x.f0 == 1) = false := by simp; omega
        have g2 := h2 (by omega)
        have g3 := h3 (by omega)
        have hm : mkV S (mkA l f S i) f[i] x = (f[i] || (rdOf false (mkA l f S i) x.f1 && rdOf false (mkA l f S i) x.f2)) := by unfold mkV; rw [e1, e0]; rfl
        refine ev_pos hb1 (ev_pos (by omega) (ev_pos (by omega) ?_))
        by_cases hf1 : f[i] = true
        · exact ev_pos hf1 (hset true (by rw [hm, hf1]; rfl))
        · refine ev_neg hf1 (ev_pos g2.1 (ev_pos (by omega) ?_))
          rw [hA _ g2.1 g2.2]
          have hf0 : f[i] = false := by simpa using hf1
          by_cases ha : rdOf false (mkA l f S i) x.f1 = true
          · refine ev_pos ha (ev_pos g3.1 (ev_pos (by omega) ?_))
            rw [hA _ g3.1 g3.2]
            exact hset _ (by rw [hm, hf0, ha]; rfl)
          · have ha0 : rdOf false (mkA l f S i) x.f1 = false := by simpa using ha
            exact ev_neg ha (hset false (by rw [hm, hf0, ha0]; rfl))
      · have hb0 : b = false := by rw [hb]; simp; omega
        have e0 : (x.f0 == 3 || (x.f0 == 4 || x.f0 == 5)) = false := by simp; omega
        have e1 : (x.f0 == 1) = false := by simp; omega
        refine ev_neg (by rw [hb0]; simp) ?_
        by_cases h6 : x.f0 = 6
        · have g2 := h2 (by omega)
          have hm : mkV S (mkA l f S i) f[i] x = (f[i] || rdOf false (mkA l f S i) x.f1) := by unfold mkV; rw [e1, e0, show (x.f0 == 6) = true by simp [h6]]; rfl
          refine ev_pos h6 (ev_pos (by omega) (ev_pos (by omega) ?_))
          by_cases hf1 : f[i] = true
          · exact ev_pos hf1 (hset true (by rw [hm, hf1]; rfl))
          · have hf0 : f[i] = false := by simpa using hf1
            refine ev_neg hf1 (ev_pos g2.1 (ev_pos (by omega) ?_))
            rw [hA _ g2.1 g2.2]
            exact hset _ (by rw [hm, hf0]; rfl)
        · have e6 : (x.f0 == 6) = false := by simp [h6]
          refine ev_neg h6 ?_
          by_cases h7 : x.f0 = 7
          · have g2 := h2 (by omega)
            have g3 := h3 (by omega)
            have s1 := hS x.f1 g2.1 (by omega)
            have s2 := hS x.f2 g3.1 (by omega)
            have hm : mkV S (mkA l f S i) f[i] x = (f[i] || ((rdOf false (mkA l f S i) x.f1 && (rdOf false (mkA l f S i) x.f2 || decide (x.f2 ∈ S))) || (rdOf false (mkA l f S i) x.f2 && decide (x.f1 ∈ S)))) := by unfold mkV; rw [e1, e0, e6, show (x.f0 == 7) = true by simp [h7]]; rfl
            refine ev_pos h7 (ev_pos g2.1 (ev_pos (by omega) (ev_pos g3.1 (ev_pos (by omega) (ev_pos (by omega) (ev_pos (by omega) ?_))))))
            rw [hA _ g2.1 g2.2, hA _ g3.1 g3.2]
            by_cases hf1 : f[i] = true
            · exact ev_pos hf1 (hset true (by rw [hm, hf1]; rfl))
            · have hf0 : f[i] = false := by simpa using hf1
              refine ev_neg hf1 ?_
              by_cases ha : rdOf false (mkA l f S i) x.f1 = true
              · refine ev_pos ha ?_
                by_cases hb2 : rdOf false (mkA l f S i) x.f2 = true
                · exact ev_pos hb2 (hset true (by rw [hm, ha, hb2]; simp))
                · have hb3 : rdOf false (mkA l f S i) x.f2 = false := by simpa using hb2
                  refine ev_neg hb2 (ev_pos (by omega) ?_)
                  rw [s2]
                  by_cases hs : x.f2 ∈ S
                  · exact ev_pos (by simpa using hs) (hset true (by rw [hm, ha, hb3, hf0]; simp [hs]))
                  · exact ev_neg (by simpa using hs) (hset false (by rw [hm, ha, hb3, hf0]; simp [hs]))
              · have ha0 : rdOf false (mkA l f S i) x.f1 = false := by simpa using ha
                refine ev_neg ha ?_
                by_cases hb2 : rdOf false (mkA l f S i) x.f2 = true
                · refine ev_pos hb2 (ev_pos (by omega) ?_)
                  rw [s1]
                  exact hset _ (by rw [hm, ha0, hb2, hf0]; simp)
                · have hb3 : rdOf false (mkA l f S i) x.f2 = false := by simpa using hb2
                  exact ev_neg hb2 (hset false (by rw [hm, ha0, hb3, hf0]; rfl))
          · have e7 : (x.f0 == 7) = false := by simp [h7]
            refine ev_neg h7 (hkeep ?_)
            unfold mkV
            rw [e1, e0, e6, e7]
            simp
    by_cases n1 : x.f0 = 1
    · refine ev_pos n1 (ev_pos (by omega) (hset true ?_))
      unfold mkV
      rw [show (x.f0 == 1) = true by simp [n1]]
      simp
    · refine ev_neg n1 ?_
      by_cases n3 : x.f0 = 3
      · exact ev_pos n3 (hj3 _ (by simp [n3]) n1)
      · refine ev_neg n3 ?_
        by_cases n4 : x.f0 = 4
        · exact ev_pos n4 (hj3 _ (by simp [n4]) n1)
        · exact ev_neg n4 (hj3 (x.f0 == 5) (by rw [show (x.f0 == 3) = false by simp; omega, show (x.f0 == 4) = false by simp; omega]; rfl) n1)
theorem ev_l6Make_l1 (l : List S50) (ht : termsF l = 0) (f : List Bool) (hf : f.length = l.length) :
    ∀ i, i ≤ l.length → ∀ hv : List Bool, hv.length = l.length → (∀ x : Int, 0 ≤ x → x < (l.length : Int) → rdOf false hv x = decide (x ∈ halvesL l f i)) → Ev (fun k => spec_l6Make.l1 k l f hv (i : Nat)) (mkF l f) := by
  have hl := (termsF_ok ht).1
  refine down l.length ?_ ?_
  · intro hv hh hS
    refine Ev.step (fun k => by rw [spec_l6Make.l1, if_neg (by omega)]) ?_
    have := ev_l6Make_l2 l ht f hf (halvesL l f l.length) hv hh hS 0 (by omega)
    exact this
  · intro i hi ih hv hh hS
    obtain ⟨h1, h2, h3⟩ := term_range ht i hi
    refine Ev.step (fun k => by rw [spec_l6Make.l1, if_pos (by omega), if_pos (by omega), rdTerm_nat l i hi, w64 (by omega) (by omega)]) ?_
    by_cases h6 : l[i].f0 = 6
    · refine ev_pos h6 (ev_pos (by omega) ?_)
      by_cases hk : rdOf false f (i : Int) = true
      · have g2 := h2 (by omega)
        refine ev_pos hk (ev_pos g2.1 (ev_pos (by omega) ?_))
        refine ih (hv.set l[i].f1.toNat true) (by rw [List.length_set]; exact hh) (fun x g0 g1 => ?_)
        rw [halvesL, if_pos ⟨by rw [rdTerm_nat l i hi]; exact h6, hk⟩, rdTerm_nat l i hi]
        obtain ⟨n, rfl⟩ := Int.eq_ofNat_of_zero_le g0
        have hSx := hS n g0 g1
        rw [rdOf_nat' _ n (by omega)] at hSx
        rw [rdOf_nat' _ n (by rw [List.length_set]; omega), List.getElem_set]
        by_cases e : l[i].f1.toNat = n
        · rw [if_pos e]
          have : l[i].f1 = (n : Int) := by omega
          simp [this]
        · rw [if_neg e, hSx]
          have : ¬ (n : Int) = l[i].f1 := by omega
          simp [this]
      · refine ev_neg hk (ih hv hh (fun x g0 g1 => ?_))
        rw [halvesL, if_neg (fun e => hk e.2)]
        exact hS x g0 g1
    · refine ev_neg h6 (ih hv hh (fun x g0 g1 => ?_))
      rw [halvesL, if_neg (fun e => h6 (by rw [← rdTerm_nat l i hi]; exact e.1))]
      exact hS x g0 g1
theorem ev_spec_l6Make (l : List S50) (ht : termsF l = 0) (ks : List Int) (hk : ks.length ≤ 1048576) (hr : ∀ x ∈ ks, 0 ≤ x ∧ x < (l.length : Int)) : Ev (fun k => spec_l6Make.f k l ks) (mkF l (flagsL l.length ks)) := by
  have hl := (termsF_ok ht).1
  have key : ∀ i, i ≤ ks.length → ∀ b : List Bool, b.length = l.length → Ev (fun k => spec_l6Make.l0 k l ks b (i : Nat)) (mkF l (setL b (ks.drop i))) := by
    refine down ks.length ?_ ?_
    · intro b hb
      rw [List.drop_length]
      refine Ev.step (fun k => by rw [spec_l6Make.l0, if_neg (by omega)]) ?_
      rw [Int.toNat_natCast]
      refine ev_pos (by omega) (ev_pos (by omega) ?_)
      exact ev_l6Make_l1 l ht b hb 0 (by omega) (List.replicate l.length false) (by simp) (fun x g0 g1 => by
        obtain ⟨n, rfl⟩ := Int.eq_ofNat_of_zero_le g0
        rw [rdOf_nat' _ n (by rw [List.length_replicate]; omega)]
        simp [halvesL])
    · intro i hi ih b hb
      have h := hr _ (List.getElem_mem hi)
      rw [List.drop_eq_getElem_cons hi]
      refine Ev.step (fun k => by rw [spec_l6Make.l0, if_pos (by omega), if_pos (by omega), rd_nat ks i hi, if_pos h.1, if_pos (by omega), w64 (by omega) (by omega)]) ?_
      exact ih (b.set ks[i].toNat true) (by rw [List.length_set]; exact hb)
  have h := key 0 (by omega) (List.replicate l.length false) (by simp)
  unfold spec_l6Make.f
  rw [Int.toNat_natCast]
  exact ev_pos (by omega) (ev_pos (by omega) h)

def stepF (l : List S50) (can : List Bool) (nx : List Int) (x : Int) : List Int :=
  if (rd_T50 l x).f0 = 3 then riseL (riseL nx (rd_T50 l x).f1) (rd_T50 l x).f2 else if (rd_T50 l x).f0 = 5 ∧ rdOf false can (rd_T50 l x).f1 = true then riseL nx (rd_T50 l x).f2 else nx
theorem stepF_len (l : List S50) (can : List Bool) (nx : List Int) (x : Int) : nx.length ≤ (stepF l can nx x).length ∧ (stepF l can nx x).length ≤ nx.length + 2 ∧ ((stepF l can nx x).length = nx.length → stepF l can nx x = nx) := by
  have h1 := riseL_len nx (rd_T50 l x).f1
  have h2 := riseL_len nx (rd_T50 l x).f2
  have h3 := riseL_len (riseL nx (rd_T50 l x).f1) (rd_T50 l x).f2
  unfold stepF
  split
  · rcases h1 with h1 | h1
    · rw [h1] at h3 ⊢
      rcases h3 with h3 | h3
      · rw [h3]; exact ⟨by omega, by omega, fun _ => rfl⟩
      · exact ⟨by omega, by omega, fun e => by omega⟩
    · rcases h3 with h3 | h3
      · rw [h3]; exact ⟨by omega, by omega, fun e => by omega⟩
      · exact ⟨by omega, by omega, fun e => by omega⟩
  · split
    · rcases h2 with h2 | h2
      · rw [h2]; exact ⟨by omega, by omega, fun _ => rfl⟩
      · exact ⟨by omega, by omega, fun e => by omega⟩
    · exact ⟨by omega, by omega, fun _ => rfl⟩
theorem stepF_ris (l : List S50) (can : List Bool) {nx : List Int} (h : Ris nx) (x : Int) : Ris (stepF l can nx x) := by
  unfold stepF
  split
  · exact riseL_ris (riseL_ris h _) _
  · split
    · exact riseL_ris h _
    · exact h
theorem stepF_mem (l : List S50) (can : List Bool) (nx : List Int) (x z : Int) : z ∈ stepF l can nx x ↔ z ∈ nx ∨ ((rd_T50 l x).f0 = 3 ∧ (z = (rd_T50 l x).f1 ∨ z = (rd_T50 l x).f2)) ∨ ((rd_T50 l x).f0 = 5 ∧ rdOf false can (rd_T50 l x).f1 = true ∧ z = (rd_T50 l x).f2) := by
  unfold stepF
  by_cases h3 : (rd_T50 l x).f0 = 3
  · rw [if_pos h3, riseL_mem, riseL_mem]
    simp [h3, or_assoc]
  · rw [if_neg h3]
    by_cases h5 : (rd_T50 l x).f0 = 5 ∧ rdOf false can (rd_T50 l x).f1 = true
    · rw [if_pos h5, riseL_mem]
      simp [h5.1, h5.2]
    · rw [if_neg h5]
      constructor
      · exact .inl
      · rintro (h | h | h)
        · exact h
        · exact absurd h.1 h3
        · exact absurd ⟨h.1, h.2.1⟩ h5
theorem foldF_props (l : List S50) (can : List Bool) : ∀ (xs nx : List Int), nx.length ≤ (xs.foldl (stepF l can) nx).length ∧ ((xs.foldl (stepF l can) nx).length = nx.length → xs.foldl (stepF l can) nx = nx) ∧ (Ris nx → Ris (xs.foldl (stepF l can) nx)) ∧ (∀ z, z ∈ nx → z ∈ xs.foldl (stepF l can) nx) ∧
    (∀ S : Int → Prop, (∀ z ∈ nx, S z) → (∀ x ∈ xs, ∀ z, ((rd_T50 l x).f0 = 3 ∧ (z = (rd_T50 l x).f1 ∨ z = (rd_T50 l x).f2)) ∨ ((rd_T50 l x).f0 = 5 ∧ rdOf false can (rd_T50 l x).f1 = true ∧ z = (rd_T50 l x).f2) → S z) → ∀ z ∈ xs.foldl (stepF l can) nx, S z) ∧
    (∀ x ∈ xs, ∀ z, ((rd_T50 l x).f0 = 3 ∧ (z = (rd_T50 l x).f1 ∨ z = (rd_T50 l x).f2)) ∨ ((rd_T50 l x).f0 = 5 ∧ rdOf false can (rd_T50 l x).f1 = true ∧ z = (rd_T50 l x).f2) → z ∈ xs.foldl (stepF l can) nx)
  | [], nx => ⟨Nat.le_refl _, fun _ => rfl, id, fun _ h => h, fun _ h _ => h, fun _ h => by cases h⟩
  | x :: xs, nx => by
    obtain ⟨s1, s2, s3⟩ := stepF_len l can nx x
    obtain ⟨i1, i2, i3, i4, i5, i6⟩ := foldF_props l can xs (stepF l can nx x)
    rw [List.foldl_cons]
    refine ⟨by omega, fun e => ?_, fun h => i3 (stepF_ris l can h x), fun z hz => i4 z ((stepF_mem l can nx x z).2 (.inl hz)), fun S h1 h2 => i5 S (fun z hz => ?_) (fun y hy => h2 y (List.mem_cons_of_mem _ hy)), fun y hy z hz => ?_⟩
    · have := i2 (by omega)
      rw [this]
      exact s3 (by omega)
    · rcases (stepF_mem l can nx x z).1 hz with h | h
      · exact h1 z h
      · exact h2 x List.mem_cons_self z h
    · rcases List.mem_cons.1 hy with rfl | hy
      · exact i4 z ((stepF_mem l can nx y z).2 (.inr hz))
      · exact i6 y hy z hz
theorem q_innO (l : List S50) (ht : termsF l = 0) (can : List Bool) (hc : can.length = l.length) : ∀ (xs nx : List Int), (∀ x ∈ xs, 0 ≤ x ∧ x < (l.length : Int)) → nx.length + 2 * xs.length ≤ 100000 → innO l can xs nx = some (xs.foldl (stepF l can) nx)
  | [], nx, _, _ => rfl
  | x :: xs, nx, hr, hl => by
    obtain ⟨s1, s2, s3⟩ := stepF_len l can nx x
    rw [List.length_cons] at hl
    have ih := q_innO l ht can hc xs (stepF l can nx x) (fun y hy => hr y (List.mem_cons_of_mem _ hy)) (by omega)
    have hx := hr x List.mem_cons_self
    obtain ⟨m, hm⟩ := Int.eq_ofNat_of_zero_le hx.1
    subst hm
    obtain ⟨h1, h2, h3⟩ := term_range ht m (by omega)
    have he : stepO l can nx (m : Int) = some (stepF l can nx (m : Int)) := by
      unfold stepO stepF
      rw [if_pos hx]
      rw [← rdTerm_nat l m (by omega)] at h1 h2 h3
      by_cases e3 : (rd_T50 l (m : Int)).f0 = 3
      · have := riseL_len nx (rd_T50 l (m : Int)).f1
        rw [if_pos e3, if_pos e3, if_pos ⟨by omega, by rcases this with h | h <;> first | (rw [h]; omega) | omega⟩]
      · rw [if_neg e3, if_neg e3]
        by_cases e5 : (rd_T50 l (m : Int)).f0 = 5
        · have g := h2 (by omega)
          rw [if_pos e5, if_pos ⟨g.1, by omega, by omega⟩]
          by_cases ec : rdOf false can (rd_T50 l (m : Int)).f1 = true
          · rw [if_pos ec, if_pos ⟨e5, ec⟩]
          · rw [if_neg ec, if_neg (fun e => ec e.2)]
        · rw [if_neg e5, if_neg (fun e => e5 e.1)]
    rw [innO, he, Option.bind_some, ih]
    rfl
theorem cl_of_fix {l : List S50} (ht : termsF l = 0) {o : List Int} (hr : ∀ x ∈ o, 0 ≤ x ∧ x < (l.length : Int)) (h : ∀ x ∈ o, ∀ z, ((rd_T50 l x).f0 = 3 ∧ (z = (rd_T50 l x).f1 ∨ z = (rd_T50 l x).f2)) ∨ ((rd_T50 l x).f0 = 5 ∧ rdOf false (mkF l (flagsL l.length o)) (rd_T50 l x).f1 = true ∧ z = (rd_T50 l x).f2) → z ∈ o) : ClT l (inL o) := by
  intro i hi
  have hil := (hr _ hi).2
  obtain ⟨_, r2, r3⟩ := refs ht i (by omega)
  refine ⟨fun e => ?_, fun e d => ?_⟩
  · obtain ⟨q2, _⟩ := r2 (by omega)
    obtain ⟨q3, _⟩ := r3 (by omega)
    refine ⟨?_, ?_⟩
    · have := h _ hi _ (.inl ⟨e, .inl rfl⟩)
      unfold inL
      rw [← q2]
      exact this
    · have := h _ hi _ (.inl ⟨e, .inr rfl⟩)
      unfold inL
      rw [← q3]
      exact this
  · obtain ⟨q2, _⟩ := r2 (by omega)
    obtain ⟨q3, _⟩ := r3 (by omega)
    have hd := (mkF_flags l ht o hr (aT l i)).2 d
    unfold onF at hd
    rw [← q2] at hd
    have := h _ hi _ (.inr ⟨e, hd, rfl⟩)
    unfold inL
    rw [← q3]
    exact this
theorem sub_step {l : List S50} (ht : termsF l = 0) {o : List Int} (hr : ∀ x ∈ o, 0 ≤ x ∧ x < (l.length : Int)) {T : Nat → Prop} (hT : ClT l T) (ho : ∀ i, inL o i → T i) : ∀ x ∈ o, ∀ z, ((rd_T50 l x).f0 = 3 ∧ (z = (rd_T50 l x).f1 ∨ z = (rd_T50 l x).f2)) ∨ ((rd_T50 l x).f0 = 5 ∧ rdOf false (mkF l (flagsL l.length o)) (rd_T50 l x).f1 = true ∧ z = (rd_T50 l x).f2) → ∃ j : Nat, z = (j : Int) ∧ T j ∧ j < l.length := by
  intro x hx z hz
  obtain ⟨h0, h1⟩ := hr x hx
  obtain ⟨i, rfl⟩ := Int.eq_ofNat_of_zero_le h0
  obtain ⟨_, r2, r3⟩ := refs ht i (by omega)
  have hTi := ho i hx
  rcases hz with ⟨e, hz⟩ | ⟨e, hd, hz⟩
  · have e' : opT l i = 3 := e
    obtain ⟨q2, l2⟩ := r2 (by omega)
    obtain ⟨q3, l3⟩ := r3 (by omega)
    obtain ⟨t1, t2⟩ := (hT i hTi).1 e
    rcases hz with rfl | rfl
    · exact ⟨aT l i, q2, t1, by omega⟩
    · exact ⟨bT l i, q3, t2, by omega⟩
  · have e' : opT l i = 5 := e
    obtain ⟨q2, l2⟩ := r2 (by omega)
    obtain ⟨q3, l3⟩ := r3 (by omega)
    subst hz
    refine ⟨bT l i, q3, (hT i hTi).2 e ?_, by omega⟩
    have hd2 : onF (mkF l (flagsL l.length o)) (aT l i) := by
      unfold onF
      rw [← q2]
      exact hd
    exact DrT.mono ho ((mkF_flags l ht o hr (aT l i)).1 hd2)
theorem ev_spec_l6Open_go (l : List S50) (ht : termsF l = 0) (K : Nat → Prop) : ∀ (m : Nat) (o : List Int), l.length - o.length ≤ m → Ris o → (∀ x ∈ o, 0 ≤ x ∧ x < (l.length : Int)) → (∀ i, K i → inL o i) → (∀ i, inL o i → OpT l K i) →
    ∃ os, Ev (fun k => spec_l6Open.go l k o) os ∧ Ris os ∧ (∀ x ∈ os, 0 ≤ x ∧ x < (l.length : Int)) ∧ ∀ i, inL os i ↔ OpT l K i := by
  have hl := (termsF_ok ht).1
  intro m
  induction m with
  | zero =>
    intro o hm ho hr h1 h2
    have hlen := ris_len o 0 l.length ho hr
    obtain ⟨i1, i2, i3, i4, i5, i6⟩ := foldF_props l (mkF l (flagsL l.length o)) o o
    have hr2 : ∀ z ∈ o.foldl (stepF l (mkF l (flagsL l.length o))) o, 0 ≤ z ∧ z < (l.length : Int) := i5 (fun z => 0 ≤ z ∧ z < (l.length : Int)) hr (fun x hx z hz => by
      obtain ⟨j, rfl, _, hj⟩ := sub_step ht hr (OpF.closed _ _ _ K) h2 x hx z hz
      omega)
    have hlen2 := ris_len _ 0 l.length (i3 ho) hr2
    have hE : (o.foldl (stepF l (mkF l (flagsL l.length o))) o).length = o.length := by omega
    refine ⟨o, ?_, ho, hr, fun i => ⟨h2 i, fun h => h _ h1 (cl_of_fix ht hr (fun x hx z hz => ?_))⟩⟩
    · refine Ev.step (fun k => by rw [spec_l6Open.go]) ?_
      exact Ev.bind (ev_spec_l6Make l ht o (by omega) hr) (ev_opt (q_innO l ht _ (mkF_len _ _) o o hr (by omega)) (ev_pos hE (ev_some _)))
    · have := i6 x hx z hz
      rwa [i2 hE] at this
  | succ m ih =>
    intro o hm ho hr h1 h2
    have hlen := ris_len o 0 l.length ho hr
    obtain ⟨i1, i2, i3, i4, i5, i6⟩ := foldF_props l (mkF l (flagsL l.length o)) o o
    have hr2 : ∀ z ∈ o.foldl (stepF l (mkF l (flagsL l.length o))) o, (0 ≤ z ∧ z < (l.length : Int)) ∧ ∀ i : Nat, z = (i : Int) → OpT l K i := i5 (fun z => (0 ≤ z ∧ z < (l.length : Int)) ∧ ∀ i : Nat, z = (i : Int) → OpT l K i) (fun z hz => ⟨hr z hz, fun i hi => h2 i (by unfold inL; rw [← hi]; exact hz)⟩) (fun x hx z hz => by
      obtain ⟨j, rfl, hT, hj⟩ := sub_step ht hr (OpF.closed _ _ _ K) h2 x hx z hz
      exact ⟨by omega, fun i hi => by obtain rfl : j = i := by omega
                                      exact hT⟩)
    by_cases hE : (o.foldl (stepF l (mkF l (flagsL l.length o))) o).length = o.length
    · refine ⟨o, ?_, ho, hr, fun i => ⟨h2 i, fun h => h _ h1 (cl_of_fix ht hr (fun x hx z hz => ?_))⟩⟩
      · refine Ev.step (fun k => by rw [spec_l6Open.go]) ?_
        exact Ev.bind (ev_spec_l6Make l ht o (by omega) hr) (ev_opt (q_innO l ht _ (mkF_len _ _) o o hr (by omega)) (ev_pos hE (ev_some _)))
      · have := i6 x hx z hz
        rwa [i2 hE] at this
    · obtain ⟨os, e1, e2, e3, e4⟩ := ih (o.foldl (stepF l (mkF l (flagsL l.length o))) o) (by omega) (i3 ho) (fun z hz => (hr2 z hz).1) (fun i hi => i4 _ (h1 i hi)) (fun i hi => (hr2 _ hi).2 i rfl)
      refine ⟨os, ?_, e2, e3, e4⟩
      refine Ev.step (fun k => by rw [spec_l6Open.go]) ?_
      exact Ev.bind (ev_spec_l6Make l ht o (by omega) hr) (ev_opt (q_innO l ht _ (mkF_len _ _) o o hr (by omega)) (ev_neg hE e1))
theorem ev_spec_l6Open (l : List S50) (ks : List Int) (hk : knownF l ks = 0) : ∃ os, Ev (fun k => spec_l6Open.f k l ks) os ∧ Ris os ∧ (∀ x ∈ os, 0 ≤ x ∧ x < (l.length : Int)) ∧ ∀ i, inL os i ↔ OpT l (inL ks) i := by
  obtain ⟨ht, h4, hr⟩ := knownF_ok hk
  obtain ⟨os, h1, h2⟩ := ev_spec_l6Open_go l ht (inL ks) _ ks (Nat.le_refl _) (knownF_ris hk) hr (fun _ h => h) (fun _ h => OpF.sub h)
  refine ⟨os, ?_, h2⟩
  unfold spec_l6Open.f
  exact ev_pos (by omega) h1

theorem s0_halves (l : List S50) (f : List Bool) : ∀ k, impl_makeable.s0 l f k = halvesL l f k
  | 0 => rfl
  | k + 1 => by rw [impl_makeable.s0, halvesL, s0_halves l f k]
theorem q_impl_makeable (l : List S50) (ht : termsF l = 0) (f : List Bool) (hf : f.length = l.length) : impl_makeable.f l f = some (mkF l f) := by
  have hl := (termsF_ok ht).1
  have hall : l.all (impl_makeable.okR l.length) = true := by
    rw [List.all_eq_true]
    intro x hx
    obtain ⟨i, hi, rfl⟩ := List.getElem_of_mem hx
    obtain ⟨_, h2, h3⟩ := term_range ht i hi
    exact decide_eq_true ⟨fun e => by have := h2 e; omega, fun e => by have := h3 e; omega⟩
  unfold impl_makeable.f
  rw [if_pos ⟨hl, hf, hall⟩, s0_halves]
  have key : ∀ k, k ≤ l.length → impl_makeable.l0 l f (halvesL l f l.length) k = mkA l f (halvesL l f l.length) k ++ List.replicate (l.length - k) false := by
    intro k
    induction k with
    | zero => intro _; rfl
    | succ k ih =>
      intro hk
      have hlen := mkA_len l f (halvesL l f l.length) k
      rw [impl_makeable.l0, ih (by omega), mkA, rdTerm_nat l k (by omega)]
      obtain ⟨h1, h2, h3⟩ := term_range ht k (by omega)
      have hv : (impl_makeable.r (halvesL l f l.length) (mkA l f (halvesL l f l.length) k ++ List.replicate (l.length - k) false) (k : Int) l[k] || rdOf false f (k : Int)) = mkV (halvesL l f l.length) (mkA l f (halvesL l f l.length) k) (rdOf false f (k : Int)) l[k] := by
        unfold impl_makeable.r mkV
        rw [Bool.or_comm]
        congr 1
        have hN : rdOf false (mkA l f (halvesL l f l.length) k ++ List.replicate (l.length - k) false) (k : Int) = false := by
          rw [rdOf_nat' _ k (by rw [List.length_append, List.length_replicate]; omega), List.getElem_append_right (by omega)]
          simp
        rw [hN]
        have hA : l[k].f0 = 3 ∨ l[k].f0 = 4 ∨ l[k].f0 = 5 ∨ l[k].f0 = 6 ∨ l[k].f0 = 7 → rdOf false (mkA l f (halvesL l f l.length) k ++ List.replicate (l.length - k) false) l[k].f1 = rdOf false (mkA l f (halvesL l f l.length) k) l[k].f1 := fun e => rdOf_append _ _ _ (h2 e).1 (by have := (h2 e).2; omega)
        have hB : l[k].f0 = 3 ∨ l[k].f0 = 4 ∨ l[k].f0 = 5 ∨ l[k].f0 = 7 → rdOf false (mkA l f (halvesL l f l.length) k ++ List.replicate (l.length - k) false) l[k].f2 = rdOf false (mkA l f (halvesL l f l.length) k) l[k].f2 := fun e => rdOf_append _ _ _ (h3 e).1 (by have := (h3 e).2; omega)
        obtain e | e | e | e | e | e | e : l[k].f0 = 1 ∨ l[k].f0 = 2 ∨ l[k].f0 = 3 ∨ l[k].f0 = 4 ∨ l[k].f0 = 5 ∨ l[k].f0 = 6 ∨ l[k].f0 = 7 := by omega
        · simp [e]
        · simp [e]
        · simp [e, hA (by omega), hB (by omega)]
        · simp [e, hA (by omega), hB (by omega)]
        · simp [e, hA (by omega), hB (by omega)]
        · simp [e, hA (by omega)]
        · simp [e, hA (by omega), hB (by omega)]
      rw [hv]
      obtain ⟨d, hd⟩ : ∃ d, l.length - k = d + 1 := ⟨l.length - k - 1, by omega⟩
      rw [hd, show l.length - (k + 1) = d by omega, List.replicate_succ]
      have := set_mid (mkA l f (halvesL l f l.length) k) false (List.replicate d false) (mkV (halvesL l f l.length) (mkA l f (halvesL l f l.length) k) (rdOf false f (k : Int)) l[k])
      rw [hlen] at this
      rw [this, List.append_assoc, List.singleton_append]
  rw [key l.length (Nat.le_refl _), Nat.sub_self, List.replicate_zero, List.append_nil]
  rfl

theorem ev_impl_flags (l : List S50) (hl : l.length ≤ 1048576) (ks : List Int) (hk : ks.length ≤ 1048576) (hr : ∀ x ∈ ks, 0 ≤ x ∧ x < (l.length : Int)) : Ev (fun k => impl_flags.f k l ks) (flagsL l.length ks) := by
  have key : ∀ i, i ≤ ks.length → ∀ b : List Bool, b.length = l.length → Ev (fun k => impl_flags.l0 k b ks ks.length (i : Nat)) (setL b (ks.drop i)) := by
    refine down ks.length ?_ ?_
    · intro b _
      rw [List.drop_length]
      exact Ev.step (fun k => by rw [impl_flags.l0, if_neg (by omega)]; rfl) (ev_some _)
    · intro i hi ih b hb
      have h := hr _ (List.getElem_mem hi)
      rw [List.drop_eq_getElem_cons hi]
      refine Ev.step (fun k => by rw [impl_flags.l0, if_pos (by omega), if_pos (by omega), if_pos (by omega), rd_nat ks i hi, if_pos h.1, if_pos (by omega), w64 (by omega) (by omega)]) ?_
      exact ih (b.set ks[i].toNat true) (by rw [List.length_set]; exact hb)
  have h := key 0 (by omega) (List.replicate l.length false) (by simp)
  unfold impl_flags.f
  rw [Int.toNat_natCast]
  exact ev_pos (by omega) (ev_pos (by omega) h)

theorem ev_Equal : ∀ (a b : List Bool), a.length = b.length → a.length ≤ 1048576 → Ev (fun k => slices_Equal_bool_bool.f k a b) (decide (a = b)) := by
  intro a b hl hm
  have key : ∀ i, i ≤ a.length → a.take i = b.take i → Ev (fun k => slices_Equal_bool_bool.l0 k a b (a.length : Int) (i : Nat)) (decide (a = b)) := by
    refine down a.length ?_ ?_
    · intro h
      rw [List.take_of_length_le (Nat.le_refl _), List.take_of_length_le (by omega)] at h
      exact Ev.step (fun k => by rw [slices_Equal_bool_bool.l0, if_neg (by omega)]) (ev_to (ev_some _) (by simp [h]))
    · intro i hi ih h
      refine Ev.step (fun k => by rw [slices_Equal_bool_bool.l0, if_pos (by omega), if_pos (by omega), if_pos (by omega), if_pos (by omega), rdOf_nat' a i hi, rdOf_nat' b i (by omega), w64 (by omega) (by omega)]) ?_
      by_cases e : a[i] = b[i]
      · exact ev_neg (by simp [e]) (ih (by rw [List.take_succ_eq_append_getElem hi, List.take_succ_eq_append_getElem (by omega), h, e]))
      · refine ev_pos (by simpa using e) (ev_to (ev_some _) ?_)
        symm
        refine decide_eq_false (fun e2 => e ?_)
        subst e2
        rfl
  unfold slices_Equal_bool_bool.f
  exact ev_pos (by omega) (key 0 (by omega) (by simp))
theorem stpB_mem (l : List S50) (ht : termsF l = 0) (can o : List Bool) (ho : o.length = l.length) (i : Nat) (hi : i < l.length) (j : Nat) : onF (impl_opened.stp l can o i) j ↔ onF o j ∨ (onF o i ∧ ((opT l i = 3 ∧ (j = aT l i ∨ j = bT l i)) ∨ (opT l i = 5 ∧ onF can (aT l i) ∧ j = bT l i))) := by
  obtain ⟨_, r2, r3⟩ := refs ht i hi
  unfold impl_opened.stp
  by_cases h : rdOf false o (i : Int) = true
  · have h' : onF o i := h
    rw [if_pos h]
    by_cases h3 : opT l i = 3
    · obtain ⟨q2, l2⟩ := r2 (by omega)
      obtain ⟨q3, l3⟩ := r3 (by omega)
      rw [if_pos (show (rd_T50 l (i : Int)).f0 = 3 from h3), q2, q3, Int.toNat_natCast, Int.toNat_natCast, onF_set _ _ _ (by rw [List.length_set]; omega), onF_set _ _ _ (by omega)]
      simp [h3, h', or_assoc]
    · rw [if_neg (show ¬ (rd_T50 l (i : Int)).f0 = 3 from h3)]
      by_cases h5 : opT l i = 5
      · obtain ⟨q2, l2⟩ := r2 (by omega)
        obtain ⟨q3, l3⟩ := r3 (by omega)
        rw [q2, q3, Int.toNat_natCast]
        by_cases hc : rdOf false can (aT l i : Int) = true
        · rw [if_pos ⟨h5, hc⟩, onF_set _ _ _ (by omega)]
          have hc' : onF can (aT l i) := hc
          simp [h5, h', hc']
        · rw [if_neg (fun e => hc e.2)]
          have hc' : ¬ onF can (aT l i) := hc
          simp [h5, hc']
      · rw [if_neg (fun e => h5 e.1)]
        simp [h3, h5]
  · have h' : ¬ onF o i := h
    rw [if_neg h]
    simp [h']
theorem foldB_props (l : List S50) (ht : termsF l = 0) (can : List Bool) : ∀ (p : List (Fin l.length)) (o : List Bool), o.length = l.length →
    (∀ j, onF o j → onF (p.foldl (fun o x => impl_opened.stp l can o x.1) o) j) ∧
    (∀ x ∈ p, onF o x.1 → (opT l x.1 = 3 → onF (p.foldl (fun o x => impl_opened.stp l can o x.1) o) (aT l x.1) ∧ onF (p.foldl (fun o x => impl_opened.stp l can o x.1) o) (bT l x.1)) ∧ (opT l x.1 = 5 → onF can (aT l x.1) → onF (p.foldl (fun o x => impl_opened.stp l can o x.1) o) (bT l x.1))) ∧
    (∀ S : Nat → Prop, (∀ j, onF o j → S j) → (∀ i, S i → (opT l i = 3 → S (aT l i) ∧ S (bT l i)) ∧ (opT l i = 5 → onF can (aT l i) → S (bT l i))) → ∀ j, onF (p.foldl (fun o x => impl_opened.stp l can o x.1) o) j → S j)
  | [], o, _ => ⟨fun _ h => h, fun _ h => (by cases h), fun _ h _ => h⟩
  | x :: xs, o, ho => by
    have hm := stpB_mem l ht can o ho x.1 x.2
    obtain ⟨i1, i2, i3⟩ := foldB_props l ht can xs (impl_opened.stp l can o x.1) ((impl_opened_stp_len l can o x.1).trans ho)
    rw [List.foldl_cons]
    refine ⟨fun j hj => i1 j ((hm j).2 (.inl hj)), fun y hy hon => ?_, fun S h1 h2 j hj => i3 S (fun j hj => ?_) h2 j hj⟩
    · rcases List.mem_cons.1 hy with rfl | hy
      · exact ⟨fun e => ⟨i1 _ ((hm _).2 (.inr ⟨hon, .inl ⟨e, .inl rfl⟩⟩)), i1 _ ((hm _).2 (.inr ⟨hon, .inl ⟨e, .inr rfl⟩⟩))⟩, fun e hc => i1 _ ((hm _).2 (.inr ⟨hon, .inr ⟨e, hc, rfl⟩⟩))⟩
      · exact i2 y hy ((hm _).2 (.inl hon))
    · rcases (hm j).1 hj with h | ⟨h, ⟨e, rfl | rfl⟩ | ⟨e, hc, rfl⟩⟩
      · exact h1 j h
      · exact ((h2 _ (h1 _ h)).1 e).1
      · exact ((h2 _ (h1 _ h)).1 e).2
      · exact (h2 _ (h1 _ h)).2 e hc
theorem mem_revFin {n : Nat} (x : Fin n) : x ∈ revFin n := by
  unfold revFin
  rw [List.mem_ofFn]
  exact ⟨⟨n - 1 - x.1, by have := x.2; omega⟩, Fin.ext (by have := x.2; show n - 1 - (n - 1 - x.1) = x.1; omega)⟩
def offs : List Bool → Nat
  | [] => 0
  | b :: bs => (if b = true then 0 else 1) + offs bs
theorem offs_le : ∀ (a b : List Bool), a.length = b.length → (∀ i (h : i < a.length) (h2 : i < b.length), a[i] = true → b[i] = true) → offs b ≤ offs a ∧ (offs b = offs a → a = b)
  | [], [], _, _ => ⟨Nat.le_refl _, fun _ => rfl⟩
  | [], _ :: _, h, _ => by simp at h
  | _ :: _, [], h, _ => by simp at h
  | x :: xs, y :: ys, hl, h => by
    have h0 := h 0 (by simp) (by simp)
    obtain ⟨i1, i2⟩ := offs_le xs ys (by simpa using hl) (fun i hi h2 => h (i + 1) (by simpa using hi) (by simpa using h2))
    simp only [List.getElem_cons_zero] at h0
    rw [offs, offs]
    cases x <;> cases y <;> simp at h0 ⊢
    · exact ⟨i1, i2⟩
    · exact ⟨by omega, fun e => by omega⟩
    · exact ⟨i1, i2⟩
theorem offs_lt {a b : List Bool} (hl : a.length = b.length) (h : ∀ j, onF a j → onF b j) (hne : a ≠ b) : offs b < offs a := by
  obtain ⟨h1, h2⟩ := offs_le a b hl (fun i hi h2 hx => by
    have := h i (by unfold onF; rw [rdOf_nat' a i hi]; exact hx)
    unfold onF at this
    rwa [rdOf_nat' b i h2] at this)
  have : offs b ≠ offs a := fun e => hne (h2 e)
  omega
theorem ev_impl_opened_go (l : List S50) (ht : termsF l = 0) (K : Nat → Prop) : ∀ (m : Nat) (o : List Bool), offs o ≤ m → o.length = l.length → (∀ i, K i → onF o i) → (∀ i, onF o i → OpT l K i) → ∃ os, Ev (fun k => impl_opened.go l k o) os ∧ os.length = l.length ∧ ∀ i, onF os i ↔ OpT l K i := by
  have hl := (termsF_ok ht).1
  intro m
  induction m using Nat.strongRecOn with
  | _ m ih =>
  intro o hm ho h1 h2
  have hcl := OpF.closed (opT l) (aT l) (bT l) K
  obtain ⟨i1, i2, i3⟩ := foldB_props l ht (mkF l o) (revFin l.length) o ho
  have hpl : (impl_opened.pass l (mkF l o) o).length = o.length := impl_opened_fold_len l (mkF l o) _ _
  have hsub : ∀ j, onF (impl_opened.pass l (mkF l o) o) j → OpT l K j := i3 (OpT l K) h2 (fun i hi => ⟨(hcl i hi).1, fun e hc => (hcl i hi).2 e (DrT.mono h2 ((mkF_dr l ht o ho _).1 hc))⟩)
  have hstep : ∀ (r : List Bool), Ev (fun k => if decide (o = impl_opened.pass l (mkF l o) o) = true then some (impl_opened.pass l (mkF l o) o) else impl_opened.go l k (impl_opened.pass l (mkF l o) o)) r → Ev (fun k => impl_opened.go l k o) r := by
    intro r hr
    refine Ev.step (fun k => by rw [impl_opened.go]) ?_
    refine ev_opt (a := o) (by unfold slices_Clone_bool_bool.f; rw [if_pos (by omega)]) (ev_opt (q_impl_makeable l ht o ho) (Ev.bind (ev_Equal o _ hpl.symm (by omega)) hr))
  by_cases e : o = impl_opened.pass l (mkF l o) o
  · refine ⟨o, hstep o (ev_pos (by simpa using e) (ev_to (ev_some _) e.symm)), ho, fun i => ⟨h2 i, fun h => h _ h1 (fun j hj => ?_)⟩⟩
    have hjl : j < l.length := by have := onF_lt hj; omega
    have := i2 ⟨j, hjl⟩ (mem_revFin _) hj
    unfold impl_opened.pass at e
    rw [← e] at this
    exact ⟨this.1, fun e5 d => this.2 e5 ((mkF_dr l ht o ho _).2 d)⟩
  · have hlt := offs_lt hpl.symm i1 e
    obtain ⟨os, e1, e2⟩ := ih (offs (impl_opened.pass l (mkF l o) o)) (by omega) _ (Nat.le_refl _) (hpl.trans ho) (fun i hi => i1 i (h1 i hi)) hsub
    exact ⟨os, hstep os (ev_neg (by simpa using e) e1), e2⟩
theorem ev_impl_opened (l : List S50) (ks : List Int) (hk : knownF l ks = 0) : ∃ os, Ev (fun k => impl_opened.f k l ks) os ∧ os.length = l.length ∧ ∀ i, onF os i ↔ OpT l (inL ks) i := by
  obtain ⟨ht, h4, hr⟩ := knownF_ok hk
  have hl := (termsF_ok ht).1
  obtain ⟨os, h1, h2⟩ := ev_impl_opened_go l ht (inL ks) _ (flagsL l.length ks) (Nat.le_refl _) (flagsL_len _ _) (fun i hi => (onF_flags _ _ _ hr).2 hi) (fun i hi => OpF.sub ((onF_flags _ _ _ hr).1 hi))
  refine ⟨os, ?_, h2⟩
  unfold impl_opened.f
  exact Ev.bind (ev_impl_flags l (by omega) ks (by omega) hr) h1

/-- What is opened: as a rising list, and as flags. -/
theorem ev_opens (l : List S50) (ks : List Int) (hk : knownF l ks = 0) : ∃ os, Ev (fun k => spec_l6Open.f k l ks) os ∧ Ev (fun k => impl_opened.f k l ks) (flagsL l.length os) ∧ Ris os ∧ (∀ x ∈ os, 0 ≤ x ∧ x < (l.length : Int)) ∧ ∀ i, inL os i ↔ OpT l (inL ks) i := by
  obtain ⟨os, h1, h2, h3, h4⟩ := ev_spec_l6Open l ks hk
  obtain ⟨fs, f1, f2, f3⟩ := ev_impl_opened l ks hk
  have : fs = flagsL l.length os := onF_ext (f2.trans (flagsL_len _ _).symm) (fun j => by rw [f3, onF_flags _ _ _ h3, h4])
  exact ⟨os, h1, this ▸ f1, h2, h3, h4⟩

def risT (b : List Bool) : Nat → List Int
  | 0 => []
  | k + 1 => if rdOf false b (k : Int) = true then risT b k ++ [(k : Int)] else risT b k
theorem risT_len (b : List Bool) : ∀ k, (risT b k).length ≤ k
  | 0 => Nat.le_refl _
  | k + 1 => by
    have := risT_len b k
    rw [risT]
    split
    · rw [List.length_append, List.length_singleton]; omega
    · omega
theorem risT_mem (b : List Bool) (x : Int) : ∀ k, x ∈ risT b k ↔ ∃ j : Nat, j < k ∧ x = (j : Int) ∧ onF b j
  | 0 => by simp [risT]
  | k + 1 => by
    have ih := risT_mem b x k
    rw [risT]
    by_cases c : rdOf false b (k : Int) = true
    · rw [if_pos c, List.mem_append, List.mem_singleton, ih]
      constructor
      · rintro (⟨j, h1, h2⟩ | h)
        · exact ⟨j, by omega, h2⟩
        · exact ⟨k, by omega, h, c⟩
      · rintro ⟨j, h1, h2, h3⟩
        by_cases e : j = k
        · subst e
          exact .inr h2
        · exact .inl ⟨j, by omega, h2, h3⟩
    · rw [if_neg c, ih]
      constructor
      · rintro ⟨j, h1, h2⟩
        exact ⟨j, by omega, h2⟩
      · rintro ⟨j, h1, h2, h3⟩
        by_cases e : j = k
        · subst e
          exact absurd h3 c
        · exact ⟨j, by omega, h2, h3⟩
theorem risT_ris (b : List Bool) : ∀ k, Ris (risT b k)
  | 0 => List.Pairwise.nil
  | k + 1 => by
    rw [risT]
    split
    · refine List.pairwise_append.2 ⟨risT_ris b k, List.pairwise_singleton _ _, fun x hx y hy => ?_⟩
      obtain ⟨j, h1, h2, _⟩ := (risT_mem b x k).1 hx
      rw [List.mem_singleton] at hy
      omega
    · exact risT_ris b k
theorem ev_impl_risen (b : List Bool) (hb : b.length ≤ 1048576) : Ev (fun k => impl_risen.f k b) (risT b b.length) := by
  have key : ∀ i, i ≤ b.length → Ev (fun k => impl_risen.l0 k (risT b i) b (b.length : Int) (i : Nat)) (risT b b.length) := by
    refine down b.length ?_ ?_
    · exact Ev.step (fun k => by rw [impl_risen.l0, if_neg (by omega)]) (ev_some _)
    · intro i hi ih
      have hl := risT_len b i
      refine Ev.step (fun k => by rw [impl_risen.l0, if_pos (by omega), if_pos (by omega), if_pos (by omega), w64 (by omega) (by omega)]) ?_
      have e : risT b (i + 1) = if rdOf false b (i : Int) = true then risT b i ++ [(i : Int)] else risT b i := by rw [risT]
      by_cases c : rdOf false b (i : Int) = true
      · rw [e, if_pos c] at ih
        exact ev_pos c (ev_pos (by omega) ih)
      · rw [e, if_neg c] at ih
        exact ev_neg c ih
  exact key 0 (by omega)
theorem risT_flags (n : Nat) (os : List Int) (h : Ris os) (hr : ∀ x ∈ os, 0 ≤ x ∧ x < (n : Int)) : risT (flagsL n os) n = os := by
  refine ris_ext (risT_ris _ _) h (fun x => ?_)
  rw [risT_mem]
  constructor
  · rintro ⟨j, h1, rfl, h2⟩
    exact (onF_flags n os j hr).1 h2
  · intro hx
    obtain ⟨j, rfl⟩ := Int.eq_ofNat_of_zero_le (hr x hx).1
    exact ⟨j, by have := (hr _ hx).2; omega, rfl, (onF_flags n os j hr).2 hx⟩

theorem ev_spec_l6Derives {l : List S50} {ks os : List Int} (hk : knownF l ks = 0) (h : Ev (fun k => spec_l6Open.f k l ks) os) (h2 : Ris os) (hr : ∀ x ∈ os, 0 ≤ x ∧ x < (l.length : Int)) : Ev (fun k => spec_l6Derives.f k l ks) (mkF l (flagsL l.length os)) := by
  obtain ⟨ht, h4, _⟩ := knownF_ok hk
  have := (termsF_ok ht).1
  have := ris_len os 0 l.length h2 hr
  unfold spec_l6Derives.f
  exact Ev.bind h (Ev.bind (ev_spec_l6Make l ht os (by omega) hr) (ev_some _))

theorem q_spec_l1In (a b c : Int) : spec_l1In.f a b c = some (decide (b ≤ a ∧ a ≤ c)) := by
  unfold spec_l1In.f
  by_cases h : b ≤ a
  · simp [h]
  · simp [h]

theorem q_spec_l5At (s : List S50) (hs : s.length ≤ 1048576) (a : Int) : spec_l5At.f s a = some (decide (0 ≤ a ∧ a < (s.length : Int))) := by
  unfold spec_l5At.f
  rw [q_spec_l1In, Option.bind_some, w64 (by omega) (by omega)]
  congr 2
  simp only [eq_iff_iff]
  omega

theorem ev_spec_l5Kids (op : Int) : Ev (fun k => spec_l5Kids.f k op) (kidsT op) := by
  refine ev_succ (fun k => ?_)
  unfold spec_l5Kids.f kidsT
  simp only [spec_l5Kids.j0]
  by_cases h3 : op = 3
  · simp [h3]
  · by_cases h4 : op = 4
    · simp [h4]
    · by_cases h5 : op = 5
      · simp [h5]
      · by_cases h7 : op = 7
        · simp [h7]
        · by_cases h6 : op = 6
          · simp [h6]
          · simp [h3, h4, h5, h6, h7]

theorem ev_l5Term_j2 (s : List S50) (kk : Int) (b : Bool) (op A B N : Int) (hA : b = true → 0 ≤ A ∧ A < (s.length : Int)) (hB : b = true → 1 < kk → 0 ≤ B ∧ B < (s.length : Int)) :
    Ev (fun k => spec_l5Term.j2 k s kk b op A B N) (if b = true ∧ ((rd_T50 s A).f0 ≠ 2 ∨ (1 < kk ∧ ((rd_T50 s B).f0 ≠ 2 ∨ A > B))) then 1 else 0) := by
  refine ev_succ (fun k => ?_)
  rw [spec_l5Term.j2]
  cases b with
  | false => simp
  | true =>
    obtain ⟨a1, a2⟩ := hA rfl
    rw [if_pos rfl, if_pos a1, if_pos a2]
    by_cases g1 : (rd_T50 s A).f0 = 2
    · rw [if_pos g1]
      by_cases g2 : 1 < kk
      · obtain ⟨b1, b2⟩ := hB rfl g2
        rw [if_pos (by omega), if_pos b1, if_pos b2]
        by_cases g3 : (rd_T50 s B).f0 = 2
        · rw [if_pos g3]
          by_cases g4 : A > B
          · rw [if_pos g4, if_pos ⟨rfl, .inr ⟨g2, .inr g4⟩⟩]
          · rw [if_neg g4, if_neg (fun e => e.2.elim (fun h => h g1) (fun h => h.2.elim (fun h => h g3) g4))]
        · rw [if_neg g3, if_pos ⟨rfl, .inr ⟨g2, .inl g3⟩⟩]
      · rw [if_neg (by omega), if_neg (fun e => e.2.elim (fun h => h g1) (fun h => g2 h.1))]
    · rw [if_neg g1, if_pos ⟨rfl, .inl g1⟩]
theorem ev_l5Term_j1 (s : List S50) (kk : Int) (b : Bool) (op A B N : Int) (hA : b = false → op = 6 ∨ op = 7 → 0 ≤ A ∧ A < (s.length : Int)) (hB : b = false → op = 6 ∨ op = 7 → 1 < kk → 0 ≤ B ∧ B < (s.length : Int)) :
    Ev (fun k => spec_l5Term.j1 k s kk b op A B N) (if b = true then 3 else if (op = 6 ∨ op = 7) ∧ ((rd_T50 s A).f0 ≠ 2 ∨ (1 < kk ∧ ((rd_T50 s B).f0 ≠ 2 ∨ A > B))) then 1 else 0) := by
  cases b with
  | true =>
    refine Ev.step (fun k => by rw [spec_l5Term.j1, if_pos rfl]) ?_
    exact ev_some _
  | false =>
    rw [if_neg (by simp)]
    by_cases h6 : op = 6
    · refine Ev.step (fun k => by rw [spec_l5Term.j1, if_neg (by simp), if_pos h6]) ?_
      refine ev_to (ev_l5Term_j2 s kk true op A B N (fun _ => hA rfl (.inl h6)) (fun _ => hB rfl (.inl h6))) ?_
      simp [h6]
    · refine Ev.step (fun k => by rw [spec_l5Term.j1, if_neg (by simp), if_neg h6]) ?_
      refine ev_to (ev_l5Term_j2 s kk (op == 7) op A B N (fun e => hA rfl (.inr (by simpa using e))) (fun e => hB rfl (.inr (by simpa using e)))) ?_
      simp [h6]
theorem ev_l5Term_j0 (s : List S50) (hs : s.length ≤ 1048576) (op A B N : Int) (b : Bool) :
    Ev (fun k => spec_l5Term.j0 k s (kidsT op) b op A B N) (if b = true then 1 else if ¬ (0 ≤ N ∧ N ≤ 9999) ∨ (0 < kidsT op ∧ ¬ (0 ≤ A ∧ A < (s.length : Int))) ∨ (1 < kidsT op ∧ ¬ (0 ≤ B ∧ B < (s.length : Int))) then 3 else if (op = 6 ∨ op = 7) ∧ ((rd_T50 s A).f0 ≠ 2 ∨ (1 < kidsT op ∧ ((rd_T50 s B).f0 ≠ 2 ∨ A > B))) then 1 else 0) := by
  have hk6 : op = 6 ∨ op = 7 → 0 < kidsT op := by
    unfold kidsT
    rintro (rfl | rfl) <;> simp
  cases b with
  | true =>
    refine Ev.step (fun k => by rw [spec_l5Term.j0, if_pos rfl]) ?_
    exact ev_some _
  | false =>
    rw [if_neg (by simp)]
    refine Ev.step (fun k => by rw [spec_l5Term.j0, if_neg (by simp), w64 (by omega) (by omega)]) ?_
    refine ev_opt (q_spec_l1In _ _ _) ?_
    by_cases hN : 0 ≤ N ∧ N ≤ 9999
    · refine ev_pos (by simpa using hN) ?_
      by_cases k0 : 0 < kidsT op
      · refine ev_pos (by omega) (ev_opt (q_spec_l1In _ _ _) ?_)
        by_cases hA : 0 ≤ A ∧ A ≤ (s.length : Int) - 1
        · refine ev_pos (by simpa using hA) ?_
          by_cases k1 : 1 < kidsT op
          · refine ev_pos (by omega) (ev_opt (q_spec_l1In _ _ _) ?_)
            by_cases hB : 0 ≤ B ∧ B ≤ (s.length : Int) - 1
            · rw [decide_eq_true hB, if_neg (by omega)]
              exact ev_to (ev_l5Term_j1 s _ _ op A B N (fun _ _ => by omega) (fun _ _ _ => by omega)) (by simp)
            · rw [decide_eq_false hB, if_pos (by omega)]
              exact ev_to (ev_l5Term_j1 s _ _ op A B N (fun e => absurd e (by simp)) (fun e => absurd e (by simp))) (by simp)
          · refine ev_neg (by omega) ?_
            rw [if_neg (by omega)]
            exact ev_to (ev_l5Term_j1 s _ _ op A B N (fun _ _ => by omega) (fun _ _ e => absurd e k1)) (by simp)
        · refine ev_neg (by simpa using hA) ?_
          rw [if_pos (by omega)]
          exact ev_to (ev_l5Term_j1 s _ _ op A B N (fun e => absurd e (by simp)) (fun e => absurd e (by simp))) (by simp)
      · refine ev_neg (by omega) ?_
        refine ev_neg (by omega) ?_
        rw [if_neg (by omega)]
        exact ev_to (ev_l5Term_j1 s _ _ op A B N (fun _ e => absurd (hk6 e) k0) (fun _ e => absurd (hk6 e) k0)) (by simp)
    · refine ev_neg (by simpa using hN) ?_
      rw [if_pos (.inl hN)]
      exact ev_to (ev_l5Term_j1 s _ _ op A B N (fun e => absurd e (by simp)) (fun e => absurd e (by simp))) (by simp)
theorem ev_spec_l5Term (s : List S50) (hs : s.length ≤ 1048576) (t : S50) : Ev (fun k => spec_l5Term.f k s t.f0 t.f1 t.f2 t.f3) (termF s t) := by
  obtain ⟨op, A, B, N⟩ := t
  unfold spec_l5Term.f termF
  dsimp only
  refine ev_opt (q_spec_l1In _ _ _) ?_
  by_cases h : 1 ≤ op ∧ op ≤ 7
  · rw [if_pos h]
    refine ev_pos (by simpa using h) (Ev.bind (ev_spec_l5Kids op) ?_)
    have hj := ev_l5Term_j0 s hs op A B N
    by_cases k0 : 0 < kidsT op
    · refine ev_pos k0 ?_
      by_cases hN : N = 0
      · refine ev_pos hN (ev_neg (by omega) ?_)
        by_cases k2 : kidsT op < 2
        · refine ev_pos k2 (ev_to (hj (B != 0)) ?_)
          by_cases hB : B = 0
          · rw [if_neg (by simp [hB]), if_neg (show ¬ ((0 < kidsT op ∧ N ≠ 0) ∨ (kidsT op < 1 ∧ A ≠ 0) ∨ (kidsT op < 2 ∧ B ≠ 0)) by omega)]
          · rw [if_pos (by simp [hB]), if_pos (by omega)]
        · refine ev_neg k2 (ev_to (hj false) ?_)
          rw [if_neg (by simp), if_neg (show ¬ ((0 < kidsT op ∧ N ≠ 0) ∨ (kidsT op < 1 ∧ A ≠ 0) ∨ (kidsT op < 2 ∧ B ≠ 0)) by omega)]
      · refine ev_neg hN (ev_to (hj true) ?_)
        rw [if_pos rfl, if_pos (by omega)]
    · refine ev_neg k0 (ev_pos (by omega) ?_)
      by_cases hA : A = 0
      · refine ev_pos hA (ev_pos (by omega) (ev_to (hj (B != 0)) ?_))
        by_cases hB : B = 0
        · rw [if_neg (by simp [hB]), if_neg (show ¬ ((0 < kidsT op ∧ N ≠ 0) ∨ (kidsT op < 1 ∧ A ≠ 0) ∨ (kidsT op < 2 ∧ B ≠ 0)) by omega)]
        · rw [if_pos (by simp [hB]), if_pos (by omega)]
      · refine ev_neg hA (ev_to (hj true) ?_)
        rw [if_pos rfl, if_pos (by omega)]
  · rw [if_neg h]
    exact ev_neg (by simpa using h) (ev_some _)

theorem ev_spec_TermsFault (l : List S50) (hl : l.length ≤ 1048576) : Ev (fun k => spec_TermsFault.f k l) (termsF l) := by
  have key : ∀ i, i ≤ l.length → Ev (fun k => spec_TermsFault.l0 k l (i : Nat)) (scanT (l.take i) (l.drop i)) := by
    refine down l.length ?_ ?_
    · rw [List.drop_length, scanT]
      refine Ev.step (fun k => by rw [spec_TermsFault.l0, if_neg (by omega)]) ?_
      exact ev_some _
    · intro i hi ih
      rw [List.drop_eq_getElem_cons hi, scanT, ← List.take_succ_eq_append_getElem hi]
      refine Ev.step (fun k => by rw [spec_TermsFault.l0, if_pos (by omega), if_pos (by omega), if_pos (by omega), rdTerm_nat l i hi, Int.toNat_natCast, w64 (by omega) (by omega)]) ?_
      refine Ev.bind (ev_spec_l5Term (l.take i) (by rw [List.length_take]; omega) l[i]) (ev_cond (fun h => ?_) (fun h => ev_some _))
      obtain ⟨r, hr, hm⟩ := ev_spec_l5Find (l.take i) (by rw [List.length_take]; omega) l[i]
      refine Ev.bind hr ?_
      by_cases g : 0 ≤ r
      · rw [if_pos (hm.mp g)]
        exact ev_pos g (ev_some _)
      · rw [if_neg (fun e => g (hm.mpr e))]
        exact ev_neg g ih
  have h := key 0 (by omega)
  rw [List.take_zero, List.drop_zero] at h
  unfold spec_TermsFault.f termsF
  by_cases h4 : 400 < l.length
  · rw [if_pos h4]
    exact ev_pos (by omega) (ev_some _)
  · rw [if_neg h4]
    exact ev_neg (by omega) h

theorem ev_spec_KnownFault (l : List S50) (hl : l.length ≤ 1048576) (ks : List Int) (hk : ks.length ≤ 1048576) : Ev (fun k => spec_KnownFault.f k l ks) (knownF l ks) := by
  have key : ∀ i, i ≤ ks.length → Ev (fun k => spec_KnownFault.l0 k l ks (i : Nat)) (scanK l.length (prevK ks i) (ks.drop i)) := by
    refine down ks.length ?_ ?_
    · rw [List.drop_length, scanK]
      exact Ev.step (fun k => by rw [spec_KnownFault.l0, if_neg (by omega)]) (ev_some _)
    · intro i hi ih
      rw [List.drop_eq_getElem_cons hi, scanK]
      refine Ev.step (fun k => by rw [spec_KnownFault.l0, if_pos (by omega), if_pos (by omega), rd_nat ks i hi, w64 (by omega) (by omega), w64 (by omega) (by omega)]) ?_
      refine ev_opt (q_spec_l5At l hl _) ?_
      by_cases g : 0 ≤ ks[i] ∧ ks[i] < (l.length : Int)
      · rw [if_pos g]
        refine ev_pos (by simpa using g) ?_
        rw [prevK_succ ks i hi] at ih
        by_cases h0 : 0 < i
        · refine ev_pos (by omega) (ev_pos (by omega) (ev_pos (by omega) ?_))
          rw [prevK_pos ks i hi h0, show (i : Int) - 1 = ((i - 1 : Nat) : Int) by omega, rd_nat ks (i - 1) (by omega)]
          by_cases c : ks[i] ≤ ks[i - 1]
          · rw [if_pos ⟨_, rfl, c⟩]
            exact ev_pos c (ev_some _)
          · rw [if_neg (fun ⟨y, hy, hc⟩ => c (by rw [Option.some.inj hy]; exact hc))]
            exact ev_neg c ih
        · refine ev_neg (by omega) ?_
          rw [if_neg (fun ⟨y, hy, _⟩ => by obtain rfl : i = 0 := (by omega); exact absurd hy (by simp [prevK_zero]))]
          exact ih
      · rw [if_neg g]
        exact ev_neg (by simpa using g) (ev_some _)
  have h := key 0 (by omega)
  rw [prevK_zero, List.drop_zero] at h
  unfold spec_KnownFault.f knownF
  refine Ev.bind (ev_spec_TermsFault l hl) (ev_cond (fun _ => ?_) (fun _ => ev_some _))
  by_cases c : 400 < ks.length
  · rw [if_pos c]
    exact ev_pos (by omega) (ev_some _)
  · rw [if_neg c]
    exact ev_neg (by omega) h

theorem ev_impl_KnownFault (l : List S50) (hl : l.length ≤ 1048576) (ks : List Int) (hk : ks.length ≤ 1048576) : Ev (fun k => impl_KnownFault.f k l ks) (knownF l ks) := by
  have key : ∀ i, i ≤ ks.length → Ev (fun k => impl_KnownFault.l0 k l ks ks ks.length (i : Nat)) (scanK l.length (prevK ks i) (ks.drop i)) := by
    refine down ks.length ?_ ?_
    · rw [List.drop_length, scanK]
      exact Ev.step (fun k => by rw [impl_KnownFault.l0, if_neg (by omega)]) (ev_some _)
    · intro i hi ih
      rw [List.drop_eq_getElem_cons hi, scanK]
      refine Ev.step (fun k => by rw [impl_KnownFault.l0, if_pos (by omega), if_pos (by omega), if_pos (by omega), rd_nat ks i hi, w64 (by omega) (by omega), w64 (by omega) (by omega)]) ?_
      refine ev_opt (q_isPlace l hl _) ?_
      by_cases g : 0 ≤ ks[i] ∧ ks[i] < (l.length : Int)
      · rw [if_pos g]
        refine ev_pos (by simpa using g) ?_
        rw [prevK_succ ks i hi] at ih
        by_cases h0 : 0 < i
        · refine ev_pos (by omega) (ev_pos (by omega) (ev_pos (by omega) ?_))
          rw [prevK_pos ks i hi h0, show (i : Int) - 1 = ((i - 1 : Nat) : Int) by omega, rd_nat ks (i - 1) (by omega)]
          by_cases c : ks[i] ≤ ks[i - 1]
          · rw [if_pos ⟨_, rfl, c⟩]
            exact ev_pos c (ev_some _)
          · rw [if_neg (fun ⟨y, hy, hc⟩ => c (by rw [Option.some.inj hy]; exact hc))]
            exact ev_neg c ih
        · refine ev_neg (by omega) ?_
          rw [if_neg (fun ⟨y, hy, _⟩ => by obtain rfl : i = 0 := (by omega); exact absurd hy (by simp [prevK_zero]))]
          exact ih
      · rw [if_neg g]
        exact ev_neg (by simpa using g) (ev_some _)
  have h := key 0 (by omega)
  rw [prevK_zero, List.drop_zero] at h
  unfold impl_KnownFault.f knownF
  refine ev_opt (q_impl_TermsFault l hl) (ev_cond (fun _ => ?_) (fun _ => ev_some _))
  by_cases c : 400 < ks.length
  · rw [if_pos c]
    exact ev_pos (by omega) (ev_some _)
  · rw [if_neg c]
    exact ev_neg (by omega) h

def dsF (l : List S50) (ks os : List Int) : Int × List Int := if knownF l ks = 0 then (0, risT (mkF l (flagsL l.length os)) l.length) else (knownF l ks, [])
theorem ev_impl_DerivesSome (l : List S50) (hl : l.length ≤ 1048576) (ks os : List Int) (hk : ks.length ≤ 1048576) (h : knownF l ks = 0 → Ev (fun k => impl_opened.f k l ks) (flagsL l.length os)) : Ev (fun k => impl_DerivesSome.f k l ks) (dsF l ks os) := by
  unfold impl_DerivesSome.f dsF
  refine Ev.bind (ev_impl_KnownFault l hl ks hk) (ev_cond (fun hc => ?_) (fun hc => ev_some _))
  obtain ⟨ht, h4, hr⟩ := knownF_ok hc
  have hm := mkF_len l (flagsL l.length os)
  refine Ev.bind (h hc) (ev_opt (q_impl_makeable l ht _ (flagsL_len _ _)) (Ev.bind (ev_impl_risen _ (by omega)) (ev_to (ev_some _) ?_)))
  rw [hm]
theorem ev_spec_DerivesSome (l : List S50) (hl : l.length ≤ 1048576) (ks os : List Int) (hk : ks.length ≤ 1048576) (h : knownF l ks = 0 → Ev (fun k => spec_l6Derives.f k l ks) (mkF l (flagsL l.length os))) : Ev (fun k => spec_DerivesSome.f k l ks) (dsF l ks os) := by
  unfold spec_DerivesSome.f dsF
  refine Ev.bind (ev_spec_KnownFault l hl ks hk) (ev_cond (fun hc => Ev.bind (h hc) ?_) (fun hc => ev_some _))
  have hm := mkF_len l (flagsL l.length os)
  have key : ∀ i, i ≤ l.length → Ev (fun k => spec_DerivesSome.l0 k (mkF l (flagsL l.length os)) (i : Nat) 0 (risT (mkF l (flagsL l.length os)) i)) ((0 : Int), risT (mkF l (flagsL l.length os)) l.length) := by
    refine down l.length ?_ ?_
    · exact Ev.step (fun k => by rw [spec_DerivesSome.l0, if_neg (by omega)]) (ev_some _)
    · intro i hi ih
      have hl := risT_len (mkF l (flagsL l.length os)) i
      refine Ev.step (fun k => by rw [spec_DerivesSome.l0, if_pos (by omega), if_pos (by omega), w64 (by omega) (by omega)]) ?_
      have e : risT (mkF l (flagsL l.length os)) (i + 1) = if rdOf false (mkF l (flagsL l.length os)) (i : Int) = true then risT (mkF l (flagsL l.length os)) i ++ [(i : Int)] else risT (mkF l (flagsL l.length os)) i := by rw [risT]
      by_cases c : rdOf false (mkF l (flagsL l.length os)) (i : Int) = true
      · rw [e, if_pos c] at ih
        exact ev_pos c (ev_pos (by omega) ih)
      · rw [e, if_neg c] at ih
        exact ev_neg c ih
  exact key 0 (by omega)
def derF (l : List S50) (ks os : List Int) (a : Int) : Bool := if knownF l ks = 0 then (if 0 ≤ a ∧ a < (l.length : Int) then rdOf false (mkF l (flagsL l.length os)) a else false) else false
theorem ev_impl_Derives (l : List S50) (hl : l.length ≤ 1048576) (ks os : List Int) (hk : ks.length ≤ 1048576) (a : Int) (h : knownF l ks = 0 → Ev (fun k => impl_opened.f k l ks) (flagsL l.length os)) : Ev (fun k => impl_Derives.f k l ks a) (derF l ks os a) := by
  unfold impl_Derives.f derF
  refine Ev.bind (ev_impl_KnownFault l hl ks hk) (ev_cond (fun hc => ev_opt (q_isPlace l hl a) ?_) (fun hc => ev_some _))
  obtain ⟨ht, h4, hr⟩ := knownF_ok hc
  by_cases g : 0 ≤ a ∧ a < (l.length : Int)
  · rw [if_pos g]
    exact ev_pos (by simpa using g) (Ev.bind (h hc) (ev_opt (q_impl_makeable l ht _ (flagsL_len _ _)) (ev_pos g.1 (ev_pos (by rw [mkF_len]; exact g.2) (ev_some _)))))
  · rw [if_neg g]
    exact ev_neg (by simpa using g) (ev_some _)

theorem Ev.unique {α : Type} {g : Nat → Option α} {a b : α} (h : Ev g a) (k : Ev g b) : a = b := by
  obtain ⟨m, hm⟩ := h
  obtain ⟨n, hn⟩ := k
  exact Option.some.inj ((hm (m + n) (by omega)).symm.trans (hn (m + n) (by omega)))

theorem scanK_of_ris (n : Int) : ∀ (ks : List Int) (p : Option Int), Ris ks → (∀ x ∈ ks, 0 ≤ x ∧ x < n) → (∀ y, p = some y → ∀ x ∈ ks, y < x) → scanK n p ks = 0
  | [], _, _, _, _ => rfl
  | x :: xs, p, h, hr, hp => by
    obtain ⟨a1, a2⟩ := List.pairwise_cons.1 h
    rw [scanK, if_pos (hr x List.mem_cons_self), if_neg]
    · exact scanK_of_ris n xs _ a2 (fun y hy => hr y (List.mem_cons_of_mem _ hy)) (fun y hy z hz => by cases hy; exact a1 z hz)
    · rintro ⟨z, hz, hle⟩
      have := hp z hz x List.mem_cons_self
      omega
theorem knownF_of {l : List S50} (ht : termsF l = 0) {ks : List Int} (h : Ris ks) (hr : ∀ x ∈ ks, 0 ≤ x ∧ x < (l.length : Int)) : knownF l ks = 0 := by
  have hl := (termsF_ok ht).1
  have := ris_len ks 0 l.length h hr
  unfold knownF
  rw [if_pos ht, if_neg (by omega)]
  exact scanK_of_ris _ ks none h hr (fun _ e => by cases e)
def dL (l : List S50) (os : List Int) : List Int := risT (mkF l (flagsL l.length os)) l.length
theorem dL_len (l : List S50) (os : List Int) : (dL l os).length ≤ l.length := risT_len _ _
theorem dL_mem {l : List S50} (ht : termsF l = 0) {os : List Int} (hr : ∀ x ∈ os, 0 ≤ x ∧ x < (l.length : Int)) (i : Nat) : (i : Int) ∈ dL l os ↔ i < l.length ∧ DrT l (inL os) i := by
  unfold dL
  rw [risT_mem]
  constructor
  · rintro ⟨j, h1, h2, h3⟩
    obtain rfl : i = j := by omega
    exact ⟨h1, (mkF_flags l ht os hr i).1 h3⟩
  · rintro ⟨h1, h2⟩
    exact ⟨i, h1, rfl, (mkF_flags l ht os hr i).2 h2⟩
theorem derF_eq {l : List S50} {ks os : List Int} (hk : knownF l ks = 0) (hr : ∀ x ∈ os, 0 ≤ x ∧ x < (l.length : Int)) (i : Nat) (hi : i < l.length) : derF l ks os (i : Int) = decide ((i : Int) ∈ dL l os) := by
  obtain ⟨ht, _, _⟩ := knownF_ok hk
  unfold derF
  rw [if_pos hk, if_pos (by omega)]
  have h1 := mkF_flags l ht os hr i
  have h2 := dL_mem ht hr i
  unfold onF at h1
  by_cases c : (i : Int) ∈ dL l os
  · rw [decide_eq_true c]
    exact h1.2 (h2.1 c).2
  · rw [decide_eq_false c]
    refine Bool.eq_false_iff.2 (fun e => c (h2.2 ⟨hi, h1.1 e⟩))
/-- The list of what follows from a right list. -/
theorem ev_dSome (l : List S50) (hl : l.length ≤ 1048576) (ks : List Int) (hk : knownF l ks = 0) : ∃ os, Ev (fun k => impl_DerivesSome.f k l ks) (0, dL l os) ∧ Ev (fun k => spec_DerivesSome.f k l ks) (0, dL l os) ∧ Ev (fun k => impl_opened.f k l ks) (flagsL l.length os) ∧ (∀ a, Ev (fun k => impl_Derives.f k l ks a) (derF l ks os a)) ∧ Ris os ∧ (∀ x ∈ os, 0 ≤ x ∧ x < (l.length : Int)) ∧ ∀ i, inL os i ↔ OpT l (inL ks) i := by
  obtain ⟨ht, h4, hr⟩ := knownF_ok hk
  obtain ⟨os, h1, h2, h3, h4', h5⟩ := ev_opens l ks hk
  refine ⟨os, ?_, ?_, h2, fun a => ev_impl_Derives l hl ks os (by omega) a (fun _ => h2), h3, h4', h5⟩
  · have := ev_impl_DerivesSome l hl ks os (by omega) (fun _ => h2)
    unfold dsF at this
    rw [if_pos hk] at this
    exact this
  · have := ev_spec_DerivesSome l hl ks os (by omega) (fun hc => ev_spec_l6Derives hc h1 h3 h4')
    unfold dsF at this
    rw [if_pos hk] at this
    exact this
def secF (l : List S50) (ks os : List Int) (a : Int) : Bool := if knownF l ks = 0 then (if 0 ≤ a ∧ a < (l.length : Int) then !(rdOf false (mkF l (flagsL l.length os)) a) else false) else false
theorem ev_impl_IsSecret (l : List S50) (hl : l.length ≤ 1048576) (ks os : List Int) (hk : ks.length ≤ 1048576) (a : Int) (h : knownF l ks = 0 → Ev (fun k => impl_opened.f k l ks) (flagsL l.length os)) : Ev (fun k => impl_IsSecret.f k l ks a) (secF l ks os a) := by
  unfold impl_IsSecret.f secF
  refine Ev.bind (ev_impl_KnownFault l hl ks hk) (ev_cond (fun hc => ev_opt (q_isPlace l hl a) ?_) (fun hc => ev_some _))
  by_cases g : 0 ≤ a ∧ a < (l.length : Int)
  · rw [if_pos g]
    refine ev_pos (by simpa using g) (Ev.bind (ev_impl_Derives l hl ks os hk a h) ?_)
    unfold derF
    rw [if_pos hc, if_pos g]
    exact ev_some _
  · rw [if_neg g]
    exact ev_neg (by simpa using g) (ev_some _)

def opF (l : List S50) (ks os : List Int) : Int × List Int := if knownF l ks = 0 then (0, os) else (knownF l ks, [])
theorem ev_impl_OpenAll (l : List S50) (hl : l.length ≤ 1048576) (ks os : List Int) (hk : ks.length ≤ 1048576) (h2 : Ris os) (hr : ∀ x ∈ os, 0 ≤ x ∧ x < (l.length : Int)) (h : knownF l ks = 0 → Ev (fun k => impl_opened.f k l ks) (flagsL l.length os)) : Ev (fun k => impl_OpenAll.f k l ks) (opF l ks os) := by
  unfold impl_OpenAll.f opF
  refine Ev.bind (ev_impl_KnownFault l hl ks hk) (ev_cond (fun hc => ?_) (fun hc => ev_some _))
  have hf := flagsL_len l.length os
  refine Ev.bind (h hc) (Ev.bind (ev_impl_risen _ (by omega)) (ev_to (ev_some _) ?_))
  rw [hf, risT_flags l.length os h2 hr]
theorem ev_spec_OpenAll (l : List S50) (hl : l.length ≤ 1048576) (ks os : List Int) (hk : ks.length ≤ 1048576) (h : knownF l ks = 0 → Ev (fun k => spec_l6Open.f k l ks) os) : Ev (fun k => spec_OpenAll.f k l ks) (opF l ks os) := by
  unfold spec_OpenAll.f opF
  exact Ev.bind (ev_spec_KnownFault l hl ks hk) (ev_cond (fun hc => Ev.bind (h hc) (ev_some _)) (fun hc => ev_some _))
theorem ev_openBoth (l : List S50) (hl : l.length ≤ 1048576) (ks : List Int) (hk : ks.length ≤ 1048576) : ∃ r, Ev (fun k => spec_OpenAll.f k l ks) r ∧ Ev (fun k => impl_OpenAll.f k l ks) r ∧ r.2.length ≤ 1048576 := by
  by_cases c : knownF l ks = 0
  · obtain ⟨os, h1, h2, h3, h4, _⟩ := ev_opens l ks c
    have := ris_len os 0 l.length h3 h4
    exact ⟨_, ev_spec_OpenAll l hl ks os hk (fun _ => h1), ev_impl_OpenAll l hl ks os hk h3 h4 (fun _ => h2), by unfold opF; rw [if_pos c]; dsimp only; omega⟩
  · exact ⟨_, ev_spec_OpenAll l hl ks [] hk (fun hc => absurd hc c), ev_impl_OpenAll l hl ks [] hk List.Pairwise.nil (by simp) (fun hc => absurd hc c), by unfold opF; rw [if_neg c]; simp⟩

theorem q_l1Max (a b : Int) : spec_l1Max.f a b = some (if a > b then a else b) := by
  unfold spec_l1Max.f
  split <;> rfl
theorem q_l1Min (a b : Int) : spec_l1Min.f a b = some (if a < b then a else b) := by
  unfold spec_l1Min.f
  split <;> rfl

theorem q_l5Copy (l : List S50) (hl : l.length ≤ 1000) : spec_l5Copy.f l = some l := by
  unfold spec_l5Copy.f
  rw [Option.bind_some, if_pos (by simp; omega)]
  rfl
theorem ev_l5Put (l : List S50) (hl : l.length ≤ 1000) (a b c d : Int) : ∃ r, Ev (fun k => spec_l5Put.f k l a b c d) r ∧ r.2.2.length ≤ l.length + 1 := by
  obtain ⟨q, hq, _⟩ := ev_spec_l5Find l (by omega) ⟨a, b, c, d⟩
  have hT := ev_spec_l5Term l (by omega) ⟨a, b, c, d⟩
  unfold spec_l5Put.f
  by_cases h : termF l ⟨a, b, c, d⟩ = 0
  · by_cases h2 : q ≥ 0
    · exact ⟨(0, q, l), Ev.bind hT (ev_pos h (Ev.bind hq (ev_pos h2 (ev_opt (q_l5Copy l hl) (ev_some _))))), by dsimp only; omega⟩
    · by_cases h3 : (l.length : Int) ≥ 400
      · exact ⟨(2, 0, []), Ev.bind hT (ev_pos h (Ev.bind hq (ev_neg h2 (ev_pos h3 (ev_some _))))), by simp⟩
      · exact ⟨(0, (l.length : Int), l ++ [⟨a, b, c, d⟩]), Ev.bind hT (ev_pos h (Ev.bind hq (ev_neg h2 (ev_neg h3 (ev_opt (q_l5Copy l hl) (ev_opt rfl (ev_pos (by simp; omega) (ev_some _)))))))), by simp⟩
  · exact ⟨(termF l ⟨a, b, c, d⟩, 0, []), Ev.bind hT (ev_neg h (ev_some _)), by simp⟩
theorem ev_l5Both (l : List S50) (hl : l.length ≤ 1000) (a b : Int) : ∃ r, Ev (fun k => spec_l5Both.f k l a b) r ∧ r.2.2.length ≤ l.length + 1 := by
  obtain ⟨r, hr, hl⟩ := ev_l5Put l hl 7 (if a < b then a else b) (if a > b then a else b) 0
  refine ⟨(r.1, r.2.1, r.2.2), ?_, hl⟩
  unfold spec_l5Both.f
  exact ev_opt (q_l1Min a b) (ev_opt (q_l1Max a b) (Ev.bind hr (ev_some _)))

def Bytes (l : List Int) : Prop := ∀ x ∈ l, 0 ≤ x ∧ x ≤ 255
theorem bytes_wf {l : List Int} (h : ∀ x ∈ l, (Lit.int .u8 x).wf = true) : Bytes l := fun x hx => u8_range (h x hx)
theorem q_l1Next (l : List Int) (hl : l.length ≤ 1048576 + 1) (hb : Bytes l) (at_ n : Int) (h0 : 0 ≤ at_) (h1 : at_ ≤ 1099511627776) :
    ∃ v, spec_l1Next.f l at_ n = some (v, at_ + 1) ∧ 0 ≤ v ∧ (1 ≤ n → v < n) ∧ (n < 1 → v = 0) := by
  unfold spec_l1Next.f
  rw [w64 (x := at_ + 1) (by omega) (by omega), show at_ + 1 - 1 = at_ from by omega, w64 (x := at_) (by omega) (by omega), w64 (x := at_ + 1) (by omega) (by omega)]
  by_cases hn : n < 1
  · exact ⟨0, by rw [if_pos hn], by omega, by omega, fun _ => rfl⟩
  · rw [if_neg hn]
    by_cases hz : (l.length : Int) = 0
    · rw [if_pos hz, if_neg (by omega), w64 (by omega) (by omega), tmod_pos (by omega)]
      exact ⟨_, rfl, Int.emod_nonneg _ (by omega), fun _ => Int.emod_lt_of_pos _ (by omega), by omega⟩
    · have ha := Int.emod_nonneg at_ hz
      have ha2 := Int.emod_lt_of_pos at_ (b := (l.length : Int)) (by omega)
      have hb1 := Int.emod_nonneg (at_ + 1) hz
      have hb2 := Int.emod_lt_of_pos (at_ + 1) (b := (l.length : Int)) (by omega)
      have r1 := hb _ (rd_mem l _ ha ha2)
      have r2 := hb _ (rd_mem l _ hb1 hb2)
      have d1 : 0 ≤ at_ / (l.length : Int) := Int.ediv_nonneg h0 (by omega)
      have d2 : at_ / (l.length : Int) ≤ at_ := Int.ediv_le_self _ h0
      rw [if_neg hz, tmod_pos h0, tmod_pos (a := at_ + 1) (by omega), tdiv_pos h0, if_pos ha, if_pos ha2]
      rw [w64 (x := rd l (at_ % (l.length : Int))) (by omega) (by omega), w64 (x := rd l ((at_ + 1) % (l.length : Int))) (by omega) (by omega), w64 (x := at_ / (l.length : Int)) (by omega) (by omega), w64 (x := at_ / (l.length : Int) * 37) (by omega) (by omega), w64 (x := rd l (at_ % (l.length : Int)) + at_ / (l.length : Int) * 37) (by omega) (by omega), w64 (x := (rd l (at_ % (l.length : Int)) + at_ / (l.length : Int) * 37) * 251) (by omega) (by omega), w64 (x := rd l ((at_ + 1) % (l.length : Int)) * 13) (by omega) (by omega)]
      rw [w64 (x := (rd l (at_ % (l.length : Int)) + at_ / (l.length : Int) * 37) * 251 + rd l ((at_ + 1) % (l.length : Int)) * 13) (by omega) (by omega)]
      rw [w64 (x := (rd l (at_ % (l.length : Int)) + at_ / (l.length : Int) * 37) * 251 + rd l ((at_ + 1) % (l.length : Int)) * 13 + at_) (by omega) (by omega)]
      by_cases h2 : n > 200
      · rw [if_pos h2, if_pos hb1, if_pos hb2, if_neg (by omega), tmod_pos (by omega)]
        exact ⟨_, rfl, Int.emod_nonneg _ (by omega), fun _ => Int.emod_lt_of_pos _ (by omega), by omega⟩
      · rw [if_neg h2, if_neg (by omega), tmod_pos (by omega)]
        exact ⟨_, rfl, Int.emod_nonneg _ (by omega), fun _ => Int.emod_lt_of_pos _ (by omega), by omega⟩

theorem q_l1Pick (l : List Int) (hl : l.length ≤ 1048576 + 1) (hb : Bytes l) (at_ : Int) (c : List Int) (h0 : 0 ≤ at_) (h1 : at_ ≤ 1099511627776) (hc : 1 ≤ c.length) :
    ∃ v, spec_l1Pick.f l at_ c = some (v, at_ + 1) ∧ v ∈ c := by
  obtain ⟨i, hi, hi0, hi1, _⟩ := q_l1Next l hl hb at_ c.length h0 h1
  have hi1 := hi1 (by omega)
  unfold spec_l1Pick.f
  rw [hi, Option.bind_some, if_pos hi0, if_pos hi1]
  exact ⟨_, rfl, rd_mem c i hi0 hi1⟩

theorem ev_l5Grow_loop (l : List Int) (hl : l.length ≤ 1048576 + 1) (hb : Bytes l) : ∀ (d : Nat) (n : Int) (t : List S50) (at_ : Int), n.toNat = d → d ≤ 100 → t.length + d ≤ 200 → 0 ≤ at_ → at_ + 10 * d ≤ 10000 →
    ∃ r at', Ev (fun k => spec_l5Grow.l0 k n t l at_) (r, at') ∧ r.length ≤ t.length + d ∧ 0 ≤ at' ∧ at' ≤ at_ + 10 * d := by
  intro d
  induction d with
  | zero =>
    intro n t at_ hn _ ht h0 h1
    exact ⟨t, at_, Ev.step (fun k => by rw [spec_l5Grow.l0, if_neg (by omega)]) (ev_some _), by omega, h0, by omega⟩
  | succ d ih =>
    intro n t at_ hn hd ht h0 h1
    obtain ⟨o, ho, hom⟩ := q_l1Pick l hl hb at_ [1, 2, 3, 4, 5, 6, 7, 3, 5] h0 (by omega) (by simp)
    obtain ⟨a, ha, _⟩ := q_l1Next l hl hb (at_ + 1) (if (1 : Int) > (t.length : Int) then 1 else (t.length : Int)) (by omega) (by omega)
    obtain ⟨b, hb2, _⟩ := q_l1Next l hl hb (at_ + 1 + 1) (if (1 : Int) > (t.length : Int) then 1 else (t.length : Int)) (by omega) (by omega)
    obtain ⟨m, hm, _⟩ := q_l1Next l hl hb (at_ + 1 + 1 + 1) 6 (by omega) (by omega)
    have key : ∀ (at2 x y z u : Int), at_ ≤ at2 → at2 ≤ at_ + 10 → ∃ r at', Ev (fun k => spec_l5Grow.j1 k n t l at2 x y z u) (r, at') ∧ r.length ≤ t.length + (d + 1) ∧ 0 ≤ at' ∧ at' ≤ at_ + 10 * ((d + 1 : Nat) : Int) := by
      intro at2 x y z u g0 g1
      have go : ∀ t2 : List S50, t2.length ≤ t.length + 1 → ∃ r at', Ev (fun k => spec_l5Grow.l0 k (wrap64 (n - 1)) t2 l at2) (r, at') ∧ r.length ≤ t.length + (d + 1) ∧ 0 ≤ at' ∧ at' ≤ at_ + 10 * ((d + 1 : Nat) : Int) := by
        intro t2 h2
        rw [w64 (by omega) (by omega)]
        obtain ⟨r, at', e1, e2, e3, e4⟩ := ih (n - 1) t2 at2 (by omega) (by omega) (by omega) (by omega) (by omega)
        exact ⟨r, at', e1, by omega, e3, by omega⟩
      obtain ⟨p, hp, hpl⟩ := ev_l5Put t (by omega) x y z u
      obtain ⟨q, hq, hql⟩ := ev_l5Both t (by omega) y z
      have hs : ∀ {r : List S50 × Int}, Ev (fun k => if x = 7 then ((spec_l5Both.f k t y z).bind fun bt292 => (if bt292.1 = 0 then (spec_l5Grow.l0 k (wrap64 (n - 1)) bt292.2.2 l at2) else (spec_l5Grow.l0 k (wrap64 (n - 1)) t l at2))) else (if p.1 = 0 then (spec_l5Grow.l0 k (wrap64 (n - 1)) p.2.2 l at2) else (spec_l5Grow.l0 k (wrap64 (n - 1)) t l at2))) r → Ev (fun k => spec_l5Grow.j1 k n t l at2 x y z u) r := fun h => Ev.step (fun k => by rw [spec_l5Grow.j1]) (Ev.bind hp h)
      by_cases c7 : x = 7
      · by_cases c0 : q.1 = 0
        · obtain ⟨r, at', e1, e2⟩ := go q.2.2 hql
          exact ⟨r, at', hs (ev_pos c7 (Ev.bind hq (ev_pos c0 e1))), e2⟩
        · obtain ⟨r, at', e1, e2⟩ := go t (by omega)
          exact ⟨r, at', hs (ev_pos c7 (Ev.bind hq (ev_neg c0 e1))), e2⟩
      · by_cases c0 : p.1 = 0
        · obtain ⟨r, at', e1, e2⟩ := go p.2.2 hpl
          exact ⟨r, at', hs (ev_neg c7 (ev_pos c0 e1)), e2⟩
        · obtain ⟨r, at', e1, e2⟩ := go t (by omega)
          exact ⟨r, at', hs (ev_neg c7 (ev_neg c0 e1)), e2⟩
    have st : ∀ {r : List S50 × Int}, Ev (fun k => if kidsT o = 0 then ((spec_l1Next.f l (at_ + 1 + 1 + 1) 6).bind fun bt284 => (spec_l5Grow.j1 k n t l bt284.2 o 0 0 bt284.1)) else (if kidsT o = 1 then (spec_l5Grow.j1 k n t l (at_ + 1 + 1 + 1) o a 0 0) else (spec_l5Grow.j1 k n t l (at_ + 1 + 1 + 1) o a b 0))) r → Ev (fun k => spec_l5Grow.l0 k n t l at_) r := fun h =>
      Ev.step (fun k => by rw [spec_l5Grow.l0, if_pos (by omega)]) (ev_opt (q_l1Max _ _) (ev_opt ho (ev_opt ha (ev_opt hb2 (Ev.bind (ev_spec_l5Kids o) h)))))
    by_cases k0 : kidsT o = 0
    · obtain ⟨r, at', e1, e2⟩ := key (at_ + 1 + 1 + 1 + 1) o 0 0 m (by omega) (by omega)
      exact ⟨r, at', st (ev_pos k0 (ev_opt hm e1)), e2⟩
    · by_cases k1 : kidsT o = 1
      · obtain ⟨r, at', e1, e2⟩ := key (at_ + 1 + 1 + 1) o a 0 0 (by omega) (by omega)
        exact ⟨r, at', st (ev_neg k0 (ev_pos k1 e1)), e2⟩
      · obtain ⟨r, at', e1, e2⟩ := key (at_ + 1 + 1 + 1) o a b 0 (by omega) (by omega)
        exact ⟨r, at', st (ev_neg k0 (ev_neg k1 e1)), e2⟩

theorem ev_l5Bent (l : List Int) (hl : l.length ≤ 1048576 + 1) (hb : Bytes l) (at_ : Int) (h0 : 0 ≤ at_) (h1 : at_ ≤ 100) : ∃ r at', Ev (fun k => spec_l5Bent.f k l at_) (r, at') ∧ r.length ≤ 401 ∧ 0 ≤ at' ∧ at' ≤ 2000 := by
  obtain ⟨n, hn, hnm⟩ := q_l1Pick l hl hb at_ [6, 14, 25, 40, 1] h0 (by omega) (by simp)
  have hnr : 0 ≤ n ∧ n ≤ 40 := by
    simp only [List.mem_cons, List.not_mem_nil, or_false] at hnm
    omega
  obtain ⟨t, a2, hg, hgl, ha0, ha1⟩ := ev_l5Grow_loop l hl hb n.toNat n [] (at_ + 1) rfl (by omega) (by simp; omega) (by omega) (by omega)
  simp only [List.length_nil, Nat.zero_add] at hgl
  have hg2 : Ev (fun k => spec_l5Grow.f k l (at_ + 1) n) (t, a2) := hg
  unfold spec_l5Bent.f
  by_cases hz : (t.length : Int) = 0
  · exact ⟨t, a2, ev_opt hn (Ev.bind hg2 (ev_pos hz (ev_some _))), by omega, ha0, by omega⟩
  · obtain ⟨i, hi, hi0, hi1, _⟩ := q_l1Next l hl hb a2 t.length (by omega) (by omega)
    have hi1 := hi1 (by omega)
    obtain ⟨s, hs, _⟩ := q_l1Next l hl hb (a2 + 1) 24 (by omega) (by omega)
    obtain ⟨s7, hs7, _⟩ := q_l1Next l hl hb (a2 + 1 + 1) 7 (by omega) (by omega)
    obtain ⟨p0, hp0, _⟩ := q_l1Pick l hl hb (a2 + 1 + 1 + 1) [0, 8, wrap64 (1 + s7)] (by omega) (by omega) (by simp)
    obtain ⟨p1, hp1, _⟩ := q_l1Pick l hl hb (a2 + 1 + 1) [-1, i, 0, 4611686018427387904] (by omega) (by omega) (by simp)
    obtain ⟨p2, hp2, _⟩ := q_l1Pick l hl hb (a2 + 1 + 1) [-1, i, 1] (by omega) (by omega) (by simp)
    obtain ⟨p3, hp3, _⟩ := q_l1Pick l hl hb (a2 + 1 + 1) [-1, 10000, 1] (by omega) (by omega) (by simp)
    have st : ∀ {G : Nat → Option (List S50 × Int)} {r : List S50 × Int}, Ev G r → Ev (fun k => (spec_l1Next.f l a2 (t.length : Int)).bind fun _ => G k) r := fun h => ev_opt hi h
    by_cases c0 : s = 0
    · exact ⟨_, _, ev_opt hn (Ev.bind hg2 (ev_neg hz (ev_opt hi (ev_opt hs (ev_pos c0 (ev_opt hs7 (ev_opt hp0 (ev_pos hi0 (ev_pos hi1 (ev_some _)))))))))), by dsimp only; rw [List.length_set]; omega, by omega, by omega⟩
    by_cases c1 : s = 1
    · exact ⟨_, _, ev_opt hn (Ev.bind hg2 (ev_neg hz (ev_opt hi (ev_opt hs (ev_neg c0 (ev_pos c1 (ev_opt hp1 (ev_pos hi0 (ev_pos hi1 (ev_some _)))))))))), by dsimp only; rw [List.length_set]; omega, by omega, by omega⟩
    by_cases c2 : s = 2
    · exact ⟨_, _, ev_opt hn (Ev.bind hg2 (ev_neg hz (ev_opt hi (ev_opt hs (ev_neg c0 (ev_neg c1 (ev_pos c2 (ev_opt hp2 (ev_pos hi0 (ev_pos hi1 (ev_some _))))))))))), by dsimp only; rw [List.length_set]; omega, by omega, by omega⟩
    by_cases c3 : s = 3
    · exact ⟨_, _, ev_opt hn (Ev.bind hg2 (ev_neg hz (ev_opt hi (ev_opt hs (ev_neg c0 (ev_neg c1 (ev_neg c2 (ev_pos c3 (ev_opt hp3 (ev_pos hi0 (ev_pos hi1 (ev_some _)))))))))))), by dsimp only; rw [List.length_set]; omega, by omega, by omega⟩
    by_cases c4 : s = 4
    · exact ⟨_, _, ev_opt hn (Ev.bind hg2 (ev_neg hz (ev_opt hi (ev_opt hs (ev_neg c0 (ev_neg c1 (ev_neg c2 (ev_neg c3 (ev_pos c4 (ev_pos hi0 (ev_pos hi1 (ev_pos (by dsimp only; omega) (ev_some _))))))))))))), by dsimp only; rw [List.length_append, List.length_singleton]; omega, by omega, by omega⟩
    by_cases c5 : s = 5
    · exact ⟨_, _, ev_opt hn (Ev.bind hg2 (ev_neg hz (ev_opt hi (ev_opt hs (ev_neg c0 (ev_neg c1 (ev_neg c2 (ev_neg c3 (ev_neg c4 (ev_pos c5 (ev_pos (by omega) (ev_some _)))))))))))), by rw [List.length_replicate]; omega, by omega, by omega⟩
    · exact ⟨_, _, ev_opt hn (Ev.bind hg2 (ev_neg hz (ev_opt hi (ev_opt hs (ev_neg c0 (ev_neg c1 (ev_neg c2 (ev_neg c3 (ev_neg c4 (ev_neg c5 (ev_some _))))))))))), by dsimp only; omega, by omega, by omega⟩

theorem q_l1Chance (l : List Int) (hl : l.length ≤ 1048576 + 1) (hb : Bytes l) (at_ n : Int) (h0 : 0 ≤ at_) (h1 : at_ ≤ 1099511627776) : ∃ b, spec_l1Chance.f l at_ n = some (b, at_ + 1) := by
  obtain ⟨v, hv, _⟩ := q_l1Next l hl hb at_ n h0 h1
  exact ⟨v == 0, by rw [spec_l1Chance.f, hv]; rfl⟩

theorem q_l1Source (l : List Int) : spec_l1Source.f l = some (l, 0) := rfl

theorem ev_l6Known_loop (l : List Int) (hl : l.length ≤ 1048576 + 1) (hb : Bytes l) (t : List S50) (ht : t.length ≤ 401) : ∀ (d i : Nat) (ks : List Int) (at_ : Int), i + d = t.length → ks.length ≤ i → 0 ≤ at_ → at_ + d ≤ 100000 →
    ∃ r at', Ev (fun k => spec_l6Known.l0 k t ks (i : Nat) l at_) (r, at') ∧ r.length ≤ 1000 ∧ 0 ≤ at' ∧ at' ≤ 200000 := by
  intro d
  induction d with
  | zero =>
    intro i ks at_ hi hk h0 h1
    obtain ⟨s, hs, _⟩ := q_l1Next l hl hb at_ 24 h0 (by omega)
    obtain ⟨p, hp, _⟩ := q_l1Pick l hl hb (at_ + 1) [-1, (t.length : Int), 0] (by omega) (by omega) (by simp)
    have st : ∀ {r : List Int × Int}, Ev (fun k => (spec_l1Next.f l at_ 24).bind fun bt353 => (if bt353.1 = 0 then ((spec_l1Pick.f l bt353.2 ([-1, (t.length : Int), 0] : List Int)).bind fun bt358 => (if ks.length < 17592186044416 then (some ((ks ++ [bt358.1]), bt358.2)) else (none))) else (if bt353.1 = 1 then (if 401 ≤ 35184372088832 then (some ((List.replicate 401 0), bt353.2)) else (none)) else (some (ks, bt353.2))))) r → Ev (fun k => spec_l6Known.l0 k t ks (i : Nat) l at_) r := fun h => Ev.step (fun k => by rw [spec_l6Known.l0, if_neg (by omega)]) h
    by_cases c0 : s = 0
    · exact ⟨_, _, st (ev_opt hs (ev_pos c0 (ev_opt hp (ev_pos (by omega) (ev_some _))))), by simp; omega, by omega, by omega⟩
    · by_cases c1 : s = 1
      · exact ⟨_, _, st (ev_opt hs (ev_neg c0 (ev_pos c1 (ev_pos (by omega) (ev_some _))))), by rw [List.length_replicate]; omega, by omega, by omega⟩
      · exact ⟨_, _, st (ev_opt hs (ev_neg c0 (ev_neg c1 (ev_some _)))), by omega, by omega, by omega⟩
  | succ d ih =>
    intro i ks at_ hi hk h0 h1
    obtain ⟨b, hc⟩ := q_l1Chance l hl hb at_ 4 h0 (by omega)
    have st : ∀ {r : List Int × Int}, Ev (fun k => if b = true then (if ks.length < 17592186044416 then (spec_l6Known.l0 k t (ks ++ [(i : Int)]) ((i + 1 : Nat) : Int) l (at_ + 1)) else (none)) else (spec_l6Known.l0 k t ks ((i + 1 : Nat) : Int) l (at_ + 1))) r → Ev (fun k => spec_l6Known.l0 k t ks (i : Nat) l at_) r := fun h =>
      Ev.step (fun k => by rw [spec_l6Known.l0, if_pos (by omega), w64 (by omega) (by omega)]) (ev_opt hc h)
    cases b with
    | true =>
      obtain ⟨r, at', e1, e2⟩ := ih (i + 1) (ks ++ [(i : Int)]) (at_ + 1) (by omega) (by simp; omega) (by omega) (by omega)
      exact ⟨r, at', st (ev_pos rfl (ev_pos (by omega) e1)), e2⟩
    | false =>
      obtain ⟨r, at', e1, e2⟩ := ih (i + 1) ks (at_ + 1) (by omega) (by omega) (by omega) (by omega)
      exact ⟨r, at', st (ev_neg (by simp) e1), e2⟩
theorem ev_l6Both (l : List Int) (hl : l.length ≤ 1048576 + 1) (hb : Bytes l) : ∃ t ks at', Ev (fun k => spec_l6Both.f k l) (t, ks, l, at') ∧ t.length ≤ 401 ∧ ks.length ≤ 1000 ∧ 0 ≤ at' ∧ at' ≤ 200000 := by
  obtain ⟨t, a1, h1, h2, h3, h4⟩ := ev_l5Bent l hl hb 0 (by omega) (by omega)
  obtain ⟨ks, a2, g1, g2, g3, g4⟩ := ev_l6Known_loop l hl hb t h2 t.length 0 [] a1 (by omega) (by simp) h3 (by omega)
  refine ⟨t, ks, a2, ?_, h2, g2, g3, g4⟩
  unfold spec_l6Both.f
  exact ev_opt (q_l1Source l) (Ev.bind h1 (Ev.bind (show Ev (fun k => spec_l6Known.f k l a1 t) (ks, a2) from g1) (ev_some _)))

theorem ev_DrawOpenAll (l : List Int) (hl : l.length ≤ 1048576 + 1) (hb : Bytes l) : ∃ t ks, Ev (fun k => spec_DrawOpenAll.f k l) (t, ks) ∧ t.length ≤ 401 ∧ ks.length ≤ 1000 := by
  obtain ⟨t, ks, at_, h1, h2, h3, h4, h5⟩ := ev_l6Both l hl hb
  refine ⟨t, ks, ?_, h2, h3⟩
  unfold spec_DrawOpenAll.f spec_DrawKnownFault.f
  exact Ev.bind (Ev.bind h1 (ev_some _)) (ev_some _)

theorem ev_lwHas (l : List Int) (x : Int) (hl : l.length ≤ 1048576) : Ev (fun k => laws_lwHas.f k l x) (decide (x ∈ l)) := by
  have key : ∀ i, i ≤ l.length → Ev (fun k => laws_lwHas.l0 k l x (i : Nat)) (decide (x ∈ l.drop i)) := by
    refine down l.length ?_ ?_
    · rw [List.drop_length]
      refine Ev.step (fun k => by rw [laws_lwHas.l0, if_neg (by omega)]) ?_
      exact ev_to (ev_some _) (by simp)
    · intro i hi ih
      rw [List.drop_eq_getElem_cons hi]
      refine Ev.step (fun k => by rw [laws_lwHas.l0, if_pos (by omega), if_pos (by omega), rd_nat l i hi, w64 (by omega) (by omega)]) ?_
      by_cases h : l[i] = x
      · exact ev_pos h (ev_to (ev_some _) (by simp [h]))
      · exact ev_neg h (ev_to ih (by rw [decide_eq_decide, List.mem_cons]; exact ⟨.inr, fun e => e.resolve_left (fun z => h z.symm)⟩))
  have h := key 0 (by omega)
  rw [List.drop_zero] at h
  exact h

theorem ev_lwNums_refl (l : List Int) (hl : l.length ≤ 1048576) : Ev (fun k => laws_lwNums.f k l l) true := by
  unfold laws_lwNums.f
  refine ev_pos rfl (count_loop (fun k i => laws_lwNums.l0 k l l i) l.length true (fun k => by rw [laws_lwNums.l0, if_neg (by omega)]) (fun k i h => by rw [laws_lwNums.l0, if_pos (by omega), if_pos (by omega), if_pos (by omega), if_pos rfl, w64 (by omega) (by omega)]; rfl))

theorem q_lwBig (l : List Int) : laws_lwBig.f l = some (decide ((l.length : Int) > 1048576)) := rfl

theorem opens_j3 (t : List S50) (ks os : List Int) (htf : termsF t = 0) (ht : t.length ≤ 401) (hr : ∀ x ∈ os, 0 ≤ x ∧ x < (t.length : Int)) (hcl : ClT t (inL os)) (i : Nat) (hi : i < t.length) (c : Int) (ih : Ev (fun k => laws_FnOpens.l1 k t ks ((i + 1 : Nat) : Int) c (dL t os)) true) :
    Ev (fun k => laws_FnOpens.j3 k t ks (i : Int) (decide ((i : Int) ∈ dL t os)) false c (dL t os) (rd_T50 t (i : Int)).f0 (rd_T50 t (i : Int)).f1 (rd_T50 t (i : Int)).f2 (rd_T50 t (i : Int)).f3) true := by
  have hlen := dL_len t os
  obtain ⟨r1, r2, r3⟩ := refs htf i hi
  have hD : ClT t (DrT t (inL os)) := closed_Dr hcl
  have ih' : Ev (fun k => laws_FnOpens.l1 k t ks (wrap64 ((i : Int) + 1)) c (dL t os)) true := by
    rw [w64 (by omega) (by omega)]
    exact ih
  have mem : ∀ j : Nat, (j : Int) ∈ dL t os ↔ j < t.length ∧ DrT t (inL os) j := dL_mem htf hr
  refine Ev.step (fun k => by rw [laws_FnOpens.j3, if_neg (by simp)]) (Ev.bind (ev_lwHas (dL t os) _ (by omega)) (Ev.bind (ev_lwHas (dL t os) _ (by omega)) ?_))
  by_cases c3 : opT t i = 3
  · obtain ⟨e1, l1⟩ := r2 (.inl c3)
    obtain ⟨e2, l2⟩ := r3 (.inl c3)
    refine ev_pos c3 ?_
    rw [e1, e2]
    have key : (i : Int) ∈ dL t os ↔ (aT t i : Int) ∈ dL t os ∧ (bT t i : Int) ∈ dL t os := by
      rw [mem, mem, mem]
      constructor
      · rintro ⟨_, d⟩
        exact ⟨⟨by omega, ((hD i d).1 c3).1⟩, ⟨by omega, ((hD i d).1 c3).2⟩⟩
      · rintro ⟨⟨_, d1⟩, ⟨_, d2⟩⟩
        exact ⟨hi, .pair (.inl c3) d1 d2⟩
    by_cases h1 : (aT t i : Int) ∈ dL t os
    · refine ev_pos (decide_eq_true h1) (ev_neg ?_ ih')
      by_cases h2 : (bT t i : Int) ∈ dL t os
      · simp [key, h1, h2]
      · simp [key, h1, h2]
    · refine ev_neg (by simp [h1]) (ev_neg ?_ ih')
      simp [key, h1]
  refine ev_neg c3 ?_
  by_cases c5 : opT t i = 5
  · obtain ⟨e1, l1⟩ := r2 (.inr (.inr (.inl c5)))
    obtain ⟨e2, l2⟩ := r3 (.inr (.inr (.inl c5)))
    refine ev_pos c5 ?_
    rw [e1, e2]
    by_cases h0 : (i : Int) ∈ dL t os
    · refine ev_pos (decide_eq_true h0) ?_
      by_cases h1 : (aT t i : Int) ∈ dL t os
      · refine ev_pos (decide_eq_true h1) (ev_pos (decide_eq_true ?_) ih')
        exact (mem _).2 ⟨by omega, (hD i ((mem i).1 h0).2).2 c5 (.known ((mem _).1 h1).2)⟩
      · exact ev_neg (by simp [h1]) ih'
    · refine ev_neg (by simp [h0]) ?_
      by_cases h1 : (aT t i : Int) ∈ dL t os
      · refine ev_pos (decide_eq_true h1) (ev_neg ?_ ih')
        intro h2
        exact h0 ((mem i).2 ⟨hi, .pair (.inr (.inr c5)) ((mem _).1 h1).2 ((mem _).1 (of_decide_eq_true h2)).2⟩)
      · exact ev_neg (by simp [h1]) ih'
  refine ev_neg c5 ?_
  by_cases c4 : opT t i = 4
  · obtain ⟨e1, l1⟩ := r2 (.inr (.inl c4))
    obtain ⟨e2, l2⟩ := r3 (.inr (.inl c4))
    refine ev_pos c4 ?_
    rw [e1, e2]
    by_cases h1 : (aT t i : Int) ∈ dL t os
    · refine ev_pos (decide_eq_true h1) ?_
      by_cases h2 : (bT t i : Int) ∈ dL t os
      · refine ev_pos (decide_eq_true h2) (ev_pos (decide_eq_true ?_) ih')
        exact (mem i).2 ⟨hi, .pair (.inr (.inl c4)) ((mem _).1 h1).2 ((mem _).1 h2).2⟩
      · exact ev_neg (by simp [h2]) ih'
    · exact ev_neg (by simp [h1]) ih'
  refine ev_neg c4 ?_
  by_cases c6 : opT t i = 6
  · obtain ⟨e1, l1⟩ := r2 (.inr (.inr (.inr (.inl c6))))
    refine ev_pos c6 ?_
    rw [e1]
    by_cases h1 : (aT t i : Int) ∈ dL t os
    · refine ev_pos (decide_eq_true h1) (ev_pos (decide_eq_true ?_) ih')
      exact (mem i).2 ⟨hi, .half c6 ((mem _).1 h1).2⟩
    · exact ev_neg (by simp [h1]) ih'
  refine ev_neg c6 ?_
  by_cases c1 : opT t i = 1
  · exact ev_pos c1 (ev_pos (decide_eq_true ((mem i).2 ⟨hi, .name c1⟩)) ih')
  · exact ev_neg c1 ih'
theorem FnOpens : laws_FnOpens.Pure := by
  intro l _ _ hw
  apply Ev.rounds
  unfold laws_FnOpens.f
  refine ev_opt (q_lwBig l) ?_
  by_cases hl : l.length ≤ 1048576
  · refine ev_neg (by simp; omega) ?_
    obtain ⟨t, ks, hD, ht, hkl⟩ := ev_DrawOpenAll l (by omega) (bytes_wf hw)
    refine Ev.bind hD ?_
    dsimp only
    obtain ⟨r0, hs0, hi0, hr0⟩ := ev_openBoth t (by omega) ks (by omega)
    refine Ev.bind hi0 ?_
    by_cases c : knownF t ks = 0
    · obtain ⟨os, d1, d2, d3, d4, d5, d6, d7⟩ := ev_dSome t (by omega) ks c
      obtain ⟨htf, h4, hkr⟩ := knownF_ok c
      have hO := ev_impl_OpenAll t (by omega) ks os (by omega) d5 d6 (fun _ => d3)
      unfold opF at hO
      rw [if_pos c] at hO
      obtain rfl : r0 = (0, os) := Ev.unique hi0 hO
      have hol : os.length ≤ 1048576 := by have := ris_len os 0 t.length d5 d6; omega
      have c2 : knownF t os = 0 := knownF_of htf d5 d6
      obtain ⟨ps, e1, e2, e3, e4, e5, e6, e7⟩ := ev_dSome t (by omega) os c2
      have hcl : ClT t (OpT t (inL ks)) := OpF.closed _ _ _ _
      have hcl' : ClT t (inL os) := by
        intro i hi
        obtain ⟨x1, x2⟩ := hcl i ((d7 i).1 hi)
        exact ⟨fun e => ⟨(d7 _).2 (x1 e).1, (d7 _).2 (x1 e).2⟩, fun e hd => (d7 _).2 (x2 e (DrT.mono (fun j => (d7 j).1) hd))⟩
      have hps : ps = os := ris_ext e5 d5 (fun x => by
        constructor
        · intro hx
          obtain ⟨i, rfl⟩ := Int.eq_ofNat_of_zero_le (e6 x hx).1
          exact (e7 i).1 hx _ (fun _ h => h) hcl'
        · intro hx
          obtain ⟨i, rfl⟩ := Int.eq_ofNat_of_zero_le (d6 x hx).1
          exact (e7 i).2 (OpF.sub hx))
      subst hps
      have hO2 := ev_impl_OpenAll t (by omega) ps ps (by omega) d5 d6 (fun _ => e3)
      unfold opF at hO2
      rw [if_pos c2] at hO2
      have hlen := dL_len t ps
      refine ev_pos rfl (Ev.bind d1 (Ev.bind hO2 (Ev.bind (ev_lwNums_refl ps (by omega)) (ev_pos rfl (Ev.bind e1 (Ev.bind (ev_lwNums_refl (dL t ps) (by omega)) (ev_pos rfl (Ev.bind d2 ?_))))))))
      refine Ev.step (fun k => by rw [laws_FnOpens.j0, if_neg (by simp)]) ?_
      have key1 : ∀ i, i ≤ t.length → Ev (fun k => laws_FnOpens.l1 k t ks (i : Nat) 0 (dL t ps)) true := by
        refine down t.length ?_ ?_
        · exact Ev.step (fun k => by rw [laws_FnOpens.l1, if_neg (by omega)]) (ev_some _)
        · intro i hi ih
          refine Ev.step (fun k => by rw [laws_FnOpens.l1, if_pos (by omega), if_pos (by omega)]) (Ev.bind (ev_lwHas (dL t ps) _ (by omega)) (Ev.bind (d4 i) ?_))
          rw [derF_eq c d6 i hi]
          refine ev_neg (by simp) (Ev.bind (ev_impl_IsSecret t (by omega) ks ps (by omega) i (fun _ => d3)) ?_)
          have hsec : (decide ((i : Int) ∈ dL t ps) == secF t ks ps (i : Int)) = false := by
            have hd := derF_eq c d6 i hi
            unfold derF at hd
            rw [if_pos c, if_pos (by omega)] at hd
            unfold secF
            rw [if_pos c, if_pos (by omega), hd]
            cases decide ((i : Int) ∈ dL t ps) <;> rfl
          rw [hsec]
          exact opens_j3 t ks ps htf ht d6 hcl' i hi 0 ih
      have key0 : ∀ i, i ≤ ps.length → Ev (fun k => laws_FnOpens.l0 k t ks (i : Nat) 0 ps 0 (dL t ps)) true := by
        refine down ps.length ?_ ?_
        · exact Ev.step (fun k => by rw [laws_FnOpens.l0, if_neg (by omega)]; rfl) (key1 0 (by omega))
        · intro i hi ih
          refine Ev.step (fun k => by rw [laws_FnOpens.l0, if_pos (by omega), if_pos (by omega), rd_nat _ i hi, w64 (by omega) (by omega)]) (Ev.bind (ev_lwHas (dL t ps) _ (by omega)) ?_)
          refine ev_pos (decide_eq_true ?_) ih
          have hm := List.getElem_mem hi
          obtain ⟨j, hj⟩ := Int.eq_ofNat_of_zero_le (d6 _ hm).1
          rw [hj] at hm ⊢
          have := (d6 _ hm).2
          exact (dL_mem htf d6 j).2 ⟨by omega, .known hm⟩
      exact key0 0 (by omega)
    · have hne : r0.1 ≠ 0 ∧ Ev (fun k => spec_OpenAll.f k t ks) r0 := by
        have := ev_impl_OpenAll t (by omega) ks [] (by omega) List.Pairwise.nil (by simp) (fun hc => absurd hc c)
        unfold opF at this
        rw [if_neg c] at this
        obtain rfl := Ev.unique hi0 this
        exact ⟨c, hs0⟩
      exact ev_neg hne.1 (Ev.bind hs0 (ev_to (ev_some _) (by simp)))
  · exact ev_pos (by simp; omega) (ev_some _)

end Go.Proofs.Ytidfgmekhededaa.Pure
