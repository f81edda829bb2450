/- Proved: the law FnExactCheckWords answers true at every input that Go can hand in (it says: The program's CheckWords returns what the reference's returns, for all arguments.) No condition beyond the statement's own. -/
import Derived.Test.YtfggalllhcohaaaPFnExactCheckWordsx1
namespace Go.Proofs.Ytfggalllhcohaaa.Pure
open Go.RowKit Go.Proofs.Ytfggalllhcohaaa.PFnExactCheckWords Go.Proofs.YtfggalllhcohaaaW.PrintWords Go.Proofs.YtfggalllhcohaaaW.PrintLast Go.Proofs.YtfggalllhcohaaaW.PrintMore
set_option linter.unusedVariables false
set_option linter.unusedSimpArgs false

theorem w64 {x : Int} (h0 : -9223372036854775808 ≤ x) (h1 : x ≤ 9223372036854775807) : wrap64 x = x := by
  unfold wrap64
  omega
theorem tmod_pos {a b : Int} (h : 0 ≤ a) : Int.tmod a b = a % b := Int.tmod_eq_emod_of_nonneg h
theorem tdiv_pos {a b : Int} (h : 0 ≤ a) : Int.tdiv a b = a / b := Int.tdiv_eq_ediv_of_nonneg h
theorem ev_some {α : Type} (r : α) : Ev (fun _ => some r) r := Ev.now r
theorem ev_pos {α : Type} {c : Prop} [Decidable c] {A B : Nat → Option α} {r : α} (h : c) (e : Ev A r) : Ev (fun k => if c then A k else B k) r := by
  simpa only [if_pos h] using e
theorem ev_neg {α : Type} {c : Prop} [Decidable c] {A B : Nat → Option α} {r : α} (h : ¬ c) (e : Ev B r) : Ev (fun k => if c then A k else B k) r := by
  simpa only [if_neg h] using e
theorem ev_opt {α β : Type} {o : Option α} {f : Nat → α → Option β} {a : α} {r : β} (h : o = some a) (e : Ev (fun n => f n a) r) : Ev (fun n => o.bind (f n)) r := by
  simpa only [h, Option.bind_some] using e
theorem ev_to {α : Type} {g : Nat → Option α} {r r' : α} (e : Ev g r) (h : r = r') : Ev g r' := h ▸ e
theorem ev_fix {α : Type} {o : Option α} {r : α} (h : o = some r) : Ev (fun _ => o) r := ⟨0, fun _ _ => h⟩
theorem rd_nat (l : List Int) (i : Nat) (h : i < l.length) : rd l (i : Int) = l[i] := by
  unfold rd
  simp [List.getD_eq_getElem?_getD, h]
theorem rd_mem (l : List Int) (i : Int) (h0 : 0 ≤ i) (h : i < l.length) : rd l i ∈ l := by
  obtain ⟨n, rfl⟩ := Int.eq_ofNat_of_zero_le h0
  rw [rd_nat l n (by omega)]
  exact List.getElem_mem _
theorem u8_range {x : Int} (h : (Lit.int .u8 x).wf = true) : 0 ≤ x ∧ x ≤ 255 := by
  simp [Lit.wf, IntKind.min, IntKind.max, IntKind.signed, IntKind.bits] at h
  omega
theorem i64_range {x : Int} (h : (Lit.int .i64 x).wf = true) : -9223372036854775808 ≤ x ∧ x ≤ 9223372036854775807 := by
  simp [Lit.wf, IntKind.min, IntKind.max, IntKind.signed, IntKind.bits] at h
  omega
theorem set_mid {α : Type} (a : List α) (x : α) (b : List α) (y : α) : (a ++ x :: b).set a.length y = a ++ y :: b := by simp
theorem take_full {α : Type} {a b : List α} (hl : b.length = a.length) (ht : b.take a.length = a.take a.length) : b = a := by
  rw [List.take_of_length_le (by omega), List.take_of_length_le (by omega)] at ht
  exact ht
theorem take_next {α : Type} {a b : List α} {i : Nat} (ha : i < a.length) (hb : i < b.length) (ht : b.take i = a.take i) (hx : b[i] = a[i]) : b.take (i + 1) = a.take (i + 1) := by
  rw [List.take_succ_eq_append_getElem ha, List.take_succ_eq_append_getElem hb, ht, hx]
theorem ev_cond {α : Type} {c : Prop} [Decidable c] {A B : Nat → Option α} {r r' : α} (hp : c → Ev A r) (hn : ¬ c → Ev B r') : Ev (fun k => if c then A k else B k) (if c then r else r') := by
  by_cases h : c
  · rw [if_pos h]; exact ev_pos h (hp h)
  · rw [if_neg h]; exact ev_neg h (hn h)
theorem set_take {α : Type} {a b : List α} {i : Nat} {x : α} (h : i < a.length) (hl : b.length = a.length) (ht : b.take i = a.take i) (hx : x = a[i]) : (b.set i x).take (i + 1) = a.take (i + 1) := by
  refine take_next h (by simp; omega) ?_ (by simp [hx])
  rw [← ht]
  apply List.ext_getElem?
  intro j
  simp only [List.getElem?_take, List.getElem?_set]
  by_cases hj : j < i
  · rw [if_pos hj, if_pos hj, if_neg (by omega)]
  · rw [if_neg hj, if_neg hj]
theorem ev_succ {α : Type} {g : Nat → Option α} {r : α} (h : ∀ k, g (k + 1) = some r) : Ev g r := Ev.step h (ev_some r)

def ws (l : List Int) : Nat → Int
  | 0 => 0
  | n + 1 => ws l n + (if n % 2 = 0 then 256 * rd l n else rd l n)
theorem ws_range {l : List Int} (hb : ∀ x ∈ l, 0 ≤ x ∧ x ≤ 255) : ∀ n : Nat, n ≤ l.length → 0 ≤ ws l n ∧ ws l n ≤ 65280 * n := by
  intro n
  induction n with
  | zero => intro _; simp [ws]
  | succ n ih =>
    intro hn
    have h1 := ih (by omega)
    have h2 := hb _ (rd_mem l n (by omega) (by omega))
    rw [ws]
    split <;> omega

def foldv (n : Int) : Int := if n ≤ 65535 then n else (n - 1) % 65535 + 1
theorem foldv_step (n : Int) (h : 65536 ≤ n) : foldv (n % 65536 + n / 65536) = foldv n := by
  unfold foldv
  split <;> split <;> omega
theorem foldv_low {n : Int} (h : n ≤ 65535) : foldv n = n := by
  unfold foldv
  rw [if_pos h]
theorem foldv_range {n : Int} (h : 0 ≤ n) : 0 ≤ foldv n ∧ foldv n ≤ 65535 := by
  unfold foldv
  split <;> omega
theorem foldv_add (a b : Int) (ha : 0 ≤ a) (hb : 0 ≤ b) : foldv (foldv a + b) = foldv (a + b) := by
  unfold foldv
  repeat' split
  all_goals omega

theorem ev_impl_fold : ∀ (d : Nat) (n : Int), 0 ≤ n → n < d → n ≤ 4611686018427387904 → Ev (fun k => impl_fold.l0 k n) (foldv n) := by
  intro d
  induction d with
  | zero => intro n h0 hd; omega
  | succ d ih =>
    intro n h0 hd hb
    by_cases h : n ≥ 65536
    · refine Ev.step (fun k => by rw [impl_fold.l0, if_pos h]) ?_
      rw [tmod_pos h0, tdiv_pos h0, w64 (x := n / 65536) (by omega) (by omega), w64 (by omega) (by omega), ← foldv_step n h]
      exact ih _ (by omega) (by omega) (by omega)
    · refine Ev.step (fun k => by rw [impl_fold.l0, if_neg h]) ?_
      rw [foldv_low (by omega)]
      exact ev_some n
theorem ev_impl_fold_f {n : Int} (h0 : 0 ≤ n) (hb : n ≤ 4611686018427387904) : Ev (fun k => impl_fold.f k n) (foldv n) :=
  ev_impl_fold (n.toNat + 1) n h0 (by omega) hb

theorem ev_impl_SumWords_loop (l : List Int) (hl : l.length ≤ 68719476736) (hb : ∀ x ∈ l, 0 ≤ x ∧ x ≤ 255) : ∀ (d i : Nat), i + d = l.length → Ev (fun k => impl_SumWords.l0 k (ws l i) l l.length i) (65535 - foldv (ws l l.length)) := by
  intro d
  induction d with
  | zero =>
    intro i hi
    obtain rfl : i = l.length := by omega
    have h := ws_range hb l.length (by omega)
    have hf := foldv_range h.1
    refine Ev.step (fun k => by rw [impl_SumWords.l0, if_neg (by omega)]) ?_
    refine Ev.bind (ev_impl_fold_f h.1 (by omega)) ?_
    rw [w64 (by omega) (by omega)]
    exact ev_some _
  | succ d ih =>
    intro i hi
    have h := ws_range hb i (by omega)
    have hx := hb _ (rd_mem l i (by omega) (by omega))
    have e : Int.tmod (i : Int) 2 = (i : Int) % 2 := tmod_pos (by omega)
    have hs := ih (i + 1) (by omega)
    rw [ws] at hs
    by_cases hp : i % 2 = 0
    · refine Ev.step (fun k => by rw [impl_SumWords.l0, if_pos (by omega), if_pos (by omega), if_pos (by omega), if_pos (by omega)]) ?_
      rw [if_pos hp] at hs
      rw [w64 (x := rd l i) (by omega) (by omega), w64 (x := 256 * rd l i) (by omega) (by omega), w64 (x := (i : Int) + 1) (by omega) (by omega), w64 (by omega) (by omega)]
      exact hs
    · refine Ev.step (fun k => by rw [impl_SumWords.l0, if_pos (by omega), if_pos (by omega), if_pos (by omega), if_neg (by omega)]) ?_
      rw [if_neg hp] at hs
      rw [w64 (x := rd l i) (by omega) (by omega), w64 (x := (i : Int) + 1) (by omega) (by omega), w64 (by omega) (by omega)]
      exact hs
theorem ev_impl_SumWords {l : List Int} (hl : l.length ≤ 68719476736) (hb : ∀ x ∈ l, 0 ≤ x ∧ x ≤ 255) : Ev (fun k => impl_SumWords.f k l) (65535 - foldv (ws l l.length)) :=
  ev_impl_SumWords_loop l hl hb l.length 0 (by omega)

theorem ev_spec_l1Fold : ∀ (d : Nat) (n : Int), 0 ≤ n → n < d → n ≤ 4611686018427387904 → Ev (fun k => spec_l1Fold.l0 k n) (foldv n) := by
  intro d
  induction d with
  | zero => intro n h0 hd; omega
  | succ d ih =>
    intro n h0 hd hb
    by_cases h : n > 65535
    · refine Ev.step (fun k => by rw [spec_l1Fold.l0, if_pos h]) ?_
      rw [tmod_pos h0, tdiv_pos h0, w64 (x := n / 65536) (by omega) (by omega), w64 (by omega) (by omega), ← foldv_step n (by omega)]
      exact ih _ (by omega) (by omega) (by omega)
    · refine Ev.step (fun k => by rw [spec_l1Fold.l0, if_neg h]) ?_
      rw [foldv_low (by omega)]
      exact ev_some n
theorem ev_spec_l1Fold_f {n : Int} (h0 : 0 ≤ n) (hb : n ≤ 4611686018427387904) : Ev (fun k => spec_l1Fold.f k n) (foldv n) :=
  ev_spec_l1Fold (n.toNat + 1) n h0 (by omega) hb

theorem ev_spec_SumWords_loop (l : List Int) (hl : l.length ≤ 68719476736) (hb : ∀ x ∈ l, 0 ≤ x ∧ x ≤ 255) : ∀ (d i : Nat), l.length ≤ i + d → i ≤ l.length + 1 → i % 2 = 0 → (i = l.length + 1 → l.length % 2 = 1) → Ev (fun k => spec_SumWords.l0 k l (foldv (ws l (min i l.length))) i) (65535 - foldv (ws l l.length)) := by
  intro d
  induction d using Nat.strongRecOn with
  | _ d ih =>
    intro i hd hi hp hq
    by_cases hlt : i < l.length
    · have h := ws_range hb i (by omega)
      have hf := foldv_range h.1
      have hx := hb _ (rd_mem l i (by omega) (by omega))
      have e0 : min i l.length = i := by omega
      have hs := ih (d - 1) (by omega) (i + 2) (by omega) (by omega) (by omega) (by omega)
      have hw : ws l (i + 1) = ws l i + 256 * rd l i := by rw [ws, if_pos hp]
      have c1 : wrap64 ((i : Int) + 1) = (i : Int) + 1 := w64 (by omega) (by omega)
      have c2 : wrap64 ((i : Int) + 2) = (i : Int) + 2 := w64 (by omega) (by omega)
      rw [e0]
      by_cases hl2 : i + 1 < l.length
      · have hy := hb _ (rd_mem l ((i : Int) + 1) (by omega) (by omega))
        have hw2 : ws l (i + 2) = ws l i + 256 * rd l i + rd l ((i : Int) + 1) := by
          rw [ws, if_neg (by omega), hw]
          rfl
        refine Ev.step (fun k => by rw [spec_SumWords.l0, if_pos (by omega), if_pos (by omega), c1, if_pos (by omega), if_pos (by omega)]) ?_
        rw [w64 (x := rd l i) (by omega) (by omega), w64 (x := 256 * rd l i) (by omega) (by omega), w64 (x := rd l ((i : Int) + 1)) (by omega) (by omega), w64 (x := foldv (ws l i) + 256 * rd l i) (by omega) (by omega), w64 (by omega) (by omega), c2]
        refine Ev.bind (ev_spec_l1Fold_f (by omega) (by omega)) ?_
        rw [show foldv (ws l i) + 256 * rd l i + rd l ((i : Int) + 1) = foldv (ws l i) + (256 * rd l i + rd l ((i : Int) + 1)) from by omega, foldv_add _ _ h.1 (by omega)]
        rw [show min (i + 2) l.length = i + 2 from by omega, hw2] at hs
        rw [show ws l i + (256 * rd l i + rd l ((i : Int) + 1)) = ws l i + 256 * rd l i + rd l ((i : Int) + 1) from by omega]
        exact hs
      · refine Ev.step (fun k => by rw [spec_SumWords.l0, if_pos (by omega), if_pos (by omega), c1, if_neg (by omega)]) ?_
        rw [w64 (x := rd l i) (by omega) (by omega), w64 (x := 256 * rd l i) (by omega) (by omega), w64 (by omega) (by omega), c2]
        refine Ev.bind (ev_spec_l1Fold_f (by omega) (by omega)) ?_
        rw [foldv_add _ _ h.1 (by omega)]
        rw [show min (i + 2) l.length = i + 1 from by omega, hw] at hs
        exact hs
    · have h := ws_range hb l.length (by omega)
      have hf := foldv_range h.1
      refine Ev.step (fun k => by rw [spec_SumWords.l0, if_neg (by omega)]) ?_
      rw [show min i l.length = l.length from by omega, w64 (by omega) (by omega)]
      exact ev_some _
theorem ev_spec_SumWords {l : List Int} (hl : l.length ≤ 68719476736) (hb : ∀ x ∈ l, 0 ≤ x ∧ x ≤ 255) : Ev (fun k => spec_SumWords.f k l) (65535 - foldv (ws l l.length)) := by
  have h := ev_spec_SumWords_loop l hl hb l.length 0 (by omega) (by omega) (by omega) (by omega)
  rw [Nat.zero_min, show ws l 0 = 0 from rfl, foldv_low (by omega)] at h
  exact h

theorem ev_toByteS_loop (a : List Int) (hn : a.length ≤ 140737488355328) : ∀ (d i : Nat) (b : List Int), i + d = a.length → b.length = a.length → b.take i = a.take i → Ev (fun k => laws_toByteS.l0 k a b i) a := by
  intro d
  induction d with
  | zero =>
    intro i b hi hl ht
    refine Ev.step (fun k => by rw [laws_toByteS.l0, if_neg (by omega)]) ?_
    obtain rfl : i = a.length := by omega
    rw [take_full hl ht]
    exact ev_some a
  | succ d ih =>
    intro i b hi hl ht
    refine Ev.step (fun k => by rw [laws_toByteS.l0, if_pos (by omega), if_pos (by omega), if_pos (by omega)]) ?_
    rw [w64 (by omega) (by omega), Int.toNat_natCast]
    exact ih (i + 1) _ (by omega) (by simpa using hl) (set_take (by omega) hl ht (rd_nat a i (by omega)))
theorem ev_toByteS {a : List Int} (hn : a.length ≤ 140737488355328) : Ev (fun k => laws_toByteS.f k a) a := by
  unfold laws_toByteS.f
  refine ev_pos (by omega) (ev_pos (by omega) ?_)
  exact ev_toByteS_loop a hn a.length 0 _ (by omega) (by simp) (by simp)

theorem ev_eqByteS_loop (a b : List Int) (hn : a.length ≤ 140737488355328) (hl : b.length = a.length) : ∀ (d i : Nat), i + d = a.length → b.take i = a.take i → Ev (fun k => laws_eqByteS.l0 k a b i) (decide (a = b)) := by
  intro d
  induction d with
  | zero =>
    intro i hi ht
    refine Ev.step (fun k => by rw [laws_eqByteS.l0, if_neg (by omega)]) ?_
    obtain rfl : i = a.length := by omega
    rw [take_full hl ht]
    simpa using ev_some true
  | succ d ih =>
    intro i hi ht
    by_cases he : rd a i = rd b i
    · refine Ev.step (fun k => by rw [laws_eqByteS.l0, if_pos (by omega), if_pos (by omega), if_pos (by omega), if_pos he]) ?_
      rw [w64 (by omega) (by omega)]
      rw [rd_nat a i (by omega), rd_nat b i (by omega)] at he
      exact ih (i + 1) (by omega) (take_next (by omega) (by omega) ht he.symm)
    · refine Ev.step (fun k => by rw [laws_eqByteS.l0, if_pos (by omega), if_pos (by omega), if_pos (by omega), if_neg he]) ?_
      have : a ≠ b := fun h => he (by rw [h])
      simpa [this] using ev_some false
theorem ev_eqByteS {a b : List Int} (hn : a.length ≤ 140737488355328) : Ev (fun k => laws_eqByteS.f k a b) (decide (a = b)) := by
  unfold laws_eqByteS.f
  by_cases h : (a.length : Int) = b.length
  · exact ev_pos h (ev_eqByteS_loop a b hn (by omega) a.length 0 (by omega) (by simp))
  · refine ev_neg h ?_
    have : a ≠ b := fun h' => h (by rw [h'])
    simpa [this] using ev_some false
theorem ev_eqByteS_refl {a : List Int} (hn : a.length ≤ 140737488355328) : Ev (fun k => laws_eqByteS.f k a a) true := by
  simpa using ev_eqByteS (b := a) hn

theorem FnExactCheckWords : laws_FnExactCheckWords.Pure := by
  intro l _ _ hw
  apply Ev.rounds
  unfold laws_FnExactCheckWords.f
  by_cases h : (l.length : Int) > 1048576
  · exact ev_pos h (ev_some _)
  · have hb : ∀ x ∈ l, 0 ≤ x ∧ x ≤ 255 := fun x hx => u8_range (hw x hx)
    refine ev_neg h (Ev.bind (ev_toByteS (by omega)) (Ev.bind (Ev.bind (ev_spec_SumWords (by omega) hb) (ev_some _)) (Ev.bind (ev_toByteS (by omega)) (Ev.bind (Ev.bind (ev_impl_SumWords (by omega) hb) (ev_some _)) ?_))))
    refine ev_neg (by simp) (Ev.bind (ev_toByteS (by omega)) (Ev.bind (ev_eqByteS_refl (by omega)) (ev_pos rfl (ev_some _))))

end Go.Proofs.Ytfggalllhcohaaa.Pure
