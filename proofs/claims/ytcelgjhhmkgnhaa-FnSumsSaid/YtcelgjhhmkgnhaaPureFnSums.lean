/- Proved: the law FnSums answers true at every input that Go can hand in (it says: with its sum behind it an even number of bytes is seen to be whole. (P2, P1)) No condition beyond the statement's own. -/
import Derived.Test.YtcelgjhhmkgnhaaPFnSumsx2
namespace Go.Proofs.Ytcelgjhhmkgnhaa.Pure
open Go.RowKit Go.Proofs.Ytcelgjhhmkgnhaa.PFnSums Go.Proofs.YtcelgjhhmkgnhaaW.PrintWords Go.Proofs.YtcelgjhhmkgnhaaW.PrintLast Go.Proofs.YtcelgjhhmkgnhaaW.PrintMore
set_option linter.unusedVariables false
set_option linter.unusedSimpArgs false

theorem w64 {x : Int} (h0 : -9223372036854775808 ≤ x) (h1 : x ≤ 9223372036854775807) : wrap64 x = x := by
  unfold wrap64
  omega
theorem tmod_pos {a b : Int} (h : 0 ≤ a) : Int.tmod a b = a % b := Int.tmod_eq_emod_of_nonneg h
theorem tdiv_pos {a b : Int} (h : 0 ≤ a) : Int.tdiv a b = a / b := Int.tdiv_eq_ediv_of_nonneg h
theorem ev_some {α : Type} (r : α) : Ev (fun _ => some r) r := Ev.now r
theorem ev_pos {α : Type} {c : Prop} [Decidable c] {A B : Nat → Option α} {r : α} (h : c) (e : Ev A r) : Ev (fun k => if c then A k else B k) r := by
  simpa only [if_pos h] using e
theorem ev_neg {α : Type} {c : Prop} [Decidable c] {A B : Nat → Option α} {r : α} (h : ¬ c) (e : Ev B r) : Ev (fun k => if c then A k else B k) r := by
  simpa only [if_neg h] using e
theorem ev_opt {α β : Type} {o : Option α} {f : Nat → α → Option β} {a : α} {r : β} (h : o = some a) (e : Ev (fun n => f n a) r) : Ev (fun n => o.bind (f n)) r := by
  simpa only [h, Option.bind_some] using e
theorem ev_to {α : Type} {g : Nat → Option α} {r r' : α} (e : Ev g r) (h : r = r') : Ev g r' := h ▸ e
theorem ev_fix {α : Type} {o : Option α} {r : α} (h : o = some r) : Ev (fun _ => o) r := ⟨0, fun _ _ => h⟩
theorem rd_nat (l : List Int) (i : Nat) (h : i < l.length) : rd l (i : Int) = l[i] := by
  unfold rd
  simp [List.getD_eq_getElem?_getD, h]
theorem rd_mem (l : List Int) (i : Int) (h0 : 0 ≤ i) (h : i < l.length) : rd l i ∈ l := by
  obtain ⟨n, rfl⟩ := Int.eq_ofNat_of_zero_le h0
  rw [rd_nat l n (by omega)]
  exact List.getElem_mem _
theorem u8_range {x : Int} (h : (Lit.int .u8 x).wf = true) : 0 ≤ x ∧ x ≤ 255 := by
  simp [Lit.wf, IntKind.min, IntKind.max, IntKind.signed, IntKind.bits] at h
  omega
theorem i64_range {x : Int} (h : (Lit.int .i64 x).wf = true) : -9223372036854775808 ≤ x ∧ x ≤ 9223372036854775807 := by
  simp [Lit.wf, IntKind.min, IntKind.max, IntKind.signed, IntKind.bits] at h
  omega
theorem set_mid {α : Type} (a : List α) (x : α) (b : List α) (y : α) : (a ++ x :: b).set a.length y = a ++ y :: b := by simp
theorem take_full {α : Type} {a b : List α} (hl : b.length = a.length) (ht : b.take a.length = a.take a.length) : b = a := by
  rw [List.take_of_length_le (by omega), List.take_of_length_le (by omega)] at ht
  exact ht
theorem take_next {α : Type} {a b : List α} {i : Nat} (ha : i < a.length) (hb : i < b.length) (ht : b.take i = a.take i) (hx : b[i] = a[i]) : b.take (i + 1) = a.take (i + 1) := by
  rw [List.take_succ_eq_append_getElem ha, List.take_succ_eq_append_getElem hb, ht, hx]
theorem ev_cond {α : Type} {c : Prop} [Decidable c] {A B : Nat → Option α} {r r' : α} (hp : c → Ev A r) (hn : ¬ c → Ev B r') : Ev (fun k => if c then A k else B k) (if c then r else r') := by
  by_cases h : c
  · rw [if_pos h]; exact ev_pos h (hp h)
  · rw [if_neg h]; exact ev_neg h (hn h)
theorem set_take {α : Type} {a b : List α} {i : Nat} {x : α} (h : i < a.length) (hl : b.length = a.length) (ht : b.take i = a.take i) (hx : x = a[i]) : (b.set i x).take (i + 1) = a.take (i + 1) := by
  refine take_next h (by simp; omega) ?_ (by simp [hx])
  rw [← ht]
  apply List.ext_getElem?
  intro j
  simp only [List.getElem?_take, List.getElem?_set]
  by_cases hj : j < i
  · rw [if_pos hj, if_pos hj, if_neg (by omega)]
  · rw [if_neg hj, if_neg hj]
theorem ev_succ {α : Type} {g : Nat → Option α} {r : α} (h : ∀ k, g (k + 1) = some r) : Ev g r := Ev.step h (ev_some r)
theorem down {P : Nat → Prop} (n : Nat) (hend : P n) (hstep : ∀ i, i < n → P (i + 1) → P i) : ∀ i, i ≤ n → P i := by
  intro i hi
  obtain ⟨d, hd⟩ : ∃ d, i + d = n := ⟨n - i, by omega⟩
  induction d generalizing i with
  | zero =>
    obtain rfl : i = n := by omega
    exact hend
  | succ d ih => exact hstep i (by omega) (ih (i + 1) (by omega) (by omega))
theorem getD_nat {α : Type} (l : List α) (z : α) (i : Nat) (h : i < l.length) : l.getD (i : Int).toNat z = l[i] := by
  simp [List.getD_eq_getElem?_getD, h]
/-- A loop that writes the image of each element into its place. -/
theorem map_loop {α β : Type} (F : Nat → List β → Int → Option (List β)) (l : List α) (c : α → β)
    (hend : ∀ k (b : List β), F (k + 1) b l.length = some b) (hstep : ∀ k (b : List β) (i : Nat) (h : i < l.length), b.length = l.length → F (k + 1) b i = F k (b.set i (c l[i])) ((i + 1 : Nat) : Int)) :
    ∀ (b : List β), b.length = l.length → Ev (fun k => F k b 0) (l.map c) := by
  have key : ∀ (i : Nat), i ≤ l.length → ∀ (b : List β), b.length = l.length → b.take i = (l.map c).take i → Ev (fun k => F k b i) (l.map c) := by
    refine down l.length ?_ ?_
    · intro b hl ht
      refine Ev.step (fun k => hend k b) ?_
      rw [take_full (a := l.map c) (b := b) (by simpa using hl) (by simpa using ht)]
      exact ev_some _
    · intro i hi ih b hl ht
      refine Ev.step (fun k => hstep k b i hi hl) (ih _ (by simpa using hl) ?_)
      exact set_take (by simpa using hi) (by simpa using hl) ht (by simp)
  intro b hl
  exact key 0 (by omega) b hl (by simp)
/-- A loop that goes through all places and answers r. -/
theorem count_loop {ρ : Type} (F : Nat → Int → Option ρ) (n : Nat) (r : ρ) (hend : ∀ k, F (k + 1) n = some r) (hstep : ∀ k (i : Nat), i < n → F (k + 1) i = F k ((i + 1 : Nat) : Int)) : Ev (fun k => F k 0) r := by
  have key : ∀ i, i ≤ n → Ev (fun k => F k (i : Nat)) r := down n (Ev.step hend (ev_some r)) (fun i hi ih => Ev.step (fun k => hstep k i hi) ih)
  exact key 0 (by omega)

def Bytes (l : List Int) : Prop := ∀ x ∈ l, 0 ≤ x ∧ x ≤ 255
theorem bytes_wf {l : List Int} (h : ∀ x ∈ l, (Lit.int .u8 x).wf = true) : Bytes l := fun x hx => u8_range (h x hx)
theorem bytes_append {a b : List Int} (ha : Bytes a) (hb : Bytes b) : Bytes (a ++ b) := by
  intro x hx
  rcases List.mem_append.1 hx with h | h
  · exact ha x h
  · exact hb x h
theorem bytes_nil : Bytes [] := fun x hx => by simp at hx
theorem bytes_one {x : Int} (h : 0 ≤ x ∧ x ≤ 255) : Bytes [x] := fun y hy => by simp at hy; subst hy; exact h

theorem q_l1Next (l : List Int) (hl : l.length ≤ 1048576 + 1) (hb : Bytes l) (at_ n : Int) (h0 : 0 ≤ at_) (h1 : at_ ≤ 1099511627776) :
    ∃ v, spec_l1Next.f l at_ n = some (v, at_ + 1) ∧ 0 ≤ v ∧ (1 ≤ n → v < n) ∧ (n < 1 → v = 0) := by
  unfold spec_l1Next.f
  rw [w64 (x := at_ + 1) (by omega) (by omega), show at_ + 1 - 1 = at_ from by omega, w64 (x := at_) (by omega) (by omega), w64 (x := at_ + 1) (by omega) (by omega)]
  by_cases hn : n < 1
  · exact ⟨0, by rw [if_pos hn], by omega, by omega, fun _ => rfl⟩
  · rw [if_neg hn]
    by_cases hz : (l.length : Int) = 0
    · rw [if_pos hz, if_neg (by omega), w64 (by omega) (by omega), tmod_pos (by omega)]
      exact ⟨_, rfl, Int.emod_nonneg _ (by omega), fun _ => Int.emod_lt_of_pos _ (by omega), by omega⟩
    · have ha := Int.emod_nonneg at_ hz
      have ha2 := Int.emod_lt_of_pos at_ (b := (l.length : Int)) (by omega)
      have hb1 := Int.emod_nonneg (at_ + 1) hz
      have hb2 := Int.emod_lt_of_pos (at_ + 1) (b := (l.length : Int)) (by omega)
      have r1 := hb _ (rd_mem l _ ha ha2)
      have r2 := hb _ (rd_mem l _ hb1 hb2)
      have d1 : 0 ≤ at_ / (l.length : Int) := Int.ediv_nonneg h0 (by omega)
      have d2 : at_ / (l.length : Int) ≤ at_ := Int.ediv_le_self _ h0
      rw [if_neg hz, tmod_pos h0, tmod_pos (a := at_ + 1) (by omega), tdiv_pos h0, if_pos ha, if_pos ha2]
      rw [w64 (x := rd l (at_ % (l.length : Int))) (by omega) (by omega), w64 (x := rd l ((at_ + 1) % (l.length : Int))) (by omega) (by omega), w64 (x := at_ / (l.length : Int)) (by omega) (by omega), w64 (x := at_ / (l.length : Int) * 37) (by omega) (by omega), w64 (x := rd l (at_ % (l.length : Int)) + at_ / (l.length : Int) * 37) (by omega) (by omega), w64 (x := (rd l (at_ % (l.length : Int)) + at_ / (l.length : Int) * 37) * 251) (by omega) (by omega), w64 (x := rd l ((at_ + 1) % (l.length : Int)) * 13) (by omega) (by omega)]
      rw [w64 (x := (rd l (at_ % (l.length : Int)) + at_ / (l.length : Int) * 37) * 251 + rd l ((at_ + 1) % (l.length : Int)) * 13) (by omega) (by omega)]
      rw [w64 (x := (rd l (at_ % (l.length : Int)) + at_ / (l.length : Int) * 37) * 251 + rd l ((at_ + 1) % (l.length : Int)) * 13 + at_) (by omega) (by omega)]
      by_cases h2 : n > 200
      · rw [if_pos h2, if_pos hb1, if_pos hb2, if_neg (by omega), tmod_pos (by omega)]
        exact ⟨_, rfl, Int.emod_nonneg _ (by omega), fun _ => Int.emod_lt_of_pos _ (by omega), by omega⟩
      · rw [if_neg h2, if_neg (by omega), tmod_pos (by omega)]
        exact ⟨_, rfl, Int.emod_nonneg _ (by omega), fun _ => Int.emod_lt_of_pos _ (by omega), by omega⟩

theorem q_l1Pick (l : List Int) (hl : l.length ≤ 1048576 + 1) (hb : Bytes l) (at_ : Int) (c : List Int) (h0 : 0 ≤ at_) (h1 : at_ ≤ 1099511627776) (hc : 1 ≤ c.length) :
    ∃ v, spec_l1Pick.f l at_ c = some (v, at_ + 1) ∧ v ∈ c := by
  obtain ⟨i, hi, hi0, hi1, _⟩ := q_l1Next l hl hb at_ c.length h0 h1
  have hi1 := hi1 (by omega)
  unfold spec_l1Pick.f
  rw [hi, Option.bind_some, if_pos hi0, if_pos hi1]
  exact ⟨_, rfl, rd_mem c i hi0 hi1⟩

theorem ev_l1Some_loop (l : List Int) (hl : l.length ≤ 1048576 + 1) (hb : Bytes l) : ∀ (d : Nat) (n : Int) (out : List Int) (at_ : Int), n.toNat = d → d ≤ 68719476736 → out.length + d ≤ 68719476736 → Bytes out → 0 ≤ at_ → at_ + 3 * d ≤ 1099511627776 →
    ∃ r, Ev (fun k => spec_l1Some.l0 k n out l at_) (r, at_ + 3 * d) ∧ Bytes r ∧ r.length = out.length + d := by
  intro d
  induction d with
  | zero =>
    intro n out at_ hn _ _ ho h0 h1
    refine ⟨out, Ev.step (fun k => by rw [spec_l1Some.l0, if_neg (by omega)]) ?_, ho, rfl⟩
    simpa using ev_some (out, at_)
  | succ d ih =>
    intro n out at_ hn hd hlo ho h0 h1
    obtain ⟨a, ha, ha0, ha1, _⟩ := q_l1Next l hl hb at_ 256 h0 (by omega)
    obtain ⟨b, hb_, hb0, hb1, _⟩ := q_l1Next l hl hb (at_ + 1) 256 (by omega) (by omega)
    obtain ⟨c, hc, hcm⟩ := q_l1Pick l hl hb (at_ + 1 + 1) [a, b, 0, 255] (by omega) (by omega) (by simp)
    obtain ⟨r, hr, hrb, hrl⟩ := ih (n - 1) (out ++ [c % 256]) (at_ + 1 + 1 + 1) (by omega) (by omega) (by simp; omega) (bytes_append ho (bytes_one (by omega))) (by omega) (by omega)
    refine ⟨r, Ev.step (fun k => by rw [spec_l1Some.l0, if_pos (by omega)]) ?_, hrb, by rw [hrl, List.length_append]; simp; omega⟩
    refine ev_opt ha (ev_opt hb_ (ev_opt hc (ev_pos (by omega) ?_)))
    rw [w64 (by omega) (by omega), show at_ + 3 * ((d + 1 : Nat) : Int) = at_ + 1 + 1 + 1 + 3 * d from by omega]
    exact hr
theorem ev_l1Some (l : List Int) (hl : l.length ≤ 1048576 + 1) (hb : Bytes l) (n at_ : Int) (hn : n ≤ 68719476736) (h0 : 0 ≤ at_) (h1 : at_ + 3 * n ≤ 1099511627776) (h2 : at_ ≤ 1099511627776) :
    ∃ r, Ev (fun k => spec_l1Some.f k l at_ n) (r, at_ + 3 * n.toNat) ∧ Bytes r ∧ r.length = n.toNat := by
  obtain ⟨r, hr, hrb, hrl⟩ := ev_l1Some_loop l hl hb n.toNat n [] at_ rfl (by omega) (by simp; omega) bytes_nil h0 (by omega)
  exact ⟨r, hr, hrb, by simpa using hrl⟩

theorem ev_l1Data (l : List Int) (hl : l.length ≤ 1048576 + 1) (hb : Bytes l) (at_ : Int) (h0 : 0 ≤ at_) (h1 : at_ ≤ 549755813888) :
    ∃ r at', Ev (fun k => spec_l1Data.f k l at_) (r, at') ∧ Bytes r ∧ r.length ≤ 401 ∧ at_ ≤ at' ∧ at' ≤ at_ + 2000 := by
  obtain ⟨a, ha, ha0, ha1, _⟩ := q_l1Next l hl hb at_ 9 h0 (by omega)
  obtain ⟨b, hb_, hb0, hb1, _⟩ := q_l1Next l hl hb (at_ + 1) 30 (by omega) (by omega)
  obtain ⟨c, hc, hc0, hc1, _⟩ := q_l1Next l hl hb (at_ + 1 + 1) 30 (by omega) (by omega)
  obtain ⟨n, hn, hnm⟩ := q_l1Pick l hl hb (at_ + 1 + 1 + 1) [a, b, c, 0, 400, 401] (by omega) (by omega) (by simp)
  have hnr : 0 ≤ n ∧ n ≤ 401 := by
    simp only [List.mem_cons, List.not_mem_nil, or_false] at hnm
    omega
  obtain ⟨r, hr, hrb, hrl⟩ := ev_l1Some l hl hb n (at_ + 1 + 1 + 1 + 1) (by omega) (by omega) (by omega) (by omega)
  refine ⟨r, at_ + 1 + 1 + 1 + 1 + 3 * n.toNat, ?_, hrb, by omega, by omega, by omega⟩
  unfold spec_l1Data.f
  exact ev_opt ha (ev_opt hb_ (ev_opt hc (ev_opt hn (Ev.bind hr (ev_some _)))))

theorem q_l1Source (l : List Int) : spec_l1Source.f l = some (l, 0) := rfl

theorem ev_DrawSumWords (l : List Int) (hl : l.length ≤ 1048576 + 1) (hb : Bytes l) : ∃ r, Ev (fun k => spec_DrawSumWords.f k l) r ∧ Bytes r ∧ r.length ≤ 401 := by
  obtain ⟨r, a, hr, hrb, hrl, _⟩ := ev_l1Data l hl hb 0 (by omega) (by omega)
  refine ⟨r, ?_, hrb, hrl⟩
  unfold spec_DrawSumWords.f
  exact ev_opt (q_l1Source l) (Ev.bind hr (ev_some _))

theorem q_lwAt (l : List Int) (hl : l.length ≤ 1048576) (hb : Bytes l) (i n : Int) (h0 : 0 ≤ i) (h1 : i ≤ 1099511627776) (hn : 1 < n) : ∃ v, laws_lwAt.f l i n = some v ∧ 0 ≤ v ∧ v < n := by
  unfold laws_lwAt.f
  rw [if_neg (by omega)]
  by_cases hz : (l.length : Int) = 0
  · rw [if_pos hz, if_neg (by omega), w64 (by omega) (by omega), tmod_pos (by omega)]
    exact ⟨_, rfl, Int.emod_nonneg _ (by omega), Int.emod_lt_of_pos _ (by omega)⟩
  · have ha := Int.emod_nonneg i hz
    have ha2 := Int.emod_lt_of_pos i (b := (l.length : Int)) (by omega)
    have hb1 := Int.emod_nonneg (i + 1) hz
    have hb2 := Int.emod_lt_of_pos (i + 1) (b := (l.length : Int)) (by omega)
    have r1 := hb _ (rd_mem l _ ha ha2)
    have r2 := hb _ (rd_mem l _ hb1 hb2)
    have d1 : 0 ≤ i / (l.length : Int) := Int.ediv_nonneg h0 (by omega)
    have d2 : i / (l.length : Int) ≤ i := Int.ediv_le_self _ h0
    rw [if_neg hz, w64 (x := i + 1) (by omega) (by omega), tmod_pos h0, tmod_pos (a := i + 1) (by omega), tdiv_pos h0, if_pos ha, if_pos ha2]
    rw [w64 (x := rd l (i % (l.length : Int))) (by omega) (by omega), w64 (x := rd l ((i + 1) % (l.length : Int))) (by omega) (by omega), w64 (x := i / (l.length : Int)) (by omega) (by omega), w64 (x := i / (l.length : Int) * 3) (by omega) (by omega), w64 (x := rd l (i % (l.length : Int)) + i / (l.length : Int) * 3) (by omega) (by omega), w64 (x := (rd l (i % (l.length : Int)) + i / (l.length : Int) * 3) * 251) (by omega) (by omega)]
    rw [w64 (x := (rd l (i % (l.length : Int)) + i / (l.length : Int) * 3) * 251 + rd l ((i + 1) % (l.length : Int))) (by omega) (by omega)]
    by_cases h2 : n > 200
    · rw [if_pos h2, if_pos hb1, if_pos hb2, if_neg (by omega), tmod_pos (by omega)]
      exact ⟨_, rfl, Int.emod_nonneg _ (by omega), Int.emod_lt_of_pos _ (by omega)⟩
    · rw [if_neg h2, if_neg (by omega), tmod_pos (by omega)]
      exact ⟨_, rfl, Int.emod_nonneg _ (by omega), Int.emod_lt_of_pos _ (by omega)⟩

theorem q_lwBig (l : List Int) : laws_lwBig.f l = some (decide ((l.length : Int) > 1048576)) := rfl

def ws (l : List Int) : Nat → Int
  | 0 => 0
  | n + 1 => ws l n + (if n % 2 = 0 then 256 * rd l n else rd l n)
theorem ws_range {l : List Int} (hb : ∀ x ∈ l, 0 ≤ x ∧ x ≤ 255) : ∀ n : Nat, n ≤ l.length → 0 ≤ ws l n ∧ ws l n ≤ 65280 * n := by
  intro n
  induction n with
  | zero => intro _; simp [ws]
  | succ n ih =>
    intro hn
    have h1 := ih (by omega)
    have h2 := hb _ (rd_mem l n (by omega) (by omega))
    rw [ws]
    split <;> omega

def foldv (n : Int) : Int := if n ≤ 65535 then n else (n - 1) % 65535 + 1
theorem foldv_step (n : Int) (h : 65536 ≤ n) : foldv (n % 65536 + n / 65536) = foldv n := by
  unfold foldv
  split <;> split <;> omega
theorem foldv_low {n : Int} (h : n ≤ 65535) : foldv n = n := by
  unfold foldv
  rw [if_pos h]
theorem foldv_range {n : Int} (h : 0 ≤ n) : 0 ≤ foldv n ∧ foldv n ≤ 65535 := by
  unfold foldv
  split <;> omega
theorem foldv_add (a b : Int) (ha : 0 ≤ a) (hb : 0 ≤ b) : foldv (foldv a + b) = foldv (a + b) := by
  unfold foldv
  repeat' split
  all_goals omega

theorem ev_impl_fold : ∀ (d : Nat) (n : Int), 0 ≤ n → n < d → n ≤ 4611686018427387904 → Ev (fun k => impl_fold.l0 k n) (foldv n) := by
  intro d
  induction d with
  | zero => intro n h0 hd; omega
  | succ d ih =>
    intro n h0 hd hb
    by_cases h : n ≥ 65536
    · refine Ev.step (fun k => by rw [impl_fold.l0, if_pos h]) ?_
      rw [tmod_pos h0, tdiv_pos h0, w64 (x := n / 65536) (by omega) (by omega), w64 (by omega) (by omega), ← foldv_step n h]
      exact ih _ (by omega) (by omega) (by omega)
    · refine Ev.step (fun k => by rw [impl_fold.l0, if_neg h]) ?_
      rw [foldv_low (by omega)]
      exact ev_some n
theorem ev_impl_fold_f {n : Int} (h0 : 0 ≤ n) (hb : n ≤ 4611686018427387904) : Ev (fun k => impl_fold.f k n) (foldv n) :=
  ev_impl_fold (n.toNat + 1) n h0 (by omega) hb

theorem ev_impl_SumWords_loop (l : List Int) (hl : l.length ≤ 68719476736) (hb : ∀ x ∈ l, 0 ≤ x ∧ x ≤ 255) : ∀ (d i : Nat), i + d = l.length → Ev (fun k => impl_SumWords.l0 k (ws l i) l l.length i) (65535 - foldv (ws l l.length)) := by
  intro d
  induction d with
  | zero =>
    intro i hi
    obtain rfl : i = l.length := by omega
    have h := ws_range hb l.length (by omega)
    have hf := foldv_range h.1
    refine Ev.step (fun k => by rw [impl_SumWords.l0, if_neg (by omega)]) ?_
    refine Ev.bind (ev_impl_fold_f h.1 (by omega)) ?_
    rw [w64 (by omega) (by omega)]
    exact ev_some _
  | succ d ih =>
    intro i hi
    have h := ws_range hb i (by omega)
    have hx := hb _ (rd_mem l i (by omega) (by omega))
    have e : Int.tmod (i : Int) 2 = (i : Int) % 2 := tmod_pos (by omega)
    have hs := ih (i + 1) (by omega)
    rw [ws] at hs
    by_cases hp : i % 2 = 0
    · refine Ev.step (fun k => by rw [impl_SumWords.l0, if_pos (by omega), if_pos (by omega), if_pos (by omega), if_pos (by omega)]) ?_
      rw [if_pos hp] at hs
      rw [w64 (x := rd l i) (by omega) (by omega), w64 (x := 256 * rd l i) (by omega) (by omega), w64 (x := (i : Int) + 1) (by omega) (by omega), w64 (by omega) (by omega)]
      exact hs
    · refine Ev.step (fun k => by rw [impl_SumWords.l0, if_pos (by omega), if_pos (by omega), if_pos (by omega), if_neg (by omega)]) ?_
      rw [if_neg hp] at hs
      rw [w64 (x := rd l i) (by omega) (by omega), w64 (x := (i : Int) + 1) (by omega) (by omega), w64 (by omega) (by omega)]
      exact hs
theorem ev_impl_SumWords {l : List Int} (hl : l.length ≤ 68719476736) (hb : ∀ x ∈ l, 0 ≤ x ∧ x ≤ 255) : Ev (fun k => impl_SumWords.f k l) (65535 - foldv (ws l l.length)) :=
  ev_impl_SumWords_loop l hl hb l.length 0 (by omega)

theorem ev_spec_l1Fold : ∀ (d : Nat) (n : Int), 0 ≤ n → n < d → n ≤ 4611686018427387904 → Ev (fun k => spec_l1Fold.l0 k n) (foldv n) := by
  intro d
  induction d with
  | zero => intro n h0 hd; omega
  | succ d ih =>
    intro n h0 hd hb
    by_cases h : n > 65535
    · refine Ev.step (fun k => by rw [spec_l1Fold.l0, if_pos h]) ?_
      rw [tmod_pos h0, tdiv_pos h0, w64 (x := n / 65536) (by omega) (by omega), w64 (by omega) (by omega), ← foldv_step n (by omega)]
      exact ih _ (by omega) (by omega) (by omega)
    · refine Ev.step (fun k => by rw [spec_l1Fold.l0, if_neg h]) ?_
      rw [foldv_low (by omega)]
      exact ev_some n
theorem ev_spec_l1Fold_f {n : Int} (h0 : 0 ≤ n) (hb : n ≤ 4611686018427387904) : Ev (fun k => spec_l1Fold.f k n) (foldv n) :=
  ev_spec_l1Fold (n.toNat + 1) n h0 (by omega) hb

theorem ev_spec_SumWords_loop (l : List Int) (hl : l.length ≤ 68719476736) (hb : ∀ x ∈ l, 0 ≤ x ∧ x ≤ 255) : ∀ (d i : Nat), l.length ≤ i + d → i ≤ l.length + 1 → i % 2 = 0 → (i = l.length + 1 → l.length % 2 = 1) → Ev (fun k => spec_SumWords.l0 k l (foldv (ws l (min i l.length))) i) (65535 - foldv (ws l l.length)) := by
  intro d
  induction d using Nat.strongRecOn with
  | _ d ih =>
    intro i hd hi hp hq
    by_cases hlt : i < l.length
    · have h := ws_range hb i (by omega)
      have hf := foldv_range h.1
      have hx := hb _ (rd_mem l i (by omega) (by omega))
      have e0 : min i l.length = i := by omega
      have hs := ih (d - 1) (by omega) (i + 2) (by omega) (by omega) (by omega) (by omega)
      have hw : ws l (i + 1) = ws l i + 256 * rd l i := by rw [ws, if_pos hp]
      have c1 : wrap64 ((i : Int) + 1) = (i : Int) + 1 := w64 (by omega) (by omega)
      have c2 : wrap64 ((i : Int) + 2) = (i : Int) + 2 := w64 (by omega) (by omega)
      rw [e0]
      by_cases hl2 : i + 1 < l.length
      · have hy := hb _ (rd_mem l ((i : Int) + 1) (by omega) (by omega))
        have hw2 : ws l (i + 2) = ws l i + 256 * rd l i + rd l ((i : Int) + 1) := by
          rw [ws, if_neg (by omega), hw]
          rfl
        refine Ev.step (fun k => by rw [spec_SumWords.l0, if_pos (by omega), if_pos (by omega), c1, if_pos (by omega), if_pos (by omega)]) ?_
        rw [w64 (x := rd l i) (by omega) (by omega), w64 (x := 256 * rd l i) (by omega) (by omega), w64 (x := rd l ((i : Int) + 1)) (by omega) (by omega), w64 (x := foldv (ws l i) + 256 * rd l i) (by omega) (by omega), w64 (by omega) (by omega), c2]
        refine Ev.bind (ev_spec_l1Fold_f (by omega) (by omega)) ?_
        rw [show foldv (ws l i) + 256 * rd l i + rd l ((i : Int) + 1) = foldv (ws l i) + (256 * rd l i + rd l ((i : Int) + 1)) from by omega, foldv_add _ _ h.1 (by omega)]
        rw [show min (i + 2) l.length = i + 2 from by omega, hw2] at hs
        rw [show ws l i + (256 * rd l i + rd l ((i : Int) + 1)) = ws l i + 256 * rd l i + rd l ((i : Int) + 1) from by omega]
        exact hs
      · refine Ev.step (fun k => by rw [spec_SumWords.l0, if_pos (by omega), if_pos (by omega), c1, if_neg (by omega)]) ?_
        rw [w64 (x := rd l i) (by omega) (by omega), w64 (x := 256 * rd l i) (by omega) (by omega), w64 (by omega) (by omega), c2]
        refine Ev.bind (ev_spec_l1Fold_f (by omega) (by omega)) ?_
        rw [foldv_add _ _ h.1 (by omega)]
        rw [show min (i + 2) l.length = i + 1 from by omega, hw] at hs
        exact hs
    · have h := ws_range hb l.length (by omega)
      have hf := foldv_range h.1
      refine Ev.step (fun k => by rw [spec_SumWords.l0, if_neg (by omega)]) ?_
      rw [show min i l.length = l.length from by omega, w64 (by omega) (by omega)]
      exact ev_some _
theorem ev_spec_SumWords {l : List Int} (hl : l.length ≤ 68719476736) (hb : ∀ x ∈ l, 0 ≤ x ∧ x ≤ 255) : Ev (fun k => spec_SumWords.f k l) (65535 - foldv (ws l l.length)) := by
  have h := ev_spec_SumWords_loop l hl hb l.length 0 (by omega) (by omega) (by omega) (by omega)
  rw [Nat.zero_min, show ws l 0 = 0 from rfl, foldv_low (by omega)] at h
  exact h

theorem q_impl_in (a b c : Int) : impl_in.f a b c = some (decide (b ≤ a ∧ a ≤ c)) := by
  unfold impl_in.f
  by_cases h : b ≤ a
  · simp [h]
  · simp [h]

theorem rd_append_left (a b : List Int) (n : Nat) (h : n < a.length) : rd (a ++ b) n = rd a n := by
  rw [rd_nat _ _ (by simp; omega), rd_nat _ _ h, List.getElem_append_left h]
theorem ws_append (a b : List Int) : ∀ n, n ≤ a.length → ws (a ++ b) n = ws a n := by
  intro n
  induction n with
  | zero => intro _; rfl
  | succ n ih =>
    intro hn
    rw [ws, ws, ih (by omega), rd_append_left a b n (by omega)]
theorem ws_two (a : List Int) (x y : Int) (he : a.length % 2 = 0) : ws (a ++ [x, y]) (a.length + 2) = ws a a.length + 256 * x + y := by
  have r1 : rd (a ++ [x, y]) (a.length : Nat) = x := by
    rw [rd_nat _ _ (by simp)]
    simp
  have r2 : rd (a ++ [x, y]) ((a.length + 1 : Nat) : Int) = y := by
    rw [rd_nat _ _ (by simp)]
    simp
  rw [ws, ws, ws_append a [x, y] a.length (by omega), if_pos he, if_neg (by omega), r1, r2]

theorem sums_check {l : List Int} (hl : l.length ≤ 68719476736) (hb : Bytes l) {s : Int} (h : 65535 - foldv (ws l l.length) = s) : Ev (fun k => impl_CheckWords.f k l) (s == 0) := by
  unfold impl_CheckWords.f
  subst h
  exact Ev.bind (ev_impl_SumWords hl hb) (ev_some _)
theorem sums_j1 (code : List Int) (hc : code.length ≤ 1048576) (hcb : Bytes code) (l : List Int) (hl : l.length ≤ 1000) (hb : Bytes l) (he : l.length % 2 = 0) :
    Ev (fun k => laws_FnSums.j1 k code l (65535 - foldv (ws l l.length)) false) true := by
  have h0 := ws_range hb l.length (by omega)
  have hf := foldv_range h0.1
  generalize hs : 65535 - foldv (ws l l.length) = s
  obtain ⟨v, hv, hv0, hv1⟩ := q_lwAt code hc hcb 1 1000 (by omega) (by omega) (by omega)
  have hT : foldv (ws l l.length + s) = 65535 := by
    rw [← foldv_add _ _ h0.1 (by omega), ← hs, show foldv (ws l l.length) + (65535 - foldv (ws l l.length)) = 65535 from by omega]
    rfl
  have d1 : wrap64 (Int.tdiv s 256) % 256 = s / 256 := by
    rw [tdiv_pos (by omega), w64 (by omega) (by omega)]
    omega
  have d2 : Int.tmod s 256 % 256 = s % 256 := by
    rw [tmod_pos (by omega)]
    omega
  have w1 : ws (l ++ [s / 256, s % 256]) (l ++ [s / 256, s % 256]).length = ws l l.length + s := by
    rw [List.length_append]
    simp only [List.length_cons, List.length_nil]
    rw [ws_two l _ _ he]
    omega
  have w2 : ws ((l ++ [s / 256, s % 256]) ++ [0, 1]) ((l ++ [s / 256, s % 256]) ++ [0, 1]).length = ws l l.length + s + 1 := by
    rw [List.length_append]
    simp only [List.length_cons, List.length_nil]
    rw [ws_two _ _ _ (by simp; omega), w1]
    omega
  have b1 : Bytes (l ++ [s / 256, s % 256]) := bytes_append hb (fun x hx => by simp at hx; omega)
  have b2 : Bytes ((l ++ [s / 256, s % 256]) ++ [0, 1]) := bytes_append b1 (fun x hx => by simp at hx; omega)
  have c1 : Ev (fun k => impl_CheckWords.f k (l ++ [s / 256, s % 256])) true :=
    sums_check (s := 0) (by simp; omega) b1 (by rw [w1, hT]; rfl)
  have c2 : Ev (fun k => impl_CheckWords.f k ((l ++ [s / 256, s % 256]) ++ [0, 1])) false :=
    sums_check (s := 65534) (by simp; omega) b2 (by rw [w2, ← foldv_add _ _ (by omega) (by omega), hT]; rfl)
  have e1 : Ev (fun k => spec_SumWords.f k l) s := hs ▸ ev_spec_SumWords (by omega) hb
  have f1 : Ev (fun k => impl_FoldSum.f k (v * 65535)) (0, foldv (v * 65535)) := by
    unfold impl_FoldSum.f
    refine ev_opt (q_impl_in _ _ _) (ev_pos (by simp; omega) (Ev.bind (ev_impl_fold_f (by omega) (by omega)) (ev_some _)))
  refine Ev.step (fun k => by rw [laws_FnSums.j1, if_neg (by simp)]) ?_
  refine ev_opt rfl (ev_pos (by simp; omega) (ev_opt rfl (ev_opt rfl (ev_pos (by simp; omega) (ev_opt rfl (ev_opt hv ?_))))))
  rw [w64 (x := v * 65535) (by omega) (by omega), d1, d2]
  refine Ev.bind f1 (Ev.bind c1 (ev_pos rfl (ev_opt rfl (ev_pos (by simp; omega) (ev_opt rfl (ev_opt rfl (ev_pos (by simp; omega) (Ev.bind c2 (ev_neg (by simp) ?_)))))))))
  by_cases z : foldv (v * 65535) = 0
  · exact ev_pos z (Ev.bind e1 (by simpa using ev_some true))
  · refine ev_neg z (ev_pos ?_ (Ev.bind e1 (by simpa using ev_some true)))
    unfold foldv at z ⊢
    split at z <;> omega
theorem sums_j0 (code : List Int) (hc : code.length ≤ 1048576) (hcb : Bytes code) (l : List Int) (hl : l.length ≤ 1000) (hb : Bytes l) (he : l.length % 2 = 0) :
    Ev (fun k => laws_FnSums.j0 k code l) true := by
  have h0 := ws_range hb l.length (by omega)
  have hf := foldv_range h0.1
  refine Ev.step (fun k => by rw [laws_FnSums.j0]) (Ev.bind (ev_impl_SumWords (by omega) hb) ?_)
  refine ev_neg (by omega) ?_
  rw [decide_eq_false (by omega)]
  exact sums_j1 code hc hcb l hl hb he
theorem FnSums : laws_FnSums.Pure := by
  intro l _ _ hw
  apply Ev.rounds
  have hcb := bytes_wf hw
  unfold laws_FnSums.f
  refine ev_opt (q_lwBig l) ?_
  by_cases h : (l.length : Int) > 1048576
  · exact ev_pos (by simpa using h) (ev_some _)
  · obtain ⟨r, hr, hrb, hrl⟩ := ev_DrawSumWords l (by omega) hcb
    refine ev_neg (by simpa using h) (Ev.bind hr ?_)
    by_cases hp : (r.length : Int) % 2 = 1
    · refine ev_pos hp (ev_pos (by omega) ?_)
      exact sums_j0 l (by omega) hcb _ (by simp; omega) (bytes_append hrb (bytes_one (by omega))) (by simp; omega)
    · exact ev_neg hp (sums_j0 l (by omega) hcb _ (by omega) hrb (by omega))

end Go.Proofs.Ytcelgjhhmkgnhaa.Pure
