/- Proved: the law FnLengths answers true at every input that Go can hand in (it says: parts with their lengths ahead are taken apart again. (P2, P1)) No condition beyond the statement's own. -/
import Derived.Test.YtcelgjhhmkgnhaaPFnLengthsx5
namespace Go.Proofs.Ytcelgjhhmkgnhaa.Pure
open Go.RowKit Go.Proofs.Ytcelgjhhmkgnhaa.PFnLengths Go.Proofs.YtcelgjhhmkgnhaaW.PrintWords Go.Proofs.YtcelgjhhmkgnhaaW.PrintLast Go.Proofs.YtcelgjhhmkgnhaaW.PrintMore
set_option linter.unusedVariables false
set_option linter.unusedSimpArgs false

theorem w64 {x : Int} (h0 : -9223372036854775808 ≤ x) (h1 : x ≤ 9223372036854775807) : wrap64 x = x := by
  unfold wrap64
  omega
theorem tmod_pos {a b : Int} (h : 0 ≤ a) : Int.tmod a b = a % b := Int.tmod_eq_emod_of_nonneg h
theorem tdiv_pos {a b : Int} (h : 0 ≤ a) : Int.tdiv a b = a / b := Int.tdiv_eq_ediv_of_nonneg h
theorem ev_some {α : Type} (r : α) : Ev (fun _ => some r) r := Ev.now r
theorem ev_pos {α : Type} {c : Prop} [Decidable c] {A B : Nat → Option α} {r : α} (h : c) (e : Ev A r) : Ev (fun k => if c then A k else B k) r := by
  simpa only [if_pos h] using e
theorem ev_neg {α : Type} {c : Prop} [Decidable c] {A B : Nat → Option α} {r : α} (h : ¬ c) (e : Ev B r) : Ev (fun k => if c then A k else B k) r := by
  simpa only [if_neg h] using e
theorem ev_opt {α β : Type} {o : Option α} {f : Nat → α → Option β} {a : α} {r : β} (h : o = some a) (e : Ev (fun n => f n a) r) : Ev (fun n => o.bind (f n)) r := by
  simpa only [h, Option.bind_some] using e
theorem ev_to {α : Type} {g : Nat → Option α} {r r' : α} (e : Ev g r) (h : r = r') : Ev g r' := h ▸ e
theorem ev_fix {α : Type} {o : Option α} {r : α} (h : o = some r) : Ev (fun _ => o) r := ⟨0, fun _ _ => h⟩
theorem rd_nat (l : List Int) (i : Nat) (h : i < l.length) : rd l (i : Int) = l[i] := by
  unfold rd
  simp [List.getD_eq_getElem?_getD, h]
theorem rd_mem (l : List Int) (i : Int) (h0 : 0 ≤ i) (h : i < l.length) : rd l i ∈ l := by
  obtain ⟨n, rfl⟩ := Int.eq_ofNat_of_zero_le h0
  rw [rd_nat l n (by omega)]
  exact List.getElem_mem _
theorem u8_range {x : Int} (h : (Lit.int .u8 x).wf = true) : 0 ≤ x ∧ x ≤ 255 := by
  simp [Lit.wf, IntKind.min, IntKind.max, IntKind.signed, IntKind.bits] at h
  omega
theorem i64_range {x : Int} (h : (Lit.int .i64 x).wf = true) : -9223372036854775808 ≤ x ∧ x ≤ 9223372036854775807 := by
  simp [Lit.wf, IntKind.min, IntKind.max, IntKind.signed, IntKind.bits] at h
  omega
theorem set_mid {α : Type} (a : List α) (x : α) (b : List α) (y : α) : (a ++ x :: b).set a.length y = a ++ y :: b := by simp
theorem take_full {α : Type} {a b : List α} (hl : b.length = a.length) (ht : b.take a.length = a.take a.length) : b = a := by
  rw [List.take_of_length_le (by omega), List.take_of_length_le (by omega)] at ht
  exact ht
theorem take_next {α : Type} {a b : List α} {i : Nat} (ha : i < a.length) (hb : i < b.length) (ht : b.take i = a.take i) (hx : b[i] = a[i]) : b.take (i + 1) = a.take (i + 1) := by
  rw [List.take_succ_eq_append_getElem ha, List.take_succ_eq_append_getElem hb, ht, hx]
theorem ev_cond {α : Type} {c : Prop} [Decidable c] {A B : Nat → Option α} {r r' : α} (hp : c → Ev A r) (hn : ¬ c → Ev B r') : Ev (fun k => if c then A k else B k) (if c then r else r') := by
  by_cases h : c
  · rw [if_pos h]; exact ev_pos h (hp h)
  · rw [if_neg h]; exact ev_neg h (hn h)
theorem set_take {α : Type} {a b : List α} {i : Nat} {x : α} (h : i < a.length) (hl : b.length = a.length) (ht : b.take i = a.take i) (hx : x = a[i]) : (b.set i x).take (i + 1) = a.take (i + 1) := by
  refine take_next h (by simp; omega) ?_ (by simp [hx])
  rw [← ht]
  apply List.ext_getElem?
  intro j
  simp only [List.getElem?_take, List.getElem?_set]
  by_cases hj : j < i
  · rw [if_pos hj, if_pos hj, if_neg (by omega)]
  · rw [if_neg hj, if_neg hj]
theorem ev_succ {α : Type} {g : Nat → Option α} {r : α} (h : ∀ k, g (k + 1) = some r) : Ev g r := Ev.step h (ev_some r)
theorem down {P : Nat → Prop} (n : Nat) (hend : P n) (hstep : ∀ i, i < n → P (i + 1) → P i) : ∀ i, i ≤ n → P i := by
  intro i hi
  obtain ⟨d, hd⟩ : ∃ d, i + d = n := ⟨n - i, by omega⟩
  induction d generalizing i with
  | zero =>
    obtain rfl : i = n := by omega
    exact hend
  | succ d ih => exact hstep i (by omega) (ih (i + 1) (by omega) (by omega))
theorem getD_nat {α : Type} (l : List α) (z : α) (i : Nat) (h : i < l.length) : l.getD (i : Int).toNat z = l[i] := by
  simp [List.getD_eq_getElem?_getD, h]
/-- A loop that writes the image of each element into its place. -/
theorem map_loop {α β : Type} (F : Nat → List β → Int → Option (List β)) (l : List α) (c : α → β)
    (hend : ∀ k (b : List β), F (k + 1) b l.length = some b) (hstep : ∀ k (b : List β) (i : Nat) (h : i < l.length), b.length = l.length → F (k + 1) b i = F k (b.set i (c l[i])) ((i + 1 : Nat) : Int)) :
    ∀ (b : List β), b.length = l.length → Ev (fun k => F k b 0) (l.map c) := by
  have key : ∀ (i : Nat), i ≤ l.length → ∀ (b : List β), b.length = l.length → b.take i = (l.map c).take i → Ev (fun k => F k b i) (l.map c) := by
    refine down l.length ?_ ?_
    · intro b hl ht
      refine Ev.step (fun k => hend k b) ?_
      rw [take_full (a := l.map c) (b := b) (by simpa using hl) (by simpa using ht)]
      exact ev_some _
    · intro i hi ih b hl ht
      refine Ev.step (fun k => hstep k b i hi hl) (ih _ (by simpa using hl) ?_)
      exact set_take (by simpa using hi) (by simpa using hl) ht (by simp)
  intro b hl
  exact key 0 (by omega) b hl (by simp)
/-- A loop that goes through all places and answers r. -/
theorem count_loop {ρ : Type} (F : Nat → Int → Option ρ) (n : Nat) (r : ρ) (hend : ∀ k, F (k + 1) n = some r) (hstep : ∀ k (i : Nat), i < n → F (k + 1) i = F k ((i + 1 : Nat) : Int)) : Ev (fun k => F k 0) r := by
  have key : ∀ i, i ≤ n → Ev (fun k => F k (i : Nat)) r := down n (Ev.step hend (ev_some r)) (fun i hi ih => Ev.step (fun k => hstep k i hi) ih)
  exact key 0 (by omega)

theorem q_lwBig (l : List Int) : laws_lwBig.f l = some (decide ((l.length : Int) > 1048576)) := rfl

def Bytes (l : List Int) : Prop := ∀ x ∈ l, 0 ≤ x ∧ x ≤ 255
theorem bytes_wf {l : List Int} (h : ∀ x ∈ l, (Lit.int .u8 x).wf = true) : Bytes l := fun x hx => u8_range (h x hx)
theorem bytes_append {a b : List Int} (ha : Bytes a) (hb : Bytes b) : Bytes (a ++ b) := by
  intro x hx
  rcases List.mem_append.1 hx with h | h
  · exact ha x h
  · exact hb x h
theorem bytes_nil : Bytes [] := fun x hx => by simp at hx
theorem bytes_one {x : Int} (h : 0 ≤ x ∧ x ≤ 255) : Bytes [x] := fun y hy => by simp at hy; subst hy; exact h

theorem q_l1Next (l : List Int) (hl : l.length ≤ 1048576 + 1) (hb : Bytes l) (at_ n : Int) (h0 : 0 ≤ at_) (h1 : at_ ≤ 1099511627776) :
    ∃ v, spec_l1Next.f l at_ n = some (v, at_ + 1) ∧ 0 ≤ v ∧ (1 ≤ n → v < n) ∧ (n < 1 → v = 0) := by
  unfold spec_l1Next.f
  rw [w64 (x := at_ + 1) (by omega) (by omega), show at_ + 1 - 1 = at_ from by omega, w64 (x := at_) (by omega) (by omega), w64 (x := at_ + 1) (by omega) (by omega)]
  by_cases hn : n < 1
  · exact ⟨0, by rw [if_pos hn], by omega, by omega, fun _ => rfl⟩
  · rw [if_neg hn]
    by_cases hz : (l.length : Int) = 0
    · rw [if_pos hz, if_neg (by omega), w64 (by omega) (by omega), tmod_pos (by omega)]
      exact ⟨_, rfl, Int.emod_nonneg _ (by omega), fun _ => Int.emod_lt_of_pos _ (by omega), by omega⟩
    · have ha := Int.emod_nonneg at_ hz
      have ha2 := Int.emod_lt_of_pos at_ (b := (l.length : Int)) (by omega)
      have hb1 := Int.emod_nonneg (at_ + 1) hz
      have hb2 := Int.emod_lt_of_pos (at_ + 1) (b := (l.length : Int)) (by omega)
      have r1 := hb _ (rd_mem l _ ha ha2)
      have r2 := hb _ (rd_mem l _ hb1 hb2)
      have d1 : 0 ≤ at_ / (l.length : Int) := Int.ediv_nonneg h0 (by omega)
      have d2 : at_ / (l.length : Int) ≤ at_ := Int.ediv_le_self _ h0
      rw [if_neg hz, tmod_pos h0, tmod_pos (a := at_ + 1) (by omega), tdiv_pos h0, if_pos ha, if_pos ha2]
      rw [w64 (x := rd l (at_ % (l.length : Int))) (by omega) (by omega), w64 (x := rd l ((at_ + 1) % (l.length : Int))) (by omega) (by omega), w64 (x := at_ / (l.length : Int)) (by omega) (by omega), w64 (x := at_ / (l.length : Int) * 37) (by omega) (by omega), w64 (x := rd l (at_ % (l.length : Int)) + at_ / (l.length : Int) * 37) (by omega) (by omega), w64 (x := (rd l (at_ % (l.length : Int)) + at_ / (l.length : Int) * 37) * 251) (by omega) (by omega), w64 (x := rd l ((at_ + 1) % (l.length : Int)) * 13) (by omega) (by omega)]
      rw [w64 (x := (rd l (at_ % (l.length : Int)) + at_ / (l.length : Int) * 37) * 251 + rd l ((at_ + 1) % (l.length : Int)) * 13) (by omega) (by omega)]
      rw [w64 (x := (rd l (at_ % (l.length : Int)) + at_ / (l.length : Int) * 37) * 251 + rd l ((at_ + 1) % (l.length : Int)) * 13 + at_) (by omega) (by omega)]
      by_cases h2 : n > 200
      · rw [if_pos h2, if_pos hb1, if_pos hb2, if_neg (by omega), tmod_pos (by omega)]
        exact ⟨_, rfl, Int.emod_nonneg _ (by omega), fun _ => Int.emod_lt_of_pos _ (by omega), by omega⟩
      · rw [if_neg h2, if_neg (by omega), tmod_pos (by omega)]
        exact ⟨_, rfl, Int.emod_nonneg _ (by omega), fun _ => Int.emod_lt_of_pos _ (by omega), by omega⟩

theorem q_l1Pick (l : List Int) (hl : l.length ≤ 1048576 + 1) (hb : Bytes l) (at_ : Int) (c : List Int) (h0 : 0 ≤ at_) (h1 : at_ ≤ 1099511627776) (hc : 1 ≤ c.length) :
    ∃ v, spec_l1Pick.f l at_ c = some (v, at_ + 1) ∧ v ∈ c := by
  obtain ⟨i, hi, hi0, hi1, _⟩ := q_l1Next l hl hb at_ c.length h0 h1
  have hi1 := hi1 (by omega)
  unfold spec_l1Pick.f
  rw [hi, Option.bind_some, if_pos hi0, if_pos hi1]
  exact ⟨_, rfl, rd_mem c i hi0 hi1⟩

theorem ev_l1Some_loop (l : List Int) (hl : l.length ≤ 1048576 + 1) (hb : Bytes l) : ∀ (d : Nat) (n : Int) (out : List Int) (at_ : Int), n.toNat = d → d ≤ 68719476736 → out.length + d ≤ 68719476736 → Bytes out → 0 ≤ at_ → at_ + 3 * d ≤ 1099511627776 →
    ∃ r, Ev (fun k => spec_l1Some.l0 k n out l at_) (r, at_ + 3 * d) ∧ Bytes r ∧ r.length = out.length + d := by
  intro d
  induction d with
  | zero =>
    intro n out at_ hn _ _ ho h0 h1
    refine ⟨out, Ev.step (fun k => by rw [spec_l1Some.l0, if_neg (by omega)]) ?_, ho, rfl⟩
    simpa using ev_some (out, at_)
  | succ d ih =>
    intro n out at_ hn hd hlo ho h0 h1
    obtain ⟨a, ha, ha0, ha1, _⟩ := q_l1Next l hl hb at_ 256 h0 (by omega)
    obtain ⟨b, hb_, hb0, hb1, _⟩ := q_l1Next l hl hb (at_ + 1) 256 (by omega) (by omega)
    obtain ⟨c, hc, hcm⟩ := q_l1Pick l hl hb (at_ + 1 + 1) [a, b, 0, 255] (by omega) (by omega) (by simp)
    obtain ⟨r, hr, hrb, hrl⟩ := ih (n - 1) (out ++ [c % 256]) (at_ + 1 + 1 + 1) (by omega) (by omega) (by simp; omega) (bytes_append ho (bytes_one (by omega))) (by omega) (by omega)
    refine ⟨r, Ev.step (fun k => by rw [spec_l1Some.l0, if_pos (by omega)]) ?_, hrb, by rw [hrl, List.length_append]; simp; omega⟩
    refine ev_opt ha (ev_opt hb_ (ev_opt hc (ev_pos (by omega) ?_)))
    rw [w64 (by omega) (by omega), show at_ + 3 * ((d + 1 : Nat) : Int) = at_ + 1 + 1 + 1 + 3 * d from by omega]
    exact hr
theorem ev_l1Some (l : List Int) (hl : l.length ≤ 1048576 + 1) (hb : Bytes l) (n at_ : Int) (hn : n ≤ 68719476736) (h0 : 0 ≤ at_) (h1 : at_ + 3 * n ≤ 1099511627776) (h2 : at_ ≤ 1099511627776) :
    ∃ r, Ev (fun k => spec_l1Some.f k l at_ n) (r, at_ + 3 * n.toNat) ∧ Bytes r ∧ r.length = n.toNat := by
  obtain ⟨r, hr, hrb, hrl⟩ := ev_l1Some_loop l hl hb n.toNat n [] at_ rfl (by omega) (by simp; omega) bytes_nil h0 (by omega)
  exact ⟨r, hr, hrb, by simpa using hrl⟩

theorem q_l1Chance (l : List Int) (hl : l.length ≤ 1048576 + 1) (hb : Bytes l) (at_ n : Int) (h0 : 0 ≤ at_) (h1 : at_ ≤ 1099511627776) : ∃ b, spec_l1Chance.f l at_ n = some (b, at_ + 1) := by
  obtain ⟨v, hv, _⟩ := q_l1Next l hl hb at_ n h0 h1
  exact ⟨v == 0, by rw [spec_l1Chance.f, hv]; rfl⟩

theorem q_l1Source (l : List Int) : spec_l1Source.f l = some (l, 0) := rfl

def PartsOk (ps : List (List Int)) : Prop := ps.length ≤ 21 ∧ ∀ p ∈ ps, Bytes p ∧ p.length ≤ 256
theorem partsOk_set {ps : List (List Int)} {p : List Int} {i : Nat} (h : PartsOk ps) (hb : Bytes p) (hl : p.length ≤ 256) : PartsOk (ps.set i p) := by
  refine ⟨by rw [List.length_set]; exact h.1, fun q hq => ?_⟩
  rcases List.mem_or_eq_of_mem_set hq with hq | rfl
  · exact h.2 q hq
  · exact ⟨hb, hl⟩
theorem ev_DrawPutParts_j2 (l : List Int) (hl : l.length ≤ 1048576 + 1) (hb : Bytes l) (ps : List (List Int)) (hp : PartsOk ps) (at_ : Int) (h0 : 0 ≤ at_) (h1 : at_ ≤ 1000000) : ∃ r, Ev (fun k => spec_DrawPutParts.j2 k ps l at_) r ∧ PartsOk r := by
  by_cases h : (ps.length : Int) > 1
  · obtain ⟨b, hc⟩ := q_l1Chance l hl hb at_ 20 h0 (by omega)
    cases b
    · refine ⟨ps, Ev.step (fun k => by rw [spec_DrawPutParts.j2, if_pos h]) ?_, hp⟩
      exact ev_opt hc (ev_neg (by simp) (ev_some _))
    · obtain ⟨r, hr, hrb, hrl⟩ := ev_l1Some l hl hb 200 (at_ + 1) (by omega) (by omega) (by omega) (by omega)
      refine ⟨ps.set (1 : Int).toNat r, Ev.step (fun k => by rw [spec_DrawPutParts.j2, if_pos h]) ?_, partsOk_set hp hrb (by omega)⟩
      exact ev_opt hc (ev_pos rfl (Ev.bind hr (ev_pos (by omega) (ev_some _))))
  · refine ⟨ps, Ev.step (fun k => by rw [spec_DrawPutParts.j2, if_neg h]) ?_, hp⟩
    exact ev_some _
theorem ev_DrawPutParts_j1 (l : List Int) (hl : l.length ≤ 1048576 + 1) (hb : Bytes l) (ps : List (List Int)) (hp : PartsOk ps) (b : Bool) (hbp : b = true → 0 < ps.length) (at_ : Int) (h0 : 0 ≤ at_) (h1 : at_ ≤ 900000) : ∃ r, Ev (fun k => spec_DrawPutParts.j1 k ps b l at_) r ∧ PartsOk r := by
  cases b
  · obtain ⟨r, hr, hro⟩ := ev_DrawPutParts_j2 l hl hb ps hp at_ h0 (by omega)
    exact ⟨r, Ev.step (fun k => by rw [spec_DrawPutParts.j1, if_neg (by simp)]) hr, hro⟩
  · obtain ⟨n, hn, hnm⟩ := q_l1Pick l hl hb at_ [255, 256, 200] h0 (by omega) (by simp)
    have hnr : 0 ≤ n ∧ n ≤ 256 := by
      simp only [List.mem_cons, List.not_mem_nil, or_false] at hnm
      omega
    obtain ⟨q, hq, hqb, hql⟩ := ev_l1Some l hl hb n (at_ + 1) (by omega) (by omega) (by omega) (by omega)
    obtain ⟨r, hr, hro⟩ := ev_DrawPutParts_j2 l hl hb (ps.set (0 : Int).toNat q) (partsOk_set hp hqb (by omega)) (at_ + 1 + 3 * n.toNat) (by omega) (by omega)
    refine ⟨r, Ev.step (fun k => by rw [spec_DrawPutParts.j1, if_pos rfl]) ?_, hro⟩
    have := hbp rfl
    exact ev_opt hn (Ev.bind hq (ev_pos (by omega) hr))
theorem ev_DrawPutParts_l0 (l : List Int) (hl : l.length ≤ 1048576 + 1) (hb : Bytes l) : ∀ (d : Nat) (n : Int) (ps : List (List Int)) (at_ : Int), n.toNat = d → ps.length + d ≤ 21 → PartsOk ps → 0 ≤ at_ → at_ + 100 * d ≤ 800000 → ∃ r, Ev (fun k => spec_DrawPutParts.l0 k ps n l at_) r ∧ PartsOk r := by
  intro d
  induction d with
  | zero =>
    intro n ps at_ hn _ hp h0 h1
    by_cases h : (ps.length : Int) > 0
    · obtain ⟨b, hc⟩ := q_l1Chance l hl hb at_ 12 h0 (by omega)
      obtain ⟨r, hr, hro⟩ := ev_DrawPutParts_j1 l hl hb ps hp b (fun _ => by omega) (at_ + 1) (by omega) (by omega)
      refine ⟨r, Ev.step (fun k => by rw [spec_DrawPutParts.l0, if_neg (by omega), if_pos h]) ?_, hro⟩
      exact ev_opt hc hr
    · obtain ⟨r, hr, hro⟩ := ev_DrawPutParts_j1 l hl hb ps hp false (by simp) at_ (by omega) (by omega)
      exact ⟨r, Ev.step (fun k => by rw [spec_DrawPutParts.l0, if_neg (by omega), if_neg h]) hr, hro⟩
  | succ d ih =>
    intro n ps at_ hn hlen hp h0 h1
    obtain ⟨m, hm, hm0, hm1, _⟩ := q_l1Next l hl hb at_ 9 h0 (by omega)
    have hm1 := hm1 (by omega)
    obtain ⟨q, hq, hqb, hql⟩ := ev_l1Some l hl hb m (at_ + 1) (by omega) (by omega) (by omega) (by omega)
    obtain ⟨r, hr, hro⟩ := ih (n - 1) (ps ++ [q]) (at_ + 1 + 3 * m.toNat) (by omega) (by simp; omega) ⟨by simp; omega, fun p hpm => by
      rcases List.mem_append.1 hpm with h | h
      · exact hp.2 p h
      · simp at h
        subst h
        exact ⟨hqb, by omega⟩⟩ (by omega) (by omega)
    refine ⟨r, Ev.step (fun k => by rw [spec_DrawPutParts.l0, if_pos (by omega)]) ?_, hro⟩
    refine ev_opt hm (Ev.bind hq (ev_pos (by omega) ?_))
    rw [w64 (by omega) (by omega)]
    exact hr
theorem ev_DrawPutParts (l : List Int) (hl : l.length ≤ 1048576 + 1) (hb : Bytes l) : ∃ r, Ev (fun k => spec_DrawPutParts.f k l) r ∧ PartsOk r := by
  obtain ⟨a, ha, ha0, ha1, _⟩ := q_l1Next l hl hb 0 5 (by omega) (by omega)
  obtain ⟨b, hb_, hb0, hb1, _⟩ := q_l1Next l hl hb (0 + 1) 5 (by omega) (by omega)
  obtain ⟨n, hn, hnm⟩ := q_l1Pick l hl hb (0 + 1 + 1) [a, b, 20, 21] (by omega) (by omega) (by simp)
  have hnr : 0 ≤ n ∧ n ≤ 21 := by
    simp only [List.mem_cons, List.not_mem_nil, or_false] at hnm
    omega
  obtain ⟨r, hr, hro⟩ := ev_DrawPutParts_l0 l hl hb n.toNat n [] (0 + 1 + 1 + 1) rfl (by simp; omega) ⟨by simp, by simp⟩ (by omega) (by omega)
  refine ⟨r, ?_, hro⟩
  unfold spec_DrawPutParts.f
  exact ev_opt (q_l1Source l) (ev_opt ha (ev_opt hb_ (ev_opt hn hr)))

def enc : List (List Int) → List Int
  | [] => []
  | p :: ps => (p.length : Int) :: (p ++ enc ps)
theorem enc_append (a b : List (List Int)) : enc (a ++ b) = enc a ++ enc b := by
  induction a with
  | nil => rfl
  | cons p ps ih => simp [enc, ih]
theorem enc_one (p : List Int) : enc [p] = (p.length : Int) :: p := by simp [enc]
def tp : Nat → List Int → List (List Int) → Int × List (List Int)
  | _, [], x => (0, x)
  | 0, _ :: _, _ => (5, [])
  | f + 1, b :: r, x => if (r.length : Int) < b ∨ x.length = 20 then (5, []) else tp f (r.drop b.toNat) (x ++ [r.take b.toNat])
def tpF (l : List Int) : Int × List (List Int) := if 400 < l.length then (2, []) else tp l.length l []
theorem tp_good : ∀ (f : Nat) (l : List Int) (x : List (List Int)) (ps : List (List Int)), Bytes l → l.length ≤ f → x.length ≤ 20 → tp f l x = (0, ps) → ∃ qs, ps = x ++ qs ∧ enc qs = l ∧ (∀ q ∈ qs, q.length ≤ 255) ∧ ps.length ≤ 20 := by
  intro f
  induction f with
  | zero =>
    intro l x ps hb hl hx h
    cases l with
    | nil =>
      simp [tp] at h
      exact ⟨[], by simp [h], rfl, by simp, by rw [← h]; exact hx⟩
    | cons b r => simp at hl
  | succ f ih =>
    intro l x ps hb hl hx h
    cases l with
    | nil =>
      simp [tp] at h
      exact ⟨[], by simp [h], rfl, by simp, by rw [← h]; exact hx⟩
    | cons b r =>
      have hb0 := hb b (by simp)
      rw [tp] at h
      by_cases hc : (r.length : Int) < b ∨ x.length = 20
      · rw [if_pos hc] at h
        simp at h
      · rw [if_neg hc] at h
        simp only [List.length_cons] at hl
        obtain ⟨qs, e1, e2, e3, e4⟩ := ih (r.drop b.toNat) (x ++ [r.take b.toNat]) ps (fun y hy => hb y (List.mem_cons_of_mem _ (List.mem_of_mem_drop hy))) (by rw [List.length_drop]; omega) (by simp; omega) h
        have hlen : (r.take b.toNat).length = b.toNat := by rw [List.length_take]; omega
        refine ⟨r.take b.toNat :: qs, by rw [e1]; simp, ?_, ?_, e4⟩
        · rw [enc, e2, hlen, List.take_append_drop, Int.toNat_of_nonneg hb0.1]
        · intro q hq
          rcases List.mem_cons.1 hq with rfl | hq
          · omega
          · exact e3 q hq
theorem tp_enc : ∀ (qs : List (List Int)) (f : Nat) (x : List (List Int)), (enc qs).length ≤ f → (∀ q ∈ qs, q.length ≤ 255) → x.length + qs.length ≤ 20 → tp f (enc qs) x = (0, x ++ qs) := by
  intro qs
  induction qs with
  | nil =>
    intro f x _ _ _
    cases f <;> simp [enc, tp]
  | cons q qs ih =>
    intro f x hf hq hx
    simp only [enc, List.length_cons, List.length_append] at hf
    obtain ⟨f, rfl⟩ : ∃ m, f = m + 1 := ⟨f - 1, by omega⟩
    simp only [List.length_cons] at hx
    rw [enc, tp, if_neg (by simp; omega), Int.toNat_natCast, List.drop_left, List.take_left, ih f _ (by omega) (fun p hp => hq p (List.mem_cons_of_mem _ hp)) (by simp; omega)]
    simp
def ppF (ps : List (List Int)) : Int × List Int := if ps.length ≤ 20 ∧ (∀ p ∈ ps, p.length ≤ 255) ∧ (enc ps).length ≤ 400 then (0, enc ps) else (2, [])
theorem rdL1_nat (l : List (List Int)) (i : Nat) (h : i < l.length) : rd_L2 l i = l[i] := getD_nat l _ i h
theorem enc_take_succ (ps : List (List Int)) (i : Nat) (h : i < ps.length) : enc (ps.take (i + 1)) = enc (ps.take i) ++ ((ps[i].length : Int) :: ps[i]) := by
  rw [List.take_succ_eq_append_getElem h, enc_append, enc_one]
theorem enc_take_le (ps : List (List Int)) : ∀ i, (enc (ps.take i)).length ≤ (enc ps).length := by
  intro i
  have h : enc ps = enc (ps.take i) ++ enc (ps.drop i) := by rw [← enc_append, List.take_append_drop]
  rw [h, List.length_append]
  omega

theorem ev_spec_PutParts_loop (ps : List (List Int)) (hp : ∀ p ∈ ps, p.length ≤ 1000000) (hn : ps.length ≤ 20) (hall : ∀ p ∈ ps, p.length ≤ 255) : ∀ i, i ≤ ps.length → Ev (fun k => spec_PutParts.l0 k ps (enc (ps.take i)) i) (if (enc ps).length ≤ 400 then (0, enc ps) else (2, [])) := by
  have hlen : ∀ i, i ≤ ps.length → (enc (ps.take i)).length ≤ 256 * i := by
    intro i
    induction i with
    | zero => intro _; simp [enc]
    | succ i ih =>
      intro hi
      have h1 := ih (by omega)
      have h2 := hall _ (List.getElem_mem (by omega : i < ps.length))
      rw [enc_take_succ ps i (by omega), List.length_append, List.length_cons]
      omega
  refine down ps.length ?_ ?_
  · rw [List.take_length]
    refine Ev.step (fun k => by rw [spec_PutParts.l0, if_neg (by omega)]) ?_
    by_cases h : (enc ps).length ≤ 400
    · rw [if_pos h]
      exact ev_neg (by omega) (ev_some _)
    · rw [if_neg h]
      exact ev_pos (by omega) (ev_some _)
  · intro i hi ih
    have h2 := hall _ (List.getElem_mem hi)
    have h3 := hlen i (by omega)
    refine Ev.step (fun k => by rw [spec_PutParts.l0, if_pos (by omega), if_pos (by omega), rdL1_nat ps i hi, w64 (by omega) (by omega)]) ?_
    refine ev_neg (by omega) (ev_pos (by omega) (ev_opt rfl (ev_pos (by simp; omega) ?_)))
    rw [enc_take_succ ps i hi] at ih
    rw [show ((ps[i].length : Nat) : Int) % 256 = ps[i].length from by omega, List.append_assoc]
    exact ih
theorem ev_spec_PutParts_long (ps : List (List Int)) (hp : ∀ p ∈ ps, p.length ≤ 1000000) (hn : ps.length ≤ 20) (hall : ¬ ∀ p ∈ ps, p.length ≤ 255) : ∀ (d i : Nat) (out : List Int), i + d = ps.length → (∀ j : Nat, j < i → ∀ h : j < ps.length, ps[j].length ≤ 255) → out.length ≤ 256 * i → Ev (fun k => spec_PutParts.l0 k ps out i) (2, []) := by
  intro d
  induction d with
  | zero =>
    intro i out hi hj _
    exfalso
    apply hall
    intro p hp
    obtain ⟨j, h, rfl⟩ := List.getElem_of_mem hp
    exact hj j (by omega) h
  | succ d ih =>
    intro i out hi hj ho
    have hil : i < ps.length := by omega
    refine Ev.step (fun k => by rw [spec_PutParts.l0, if_pos (by omega), if_pos (by omega), rdL1_nat ps i hil, w64 (by omega) (by omega)]) ?_
    by_cases h : ps[i].length ≤ 255
    · refine ev_neg (by omega) (ev_pos (by omega) (ev_opt rfl (ev_pos (by simp; omega) ?_)))
      refine ih (i + 1) _ (by omega) (fun j h1 h2 => ?_) (by simp; omega)
      by_cases e : j = i
      · subst e; exact h
      · exact hj j (by omega) h2
    · exact ev_pos (by omega) (ev_some _)
theorem ev_spec_PutParts {ps : List (List Int)} (hp : ∀ p ∈ ps, p.length ≤ 1000000) : Ev (fun k => spec_PutParts.f k ps) (ppF ps) := by
  unfold spec_PutParts.f ppF
  by_cases hn : ps.length ≤ 20
  · refine ev_neg (by omega) ?_
    by_cases hall : ∀ p ∈ ps, p.length ≤ 255
    · have h := ev_spec_PutParts_loop ps hp hn hall 0 (by omega)
      by_cases h4 : (enc ps).length ≤ 400
      · rw [if_pos ⟨hn, hall, h4⟩]
        rw [if_pos h4] at h
        exact h
      · rw [if_neg (fun z => h4 z.2.2)]
        rw [if_neg h4] at h
        exact h
    · rw [if_neg (fun z => hall z.2.1)]
      exact ev_spec_PutParts_long ps hp hn hall ps.length 0 [] (by omega) (fun j h => by omega) (by simp)
  · rw [if_neg (fun z => hn z.1)]
    exact ev_pos (by omega) (ev_some _)

theorem enc_bytes : ∀ (ps : List (List Int)), (∀ p ∈ ps, Bytes p ∧ p.length ≤ 255) → Bytes (enc ps)
  | [], _ => bytes_nil
  | p :: ps, h => by
    have hp := h p (by simp)
    intro x hx
    rw [enc, List.mem_cons, List.mem_append] at hx
    rcases hx with rfl | hx | hx
    · omega
    · exact hp.1 x hx
    · exact enc_bytes ps (fun q hq => h q (List.mem_cons_of_mem _ hq)) x hx
theorem ppF_bytes {ps : List (List Int)} (h : PartsOk ps) : Bytes (ppF ps).2 ∧ (ppF ps).2.length ≤ 400 := by
  unfold ppF
  split
  · rename_i hc
    exact ⟨enc_bytes ps (fun p hp => ⟨(h.2 p hp).1, hc.2.1 p hp⟩), hc.2.2⟩
  · exact ⟨bytes_nil, by simp⟩
theorem ev_DrawTakeParts_j1 (l : List Int) (hl : l.length ≤ 1048576 + 1) (hb : Bytes l) (b : List Int) (hbb : Bytes b) (hbl : b.length ≤ 1000) (at_ : Int) (h0 : 0 ≤ at_) (h1 : at_ ≤ 1000000) : ∃ r, Ev (fun k => spec_DrawTakeParts.j1 k b l at_) r ∧ Bytes r ∧ r.length ≤ 1000 := by
  obtain ⟨c, hc⟩ := q_l1Chance l hl hb at_ 30 h0 (by omega)
  cases c
  · refine ⟨b, Ev.step (fun k => by rw [spec_DrawTakeParts.j1]) ?_, hbb, hbl⟩
    exact ev_opt hc (ev_neg (by simp) (ev_some _))
  · obtain ⟨n, hn, hn0, hn1, _⟩ := q_l1Next l hl hb (at_ + 1) 2 (by omega) (by omega)
    have hn1 := hn1 (by omega)
    refine ⟨List.replicate (400 + n).toNat 0, Ev.step (fun k => by rw [spec_DrawTakeParts.j1]) ?_, fun x hx => ?_, by simp; omega⟩
    · refine ev_opt hc (ev_pos rfl (ev_opt hn ?_))
      rw [w64 (by omega) (by omega)]
      exact ev_pos (by omega) (ev_pos (by omega) (ev_some _))
    · have := List.eq_of_mem_replicate hx
      omega
theorem ev_DrawTakeParts_j0 (l : List Int) (hl : l.length ≤ 1048576 + 1) (hb : Bytes l) (b : List Int) (hbb : Bytes b) (hbl : b.length ≤ 1000) (c : Bool) (hc0 : c = true → 0 < b.length) (at_ : Int) (h0 : 0 ≤ at_) (h1 : at_ ≤ 900000) : ∃ r, Ev (fun k => spec_DrawTakeParts.j0 k b c l at_) r ∧ Bytes r ∧ r.length ≤ 1000 := by
  cases c
  · obtain ⟨r, hr, h⟩ := ev_DrawTakeParts_j1 l hl hb b hbb hbl at_ h0 (by omega)
    exact ⟨r, Ev.step (fun k => by rw [spec_DrawTakeParts.j0, if_neg (by simp)]) hr, h⟩
  · have hpos := hc0 rfl
    obtain ⟨i, hi, hi0, hi1, _⟩ := q_l1Next l hl hb at_ b.length h0 (by omega)
    have hi1 := hi1 (by omega)
    obtain ⟨e, he⟩ := q_l1Chance l hl hb (at_ + 1) 2 (by omega) (by omega)
    cases e
    · obtain ⟨r, hr, h⟩ := ev_DrawTakeParts_j1 l hl hb (b.take i.toNat) (fun x hx => hbb x (List.mem_of_mem_take hx)) (by rw [List.length_take]; omega) (at_ + 1 + 1) (by omega) (by omega)
      refine ⟨r, Ev.step (fun k => by rw [spec_DrawTakeParts.j0, if_pos rfl]) ?_, h⟩
      exact ev_opt hi (ev_opt he (ev_neg (by simp) (ev_pos (by omega) (ev_pos (by omega) hr))))
    · obtain ⟨v, hv, hv0, hv1, _⟩ := q_l1Next l hl hb (at_ + 1 + 1) 256 (by omega) (by omega)
      obtain ⟨r, hr, h⟩ := ev_DrawTakeParts_j1 l hl hb (b.set i.toNat (v % 256)) (fun x hx => by
        rcases List.mem_or_eq_of_mem_set hx with hx | rfl
        · exact hbb x hx
        · omega) (by rw [List.length_set]; exact hbl) (at_ + 1 + 1 + 1) (by omega) (by omega)
      refine ⟨r, Ev.step (fun k => by rw [spec_DrawTakeParts.j0, if_pos rfl]) ?_, h⟩
      exact ev_opt hi (ev_opt he (ev_pos rfl (ev_opt hv (ev_pos (by omega) (ev_pos (by omega) hr)))))
theorem ev_DrawTakeParts (l : List Int) (hl : l.length ≤ 1048576 + 1) (hb : Bytes l) : ∃ r, Ev (fun k => spec_DrawTakeParts.f k l) r ∧ Bytes r ∧ r.length ≤ 1000 := by
  obtain ⟨ps, hps, hpo⟩ := ev_DrawPutParts l hl hb
  have hpp := ev_spec_PutParts (ps := ps) (fun p hp => Nat.le_trans (hpo.2 p hp).2 (by omega))
  obtain ⟨hbb, hbl⟩ := ppF_bytes hpo
  generalize ppF ps = z at hpp hbb hbl
  obtain ⟨c, b⟩ := z
  by_cases h : (b.length : Int) > 0
  · obtain ⟨e, he⟩ := q_l1Chance l hl hb 0 3 (by omega) (by omega)
    obtain ⟨r, hr, hro⟩ := ev_DrawTakeParts_j0 l hl hb b hbb (Nat.le_trans hbl (by omega)) e (fun _ => by omega) (0 + 1) (by omega) (by omega)
    refine ⟨r, ?_, hro⟩
    unfold spec_DrawTakeParts.f
    exact ev_opt (q_l1Source l) (Ev.bind hps (Ev.bind hpp (ev_pos h (ev_opt he hr))))
  · obtain ⟨r, hr, hro⟩ := ev_DrawTakeParts_j0 l hl hb b hbb (Nat.le_trans hbl (by omega)) false (by simp) 0 (by omega) (by omega)
    refine ⟨r, ?_, hro⟩
    unfold spec_DrawTakeParts.f
    exact ev_opt (q_l1Source l) (Ev.bind hps (Ev.bind hpp (ev_neg h hr)))

theorem ev_impl_TakeParts_loop : ∀ (f : Nat) (l : List Int) (x : List (List Int)), l.length ≤ f → Bytes l → l.length ≤ 400 → x.length ≤ 20 → Ev (fun k => impl_TakeParts.l0 k l x) (tp f l x) := by
  intro f
  induction f with
  | zero =>
    intro l x hl _ _ _
    have : l = [] := List.eq_nil_of_length_eq_zero (by omega)
    subst this
    refine Ev.step (fun k => by rw [impl_TakeParts.l0, if_neg (by simp)]) ?_
    simp only [tp]
    exact ev_some _
  | succ f ih =>
    intro l x hl hb hm hx
    cases l with
    | nil =>
      refine Ev.step (fun k => by rw [impl_TakeParts.l0, if_neg (by simp)]) ?_
      simp only [tp]
      exact ev_some _
    | cons b r =>
      have hb0 := hb b (by simp)
      simp only [List.length_cons] at hl hm
      have hr : rd (b :: r) 0 = b := by simp [rd]
      have hn : (1 + b).toNat = b.toNat + 1 := by omega
      rw [tp]
      refine Ev.step (fun k => by rw [impl_TakeParts.l0, hr, w64 (x := b) (by omega) (by omega), w64 (x := 1 + b) (by omega) (by omega), if_pos (by simp), if_pos (by simp)]) ?_
      simp only [List.length_cons]
      by_cases h1 : (r.length : Int) < b
      · rw [if_pos (.inl h1)]
        exact ev_pos (by omega) (ev_some _)
      · refine ev_neg (by omega) ?_
        by_cases h2 : x.length = 20
        · rw [if_pos (.inr h2)]
          exact ev_pos (by omega) (ev_some _)
        · rw [if_neg (by omega)]
          refine ev_neg (by omega) (ev_opt rfl (ev_pos (by omega) (ev_pos (by omega) (ev_opt rfl (ev_pos (by simp; omega) (ev_pos (by omega) (ev_pos (by omega) ?_)))))))
          rw [hn, List.drop_succ_cons, List.take_succ_cons, List.drop_succ_cons, List.drop_zero, List.nil_append]
          exact ih _ _ (by rw [List.length_drop]; omega) (fun y hy => hb y (List.mem_cons_of_mem _ (List.mem_of_mem_drop hy))) (by rw [List.length_drop]; omega) (by simp; omega)
theorem ev_impl_TakeParts {l : List Int} (hb : Bytes l) : Ev (fun k => impl_TakeParts.f k l) (tpF l) := by
  unfold impl_TakeParts.f tpF
  by_cases h : 400 < l.length
  · rw [if_pos h]
    exact ev_pos (by omega) (ev_some _)
  · rw [if_neg h]
    exact ev_neg (by omega) (ev_impl_TakeParts_loop _ l [] (by omega) hb (by omega) (by simp))

theorem ev_spec_l1Parts_loop (l : List Int) (hb : Bytes l) (hm : l.length ≤ 400) : ∀ (f i : Nat) (x : List (List Int)), l.length ≤ i + f → i ≤ l.length → x.length ≤ 20 → ∃ ps ok, Ev (fun k => spec_l1Parts.l0 k l x i) (ps, ok) ∧ (if ok = true then (0, ps) else (5, [])) = tp f (l.drop i) x := by
  intro f
  induction f with
  | zero =>
    intro i x hl hi _
    obtain rfl : i = l.length := by omega
    refine ⟨x, true, Ev.step (fun k => by rw [spec_l1Parts.l0, if_neg (by omega)]) ?_, by rw [List.drop_length]; simp [tp]⟩
    exact ev_some _
  | succ f ih =>
    intro i x hl hi hx
    by_cases hlt : i < l.length
    · have hb0 := hb _ (rd_mem l i (by omega) (by omega))
      have hd : l.drop i = rd l i :: l.drop (i + 1) := by rw [List.drop_eq_getElem_cons hlt, rd_nat l i hlt]
      have c1 : wrap64 ((i : Int) + 1) = ((i + 1 : Nat) : Int) := w64 (by omega) (by omega)
      have c2 : wrap64 (rd l i) = rd l i := w64 (by omega) (by omega)
      have c3 : wrap64 (((i + 1 : Nat) : Int) + rd l i) = ((i + 1 + (rd l i).toNat : Nat) : Int) := by rw [w64 (by omega) (by omega)]; omega
      rw [hd, tp, List.length_drop]
      by_cases h1 : ((l.length - (i + 1) : Nat) : Int) < rd l i
      · refine ⟨[], false, ?_, by rw [if_neg (by simp), if_pos (Or.inl h1)]⟩
        refine Ev.step (fun k => by rw [spec_l1Parts.l0, if_pos (by omega), if_pos (by omega), c1, c2, c3, if_pos (by omega)]) ?_
        exact ev_some _
      · by_cases h2 : x.length = 20
        · refine ⟨[], false, ?_, by rw [if_neg (by simp), if_pos (Or.inr h2)]⟩
          refine Ev.step (fun k => by rw [spec_l1Parts.l0, if_pos (by omega), if_pos (by omega), c1, c2, c3, if_neg (by omega), if_pos (by omega)]) ?_
          exact ev_some _
        · rw [if_neg (by omega)]
          have hcut : ((l.take (i + 1 + (rd l i).toNat)).drop (i + 1)) = (l.drop (i + 1)).take (rd l i).toNat := by
            rw [List.drop_take]
            congr 1
            omega
          obtain ⟨ps, ok, h3, h4⟩ := ih (i + 1 + (rd l i).toNat) (x ++ [(l.drop (i + 1)).take (rd l i).toNat]) (by omega) (by omega) (by simp; omega)
          refine ⟨ps, ok, ?_, by rw [h4, List.drop_drop]⟩
          refine Ev.step (fun k => by rw [spec_l1Parts.l0, if_pos (show (i : Int) < l.length by omega), if_pos (show 0 ≤ (i : Int) by omega), c1, c2, c3, if_neg (by omega), if_neg (by omega)]) ?_
          rw [Int.toNat_natCast, Int.toNat_natCast, hcut]
          refine ev_opt rfl (ev_pos (by omega) (ev_pos (by omega) (ev_pos (by omega) (ev_pos (by simp; omega) (ev_pos (by omega) ?_)))))
          rw [List.nil_append]
          exact h3
    · obtain rfl : i = l.length := by omega
      refine ⟨x, true, Ev.step (fun k => by rw [spec_l1Parts.l0, if_neg (by omega)]) ?_, by rw [List.drop_length]; simp [tp]⟩
      exact ev_some _
theorem ev_spec_TakeParts {l : List Int} (hb : Bytes l) : Ev (fun k => spec_TakeParts.f k l) (tpF l) := by
  unfold spec_TakeParts.f spec_l1Parts.f tpF
  by_cases h : 400 < l.length
  · rw [if_pos h]
    exact ev_pos (by omega) (ev_some _)
  · rw [if_neg h]
    obtain ⟨ps, ok, h1, h2⟩ := ev_spec_l1Parts_loop l hb (by omega) l.length 0 [] (by omega) (by omega) (by simp)
    rw [List.drop_zero] at h2
    refine ev_neg (by omega) (Ev.bind h1 ?_)
    rw [← h2]
    cases ok
    · exact ev_neg (by simp) (ev_some _)
    · exact ev_pos rfl (ev_some _)

theorem ev_impl_PutParts_good (ps : List (List Int)) (hn : ps.length ≤ 20) (hall : ∀ p ∈ ps, p.length ≤ 255) (h4 : (enc ps).length ≤ 400) : ∀ i, i ≤ ps.length → Ev (fun k => impl_PutParts.l0 k (enc (ps.take i)) false ps ps.length i) (0, enc ps) := by
  refine down ps.length ?_ ?_
  · rw [List.take_length]
    refine Ev.step (fun k => by rw [impl_PutParts.l0, if_neg (by omega), if_neg (by simp)]) ?_
    exact ev_some _
  · intro i hi ih
    have h2 := hall _ (List.getElem_mem hi)
    have h3 := enc_take_le ps i
    have h5 := enc_take_le ps (i + 1)
    rw [enc_take_succ ps i hi] at ih h5
    simp only [List.length_append, List.length_cons] at h5
    refine Ev.step (fun k => by rw [impl_PutParts.l0, if_pos (by omega), if_pos (by omega), if_pos (by omega), if_neg (by simp), rdL1_nat ps i hi, w64 (x := ((enc (ps.take i)).length : Int) + 1) (by omega) (by omega), w64 (by omega) (by omega), w64 (by omega) (by omega)]) ?_
    refine ev_neg (by omega) (ev_neg (by omega) (ev_pos (by omega) (ev_opt rfl (ev_pos (by simp; omega) ?_))))
    rw [decide_eq_false (by omega), show ((ps[i].length : Nat) : Int) % 256 = ps[i].length from by omega, List.append_assoc]
    exact ih
theorem ev_impl_PutParts_bad (ps : List (List Int)) (hp : ∀ p ∈ ps, p.length ≤ 1000000) (hn : ps.length ≤ 20) (hbad : ¬ ((∀ p ∈ ps, p.length ≤ 255) ∧ (enc ps).length ≤ 400)) : ∀ (d i : Nat), i + d = ps.length → (∀ j : Nat, j < i → ∀ h : j < ps.length, ps[j].length ≤ 255) → (enc (ps.take i)).length ≤ 400 → Ev (fun k => impl_PutParts.l0 k (enc (ps.take i)) false ps ps.length i) (2, []) := by
  intro d
  induction d with
  | zero =>
    intro i hi hj h4
    exfalso
    apply hbad
    refine ⟨?_, ?_⟩
    · intro p hp
      obtain ⟨j, h, rfl⟩ := List.getElem_of_mem hp
      exact hj j (by omega) h
    · rw [List.take_of_length_le (by omega)] at h4
      exact h4
  | succ d ih =>
    intro i hi hj h4
    have hil : i < ps.length := by omega
    have h6 := hp _ (List.getElem_mem hil)
    have h5 := enc_take_succ ps i hil
    refine Ev.step (fun k => by rw [impl_PutParts.l0, if_pos (by omega), if_pos (by omega), if_pos (by omega), if_neg (by simp), rdL1_nat ps i hil, w64 (x := ((enc (ps.take i)).length : Int) + 1) (by omega) (by omega), w64 (by omega) (by omega), w64 (by omega) (by omega)]) ?_
    by_cases h : ps[i].length ≤ 255
    · refine ev_neg (by omega) ?_
      by_cases h7 : (enc (ps.take i)).length + 1 + ps[i].length ≤ 400
      · refine ev_neg (by omega) (ev_pos (by omega) (ev_opt rfl (ev_pos (by simp; omega) ?_)))
        have h8 := ih (i + 1) (by omega) (fun j h1 h2 => by
          by_cases e : j = i
          · subst e; exact h
          · exact hj j (by omega) h2) (by rw [h5, List.length_append, List.length_cons]; omega)
        rw [h5] at h8
        rw [decide_eq_false (by omega), show ((ps[i].length : Nat) : Int) % 256 = ps[i].length from by omega, List.append_assoc]
        exact h8
      · exact ev_pos (by omega) (ev_some _)
    · exact ev_pos (by omega) (ev_some _)
theorem ev_impl_PutParts {ps : List (List Int)} (hp : ∀ p ∈ ps, p.length ≤ 1000000) (hm : ps.length ≤ 1000000) : Ev (fun k => impl_PutParts.f k ps) (ppF ps) := by
  unfold impl_PutParts.f ppF
  by_cases hn : ps.length ≤ 20
  · rw [decide_eq_false (by omega)]
    by_cases hall : (∀ p ∈ ps, p.length ≤ 255) ∧ (enc ps).length ≤ 400
    · rw [if_pos ⟨hn, hall⟩]
      exact ev_impl_PutParts_good ps hn hall.1 hall.2 0 (by omega)
    · rw [if_neg (fun z => hall z.2)]
      exact ev_impl_PutParts_bad ps hp hn hall ps.length 0 (by omega) (fun j h => by omega) (by simp [enc])
  · rw [if_neg (fun z => hn z.1), decide_eq_true (by omega)]
    refine Ev.step (fun k => by rw [impl_PutParts.l0, if_pos (by omega), if_pos (by omega), if_pos (by omega), if_pos rfl]) ?_
    exact ev_some _

theorem lengths_l0 (ps : List (List Int)) (hl : ps.length ≤ 1000) (c : Int) : Ev (fun k => laws_FnLengths.l0 k ps 0 c ps) true := by
  refine count_loop (fun k i => laws_FnLengths.l0 k ps i c ps) ps.length true ?_ ?_
  · intro k
    rw [laws_FnLengths.l0, if_neg (by omega)]
  · intro k i h
    rw [laws_FnLengths.l0, if_pos (by omega), if_pos (by omega), if_pos (by omega), if_pos rfl, w64 (by omega) (by omega)]
    rfl
theorem lengths_j0 (l : List Int) (hl : l.length ≤ 1048576 + 1) (hb : Bytes l) : Ev (fun k => laws_FnLengths.j0 k l false) true := by
  obtain ⟨ps, hps, hpo⟩ := ev_DrawPutParts l hl hb
  have hp1 : ∀ p ∈ ps, p.length ≤ 1000000 := fun p hp => Nat.le_trans (hpo.2 p hp).2 (by omega)
  have hi := ev_impl_PutParts (ps := ps) hp1 (Nat.le_trans hpo.1 (by omega))
  have hs := ev_spec_PutParts (ps := ps) hp1
  have hbb := (ppF_bytes hpo).1
  refine Ev.step (fun k => by rw [laws_FnLengths.j0, if_neg (by simp)]) (Ev.bind hps (Ev.bind hi ?_))
  by_cases hc : ps.length ≤ 20 ∧ (∀ p ∈ ps, p.length ≤ 255) ∧ (enc ps).length ≤ 400
  · have he : ppF ps = (0, enc ps) := by rw [ppF, if_pos hc]
    rw [he] at hbb ⊢
    have ht := ev_impl_TakeParts (l := enc ps) hbb
    have he2 : tpF (enc ps) = (0, ps) := by
      rw [tpF, if_neg (by omega), tp_enc ps _ [] (Nat.le_refl _) hc.2.1 (by simpa using hc.1)]
      rfl
    rw [he2] at ht
    refine ev_pos rfl (Ev.bind ht (ev_pos rfl ?_))
    refine Ev.step (fun k => by rw [laws_FnLengths.j1, if_neg (by simp)]) ?_
    exact lengths_l0 ps (Nat.le_trans hpo.1 (by omega)) 0
  · have he : ppF ps = (2, []) := by rw [ppF, if_neg hc]
    rw [he] at hs ⊢
    exact ev_neg (by simp) (Ev.bind hs (by simpa using ev_some true))
theorem FnLengths : laws_FnLengths.Pure := by
  intro l _ _ hw
  apply Ev.rounds
  have hcb := bytes_wf hw
  unfold laws_FnLengths.f
  refine ev_opt (q_lwBig l) ?_
  by_cases h : (l.length : Int) > 1048576
  · exact ev_pos (by simpa using h) (ev_some _)
  · obtain ⟨d, hd, hdb, hdl⟩ := ev_DrawTakeParts l (by omega) hcb
    have hj := lengths_j0 l (by omega) hcb
    have h1 := ev_impl_TakeParts hdb
    have h2 := ev_spec_TakeParts hdb
    refine ev_neg (by simpa using h) (Ev.bind hd (Ev.bind h1 ?_))
    by_cases hz : (tpF d).1 = 0
    · refine ev_pos hz ?_
      have ht : ∃ qs, tpF d = (0, qs) ∧ enc qs = d ∧ (∀ q ∈ qs, q.length ≤ 255) ∧ qs.length ≤ 20 ∧ d.length ≤ 400 := by
        unfold tpF at hz ⊢
        by_cases h4 : 400 < d.length
        · rw [if_pos h4] at hz
          simp at hz
        · rw [if_neg h4] at hz ⊢
          obtain ⟨qs, e1, e2, e3, e4⟩ := tp_good d.length d [] (tp d.length d []).2 hdb (Nat.le_refl _) (by simp) (by rw [← hz])
          rw [List.nil_append] at e1
          exact ⟨qs, by rw [← e1, ← hz], e2, e3, by rw [← e1]; exact e4, by omega⟩
      obtain ⟨qs, e1, e2, e3, e4, e5⟩ := ht
      rw [e1]
      have hp := ev_impl_PutParts (ps := qs) (fun p hp => Nat.le_trans (e3 p hp) (by omega)) (by omega)
      rw [ppF, if_pos ⟨e4, e3, by rw [e2]; exact e5⟩, e2] at hp
      exact Ev.bind hp (ev_pos rfl hj)
    · refine ev_neg hz (Ev.bind h2 ?_)
      simpa using hj

end Go.Proofs.Ytcelgjhhmkgnhaa.Pure
