
/- Proved: the law FnMeets answers true at every input that Go can hand in (it says: what two selectors have in common holds just the packets that both hold. (P4, P1)) No condition beyond the statement's own. -/
import Derived.Test.YtcelgjhhmkgnhaaPFnMeetsx18
namespace Go.Proofs.Ytcelgjhhmkgnhaa.Pure
open Go.RowKit Go.Proofs.Ytcelgjhhmkgnhaa.PFnMeets Go.Proofs.YtcelgjhhmkgnhaaW.PrintWords Go.Proofs.YtcelgjhhmkgnhaaW.PrintLast Go.Proofs.YtcelgjhhmkgnhaaW.PrintMore
set_option linter.unusedVariables false
set_option linter.unusedSimpArgs false

theorem w64 {x : Int} (h0 : -9223372036854775808 ≤ x) (h1 : x ≤ 9223372036854775807) : wrap64 x = x := by
  unfold wrap64
  omega
theorem tmod_pos {a b : Int} (h : 0 ≤ a) : Int.tmod a b = a % b := Int.tmod_eq_emod_of_nonneg h
theorem tdiv_pos {a b : Int} (h : 0 ≤ a) : Int.tdiv a b = a / b := Int.tdiv_eq_ediv_of_nonneg h
theorem ev_some {α : Type} (r : α) : Ev (fun _ => some r) r := Ev.now r
theorem ev_pos {α : Type} {c : Prop} [Decidable c] {A B : Nat → Option α} {r : α} (h : c) (e : Ev A r) : Ev (fun k => if c then A k else B k) r := by
  simpa only [if_pos h] using e
theorem ev_neg {α : Type} {c : Prop} [Decidable c] {A B : Nat → Option α} {r : α} (h : ¬ c) (e : Ev B r) : Ev (fun k => if c then A k else B k) r := by
  simpa only [if_neg h] using e
theorem ev_opt {α β : Type} {o : Option α} {f : Nat → α → Option β} {a : α} {r : β} (h : o = some a) (e : Ev (fun n => f n a) r) : Ev (fun n => o.bind (f n)) r := by
  simpa only [h, Option.bind_some] using e
theorem ev_to {α : Type} {g : Nat → Option α} {r r' : α} (e : Ev g r) (h : r = r') : Ev g r' := h ▸ e
theorem rd_nat (l : List Int) (i : Nat) (h : i < l.length) : rd l (i : Int) = l[i] := by
  unfold rd
  simp [List.getD_eq_getElem?_getD, h]
theorem rd_mem (l : List Int) (i : Int) (h0 : 0 ≤ i) (h : i < l.length) : rd l i ∈ l := by
  obtain ⟨n, rfl⟩ := Int.eq_ofNat_of_zero_le h0
  rw [rd_nat l n (by omega)]
  exact List.getElem_mem _
theorem u8_range {x : Int} (h : (Lit.int .u8 x).wf = true) : 0 ≤ x ∧ x ≤ 255 := by
  simp [Lit.wf, IntKind.min, IntKind.max, IntKind.signed, IntKind.bits] at h
  omega
theorem ev_cond {α : Type} {c : Prop} [Decidable c] {A B : Nat → Option α} {r r' : α} (hp : c → Ev A r) (hn : ¬ c → Ev B r') : Ev (fun k => if c then A k else B k) (if c then r else r') := by
  by_cases h : c
  · rw [if_pos h]; exact ev_pos h (hp h)
  · rw [if_neg h]; exact ev_neg h (hn h)
theorem ev_succ {α : Type} {g : Nat → Option α} {r : α} (h : ∀ k, g (k + 1) = some r) : Ev g r := Ev.step h (ev_some r)
theorem q_lwBig (l : List Int) : laws_lwBig.f l = some (decide ((l.length : Int) > 1048576)) := rfl

structure Sl where
  fl : Int
  fh : Int
  tl : Int
  th : Int
  pl : Int
  ph : Int
  ql : Int
  qh : Int
  pr : Int
def rok (lo hi most : Int) : Prop := 0 ≤ lo ∧ lo ≤ hi ∧ hi ≤ most
instance (lo hi most : Int) : Decidable (rok lo hi most) := by unfold rok; infer_instance
def selOk (s : Sl) : Prop := rok s.fl s.fh 4294967295 ∧ rok s.tl s.th 4294967295 ∧ rok s.pl s.ph 65535 ∧ rok s.ql s.qh 65535 ∧ 0 ≤ s.pr ∧ s.pr ≤ 255
instance (s : Sl) : Decidable (selOk s) := by unfold selOk; infer_instance
def hasP (p : Int) : Prop := p = 6 ∨ p = 17
instance (p : Int) : Decidable (hasP p) := by unfold hasP; infer_instance
def selPorts (s : Sl) : Prop := s.pr = 0 ∨ hasP s.pr ∨ (s.pl = 0 ∧ s.ph = 65535 ∧ s.ql = 0 ∧ s.qh = 65535)
instance (s : Sl) : Decidable (selPorts s) := by unfold selPorts; infer_instance
def selF (s : Sl) : Int := if selOk s then (if selPorts s then 0 else 1) else 3

def Bytes (l : List Int) : Prop := ∀ x ∈ l, 0 ≤ x ∧ x ≤ 255
theorem bytes_wf {l : List Int} (h : ∀ x ∈ l, (Lit.int .u8 x).wf = true) : Bytes l := fun x hx => u8_range (h x hx)
theorem bytes_append {a b : List Int} (ha : Bytes a) (hb : Bytes b) : Bytes (a ++ b) := by
  intro x hx
  rcases List.mem_append.1 hx with h | h
  · exact ha x h
  · exact hb x h
theorem bytes_nil : Bytes [] := fun x hx => by simp at hx
theorem bytes_one {x : Int} (h : 0 ≤ x ∧ x ≤ 255) : Bytes [x] := fun y hy => by simp at hy; subst hy; exact h

theorem q_l1Next (l : List Int) (hl : l.length ≤ 1048576 + 1) (hb : Bytes l) (at_ n : Int) (h0 : 0 ≤ at_) (h1 : at_ ≤ 1099511627776) :
    ∃ v, spec_l1Next.f l at_ n = some (v, at_ + 1) ∧ 0 ≤ v ∧ (1 ≤ n → v < n) ∧ (n < 1 → v = 0) := by
  unfold spec_l1Next.f
  rw [w64 (x := at_ + 1) (by omega) (by omega), show at_ + 1 - 1 = at_ from by omega, w64 (x := at_) (by omega) (by omega), w64 (x := at_ + 1) (by omega) (by omega)]
  by_cases hn : n < 1
  · exact ⟨0, by rw [if_pos hn], by omega, by omega, fun _ => rfl⟩
  · rw [if_neg hn]
    by_cases hz : (l.length : Int) = 0
    · rw [if_pos hz, if_neg (by omega), w64 (by omega) (by omega), tmod_pos (by omega)]
      exact ⟨_, rfl, Int.emod_nonneg _ (by omega), fun _ => Int.emod_lt_of_pos _ (by omega), by omega⟩
    · have ha := Int.emod_nonneg at_ hz
      have ha2 := Int.emod_lt_of_pos at_ (b := (l.length : Int)) (by omega)
      have hb1 := Int.emod_nonneg (at_ + 1) hz
      have hb2 := Int.emod_lt_of_pos (at_ + 1) (b := (l.length : Int)) (by omega)
      have r1 := hb _ (rd_mem l _ ha ha2)
      have r2 := hb _ (rd_mem l _ hb1 hb2)
      have d1 : 0 ≤ at_ / (l.length : Int) := Int.ediv_nonneg h0 (by omega)
      have d2 : at_ / (l.length : Int) ≤ at_ := Int.ediv_le_self _ h0
      rw [if_neg hz, tmod_pos h0, tmod_pos (a := at_ + 1) (by omega), tdiv_pos h0, if_pos ha, if_pos ha2]
      rw [w64 (x := rd l (at_ % (l.length : Int))) (by omega) (by omega), w64 (x := rd l ((at_ + 1) % (l.length : Int))) (by omega) (by omega), w64 (x := at_ / (l.length : Int)) (by omega) (by omega), w64 (x := at_ / (l.length : Int) * 37) (by omega) (by omega), w64 (x := rd l (at_ % (l.length : Int)) + at_ / (l.length : Int) * 37) (by omega) (by omega), w64 (x := (rd l (at_ % (l.length : Int)) + at_ / (l.length : Int) * 37) * 251) (by omega) (by omega), w64 (x := rd l ((at_ + 1) % (l.length : Int)) * 13) (by omega) (by omega)]
      rw [w64 (x := (rd l (at_ % (l.length : Int)) + at_ / (l.length : Int) * 37) * 251 + rd l ((at_ + 1) % (l.length : Int)) * 13) (by omega) (by omega)]
      rw [w64 (x := (rd l (at_ % (l.length : Int)) + at_ / (l.length : Int) * 37) * 251 + rd l ((at_ + 1) % (l.length : Int)) * 13 + at_) (by omega) (by omega)]
      by_cases h2 : n > 200
      · rw [if_pos h2, if_pos hb1, if_pos hb2, if_neg (by omega), tmod_pos (by omega)]
        exact ⟨_, rfl, Int.emod_nonneg _ (by omega), fun _ => Int.emod_lt_of_pos _ (by omega), by omega⟩
      · rw [if_neg h2, if_neg (by omega), tmod_pos (by omega)]
        exact ⟨_, rfl, Int.emod_nonneg _ (by omega), fun _ => Int.emod_lt_of_pos _ (by omega), by omega⟩

theorem q_l1Pick (l : List Int) (hl : l.length ≤ 1048576 + 1) (hb : Bytes l) (at_ : Int) (c : List Int) (h0 : 0 ≤ at_) (h1 : at_ ≤ 1099511627776) (hc : 1 ≤ c.length) :
    ∃ v, spec_l1Pick.f l at_ c = some (v, at_ + 1) ∧ v ∈ c := by
  obtain ⟨i, hi, hi0, hi1, _⟩ := q_l1Next l hl hb at_ c.length h0 h1
  have hi1 := hi1 (by omega)
  unfold spec_l1Pick.f
  rw [hi, Option.bind_some, if_pos hi0, if_pos hi1]
  exact ⟨_, rfl, rd_mem c i hi0 hi1⟩

theorem q_spec_HasPorts (a : Int) : spec_HasPorts.f a = some (decide (a = 6 ∨ a = 17)) := by
  unfold spec_HasPorts.f
  by_cases h : a = 6
  · simp [h]
  · by_cases g : a = 17
    · simp [g]
    · simp [h, g]
theorem q_impl_HasPorts (a : Int) : impl_HasPorts.f a = some (decide (a = 6 ∨ a = 17)) := by
  unfold impl_HasPorts.f
  by_cases h : a = 6
  · simp [h]
  · by_cases g : a = 17
    · simp [g]
    · simp [h, g]

theorem q_l3Addresses (l : List Int) (hl : l.length ≤ 1048576 + 1) (hb : Bytes l) (at_ : Int) (h0 : 0 ≤ at_) (h1 : at_ ≤ 1000000000) : ∃ a b c, spec_l3Addresses.f l at_ = some (a, b, c) ∧ at_ ≤ c ∧ c ≤ at_ + 3 := by
  obtain ⟨v, hv, _⟩ := q_l1Next l hl hb at_ 4 h0 (by omega)
  obtain ⟨u, hu, _⟩ := q_l1Next l hl hb (at_ + 1) 6 (by omega) (by omega)
  obtain ⟨x, hx, _⟩ := q_l1Next l hl hb (at_ + 1 + 1) 5 (by omega) (by omega)
  unfold spec_l3Addresses.f
  simp only [hv, Option.bind_some]
  by_cases h : v = 0
  · rw [if_pos h]
    exact ⟨_, _, _, rfl, by omega, by omega⟩
  · rw [if_neg h]
    by_cases g : v = 1
    · simp only [if_pos g, hu, Option.bind_some]
      exact ⟨_, _, _, rfl, by omega, by omega⟩
    · simp only [if_neg g, hu, hx, Option.bind_some]
      exact ⟨_, _, _, rfl, by omega, by omega⟩
theorem q_l3Ports (l : List Int) (hl : l.length ≤ 1048576 + 1) (hb : Bytes l) (at_ : Int) (h0 : 0 ≤ at_) (h1 : at_ ≤ 1000000000) : ∃ a b c, spec_l3Ports.f l at_ = some (a, b, c) ∧ at_ ≤ c ∧ c ≤ at_ + 2 := by
  obtain ⟨v, hv, _⟩ := q_l1Next l hl hb at_ 3 h0 (by omega)
  obtain ⟨u, hu, _⟩ := q_l1Pick l hl hb (at_ + 1) [80, 443, 22] (by omega) (by omega) (by simp)
  unfold spec_l3Ports.f spec_l3All.f
  simp only [hv, Option.bind_some]
  by_cases h : v = 0
  · simp only [if_pos h, hu, Option.bind_some]
    exact ⟨_, _, _, rfl, by omega, by omega⟩
  · rw [if_neg h]
    by_cases g : v = 1
    · rw [if_pos g]
      exact ⟨_, _, _, rfl, by omega, by omega⟩
    · rw [if_neg g]
      exact ⟨_, _, _, rfl, by omega, by omega⟩
theorem ev_l3Sel (l : List Int) (hl : l.length ≤ 1048576 + 1) (hb : Bytes l) (at_ : Int) (h0 : 0 ≤ at_) (h1 : at_ ≤ 100000000) : ∃ (s : Sl) (c : Int), Ev (fun k => spec_l3Sel.f k l at_) (s.fl, s.fh, s.tl, s.th, s.pl, s.ph, s.ql, s.qh, s.pr, c) ∧ at_ ≤ c ∧ c ≤ at_ + 12 := by
  obtain ⟨a, b, c, e1, g1, g2⟩ := q_l3Addresses l hl hb at_ h0 (by omega)
  obtain ⟨a', b', c', e2, g3, g4⟩ := q_l3Addresses l hl hb c (by omega) (by omega)
  obtain ⟨p, hp, _⟩ := q_l1Pick l hl hb c' [0, 6, 17, 6, 0, 1, 50] (by omega) (by omega) (by simp)
  obtain ⟨x, y, z, e3, g5, g6⟩ := q_l3Ports l hl hb (c' + 1) (by omega) (by omega)
  have hj : ∀ d : Bool, ∃ (s : Sl) (e : Int), (∀ k, spec_l3Sel.j0 (k + 1) d l (c' + 1) a b a' b' 0 65535 0 65535 p = some (s.fl, s.fh, s.tl, s.th, s.pl, s.ph, s.ql, s.qh, s.pr, e)) ∧ at_ ≤ e ∧ e ≤ at_ + 12 := by
    intro d
    cases d
    · exact ⟨⟨a, b, a', b', 0, 65535, 0, 65535, p⟩, c' + 1, fun k => by rw [spec_l3Sel.j0, if_neg (by simp)], by omega, by omega⟩
    · exact ⟨⟨a, b, a', b', 0, 65535, x, y, p⟩, z, fun k => by rw [spec_l3Sel.j0, if_pos rfl, spec_l3All.f, Option.bind_some, e3, Option.bind_some], by omega, by omega⟩
  obtain ⟨s, e, hs, g7, g8⟩ := hj (decide (p = 0 ∨ p = 6 ∨ p = 17))
  refine ⟨s, e, ev_succ (fun k => ?_), g7, g8⟩
  unfold spec_l3Sel.f spec_l3All.f
  simp only [e1, e2, hp, q_spec_HasPorts, Option.bind_some]
  by_cases h : p = 0
  · rw [if_pos h, ← hs k]
    simp [h]
  · rw [if_neg h, ← hs k]
    simp [h]

theorem ev_l3Bent (l : List Int) (hl : l.length ≤ 1048576 + 1) (hb : Bytes l) (at_ : Int) (h0 : 0 ≤ at_) (h1 : at_ ≤ 10000000) : ∃ (s : Sl) (c : Int), Ev (fun k => spec_l3Bent.f k l at_) (s.fl, s.fh, s.tl, s.th, s.pl, s.ph, s.ql, s.qh, s.pr, c) ∧ at_ ≤ c ∧ c ≤ at_ + 14 := by
  obtain ⟨s, c, e, g1, g2⟩ := ev_l3Sel l hl hb at_ h0 (by omega)
  obtain ⟨v, hv, _⟩ := q_l1Next l hl hb c 16 (by omega) (by omega)
  have P := fun (xs : List Int) (hx : 1 ≤ xs.length) => q_l1Pick l hl hb (c + 1) xs (by omega) (by omega) hx
  unfold spec_l3Bent.f
  obtain ⟨u0, e0, _⟩ := P [-1, wrap64 (s.fh + 1), 4611686018427387904] (by simp)
  obtain ⟨u1, e1, _⟩ := P [4294967296, -1] (by simp)
  obtain ⟨u2, e2, _⟩ := P [65536, 5] (by simp)
  obtain ⟨u3, e3, _⟩ := P [-1, 256, 1, 255] (by simp)
  by_cases h : v = 0
  · exact ⟨⟨u0, s.fh, s.tl, s.th, s.pl, s.ph, s.ql, s.qh, s.pr⟩, _, Ev.bind e (ev_opt hv (ev_pos h (ev_opt e0 (ev_some _)))), by omega, by omega⟩
  by_cases h2 : v = 1
  · exact ⟨⟨s.fl, s.fh, s.tl, u1, s.pl, s.ph, s.ql, s.qh, s.pr⟩, _, Ev.bind e (ev_opt hv (ev_neg h (ev_pos h2 (ev_opt e1 (ev_some _))))), by omega, by omega⟩
  by_cases h3 : v = 2
  · exact ⟨⟨s.fl, s.fh, s.tl, s.th, s.pl, s.ph, s.ql, u2, s.pr⟩, _, Ev.bind e (ev_opt hv (ev_neg h (ev_neg h2 (ev_pos h3 (ev_opt e2 (ev_some _)))))), by omega, by omega⟩
  by_cases h4 : v = 3
  · exact ⟨⟨s.fl, s.fh, s.tl, s.th, s.pl, s.ph, s.ql, s.qh, u3⟩, _, Ev.bind e (ev_opt hv (ev_neg h (ev_neg h2 (ev_neg h3 (ev_pos h4 (ev_opt e3 (ev_some _))))))), by omega, by omega⟩
  · exact ⟨s, _, Ev.bind e (ev_opt hv (ev_neg h (ev_neg h2 (ev_neg h3 (ev_neg h4 (ev_some _)))))), by omega, by omega⟩

theorem q_l1Source (l : List Int) : spec_l1Source.f l = some (l, 0) := rfl

theorem ev_l3Two (l : List Int) (hl : l.length ≤ 1048576 + 1) (hb : Bytes l) : ∃ a b : Sl, Ev (fun k => spec_l3Two.f k l) (a.fl, a.fh, a.tl, a.th, a.pl, a.ph, a.ql, a.qh, a.pr, b.fl, b.fh, b.tl, b.th, b.pl, b.ph, b.ql, b.qh, b.pr) := by
  obtain ⟨a, c, ea, g1, g2⟩ := ev_l3Bent l hl hb 0 (by omega) (by omega)
  obtain ⟨b, d, eb, g3, g4⟩ := ev_l3Bent l hl hb c (by omega) (by omega)
  obtain ⟨v, hv, _⟩ := q_l1Next l hl hb d 4 (by omega) (by omega)
  have hc : spec_l1Chance.f l d 4 = some ((v == 0), d + 1) := by
    unfold spec_l1Chance.f
    rw [hv, Option.bind_some]
  unfold spec_l3Two.f
  by_cases h : v = 0
  · exact ⟨a, a, ev_opt (q_l1Source l) (Ev.bind ea (Ev.bind eb (ev_opt hc (ev_pos (beq_iff_eq.mpr h) (ev_some _)))))⟩
  · exact ⟨a, b, ev_opt (q_l1Source l) (Ev.bind ea (Ev.bind eb (ev_opt hc (ev_neg (by simpa using h) (ev_some _)))))⟩

theorem ev_l1Some_loop (l : List Int) (hl : l.length ≤ 1048576 + 1) (hb : Bytes l) : ∀ (d : Nat) (n : Int) (out : List Int) (at_ : Int), n.toNat = d → d ≤ 68719476736 → out.length + d ≤ 68719476736 → Bytes out → 0 ≤ at_ → at_ + 3 * d ≤ 1099511627776 →
    ∃ r, Ev (fun k => spec_l1Some.l0 k n out l at_) (r, at_ + 3 * d) ∧ Bytes r ∧ r.length = out.length + d := by
  intro d
  induction d with
  | zero =>
    intro n out at_ hn _ _ ho h0 h1
    refine ⟨out, Ev.step (fun k => by rw [spec_l1Some.l0, if_neg (by omega)]) ?_, ho, rfl⟩
    simpa using ev_some (out, at_)
  | succ d ih =>
    intro n out at_ hn hd hlo ho h0 h1
    obtain ⟨a, ha, ha0, ha1, _⟩ := q_l1Next l hl hb at_ 256 h0 (by omega)
    obtain ⟨b, hb_, hb0, hb1, _⟩ := q_l1Next l hl hb (at_ + 1) 256 (by omega) (by omega)
    obtain ⟨c, hc, hcm⟩ := q_l1Pick l hl hb (at_ + 1 + 1) [a, b, 0, 255] (by omega) (by omega) (by simp)
    obtain ⟨r, hr, hrb, hrl⟩ := ih (n - 1) (out ++ [c % 256]) (at_ + 1 + 1 + 1) (by omega) (by omega) (by simp; omega) (bytes_append ho (bytes_one (by omega))) (by omega) (by omega)
    refine ⟨r, Ev.step (fun k => by rw [spec_l1Some.l0, if_pos (by omega)]) ?_, hrb, by rw [hrl, List.length_append]; simp; omega⟩
    refine ev_opt ha (ev_opt hb_ (ev_opt hc (ev_pos (by omega) ?_)))
    rw [w64 (by omega) (by omega), show at_ + 3 * ((d + 1 : Nat) : Int) = at_ + 1 + 1 + 1 + 3 * d from by omega]
    exact hr
theorem ev_l1Some (l : List Int) (hl : l.length ≤ 1048576 + 1) (hb : Bytes l) (n at_ : Int) (hn : n ≤ 68719476736) (h0 : 0 ≤ at_) (h1 : at_ + 3 * n ≤ 1099511627776) (h2 : at_ ≤ 1099511627776) :
    ∃ r, Ev (fun k => spec_l1Some.f k l at_ n) (r, at_ + 3 * n.toNat) ∧ Bytes r ∧ r.length = n.toNat := by
  obtain ⟨r, hr, hrb, hrl⟩ := ev_l1Some_loop l hl hb n.toNat n [] at_ rfl (by omega) (by simp; omega) bytes_nil h0 (by omega)
  exact ⟨r, hr, hrb, by simpa using hrl⟩

structure Pk where
  fr : Int
  to_ : Int
  pr : Int
  tl : Int
  fp : Int
  tp : Int
  ld : List Int
def pktOk (p : Pk) : Prop := (0 ≤ p.fr ∧ p.fr ≤ 4294967295) ∧ (0 ≤ p.to_ ∧ p.to_ ≤ 4294967295) ∧ (1 ≤ p.pr ∧ p.pr ≤ 255) ∧ (1 ≤ p.tl ∧ p.tl ≤ 255) ∧ (0 ≤ p.fp ∧ p.fp ≤ 65535) ∧ (0 ≤ p.tp ∧ p.tp ≤ 65535)
instance (p : Pk) : Decidable (pktOk p) := by unfold pktOk; infer_instance
def pktPorts (p : Pk) : Prop := hasP p.pr ∨ (p.fp = 0 ∧ p.tp = 0)
instance (p : Pk) : Decidable (pktPorts p) := by unfold pktPorts; infer_instance
def pktF (p : Pk) : Int := if pktOk p then (if pktPorts p then (if 200 < p.ld.length then 2 else 0) else 1) else 3
theorem ev_succ2 {α : Type} {g : Nat → Option α} {r : α} (h : ∀ k, g (k + 2) = some r) : Ev g r := Ev.step (f := fun k => g (k + 1)) (fun k => rfl) (ev_succ h)

theorem q_l2DrawAddress (l : List Int) (hl : l.length ≤ 1048576 + 1) (hb : Bytes l) (at_ : Int) (h0 : 0 ≤ at_) (h1 : at_ ≤ 1000000000) : ∃ a, spec_l2DrawAddress.f l at_ = some (a, at_ + 4) := by
  obtain ⟨v, hv, _⟩ := q_l1Next l hl hb at_ 6 h0 (by omega)
  obtain ⟨u, hu, _⟩ := q_l1Next l hl hb (at_ + 1) 6 (by omega) (by omega)
  obtain ⟨x, hx, _⟩ := q_l1Next l hl hb (at_ + 1 + 1) 4 (by omega) (by omega)
  obtain ⟨p, hp, _⟩ := q_l1Pick l hl hb (at_ + 1 + 1 + 1) [wrap64 (167772160 + v), wrap64 (167772160 + u), wrap64 (167838000 + x), 0, 4294967295] (by omega) (by omega) (by simp)
  unfold spec_l2DrawAddress.f
  simp only [hv, hu, hx, hp, Option.bind_some]
  exact ⟨p, by rw [show at_ + 1 + 1 + 1 + 1 = at_ + 4 from by omega]⟩
theorem ev_l2Packet (l : List Int) (hl : l.length ≤ 1048576 + 1) (hb : Bytes l) (at_ : Int) (h0 : 0 ≤ at_) (h1 : at_ ≤ 10000000) : ∃ (p : Pk) (c : Int), Ev (fun k => spec_l2Packet.f k l at_) (p.fr, p.to_, p.pr, p.tl, p.fp, p.tp, p.ld, c) ∧ p.ld.length ≤ 8 ∧ at_ ≤ c ∧ c ≤ at_ + 40 := by
  obtain ⟨a, ea⟩ := q_l2DrawAddress l hl hb at_ h0 (by omega)
  obtain ⟨b, eb⟩ := q_l2DrawAddress l hl hb (at_ + 4) (by omega) (by omega)
  obtain ⟨pr, ep, _⟩ := q_l1Pick l hl hb (at_ + 4 + 4) [6, 17, 6, 17, 1, 50] (by omega) (by omega) (by simp)
  obtain ⟨tl, et, _⟩ := q_l1Pick l hl hb (at_ + 4 + 4 + 1) [64, 1, 2, 255] (by omega) (by omega) (by simp)
  obtain ⟨n, en, hn0, hn1, _⟩ := q_l1Next l hl hb (at_ + 4 + 4 + 1 + 1) 9 (by omega) (by omega)
  have hn := hn1 (by omega)
  obtain ⟨ld, es, _, hll⟩ := ev_l1Some l hl hb n (at_ + 4 + 4 + 1 + 1 + 1) (by omega) (by omega) (by omega) (by omega)
  generalize hc : at_ + 4 + 4 + 1 + 1 + 1 + 3 * (n.toNat : Int) = c at es
  obtain ⟨x, ex, _⟩ := q_l1Next l hl hb c 65536 (by omega) (by omega)
  obtain ⟨fp, ef, _⟩ := q_l1Pick l hl hb (c + 1) [80, 443, x, 0] (by omega) (by omega) (by simp)
  obtain ⟨y, ey, _⟩ := q_l1Next l hl hb (c + 1 + 1) 65536 (by omega) (by omega)
  obtain ⟨tp, eq, _⟩ := q_l1Pick l hl hb (c + 1 + 1 + 1) [80, 443, y, 22] (by omega) (by omega) (by simp)
  unfold spec_l2Packet.f
  by_cases h : pr = 6 ∨ pr = 17
  · refine ⟨⟨a, b, pr, tl, fp, tp, ld⟩, _, ev_opt ea (ev_opt eb (ev_opt ep (ev_opt et (ev_opt en (Ev.bind es (ev_opt (q_spec_HasPorts pr) (ev_pos (by simpa using h) (ev_opt ex (ev_opt ef (ev_opt ey (ev_opt eq (ev_some _)))))))))))), ?_, ?_, ?_⟩ <;> simp only <;> omega
  · refine ⟨⟨a, b, pr, tl, 0, 0, ld⟩, _, ev_opt ea (ev_opt eb (ev_opt ep (ev_opt et (ev_opt en (Ev.bind es (ev_opt (q_spec_HasPorts pr) (ev_neg (by simpa using h) (ev_some _)))))))), ?_, ?_, ?_⟩ <;> simp only <;> omega
theorem ev_l2Bent (l : List Int) (hl : l.length ≤ 1048576 + 1) (hb : Bytes l) (at_ : Int) (h0 : 0 ≤ at_) (h1 : at_ ≤ 10000000) : ∃ (p : Pk) (c : Int), Ev (fun k => spec_l2Bent.f k l at_) (p.fr, p.to_, p.pr, p.tl, p.fp, p.tp, p.ld, c) ∧ p.ld.length ≤ 201 ∧ at_ ≤ c ∧ c ≤ at_ + 42 := by
  obtain ⟨p, c, e, hl8, g1, g2⟩ := ev_l2Packet l hl hb at_ h0 h1
  obtain ⟨v, hv, _⟩ := q_l1Next l hl hb c 20 (by omega) (by omega)
  have P := fun (xs : List Int) (hx : 1 ≤ xs.length) => q_l1Pick l hl hb (c + 1) xs (by omega) (by omega) hx
  obtain ⟨u0, e0, _⟩ := P [-1, 4294967296] (by simp)
  obtain ⟨u2, e2, _⟩ := P [0, 256, 255, -1] (by simp)
  obtain ⟨u3, e3, _⟩ := P [0, 256, -1] (by simp)
  obtain ⟨u4, e4, _⟩ := P [-1, 65536, 5] (by simp)
  obtain ⟨m, em, hm0, hm1, _⟩ := q_l1Next l hl hb (c + 1) 2 (by omega) (by omega)
  have hm := hm1 (by omega)
  have hw : wrap64 (200 + m) = 200 + m := w64 (by omega) (by omega)
  unfold spec_l2Bent.f
  by_cases h0 : v = 0
  · exact ⟨⟨u0, p.to_, p.pr, p.tl, p.fp, p.tp, p.ld⟩, _, Ev.bind e (ev_opt hv (ev_pos h0 (ev_opt e0 (ev_some _)))), by simp only; omega, by omega, by omega⟩
  by_cases h1 : v = 1
  · exact ⟨⟨p.fr, u0, p.pr, p.tl, p.fp, p.tp, p.ld⟩, _, Ev.bind e (ev_opt hv (ev_neg h0 (ev_pos h1 (ev_opt e0 (ev_some _))))), by simp only; omega, by omega, by omega⟩
  by_cases h2 : v = 2
  · exact ⟨⟨p.fr, p.to_, u2, p.tl, p.fp, p.tp, p.ld⟩, _, Ev.bind e (ev_opt hv (ev_neg h0 (ev_neg h1 (ev_pos h2 (ev_opt e2 (ev_some _)))))), by simp only; omega, by omega, by omega⟩
  by_cases h3 : v = 3
  · exact ⟨⟨p.fr, p.to_, p.pr, u3, p.fp, p.tp, p.ld⟩, _, Ev.bind e (ev_opt hv (ev_neg h0 (ev_neg h1 (ev_neg h2 (ev_pos h3 (ev_opt e3 (ev_some _))))))), by simp only; omega, by omega, by omega⟩
  by_cases h4 : v = 4
  · exact ⟨⟨p.fr, p.to_, p.pr, p.tl, u4, p.tp, p.ld⟩, _, Ev.bind e (ev_opt hv (ev_neg h0 (ev_neg h1 (ev_neg h2 (ev_neg h3 (ev_pos h4 (ev_opt e4 (ev_some _)))))))), by simp only; omega, by omega, by omega⟩
  by_cases h5 : v = 5
  · exact ⟨⟨p.fr, p.to_, p.pr, p.tl, p.fp, u4, p.ld⟩, _, Ev.bind e (ev_opt hv (ev_neg h0 (ev_neg h1 (ev_neg h2 (ev_neg h3 (ev_neg h4 (ev_pos h5 (ev_opt e4 (ev_some _))))))))), by simp only; omega, by omega, by omega⟩
  by_cases h6 : v = 6
  · refine ⟨⟨p.fr, p.to_, p.pr, p.tl, p.fp, p.tp, List.replicate (200 + m).toNat 0⟩, c + 1 + 1, Ev.bind e (ev_opt hv (ev_neg h0 (ev_neg h1 (ev_neg h2 (ev_neg h3 (ev_neg h4 (ev_neg h5 (ev_pos h6 (ev_opt em ?_))))))))), by simp only [List.length_replicate]; omega, by omega, by omega⟩
    rw [hw]
    exact ev_pos (by omega) (ev_pos (by omega) (ev_to (ev_some _) rfl))
  · exact ⟨⟨p.fr, p.to_, p.pr, p.tl, p.fp, p.tp, p.ld⟩, _, Ev.bind e (ev_opt hv (ev_neg h0 (ev_neg h1 (ev_neg h2 (ev_neg h3 (ev_neg h4 (ev_neg h5 (ev_neg h6 (ev_some _))))))))), by simp only; omega, by omega, by omega⟩

def sampleM (s : Sl) : Int × Int × Int × Int × Int × Int × Int × List Int :=
  if selF s = 0 then (if s.pr = 0 then (0, s.fl, s.tl, 6, 64, s.pl, s.ql, []) else if hasP s.pr then (0, s.fl, s.tl, s.pr, 64, s.pl, s.ql, []) else (0, s.fl, s.tl, s.pr, 64, 0, 0, [])) else (selF s, 0, 0, 0, 0, 0, 0, [])

theorem q_spec_l1In (a b c : Int) : spec_l1In.f a b c = some (decide (b ≤ a ∧ a ≤ c)) := by
  unfold spec_l1In.f
  by_cases h : b ≤ a
  · simp [h]
  · simp [h]

theorem q_spec_l3Range (lo hi m : Int) : spec_l3Range.f lo hi m = some (decide (rok lo hi m)) := by
  unfold spec_l3Range.f rok
  by_cases h : 0 ≤ lo
  · by_cases g : lo ≤ hi
    · simp [h, g]
    · simp [h, g]
  · simp [h]
theorem q_spec_SelFault_j0 (k : Nat) (b : Bool) (s : Sl) : spec_SelFault.j0 (k + 1) b s.fl s.fh s.tl s.th s.pl s.ph s.ql s.qh s.pr = some (if b = true then 3 else if selPorts s then 0 else 1) := by
  rw [spec_SelFault.j0]
  simp only [q_spec_HasPorts, spec_l3All.f, Option.bind_some, decide_eq_true_eq]
  unfold selPorts hasP
  cases b
  · by_cases h1 : s.pr = 0
    · simp [h1]
    · by_cases h2 : s.pr = 6 ∨ s.pr = 17
      · simp [h1, h2]
      · by_cases h3 : s.pl = 0 <;> by_cases h4 : s.ph = 65535 <;> by_cases h5 : s.ql = 0 <;> by_cases h6 : s.qh = 65535 <;> simp [h1, h2, h3, h4, h5, h6]
  · simp
theorem q_spec_SelFault (k : Nat) (s : Sl) : spec_SelFault.f (k + 1) s.fl s.fh s.tl s.th s.pl s.ph s.ql s.qh s.pr = some (selF s) := by
  unfold spec_SelFault.f
  simp only [q_spec_l3Range, q_spec_l1In, q_spec_SelFault_j0, Option.bind_some, decide_eq_true_eq]
  unfold selF selOk
  by_cases h1 : rok s.fl s.fh 4294967295 <;> by_cases h2 : rok s.tl s.th 4294967295 <;> by_cases h3 : rok s.pl s.ph 65535 <;> by_cases h4 : rok s.ql s.qh 65535 <;> by_cases h5 : 0 ≤ s.pr ∧ s.pr ≤ 255 <;> simp [h1, h2, h3, h4, h5]
theorem ev_spec_SelFault (s : Sl) : Ev (fun k => spec_SelFault.f k s.fl s.fh s.tl s.th s.pl s.ph s.ql s.qh s.pr) (selF s) := ev_succ (fun k => q_spec_SelFault k s)

theorem ev_spec_SampleOf (s : Sl) : Ev (fun k => spec_SampleOf.f k s.fl s.fh s.tl s.th s.pl s.ph s.ql s.qh s.pr) (sampleM s) := by
  unfold spec_SampleOf.f sampleM spec_l2Bad.f
  simp only [q_spec_HasPorts, Option.bind_some]
  refine Ev.bind (ev_spec_SelFault s) (ev_cond (fun h => ?_) (fun h => ev_some _))
  refine ev_cond (fun h => ev_to (ev_some _) ?_) (fun h => ev_to (ev_some _) ?_)
  · unfold spec_SampleOf.p
    rw [if_pos (by decide)]
  · unfold spec_SampleOf.p
    by_cases g : s.pr = 6 ∨ s.pr = 17
    · rw [if_pos (decide_eq_true g), if_pos (show hasP s.pr from g)]
    · rw [if_neg (by simpa using g), if_neg (show ¬ hasP s.pr from g)]

theorem ev_DrawHolds (l : List Int) (hl : l.length ≤ 1048576 + 1) (hb : Bytes l) : ∃ (s : Sl) (p : Pk), Ev (fun k => spec_DrawHolds.f k l) (s.fl, s.fh, s.tl, s.th, s.pl, s.ph, s.ql, s.qh, s.pr, p.fr, p.to_, p.pr, p.tl, p.fp, p.tp, p.ld) ∧ p.ld.length ≤ 201 := by
  obtain ⟨s, c, es, g1, g2⟩ := ev_l3Bent l hl hb 0 (by omega) (by omega)
  obtain ⟨p, d, ep, hll, g3, g4⟩ := ev_l2Bent l hl hb c (by omega) (by omega)
  obtain ⟨v, hv, _⟩ := q_l1Next l hl hb d 2 (by omega) (by omega)
  have hc : spec_l1Chance.f l d 2 = some ((v == 0), d + 1) := by
    unfold spec_l1Chance.f
    rw [hv, Option.bind_some]
  have hm := ev_spec_SampleOf s
  have hlen : (sampleM s).2.2.2.2.2.2.2 = [] := by
    unfold sampleM
    repeat' split
    all_goals rfl
  generalize sampleM s = x at hm hlen
  obtain ⟨x0, x1, x2, x3, x4, x5, x6, x7⟩ := x
  obtain rfl : x7 = [] := hlen
  unfold spec_DrawHolds.f
  by_cases h : v = 0
  · by_cases g : x0 = 0
    · exact ⟨s, ⟨x1, x2, x3, x4, x5, x6, []⟩, ev_opt (q_l1Source l) (Ev.bind es (Ev.bind ep (ev_opt hc (ev_pos (beq_iff_eq.mpr h) (Ev.bind hm (ev_pos g (ev_some _))))))), by simp⟩
    · exact ⟨s, p, ev_opt (q_l1Source l) (Ev.bind es (Ev.bind ep (ev_opt hc (ev_pos (beq_iff_eq.mpr h) (Ev.bind hm (ev_neg g (ev_some _))))))), hll⟩
  · exact ⟨s, p, ev_opt (q_l1Source l) (Ev.bind es (Ev.bind ep (ev_opt hc (ev_neg (by simpa using h) (ev_some _))))), hll⟩

theorem q_impl_in (a b c : Int) : impl_in.f a b c = some (decide (b ≤ a ∧ a ≤ c)) := by
  unfold impl_in.f
  by_cases h : b ≤ a
  · simp [h]
  · simp [h]

theorem q_impl_Range_ok (lo hi m : Int) : impl_Range_ok.f lo hi m = some (decide (rok lo hi m)) := by
  unfold impl_Range_ok.f
  simp only [q_impl_in, Option.bind_some, decide_eq_true_eq]
  by_cases hr : rok lo hi m
  · rw [decide_eq_true hr]
    unfold rok at hr
    rw [if_pos (by omega), if_pos (by omega), decide_eq_true (by omega)]
  · rw [decide_eq_false hr]
    unfold rok at hr
    by_cases h : 0 ≤ lo ∧ lo ≤ m
    · by_cases g : 0 ≤ hi ∧ hi ≤ m
      · rw [if_pos h, if_pos g, decide_eq_false (by omega)]
      · rw [if_pos h, if_neg g]
    · rw [if_neg h]
theorem q_impl_SelFault_j0 (k : Nat) (b : Bool) (s : Sl) : impl_SelFault.j0 (k + 1) b s.fl s.fh s.tl s.th s.pl s.ph s.ql s.qh s.pr = some (if b = true then 3 else if selPorts s then 0 else 1) := by
  rw [impl_SelFault.j0]
  simp only [q_impl_HasPorts, impl_whole.f, Option.bind_some, decide_eq_true_eq]
  unfold selPorts hasP
  cases b
  · by_cases h1 : s.pr = 0
    · simp [h1]
    · by_cases h2 : s.pr = 6 ∨ s.pr = 17
      · simp [h1, h2]
      · by_cases h3 : s.pl = 0 <;> by_cases h4 : s.ph = 65535 <;> by_cases h5 : s.ql = 0 <;> by_cases h6 : s.qh = 65535 <;> simp [h1, h2, h3, h4, h5, h6]
  · simp
theorem q_impl_SelFault (k : Nat) (s : Sl) : impl_SelFault.f (k + 1) s.fl s.fh s.tl s.th s.pl s.ph s.ql s.qh s.pr = some (selF s) := by
  unfold impl_SelFault.f
  simp only [q_impl_Range_ok, q_impl_in, q_impl_SelFault_j0, Option.bind_some, decide_eq_true_eq]
  unfold selF selOk
  by_cases h1 : rok s.fl s.fh 4294967295 <;> by_cases h2 : rok s.tl s.th 4294967295 <;> by_cases h3 : rok s.pl s.ph 65535 <;> by_cases h4 : rok s.ql s.qh 65535 <;> by_cases h5 : 0 ≤ s.pr ∧ s.pr ≤ 255 <;> simp [h1, h2, h3, h4, h5]
theorem ev_impl_SelFault (s : Sl) : Ev (fun k => impl_SelFault.f k s.fl s.fh s.tl s.th s.pl s.ph s.ql s.qh s.pr) (selF s) := ev_succ (fun k => q_impl_SelFault k s)

def rin (al ah bl bh : Int) : Prop := bl ≤ al ∧ ah ≤ bh
instance (al ah bl bh : Int) : Decidable (rin al ah bl bh) := by unfold rin; infer_instance
def withinS (a b : Sl) : Prop := rin a.fl a.fh b.fl b.fh ∧ rin a.tl a.th b.tl b.th ∧ rin a.pl a.ph b.pl b.ph ∧ rin a.ql a.qh b.ql b.qh ∧ (b.pr = 0 ∨ a.pr = b.pr)
instance (a b : Sl) : Decidable (withinS a b) := by unfold withinS; infer_instance

theorem q_impl_Range_within (a b c d : Int) : impl_Range_within.f a b c d = some (decide (rin a b c d)) := by
  unfold impl_Range_within.f rin
  by_cases h : c ≤ a
  · simp [h]
  · simp [h]
theorem q_impl_withinSel (a b : Sl) : impl_withinSel.f a.fl a.fh a.tl a.th a.pl a.ph a.ql a.qh a.pr b.fl b.fh b.tl b.th b.pl b.ph b.ql b.qh b.pr = some (decide (withinS a b)) := by
  unfold impl_withinSel.f withinS
  simp only [q_impl_Range_within, Option.bind_some, decide_eq_true_eq]
  by_cases h1 : rin a.fl a.fh b.fl b.fh <;> by_cases h2 : rin a.tl a.th b.tl b.th <;> by_cases h3 : rin a.pl a.ph b.pl b.ph <;> by_cases h4 : rin a.ql a.qh b.ql b.qh <;> by_cases h5 : b.pr = 0 <;> by_cases h6 : a.pr = b.pr <;> simp [h1, h2, h3, h4, h5, h6]

def firstF : List Int → Int
  | [] => 0
  | x :: xs => if x = 0 then firstF xs else x
theorem ev_impl_faultOf_loop (l : List Int) (hl : l.length ≤ 1000000) : ∀ (d i : Nat), i + d = l.length → Ev (fun k => impl_faultOf.l0 k l l.length i) (firstF (l.drop i)) := by
  intro d
  induction d with
  | zero =>
    intro i hi
    obtain rfl : i = l.length := by omega
    rw [List.drop_length]
    refine Ev.step (fun k => by rw [impl_faultOf.l0, if_neg (by omega)]) ?_
    exact ev_some _
  | succ d ih =>
    intro i hi
    have hr := rd_nat l i (by omega)
    rw [List.drop_eq_getElem_cons (by omega : i < l.length), firstF, ← hr]
    by_cases h : rd l i = 0
    · refine Ev.step (fun k => by rw [impl_faultOf.l0, if_pos (by omega), if_pos (by omega), if_pos (by omega), if_pos h]) ?_
      rw [w64 (by omega) (by omega), if_pos h]
      exact ih (i + 1) (by omega)
    · refine Ev.step (fun k => by rw [impl_faultOf.l0, if_pos (by omega), if_pos (by omega), if_pos (by omega), if_neg h]) ?_
      rw [if_neg h]
      exact ev_some _
theorem ev_impl_faultOf (l : List Int) (hl : l.length ≤ 1000000) : Ev (fun k => impl_faultOf.f k l) (firstF l) := ev_impl_faultOf_loop l hl l.length 0 (by omega)
theorem ev_faultOf2 (a b : Int) : Ev (fun k => impl_faultOf.f k [a, b]) (if a = 0 then b else a) := by
  refine ev_to (ev_impl_faultOf [a, b] (by simp)) ?_
  simp only [firstF]
  by_cases h : a = 0
  · rw [if_pos h, if_pos h]
    split
    · rename_i hb; exact hb.symm
    · rfl
  · rw [if_neg h, if_neg h]

theorem ev_impl_WithinSel (a b : Sl) : Ev (fun k => impl_WithinSel.f k a.fl a.fh a.tl a.th a.pl a.ph a.ql a.qh a.pr b.fl b.fh b.tl b.th b.pl b.ph b.ql b.qh b.pr) (decide (selF a = 0 ∧ selF b = 0 ∧ withinS a b)) := by
  unfold impl_WithinSel.f
  simp only [q_impl_withinSel, Option.bind_some]
  refine Ev.bind (ev_impl_SelFault a) (Ev.bind (ev_impl_SelFault b) (Ev.bind (ev_faultOf2 _ _) ?_))
  by_cases h : selF a = 0
  · rw [if_pos h]
    by_cases g : selF b = 0
    · exact ev_pos g (ev_to (ev_some _) (by simp [h, g]))
    · exact ev_neg g (ev_to (ev_some _) (by simp [h, g]))
  · rw [if_neg h]
    exact ev_neg h (ev_to (ev_some _) (by simp [h]))

def fitM (s : Sl) : Option Sl := if s.pr = 0 ∨ hasP s.pr then some s else if (s.pl ≤ 0 ∧ 0 ≤ s.ph) ∧ (s.ql ≤ 0 ∧ 0 ≤ s.qh) then some ⟨s.fl, s.fh, s.tl, s.th, 0, 65535, 0, 65535, s.pr⟩ else none
def crossM (a b : Sl) (pr : Int) : Sl := ⟨max a.fl b.fl, min a.fh b.fh, max a.tl b.tl, min a.th b.th, max a.pl b.pl, min a.ph b.ph, max a.ql b.ql, min a.qh b.qh, pr⟩
def okM (s : Sl) : Prop := s.fl ≤ s.fh ∧ s.tl ≤ s.th ∧ s.pl ≤ s.ph ∧ s.ql ≤ s.qh
instance (s : Sl) : Decidable (okM s) := by unfold okM; infer_instance
def prM (a b : Int) : Prop := a = 0 ∨ b = 0 ∨ a = b
instance (a b : Int) : Decidable (prM a b) := by unfold prM; infer_instance
def meetM (a b : Sl) : Option Sl := if okM (crossM a b 0) ∧ prM a.pr b.pr then fitM (crossM a b (if a.pr = 0 then b.pr else a.pr)) else none
def outB : Option Sl → Int × Int × Int × Int × Int × Int × Int × Int × Int × Bool
  | some s => (s.fl, s.fh, s.tl, s.th, s.pl, s.ph, s.ql, s.qh, s.pr, true)
  | none => (0, 0, 0, 0, 0, 0, 0, 0, 0, false)
def outC : Option Sl → Int × Int × Int × Int × Int × Int × Int × Int × Int × Int
  | some s => (s.fl, s.fh, s.tl, s.th, s.pl, s.ph, s.ql, s.qh, s.pr, 0)
  | none => (0, 0, 0, 0, 0, 0, 0, 0, 0, 4)
theorem mx_eq (a b : Int) : mx a b = max a b := by
  unfold mx
  omega
theorem mn_eq (a b : Int) : mn a b = min a b := by
  unfold mn
  omega

theorem q_l3Meet (a b c d : Int) : spec_l3Meet.f a b c d = some (max a c, min b d) := by
  unfold spec_l3Meet.f
  have h1 : spec_l1Max.f a c = some (max a c) := by
    unfold spec_l1Max.f
    by_cases h : a > c
    · rw [if_pos h, show max a c = a by omega]
    · rw [if_neg h, show max a c = c by omega]
  have h2 : spec_l1Min.f b d = some (min b d) := by
    unfold spec_l1Min.f
    by_cases h : b < d
    · rw [if_pos h, show min b d = b by omega]
    · rw [if_neg h, show min b d = d by omega]
  rw [h1, h2]
  rfl
theorem q_l1Max (a c : Int) : spec_l1Max.f a c = some (max a c) := by
  unfold spec_l1Max.f
  by_cases h : a > c
  · rw [if_pos h, show max a c = a by omega]
  · rw [if_neg h, show max a c = c by omega]
theorem q_l1Min (b d : Int) : spec_l1Min.f b d = some (min b d) := by
  unfold spec_l1Min.f
  by_cases h : b < d
  · rw [if_pos h, show min b d = b by omega]
  · rw [if_neg h, show min b d = d by omega]
theorem q_l3Common_j3 (k : Nat) (b : Bool) (s : Sl) : spec_l3Common.j3 (k + 1) b s.fl s.fh s.tl s.th s.pl s.ph s.ql s.qh s.pr = some (outC (if b = true then none else some ⟨s.fl, s.fh, s.tl, s.th, 0, 65535, 0, 65535, s.pr⟩)) := by
  rw [spec_l3Common.j3]
  cases b <;> rfl
theorem q_l3Common_j2 (k : Nat) (b : Bool) (s : Sl) (hb : b = true ↔ ¬ (s.pr = 0 ∨ hasP s.pr)) (h0 : 0 ≤ s.ph ∧ 0 ≤ s.qh) : spec_l3Common.j2 (k + 2) b s.fl s.fh s.tl s.th s.pl s.ph s.ql s.qh s.pr = some (outC (fitM s)) := by
  rw [spec_l3Common.j2]
  simp only [q_l3Common_j3]
  unfold fitM
  by_cases h : s.pr = 0 ∨ hasP s.pr
  · rw [if_pos h, if_neg (fun e => hb.mp e h)]
    rfl
  · rw [if_neg h, if_pos (hb.mpr h)]
    by_cases h1 : s.pl > 0
    · rw [if_pos h1, if_pos trivial, if_neg (by omega)]
    · rw [if_neg h1]
      by_cases h2 : s.ql > 0
      · rw [if_pos (by simpa using h2), if_neg (by omega)]
      · rw [if_neg (by simpa using h2), if_pos (by omega)]
theorem q_l3Common_j1 (k : Nat) (b : Bool) (s : Sl) (h0 : 0 ≤ s.ph ∧ 0 ≤ s.qh) : spec_l3Common.j1 (k + 3) b s.fl s.fh s.tl s.th s.pl s.ph s.ql s.qh s.pr = some (outC (if b = true then none else fitM s)) := by
  rw [spec_l3Common.j1, q_spec_HasPorts, Option.bind_some]
  cases b
  · simp only [Bool.false_eq_true, if_false]
    by_cases h : s.pr = 0
    · rw [if_pos h, q_l3Common_j2 k false s (by simp [h]) h0]
    · rw [if_neg h, q_l3Common_j2 k _ s (by simp [h, hasP]) h0]
  · rfl
theorem q_l3Common_l0 (k : Nat) (a b s : Sl) (h0 : 0 ≤ s.ph ∧ 0 ≤ s.qh) (ha : 0 ≤ a.pr) (hb : 0 ≤ b.pr) : spec_l3Common.l0 (k + 8) [⟨s.fl, s.fh⟩, ⟨s.tl, s.th⟩, ⟨s.pl, s.ph⟩, ⟨s.ql, s.qh⟩] 0 a.fl a.fh a.tl a.th a.pl a.ph a.ql a.qh a.pr b.fl b.fh b.tl b.th b.pl b.ph b.ql b.qh b.pr s.fl s.fh s.tl s.th s.pl s.ph s.ql s.qh s.pr = some (outC (if okM s ∧ prM a.pr b.pr then fitM s else none)) := by
  have e1 : wrap64 (0 + 1) = 1 := by rw [w64 (by omega) (by omega)]; rfl
  have e2 : wrap64 (1 + 1) = 2 := by rw [w64 (by omega) (by omega)]; rfl
  have e3 : wrap64 (2 + 1) = 3 := by rw [w64 (by omega) (by omega)]; rfl
  have e4 : wrap64 (3 + 1) = 4 := by rw [w64 (by omega) (by omega)]; rfl
  have r0 : rd_T63 [⟨s.fl, s.fh⟩, ⟨s.tl, s.th⟩, ⟨s.pl, s.ph⟩, ⟨s.ql, s.qh⟩] 0 = ⟨s.fl, s.fh⟩ := rfl
  have r1 : rd_T63 [⟨s.fl, s.fh⟩, ⟨s.tl, s.th⟩, ⟨s.pl, s.ph⟩, ⟨s.ql, s.qh⟩] 1 = ⟨s.tl, s.th⟩ := rfl
  have r2 : rd_T63 [⟨s.fl, s.fh⟩, ⟨s.tl, s.th⟩, ⟨s.pl, s.ph⟩, ⟨s.ql, s.qh⟩] 2 = ⟨s.pl, s.ph⟩ := rfl
  have r3 : rd_T63 [⟨s.fl, s.fh⟩, ⟨s.tl, s.th⟩, ⟨s.pl, s.ph⟩, ⟨s.ql, s.qh⟩] 3 = ⟨s.ql, s.qh⟩ := rfl
  unfold okM
  rw [spec_l3Common.l0, if_pos (by omega), if_pos (by omega), if_pos (by simp), r0, e1]
  by_cases h1 : s.fl ≤ s.fh
  · rw [if_neg (by simpa using h1), spec_l3Common.l0, if_pos (by omega), if_pos (by omega), if_pos (by simp), r1, e2]
    by_cases h2 : s.tl ≤ s.th
    · rw [if_neg (by simpa using h2), spec_l3Common.l0, if_pos (by omega), if_pos (by omega), if_pos (by simp), r2, e3]
      by_cases h3 : s.pl ≤ s.ph
      · rw [if_neg (by simpa using h3), spec_l3Common.l0, if_pos (by omega), if_pos (by omega), if_pos (by simp), r3, e4]
        by_cases h4 : s.ql ≤ s.qh
        · rw [if_neg (by simpa using h4), spec_l3Common.l0, if_neg (by omega), q_l1Min, Option.bind_some, q_l3Common_j1 k _ s h0, q_l3Common_j1 k _ s h0]
          unfold prM
          by_cases h5 : a.pr = b.pr
          · rw [if_pos h5, if_neg (by simp), if_pos ⟨⟨h1, h2, h3, h4⟩, .inr (.inr h5)⟩]
          · rw [if_neg h5]
            by_cases h6 : a.pr = 0 ∨ b.pr = 0
            · rw [if_neg (by simp only [bne_iff_ne, ne_eq, Decidable.not_not]; omega), if_pos ⟨⟨h1, h2, h3, h4⟩, by omega⟩]
            · rw [if_pos (by simp only [bne_iff_ne, ne_eq]; omega), if_neg (by omega)]
        · rw [if_pos (by simpa using h4), if_neg (by omega)]
          rfl
      · rw [if_pos (by simpa using h3), if_neg (by omega)]
        rfl
    · rw [if_pos (by simpa using h2), if_neg (by omega)]
      rfl
  · rw [if_pos (by simpa using h1), if_neg (by omega)]
    rfl
theorem selF_ok {s : Sl} (h : selF s = 0) : selOk s := by
  unfold selF at h
  by_cases g : selOk s
  · exact g
  · rw [if_neg g] at h
    exact absurd h (by omega)
theorem q_spec_l3Common (k : Nat) (a b : Sl) (ha : selF a = 0) (hb : selF b = 0) : spec_l3Common.f (k + 8) a.fl a.fh a.tl a.th a.pl a.ph a.ql a.qh a.pr b.fl b.fh b.tl b.th b.pl b.ph b.ql b.qh b.pr = some (outC (meetM a b)) := by
  obtain ⟨_, _, ⟨a1, a2, a3⟩, ⟨a4, a5, a6⟩, a7, _⟩ := selF_ok ha
  obtain ⟨_, _, ⟨b1, b2, b3⟩, ⟨b4, b5, b6⟩, b7, _⟩ := selF_ok hb
  unfold spec_l3Common.f
  simp only [q_l3Meet, q_l1Max, Option.bind_some]
  have h := q_l3Common_l0 k a b (crossM a b (max a.pr b.pr)) ⟨by simp only [crossM]; omega, by simp only [crossM]; omega⟩ a7 b7
  simp only [crossM] at h
  rw [h]
  unfold meetM okM crossM prM
  by_cases h5 : a.pr = 0 ∨ b.pr = 0 ∨ a.pr = b.pr
  · rw [show max a.pr b.pr = if a.pr = 0 then b.pr else a.pr by split <;> omega]
  · simp only [h5, and_false, if_false]
theorem ev_up {α : Type} {g : Nat → Option α} {r : α} (n : Nat) (h : ∀ k, g (k + n) = some r) : Ev g r := by
  refine ⟨n, fun m hm => ?_⟩
  have := h (m - n)
  rwa [Nat.sub_add_cancel hm] at this
theorem ev_spec_l3Common (a b : Sl) (ha : selF a = 0) (hb : selF b = 0) : Ev (fun k => spec_l3Common.f k a.fl a.fh a.tl a.th a.pl a.ph a.ql a.qh a.pr b.fl b.fh b.tl b.th b.pl b.ph b.ql b.qh b.pr) (outC (meetM a b)) := ev_up 8 (fun k => q_spec_l3Common k a b ha hb)

theorem q_meetSels_j3 (k : Nat) (b : Bool) (s : Sl) : impl_meetSels.j3 (k + 1) b s.fl s.fh s.tl s.th s.pl s.ph s.ql s.qh s.pr = some (outB (if b = true then none else some ⟨s.fl, s.fh, s.tl, s.th, 0, 65535, 0, 65535, s.pr⟩)) := by
  rw [impl_meetSels.j3]
  cases b <;> rfl
theorem q_meetSels_j2 (k : Nat) (b : Bool) (s : Sl) (hb : b = true ↔ (s.pr = 0 ∨ hasP s.pr)) : impl_meetSels.j2 (k + 2) b s.fl s.fh s.tl s.th s.pl s.ph s.ql s.qh s.pr = some (outB (fitM s)) := by
  rw [impl_meetSels.j2]
  simp only [q_meetSels_j3, impl_Range_has.f, q_impl_in, Option.bind_some, decide_eq_true_eq]
  unfold fitM
  by_cases h : s.pr = 0 ∨ hasP s.pr
  · rw [if_pos h, if_pos (hb.mpr h)]
    rfl
  · rw [if_neg h, if_neg (fun e => h (hb.mp e))]
    by_cases h1 : s.pl ≤ 0 ∧ 0 ≤ s.ph <;> by_cases h2 : s.ql ≤ 0 ∧ 0 ≤ s.qh <;> simp [h1, h2]
theorem q_meetSels_j1 (k : Nat) (s : Sl) : impl_meetSels.j1 (k + 3) s.fl s.fh s.tl s.th s.pl s.ph s.ql s.qh s.pr = some (outB (fitM s)) := by
  rw [impl_meetSels.j1, q_impl_HasPorts, Option.bind_some]
  by_cases h : s.pr = 0
  · rw [if_pos h, q_meetSels_j2 k true s (by simp [h])]
  · rw [if_neg h, q_meetSels_j2 k _ s (by simp [h, hasP])]
theorem q_meetSels_j0 (k : Nat) (b : Bool) (p0 p1 p2 p3 p4 p5 p6 p7 q : Int) (s : Sl) : impl_meetSels.j0 (k + 4) b p0 p1 p2 p3 p4 p5 p6 p7 q s.fl s.fh s.tl s.th s.pl s.ph s.ql s.qh s.pr = some (outB (if b = true then none else fitM ⟨s.fl, s.fh, s.tl, s.th, s.pl, s.ph, s.ql, s.qh, if s.pr = 0 then q else s.pr⟩)) := by
  rw [impl_meetSels.j0]
  cases b
  · simp only [Bool.false_eq_true, if_false]
    by_cases h : s.pr = 0
    · rw [if_pos h, if_pos h]
      exact q_meetSels_j1 k ⟨s.fl, s.fh, s.tl, s.th, s.pl, s.ph, s.ql, s.qh, q⟩
    · rw [if_neg h, if_neg h]
      exact q_meetSels_j1 k ⟨s.fl, s.fh, s.tl, s.th, s.pl, s.ph, s.ql, s.qh, s.pr⟩
  · rfl
theorem q_impl_meetSels (k : Nat) (a b : Sl) : impl_meetSels.f (k + 4) a.fl a.fh a.tl a.th a.pl a.ph a.ql a.qh a.pr b.fl b.fh b.tl b.th b.pl b.ph b.ql b.qh b.pr = some (outB (meetM a b)) := by
  have hj := fun c => q_meetSels_j0 k c b.fl b.fh b.tl b.th b.pl b.ph b.ql b.qh b.pr (crossM a b a.pr)
  simp only [crossM] at hj
  unfold impl_meetSels.f
  simp only [impl_Range_meet.f, Option.bind_some, mx_eq, mn_eq, decide_eq_true_eq, hj]
  by_cases h1 : max a.fl b.fl ≤ min a.fh b.fh
  · rw [if_pos h1]
    by_cases h2 : max a.tl b.tl ≤ min a.th b.th
    · rw [if_pos h2]
      by_cases h3 : max a.pl b.pl ≤ min a.ph b.ph
      · rw [if_pos h3]
        by_cases h4 : max a.ql b.ql ≤ min a.qh b.qh
        · rw [if_pos h4]
          have hok : okM (crossM a b 0) := ⟨h1, h2, h3, h4⟩
          by_cases h5 : prM a.pr b.pr
          · have hm : meetM a b = fitM (crossM a b (if a.pr = 0 then b.pr else a.pr)) := if_pos ⟨hok, h5⟩
            rw [hm]
            unfold prM at h5
            clear hm hj
            have hz : ∀ c : Bool, c = false → some (outB (if c = true then none else fitM (crossM a b (if a.pr = 0 then b.pr else a.pr)))) = some (outB (fitM (crossM a b (if a.pr = 0 then b.pr else a.pr)))) := by
              intro c hc
              rw [hc]
              rfl
            by_cases h6 : a.pr = 0
            · exact (if_pos h6).trans rfl
            · refine (if_neg h6).trans ?_
              by_cases h7 : b.pr = 0
              · exact (if_pos h7).trans rfl
              · refine (if_neg h7).trans ?_
                exact hz _ (by rw [show a.pr = b.pr by omega]; simp)
          · have hm : meetM a b = none := if_neg (fun e => h5 e.2)
            rw [hm]
            unfold prM at h5
            refine (if_neg (by omega)).trans ((if_neg (by omega)).trans ?_)
            have h8 : (a.pr != b.pr) = true := by simp only [bne_iff_ne, ne_eq]; omega
            rw [if_pos h8]
        · rw [if_neg h4, show meetM a b = none from if_neg (fun e => h4 e.1.2.2.2)]
          rfl
      · rw [if_neg h3, show meetM a b = none from if_neg (fun e => h3 e.1.2.2.1)]
        rfl
    · rw [if_neg h2, show meetM a b = none from if_neg (fun e => h2 e.1.2.1)]
      rfl
  · rw [if_neg h1, show meetM a b = none from if_neg (fun e => h1 e.1.1)]
    rfl
theorem ev_impl_meetSels (a b : Sl) : Ev (fun k => impl_meetSels.f k a.fl a.fh a.tl a.th a.pl a.ph a.ql a.qh a.pr b.fl b.fh b.tl b.th b.pl b.ph b.ql b.qh b.pr) (outB (meetM a b)) := by
  refine Ev.step (f := fun k => impl_meetSels.f (k + 1) a.fl a.fh a.tl a.th a.pl a.ph a.ql a.qh a.pr b.fl b.fh b.tl b.th b.pl b.ph b.ql b.qh b.pr) (fun k => rfl) ?_
  refine Ev.step (f := fun k => impl_meetSels.f (k + 2) a.fl a.fh a.tl a.th a.pl a.ph a.ql a.qh a.pr b.fl b.fh b.tl b.th b.pl b.ph b.ql b.qh b.pr) (fun k => rfl) ?_
  refine Ev.step (f := fun k => impl_meetSels.f (k + 3) a.fl a.fh a.tl a.th a.pl a.ph a.ql a.qh a.pr b.fl b.fh b.tl b.th b.pl b.ph b.ql b.qh b.pr) (fun k => rfl) ?_
  exact ev_succ (fun k => q_impl_meetSels k a b)

def meetR2 (a b : Sl) : Int × Int × Int × Int × Int × Int × Int × Int × Int × Int :=
  if selF a = 0 then (if selF b = 0 then (match meetM a b with | some s => (0, s.fl, s.fh, s.tl, s.th, s.pl, s.ph, s.ql, s.qh, s.pr) | none => (4, 0, 0, 0, 0, 0, 0, 0, 0, 0)) else (selF b, 0, 0, 0, 0, 0, 0, 0, 0, 0)) else (selF a, 0, 0, 0, 0, 0, 0, 0, 0, 0)
theorem ev_impl_MeetSelsB (a b : Sl) : Ev (fun k => impl_MeetSels.f k a.fl a.fh a.tl a.th a.pl a.ph a.ql a.qh a.pr b.fl b.fh b.tl b.th b.pl b.ph b.ql b.qh b.pr) (meetR2 a b) := by
  unfold impl_MeetSels.f meetR2
  refine Ev.bind (ev_impl_SelFault a) (Ev.bind (ev_impl_SelFault b) (Ev.bind (ev_faultOf2 _ _) ?_))
  by_cases h : selF a = 0
  · rw [if_pos h, if_pos h]
    refine ev_cond (fun g => Ev.bind (ev_impl_meetSels a b) ?_) (fun g => ev_some _)
    cases meetM a b with
    | none => exact ev_neg (by simp [outB]) (ev_some _)
    | some s => exact ev_pos rfl (ev_some _)
  · rw [if_neg h, if_neg h]
    exact ev_neg h (ev_some _)

theorem ev_spec_MeetSelsB (a b : Sl) : Ev (fun k => spec_MeetSels.f k a.fl a.fh a.tl a.th a.pl a.ph a.ql a.qh a.pr b.fl b.fh b.tl b.th b.pl b.ph b.ql b.qh b.pr) (meetR2 a b) := by
  unfold spec_MeetSels.f meetR2
  refine Ev.bind (ev_spec_SelFault a) (ev_cond (fun ha => ?_) (fun h => ev_some _))
  refine Ev.bind (ev_spec_SelFault b) (ev_cond (fun hb => ?_) (fun h => ev_some _))
  refine Ev.bind (ev_spec_l3Common a b ha hb) (ev_to (ev_some _) ?_)
  cases meetM a b <;> rfl

def holdsS (s : Sl) (p : Pk) : Prop := (s.fl ≤ p.fr ∧ p.fr ≤ s.fh) ∧ (s.tl ≤ p.to_ ∧ p.to_ ≤ s.th) ∧ (s.pl ≤ p.fp ∧ p.fp ≤ s.ph) ∧ (s.ql ≤ p.tp ∧ p.tp ≤ s.qh) ∧ (s.pr = 0 ∨ s.pr = p.pr)
instance (s : Sl) (p : Pk) : Decidable (holdsS s p) := by unfold holdsS; infer_instance
def holdsF (s : Sl) (p : Pk) : Prop := selF s = 0 ∧ pktF p = 0 ∧ holdsS s p
instance (s : Sl) (p : Pk) : Decidable (holdsF s p) := by unfold holdsF; infer_instance

theorem selF_okB {s : Sl} (h : selF s = 0) : selOk s ∧ selPorts s := by
  unfold selF at h
  split at h
  · split at h
    · exact ⟨by assumption, by assumption⟩
    · exact absurd h (by decide)
  · exact absurd h (by decide)
theorem selF_mk {s : Sl} (h : selOk s) (h2 : selPorts s) : selF s = 0 := by
  unfold selF
  rw [if_pos h, if_pos h2]
theorem pktF_okB {p : Pk} (h : pktF p = 0) : pktOk p ∧ pktPorts p := by
  unfold pktF at h
  split at h
  · split at h
    · exact ⟨by assumption, by assumption⟩
    · exact absurd h (by decide)
  · exact absurd h (by decide)
theorem cross_pr {x y q v : Int} (hq : q = if x = 0 then y else x) (hp : prM x y) : (q = 0 ∨ q = v) ↔ ((x = 0 ∨ x = v) ∧ (y = 0 ∨ y = v)) := by
  unfold prM at hp
  by_cases h : x = 0
  · rw [if_pos h] at hq
    omega
  · rw [if_neg h] at hq
    omega
theorem cross_holds {a b : Sl} {q : Int} (p : Pk) (hq : q = if a.pr = 0 then b.pr else a.pr) (hp : prM a.pr b.pr) : holdsS (crossM a b q) p ↔ (holdsS a p ∧ holdsS b p) := by
  have hr := cross_pr (v := p.pr) hq hp
  unfold holdsS crossM
  simp only [Int.max_le, Int.le_min, hr]
  constructor
  · rintro ⟨⟨⟨a1, b1⟩, ⟨a2, b2⟩⟩, ⟨⟨a3, b3⟩, ⟨a4, b4⟩⟩, ⟨⟨a5, b5⟩, ⟨a6, b6⟩⟩, ⟨⟨a7, b7⟩, ⟨a8, b8⟩⟩, a9, b9⟩
    exact ⟨⟨⟨a1, a2⟩, ⟨a3, a4⟩, ⟨a5, a6⟩, ⟨a7, a8⟩, a9⟩, ⟨⟨b1, b2⟩, ⟨b3, b4⟩, ⟨b5, b6⟩, ⟨b7, b8⟩, b9⟩⟩
  · rintro ⟨⟨⟨a1, a2⟩, ⟨a3, a4⟩, ⟨a5, a6⟩, ⟨a7, a8⟩, a9⟩, ⟨⟨b1, b2⟩, ⟨b3, b4⟩, ⟨b5, b6⟩, ⟨b7, b8⟩, b9⟩⟩
    exact ⟨⟨⟨a1, b1⟩, ⟨a2, b2⟩⟩, ⟨⟨a3, b3⟩, ⟨a4, b4⟩⟩, ⟨⟨a5, b5⟩, ⟨a6, b6⟩⟩, ⟨⟨a7, b7⟩, ⟨a8, b8⟩⟩, a9, b9⟩
theorem holds_okM {s : Sl} {p : Pk} (h : holdsS s p) : okM s := ⟨Int.le_trans h.1.1 h.1.2, Int.le_trans h.2.1.1 h.2.1.2, Int.le_trans h.2.2.1.1 h.2.2.1.2, Int.le_trans h.2.2.2.1.1 h.2.2.2.1.2⟩
theorem fit_holds (s : Sl) (p : Pk) (hp : pktF p = 0) : holdsS s p ↔ ∃ s', fitM s = some s' ∧ holdsS s' p := by
  obtain ⟨_, hpp⟩ := pktF_okB hp
  unfold fitM
  by_cases h1 : s.pr = 0 ∨ hasP s.pr
  · rw [if_pos h1]
    exact ⟨fun h => ⟨s, rfl, h⟩, fun ⟨_, e, h⟩ => Option.some.inj e ▸ h⟩
  · rw [if_neg h1]
    have hz : (s.pr = 0 ∨ s.pr = p.pr) → p.fp = 0 ∧ p.tp = 0 := by
      rintro (e | e)
      · exact absurd (.inl e) h1
      · rcases hpp with g | g
        · exact absurd (.inr (e ▸ g)) h1
        · exact g
    by_cases h2 : (s.pl ≤ 0 ∧ 0 ≤ s.ph) ∧ (s.ql ≤ 0 ∧ 0 ≤ s.qh)
    · rw [if_pos h2]
      constructor
      · rintro ⟨a1, a2, a3, a4, a5⟩
        obtain ⟨z1, z2⟩ := hz a5
        refine ⟨_, rfl, a1, a2, ?_, ?_, a5⟩
        · rw [z1]
          simp only
          omega
        · rw [z2]
          simp only
          omega
      · rintro ⟨s', e, h⟩
        obtain rfl := Option.some.inj e
        obtain ⟨a1, a2, a3, a4, a5⟩ := h
        obtain ⟨z1, z2⟩ := hz a5
        exact ⟨a1, a2, by rw [z1]; exact h2.1, by rw [z2]; exact h2.2, a5⟩
    · rw [if_neg h2]
      constructor
      · rintro ⟨a1, a2, a3, a4, a5⟩
        obtain ⟨z1, z2⟩ := hz a5
        exact absurd ⟨by rw [z1] at a3; exact a3, by rw [z2] at a4; exact a4⟩ h2
      · rintro ⟨s', e, h⟩
        exact absurd e (by simp)
theorem holds_prM {a b : Sl} {p : Pk} (h : holdsS a p) (h' : holdsS b p) : prM a.pr b.pr := by
  have h1 := h.2.2.2.2
  have h2 := h'.2.2.2.2
  unfold prM
  omega
theorem meet_spec (a b : Sl) (p : Pk) (hp : pktF p = 0) : (holdsS a p ∧ holdsS b p) ↔ ∃ s, meetM a b = some s ∧ holdsS s p := by
  unfold meetM
  by_cases hc : okM (crossM a b 0) ∧ prM a.pr b.pr
  · rw [if_pos hc, ← cross_holds p rfl hc.2]
    exact fit_holds _ p hp
  · rw [if_neg hc]
    constructor
    · intro h
      have hpr := holds_prM h.1 h.2
      have hk := holds_okM ((cross_holds p rfl hpr).2 h)
      exact absurd ⟨hk, hpr⟩ hc
    · rintro ⟨s', e, h⟩
      exact absurd e (by simp)
theorem fit_ok {s s' : Sl} (h : selOk s) (e : fitM s = some s') : selF s' = 0 := by
  unfold fitM at e
  by_cases h1 : s.pr = 0 ∨ hasP s.pr
  · rw [if_pos h1] at e
    obtain rfl := Option.some.inj e
    exact selF_mk h (h1.elim .inl fun h => .inr (.inl h))
  · rw [if_neg h1] at e
    by_cases h2 : (s.pl ≤ 0 ∧ 0 ≤ s.ph) ∧ (s.ql ≤ 0 ∧ 0 ≤ s.qh)
    · rw [if_pos h2] at e
      obtain rfl := Option.some.inj e
      exact selF_mk ⟨h.1, h.2.1, ⟨Int.le_refl 0, (by decide : (0 : Int) ≤ 65535), Int.le_refl 65535⟩, ⟨Int.le_refl 0, (by decide : (0 : Int) ≤ 65535), Int.le_refl 65535⟩, h.2.2.2.2⟩ (.inr (.inr ⟨rfl, rfl, rfl, rfl⟩))
    · rw [if_neg h2] at e
      exact absurd e (by simp)
theorem cross_rok {x x' y y' m : Int} (h : rok x x' m) (h' : rok y y' m) (g : max x y ≤ min x' y') : rok (max x y) (min x' y') m := by
  unfold rok at *
  omega
theorem meet_okB {a b s : Sl} (ha : selF a = 0) (hb : selF b = 0) (hm : meetM a b = some s) : selF s = 0 := by
  obtain ⟨⟨a1, a2, a3, a4, a5, a6⟩, _⟩ := selF_okB ha
  obtain ⟨⟨b1, b2, b3, b4, b5, b6⟩, _⟩ := selF_okB hb
  unfold meetM at hm
  by_cases hc : okM (crossM a b 0) ∧ prM a.pr b.pr
  · rw [if_pos hc] at hm
    obtain ⟨⟨g1, g2, g3, g4⟩, _⟩ := hc
    refine fit_ok ⟨cross_rok a1 b1 g1, cross_rok a2 b2 g2, cross_rok a3 b3 g3, cross_rok a4 b4 g4, ?_, ?_⟩ hm
    · show 0 ≤ if a.pr = 0 then b.pr else a.pr
      split <;> assumption
    · show (if a.pr = 0 then b.pr else a.pr) ≤ 255
      split <;> assumption
  · rw [if_neg hc] at hm
    exact absurd hm (by simp)
theorem meet_some {a b s : Sl} (ha : selF a = 0) (hb : selF b = 0) (hm : meetM a b = some s) (p : Pk) : holdsF s p ↔ (holdsF a p ∧ holdsF b p) := by
  constructor
  · rintro ⟨h1, h2, h3⟩
    have h := (meet_spec a b p h2).2 ⟨s, hm, h3⟩
    exact ⟨⟨ha, h2, h.1⟩, ⟨hb, h2, h.2⟩⟩
  · rintro ⟨⟨_, h2, h3⟩, ⟨_, _, h4⟩⟩
    obtain ⟨s', e, h⟩ := (meet_spec a b p h2).1 ⟨h3, h4⟩
    obtain rfl := Option.some.inj (hm.symm.trans e)
    exact ⟨meet_okB ha hb hm, h2, h⟩
theorem meet_none {a b : Sl} (ha : selF a = 0) (hb : selF b = 0) (hm : meetM a b = none) (p : Pk) : ¬ (holdsF a p ∧ holdsF b p) := by
  rintro ⟨⟨_, h2, h3⟩, ⟨_, _, h4⟩⟩
  obtain ⟨s', e, h⟩ := (meet_spec a b p h2).1 ⟨h3, h4⟩
  exact absurd (hm.symm.trans e) (by simp)
theorem meet_comm (a b : Sl) : meetM a b = meetM b a := by
  have hc : ∀ q, crossM a b q = crossM b a q := by
    intro q
    unfold crossM
    rw [Int.max_comm a.fl, Int.min_comm a.fh, Int.max_comm a.tl, Int.min_comm a.th, Int.max_comm a.pl, Int.min_comm a.ph, Int.max_comm a.ql, Int.min_comm a.qh]
  unfold meetM
  by_cases h : prM a.pr b.pr
  · have hq : (if a.pr = 0 then b.pr else a.pr) = (if b.pr = 0 then a.pr else b.pr) := by
      unfold prM at h
      split <;> split <;> omega
    have h' : prM b.pr a.pr := by
      unfold prM at h ⊢
      omega
    rw [hq, hc, hc]
    by_cases g : okM (crossM b a 0)
    · rw [if_pos (show okM (crossM b a 0) ∧ prM a.pr b.pr from ⟨g, h⟩), if_pos (show okM (crossM b a 0) ∧ prM b.pr a.pr from ⟨g, h'⟩)]
    · rw [if_neg (show ¬ (okM (crossM b a 0) ∧ prM a.pr b.pr) from fun e => g e.1), if_neg (show ¬ (okM (crossM b a 0) ∧ prM b.pr a.pr) from fun e => g e.1)]
  · have h' : ¬ prM b.pr a.pr := by
      unfold prM at h ⊢
      omega
    rw [if_neg (show ¬ (okM (crossM a b 0) ∧ prM a.pr b.pr) from fun e => h e.2), if_neg (show ¬ (okM (crossM b a 0) ∧ prM b.pr a.pr) from fun e => h' e.2)]

theorem sample_holds (s : Sl) (h : selF s = 0) : holdsF s ⟨(sampleM s).2.1, (sampleM s).2.2.1, (sampleM s).2.2.2.1, (sampleM s).2.2.2.2.1, (sampleM s).2.2.2.2.2.1, (sampleM s).2.2.2.2.2.2.1, (sampleM s).2.2.2.2.2.2.2⟩ := by
  obtain ⟨ho, hp⟩ := selF_okB h
  obtain ⟨⟨c1, o1, d1⟩, ⟨c2, o2, d2⟩, ⟨c3, o3, d3⟩, ⟨c4, o4, d4⟩, e1, e2⟩ := ho
  unfold sampleM
  rw [if_pos h]
  have hpk : ∀ p : Pk, pktOk p → pktPorts p → p.ld = [] → pktF p = 0 := by
    intro p h1 h2 h3
    unfold pktF
    rw [if_pos h1, if_pos h2, h3]
    rfl
  by_cases h0 : s.pr = 0
  · rw [if_pos h0]
    refine ⟨h, hpk _ ⟨⟨c1, by simp only; omega⟩, ⟨c2, by simp only; omega⟩, by simp only; omega, by simp only; omega, ⟨c3, by simp only; omega⟩, ⟨c4, by simp only; omega⟩⟩ (.inl (.inl rfl)) rfl, ⟨⟨Int.le_refl _, o1⟩, ⟨Int.le_refl _, o2⟩, ⟨Int.le_refl _, o3⟩, ⟨Int.le_refl _, o4⟩, .inl h0⟩⟩
  · rw [if_neg h0]
    by_cases h1 : hasP s.pr
    · rw [if_pos h1]
      refine ⟨h, hpk _ ⟨⟨c1, by simp only; omega⟩, ⟨c2, by simp only; omega⟩, by simp only; omega, by simp only; omega, ⟨c3, by simp only; omega⟩, ⟨c4, by simp only; omega⟩⟩ (.inl h1) rfl, ⟨⟨Int.le_refl _, o1⟩, ⟨Int.le_refl _, o2⟩, ⟨Int.le_refl _, o3⟩, ⟨Int.le_refl _, o4⟩, .inr rfl⟩⟩
    · rw [if_neg h1]
      rcases hp with g | g | ⟨g1, g2, g3, g4⟩
      · exact absurd g h0
      · exact absurd g h1
      · refine ⟨h, hpk _ ⟨⟨c1, by simp only; omega⟩, ⟨c2, by simp only; omega⟩, by simp only; omega, by simp only; omega, by simp only; omega, by simp only; omega⟩ (.inr ⟨rfl, rfl⟩) rfl, ⟨⟨Int.le_refl _, o1⟩, ⟨Int.le_refl _, o2⟩, ⟨by simp only; omega, by simp only; omega⟩, ⟨by simp only; omega, by simp only; omega⟩, .inr rfl⟩⟩

theorem ev_impl_SampleOf (s : Sl) : Ev (fun k => impl_SampleOf.f k s.fl s.fh s.tl s.th s.pl s.ph s.ql s.qh s.pr) (sampleM s) := by
  unfold impl_SampleOf.f sampleM
  simp only [q_impl_HasPorts, Option.bind_some]
  refine Ev.bind (ev_impl_SelFault s) (ev_cond (fun h => ?_) (fun h => ev_some _))
  refine ev_cond (fun h => ev_to (ev_some _) ?_) (fun h => ev_to (ev_some _) ?_)
  · unfold impl_SampleOf.p
    rw [if_pos (by decide)]
  · unfold impl_SampleOf.p
    by_cases g : s.pr = 6 ∨ s.pr = 17
    · rw [if_pos (decide_eq_true g), if_pos (show hasP s.pr from g)]
    · rw [if_neg (by simpa using g), if_neg (show ¬ hasP s.pr from g)]

theorem q_impl_PacketFault_j1 (k : Nat) (b : Bool) (p : Pk) : impl_PacketFault.j1 (k + 1) b p.fr p.to_ p.pr p.tl p.fp p.tp p.ld = some (if b = true then 1 else if 200 < p.ld.length then 2 else 0) := by
  rw [impl_PacketFault.j1]
  cases b
  · by_cases h : 200 < p.ld.length
    · simp [h]
      omega
    · simp [h]
      omega
  · simp
theorem q_impl_PacketFault_j0 (k : Nat) (b : Bool) (p : Pk) : impl_PacketFault.j0 (k + 2) b p.fr p.to_ p.pr p.tl p.fp p.tp p.ld = some (if b = true then 3 else if pktPorts p then (if 200 < p.ld.length then 2 else 0) else 1) := by
  rw [impl_PacketFault.j0]
  simp only [q_impl_HasPorts, q_impl_PacketFault_j1, Option.bind_some, decide_eq_true_eq]
  unfold pktPorts hasP
  cases b
  · by_cases h2 : p.pr = 6 ∨ p.pr = 17
    · simp [h2]
    · by_cases h3 : p.fp = 0 <;> by_cases h4 : p.tp = 0 <;> simp [h2, h3, h4]
  · simp
theorem q_impl_PacketFault (k : Nat) (p : Pk) : impl_PacketFault.f (k + 2) p.fr p.to_ p.pr p.tl p.fp p.tp p.ld = some (pktF p) := by
  unfold impl_PacketFault.f impl_isAddress.f impl_isPort.f
  simp only [q_impl_in, q_impl_PacketFault_j0, Option.bind_some, decide_eq_true_eq]
  unfold pktF pktOk
  by_cases h1 : 0 ≤ p.fr ∧ p.fr ≤ 4294967295 <;> by_cases h2 : 0 ≤ p.to_ ∧ p.to_ ≤ 4294967295 <;> by_cases h3 : 1 ≤ p.pr ∧ p.pr ≤ 255 <;> by_cases h4 : 1 ≤ p.tl ∧ p.tl ≤ 255 <;> by_cases h5 : 0 ≤ p.fp ∧ p.fp ≤ 65535 <;> by_cases h6 : 0 ≤ p.tp ∧ p.tp ≤ 65535 <;> simp [h1, h2, h3, h4, h5, h6]
theorem ev_impl_PacketFault (p : Pk) : Ev (fun k => impl_PacketFault.f k p.fr p.to_ p.pr p.tl p.fp p.tp p.ld) (pktF p) := ev_succ2 (fun k => q_impl_PacketFault k p)

theorem q_impl_holds (s : Sl) (p : Pk) : impl_holds.f s.fl s.fh s.tl s.th s.pl s.ph s.ql s.qh s.pr p.fr p.to_ p.pr p.tl p.fp p.tp p.ld = some (decide (holdsS s p)) := by
  unfold impl_holds.f impl_Range_has.f
  simp only [q_impl_in, Option.bind_some, decide_eq_true_eq]
  unfold holdsS
  by_cases h1 : s.fl ≤ p.fr ∧ p.fr ≤ s.fh <;> by_cases h2 : s.tl ≤ p.to_ ∧ p.to_ ≤ s.th <;> by_cases h3 : s.pl ≤ p.fp ∧ p.fp ≤ s.ph <;> by_cases h4 : s.ql ≤ p.tp ∧ p.tp ≤ s.qh <;> by_cases h5 : s.pr = 0 <;> by_cases h6 : s.pr = p.pr <;> simp [h1, h2, h3, h4, h5, h6]

theorem ev_impl_Holds (s : Sl) (p : Pk) : Ev (fun k => impl_Holds.f k s.fl s.fh s.tl s.th s.pl s.ph s.ql s.qh s.pr p.fr p.to_ p.pr p.tl p.fp p.tp p.ld) (decide (holdsF s p)) := by
  unfold impl_Holds.f
  simp only [q_impl_holds, Option.bind_some]
  unfold holdsF
  refine Ev.bind (ev_impl_SelFault s) ?_
  by_cases h : selF s = 0
  · refine ev_pos h (Ev.bind (ev_impl_PacketFault p) ?_)
    by_cases g : pktF p = 0
    · exact ev_pos g (ev_to (ev_some _) (by simp [h, g]))
    · exact ev_neg g (ev_to (ev_some _) (by simp [h, g]))
  · exact ev_neg h (ev_to (ev_some _) (by simp [h]))

def pkOf (x : S71) : Pk := ⟨x.f0, x.f1, x.f2, x.f3, x.f4, x.f5, x.f6⟩
theorem meetR2_none {a b : Sl} (ha : selF a = 0) (hb : selF b = 0) (hm : meetM a b = none) : meetR2 a b = (4, 0, 0, 0, 0, 0, 0, 0, 0, 0) := by
  unfold meetR2
  rw [if_pos ha, if_pos hb, hm]
theorem meetR2_some {a b s : Sl} (ha : selF a = 0) (hb : selF b = 0) (hm : meetM a b = some s) : meetR2 a b = (0, s.fl, s.fh, s.tl, s.th, s.pl, s.ph, s.ql, s.qh, s.pr) := by
  unfold meetR2
  rw [if_pos ha, if_pos hb, hm]
theorem within_self {a : Sl} : withinS a a := ⟨⟨Int.le_refl _, Int.le_refl _⟩, ⟨Int.le_refl _, Int.le_refl _⟩, ⟨Int.le_refl _, Int.le_refl _⟩, ⟨Int.le_refl _, Int.le_refl _⟩, .inr rfl⟩
def slT (s : Sl) : S65 := ⟨⟨s.fl, s.fh⟩, ⟨s.tl, s.th⟩, ⟨s.pl, s.ph⟩, ⟨s.ql, s.qh⟩, s.pr⟩
def smpT (s : Sl) : S71 := ⟨(sampleM s).2.1, (sampleM s).2.2.1, (sampleM s).2.2.2.1, (sampleM s).2.2.2.2.1, (sampleM s).2.2.2.2.2.1, (sampleM s).2.2.2.2.2.2.1, (sampleM s).2.2.2.2.2.2.2⟩
theorem ev_ho (s : Sl) (p : S71) : Ev (fun k => laws_FnMeets.ho k (slT s) p) (decide (holdsF s (pkOf p))) := ev_impl_Holds s (pkOf p)
theorem ev_smp (s : Sl) : Ev (fun k => laws_FnMeets.smp k (slT s)) (smpT s) := Ev.bind (ev_impl_SampleOf s) (ev_some _)
theorem ev_chk (a b m : Sl) (c : Int) (h : ∀ p, (decide (holdsF a p) && decide (holdsF b p)) = (if c = 0 then decide (holdsF m p) else false)) : ∀ L : List S71, Ev (fun k => laws_FnMeets.chk k (slT a) (slT b) (slT m) c L) ()
  | [] => ev_some _
  | p :: ps => by
    have e1 : Ev (fun k => laws_FnMeets.two k (slT a) (slT b) p) (decide (holdsF a (pkOf p)) && decide (holdsF b (pkOf p))) := by
      unfold laws_FnMeets.two
      refine Ev.bind (ev_ho a p) ?_
      cases decide (holdsF a (pkOf p))
      · exact ev_neg (by decide) (ev_some _)
      · exact ev_pos rfl (ev_to (ev_ho b p) (by simp))
    have e2 : Ev (fun k => laws_FnMeets.sel k c (slT m) p) (if c = 0 then decide (holdsF m (pkOf p)) else false) := by
      unfold laws_FnMeets.sel
      exact ev_cond (fun _ => ev_ho m p) (fun _ => ev_some _)
    exact Ev.bind e1 (Ev.bind e2 (ev_pos (h (pkOf p)) (ev_chk a b m c h ps)))
theorem ev_rest (a b m : Sl) (ha : selF a = 0) (c : Int) (hc : c = (meetR2 b a).1) (h : ∀ p, (decide (holdsF a p) && decide (holdsF b p)) = (if c = 0 then decide (holdsF m p) else false)) (x : S71) (L : List S71) : Ev (fun k => laws_FnMeets.rest k (slT a) (slT b) (slT m) c (x :: smpT a :: L)) true := by
  unfold laws_FnMeets.rest laws_FnMeets.fin
  refine Ev.bind (ev_chk a b m c h _) (ev_pos (by simp) ?_)
  have hs : holdsF a (pkOf (smpT a)) := sample_holds a ha
  refine Ev.bind (ev_ho a (smpT a)) (ev_pos (by simpa using hs) ?_)
  refine Ev.bind (ev_impl_WithinSel a a) (ev_pos (by simp [ha, within_self]) ?_)
  exact Ev.bind (ev_impl_MeetSelsB b a) (ev_pos hc (ev_some _))
theorem ev_good (l : List Int) (hl : l.length ≤ 1048576) (hb : Bytes l) (a b : Sl) (ha : selF a = 0) (hbb : selF b = 0) : Ev (fun k => laws_FnMeets.good k l (slT a) (slT b) ⟨⟨(meetR2 a b).2.1, (meetR2 a b).2.2.1⟩, ⟨(meetR2 a b).2.2.2.1, (meetR2 a b).2.2.2.2.1⟩, ⟨(meetR2 a b).2.2.2.2.2.1, (meetR2 a b).2.2.2.2.2.2.1⟩, ⟨(meetR2 a b).2.2.2.2.2.2.2.1, (meetR2 a b).2.2.2.2.2.2.2.2.1⟩, (meetR2 a b).2.2.2.2.2.2.2.2.2⟩ (meetR2 a b).1) true := by
  obtain ⟨s0, p, hd, hll⟩ := ev_DrawHolds ([3] ++ l) (by simp; omega) (bytes_append (bytes_one (by omega)) hb)
  unfold laws_FnMeets.good
  refine ev_pos (by omega) (Ev.bind hd (Ev.bind (ev_smp a) (Ev.bind (ev_smp b) ?_)))
  rcases hm : meetM a b with _ | s
  · rw [meetR2_none ha hbb hm]
    refine ev_neg (by decide) ?_
    refine ev_rest a b ⟨0, 0, 0, 0, 0, 0, 0, 0, 0⟩ ha 4 ?_ ?_ _ _
    · rw [meetR2_none hbb ha ((meet_comm b a).trans hm)]
    · intro q
      have hn := meet_none ha hbb hm q
      rw [if_neg (by decide)]
      by_cases hA : holdsF a q
      · have hB : ¬ holdsF b q := fun e => hn ⟨hA, e⟩
        simp [hA, hB]
      · simp [hA]
  · rw [meetR2_some ha hbb hm]
    have hs := meet_okB ha hbb hm
    refine ev_pos rfl (Ev.bind (ev_smp s) (Ev.bind (ev_impl_SelFault s) (ev_pos hs ?_)))
    have hh : holdsF s (pkOf (smpT s)) := sample_holds s hs
    refine Ev.bind (ev_ho s (smpT s)) (ev_pos (by simpa using hh) ?_)
    refine ev_rest a b s ha 0 ?_ ?_ _ _
    · rw [meetR2_some hbb ha ((meet_comm b a).trans hm)]
    · intro q
      rw [if_pos rfl, Bool.eq_iff_iff, Bool.and_eq_true, decide_eq_true_eq, decide_eq_true_eq, decide_eq_true_eq, meet_some ha hbb hm q]
theorem ev_bad (a b : Sl) : Ev (fun k => laws_FnMeets.bad k (slT a) (slT b) (meetR2 a b).1) true := Ev.bind (ev_spec_MeetSelsB a b) (ev_pos rfl (ev_some _))
theorem ev_g (l : List Int) (hl : l.length ≤ 1048576) (hb : Bytes l) (a b : Sl) : Ev (fun k => laws_FnMeets.g k l (slT a) (slT b)) true := by
  unfold laws_FnMeets.g
  refine Ev.bind (ev_impl_MeetSelsB a b) (Ev.bind (ev_spec_SelFault a) ?_)
  by_cases ha : selF a = 0
  · refine ev_pos ha (Ev.bind (ev_spec_SelFault b) ?_)
    by_cases hbb : selF b = 0
    · exact ev_pos hbb (ev_good l hl hb a b ha hbb)
    · exact ev_neg hbb (ev_bad a b)
  · exact ev_neg ha (ev_bad a b)
theorem FnMeets : laws_FnMeets.Pure := by
  intro l _ _ hw
  apply Ev.rounds
  unfold laws_FnMeets.f
  refine ev_opt (q_lwBig l) ?_
  by_cases h : (l.length : Int) > 1048576
  · exact ev_pos (by simpa using h) (ev_some _)
  · have hb := bytes_wf hw
    obtain ⟨a, b, hab⟩ := ev_l3Two l (by omega) hb
    have hd : Ev (fun k => spec_DrawMeetSels.f k l) (a.fl, a.fh, a.tl, a.th, a.pl, a.ph, a.ql, a.qh, a.pr, b.fl, b.fh, b.tl, b.th, b.pl, b.ph, b.ql, b.qh, b.pr) := by
      unfold spec_DrawMeetSels.f
      exact Ev.bind hab (ev_some _)
    exact ev_neg (by simpa using h) (Ev.bind hd (ev_g l (by omega) hb a b))

end Go.Proofs.Ytcelgjhhmkgnhaa.Pure
