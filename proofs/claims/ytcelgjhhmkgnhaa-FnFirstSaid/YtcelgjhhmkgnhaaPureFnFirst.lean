
/- Proved: the law FnFirst answers true at every input that Go can hand in (it says: the first rule that holds a packet decides. (P5, P1)) No condition beyond the statement's own. -/
import Derived.Test.YtcelgjhhmkgnhaaPFnFirstx16
namespace Go.Proofs.Ytcelgjhhmkgnhaa.Pure
open Go.RowKit Go.Proofs.Ytcelgjhhmkgnhaa.PFnFirst Go.Proofs.YtcelgjhhmkgnhaaW.PrintWords Go.Proofs.YtcelgjhhmkgnhaaW.PrintLast Go.Proofs.YtcelgjhhmkgnhaaW.PrintMore
set_option linter.unusedVariables false
set_option linter.unusedSimpArgs false

theorem w64 {x : Int} (h0 : -9223372036854775808 ≤ x) (h1 : x ≤ 9223372036854775807) : wrap64 x = x := by
  unfold wrap64
  omega
theorem tmod_pos {a b : Int} (h : 0 ≤ a) : Int.tmod a b = a % b := Int.tmod_eq_emod_of_nonneg h
theorem tdiv_pos {a b : Int} (h : 0 ≤ a) : Int.tdiv a b = a / b := Int.tdiv_eq_ediv_of_nonneg h
theorem ev_some {α : Type} (r : α) : Ev (fun _ => some r) r := Ev.now r
theorem ev_pos {α : Type} {c : Prop} [Decidable c] {A B : Nat → Option α} {r : α} (h : c) (e : Ev A r) : Ev (fun k => if c then A k else B k) r := by
  simpa only [if_pos h] using e
theorem ev_neg {α : Type} {c : Prop} [Decidable c] {A B : Nat → Option α} {r : α} (h : ¬ c) (e : Ev B r) : Ev (fun k => if c then A k else B k) r := by
  simpa only [if_neg h] using e
theorem ev_opt {α β : Type} {o : Option α} {f : Nat → α → Option β} {a : α} {r : β} (h : o = some a) (e : Ev (fun n => f n a) r) : Ev (fun n => o.bind (f n)) r := by
  simpa only [h, Option.bind_some] using e
theorem ev_to {α : Type} {g : Nat → Option α} {r r' : α} (e : Ev g r) (h : r = r') : Ev g r' := h ▸ e
theorem rd_nat (l : List Int) (i : Nat) (h : i < l.length) : rd l (i : Int) = l[i] := by
  unfold rd
  simp [List.getD_eq_getElem?_getD, h]
theorem rd_mem (l : List Int) (i : Int) (h0 : 0 ≤ i) (h : i < l.length) : rd l i ∈ l := by
  obtain ⟨n, rfl⟩ := Int.eq_ofNat_of_zero_le h0
  rw [rd_nat l n (by omega)]
  exact List.getElem_mem _
theorem u8_range {x : Int} (h : (Lit.int .u8 x).wf = true) : 0 ≤ x ∧ x ≤ 255 := by
  simp [Lit.wf, IntKind.min, IntKind.max, IntKind.signed, IntKind.bits] at h
  omega
theorem ev_cond {α : Type} {c : Prop} [Decidable c] {A B : Nat → Option α} {r r' : α} (hp : c → Ev A r) (hn : ¬ c → Ev B r') : Ev (fun k => if c then A k else B k) (if c then r else r') := by
  by_cases h : c
  · rw [if_pos h]; exact ev_pos h (hp h)
  · rw [if_neg h]; exact ev_neg h (hn h)
theorem ev_succ {α : Type} {g : Nat → Option α} {r : α} (h : ∀ k, g (k + 1) = some r) : Ev g r := Ev.step h (ev_some r)
theorem down {P : Nat → Prop} (n : Nat) (hend : P n) (hstep : ∀ i, i < n → P (i + 1) → P i) : ∀ i, i ≤ n → P i := by
  intro i hi
  obtain ⟨d, hd⟩ : ∃ d, i + d = n := ⟨n - i, by omega⟩
  induction d generalizing i with
  | zero =>
    obtain rfl : i = n := by omega
    exact hend
  | succ d ih => exact hstep i (by omega) (ih (i + 1) (by omega) (by omega))
theorem getD_nat {α : Type} (l : List α) (z : α) (i : Nat) (h : i < l.length) : l.getD (i : Int).toNat z = l[i] := by
  simp [List.getD_eq_getElem?_getD, h]
theorem q_lwBig (l : List Int) : laws_lwBig.f l = some (decide ((l.length : Int) > 1048576)) := rfl

def Bytes (l : List Int) : Prop := ∀ x ∈ l, 0 ≤ x ∧ x ≤ 255
theorem bytes_wf {l : List Int} (h : ∀ x ∈ l, (Lit.int .u8 x).wf = true) : Bytes l := fun x hx => u8_range (h x hx)
theorem bytes_append {a b : List Int} (ha : Bytes a) (hb : Bytes b) : Bytes (a ++ b) := by
  intro x hx
  rcases List.mem_append.1 hx with h | h
  · exact ha x h
  · exact hb x h
theorem bytes_nil : Bytes [] := fun x hx => by simp at hx
theorem bytes_one {x : Int} (h : 0 ≤ x ∧ x ≤ 255) : Bytes [x] := fun y hy => by simp at hy; subst hy; exact h

theorem q_l1Next (l : List Int) (hl : l.length ≤ 1048576 + 1) (hb : Bytes l) (at_ n : Int) (h0 : 0 ≤ at_) (h1 : at_ ≤ 1099511627776) :
    ∃ v, spec_l1Next.f l at_ n = some (v, at_ + 1) ∧ 0 ≤ v ∧ (1 ≤ n → v < n) ∧ (n < 1 → v = 0) := by
  unfold spec_l1Next.f
  rw [w64 (x := at_ + 1) (by omega) (by omega), show at_ + 1 - 1 = at_ from by omega, w64 (x := at_) (by omega) (by omega), w64 (x := at_ + 1) (by omega) (by omega)]
  by_cases hn : n < 1
  · exact ⟨0, by rw [if_pos hn], by omega, by omega, fun _ => rfl⟩
  · rw [if_neg hn]
    by_cases hz : (l.length : Int) = 0
    · rw [if_pos hz, if_neg (by omega), w64 (by omega) (by omega), tmod_pos (by omega)]
      exact ⟨_, rfl, Int.emod_nonneg _ (by omega), fun _ => Int.emod_lt_of_pos _ (by omega), by omega⟩
    · have ha := Int.emod_nonneg at_ hz
      have ha2 := Int.emod_lt_of_pos at_ (b := (l.length : Int)) (by omega)
      have hb1 := Int.emod_nonneg (at_ + 1) hz
      have hb2 := Int.emod_lt_of_pos (at_ + 1) (b := (l.length : Int)) (by omega)
      have r1 := hb _ (rd_mem l _ ha ha2)
      have r2 := hb _ (rd_mem l _ hb1 hb2)
      have d1 : 0 ≤ at_ / (l.length : Int) := Int.ediv_nonneg h0 (by omega)
      have d2 : at_ / (l.length : Int) ≤ at_ := Int.ediv_le_self _ h0
      rw [if_neg hz, tmod_pos h0, tmod_pos (a := at_ + 1) (by omega), tdiv_pos h0, if_pos ha, if_pos ha2]
      rw [w64 (x := rd l (at_ % (l.length : Int))) (by omega) (by omega), w64 (x := rd l ((at_ + 1) % (l.length : Int))) (by omega) (by omega), w64 (x := at_ / (l.length : Int)) (by omega) (by omega), w64 (x := at_ / (l.length : Int) * 37) (by omega) (by omega), w64 (x := rd l (at_ % (l.length : Int)) + at_ / (l.length : Int) * 37) (by omega) (by omega), w64 (x := (rd l (at_ % (l.length : Int)) + at_ / (l.length : Int) * 37) * 251) (by omega) (by omega), w64 (x := rd l ((at_ + 1) % (l.length : Int)) * 13) (by omega) (by omega)]
      rw [w64 (x := (rd l (at_ % (l.length : Int)) + at_ / (l.length : Int) * 37) * 251 + rd l ((at_ + 1) % (l.length : Int)) * 13) (by omega) (by omega)]
      rw [w64 (x := (rd l (at_ % (l.length : Int)) + at_ / (l.length : Int) * 37) * 251 + rd l ((at_ + 1) % (l.length : Int)) * 13 + at_) (by omega) (by omega)]
      by_cases h2 : n > 200
      · rw [if_pos h2, if_pos hb1, if_pos hb2, if_neg (by omega), tmod_pos (by omega)]
        exact ⟨_, rfl, Int.emod_nonneg _ (by omega), fun _ => Int.emod_lt_of_pos _ (by omega), by omega⟩
      · rw [if_neg h2, if_neg (by omega), tmod_pos (by omega)]
        exact ⟨_, rfl, Int.emod_nonneg _ (by omega), fun _ => Int.emod_lt_of_pos _ (by omega), by omega⟩

theorem q_l1Pick (l : List Int) (hl : l.length ≤ 1048576 + 1) (hb : Bytes l) (at_ : Int) (c : List Int) (h0 : 0 ≤ at_) (h1 : at_ ≤ 1099511627776) (hc : 1 ≤ c.length) :
    ∃ v, spec_l1Pick.f l at_ c = some (v, at_ + 1) ∧ v ∈ c := by
  obtain ⟨i, hi, hi0, hi1, _⟩ := q_l1Next l hl hb at_ c.length h0 h1
  have hi1 := hi1 (by omega)
  unfold spec_l1Pick.f
  rw [hi, Option.bind_some, if_pos hi0, if_pos hi1]
  exact ⟨_, rfl, rd_mem c i hi0 hi1⟩

structure Sl where
  fl : Int
  fh : Int
  tl : Int
  th : Int
  pl : Int
  ph : Int
  ql : Int
  qh : Int
  pr : Int
def rok (lo hi most : Int) : Prop := 0 ≤ lo ∧ lo ≤ hi ∧ hi ≤ most
instance (lo hi most : Int) : Decidable (rok lo hi most) := by unfold rok; infer_instance
def selOk (s : Sl) : Prop := rok s.fl s.fh 4294967295 ∧ rok s.tl s.th 4294967295 ∧ rok s.pl s.ph 65535 ∧ rok s.ql s.qh 65535 ∧ 0 ≤ s.pr ∧ s.pr ≤ 255
instance (s : Sl) : Decidable (selOk s) := by unfold selOk; infer_instance
def hasP (p : Int) : Prop := p = 6 ∨ p = 17
instance (p : Int) : Decidable (hasP p) := by unfold hasP; infer_instance
def selPorts (s : Sl) : Prop := s.pr = 0 ∨ hasP s.pr ∨ (s.pl = 0 ∧ s.ph = 65535 ∧ s.ql = 0 ∧ s.qh = 65535)
instance (s : Sl) : Decidable (selPorts s) := by unfold selPorts; infer_instance
def selF (s : Sl) : Int := if selOk s then (if selPorts s then 0 else 1) else 3

theorem q_spec_HasPorts (a : Int) : spec_HasPorts.f a = some (decide (a = 6 ∨ a = 17)) := by
  unfold spec_HasPorts.f
  by_cases h : a = 6
  · simp [h]
  · by_cases g : a = 17
    · simp [g]
    · simp [h, g]
theorem q_impl_HasPorts (a : Int) : impl_HasPorts.f a = some (decide (a = 6 ∨ a = 17)) := by
  unfold impl_HasPorts.f
  by_cases h : a = 6
  · simp [h]
  · by_cases g : a = 17
    · simp [g]
    · simp [h, g]

theorem q_l3Addresses (l : List Int) (hl : l.length ≤ 1048576 + 1) (hb : Bytes l) (at_ : Int) (h0 : 0 ≤ at_) (h1 : at_ ≤ 1000000000) : ∃ a b c, spec_l3Addresses.f l at_ = some (a, b, c) ∧ at_ ≤ c ∧ c ≤ at_ + 3 := by
  obtain ⟨v, hv, _⟩ := q_l1Next l hl hb at_ 4 h0 (by omega)
  obtain ⟨u, hu, _⟩ := q_l1Next l hl hb (at_ + 1) 6 (by omega) (by omega)
  obtain ⟨x, hx, _⟩ := q_l1Next l hl hb (at_ + 1 + 1) 5 (by omega) (by omega)
  unfold spec_l3Addresses.f
  simp only [hv, Option.bind_some]
  by_cases h : v = 0
  · rw [if_pos h]
    exact ⟨_, _, _, rfl, by omega, by omega⟩
  · rw [if_neg h]
    by_cases g : v = 1
    · simp only [if_pos g, hu, Option.bind_some]
      exact ⟨_, _, _, rfl, by omega, by omega⟩
    · simp only [if_neg g, hu, hx, Option.bind_some]
      exact ⟨_, _, _, rfl, by omega, by omega⟩
theorem q_l3Ports (l : List Int) (hl : l.length ≤ 1048576 + 1) (hb : Bytes l) (at_ : Int) (h0 : 0 ≤ at_) (h1 : at_ ≤ 1000000000) : ∃ a b c, spec_l3Ports.f l at_ = some (a, b, c) ∧ at_ ≤ c ∧ c ≤ at_ + 2 := by
  obtain ⟨v, hv, _⟩ := q_l1Next l hl hb at_ 3 h0 (by omega)
  obtain ⟨u, hu, _⟩ := q_l1Pick l hl hb (at_ + 1) [80, 443, 22] (by omega) (by omega) (by simp)
  unfold spec_l3Ports.f spec_l3All.f
  simp only [hv, Option.bind_some]
  by_cases h : v = 0
  · simp only [if_pos h, hu, Option.bind_some]
    exact ⟨_, _, _, rfl, by omega, by omega⟩
  · rw [if_neg h]
    by_cases g : v = 1
    · rw [if_pos g]
      exact ⟨_, _, _, rfl, by omega, by omega⟩
    · rw [if_neg g]
      exact ⟨_, _, _, rfl, by omega, by omega⟩
theorem ev_l3Sel (l : List Int) (hl : l.length ≤ 1048576 + 1) (hb : Bytes l) (at_ : Int) (h0 : 0 ≤ at_) (h1 : at_ ≤ 100000000) : ∃ (s : Sl) (c : Int), Ev (fun k => spec_l3Sel.f k l at_) (s.fl, s.fh, s.tl, s.th, s.pl, s.ph, s.ql, s.qh, s.pr, c) ∧ at_ ≤ c ∧ c ≤ at_ + 12 := by
  obtain ⟨a, b, c, e1, g1, g2⟩ := q_l3Addresses l hl hb at_ h0 (by omega)
  obtain ⟨a', b', c', e2, g3, g4⟩ := q_l3Addresses l hl hb c (by omega) (by omega)
  obtain ⟨p, hp, _⟩ := q_l1Pick l hl hb c' [0, 6, 17, 6, 0, 1, 50] (by omega) (by omega) (by simp)
  obtain ⟨x, y, z, e3, g5, g6⟩ := q_l3Ports l hl hb (c' + 1) (by omega) (by omega)
  have hj : ∀ d : Bool, ∃ (s : Sl) (e : Int), (∀ k, spec_l3Sel.j0 (k + 1) d l (c' + 1) a b a' b' 0 65535 0 65535 p = some (s.fl, s.fh, s.tl, s.th, s.pl, s.ph, s.ql, s.qh, s.pr, e)) ∧ at_ ≤ e ∧ e ≤ at_ + 12 := by
    intro d
    cases d
    · exact ⟨⟨a, b, a', b', 0, 65535, 0, 65535, p⟩, c' + 1, fun k => by rw [spec_l3Sel.j0, if_neg (by simp)], by omega, by omega⟩
    · exact ⟨⟨a, b, a', b', 0, 65535, x, y, p⟩, z, fun k => by rw [spec_l3Sel.j0, if_pos rfl, spec_l3All.f, Option.bind_some, e3, Option.bind_some], by omega, by omega⟩
  obtain ⟨s, e, hs, g7, g8⟩ := hj (decide (p = 0 ∨ p = 6 ∨ p = 17))
  refine ⟨s, e, ev_succ (fun k => ?_), g7, g8⟩
  unfold spec_l3Sel.f spec_l3All.f
  simp only [e1, e2, hp, q_spec_HasPorts, Option.bind_some]
  by_cases h : p = 0
  · rw [if_pos h, ← hs k]
    simp [h]
  · rw [if_neg h, ← hs k]
    simp [h]

theorem ev_l3Bent (l : List Int) (hl : l.length ≤ 1048576 + 1) (hb : Bytes l) (at_ : Int) (h0 : 0 ≤ at_) (h1 : at_ ≤ 10000000) : ∃ (s : Sl) (c : Int), Ev (fun k => spec_l3Bent.f k l at_) (s.fl, s.fh, s.tl, s.th, s.pl, s.ph, s.ql, s.qh, s.pr, c) ∧ at_ ≤ c ∧ c ≤ at_ + 14 := by
  obtain ⟨s, c, e, g1, g2⟩ := ev_l3Sel l hl hb at_ h0 (by omega)
  obtain ⟨v, hv, _⟩ := q_l1Next l hl hb c 16 (by omega) (by omega)
  have P := fun (xs : List Int) (hx : 1 ≤ xs.length) => q_l1Pick l hl hb (c + 1) xs (by omega) (by omega) hx
  unfold spec_l3Bent.f
  obtain ⟨u0, e0, _⟩ := P [-1, wrap64 (s.fh + 1), 4611686018427387904] (by simp)
  obtain ⟨u1, e1, _⟩ := P [4294967296, -1] (by simp)
  obtain ⟨u2, e2, _⟩ := P [65536, 5] (by simp)
  obtain ⟨u3, e3, _⟩ := P [-1, 256, 1, 255] (by simp)
  by_cases h : v = 0
  · exact ⟨⟨u0, s.fh, s.tl, s.th, s.pl, s.ph, s.ql, s.qh, s.pr⟩, _, Ev.bind e (ev_opt hv (ev_pos h (ev_opt e0 (ev_some _)))), by omega, by omega⟩
  by_cases h2 : v = 1
  · exact ⟨⟨s.fl, s.fh, s.tl, u1, s.pl, s.ph, s.ql, s.qh, s.pr⟩, _, Ev.bind e (ev_opt hv (ev_neg h (ev_pos h2 (ev_opt e1 (ev_some _))))), by omega, by omega⟩
  by_cases h3 : v = 2
  · exact ⟨⟨s.fl, s.fh, s.tl, s.th, s.pl, s.ph, s.ql, u2, s.pr⟩, _, Ev.bind e (ev_opt hv (ev_neg h (ev_neg h2 (ev_pos h3 (ev_opt e2 (ev_some _)))))), by omega, by omega⟩
  by_cases h4 : v = 3
  · exact ⟨⟨s.fl, s.fh, s.tl, s.th, s.pl, s.ph, s.ql, s.qh, u3⟩, _, Ev.bind e (ev_opt hv (ev_neg h (ev_neg h2 (ev_neg h3 (ev_pos h4 (ev_opt e3 (ev_some _))))))), by omega, by omega⟩
  · exact ⟨s, _, Ev.bind e (ev_opt hv (ev_neg h (ev_neg h2 (ev_neg h3 (ev_neg h4 (ev_some _)))))), by omega, by omega⟩

theorem ev_l1Some_loop (l : List Int) (hl : l.length ≤ 1048576 + 1) (hb : Bytes l) : ∀ (d : Nat) (n : Int) (out : List Int) (at_ : Int), n.toNat = d → d ≤ 68719476736 → out.length + d ≤ 68719476736 → Bytes out → 0 ≤ at_ → at_ + 3 * d ≤ 1099511627776 →
    ∃ r, Ev (fun k => spec_l1Some.l0 k n out l at_) (r, at_ + 3 * d) ∧ Bytes r ∧ r.length = out.length + d := by
  intro d
  induction d with
  | zero =>
    intro n out at_ hn _ _ ho h0 h1
    refine ⟨out, Ev.step (fun k => by rw [spec_l1Some.l0, if_neg (by omega)]) ?_, ho, rfl⟩
    simpa using ev_some (out, at_)
  | succ d ih =>
    intro n out at_ hn hd hlo ho h0 h1
    obtain ⟨a, ha, ha0, ha1, _⟩ := q_l1Next l hl hb at_ 256 h0 (by omega)
    obtain ⟨b, hb_, hb0, hb1, _⟩ := q_l1Next l hl hb (at_ + 1) 256 (by omega) (by omega)
    obtain ⟨c, hc, hcm⟩ := q_l1Pick l hl hb (at_ + 1 + 1) [a, b, 0, 255] (by omega) (by omega) (by simp)
    obtain ⟨r, hr, hrb, hrl⟩ := ih (n - 1) (out ++ [c % 256]) (at_ + 1 + 1 + 1) (by omega) (by omega) (by simp; omega) (bytes_append ho (bytes_one (by omega))) (by omega) (by omega)
    refine ⟨r, Ev.step (fun k => by rw [spec_l1Some.l0, if_pos (by omega)]) ?_, hrb, by rw [hrl, List.length_append]; simp; omega⟩
    refine ev_opt ha (ev_opt hb_ (ev_opt hc (ev_pos (by omega) ?_)))
    rw [w64 (by omega) (by omega), show at_ + 3 * ((d + 1 : Nat) : Int) = at_ + 1 + 1 + 1 + 3 * d from by omega]
    exact hr
theorem ev_l1Some (l : List Int) (hl : l.length ≤ 1048576 + 1) (hb : Bytes l) (n at_ : Int) (hn : n ≤ 68719476736) (h0 : 0 ≤ at_) (h1 : at_ + 3 * n ≤ 1099511627776) (h2 : at_ ≤ 1099511627776) :
    ∃ r, Ev (fun k => spec_l1Some.f k l at_ n) (r, at_ + 3 * n.toNat) ∧ Bytes r ∧ r.length = n.toNat := by
  obtain ⟨r, hr, hrb, hrl⟩ := ev_l1Some_loop l hl hb n.toNat n [] at_ rfl (by omega) (by simp; omega) bytes_nil h0 (by omega)
  exact ⟨r, hr, hrb, by simpa using hrl⟩

structure Pk where
  fr : Int
  to_ : Int
  pr : Int
  tl : Int
  fp : Int
  tp : Int
  ld : List Int
def pktOk (p : Pk) : Prop := (0 ≤ p.fr ∧ p.fr ≤ 4294967295) ∧ (0 ≤ p.to_ ∧ p.to_ ≤ 4294967295) ∧ (1 ≤ p.pr ∧ p.pr ≤ 255) ∧ (1 ≤ p.tl ∧ p.tl ≤ 255) ∧ (0 ≤ p.fp ∧ p.fp ≤ 65535) ∧ (0 ≤ p.tp ∧ p.tp ≤ 65535)
instance (p : Pk) : Decidable (pktOk p) := by unfold pktOk; infer_instance
def pktPorts (p : Pk) : Prop := hasP p.pr ∨ (p.fp = 0 ∧ p.tp = 0)
instance (p : Pk) : Decidable (pktPorts p) := by unfold pktPorts; infer_instance
def pktF (p : Pk) : Int := if pktOk p then (if pktPorts p then (if 200 < p.ld.length then 2 else 0) else 1) else 3
theorem ev_succ2 {α : Type} {g : Nat → Option α} {r : α} (h : ∀ k, g (k + 2) = some r) : Ev g r := Ev.step (f := fun k => g (k + 1)) (fun k => rfl) (ev_succ h)

theorem q_l2DrawAddress (l : List Int) (hl : l.length ≤ 1048576 + 1) (hb : Bytes l) (at_ : Int) (h0 : 0 ≤ at_) (h1 : at_ ≤ 1000000000) : ∃ a, spec_l2DrawAddress.f l at_ = some (a, at_ + 4) := by
  obtain ⟨v, hv, _⟩ := q_l1Next l hl hb at_ 6 h0 (by omega)
  obtain ⟨u, hu, _⟩ := q_l1Next l hl hb (at_ + 1) 6 (by omega) (by omega)
  obtain ⟨x, hx, _⟩ := q_l1Next l hl hb (at_ + 1 + 1) 4 (by omega) (by omega)
  obtain ⟨p, hp, _⟩ := q_l1Pick l hl hb (at_ + 1 + 1 + 1) [wrap64 (167772160 + v), wrap64 (167772160 + u), wrap64 (167838000 + x), 0, 4294967295] (by omega) (by omega) (by simp)
  unfold spec_l2DrawAddress.f
  simp only [hv, hu, hx, hp, Option.bind_some]
  exact ⟨p, by rw [show at_ + 1 + 1 + 1 + 1 = at_ + 4 from by omega]⟩
theorem ev_l2Packet (l : List Int) (hl : l.length ≤ 1048576 + 1) (hb : Bytes l) (at_ : Int) (h0 : 0 ≤ at_) (h1 : at_ ≤ 10000000) : ∃ (p : Pk) (c : Int), Ev (fun k => spec_l2Packet.f k l at_) (p.fr, p.to_, p.pr, p.tl, p.fp, p.tp, p.ld, c) ∧ p.ld.length ≤ 8 ∧ at_ ≤ c ∧ c ≤ at_ + 40 := by
  obtain ⟨a, ea⟩ := q_l2DrawAddress l hl hb at_ h0 (by omega)
  obtain ⟨b, eb⟩ := q_l2DrawAddress l hl hb (at_ + 4) (by omega) (by omega)
  obtain ⟨pr, ep, _⟩ := q_l1Pick l hl hb (at_ + 4 + 4) [6, 17, 6, 17, 1, 50] (by omega) (by omega) (by simp)
  obtain ⟨tl, et, _⟩ := q_l1Pick l hl hb (at_ + 4 + 4 + 1) [64, 1, 2, 255] (by omega) (by omega) (by simp)
  obtain ⟨n, en, hn0, hn1, _⟩ := q_l1Next l hl hb (at_ + 4 + 4 + 1 + 1) 9 (by omega) (by omega)
  have hn := hn1 (by omega)
  obtain ⟨ld, es, _, hll⟩ := ev_l1Some l hl hb n (at_ + 4 + 4 + 1 + 1 + 1) (by omega) (by omega) (by omega) (by omega)
  generalize hc : at_ + 4 + 4 + 1 + 1 + 1 + 3 * (n.toNat : Int) = c at es
  obtain ⟨x, ex, _⟩ := q_l1Next l hl hb c 65536 (by omega) (by omega)
  obtain ⟨fp, ef, _⟩ := q_l1Pick l hl hb (c + 1) [80, 443, x, 0] (by omega) (by omega) (by simp)
  obtain ⟨y, ey, _⟩ := q_l1Next l hl hb (c + 1 + 1) 65536 (by omega) (by omega)
  obtain ⟨tp, eq, _⟩ := q_l1Pick l hl hb (c + 1 + 1 + 1) [80, 443, y, 22] (by omega) (by omega) (by simp)
  unfold spec_l2Packet.f
  by_cases h : pr = 6 ∨ pr = 17
  · refine ⟨⟨a, b, pr, tl, fp, tp, ld⟩, _, ev_opt ea (ev_opt eb (ev_opt ep (ev_opt et (ev_opt en (Ev.bind es (ev_opt (q_spec_HasPorts pr) (ev_pos (by simpa using h) (ev_opt ex (ev_opt ef (ev_opt ey (ev_opt eq (ev_some _)))))))))))), ?_, ?_, ?_⟩ <;> simp only <;> omega
  · refine ⟨⟨a, b, pr, tl, 0, 0, ld⟩, _, ev_opt ea (ev_opt eb (ev_opt ep (ev_opt et (ev_opt en (Ev.bind es (ev_opt (q_spec_HasPorts pr) (ev_neg (by simpa using h) (ev_some _)))))))), ?_, ?_, ?_⟩ <;> simp only <;> omega
theorem ev_l2Bent (l : List Int) (hl : l.length ≤ 1048576 + 1) (hb : Bytes l) (at_ : Int) (h0 : 0 ≤ at_) (h1 : at_ ≤ 10000000) : ∃ (p : Pk) (c : Int), Ev (fun k => spec_l2Bent.f k l at_) (p.fr, p.to_, p.pr, p.tl, p.fp, p.tp, p.ld, c) ∧ p.ld.length ≤ 201 ∧ at_ ≤ c ∧ c ≤ at_ + 42 := by
  obtain ⟨p, c, e, hl8, g1, g2⟩ := ev_l2Packet l hl hb at_ h0 h1
  obtain ⟨v, hv, _⟩ := q_l1Next l hl hb c 20 (by omega) (by omega)
  have P := fun (xs : List Int) (hx : 1 ≤ xs.length) => q_l1Pick l hl hb (c + 1) xs (by omega) (by omega) hx
  obtain ⟨u0, e0, _⟩ := P [-1, 4294967296] (by simp)
  obtain ⟨u2, e2, _⟩ := P [0, 256, 255, -1] (by simp)
  obtain ⟨u3, e3, _⟩ := P [0, 256, -1] (by simp)
  obtain ⟨u4, e4, _⟩ := P [-1, 65536, 5] (by simp)
  obtain ⟨m, em, hm0, hm1, _⟩ := q_l1Next l hl hb (c + 1) 2 (by omega) (by omega)
  have hm := hm1 (by omega)
  have hw : wrap64 (200 + m) = 200 + m := w64 (by omega) (by omega)
  unfold spec_l2Bent.f
  by_cases h0 : v = 0
  · exact ⟨⟨u0, p.to_, p.pr, p.tl, p.fp, p.tp, p.ld⟩, _, Ev.bind e (ev_opt hv (ev_pos h0 (ev_opt e0 (ev_some _)))), by simp only; omega, by omega, by omega⟩
  by_cases h1 : v = 1
  · exact ⟨⟨p.fr, u0, p.pr, p.tl, p.fp, p.tp, p.ld⟩, _, Ev.bind e (ev_opt hv (ev_neg h0 (ev_pos h1 (ev_opt e0 (ev_some _))))), by simp only; omega, by omega, by omega⟩
  by_cases h2 : v = 2
  · exact ⟨⟨p.fr, p.to_, u2, p.tl, p.fp, p.tp, p.ld⟩, _, Ev.bind e (ev_opt hv (ev_neg h0 (ev_neg h1 (ev_pos h2 (ev_opt e2 (ev_some _)))))), by simp only; omega, by omega, by omega⟩
  by_cases h3 : v = 3
  · exact ⟨⟨p.fr, p.to_, p.pr, u3, p.fp, p.tp, p.ld⟩, _, Ev.bind e (ev_opt hv (ev_neg h0 (ev_neg h1 (ev_neg h2 (ev_pos h3 (ev_opt e3 (ev_some _))))))), by simp only; omega, by omega, by omega⟩
  by_cases h4 : v = 4
  · exact ⟨⟨p.fr, p.to_, p.pr, p.tl, u4, p.tp, p.ld⟩, _, Ev.bind e (ev_opt hv (ev_neg h0 (ev_neg h1 (ev_neg h2 (ev_neg h3 (ev_pos h4 (ev_opt e4 (ev_some _)))))))), by simp only; omega, by omega, by omega⟩
  by_cases h5 : v = 5
  · exact ⟨⟨p.fr, p.to_, p.pr, p.tl, p.fp, u4, p.ld⟩, _, Ev.bind e (ev_opt hv (ev_neg h0 (ev_neg h1 (ev_neg h2 (ev_neg h3 (ev_neg h4 (ev_pos h5 (ev_opt e4 (ev_some _))))))))), by simp only; omega, by omega, by omega⟩
  by_cases h6 : v = 6
  · refine ⟨⟨p.fr, p.to_, p.pr, p.tl, p.fp, p.tp, List.replicate (200 + m).toNat 0⟩, c + 1 + 1, Ev.bind e (ev_opt hv (ev_neg h0 (ev_neg h1 (ev_neg h2 (ev_neg h3 (ev_neg h4 (ev_neg h5 (ev_pos h6 (ev_opt em ?_))))))))), by simp only [List.length_replicate]; omega, by omega, by omega⟩
    rw [hw]
    exact ev_pos (by omega) (ev_pos (by omega) (ev_to (ev_some _) rfl))
  · exact ⟨⟨p.fr, p.to_, p.pr, p.tl, p.fp, p.tp, p.ld⟩, _, Ev.bind e (ev_opt hv (ev_neg h0 (ev_neg h1 (ev_neg h2 (ev_neg h3 (ev_neg h4 (ev_neg h5 (ev_neg h6 (ev_some _))))))))), by simp only; omega, by omega, by omega⟩

def slOf (x : S65) : Sl := ⟨x.f0.f0, x.f0.f1, x.f1.f0, x.f1.f1, x.f2.f0, x.f2.f1, x.f3.f0, x.f3.f1, x.f4⟩

theorem rdRule_nat (l : List S87) (i : Nat) (h : i < l.length) : rd_T87 l i = l[i] := getD_nat l _ i h

def sampleM (s : Sl) : Int × Int × Int × Int × Int × Int × Int × List Int :=
  if selF s = 0 then (if s.pr = 0 then (0, s.fl, s.tl, 6, 64, s.pl, s.ql, []) else if hasP s.pr then (0, s.fl, s.tl, s.pr, 64, s.pl, s.ql, []) else (0, s.fl, s.tl, s.pr, 64, 0, 0, [])) else (selF s, 0, 0, 0, 0, 0, 0, [])

theorem q_spec_l1In (a b c : Int) : spec_l1In.f a b c = some (decide (b ≤ a ∧ a ≤ c)) := by
  unfold spec_l1In.f
  by_cases h : b ≤ a
  · simp [h]
  · simp [h]

theorem q_spec_l3Range (lo hi m : Int) : spec_l3Range.f lo hi m = some (decide (rok lo hi m)) := by
  unfold spec_l3Range.f rok
  by_cases h : 0 ≤ lo
  · by_cases g : lo ≤ hi
    · simp [h, g]
    · simp [h, g]
  · simp [h]
theorem q_spec_SelFault_j0 (k : Nat) (b : Bool) (s : Sl) : spec_SelFault.j0 (k + 1) b s.fl s.fh s.tl s.th s.pl s.ph s.ql s.qh s.pr = some (if b = true then 3 else if selPorts s then 0 else 1) := by
  rw [spec_SelFault.j0]
  simp only [q_spec_HasPorts, spec_l3All.f, Option.bind_some, decide_eq_true_eq]
  unfold selPorts hasP
  cases b
  · by_cases h1 : s.pr = 0
    · simp [h1]
    · by_cases h2 : s.pr = 6 ∨ s.pr = 17
      · simp [h1, h2]
      · by_cases h3 : s.pl = 0 <;> by_cases h4 : s.ph = 65535 <;> by_cases h5 : s.ql = 0 <;> by_cases h6 : s.qh = 65535 <;> simp [h1, h2, h3, h4, h5, h6]
  · simp
theorem q_spec_SelFault (k : Nat) (s : Sl) : spec_SelFault.f (k + 1) s.fl s.fh s.tl s.th s.pl s.ph s.ql s.qh s.pr = some (selF s) := by
  unfold spec_SelFault.f
  simp only [q_spec_l3Range, q_spec_l1In, q_spec_SelFault_j0, Option.bind_some, decide_eq_true_eq]
  unfold selF selOk
  by_cases h1 : rok s.fl s.fh 4294967295 <;> by_cases h2 : rok s.tl s.th 4294967295 <;> by_cases h3 : rok s.pl s.ph 65535 <;> by_cases h4 : rok s.ql s.qh 65535 <;> by_cases h5 : 0 ≤ s.pr ∧ s.pr ≤ 255 <;> simp [h1, h2, h3, h4, h5]
theorem ev_spec_SelFault (s : Sl) : Ev (fun k => spec_SelFault.f k s.fl s.fh s.tl s.th s.pl s.ph s.ql s.qh s.pr) (selF s) := ev_succ (fun k => q_spec_SelFault k s)

theorem ev_spec_SampleOf (s : Sl) : Ev (fun k => spec_SampleOf.f k s.fl s.fh s.tl s.th s.pl s.ph s.ql s.qh s.pr) (sampleM s) := by
  unfold spec_SampleOf.f sampleM spec_l2Bad.f
  simp only [q_spec_HasPorts, Option.bind_some]
  refine Ev.bind (ev_spec_SelFault s) (ev_cond (fun h => ?_) (fun h => ev_some _))
  refine ev_cond (fun h => ev_to (ev_some _) ?_) (fun h => ev_to (ev_some _) ?_)
  · unfold spec_SampleOf.p
    rw [if_pos (by decide)]
  · unfold spec_SampleOf.p
    by_cases g : s.pr = 6 ∨ s.pr = 17
    · rw [if_pos (decide_eq_true g), if_pos (show hasP s.pr from g)]
    · rw [if_neg (by simpa using g), if_neg (show ¬ hasP s.pr from g)]

theorem q_l1Source (l : List Int) : spec_l1Source.f l = some (l, 0) := rfl

theorem ev_l4Policy_loop (l : List Int) (hl : l.length ≤ 1048576 + 1) (hb : Bytes l) : ∀ (d : Nat) (n : Int) (out : List S87) (at_ : Int), n.toNat = d → d ≤ 20 → out.length + d ≤ 1000 → 0 ≤ at_ → at_ + 14 * d ≤ 1000000 →
    ∃ r at', Ev (fun k => spec_l4Policy.l0 k n out l at_) (r, at') ∧ r.length = out.length + d ∧ at_ ≤ at' ∧ at' ≤ at_ + 14 * d := by
  intro d
  induction d with
  | zero =>
    intro n out at_ hn _ _ h0 h1
    refine ⟨out, at_, Ev.step (fun k => by rw [spec_l4Policy.l0, if_neg (by omega)]) (ev_some _), rfl, by omega, by omega⟩
  | succ d ih =>
    intro n out at_ hn hd hlo h0 h1
    obtain ⟨s, c, es, g1, g2⟩ := ev_l3Sel l hl hb at_ h0 (by omega)
    obtain ⟨v, hv, v0, v1, _⟩ := q_l1Next l hl hb c 3 (by omega) (by omega)
    obtain ⟨u, hu, _⟩ := q_l1Next l hl hb (c + 1) 3 (by omega) (by omega)
    have v1 := v1 (by omega)
    have hw : wrap64 (n - 1) = n - 1 := w64 (by omega) (by omega)
    by_cases h : wrap64 (1 + v) = 3
    · obtain ⟨r, at', hr, hrl, g3, g4⟩ := ih (n - 1) (out ++ [⟨⟨⟨s.fl, s.fh⟩, ⟨s.tl, s.th⟩, ⟨s.pl, s.ph⟩, ⟨s.ql, s.qh⟩, s.pr⟩, wrap64 (1 + v), wrap64 (1 + u)⟩]) (c + 1 + 1) (by omega) (by omega) (by simp; omega) (by omega) (by omega)
      refine ⟨r, at', Ev.step (fun k => by rw [spec_l4Policy.l0, if_pos (by omega)]) ?_, by rw [hrl, List.length_append]; simp; omega, by omega, by omega⟩
      refine Ev.bind es (ev_opt hv (ev_pos h (ev_opt hu (ev_pos (by omega) ?_))))
      rw [hw]
      exact hr
    · obtain ⟨r, at', hr, hrl, g3, g4⟩ := ih (n - 1) (out ++ [⟨⟨⟨s.fl, s.fh⟩, ⟨s.tl, s.th⟩, ⟨s.pl, s.ph⟩, ⟨s.ql, s.qh⟩, s.pr⟩, wrap64 (1 + v), 0⟩]) (c + 1) (by omega) (by omega) (by simp; omega) (by omega) (by omega)
      refine ⟨r, at', Ev.step (fun k => by rw [spec_l4Policy.l0, if_pos (by omega)]) ?_, by rw [hrl, List.length_append]; simp; omega, by omega, by omega⟩
      refine Ev.bind es (ev_opt hv (ev_neg h (ev_pos (by omega) ?_)))
      rw [hw]
      exact hr
theorem ev_l4Bent (l : List Int) (hl : l.length ≤ 1048576 + 1) (hb : Bytes l) (at_ : Int) (h0 : 0 ≤ at_) (h1 : at_ ≤ 100000) : ∃ (r : List S87) (c : Int), Ev (fun k => spec_l4Bent.f k l at_) (r, c) ∧ r.length ≤ 21 ∧ at_ ≤ c ∧ c ≤ at_ + 400 := by
  obtain ⟨n, hn, hnm⟩ := q_l1Pick l hl hb at_ [1, 2, 3, 4, 5, 0, 20] h0 (by omega) (by simp)
  have hnr : 0 ≤ n ∧ n ≤ 20 := by
    simp only [List.mem_cons, List.not_mem_nil, or_false] at hnm
    omega
  obtain ⟨r, c, hr, hrl, g1, g2⟩ := ev_l4Policy_loop l hl hb n.toNat n [] (at_ + 1) rfl (by omega) (by simp; omega) (by omega) (by omega)
  have hrl : r.length ≤ 20 := by rw [hrl]; simp; omega
  have hp : Ev (fun k => spec_l4Policy.f k l (at_ + 1) n) (r, c) := hr
  unfold spec_l4Bent.f
  by_cases hz : (r.length : Int) = 0
  · exact ⟨r, c, ev_opt hn (Ev.bind hp (ev_pos hz (ev_some _))), by omega, by omega, by omega⟩
  obtain ⟨i, hi, i0, i1, _⟩ := q_l1Next l hl hb c r.length (by omega) (by omega)
  have i1 := i1 (by omega)
  obtain ⟨v, hv, _⟩ := q_l1Next l hl hb (c + 1) 20 (by omega) (by omega)
  obtain ⟨s, e, es, g3, g4⟩ := ev_l3Bent l hl hb (c + 1 + 1) (by omega) (by omega)
  obtain ⟨u1, e1, _⟩ := q_l1Pick l hl hb (c + 1 + 1) [0, 4, 1, 3] (by omega) (by omega) (by simp)
  obtain ⟨u2, e2, _⟩ := q_l1Pick l hl hb (c + 1 + 1) [0, 10, 5] (by omega) (by omega) (by simp)
  by_cases k0 : v = 0
  · exact ⟨_, e, ev_opt hn (Ev.bind hp (ev_neg hz (ev_opt hi (ev_opt hv (ev_pos k0 (Ev.bind es (ev_pos i0 (ev_pos i1 (ev_some _))))))))), by rw [List.length_set]; show r.length ≤ 21; omega, by omega, by omega⟩
  by_cases k1 : v = 1
  · exact ⟨_, c + 1 + 1 + 1, ev_opt hn (Ev.bind hp (ev_neg hz (ev_opt hi (ev_opt hv (ev_neg k0 (ev_pos k1 (ev_opt e1 (ev_pos i0 (ev_pos i1 (ev_some _)))))))))), by rw [List.length_set]; show r.length ≤ 21; omega, by omega, by omega⟩
  by_cases k2 : v = 2
  · exact ⟨_, c + 1 + 1 + 1, ev_opt hn (Ev.bind hp (ev_neg hz (ev_opt hi (ev_opt hv (ev_neg k0 (ev_neg k1 (ev_pos k2 (ev_opt e2 (ev_pos i0 (ev_pos i1 (ev_some _))))))))))), by rw [List.length_set]; show r.length ≤ 21; omega, by omega, by omega⟩
  by_cases k3 : v = 3
  · exact ⟨_, c + 1 + 1, ev_opt hn (Ev.bind hp (ev_neg hz (ev_opt hi (ev_opt hv (ev_neg k0 (ev_neg k1 (ev_neg k2 (ev_pos k3 (ev_pos (by decide) (ev_some _)))))))))), by simp, by omega, by omega⟩
  · exact ⟨r, c + 1 + 1, ev_opt hn (Ev.bind hp (ev_neg hz (ev_opt hi (ev_opt hv (ev_neg k0 (ev_neg k1 (ev_neg k2 (ev_neg k3 (ev_some _))))))))), by omega, by omega, by omega⟩
theorem ev_l4With (l : List Int) (hl : l.length ≤ 1048576 + 1) (hb : Bytes l) : ∃ (r : List S87) (p : Pk), Ev (fun k => spec_l4With.f k l) (r, p.fr, p.to_, p.pr, p.tl, p.fp, p.tp, p.ld) ∧ r.length ≤ 21 ∧ p.ld.length ≤ 201 := by
  obtain ⟨r, c, er, hrl, g1, g2⟩ := ev_l4Bent l hl hb 0 (by omega) (by omega)
  obtain ⟨p, d, ep, hpl, g3, g4⟩ := ev_l2Bent l hl hb c (by omega) (by omega)
  obtain ⟨v, hv, _⟩ := q_l1Next l hl hb d 2 (by omega) (by omega)
  have hc : spec_l1Chance.f l d 2 = some ((v == 0), d + 1) := by
    unfold spec_l1Chance.f
    rw [hv, Option.bind_some]
  have hno : ∀ e, Ev (fun k => spec_l4With.j0 k r false l e p.fr p.to_ p.pr p.tl p.fp p.tp p.ld) (r, p.fr, p.to_, p.pr, p.tl, p.fp, p.tp, p.ld) := fun e => ev_succ (fun k => by rw [spec_l4With.j0, if_neg (by simp)])
  unfold spec_l4With.f
  by_cases hz : (r.length : Int) > 0
  · obtain ⟨i, hi, i0, i1, _⟩ := q_l1Next l hl hb (d + 1) r.length (by omega) (by omega)
    have i1 := i1 (by omega)
    by_cases h : v = 0
    · have hm := ev_spec_SampleOf (slOf (rd_T87 r i).f0)
      have hlen : (sampleM (slOf (rd_T87 r i).f0)).2.2.2.2.2.2.2 = [] := by
        unfold sampleM
        repeat' split
        all_goals rfl
      generalize sampleM (slOf (rd_T87 r i).f0) = x at hm hlen
      obtain ⟨x0, x1, x2, x3, x4, x5, x6, x7⟩ := x
      obtain rfl : x7 = [] := hlen
      by_cases g : x0 = 0
      · refine ⟨r, ⟨x1, x2, x3, x4, x5, x6, []⟩, ev_opt (q_l1Source l) (Ev.bind er (Ev.bind ep (ev_pos hz (ev_opt hc ?_)))), hrl, by simp⟩
        rw [show (v == 0) = true from beq_iff_eq.mpr h]
        refine Ev.step (fun k => by rw [spec_l4With.j0, if_pos rfl]) ?_
        exact ev_opt hi (ev_pos i0 (ev_pos i1 (Ev.bind hm (ev_pos g (ev_some _)))))
      · refine ⟨r, p, ev_opt (q_l1Source l) (Ev.bind er (Ev.bind ep (ev_pos hz (ev_opt hc ?_)))), hrl, hpl⟩
        rw [show (v == 0) = true from beq_iff_eq.mpr h]
        refine Ev.step (fun k => by rw [spec_l4With.j0, if_pos rfl]) ?_
        exact ev_opt hi (ev_pos i0 (ev_pos i1 (Ev.bind hm (ev_neg g (ev_some _)))))
    · refine ⟨r, p, ev_opt (q_l1Source l) (Ev.bind er (Ev.bind ep (ev_pos hz (ev_opt hc ?_)))), hrl, hpl⟩
      rw [show (v == 0) = false from beq_eq_false_iff_ne.mpr h]
      exact hno _
  · exact ⟨r, p, ev_opt (q_l1Source l) (Ev.bind er (Ev.bind ep (ev_neg hz (hno _)))), hrl, hpl⟩

theorem ev_DrawFirstRule (l : List Int) (hl : l.length ≤ 1048576 + 1) (hb : Bytes l) : ∃ (r : List S87) (p : Pk), Ev (fun k => spec_DrawFirstRule.f k l) (r, p.fr, p.to_, p.pr, p.tl, p.fp, p.tp, p.ld) ∧ r.length ≤ 21 ∧ p.ld.length ≤ 201 := by
  obtain ⟨r, p, e, h⟩ := ev_l4With l hl hb
  exact ⟨r, p, Ev.bind e (ev_some _), h⟩

def holdsS (s : Sl) (p : Pk) : Prop := (s.fl ≤ p.fr ∧ p.fr ≤ s.fh) ∧ (s.tl ≤ p.to_ ∧ p.to_ ≤ s.th) ∧ (s.pl ≤ p.fp ∧ p.fp ≤ s.ph) ∧ (s.ql ≤ p.tp ∧ p.tp ≤ s.qh) ∧ (s.pr = 0 ∨ s.pr = p.pr)
instance (s : Sl) (p : Pk) : Decidable (holdsS s p) := by unfold holdsS; infer_instance
def holdsF (s : Sl) (p : Pk) : Prop := selF s = 0 ∧ pktF p = 0 ∧ holdsS s p
instance (s : Sl) (p : Pk) : Decidable (holdsF s p) := by unfold holdsF; infer_instance

def fstR : List S87 → Pk → Int → Int
  | [], _, _ => -1
  | x :: xs, p, i => if holdsS (slOf x.f0) p then i else fstR xs p (i + 1)
theorem fstR_lt : ∀ (l : List S87) (p : Pk) (i : Int), fstR l p i < i + l.length ∧ (fstR l p i < 0 ∨ i ≤ fstR l p i) ∨ fstR l p i = -1
  | [], _, _ => .inr rfl
  | x :: xs, p, i => by
    rw [fstR]
    by_cases h : holdsS (slOf x.f0) p
    · rw [if_pos h]
      refine .inl ⟨?_, .inr (by omega)⟩
      simp
      omega
    · rw [if_neg h]
      rcases fstR_lt xs p (i + 1) with ⟨h1, h2⟩ | h1
      · refine .inl ⟨?_, ?_⟩
        · simp
          omega
        · omega
      · exact .inr h1
theorem fstR_lt0 (l : List S87) (p : Pk) (h : ¬ fstR l p 0 < 0) : 0 ≤ fstR l p 0 ∧ fstR l p 0 < (l.length : Int) := by
  rcases fstR_lt l p 0 with ⟨h1, h2⟩ | h1 <;> omega

theorem fstR_spec : ∀ (l : List S87) (p : Pk) (i : Int), (fstR l p i = -1 ∧ ∀ (j : Nat) (h : j < l.length), ¬ holdsS (slOf l[j].f0) p) ∨ ∃ (j : Nat) (h : j < l.length), fstR l p i = i + j ∧ holdsS (slOf l[j].f0) p ∧ ∀ (m : Nat) (hm : m < j), ¬ holdsS (slOf (l[m]'(Nat.lt_trans hm h)).f0) p
  | [], _, _ => .inl ⟨rfl, fun j h => absurd h (by simp)⟩
  | x :: xs, p, i => by
    rw [fstR]
    by_cases hx : holdsS (slOf x.f0) p
    · rw [if_pos hx]
      exact .inr ⟨0, by simp, by simp, hx, fun m hm => absurd hm (by omega)⟩
    · rw [if_neg hx]
      rcases fstR_spec xs p (i + 1) with ⟨h1, h2⟩ | ⟨j, h, h1, h2, h3⟩
      · refine .inl ⟨h1, fun j h => ?_⟩
        cases j with
        | zero => exact hx
        | succ j => exact h2 j (by simpa using h)
      · refine .inr ⟨j + 1, by simpa using h, by rw [h1]; omega, h2, fun m hm => ?_⟩
        cases m with
        | zero => exact hx
        | succ m => exact h3 m (by omega)

theorem q_spec_l3Holds (s : Sl) (p : Pk) : spec_l3Holds.f s.fl s.fh s.tl s.th s.pl s.ph s.ql s.qh s.pr p.fr p.to_ p.pr p.tl p.fp p.tp p.ld = some (decide (holdsS s p)) := by
  unfold spec_l3Holds.f spec_l3Has.f
  simp only [q_spec_l1In, Option.bind_some, decide_eq_true_eq]
  unfold holdsS
  by_cases h1 : s.fl ≤ p.fr ∧ p.fr ≤ s.fh <;> by_cases h2 : s.tl ≤ p.to_ ∧ p.to_ ≤ s.th <;> by_cases h3 : s.pl ≤ p.fp ∧ p.fp ≤ s.ph <;> by_cases h4 : s.ql ≤ p.tp ∧ p.tp ≤ s.qh <;> by_cases h5 : s.pr = 0 <;> by_cases h6 : s.pr = p.pr <;> simp [h1, h2, h3, h4, h5, h6]

theorem ev_spec_l4First (l : List S87) (hl : l.length ≤ 1048576) (p : Pk) : Ev (fun k => spec_l4First.f k l p.fr p.to_ p.pr p.tl p.fp p.tp p.ld) (fstR l p 0) := by
  have key : ∀ i, i ≤ l.length → Ev (fun k => spec_l4First.l0 k l (i : Nat) p.fr p.to_ p.pr p.tl p.fp p.tp p.ld) (fstR (l.drop i) p (i : Nat)) := by
    refine down l.length ?_ ?_
    · rw [List.drop_length]
      refine Ev.step (fun k => by rw [spec_l4First.l0, if_neg (by omega)]) ?_
      exact ev_some _
    · intro i hi ih
      rw [List.drop_eq_getElem_cons hi, fstR]
      refine Ev.step (fun k => by rw [spec_l4First.l0, if_pos (by omega), if_pos (by omega), rdRule_nat l i hi, w64 (by omega) (by omega)]) ?_
      refine ev_opt (q_spec_l3Holds (slOf l[i].f0) p) ?_
      by_cases h : holdsS (slOf l[i].f0) p
      · rw [if_pos h]
        exact ev_pos (by simpa using h) (ev_some _)
      · rw [if_neg h]
        exact ev_neg (by simpa using h) ih
  exact key 0 (by omega)

def ruleF (x : S87) : Int := if selF (slOf x.f0) = 0 then (if 1 ≤ x.f1 ∧ x.f1 ≤ 3 then (if (x.f1 = 3 ∧ 1 ≤ x.f2 ∧ x.f2 ≤ 9) ∨ (x.f1 ≠ 3 ∧ x.f2 = 0) then 0 else 1) else 3) else selF (slOf x.f0)
def scanRule : List S87 → Int
  | [] => 0
  | x :: xs => if ruleF x = 0 then scanRule xs else ruleF x
def policyF (l : List S87) : Int := if 20 < l.length then 2 else scanRule l

theorem ev_spec_PolicyFault_loop (l : List S87) (hl : l.length ≤ 1048576) : ∀ i, i ≤ l.length → Ev (fun k => spec_PolicyFault.l0 k l i) (scanRule (l.drop i)) := by
  refine down l.length ?_ ?_
  · rw [List.drop_length]
    refine Ev.step (fun k => by rw [spec_PolicyFault.l0, if_neg (by omega)]) ?_
    exact ev_some _
  · intro i hi ih
    rw [List.drop_eq_getElem_cons hi, scanRule]
    refine Ev.step (fun k => by rw [spec_PolicyFault.l0, if_pos (by omega), if_pos (by omega), rdRule_nat l i hi, w64 (by omega) (by omega)]) ?_
    refine Ev.bind (ev_spec_SelFault (slOf l[i].f0)) ?_
    have hr : ruleF l[i] = if selF (slOf l[i].f0) = 0 then (if 1 ≤ l[i].f1 ∧ l[i].f1 ≤ 3 then (if (l[i].f1 = 3 ∧ 1 ≤ l[i].f2 ∧ l[i].f2 ≤ 9) ∨ (l[i].f1 ≠ 3 ∧ l[i].f2 = 0) then 0 else 1) else 3) else selF (slOf l[i].f0) := rfl
    generalize hx : l[i] = x at *
    by_cases h : selF (slOf x.f0) = 0
    · refine ev_pos h (ev_opt (q_spec_l1In _ _ _) ?_)
      rw [if_pos h] at hr
      by_cases h1 : 1 ≤ x.f1 ∧ x.f1 ≤ 3
      · refine ev_pos (by simpa using h1) ?_
        rw [if_pos h1] at hr
        by_cases h3 : x.f1 = 3
        · refine ev_pos h3 (ev_opt (q_spec_l1In _ _ _) ?_)
          by_cases h4 : 1 ≤ x.f2 ∧ x.f2 ≤ 9
          · rw [if_pos (.inl ⟨h3, h4⟩)] at hr
            rw [if_pos hr]
            exact ev_pos (by simpa using h4) ih
          · rw [if_neg (by omega)] at hr
            rw [if_neg (by omega), hr]
            exact ev_neg (by simpa using h4) (ev_some _)
        · refine ev_neg h3 ?_
          by_cases h4 : x.f2 = 0
          · rw [if_pos (.inr ⟨h3, h4⟩)] at hr
            rw [if_pos hr]
            exact ev_pos h4 ih
          · rw [if_neg (by omega)] at hr
            rw [if_neg (by omega), hr]
            exact ev_neg h4 (ev_some _)
      · rw [if_neg h1] at hr
        rw [if_neg (by omega), hr]
        exact ev_neg (by simpa using h1) (ev_some _)
    · rw [if_neg h] at hr
      rw [hr, if_neg h]
      exact ev_neg h (ev_some _)
theorem ev_spec_PolicyFault (l : List S87) (hl : l.length ≤ 1048576) : Ev (fun k => spec_PolicyFault.f k l) (policyF l) := by
  unfold spec_PolicyFault.f policyF
  by_cases h1 : (l.length : Int) > 20
  · rw [if_pos (by omega)]
    exact ev_pos h1 (ev_some _)
  · rw [if_neg (by omega)]
    exact ev_neg h1 (ev_spec_PolicyFault_loop l hl 0 (by omega))

theorem q_spec_PacketFault_j1 (k : Nat) (b : Bool) (p : Pk) : spec_PacketFault.j1 (k + 1) b p.fr p.to_ p.pr p.tl p.fp p.tp p.ld = some (if b = true then 1 else if 200 < p.ld.length then 2 else 0) := by
  rw [spec_PacketFault.j1]
  cases b
  · by_cases h : 200 < p.ld.length
    · simp [h]
      omega
    · simp [h]
      omega
  · simp
theorem q_spec_PacketFault_j0 (k : Nat) (b : Bool) (p : Pk) : spec_PacketFault.j0 (k + 2) b p.fr p.to_ p.pr p.tl p.fp p.tp p.ld = some (if b = true then 3 else if pktPorts p then (if 200 < p.ld.length then 2 else 0) else 1) := by
  rw [spec_PacketFault.j0]
  simp only [q_spec_HasPorts, q_spec_PacketFault_j1, Option.bind_some, decide_eq_true_eq]
  unfold pktPorts hasP
  cases b
  · by_cases h2 : p.pr = 6 ∨ p.pr = 17
    · simp [h2]
    · by_cases h3 : p.fp = 0 <;> by_cases h4 : p.tp = 0 <;> simp [h2, h3, h4]
  · simp
theorem q_spec_PacketFault (k : Nat) (p : Pk) : spec_PacketFault.f (k + 2) p.fr p.to_ p.pr p.tl p.fp p.tp p.ld = some (pktF p) := by
  unfold spec_PacketFault.f spec_l2Address.f spec_l2Port.f
  simp only [q_spec_l1In, q_spec_PacketFault_j0, Option.bind_some, decide_eq_true_eq]
  unfold pktF pktOk
  by_cases h1 : 0 ≤ p.fr ∧ p.fr ≤ 4294967295 <;> by_cases h2 : 0 ≤ p.to_ ∧ p.to_ ≤ 4294967295 <;> by_cases h3 : 1 ≤ p.pr ∧ p.pr ≤ 255 <;> by_cases h4 : 1 ≤ p.tl ∧ p.tl ≤ 255 <;> by_cases h5 : 0 ≤ p.fp ∧ p.fp ≤ 65535 <;> by_cases h6 : 0 ≤ p.tp ∧ p.tp ≤ 65535 <;> simp [h1, h2, h3, h4, h5, h6]
theorem ev_spec_PacketFault (p : Pk) : Ev (fun k => spec_PacketFault.f k p.fr p.to_ p.pr p.tl p.fp p.tp p.ld) (pktF p) := ev_succ2 (fun k => q_spec_PacketFault k p)

def askF (l : List S87) (p : Pk) : Int := if policyF l = 0 then pktF p else policyF l
theorem ev_spec_l4Asked (l : List S87) (hl : l.length ≤ 1048576) (p : Pk) : Ev (fun k => spec_l4Asked.f k l p.fr p.to_ p.pr p.tl p.fp p.tp p.ld) (askF l p) := by
  unfold spec_l4Asked.f askF
  refine Ev.bind (ev_spec_PolicyFault l hl) ?_
  by_cases h : policyF l = 0
  · rw [if_pos h]
    exact ev_pos h (Ev.bind (ev_spec_PacketFault p) (ev_some _))
  · rw [if_neg h]
    exact ev_neg h (ev_some _)

theorem q_impl_in (a b c : Int) : impl_in.f a b c = some (decide (b ≤ a ∧ a ≤ c)) := by
  unfold impl_in.f
  by_cases h : b ≤ a
  · simp [h]
  · simp [h]

theorem q_impl_holds (s : Sl) (p : Pk) : impl_holds.f s.fl s.fh s.tl s.th s.pl s.ph s.ql s.qh s.pr p.fr p.to_ p.pr p.tl p.fp p.tp p.ld = some (decide (holdsS s p)) := by
  unfold impl_holds.f impl_Range_has.f
  simp only [q_impl_in, Option.bind_some, decide_eq_true_eq]
  unfold holdsS
  by_cases h1 : s.fl ≤ p.fr ∧ p.fr ≤ s.fh <;> by_cases h2 : s.tl ≤ p.to_ ∧ p.to_ ≤ s.th <;> by_cases h3 : s.pl ≤ p.fp ∧ p.fp ≤ s.ph <;> by_cases h4 : s.ql ≤ p.tp ∧ p.tp ≤ s.qh <;> by_cases h5 : s.pr = 0 <;> by_cases h6 : s.pr = p.pr <;> simp [h1, h2, h3, h4, h5, h6]

theorem q_impl_firstRule_go (p : Pk) : ∀ (l : List S87) (i : Int), idxO (fun x => impl_holds.f x.f0.f0.f0 x.f0.f0.f1 x.f0.f1.f0 x.f0.f1.f1 x.f0.f2.f0 x.f0.f2.f1 x.f0.f3.f0 x.f0.f3.f1 x.f0.f4 p.fr p.to_ p.pr p.tl p.fp p.tp p.ld) l i = some (fstR l p i)
  | [], _ => rfl
  | x :: xs, i => by
    rw [idxO, show impl_holds.f x.f0.f0.f0 x.f0.f0.f1 x.f0.f1.f0 x.f0.f1.f1 x.f0.f2.f0 x.f0.f2.f1 x.f0.f3.f0 x.f0.f3.f1 x.f0.f4 p.fr p.to_ p.pr p.tl p.fp p.tp p.ld = some (decide (holdsS (slOf x.f0) p)) from q_impl_holds (slOf x.f0) p, Option.bind_some, fstR]
    by_cases h : holdsS (slOf x.f0) p
    · rw [if_pos h, if_pos (by simpa using h)]
    · rw [if_neg h, if_neg (by simpa using h)]
      exact q_impl_firstRule_go p xs (i + 1)
theorem q_impl_firstRule (l : List S87) (p : Pk) : impl_firstRule.f l p.fr p.to_ p.pr p.tl p.fp p.tp p.ld = some (fstR l p 0) := q_impl_firstRule_go p l 0

theorem q_impl_Range_ok (lo hi m : Int) : impl_Range_ok.f lo hi m = some (decide (rok lo hi m)) := by
  unfold impl_Range_ok.f
  simp only [q_impl_in, Option.bind_some, decide_eq_true_eq]
  by_cases hr : rok lo hi m
  · rw [decide_eq_true hr]
    unfold rok at hr
    rw [if_pos (by omega), if_pos (by omega), decide_eq_true (by omega)]
  · rw [decide_eq_false hr]
    unfold rok at hr
    by_cases h : 0 ≤ lo ∧ lo ≤ m
    · by_cases g : 0 ≤ hi ∧ hi ≤ m
      · rw [if_pos h, if_pos g, decide_eq_false (by omega)]
      · rw [if_pos h, if_neg g]
    · rw [if_neg h]
theorem q_impl_SelFault_j0 (k : Nat) (b : Bool) (s : Sl) : impl_SelFault.j0 (k + 1) b s.fl s.fh s.tl s.th s.pl s.ph s.ql s.qh s.pr = some (if b = true then 3 else if selPorts s then 0 else 1) := by
  rw [impl_SelFault.j0]
  simp only [q_impl_HasPorts, impl_whole.f, Option.bind_some, decide_eq_true_eq]
  unfold selPorts hasP
  cases b
  · by_cases h1 : s.pr = 0
    · simp [h1]
    · by_cases h2 : s.pr = 6 ∨ s.pr = 17
      · simp [h1, h2]
      · by_cases h3 : s.pl = 0 <;> by_cases h4 : s.ph = 65535 <;> by_cases h5 : s.ql = 0 <;> by_cases h6 : s.qh = 65535 <;> simp [h1, h2, h3, h4, h5, h6]
  · simp
theorem q_impl_SelFault (k : Nat) (s : Sl) : impl_SelFault.f (k + 1) s.fl s.fh s.tl s.th s.pl s.ph s.ql s.qh s.pr = some (selF s) := by
  unfold impl_SelFault.f
  simp only [q_impl_Range_ok, q_impl_in, q_impl_SelFault_j0, Option.bind_some, decide_eq_true_eq]
  unfold selF selOk
  by_cases h1 : rok s.fl s.fh 4294967295 <;> by_cases h2 : rok s.tl s.th 4294967295 <;> by_cases h3 : rok s.pl s.ph 65535 <;> by_cases h4 : rok s.ql s.qh 65535 <;> by_cases h5 : 0 ≤ s.pr ∧ s.pr ≤ 255 <;> simp [h1, h2, h3, h4, h5]
theorem ev_impl_SelFault (s : Sl) : Ev (fun k => impl_SelFault.f k s.fl s.fh s.tl s.th s.pl s.ph s.ql s.qh s.pr) (selF s) := ev_succ (fun k => q_impl_SelFault k s)

theorem ev_impl_PolicyFault_loop (l : List S87) (hl : l.length ≤ 1048576) : ∀ i, i ≤ l.length → Ev (fun k => impl_PolicyFault.l0 k l l.length i) (scanRule (l.drop i)) := by
  refine down l.length ?_ ?_
  · rw [List.drop_length]
    refine Ev.step (fun k => by rw [impl_PolicyFault.l0, if_neg (by omega)]) ?_
    exact ev_some _
  · intro i hi ih
    rw [List.drop_eq_getElem_cons hi, scanRule]
    refine Ev.step (fun k => by rw [impl_PolicyFault.l0, if_pos (by omega), if_pos (by omega), if_pos (by omega), rdRule_nat l i hi, w64 (by omega) (by omega)]) ?_
    refine Ev.bind (ev_impl_SelFault (slOf l[i].f0)) ?_
    have hr : ruleF l[i] = if selF (slOf l[i].f0) = 0 then (if 1 ≤ l[i].f1 ∧ l[i].f1 ≤ 3 then (if (l[i].f1 = 3 ∧ 1 ≤ l[i].f2 ∧ l[i].f2 ≤ 9) ∨ (l[i].f1 ≠ 3 ∧ l[i].f2 = 0) then 0 else 1) else 3) else selF (slOf l[i].f0) := rfl
    generalize hx : l[i] = x at *
    by_cases h : selF (slOf x.f0) = 0
    · refine ev_pos h (ev_opt (q_impl_in _ _ _) ?_)
      rw [if_pos h] at hr
      by_cases h1 : 1 ≤ x.f1 ∧ x.f1 ≤ 3
      · refine ev_pos (by simpa using h1) ?_
        rw [if_pos h1] at hr
        by_cases h3 : x.f1 = 3
        · refine ev_pos h3 (ev_opt (by rw [impl_isPeer.f, q_impl_in]; rfl) ?_)
          by_cases h4 : 1 ≤ x.f2 ∧ x.f2 ≤ 9
          · rw [if_pos (.inl ⟨h3, h4⟩)] at hr
            rw [if_pos hr]
            exact ev_pos (by simpa using h4) ih
          · rw [if_neg (by omega)] at hr
            rw [if_neg (by omega), hr]
            exact ev_neg (by simpa using h4) (ev_some _)
        · refine ev_neg h3 ?_
          by_cases h4 : x.f2 = 0
          · rw [if_pos (.inr ⟨h3, h4⟩)] at hr
            rw [if_pos hr]
            exact ev_pos h4 ih
          · rw [if_neg (by omega)] at hr
            rw [if_neg (by omega), hr]
            exact ev_neg h4 (ev_some _)
      · rw [if_neg h1] at hr
        rw [if_neg (by omega), hr]
        exact ev_neg (by simpa using h1) (ev_some _)
    · rw [if_neg h] at hr
      rw [hr, if_neg h]
      exact ev_neg h (ev_some _)
theorem ev_impl_PolicyFault (l : List S87) (hl : l.length ≤ 1048576) : Ev (fun k => impl_PolicyFault.f k l) (policyF l) := by
  unfold impl_PolicyFault.f policyF
  by_cases h1 : (l.length : Int) > 20
  · rw [if_pos (by omega)]
    exact ev_pos h1 (ev_some _)
  · rw [if_neg (by omega)]
    exact ev_neg h1 (ev_impl_PolicyFault_loop l hl 0 (by omega))

theorem q_impl_PacketFault_j1 (k : Nat) (b : Bool) (p : Pk) : impl_PacketFault.j1 (k + 1) b p.fr p.to_ p.pr p.tl p.fp p.tp p.ld = some (if b = true then 1 else if 200 < p.ld.length then 2 else 0) := by
  rw [impl_PacketFault.j1]
  cases b
  · by_cases h : 200 < p.ld.length
    · simp [h]
      omega
    · simp [h]
      omega
  · simp
theorem q_impl_PacketFault_j0 (k : Nat) (b : Bool) (p : Pk) : impl_PacketFault.j0 (k + 2) b p.fr p.to_ p.pr p.tl p.fp p.tp p.ld = some (if b = true then 3 else if pktPorts p then (if 200 < p.ld.length then 2 else 0) else 1) := by
  rw [impl_PacketFault.j0]
  simp only [q_impl_HasPorts, q_impl_PacketFault_j1, Option.bind_some, decide_eq_true_eq]
  unfold pktPorts hasP
  cases b
  · by_cases h2 : p.pr = 6 ∨ p.pr = 17
    · simp [h2]
    · by_cases h3 : p.fp = 0 <;> by_cases h4 : p.tp = 0 <;> simp [h2, h3, h4]
  · simp
theorem q_impl_PacketFault (k : Nat) (p : Pk) : impl_PacketFault.f (k + 2) p.fr p.to_ p.pr p.tl p.fp p.tp p.ld = some (pktF p) := by
  unfold impl_PacketFault.f impl_isAddress.f impl_isPort.f
  simp only [q_impl_in, q_impl_PacketFault_j0, Option.bind_some, decide_eq_true_eq]
  unfold pktF pktOk
  by_cases h1 : 0 ≤ p.fr ∧ p.fr ≤ 4294967295 <;> by_cases h2 : 0 ≤ p.to_ ∧ p.to_ ≤ 4294967295 <;> by_cases h3 : 1 ≤ p.pr ∧ p.pr ≤ 255 <;> by_cases h4 : 1 ≤ p.tl ∧ p.tl ≤ 255 <;> by_cases h5 : 0 ≤ p.fp ∧ p.fp ≤ 65535 <;> by_cases h6 : 0 ≤ p.tp ∧ p.tp ≤ 65535 <;> simp [h1, h2, h3, h4, h5, h6]
theorem ev_impl_PacketFault (p : Pk) : Ev (fun k => impl_PacketFault.f k p.fr p.to_ p.pr p.tl p.fp p.tp p.ld) (pktF p) := ev_succ2 (fun k => q_impl_PacketFault k p)

def firstF : List Int → Int
  | [] => 0
  | x :: xs => if x = 0 then firstF xs else x
theorem ev_impl_faultOf_loop (l : List Int) (hl : l.length ≤ 1000000) : ∀ (d i : Nat), i + d = l.length → Ev (fun k => impl_faultOf.l0 k l l.length i) (firstF (l.drop i)) := by
  intro d
  induction d with
  | zero =>
    intro i hi
    obtain rfl : i = l.length := by omega
    rw [List.drop_length]
    refine Ev.step (fun k => by rw [impl_faultOf.l0, if_neg (by omega)]) ?_
    exact ev_some _
  | succ d ih =>
    intro i hi
    have hr := rd_nat l i (by omega)
    rw [List.drop_eq_getElem_cons (by omega : i < l.length), firstF, ← hr]
    by_cases h : rd l i = 0
    · refine Ev.step (fun k => by rw [impl_faultOf.l0, if_pos (by omega), if_pos (by omega), if_pos (by omega), if_pos h]) ?_
      rw [w64 (by omega) (by omega), if_pos h]
      exact ih (i + 1) (by omega)
    · refine Ev.step (fun k => by rw [impl_faultOf.l0, if_pos (by omega), if_pos (by omega), if_pos (by omega), if_neg h]) ?_
      rw [if_neg h]
      exact ev_some _
theorem ev_impl_faultOf (l : List Int) (hl : l.length ≤ 1000000) : Ev (fun k => impl_faultOf.f k l) (firstF l) := ev_impl_faultOf_loop l hl l.length 0 (by omega)
theorem ev_faultOf2 (a b : Int) : Ev (fun k => impl_faultOf.f k [a, b]) (if a = 0 then b else a) := by
  refine ev_to (ev_impl_faultOf [a, b] (by simp)) ?_
  simp only [firstF]
  by_cases h : a = 0
  · rw [if_pos h, if_pos h]
    split
    · rename_i hb; exact hb.symm
    · rfl
  · rw [if_neg h, if_neg h]

def frOf (l : List S87) (p : Pk) : Int × Int × Int × Int × Int × Int × Int × Int × Int × Int × Int × Int × Int :=
  if askF l p = 0 then (if fstR l p 0 < 0 then (4, 0, 0, 0, 0, 0, 0, 0, 0, 0, 0, 0, 0) else (0, fstR l p 0, (rd_T87 l (fstR l p 0)).f0.f0.f0, (rd_T87 l (fstR l p 0)).f0.f0.f1, (rd_T87 l (fstR l p 0)).f0.f1.f0, (rd_T87 l (fstR l p 0)).f0.f1.f1, (rd_T87 l (fstR l p 0)).f0.f2.f0, (rd_T87 l (fstR l p 0)).f0.f2.f1, (rd_T87 l (fstR l p 0)).f0.f3.f0, (rd_T87 l (fstR l p 0)).f0.f3.f1, (rd_T87 l (fstR l p 0)).f0.f4, (rd_T87 l (fstR l p 0)).f1, (rd_T87 l (fstR l p 0)).f2)) else (askF l p, 0, 0, 0, 0, 0, 0, 0, 0, 0, 0, 0, 0)
theorem ev_spec_FirstRule (l : List S87) (hl : l.length ≤ 1048576) (p : Pk) : Ev (fun k => spec_FirstRule.f k l p.fr p.to_ p.pr p.tl p.fp p.tp p.ld) (frOf l p) := by
  unfold spec_FirstRule.f frOf
  refine Ev.bind (ev_spec_l4Asked l hl p) ?_
  refine ev_cond (fun h => Ev.bind (ev_spec_l4First l hl p) (ev_cond (fun g => ev_some _) (fun g => ?_))) (fun h => ev_some _)
  have := fstR_lt0 l p g
  exact ev_pos this.1 (ev_pos this.2 (ev_some _))
theorem ev_impl_FirstRule (l : List S87) (hl : l.length ≤ 1048576) (p : Pk) : Ev (fun k => impl_FirstRule.f k l p.fr p.to_ p.pr p.tl p.fp p.tp p.ld) (frOf l p) := by
  unfold impl_FirstRule.f frOf
  refine Ev.bind (ev_impl_PolicyFault l hl) (Ev.bind (ev_impl_PacketFault p) (Ev.bind (ev_faultOf2 _ _) ?_))
  change Ev (fun k => if askF l p = 0 then _ else some (askF l p, 0, 0, 0, 0, 0, 0, 0, 0, 0, 0, 0, 0)) _
  refine ev_cond (fun h => ev_opt (q_impl_firstRule l p) (ev_cond (fun g => ev_some _) (fun g => ?_))) (fun h => ev_some _)
  have := fstR_lt0 l p g
  exact ev_pos this.1 (ev_pos this.2 (ev_some _))

theorem scanRule_ok : ∀ (l : List S87), scanRule l = 0 → ∀ x ∈ l, ruleF x = 0
  | [], _, _, h => absurd h (by simp)
  | y :: ys, h, x, hx => by
    rw [scanRule] at h
    by_cases g : ruleF y = 0
    · rw [if_pos g] at h
      rcases List.mem_cons.mp hx with rfl | hx
      · exact g
      · exact scanRule_ok ys h x hx
    · rw [if_neg g] at h
      exact absurd h g
theorem policyF_ok {l : List S87} (h : policyF l = 0) : l.length ≤ 20 ∧ ∀ x ∈ l, ruleF x = 0 := by
  unfold policyF at h
  split at h
  · exact absurd h (by omega)
  · exact ⟨by omega, scanRule_ok l h⟩
theorem ruleF_sel {x : S87} (h : ruleF x = 0) : selF (slOf x.f0) = 0 := by
  unfold ruleF at h
  by_cases g : selF (slOf x.f0) = 0
  · exact g
  · rw [if_neg g] at h
    exact h
theorem selF_le (s : Sl) : 0 ≤ selF s ∧ selF s ≤ 3 := by
  unfold selF
  repeat' split
  all_goals omega
theorem pktF_le (p : Pk) : 0 ≤ pktF p ∧ pktF p ≤ 3 := by
  unfold pktF
  repeat' split
  all_goals omega
theorem ruleF_le (x : S87) : 0 ≤ ruleF x ∧ ruleF x ≤ 3 := by
  have := selF_le (slOf x.f0)
  unfold ruleF
  repeat' split
  all_goals omega
theorem scanRule_le : ∀ l : List S87, 0 ≤ scanRule l ∧ scanRule l ≤ 3
  | [] => by rw [scanRule]; omega
  | x :: xs => by
    rw [scanRule]
    split
    · exact scanRule_le xs
    · exact ruleF_le x
theorem policyF_le (l : List S87) : 0 ≤ policyF l ∧ policyF l ≤ 3 := by
  have := scanRule_le l
  unfold policyF
  split <;> omega
theorem askF_le (l : List S87) (p : Pk) : 0 ≤ askF l p ∧ askF l p ≤ 3 := by
  have := policyF_le l
  have := pktF_le p
  unfold askF
  split <;> omega
theorem askF_ok {l : List S87} {p : Pk} (h : askF l p = 0) : policyF l = 0 ∧ pktF p = 0 := by
  unfold askF at h
  split at h
  · exact ⟨by assumption, h⟩
  · exact absurd h (by assumption)
theorem ruleF_act {x : S87} (h : ruleF x = 0) : 1 ≤ x.f1 ∧ x.f1 ≤ 3 := by
  have g := ruleF_sel h
  unfold ruleF at h
  rw [if_pos g] at h
  by_cases g1 : 1 ≤ x.f1 ∧ x.f1 ≤ 3
  · exact g1
  · rw [if_neg g1] at h
    exact absurd h (by omega)

def afOf (l : List S87) (p : Pk) : Int × Int :=
  if askF l p = 0 then (if fstR l p 0 < 0 then (0, 1) else (0, (rd_T87 l (fstR l p 0)).f1)) else (askF l p, 0)
theorem q_impl_actionFor (l : List S87) (p : Pk) : impl_actionFor.f l p.fr p.to_ p.pr p.tl p.fp p.tp p.ld = some (if fstR l p 0 < 0 then 1 else (rd_T87 l (fstR l p 0)).f1) := by
  unfold impl_actionFor.f
  rw [q_impl_firstRule, Option.bind_some]
  by_cases g : fstR l p 0 < 0
  · rw [if_pos g]
    simp only [show ¬ (fstR l p 0 ≥ 0) by omega, show ¬ (0 ≤ fstR l p 0) by omega, if_false]
  · rw [if_neg g]
    have := fstR_lt0 l p g
    simp only [show (fstR l p 0 ≥ 0) by omega, this.1, this.2, if_true]
theorem ev_impl_ActionFor (l : List S87) (hl : l.length ≤ 1048576) (p : Pk) : Ev (fun k => impl_ActionFor.f k l p.fr p.to_ p.pr p.tl p.fp p.tp p.ld) (afOf l p) := by
  unfold impl_ActionFor.f afOf
  refine Ev.bind (ev_impl_PolicyFault l hl) (Ev.bind (ev_impl_PacketFault p) (Ev.bind (ev_faultOf2 _ _) ?_))
  change Ev (fun k => if askF l p = 0 then _ else some (askF l p, 0)) _
  refine ev_cond (fun h => ev_opt (q_impl_actionFor l p) ?_) (fun h => ev_some _)
  exact ev_to (ev_some _) (by split <;> rfl)

theorem ev_impl_Holds (s : Sl) (p : Pk) : Ev (fun k => impl_Holds.f k s.fl s.fh s.tl s.th s.pl s.ph s.ql s.qh s.pr p.fr p.to_ p.pr p.tl p.fp p.tp p.ld) (decide (holdsF s p)) := by
  unfold impl_Holds.f
  simp only [q_impl_holds, Option.bind_some]
  unfold holdsF
  refine Ev.bind (ev_impl_SelFault s) ?_
  by_cases h : selF s = 0
  · refine ev_pos h (Ev.bind (ev_impl_PacketFault p) ?_)
    by_cases g : pktF p = 0
    · exact ev_pos g (ev_to (ev_some _) (by simp [h, g]))
    · exact ev_neg g (ev_to (ev_some _) (by simp [h, g]))
  · exact ev_neg h (ev_to (ev_some _) (by simp [h]))

theorem first_l0 (l : List S87) (hl : l.length ≤ 21) (p : Pk) (hp : policyF l = 0) (hk : pktF p = 0) (c f b0 b1 b2 b3 b4 b5 b6 b7 b8 ac pe a0 a1 : Int)
    (hc : (c = 4 ∧ (∀ (j : Nat) (h : j < l.length), ¬ holdsS (slOf l[j].f0) p) ∧ a0 = 0 ∧ a1 = 1) ∨ (c = 0 ∧ ∃ (j : Nat) (h : j < l.length), f = j ∧ holdsS (slOf l[j].f0) p ∧ (∀ (m : Nat) (hm : m < j), ¬ holdsS (slOf (l[m]'(Nat.lt_trans hm h)).f0) p) ∧ a0 = 0 ∧ a1 = ac ∧ 1 ≤ ac)) :
    Ev (fun k => laws_FnFirst.l0 k l 0 p.fr p.to_ p.pr p.tl p.fp p.tp p.ld c f b0 b1 b2 b3 b4 b5 b6 b7 b8 ac pe a0 a1) true := by
  have hok := (policyF_ok hp).2
  have key : ∀ i, i ≤ l.length → Ev (fun k => laws_FnFirst.l0 k l (i : Nat) p.fr p.to_ p.pr p.tl p.fp p.tp p.ld c f b0 b1 b2 b3 b4 b5 b6 b7 b8 ac pe a0 a1) true := by
    refine down l.length ?_ ?_
    · refine Ev.step (fun k => by rw [laws_FnFirst.l0, if_neg (by omega)]) ?_
      rcases hc with ⟨rfl, _, rfl, rfl⟩ | ⟨rfl, j, _, _, _, _, rfl, rfl, h1⟩
      · exact ev_pos rfl (ev_pos rfl (ev_some _))
      · exact ev_neg (by omega) (ev_pos rfl (ev_pos rfl (ev_to (ev_some _) (by simpa using h1))))
    · intro i hi ih
      have hs : selF (slOf l[i].f0) = 0 := ruleF_sel (hok _ (List.getElem_mem hi))
      have hh := ev_impl_Holds (slOf l[i].f0) p
      have ed : decide (holdsF (slOf l[i].f0) p) = decide (holdsS (slOf l[i].f0) p) := by
        rw [decide_eq_decide]
        unfold holdsF
        simp [hs, hk]
      rw [ed] at hh
      refine Ev.step (fun k => by rw [laws_FnFirst.l0, if_pos (by omega), if_pos (by omega), rdRule_nat l i hi, w64 (by omega) (by omega)]) ?_
      refine Ev.bind hh ?_
      rcases hc with ⟨rfl, hn, _, _⟩ | ⟨rfl, j, hj, rfl, h1, h2, _, _, _⟩
      · exact ev_pos rfl (ev_neg (by simpa using hn i hi) (ev_neg (by omega) ih))
      · refine ev_neg (by omega) (ev_pos rfl ?_)
        by_cases h : (i : Int) < (j : Int)
        · exact ev_pos h (ev_neg (by simpa using h2 i (by omega)) (ev_neg (by omega) ih))
        · refine ev_neg h ?_
          by_cases g : (i : Int) = (j : Int)
          · obtain rfl : i = j := by omega
            exact ev_pos g (ev_pos (by simpa using h1) ih)
          · exact ev_neg g ih
  exact key 0 (by omega)
theorem FnFirst : laws_FnFirst.Pure := by
  intro l _ _ hw
  apply Ev.rounds
  unfold laws_FnFirst.f
  refine ev_opt (q_lwBig l) ?_
  by_cases h : (l.length : Int) > 1048576
  · exact ev_pos (by simpa using h) (ev_some _)
  · obtain ⟨r, p, hd, hrl, hpl⟩ := ev_DrawFirstRule l (by omega) (bytes_wf hw)
    refine ev_neg (by simpa using h) (Ev.bind hd (Ev.bind (ev_impl_FirstRule r (by omega) p) (Ev.bind (ev_impl_ActionFor r (by omega) p) ?_)))
    have hs := ev_spec_FirstRule r (by omega) p
    by_cases ha : askF r p = 0
    · have hok := askF_ok ha
      unfold frOf afOf
      rw [if_pos ha, if_pos ha]
      rcases fstR_spec r p 0 with ⟨h1, h2⟩ | ⟨j, hj, h1, h2, h3⟩
      · rw [h1, if_pos (by omega), if_pos (by omega)]
        refine ev_neg (by decide) ?_
        refine Ev.step (fun k => by rw [laws_FnFirst.j0, if_neg (by decide)]) ?_
        exact first_l0 r hrl p hok.1 hok.2 _ _ _ _ _ _ _ _ _ _ _ _ _ _ _ (.inl ⟨rfl, h2, rfl, rfl⟩)
      · rw [if_neg (by omega), if_neg (by omega)]
        refine ev_pos rfl ?_
        refine Ev.step (fun k => by rw [laws_FnFirst.j0, if_neg (by decide)]) ?_
        have hact := ruleF_act ((policyF_ok hok.1).2 _ (List.getElem_mem hj))
        have er : rd_T87 r (fstR r p 0) = r[j] := by
          rw [h1, Int.zero_add]
          exact rdRule_nat r j hj
        refine first_l0 r hrl p hok.1 hok.2 _ _ _ _ _ _ _ _ _ _ _ _ _ _ _ (.inr ⟨rfl, j, hj, by show fstR r p 0 = (j : Int); omega, h2, h3, rfl, rfl, ?_⟩)
        rw [er]
        exact hact.1
    · have hle := askF_le r p
      unfold frOf at hs ⊢
      unfold afOf
      rw [if_neg ha] at hs
      rw [if_neg ha, if_neg ha]
      refine ev_neg ha ?_
      have e : (askF r p != 4) = true := by
        rw [bne_iff_ne]
        omega
      refine Ev.step (fun k => by rw [laws_FnFirst.j0, if_pos (show ((askF r p, (0 : Int)).1 != 4) = true from e)]) ?_
      exact Ev.bind hs (ev_pos rfl (ev_to (ev_some _) (by simp)))

end Go.Proofs.Ytcelgjhhmkgnhaa.Pure
