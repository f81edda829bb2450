
/- Proved: the law FnTrims answers true at every input that Go can hand in (it says: rules that are never reached may go. (P5, P1)) No condition beyond the statement's own. -/
import Derived.Test.YtcelgjhhmkgnhaaPFnTrimsx24
namespace Go.Proofs.Ytcelgjhhmkgnhaa.Pure
open Go.RowKit Go.Proofs.Ytcelgjhhmkgnhaa.PFnTrims Go.Proofs.YtcelgjhhmkgnhaaW.PrintWords Go.Proofs.YtcelgjhhmkgnhaaW.PrintLast Go.Proofs.YtcelgjhhmkgnhaaW.PrintMore
set_option linter.unusedVariables false
set_option linter.unusedSimpArgs false

theorem w64 {x : Int} (h0 : -9223372036854775808 ≤ x) (h1 : x ≤ 9223372036854775807) : wrap64 x = x := by
  unfold wrap64
  omega
theorem tmod_pos {a b : Int} (h : 0 ≤ a) : Int.tmod a b = a % b := Int.tmod_eq_emod_of_nonneg h
theorem tdiv_pos {a b : Int} (h : 0 ≤ a) : Int.tdiv a b = a / b := Int.tdiv_eq_ediv_of_nonneg h
theorem ev_some {α : Type} (r : α) : Ev (fun _ => some r) r := Ev.now r
theorem ev_pos {α : Type} {c : Prop} [Decidable c] {A B : Nat → Option α} {r : α} (h : c) (e : Ev A r) : Ev (fun k => if c then A k else B k) r := by
  simpa only [if_pos h] using e
theorem ev_neg {α : Type} {c : Prop} [Decidable c] {A B : Nat → Option α} {r : α} (h : ¬ c) (e : Ev B r) : Ev (fun k => if c then A k else B k) r := by
  simpa only [if_neg h] using e
theorem ev_opt {α β : Type} {o : Option α} {f : Nat → α → Option β} {a : α} {r : β} (h : o = some a) (e : Ev (fun n => f n a) r) : Ev (fun n => o.bind (f n)) r := by
  simpa only [h, Option.bind_some] using e
theorem ev_to {α : Type} {g : Nat → Option α} {r r' : α} (e : Ev g r) (h : r = r') : Ev g r' := h ▸ e
theorem ev_fix {α : Type} {o : Option α} {r : α} (h : o = some r) : Ev (fun _ => o) r := ⟨0, fun _ _ => h⟩
theorem rd_nat (l : List Int) (i : Nat) (h : i < l.length) : rd l (i : Int) = l[i] := by
  unfold rd
  simp [List.getD_eq_getElem?_getD, h]
theorem rd_mem (l : List Int) (i : Int) (h0 : 0 ≤ i) (h : i < l.length) : rd l i ∈ l := by
  obtain ⟨n, rfl⟩ := Int.eq_ofNat_of_zero_le h0
  rw [rd_nat l n (by omega)]
  exact List.getElem_mem _
theorem u8_range {x : Int} (h : (Lit.int .u8 x).wf = true) : 0 ≤ x ∧ x ≤ 255 := by
  simp [Lit.wf, IntKind.min, IntKind.max, IntKind.signed, IntKind.bits] at h
  omega
theorem ev_cond {α : Type} {c : Prop} [Decidable c] {A B : Nat → Option α} {r r' : α} (hp : c → Ev A r) (hn : ¬ c → Ev B r') : Ev (fun k => if c then A k else B k) (if c then r else r') := by
  by_cases h : c
  · rw [if_pos h]; exact ev_pos h (hp h)
  · rw [if_neg h]; exact ev_neg h (hn h)
theorem ev_succ {α : Type} {g : Nat → Option α} {r : α} (h : ∀ k, g (k + 1) = some r) : Ev g r := Ev.step h (ev_some r)
theorem down {P : Nat → Prop} (n : Nat) (hend : P n) (hstep : ∀ i, i < n → P (i + 1) → P i) : ∀ i, i ≤ n → P i := by
  intro i hi
  obtain ⟨d, hd⟩ : ∃ d, i + d = n := ⟨n - i, by omega⟩
  induction d generalizing i with
  | zero =>
    obtain rfl : i = n := by omega
    exact hend
  | succ d ih => exact hstep i (by omega) (ih (i + 1) (by omega) (by omega))
theorem getD_nat {α : Type} (l : List α) (z : α) (i : Nat) (h : i < l.length) : l.getD (i : Int).toNat z = l[i] := by
  simp [List.getD_eq_getElem?_getD, h]
theorem q_lwBig (l : List Int) : laws_lwBig.f l = some (decide ((l.length : Int) > 1048576)) := rfl

def Bytes (l : List Int) : Prop := ∀ x ∈ l, 0 ≤ x ∧ x ≤ 255
theorem bytes_wf {l : List Int} (h : ∀ x ∈ l, (Lit.int .u8 x).wf = true) : Bytes l := fun x hx => u8_range (h x hx)
theorem bytes_append {a b : List Int} (ha : Bytes a) (hb : Bytes b) : Bytes (a ++ b) := by
  intro x hx
  rcases List.mem_append.1 hx with h | h
  · exact ha x h
  · exact hb x h
theorem bytes_nil : Bytes [] := fun x hx => by simp at hx
theorem bytes_one {x : Int} (h : 0 ≤ x ∧ x ≤ 255) : Bytes [x] := fun y hy => by simp at hy; subst hy; exact h

theorem q_l1Next (l : List Int) (hl : l.length ≤ 1048576 + 1) (hb : Bytes l) (at_ n : Int) (h0 : 0 ≤ at_) (h1 : at_ ≤ 1099511627776) :
    ∃ v, spec_l1Next.f l at_ n = some (v, at_ + 1) ∧ 0 ≤ v ∧ (1 ≤ n → v < n) ∧ (n < 1 → v = 0) := by
  unfold spec_l1Next.f
  rw [w64 (x := at_ + 1) (by omega) (by omega), show at_ + 1 - 1 = at_ from by omega, w64 (x := at_) (by omega) (by omega), w64 (x := at_ + 1) (by omega) (by omega)]
  by_cases hn : n < 1
  · exact ⟨0, by rw [if_pos hn], by omega, by omega, fun _ => rfl⟩
  · rw [if_neg hn]
    by_cases hz : (l.length : Int) = 0
    · rw [if_pos hz, if_neg (by omega), w64 (by omega) (by omega), tmod_pos (by omega)]
      exact ⟨_, rfl, Int.emod_nonneg _ (by omega), fun _ => Int.emod_lt_of_pos _ (by omega), by omega⟩
    · have ha := Int.emod_nonneg at_ hz
      have ha2 := Int.emod_lt_of_pos at_ (b := (l.length : Int)) (by omega)
      have hb1 := Int.emod_nonneg (at_ + 1) hz
      have hb2 := Int.emod_lt_of_pos (at_ + 1) (b := (l.length : Int)) (by omega)
      have r1 := hb _ (rd_mem l _ ha ha2)
      have r2 := hb _ (rd_mem l _ hb1 hb2)
      have d1 : 0 ≤ at_ / (l.length : Int) := Int.ediv_nonneg h0 (by omega)
      have d2 : at_ / (l.length : Int) ≤ at_ := Int.ediv_le_self _ h0
      rw [if_neg hz, tmod_pos h0, tmod_pos (a := at_ + 1) (by omega), tdiv_pos h0, if_pos ha, if_pos ha2]
      rw [w64 (x := rd l (at_ % (l.length : Int))) (by omega) (by omega), w64 (x := rd l ((at_ + 1) % (l.length : Int))) (by omega) (by omega), w64 (x := at_ / (l.length : Int)) (by omega) (by omega), w64 (x := at_ / (l.length : Int) * 37) (by omega) (by omega), w64 (x := rd l (at_ % (l.length : Int)) + at_ / (l.length : Int) * 37) (by omega) (by omega), w64 (x := (rd l (at_ % (l.length : Int)) + at_ / (l.length : Int) * 37) * 251) (by omega) (by omega), w64 (x := rd l ((at_ + 1) % (l.length : Int)) * 13) (by omega) (by omega)]
      rw [w64 (x := (rd l (at_ % (l.length : Int)) + at_ / (l.length : Int) * 37) * 251 + rd l ((at_ + 1) % (l.length : Int)) * 13) (by omega) (by omega)]
      rw [w64 (x := (rd l (at_ % (l.length : Int)) + at_ / (l.length : Int) * 37) * 251 + rd l ((at_ + 1) % (l.length : Int)) * 13 + at_) (by omega) (by omega)]
      by_cases h2 : n > 200
      · rw [if_pos h2, if_pos hb1, if_pos hb2, if_neg (by omega), tmod_pos (by omega)]
        exact ⟨_, rfl, Int.emod_nonneg _ (by omega), fun _ => Int.emod_lt_of_pos _ (by omega), by omega⟩
      · rw [if_neg h2, if_neg (by omega), tmod_pos (by omega)]
        exact ⟨_, rfl, Int.emod_nonneg _ (by omega), fun _ => Int.emod_lt_of_pos _ (by omega), by omega⟩

theorem q_l1Pick (l : List Int) (hl : l.length ≤ 1048576 + 1) (hb : Bytes l) (at_ : Int) (c : List Int) (h0 : 0 ≤ at_) (h1 : at_ ≤ 1099511627776) (hc : 1 ≤ c.length) :
    ∃ v, spec_l1Pick.f l at_ c = some (v, at_ + 1) ∧ v ∈ c := by
  obtain ⟨i, hi, hi0, hi1, _⟩ := q_l1Next l hl hb at_ c.length h0 h1
  have hi1 := hi1 (by omega)
  unfold spec_l1Pick.f
  rw [hi, Option.bind_some, if_pos hi0, if_pos hi1]
  exact ⟨_, rfl, rd_mem c i hi0 hi1⟩

structure Sl where
  fl : Int
  fh : Int
  tl : Int
  th : Int
  pl : Int
  ph : Int
  ql : Int
  qh : Int
  pr : Int
def rok (lo hi most : Int) : Prop := 0 ≤ lo ∧ lo ≤ hi ∧ hi ≤ most
instance (lo hi most : Int) : Decidable (rok lo hi most) := by unfold rok; infer_instance
def selOk (s : Sl) : Prop := rok s.fl s.fh 4294967295 ∧ rok s.tl s.th 4294967295 ∧ rok s.pl s.ph 65535 ∧ rok s.ql s.qh 65535 ∧ 0 ≤ s.pr ∧ s.pr ≤ 255
instance (s : Sl) : Decidable (selOk s) := by unfold selOk; infer_instance
def hasP (p : Int) : Prop := p = 6 ∨ p = 17
instance (p : Int) : Decidable (hasP p) := by unfold hasP; infer_instance
def selPorts (s : Sl) : Prop := s.pr = 0 ∨ hasP s.pr ∨ (s.pl = 0 ∧ s.ph = 65535 ∧ s.ql = 0 ∧ s.qh = 65535)
instance (s : Sl) : Decidable (selPorts s) := by unfold selPorts; infer_instance
def selF (s : Sl) : Int := if selOk s then (if selPorts s then 0 else 1) else 3

theorem q_spec_HasPorts (a : Int) : spec_HasPorts.f a = some (decide (a = 6 ∨ a = 17)) := by
  unfold spec_HasPorts.f
  by_cases h : a = 6
  · simp [h]
  · by_cases g : a = 17
    · simp [g]
    · simp [h, g]
theorem q_impl_HasPorts (a : Int) : impl_HasPorts.f a = some (decide (a = 6 ∨ a = 17)) := by
  unfold impl_HasPorts.f
  by_cases h : a = 6
  · simp [h]
  · by_cases g : a = 17
    · simp [g]
    · simp [h, g]

theorem q_l3Addresses (l : List Int) (hl : l.length ≤ 1048576 + 1) (hb : Bytes l) (at_ : Int) (h0 : 0 ≤ at_) (h1 : at_ ≤ 1000000000) : ∃ a b c, spec_l3Addresses.f l at_ = some (a, b, c) ∧ at_ ≤ c ∧ c ≤ at_ + 3 := by
  obtain ⟨v, hv, _⟩ := q_l1Next l hl hb at_ 4 h0 (by omega)
  obtain ⟨u, hu, _⟩ := q_l1Next l hl hb (at_ + 1) 6 (by omega) (by omega)
  obtain ⟨x, hx, _⟩ := q_l1Next l hl hb (at_ + 1 + 1) 5 (by omega) (by omega)
  unfold spec_l3Addresses.f
  simp only [hv, Option.bind_some]
  by_cases h : v = 0
  · rw [if_pos h]
    exact ⟨_, _, _, rfl, by omega, by omega⟩
  · rw [if_neg h]
    by_cases g : v = 1
    · simp only [if_pos g, hu, Option.bind_some]
      exact ⟨_, _, _, rfl, by omega, by omega⟩
    · simp only [if_neg g, hu, hx, Option.bind_some]
      exact ⟨_, _, _, rfl, by omega, by omega⟩
theorem q_l3Ports (l : List Int) (hl : l.length ≤ 1048576 + 1) (hb : Bytes l) (at_ : Int) (h0 : 0 ≤ at_) (h1 : at_ ≤ 1000000000) : ∃ a b c, spec_l3Ports.f l at_ = some (a, b, c) ∧ at_ ≤ c ∧ c ≤ at_ + 2 := by
  obtain ⟨v, hv, _⟩ := q_l1Next l hl hb at_ 3 h0 (by omega)
  obtain ⟨u, hu, _⟩ := q_l1Pick l hl hb (at_ + 1) [80, 443, 22] (by omega) (by omega) (by simp)
  unfold spec_l3Ports.f spec_l3All.f
  simp only [hv, Option.bind_some]
  by_cases h : v = 0
  · simp only [if_pos h, hu, Option.bind_some]
    exact ⟨_, _, _, rfl, by omega, by omega⟩
  · rw [if_neg h]
    by_cases g : v = 1
    · rw [if_pos g]
      exact ⟨_, _, _, rfl, by omega, by omega⟩
    · rw [if_neg g]
      exact ⟨_, _, _, rfl, by omega, by omega⟩
theorem ev_l3Sel (l : List Int) (hl : l.length ≤ 1048576 + 1) (hb : Bytes l) (at_ : Int) (h0 : 0 ≤ at_) (h1 : at_ ≤ 100000000) : ∃ (s : Sl) (c : Int), Ev (fun k => spec_l3Sel.f k l at_) (s.fl, s.fh, s.tl, s.th, s.pl, s.ph, s.ql, s.qh, s.pr, c) ∧ at_ ≤ c ∧ c ≤ at_ + 12 := by
  obtain ⟨a, b, c, e1, g1, g2⟩ := q_l3Addresses l hl hb at_ h0 (by omega)
  obtain ⟨a', b', c', e2, g3, g4⟩ := q_l3Addresses l hl hb c (by omega) (by omega)
  obtain ⟨p, hp, _⟩ := q_l1Pick l hl hb c' [0, 6, 17, 6, 0, 1, 50] (by omega) (by omega) (by simp)
  obtain ⟨x, y, z, e3, g5, g6⟩ := q_l3Ports l hl hb (c' + 1) (by omega) (by omega)
  have hj : ∀ d : Bool, ∃ (s : Sl) (e : Int), (∀ k, spec_l3Sel.j0 (k + 1) d l (c' + 1) a b a' b' 0 65535 0 65535 p = some (s.fl, s.fh, s.tl, s.th, s.pl, s.ph, s.ql, s.qh, s.pr, e)) ∧ at_ ≤ e ∧ e ≤ at_ + 12 := by
    intro d
    cases d
    · exact ⟨⟨a, b, a', b', 0, 65535, 0, 65535, p⟩, c' + 1, fun k => by rw [spec_l3Sel.j0, if_neg (by simp)], by omega, by omega⟩
    · exact ⟨⟨a, b, a', b', 0, 65535, x, y, p⟩, z, fun k => by rw [spec_l3Sel.j0, if_pos rfl, spec_l3All.f, Option.bind_some, e3, Option.bind_some], by omega, by omega⟩
  obtain ⟨s, e, hs, g7, g8⟩ := hj (decide (p = 0 ∨ p = 6 ∨ p = 17))
  refine ⟨s, e, ev_succ (fun k => ?_), g7, g8⟩
  unfold spec_l3Sel.f spec_l3All.f
  simp only [e1, e2, hp, q_spec_HasPorts, Option.bind_some]
  by_cases h : p = 0
  · rw [if_pos h, ← hs k]
    simp [h]
  · rw [if_neg h, ← hs k]
    simp [h]

theorem ev_l3Bent (l : List Int) (hl : l.length ≤ 1048576 + 1) (hb : Bytes l) (at_ : Int) (h0 : 0 ≤ at_) (h1 : at_ ≤ 10000000) : ∃ (s : Sl) (c : Int), Ev (fun k => spec_l3Bent.f k l at_) (s.fl, s.fh, s.tl, s.th, s.pl, s.ph, s.ql, s.qh, s.pr, c) ∧ at_ ≤ c ∧ c ≤ at_ + 14 := by
  obtain ⟨s, c, e, g1, g2⟩ := ev_l3Sel l hl hb at_ h0 (by omega)
  obtain ⟨v, hv, _⟩ := q_l1Next l hl hb c 16 (by omega) (by omega)
  have P := fun (xs : List Int) (hx : 1 ≤ xs.length) => q_l1Pick l hl hb (c + 1) xs (by omega) (by omega) hx
  unfold spec_l3Bent.f
  obtain ⟨u0, e0, _⟩ := P [-1, wrap64 (s.fh + 1), 4611686018427387904] (by simp)
  obtain ⟨u1, e1, _⟩ := P [4294967296, -1] (by simp)
  obtain ⟨u2, e2, _⟩ := P [65536, 5] (by simp)
  obtain ⟨u3, e3, _⟩ := P [-1, 256, 1, 255] (by simp)
  by_cases h : v = 0
  · exact ⟨⟨u0, s.fh, s.tl, s.th, s.pl, s.ph, s.ql, s.qh, s.pr⟩, _, Ev.bind e (ev_opt hv (ev_pos h (ev_opt e0 (ev_some _)))), by omega, by omega⟩
  by_cases h2 : v = 1
  · exact ⟨⟨s.fl, s.fh, s.tl, u1, s.pl, s.ph, s.ql, s.qh, s.pr⟩, _, Ev.bind e (ev_opt hv (ev_neg h (ev_pos h2 (ev_opt e1 (ev_some _))))), by omega, by omega⟩
  by_cases h3 : v = 2
  · exact ⟨⟨s.fl, s.fh, s.tl, s.th, s.pl, s.ph, s.ql, u2, s.pr⟩, _, Ev.bind e (ev_opt hv (ev_neg h (ev_neg h2 (ev_pos h3 (ev_opt e2 (ev_some _)))))), by omega, by omega⟩
  by_cases h4 : v = 3
  · exact ⟨⟨s.fl, s.fh, s.tl, s.th, s.pl, s.ph, s.ql, s.qh, u3⟩, _, Ev.bind e (ev_opt hv (ev_neg h (ev_neg h2 (ev_neg h3 (ev_pos h4 (ev_opt e3 (ev_some _))))))), by omega, by omega⟩
  · exact ⟨s, _, Ev.bind e (ev_opt hv (ev_neg h (ev_neg h2 (ev_neg h3 (ev_neg h4 (ev_some _)))))), by omega, by omega⟩

theorem ev_l1Some_loop (l : List Int) (hl : l.length ≤ 1048576 + 1) (hb : Bytes l) : ∀ (d : Nat) (n : Int) (out : List Int) (at_ : Int), n.toNat = d → d ≤ 68719476736 → out.length + d ≤ 68719476736 → Bytes out → 0 ≤ at_ → at_ + 3 * d ≤ 1099511627776 →
    ∃ r, Ev (fun k => spec_l1Some.l0 k n out l at_) (r, at_ + 3 * d) ∧ Bytes r ∧ r.length = out.length + d := by
  intro d
  induction d with
  | zero =>
    intro n out at_ hn _ _ ho h0 h1
    refine ⟨out, Ev.step (fun k => by rw [spec_l1Some.l0, if_neg (by omega)]) ?_, ho, rfl⟩
    simpa using ev_some (out, at_)
  | succ d ih =>
    intro n out at_ hn hd hlo ho h0 h1
    obtain ⟨a, ha, ha0, ha1, _⟩ := q_l1Next l hl hb at_ 256 h0 (by omega)
    obtain ⟨b, hb_, hb0, hb1, _⟩ := q_l1Next l hl hb (at_ + 1) 256 (by omega) (by omega)
    obtain ⟨c, hc, hcm⟩ := q_l1Pick l hl hb (at_ + 1 + 1) [a, b, 0, 255] (by omega) (by omega) (by simp)
    obtain ⟨r, hr, hrb, hrl⟩ := ih (n - 1) (out ++ [c % 256]) (at_ + 1 + 1 + 1) (by omega) (by omega) (by simp; omega) (bytes_append ho (bytes_one (by omega))) (by omega) (by omega)
    refine ⟨r, Ev.step (fun k => by rw [spec_l1Some.l0, if_pos (by omega)]) ?_, hrb, by rw [hrl, List.length_append]; simp; omega⟩
    refine ev_opt ha (ev_opt hb_ (ev_opt hc (ev_pos (by omega) ?_)))
    rw [w64 (by omega) (by omega), show at_ + 3 * ((d + 1 : Nat) : Int) = at_ + 1 + 1 + 1 + 3 * d from by omega]
    exact hr
theorem ev_l1Some (l : List Int) (hl : l.length ≤ 1048576 + 1) (hb : Bytes l) (n at_ : Int) (hn : n ≤ 68719476736) (h0 : 0 ≤ at_) (h1 : at_ + 3 * n ≤ 1099511627776) (h2 : at_ ≤ 1099511627776) :
    ∃ r, Ev (fun k => spec_l1Some.f k l at_ n) (r, at_ + 3 * n.toNat) ∧ Bytes r ∧ r.length = n.toNat := by
  obtain ⟨r, hr, hrb, hrl⟩ := ev_l1Some_loop l hl hb n.toNat n [] at_ rfl (by omega) (by simp; omega) bytes_nil h0 (by omega)
  exact ⟨r, hr, hrb, by simpa using hrl⟩

structure Pk where
  fr : Int
  to_ : Int
  pr : Int
  tl : Int
  fp : Int
  tp : Int
  ld : List Int
def pktOk (p : Pk) : Prop := (0 ≤ p.fr ∧ p.fr ≤ 4294967295) ∧ (0 ≤ p.to_ ∧ p.to_ ≤ 4294967295) ∧ (1 ≤ p.pr ∧ p.pr ≤ 255) ∧ (1 ≤ p.tl ∧ p.tl ≤ 255) ∧ (0 ≤ p.fp ∧ p.fp ≤ 65535) ∧ (0 ≤ p.tp ∧ p.tp ≤ 65535)
instance (p : Pk) : Decidable (pktOk p) := by unfold pktOk; infer_instance
def pktPorts (p : Pk) : Prop := hasP p.pr ∨ (p.fp = 0 ∧ p.tp = 0)
instance (p : Pk) : Decidable (pktPorts p) := by unfold pktPorts; infer_instance
def pktF (p : Pk) : Int := if pktOk p then (if pktPorts p then (if 200 < p.ld.length then 2 else 0) else 1) else 3
theorem ev_succ2 {α : Type} {g : Nat → Option α} {r : α} (h : ∀ k, g (k + 2) = some r) : Ev g r := Ev.step (f := fun k => g (k + 1)) (fun k => rfl) (ev_succ h)

theorem q_l2DrawAddress (l : List Int) (hl : l.length ≤ 1048576 + 1) (hb : Bytes l) (at_ : Int) (h0 : 0 ≤ at_) (h1 : at_ ≤ 1000000000) : ∃ a, spec_l2DrawAddress.f l at_ = some (a, at_ + 4) := by
  obtain ⟨v, hv, _⟩ := q_l1Next l hl hb at_ 6 h0 (by omega)
  obtain ⟨u, hu, _⟩ := q_l1Next l hl hb (at_ + 1) 6 (by omega) (by omega)
  obtain ⟨x, hx, _⟩ := q_l1Next l hl hb (at_ + 1 + 1) 4 (by omega) (by omega)
  obtain ⟨p, hp, _⟩ := q_l1Pick l hl hb (at_ + 1 + 1 + 1) [wrap64 (167772160 + v), wrap64 (167772160 + u), wrap64 (167838000 + x), 0, 4294967295] (by omega) (by omega) (by simp)
  unfold spec_l2DrawAddress.f
  simp only [hv, hu, hx, hp, Option.bind_some]
  exact ⟨p, by rw [show at_ + 1 + 1 + 1 + 1 = at_ + 4 from by omega]⟩
theorem ev_l2Packet (l : List Int) (hl : l.length ≤ 1048576 + 1) (hb : Bytes l) (at_ : Int) (h0 : 0 ≤ at_) (h1 : at_ ≤ 10000000) : ∃ (p : Pk) (c : Int), Ev (fun k => spec_l2Packet.f k l at_) (p.fr, p.to_, p.pr, p.tl, p.fp, p.tp, p.ld, c) ∧ p.ld.length ≤ 8 ∧ at_ ≤ c ∧ c ≤ at_ + 40 := by
  obtain ⟨a, ea⟩ := q_l2DrawAddress l hl hb at_ h0 (by omega)
  obtain ⟨b, eb⟩ := q_l2DrawAddress l hl hb (at_ + 4) (by omega) (by omega)
  obtain ⟨pr, ep, _⟩ := q_l1Pick l hl hb (at_ + 4 + 4) [6, 17, 6, 17, 1, 50] (by omega) (by omega) (by simp)
  obtain ⟨tl, et, _⟩ := q_l1Pick l hl hb (at_ + 4 + 4 + 1) [64, 1, 2, 255] (by omega) (by omega) (by simp)
  obtain ⟨n, en, hn0, hn1, _⟩ := q_l1Next l hl hb (at_ + 4 + 4 + 1 + 1) 9 (by omega) (by omega)
  have hn := hn1 (by omega)
  obtain ⟨ld, es, _, hll⟩ := ev_l1Some l hl hb n (at_ + 4 + 4 + 1 + 1 + 1) (by omega) (by omega) (by omega) (by omega)
  generalize hc : at_ + 4 + 4 + 1 + 1 + 1 + 3 * (n.toNat : Int) = c at es
  obtain ⟨x, ex, _⟩ := q_l1Next l hl hb c 65536 (by omega) (by omega)
  obtain ⟨fp, ef, _⟩ := q_l1Pick l hl hb (c + 1) [80, 443, x, 0] (by omega) (by omega) (by simp)
  obtain ⟨y, ey, _⟩ := q_l1Next l hl hb (c + 1 + 1) 65536 (by omega) (by omega)
  obtain ⟨tp, eq, _⟩ := q_l1Pick l hl hb (c + 1 + 1 + 1) [80, 443, y, 22] (by omega) (by omega) (by simp)
  unfold spec_l2Packet.f
  by_cases h : pr = 6 ∨ pr = 17
  · refine ⟨⟨a, b, pr, tl, fp, tp, ld⟩, _, ev_opt ea (ev_opt eb (ev_opt ep (ev_opt et (ev_opt en (Ev.bind es (ev_opt (q_spec_HasPorts pr) (ev_pos (by simpa using h) (ev_opt ex (ev_opt ef (ev_opt ey (ev_opt eq (ev_some _)))))))))))), ?_, ?_, ?_⟩ <;> simp only <;> omega
  · refine ⟨⟨a, b, pr, tl, 0, 0, ld⟩, _, ev_opt ea (ev_opt eb (ev_opt ep (ev_opt et (ev_opt en (Ev.bind es (ev_opt (q_spec_HasPorts pr) (ev_neg (by simpa using h) (ev_some _)))))))), ?_, ?_, ?_⟩ <;> simp only <;> omega
theorem ev_l2Bent (l : List Int) (hl : l.length ≤ 1048576 + 1) (hb : Bytes l) (at_ : Int) (h0 : 0 ≤ at_) (h1 : at_ ≤ 10000000) : ∃ (p : Pk) (c : Int), Ev (fun k => spec_l2Bent.f k l at_) (p.fr, p.to_, p.pr, p.tl, p.fp, p.tp, p.ld, c) ∧ p.ld.length ≤ 201 ∧ at_ ≤ c ∧ c ≤ at_ + 42 := by
  obtain ⟨p, c, e, hl8, g1, g2⟩ := ev_l2Packet l hl hb at_ h0 h1
  obtain ⟨v, hv, _⟩ := q_l1Next l hl hb c 20 (by omega) (by omega)
  have P := fun (xs : List Int) (hx : 1 ≤ xs.length) => q_l1Pick l hl hb (c + 1) xs (by omega) (by omega) hx
  obtain ⟨u0, e0, _⟩ := P [-1, 4294967296] (by simp)
  obtain ⟨u2, e2, _⟩ := P [0, 256, 255, -1] (by simp)
  obtain ⟨u3, e3, _⟩ := P [0, 256, -1] (by simp)
  obtain ⟨u4, e4, _⟩ := P [-1, 65536, 5] (by simp)
  obtain ⟨m, em, hm0, hm1, _⟩ := q_l1Next l hl hb (c + 1) 2 (by omega) (by omega)
  have hm := hm1 (by omega)
  have hw : wrap64 (200 + m) = 200 + m := w64 (by omega) (by omega)
  unfold spec_l2Bent.f
  by_cases h0 : v = 0
  · exact ⟨⟨u0, p.to_, p.pr, p.tl, p.fp, p.tp, p.ld⟩, _, Ev.bind e (ev_opt hv (ev_pos h0 (ev_opt e0 (ev_some _)))), by simp only; omega, by omega, by omega⟩
  by_cases h1 : v = 1
  · exact ⟨⟨p.fr, u0, p.pr, p.tl, p.fp, p.tp, p.ld⟩, _, Ev.bind e (ev_opt hv (ev_neg h0 (ev_pos h1 (ev_opt e0 (ev_some _))))), by simp only; omega, by omega, by omega⟩
  by_cases h2 : v = 2
  · exact ⟨⟨p.fr, p.to_, u2, p.tl, p.fp, p.tp, p.ld⟩, _, Ev.bind e (ev_opt hv (ev_neg h0 (ev_neg h1 (ev_pos h2 (ev_opt e2 (ev_some _)))))), by simp only; omega, by omega, by omega⟩
  by_cases h3 : v = 3
  · exact ⟨⟨p.fr, p.to_, p.pr, u3, p.fp, p.tp, p.ld⟩, _, Ev.bind e (ev_opt hv (ev_neg h0 (ev_neg h1 (ev_neg h2 (ev_pos h3 (ev_opt e3 (ev_some _))))))), by simp only; omega, by omega, by omega⟩
  by_cases h4 : v = 4
  · exact ⟨⟨p.fr, p.to_, p.pr, p.tl, u4, p.tp, p.ld⟩, _, Ev.bind e (ev_opt hv (ev_neg h0 (ev_neg h1 (ev_neg h2 (ev_neg h3 (ev_pos h4 (ev_opt e4 (ev_some _)))))))), by simp only; omega, by omega, by omega⟩
  by_cases h5 : v = 5
  · exact ⟨⟨p.fr, p.to_, p.pr, p.tl, p.fp, u4, p.ld⟩, _, Ev.bind e (ev_opt hv (ev_neg h0 (ev_neg h1 (ev_neg h2 (ev_neg h3 (ev_neg h4 (ev_pos h5 (ev_opt e4 (ev_some _))))))))), by simp only; omega, by omega, by omega⟩
  by_cases h6 : v = 6
  · refine ⟨⟨p.fr, p.to_, p.pr, p.tl, p.fp, p.tp, List.replicate (200 + m).toNat 0⟩, c + 1 + 1, Ev.bind e (ev_opt hv (ev_neg h0 (ev_neg h1 (ev_neg h2 (ev_neg h3 (ev_neg h4 (ev_neg h5 (ev_pos h6 (ev_opt em ?_))))))))), by simp only [List.length_replicate]; omega, by omega, by omega⟩
    rw [hw]
    exact ev_pos (by omega) (ev_pos (by omega) (ev_to (ev_some _) rfl))
  · exact ⟨⟨p.fr, p.to_, p.pr, p.tl, p.fp, p.tp, p.ld⟩, _, Ev.bind e (ev_opt hv (ev_neg h0 (ev_neg h1 (ev_neg h2 (ev_neg h3 (ev_neg h4 (ev_neg h5 (ev_neg h6 (ev_some _))))))))), by simp only; omega, by omega, by omega⟩

def slOf (x : S65) : Sl := ⟨x.f0.f0, x.f0.f1, x.f1.f0, x.f1.f1, x.f2.f0, x.f2.f1, x.f3.f0, x.f3.f1, x.f4⟩

theorem rdRule_nat (l : List S87) (i : Nat) (h : i < l.length) : rd_T87 l i = l[i] := getD_nat l _ i h

def sampleM (s : Sl) : Int × Int × Int × Int × Int × Int × Int × List Int :=
  if selF s = 0 then (if s.pr = 0 then (0, s.fl, s.tl, 6, 64, s.pl, s.ql, []) else if hasP s.pr then (0, s.fl, s.tl, s.pr, 64, s.pl, s.ql, []) else (0, s.fl, s.tl, s.pr, 64, 0, 0, [])) else (selF s, 0, 0, 0, 0, 0, 0, [])

theorem q_spec_l1In (a b c : Int) : spec_l1In.f a b c = some (decide (b ≤ a ∧ a ≤ c)) := by
  unfold spec_l1In.f
  by_cases h : b ≤ a
  · simp [h]
  · simp [h]

theorem q_spec_l3Range (lo hi m : Int) : spec_l3Range.f lo hi m = some (decide (rok lo hi m)) := by
  unfold spec_l3Range.f rok
  by_cases h : 0 ≤ lo
  · by_cases g : lo ≤ hi
    · simp [h, g]
    · simp [h, g]
  · simp [h]
theorem q_spec_SelFault_j0 (k : Nat) (b : Bool) (s : Sl) : spec_SelFault.j0 (k + 1) b s.fl s.fh s.tl s.th s.pl s.ph s.ql s.qh s.pr = some (if b = true then 3 else if selPorts s then 0 else 1) := by
  rw [spec_SelFault.j0]
  simp only [q_spec_HasPorts, spec_l3All.f, Option.bind_some, decide_eq_true_eq]
  unfold selPorts hasP
  cases b
  · by_cases h1 : s.pr = 0
    · simp [h1]
    · by_cases h2 : s.pr = 6 ∨ s.pr = 17
      · simp [h1, h2]
      · by_cases h3 : s.pl = 0 <;> by_cases h4 : s.ph = 65535 <;> by_cases h5 : s.ql = 0 <;> by_cases h6 : s.qh = 65535 <;> simp [h1, h2, h3, h4, h5, h6]
  · simp
theorem q_spec_SelFault (k : Nat) (s : Sl) : spec_SelFault.f (k + 1) s.fl s.fh s.tl s.th s.pl s.ph s.ql s.qh s.pr = some (selF s) := by
  unfold spec_SelFault.f
  simp only [q_spec_l3Range, q_spec_l1In, q_spec_SelFault_j0, Option.bind_some, decide_eq_true_eq]
  unfold selF selOk
  by_cases h1 : rok s.fl s.fh 4294967295 <;> by_cases h2 : rok s.tl s.th 4294967295 <;> by_cases h3 : rok s.pl s.ph 65535 <;> by_cases h4 : rok s.ql s.qh 65535 <;> by_cases h5 : 0 ≤ s.pr ∧ s.pr ≤ 255 <;> simp [h1, h2, h3, h4, h5]
theorem ev_spec_SelFault (s : Sl) : Ev (fun k => spec_SelFault.f k s.fl s.fh s.tl s.th s.pl s.ph s.ql s.qh s.pr) (selF s) := ev_succ (fun k => q_spec_SelFault k s)

theorem ev_spec_SampleOf (s : Sl) : Ev (fun k => spec_SampleOf.f k s.fl s.fh s.tl s.th s.pl s.ph s.ql s.qh s.pr) (sampleM s) := by
  unfold spec_SampleOf.f sampleM spec_l2Bad.f
  simp only [q_spec_HasPorts, Option.bind_some]
  refine Ev.bind (ev_spec_SelFault s) (ev_cond (fun h => ?_) (fun h => ev_some _))
  refine ev_cond (fun h => ev_to (ev_some _) ?_) (fun h => ev_to (ev_some _) ?_)
  · unfold spec_SampleOf.p
    rw [if_pos (by decide)]
  · unfold spec_SampleOf.p
    by_cases g : s.pr = 6 ∨ s.pr = 17
    · rw [if_pos (decide_eq_true g), if_pos (show hasP s.pr from g)]
    · rw [if_neg (by simpa using g), if_neg (show ¬ hasP s.pr from g)]

theorem q_l1Source (l : List Int) : spec_l1Source.f l = some (l, 0) := rfl

theorem ev_l4Policy_loop (l : List Int) (hl : l.length ≤ 1048576 + 1) (hb : Bytes l) : ∀ (d : Nat) (n : Int) (out : List S87) (at_ : Int), n.toNat = d → d ≤ 20 → out.length + d ≤ 1000 → 0 ≤ at_ → at_ + 14 * d ≤ 1000000 →
    ∃ r at', Ev (fun k => spec_l4Policy.l0 k n out l at_) (r, at') ∧ r.length = out.length + d ∧ at_ ≤ at' ∧ at' ≤ at_ + 14 * d := by
  intro d
  induction d with
  | zero =>
    intro n out at_ hn _ _ h0 h1
    refine ⟨out, at_, Ev.step (fun k => by rw [spec_l4Policy.l0, if_neg (by omega)]) (ev_some _), rfl, by omega, by omega⟩
  | succ d ih =>
    intro n out at_ hn hd hlo h0 h1
    obtain ⟨s, c, es, g1, g2⟩ := ev_l3Sel l hl hb at_ h0 (by omega)
    obtain ⟨v, hv, v0, v1, _⟩ := q_l1Next l hl hb c 3 (by omega) (by omega)
    obtain ⟨u, hu, _⟩ := q_l1Next l hl hb (c + 1) 3 (by omega) (by omega)
    have v1 := v1 (by omega)
    have hw : wrap64 (n - 1) = n - 1 := w64 (by omega) (by omega)
    by_cases h : wrap64 (1 + v) = 3
    · obtain ⟨r, at', hr, hrl, g3, g4⟩ := ih (n - 1) (out ++ [⟨⟨⟨s.fl, s.fh⟩, ⟨s.tl, s.th⟩, ⟨s.pl, s.ph⟩, ⟨s.ql, s.qh⟩, s.pr⟩, wrap64 (1 + v), wrap64 (1 + u)⟩]) (c + 1 + 1) (by omega) (by omega) (by simp; omega) (by omega) (by omega)
      refine ⟨r, at', Ev.step (fun k => by rw [spec_l4Policy.l0, if_pos (by omega)]) ?_, by rw [hrl, List.length_append]; simp; omega, by omega, by omega⟩
      refine Ev.bind es (ev_opt hv (ev_pos h (ev_opt hu (ev_pos (by omega) ?_))))
      rw [hw]
      exact hr
    · obtain ⟨r, at', hr, hrl, g3, g4⟩ := ih (n - 1) (out ++ [⟨⟨⟨s.fl, s.fh⟩, ⟨s.tl, s.th⟩, ⟨s.pl, s.ph⟩, ⟨s.ql, s.qh⟩, s.pr⟩, wrap64 (1 + v), 0⟩]) (c + 1) (by omega) (by omega) (by simp; omega) (by omega) (by omega)
      refine ⟨r, at', Ev.step (fun k => by rw [spec_l4Policy.l0, if_pos (by omega)]) ?_, by rw [hrl, List.length_append]; simp; omega, by omega, by omega⟩
      refine Ev.bind es (ev_opt hv (ev_neg h (ev_pos (by omega) ?_)))
      rw [hw]
      exact hr
theorem ev_l4Bent (l : List Int) (hl : l.length ≤ 1048576 + 1) (hb : Bytes l) (at_ : Int) (h0 : 0 ≤ at_) (h1 : at_ ≤ 100000) : ∃ (r : List S87) (c : Int), Ev (fun k => spec_l4Bent.f k l at_) (r, c) ∧ r.length ≤ 21 ∧ at_ ≤ c ∧ c ≤ at_ + 400 := by
  obtain ⟨n, hn, hnm⟩ := q_l1Pick l hl hb at_ [1, 2, 3, 4, 5, 0, 20] h0 (by omega) (by simp)
  have hnr : 0 ≤ n ∧ n ≤ 20 := by
    simp only [List.mem_cons, List.not_mem_nil, or_false] at hnm
    omega
  obtain ⟨r, c, hr, hrl, g1, g2⟩ := ev_l4Policy_loop l hl hb n.toNat n [] (at_ + 1) rfl (by omega) (by simp; omega) (by omega) (by omega)
  have hrl : r.length ≤ 20 := by rw [hrl]; simp; omega
  have hp : Ev (fun k => spec_l4Policy.f k l (at_ + 1) n) (r, c) := hr
  unfold spec_l4Bent.f
  by_cases hz : (r.length : Int) = 0
  · exact ⟨r, c, ev_opt hn (Ev.bind hp (ev_pos hz (ev_some _))), by omega, by omega, by omega⟩
  obtain ⟨i, hi, i0, i1, _⟩ := q_l1Next l hl hb c r.length (by omega) (by omega)
  have i1 := i1 (by omega)
  obtain ⟨v, hv, _⟩ := q_l1Next l hl hb (c + 1) 20 (by omega) (by omega)
  obtain ⟨s, e, es, g3, g4⟩ := ev_l3Bent l hl hb (c + 1 + 1) (by omega) (by omega)
  obtain ⟨u1, e1, _⟩ := q_l1Pick l hl hb (c + 1 + 1) [0, 4, 1, 3] (by omega) (by omega) (by simp)
  obtain ⟨u2, e2, _⟩ := q_l1Pick l hl hb (c + 1 + 1) [0, 10, 5] (by omega) (by omega) (by simp)
  by_cases k0 : v = 0
  · exact ⟨_, e, ev_opt hn (Ev.bind hp (ev_neg hz (ev_opt hi (ev_opt hv (ev_pos k0 (Ev.bind es (ev_pos i0 (ev_pos i1 (ev_some _))))))))), by rw [List.length_set]; show r.length ≤ 21; omega, by omega, by omega⟩
  by_cases k1 : v = 1
  · exact ⟨_, c + 1 + 1 + 1, ev_opt hn (Ev.bind hp (ev_neg hz (ev_opt hi (ev_opt hv (ev_neg k0 (ev_pos k1 (ev_opt e1 (ev_pos i0 (ev_pos i1 (ev_some _)))))))))), by rw [List.length_set]; show r.length ≤ 21; omega, by omega, by omega⟩
  by_cases k2 : v = 2
  · exact ⟨_, c + 1 + 1 + 1, ev_opt hn (Ev.bind hp (ev_neg hz (ev_opt hi (ev_opt hv (ev_neg k0 (ev_neg k1 (ev_pos k2 (ev_opt e2 (ev_pos i0 (ev_pos i1 (ev_some _))))))))))), by rw [List.length_set]; show r.length ≤ 21; omega, by omega, by omega⟩
  by_cases k3 : v = 3
  · exact ⟨_, c + 1 + 1, ev_opt hn (Ev.bind hp (ev_neg hz (ev_opt hi (ev_opt hv (ev_neg k0 (ev_neg k1 (ev_neg k2 (ev_pos k3 (ev_pos (by decide) (ev_some _)))))))))), by simp, by omega, by omega⟩
  · exact ⟨r, c + 1 + 1, ev_opt hn (Ev.bind hp (ev_neg hz (ev_opt hi (ev_opt hv (ev_neg k0 (ev_neg k1 (ev_neg k2 (ev_neg k3 (ev_some _))))))))), by omega, by omega, by omega⟩
theorem ev_l4With (l : List Int) (hl : l.length ≤ 1048576 + 1) (hb : Bytes l) : ∃ (r : List S87) (p : Pk), Ev (fun k => spec_l4With.f k l) (r, p.fr, p.to_, p.pr, p.tl, p.fp, p.tp, p.ld) ∧ r.length ≤ 21 ∧ p.ld.length ≤ 201 := by
  obtain ⟨r, c, er, hrl, g1, g2⟩ := ev_l4Bent l hl hb 0 (by omega) (by omega)
  obtain ⟨p, d, ep, hpl, g3, g4⟩ := ev_l2Bent l hl hb c (by omega) (by omega)
  obtain ⟨v, hv, _⟩ := q_l1Next l hl hb d 2 (by omega) (by omega)
  have hc : spec_l1Chance.f l d 2 = some ((v == 0), d + 1) := by
    unfold spec_l1Chance.f
    rw [hv, Option.bind_some]
  have hno : ∀ e, Ev (fun k => spec_l4With.j0 k r false l e p.fr p.to_ p.pr p.tl p.fp p.tp p.ld) (r, p.fr, p.to_, p.pr, p.tl, p.fp, p.tp, p.ld) := fun e => ev_succ (fun k => by rw [spec_l4With.j0, if_neg (by simp)])
  unfold spec_l4With.f
  by_cases hz : (r.length : Int) > 0
  · obtain ⟨i, hi, i0, i1, _⟩ := q_l1Next l hl hb (d + 1) r.length (by omega) (by omega)
    have i1 := i1 (by omega)
    by_cases h : v = 0
    · have hm := ev_spec_SampleOf (slOf (rd_T87 r i).f0)
      have hlen : (sampleM (slOf (rd_T87 r i).f0)).2.2.2.2.2.2.2 = [] := by
        unfold sampleM
        repeat' split
        all_goals rfl
      generalize sampleM (slOf (rd_T87 r i).f0) = x at hm hlen
      obtain ⟨x0, x1, x2, x3, x4, x5, x6, x7⟩ := x
      obtain rfl : x7 = [] := hlen
      by_cases g : x0 = 0
      · refine ⟨r, ⟨x1, x2, x3, x4, x5, x6, []⟩, ev_opt (q_l1Source l) (Ev.bind er (Ev.bind ep (ev_pos hz (ev_opt hc ?_)))), hrl, by simp⟩
        rw [show (v == 0) = true from beq_iff_eq.mpr h]
        refine Ev.step (fun k => by rw [spec_l4With.j0, if_pos rfl]) ?_
        exact ev_opt hi (ev_pos i0 (ev_pos i1 (Ev.bind hm (ev_pos g (ev_some _)))))
      · refine ⟨r, p, ev_opt (q_l1Source l) (Ev.bind er (Ev.bind ep (ev_pos hz (ev_opt hc ?_)))), hrl, hpl⟩
        rw [show (v == 0) = true from beq_iff_eq.mpr h]
        refine Ev.step (fun k => by rw [spec_l4With.j0, if_pos rfl]) ?_
        exact ev_opt hi (ev_pos i0 (ev_pos i1 (Ev.bind hm (ev_neg g (ev_some _)))))
    · refine ⟨r, p, ev_opt (q_l1Source l) (Ev.bind er (Ev.bind ep (ev_pos hz (ev_opt hc ?_)))), hrl, hpl⟩
      rw [show (v == 0) = false from beq_eq_false_iff_ne.mpr h]
      exact hno _
  · exact ⟨r, p, ev_opt (q_l1Source l) (Ev.bind er (Ev.bind ep (ev_neg hz (hno _)))), hrl, hpl⟩

theorem ev_DrawFirstRule (l : List Int) (hl : l.length ≤ 1048576 + 1) (hb : Bytes l) : ∃ (r : List S87) (p : Pk), Ev (fun k => spec_DrawFirstRule.f k l) (r, p.fr, p.to_, p.pr, p.tl, p.fp, p.tp, p.ld) ∧ r.length ≤ 21 ∧ p.ld.length ≤ 201 := by
  obtain ⟨r, p, e, h⟩ := ev_l4With l hl hb
  exact ⟨r, p, Ev.bind e (ev_some _), h⟩

def rin (al ah bl bh : Int) : Prop := bl ≤ al ∧ ah ≤ bh
instance (al ah bl bh : Int) : Decidable (rin al ah bl bh) := by unfold rin; infer_instance
def withinS (a b : Sl) : Prop := rin a.fl a.fh b.fl b.fh ∧ rin a.tl a.th b.tl b.th ∧ rin a.pl a.ph b.pl b.ph ∧ rin a.ql a.qh b.ql b.qh ∧ (b.pr = 0 ∨ a.pr = b.pr)
instance (a b : Sl) : Decidable (withinS a b) := by unfold withinS; infer_instance

def shR (l : List S87) (y : S87) : Bool := l.any fun x => decide (withinS (slOf y.f0) (slOf x.f0))

def shL : List S87 → List S87 → Int → List Int
  | _, [], _ => []
  | pre, y :: ys, i => (if shR pre y = true then [i] else []) ++ shL (pre ++ [y]) ys (i + 1)
theorem shL_len : ∀ (ys pre : List S87) (i : Int), (shL pre ys i).length ≤ ys.length
  | [], _, _ => by simp [shL]
  | y :: ys, pre, i => by
    have := shL_len ys (pre ++ [y]) (i + 1)
    rw [shL, List.length_append, List.length_cons]
    by_cases h : shR pre y = true
    · rw [if_pos h, List.length_singleton]
      omega
    · rw [if_neg h, List.length_nil]
      omega
theorem take_step {α : Type} (l : List α) (i : Nat) (h : i < l.length) : l.take (i + 1) = l.take i ++ [l[i]] := List.take_succ_eq_append_getElem h

def trL : List S87 → List S87 → List S87
  | _, [] => []
  | pre, y :: ys => (if shR pre y = true then [] else [y]) ++ trL (pre ++ [y]) ys
theorem trL_len : ∀ (ys pre : List S87), (trL pre ys).length ≤ ys.length
  | [], _ => by simp [trL]
  | y :: ys, pre => by
    have := trL_len ys (pre ++ [y])
    rw [trL, List.length_append, List.length_cons]
    by_cases h : shR pre y = true
    · rw [if_pos h, List.length_nil]
      omega
    · rw [if_neg h, List.length_singleton]
      omega
theorem shL_ge : ∀ (ys pre : List S87) (i j : Int), j ∈ shL pre ys i → i ≤ j
  | [], _, _, _, h => absurd h (by simp [shL])
  | y :: ys, pre, i, j, h => by
    rw [shL, List.mem_append] at h
    rcases h with h | h
    · split at h
      · have := List.mem_singleton.mp h
        omega
      · exact absurd h (by simp)
    · have := shL_ge ys _ _ _ h
      omega
theorem shL_mem : ∀ (ys pre : List S87) (i : Int) (m : Nat) (h : m < ys.length), (i + (m : Int) ∈ shL pre ys i) ↔ shR (pre ++ ys.take m) ys[m] = true
  | [], _, _, _, h => absurd h (by simp)
  | y :: ys, pre, i, 0, _ => by
    rw [shL, List.mem_append]
    have hn : ¬ (i + ((0 : Nat) : Int)) ∈ shL (pre ++ [y]) ys (i + 1) := fun e => by
      have := shL_ge _ _ _ _ e
      omega
    by_cases g : shR pre y = true
    · simp [g]
    · simp [g]
      simpa using hn
  | y :: ys, pre, i, m + 1, h => by
    rw [List.length_cons] at h
    have ih := shL_mem ys (pre ++ [y]) (i + 1) m (by omega)
    rw [shL, List.mem_append, show i + ((m + 1 : Nat) : Int) = i + 1 + (m : Int) by omega, ih]
    have hn : ¬ (i + 1 + (m : Int)) ∈ (if shR pre y = true then [i] else []) := by
      split
      · simp
        omega
      · simp
    simp [hn, List.append_assoc]

def ruleF (x : S87) : Int := if selF (slOf x.f0) = 0 then (if 1 ≤ x.f1 ∧ x.f1 ≤ 3 then (if (x.f1 = 3 ∧ 1 ≤ x.f2 ∧ x.f2 ≤ 9) ∨ (x.f1 ≠ 3 ∧ x.f2 = 0) then 0 else 1) else 3) else selF (slOf x.f0)
def scanRule : List S87 → Int
  | [] => 0
  | x :: xs => if ruleF x = 0 then scanRule xs else ruleF x
def policyF (l : List S87) : Int := if 20 < l.length then 2 else scanRule l

theorem scanRule_ok : ∀ (l : List S87), scanRule l = 0 → ∀ x ∈ l, ruleF x = 0
  | [], _, _, h => absurd h (by simp)
  | y :: ys, h, x, hx => by
    rw [scanRule] at h
    by_cases g : ruleF y = 0
    · rw [if_pos g] at h
      rcases List.mem_cons.mp hx with rfl | hx
      · exact g
      · exact scanRule_ok ys h x hx
    · rw [if_neg g] at h
      exact absurd h g
theorem policyF_ok {l : List S87} (h : policyF l = 0) : l.length ≤ 20 ∧ ∀ x ∈ l, ruleF x = 0 := by
  unfold policyF at h
  split at h
  · exact absurd h (by omega)
  · exact ⟨by omega, scanRule_ok l h⟩
theorem ruleF_sel {x : S87} (h : ruleF x = 0) : selF (slOf x.f0) = 0 := by
  unfold ruleF at h
  by_cases g : selF (slOf x.f0) = 0
  · exact g
  · rw [if_neg g] at h
    exact h
def holdsS (s : Sl) (p : Pk) : Prop := (s.fl ≤ p.fr ∧ p.fr ≤ s.fh) ∧ (s.tl ≤ p.to_ ∧ p.to_ ≤ s.th) ∧ (s.pl ≤ p.fp ∧ p.fp ≤ s.ph) ∧ (s.ql ≤ p.tp ∧ p.tp ≤ s.qh) ∧ (s.pr = 0 ∨ s.pr = p.pr)
instance (s : Sl) (p : Pk) : Decidable (holdsS s p) := by unfold holdsS; infer_instance
def holdsF (s : Sl) (p : Pk) : Prop := selF s = 0 ∧ pktF p = 0 ∧ holdsS s p
instance (s : Sl) (p : Pk) : Decidable (holdsF s p) := by unfold holdsF; infer_instance

def fstR : List S87 → Pk → Int → Int
  | [], _, _ => -1
  | x :: xs, p, i => if holdsS (slOf x.f0) p then i else fstR xs p (i + 1)
theorem fstR_lt : ∀ (l : List S87) (p : Pk) (i : Int), fstR l p i < i + l.length ∧ (fstR l p i < 0 ∨ i ≤ fstR l p i) ∨ fstR l p i = -1
  | [], _, _ => .inr rfl
  | x :: xs, p, i => by
    rw [fstR]
    by_cases h : holdsS (slOf x.f0) p
    · rw [if_pos h]
      refine .inl ⟨?_, .inr (by omega)⟩
      simp
      omega
    · rw [if_neg h]
      rcases fstR_lt xs p (i + 1) with ⟨h1, h2⟩ | h1
      · refine .inl ⟨?_, ?_⟩
        · simp
          omega
        · omega
      · exact .inr h1
theorem fstR_lt0 (l : List S87) (p : Pk) (h : ¬ fstR l p 0 < 0) : 0 ≤ fstR l p 0 ∧ fstR l p 0 < (l.length : Int) := by
  rcases fstR_lt l p 0 with ⟨h1, h2⟩ | h1 <;> omega

theorem within_holds {a b : Sl} {p : Pk} (h : withinS a b) (g : holdsS a p) : holdsS b p := by
  obtain ⟨⟨a1, a2⟩, ⟨b1, b2⟩, ⟨c1, c2⟩, ⟨d1, d2⟩, e⟩ := h
  obtain ⟨⟨f1, f2⟩, ⟨g1, g2⟩, ⟨h1, h2⟩, ⟨i1, i2⟩, j⟩ := g
  exact ⟨⟨Int.le_trans a1 f1, Int.le_trans f2 a2⟩, ⟨Int.le_trans b1 g1, Int.le_trans g2 b2⟩, ⟨Int.le_trans c1 h1, Int.le_trans h2 c2⟩, ⟨Int.le_trans d1 i1, Int.le_trans i2 d2⟩, by omega⟩
def fnd : List S87 → Pk → Option S87
  | [], _ => none
  | x :: xs, p => if holdsS (slOf x.f0) p then some x else fnd xs p
theorem fst_fnd : ∀ (l : List S87) (p : Pk) (i : Int), (fnd l p = none ∧ fstR l p i = -1) ∨ ∃ (x : S87) (j : Nat) (h : j < l.length), fnd l p = some x ∧ l[j] = x ∧ fstR l p i = i + j
  | [], _, _ => .inl ⟨rfl, rfl⟩
  | x :: xs, p, i => by
    rw [fnd, fstR]
    by_cases hx : holdsS (slOf x.f0) p
    · rw [if_pos hx, if_pos hx]
      exact .inr ⟨x, 0, by simp, rfl, rfl, by simp⟩
    · rw [if_neg hx, if_neg hx]
      rcases fst_fnd xs p (i + 1) with h | ⟨y, j, h, h1, h2, h3⟩
      · exact .inl h
      · exact .inr ⟨y, j + 1, by simpa using h, h1, h2, by rw [h3]; omega⟩
theorem trL_fnd (p : Pk) : ∀ (ys pre : List S87), (∀ x ∈ pre, ¬ holdsS (slOf x.f0) p) → fnd (trL pre ys) p = fnd ys p
  | [], _, _ => rfl
  | y :: ys, pre, h => by
    rw [trL, fnd]
    by_cases hs : shR pre y = true
    · have hn : ¬ holdsS (slOf y.f0) p := by
        intro g
        unfold shR at hs
        obtain ⟨x, hx, hw⟩ := List.any_eq_true.mp hs
        exact h x hx (within_holds (of_decide_eq_true hw) g)
      rw [if_pos hs, if_neg hn, List.nil_append]
      refine trL_fnd p ys _ fun x hx => ?_
      rcases List.mem_append.mp hx with hx | hx
      · exact h x hx
      · rw [List.mem_singleton.mp hx]
        exact hn
    · rw [if_neg hs, List.singleton_append, fnd]
      by_cases g : holdsS (slOf y.f0) p
      · rw [if_pos g, if_pos g]
      · rw [if_neg g, if_neg g]
        refine trL_fnd p ys _ fun x hx => ?_
        rcases List.mem_append.mp hx with hx | hx
        · exact h x hx
        · rw [List.mem_singleton.mp hx]
          exact g
theorem trL_mem : ∀ (ys pre : List S87) (x : S87), x ∈ trL pre ys → x ∈ ys
  | [], _, _, h => h
  | y :: ys, pre, x, h => by
    rw [trL, List.mem_append] at h
    rcases h with h | h
    · split at h
      · exact absurd h (by simp)
      · rw [List.mem_singleton.mp h]
        exact List.mem_cons_self ..
    · exact List.mem_cons_of_mem _ (trL_mem ys _ x h)
theorem trL_shL : ∀ (ys pre : List S87) (i : Int), (trL pre ys).length + (shL pre ys i).length = ys.length
  | [], _, _ => rfl
  | y :: ys, pre, i => by
    have := trL_shL ys (pre ++ [y]) (i + 1)
    rw [trL, shL, List.length_append, List.length_append, List.length_cons]
    by_cases h : shR pre y = true
    · simp only [if_pos h, List.length_nil, List.length_singleton]
      omega
    · simp only [if_neg h, List.length_nil, List.length_singleton]
      omega
theorem scan_zero : ∀ l : List S87, (∀ x ∈ l, ruleF x = 0) → scanRule l = 0
  | [], _ => rfl
  | x :: xs, h => by
    rw [scanRule, if_pos (h x (List.mem_cons_self ..))]
    exact scan_zero xs fun y hy => h y (List.mem_cons_of_mem _ hy)
theorem policy_of {l l' : List S87} (h : policyF l = 0) (hl : l'.length ≤ l.length) (hm : ∀ x ∈ l', x ∈ l) : policyF l' = 0 := by
  obtain ⟨h1, h2⟩ := policyF_ok h
  unfold policyF
  rw [if_neg (by omega)]
  exact scan_zero l' fun x hx => h2 x (hm x hx)
theorem fnd_swap (p : Pk) (a b : S87) (h : holdsS (slOf a.f0) p → holdsS (slOf b.f0) p → a.f1 = b.f1) : ∀ (A C : List S87), (fnd (A ++ b :: a :: C) p).map (fun x => x.f1) = (fnd (A ++ a :: b :: C) p).map (fun x => x.f1)
  | [], C => by
    rw [List.nil_append, List.nil_append, fnd, fnd, fnd, fnd]
    by_cases ha : holdsS (slOf a.f0) p <;> by_cases hb : holdsS (slOf b.f0) p <;> simp only [ha, hb, if_true, if_false]
    simp [h ha hb]
  | x :: A, C => by
    rw [List.cons_append, List.cons_append, fnd, fnd]
    split
    · rfl
    · exact fnd_swap p a b h A C
theorem swap_form (l : List S87) (i : Nat) (h : i + 1 < l.length) : (l.set i l[i + 1]).set (i + 1) (l[i]'(by omega)) = l.take i ++ l[i + 1] :: (l[i]'(by omega)) :: l.drop (i + 2) ∧ l = l.take i ++ (l[i]'(by omega)) :: l[i + 1] :: l.drop (i + 2) := by
  have h2 : l = l.take i ++ (l[i]'(by omega)) :: l[i + 1] :: l.drop (i + 2) := by
    rw [← List.drop_eq_getElem_cons h, ← List.drop_eq_getElem_cons (by omega), List.take_append_drop]
  refine ⟨?_, h2⟩
  apply List.ext_getElem?
  intro j
  simp only [List.getElem?_set, List.length_set, List.getElem?_append, List.length_take]
  by_cases h3 : j < i
  · rw [if_neg (by omega), if_neg (by omega), if_pos (by omega), List.getElem?_take, if_pos h3]
  · by_cases h4 : j = i
    · subst h4
      rw [if_neg (by omega), if_pos rfl, if_pos (by omega), if_neg (by omega), show j - min j l.length = 0 by omega]
      rfl
    · by_cases h5 : j = i + 1
      · subst h5
        rw [if_pos rfl, if_pos h, if_neg (by omega), show i + 1 - min i l.length = 1 by omega]
        rfl
      · rw [if_neg (by omega), if_neg (by omega), if_neg (by omega), show j - min i l.length = (j - i - 2) + 2 by omega]
        simp only [List.getElem?_cons_succ, List.getElem?_drop]
        rw [show i + 2 + (j - i - 2) = j by omega]

theorem q_impl_in (a b c : Int) : impl_in.f a b c = some (decide (b ≤ a ∧ a ≤ c)) := by
  unfold impl_in.f
  by_cases h : b ≤ a
  · simp [h]
  · simp [h]

theorem q_impl_holds (s : Sl) (p : Pk) : impl_holds.f s.fl s.fh s.tl s.th s.pl s.ph s.ql s.qh s.pr p.fr p.to_ p.pr p.tl p.fp p.tp p.ld = some (decide (holdsS s p)) := by
  unfold impl_holds.f impl_Range_has.f
  simp only [q_impl_in, Option.bind_some, decide_eq_true_eq]
  unfold holdsS
  by_cases h1 : s.fl ≤ p.fr ∧ p.fr ≤ s.fh <;> by_cases h2 : s.tl ≤ p.to_ ∧ p.to_ ≤ s.th <;> by_cases h3 : s.pl ≤ p.fp ∧ p.fp ≤ s.ph <;> by_cases h4 : s.ql ≤ p.tp ∧ p.tp ≤ s.qh <;> by_cases h5 : s.pr = 0 <;> by_cases h6 : s.pr = p.pr <;> simp [h1, h2, h3, h4, h5, h6]

theorem q_impl_firstRule_go (p : Pk) : ∀ (l : List S87) (i : Int), idxO (fun x => impl_holds.f x.f0.f0.f0 x.f0.f0.f1 x.f0.f1.f0 x.f0.f1.f1 x.f0.f2.f0 x.f0.f2.f1 x.f0.f3.f0 x.f0.f3.f1 x.f0.f4 p.fr p.to_ p.pr p.tl p.fp p.tp p.ld) l i = some (fstR l p i)
  | [], _ => rfl
  | x :: xs, i => by
    rw [idxO, show impl_holds.f x.f0.f0.f0 x.f0.f0.f1 x.f0.f1.f0 x.f0.f1.f1 x.f0.f2.f0 x.f0.f2.f1 x.f0.f3.f0 x.f0.f3.f1 x.f0.f4 p.fr p.to_ p.pr p.tl p.fp p.tp p.ld = some (decide (holdsS (slOf x.f0) p)) from q_impl_holds (slOf x.f0) p, Option.bind_some, fstR]
    by_cases h : holdsS (slOf x.f0) p
    · rw [if_pos h, if_pos (by simpa using h)]
    · rw [if_neg h, if_neg (by simpa using h)]
      exact q_impl_firstRule_go p xs (i + 1)
theorem q_impl_firstRule (l : List S87) (p : Pk) : impl_firstRule.f l p.fr p.to_ p.pr p.tl p.fp p.tp p.ld = some (fstR l p 0) := q_impl_firstRule_go p l 0

theorem q_impl_Range_ok (lo hi m : Int) : impl_Range_ok.f lo hi m = some (decide (rok lo hi m)) := by
  unfold impl_Range_ok.f
  simp only [q_impl_in, Option.bind_some, decide_eq_true_eq]
  by_cases hr : rok lo hi m
  · rw [decide_eq_true hr]
    unfold rok at hr
    rw [if_pos (by omega), if_pos (by omega), decide_eq_true (by omega)]
  · rw [decide_eq_false hr]
    unfold rok at hr
    by_cases h : 0 ≤ lo ∧ lo ≤ m
    · by_cases g : 0 ≤ hi ∧ hi ≤ m
      · rw [if_pos h, if_pos g, decide_eq_false (by omega)]
      · rw [if_pos h, if_neg g]
    · rw [if_neg h]
theorem q_impl_SelFault_j0 (k : Nat) (b : Bool) (s : Sl) : impl_SelFault.j0 (k + 1) b s.fl s.fh s.tl s.th s.pl s.ph s.ql s.qh s.pr = some (if b = true then 3 else if selPorts s then 0 else 1) := by
  rw [impl_SelFault.j0]
  simp only [q_impl_HasPorts, impl_whole.f, Option.bind_some, decide_eq_true_eq]
  unfold selPorts hasP
  cases b
  · by_cases h1 : s.pr = 0
    · simp [h1]
    · by_cases h2 : s.pr = 6 ∨ s.pr = 17
      · simp [h1, h2]
      · by_cases h3 : s.pl = 0 <;> by_cases h4 : s.ph = 65535 <;> by_cases h5 : s.ql = 0 <;> by_cases h6 : s.qh = 65535 <;> simp [h1, h2, h3, h4, h5, h6]
  · simp
theorem q_impl_SelFault (k : Nat) (s : Sl) : impl_SelFault.f (k + 1) s.fl s.fh s.tl s.th s.pl s.ph s.ql s.qh s.pr = some (selF s) := by
  unfold impl_SelFault.f
  simp only [q_impl_Range_ok, q_impl_in, q_impl_SelFault_j0, Option.bind_some, decide_eq_true_eq]
  unfold selF selOk
  by_cases h1 : rok s.fl s.fh 4294967295 <;> by_cases h2 : rok s.tl s.th 4294967295 <;> by_cases h3 : rok s.pl s.ph 65535 <;> by_cases h4 : rok s.ql s.qh 65535 <;> by_cases h5 : 0 ≤ s.pr ∧ s.pr ≤ 255 <;> simp [h1, h2, h3, h4, h5]
theorem ev_impl_SelFault (s : Sl) : Ev (fun k => impl_SelFault.f k s.fl s.fh s.tl s.th s.pl s.ph s.ql s.qh s.pr) (selF s) := ev_succ (fun k => q_impl_SelFault k s)

theorem ev_impl_PolicyFault_loop (l : List S87) (hl : l.length ≤ 1048576) : ∀ i, i ≤ l.length → Ev (fun k => impl_PolicyFault.l0 k l l.length i) (scanRule (l.drop i)) := by
  refine down l.length ?_ ?_
  · rw [List.drop_length]
    refine Ev.step (fun k => by rw [impl_PolicyFault.l0, if_neg (by omega)]) ?_
    exact ev_some _
  · intro i hi ih
    rw [List.drop_eq_getElem_cons hi, scanRule]
    refine Ev.step (fun k => by rw [impl_PolicyFault.l0, if_pos (by omega), if_pos (by omega), if_pos (by omega), rdRule_nat l i hi, w64 (by omega) (by omega)]) ?_
    refine Ev.bind (ev_impl_SelFault (slOf l[i].f0)) ?_
    have hr : ruleF l[i] = if selF (slOf l[i].f0) = 0 then (if 1 ≤ l[i].f1 ∧ l[i].f1 ≤ 3 then (if (l[i].f1 = 3 ∧ 1 ≤ l[i].f2 ∧ l[i].f2 ≤ 9) ∨ (l[i].f1 ≠ 3 ∧ l[i].f2 = 0) then 0 else 1) else 3) else selF (slOf l[i].f0) := rfl
    generalize hx : l[i] = x at *
    by_cases h : selF (slOf x.f0) = 0
    · refine ev_pos h (ev_opt (q_impl_in _ _ _) ?_)
      rw [if_pos h] at hr
      by_cases h1 : 1 ≤ x.f1 ∧ x.f1 ≤ 3
      · refine ev_pos (by simpa using h1) ?_
        rw [if_pos h1] at hr
        by_cases h3 : x.f1 = 3
        · refine ev_pos h3 (ev_opt (by rw [impl_isPeer.f, q_impl_in]; rfl) ?_)
          by_cases h4 : 1 ≤ x.f2 ∧ x.f2 ≤ 9
          · rw [if_pos (.inl ⟨h3, h4⟩)] at hr
            rw [if_pos hr]
            exact ev_pos (by simpa using h4) ih
          · rw [if_neg (by omega)] at hr
            rw [if_neg (by omega), hr]
            exact ev_neg (by simpa using h4) (ev_some _)
        · refine ev_neg h3 ?_
          by_cases h4 : x.f2 = 0
          · rw [if_pos (.inr ⟨h3, h4⟩)] at hr
            rw [if_pos hr]
            exact ev_pos h4 ih
          · rw [if_neg (by omega)] at hr
            rw [if_neg (by omega), hr]
            exact ev_neg h4 (ev_some _)
      · rw [if_neg h1] at hr
        rw [if_neg (by omega), hr]
        exact ev_neg (by simpa using h1) (ev_some _)
    · rw [if_neg h] at hr
      rw [hr, if_neg h]
      exact ev_neg h (ev_some _)
theorem ev_impl_PolicyFault (l : List S87) (hl : l.length ≤ 1048576) : Ev (fun k => impl_PolicyFault.f k l) (policyF l) := by
  unfold impl_PolicyFault.f policyF
  by_cases h1 : (l.length : Int) > 20
  · rw [if_pos (by omega)]
    exact ev_pos h1 (ev_some _)
  · rw [if_neg (by omega)]
    exact ev_neg h1 (ev_impl_PolicyFault_loop l hl 0 (by omega))

theorem q_impl_PacketFault_j1 (k : Nat) (b : Bool) (p : Pk) : impl_PacketFault.j1 (k + 1) b p.fr p.to_ p.pr p.tl p.fp p.tp p.ld = some (if b = true then 1 else if 200 < p.ld.length then 2 else 0) := by
  rw [impl_PacketFault.j1]
  cases b
  · by_cases h : 200 < p.ld.length
    · simp [h]
      omega
    · simp [h]
      omega
  · simp
theorem q_impl_PacketFault_j0 (k : Nat) (b : Bool) (p : Pk) : impl_PacketFault.j0 (k + 2) b p.fr p.to_ p.pr p.tl p.fp p.tp p.ld = some (if b = true then 3 else if pktPorts p then (if 200 < p.ld.length then 2 else 0) else 1) := by
  rw [impl_PacketFault.j0]
  simp only [q_impl_HasPorts, q_impl_PacketFault_j1, Option.bind_some, decide_eq_true_eq]
  unfold pktPorts hasP
  cases b
  · by_cases h2 : p.pr = 6 ∨ p.pr = 17
    · simp [h2]
    · by_cases h3 : p.fp = 0 <;> by_cases h4 : p.tp = 0 <;> simp [h2, h3, h4]
  · simp
theorem q_impl_PacketFault (k : Nat) (p : Pk) : impl_PacketFault.f (k + 2) p.fr p.to_ p.pr p.tl p.fp p.tp p.ld = some (pktF p) := by
  unfold impl_PacketFault.f impl_isAddress.f impl_isPort.f
  simp only [q_impl_in, q_impl_PacketFault_j0, Option.bind_some, decide_eq_true_eq]
  unfold pktF pktOk
  by_cases h1 : 0 ≤ p.fr ∧ p.fr ≤ 4294967295 <;> by_cases h2 : 0 ≤ p.to_ ∧ p.to_ ≤ 4294967295 <;> by_cases h3 : 1 ≤ p.pr ∧ p.pr ≤ 255 <;> by_cases h4 : 1 ≤ p.tl ∧ p.tl ≤ 255 <;> by_cases h5 : 0 ≤ p.fp ∧ p.fp ≤ 65535 <;> by_cases h6 : 0 ≤ p.tp ∧ p.tp ≤ 65535 <;> simp [h1, h2, h3, h4, h5, h6]
theorem ev_impl_PacketFault (p : Pk) : Ev (fun k => impl_PacketFault.f k p.fr p.to_ p.pr p.tl p.fp p.tp p.ld) (pktF p) := ev_succ2 (fun k => q_impl_PacketFault k p)

def firstF : List Int → Int
  | [] => 0
  | x :: xs => if x = 0 then firstF xs else x
theorem ev_impl_faultOf_loop (l : List Int) (hl : l.length ≤ 1000000) : ∀ (d i : Nat), i + d = l.length → Ev (fun k => impl_faultOf.l0 k l l.length i) (firstF (l.drop i)) := by
  intro d
  induction d with
  | zero =>
    intro i hi
    obtain rfl : i = l.length := by omega
    rw [List.drop_length]
    refine Ev.step (fun k => by rw [impl_faultOf.l0, if_neg (by omega)]) ?_
    exact ev_some _
  | succ d ih =>
    intro i hi
    have hr := rd_nat l i (by omega)
    rw [List.drop_eq_getElem_cons (by omega : i < l.length), firstF, ← hr]
    by_cases h : rd l i = 0
    · refine Ev.step (fun k => by rw [impl_faultOf.l0, if_pos (by omega), if_pos (by omega), if_pos (by omega), if_pos h]) ?_
      rw [w64 (by omega) (by omega), if_pos h]
      exact ih (i + 1) (by omega)
    · refine Ev.step (fun k => by rw [impl_faultOf.l0, if_pos (by omega), if_pos (by omega), if_pos (by omega), if_neg h]) ?_
      rw [if_neg h]
      exact ev_some _
theorem ev_impl_faultOf (l : List Int) (hl : l.length ≤ 1000000) : Ev (fun k => impl_faultOf.f k l) (firstF l) := ev_impl_faultOf_loop l hl l.length 0 (by omega)
theorem ev_faultOf2 (a b : Int) : Ev (fun k => impl_faultOf.f k [a, b]) (if a = 0 then b else a) := by
  refine ev_to (ev_impl_faultOf [a, b] (by simp)) ?_
  simp only [firstF]
  by_cases h : a = 0
  · rw [if_pos h, if_pos h]
    split
    · rename_i hb; exact hb.symm
    · rfl
  · rw [if_neg h, if_neg h]

def askT (l : List S87) (p : Pk) : Int := if policyF l = 0 then pktF p else policyF l
def frT (l : List S87) (p : Pk) : Int × Int × Int × Int × Int × Int × Int × Int × Int × Int × Int × Int × Int :=
  if askT l p = 0 then (if fstR l p 0 < 0 then (4, 0, 0, 0, 0, 0, 0, 0, 0, 0, 0, 0, 0) else (0, fstR l p 0, (rd_T87 l (fstR l p 0)).f0.f0.f0, (rd_T87 l (fstR l p 0)).f0.f0.f1, (rd_T87 l (fstR l p 0)).f0.f1.f0, (rd_T87 l (fstR l p 0)).f0.f1.f1, (rd_T87 l (fstR l p 0)).f0.f2.f0, (rd_T87 l (fstR l p 0)).f0.f2.f1, (rd_T87 l (fstR l p 0)).f0.f3.f0, (rd_T87 l (fstR l p 0)).f0.f3.f1, (rd_T87 l (fstR l p 0)).f0.f4, (rd_T87 l (fstR l p 0)).f1, (rd_T87 l (fstR l p 0)).f2)) else (askT l p, 0, 0, 0, 0, 0, 0, 0, 0, 0, 0, 0, 0)
theorem ev_impl_FirstRuleT (l : List S87) (hl : l.length ≤ 1048576) (p : Pk) : Ev (fun k => impl_FirstRule.f k l p.fr p.to_ p.pr p.tl p.fp p.tp p.ld) (frT l p) := by
  unfold impl_FirstRule.f frT
  refine Ev.bind (ev_impl_PolicyFault l hl) (Ev.bind (ev_impl_PacketFault p) (Ev.bind (ev_faultOf2 _ _) ?_))
  change Ev (fun k => if askT l p = 0 then _ else some (askT l p, 0, 0, 0, 0, 0, 0, 0, 0, 0, 0, 0, 0)) _
  refine ev_cond (fun h => ev_opt (q_impl_firstRule l p) (ev_cond (fun g => ev_some _) (fun g => ?_))) (fun h => ev_some _)
  have := fstR_lt0 l p g
  exact ev_pos this.1 (ev_pos this.2 (ev_some _))
def afT (l : List S87) (p : Pk) : Int × Int :=
  if askT l p = 0 then (if fstR l p 0 < 0 then (0, 1) else (0, (rd_T87 l (fstR l p 0)).f1)) else (askT l p, 0)
theorem q_impl_actionForT (l : List S87) (p : Pk) : impl_actionFor.f l p.fr p.to_ p.pr p.tl p.fp p.tp p.ld = some (if fstR l p 0 < 0 then 1 else (rd_T87 l (fstR l p 0)).f1) := by
  unfold impl_actionFor.f
  rw [q_impl_firstRule, Option.bind_some]
  by_cases g : fstR l p 0 < 0
  · rw [if_pos g]
    simp only [show ¬ (fstR l p 0 ≥ 0) by omega, show ¬ (0 ≤ fstR l p 0) by omega, if_false]
  · rw [if_neg g]
    have := fstR_lt0 l p g
    simp only [show (fstR l p 0 ≥ 0) by omega, this.1, this.2, if_true]
theorem ev_impl_ActionForT (l : List S87) (hl : l.length ≤ 1048576) (p : Pk) : Ev (fun k => impl_ActionFor.f k l p.fr p.to_ p.pr p.tl p.fp p.tp p.ld) (afT l p) := by
  unfold impl_ActionFor.f afT
  refine Ev.bind (ev_impl_PolicyFault l hl) (Ev.bind (ev_impl_PacketFault p) (Ev.bind (ev_faultOf2 _ _) ?_))
  change Ev (fun k => if askT l p = 0 then _ else some (askT l p, 0)) _
  refine ev_cond (fun h => ev_opt (q_impl_actionForT l p) ?_) (fun h => ev_some _)
  exact ev_to (ev_some _) (by split <;> rfl)
def cfT (x : Option S87) : Int × Int × Int × Int × Int × Int × Int × Int × Int × Int × Int × Int := match x with
  | none => (4, 0, 0, 0, 0, 0, 0, 0, 0, 0, 0, 0)
  | some x => (0, x.f0.f0.f0, x.f0.f0.f1, x.f0.f1.f0, x.f0.f1.f1, x.f0.f2.f0, x.f0.f2.f1, x.f0.f3.f0, x.f0.f3.f1, x.f0.f4, x.f1, x.f2)
theorem frT_fnd {l : List S87} (p : Pk) (hp : policyF l = 0) (hk : pktF p = 0) : ((frT l p).1, (frT l p).2.2) = cfT (fnd l p) := by
  have ha : askT l p = 0 := by
    unfold askT
    rw [if_pos hp, hk]
  unfold frT
  rw [if_pos ha]
  rcases fst_fnd l p 0 with ⟨h1, h2⟩ | ⟨x, j, h, h1, h2, h3⟩
  · rw [h1, h2, if_pos (by decide)]
    rfl
  · rw [h1, h3, if_neg (by omega), show (0 : Int) + (j : Int) = (j : Int) by omega, rdRule_nat l j h, h2]
    rfl
theorem frT_bad {l : List S87} (p : Pk) (hp : policyF l = 0) (hk : ¬ pktF p = 0) : frT l p = (pktF p, 0, 0, 0, 0, 0, 0, 0, 0, 0, 0, 0, 0) := by
  have ha : askT l p = pktF p := by
    unfold askT
    rw [if_pos hp]
  unfold frT
  rw [ha, if_neg hk]
theorem frT_eq {l t : List S87} (p : Pk) (hp : policyF l = 0) (ht : policyF t = 0) (hf : fnd t p = fnd l p) : ((frT l p).1, (frT l p).2.2) = ((frT t p).1, (frT t p).2.2) := by
  by_cases hk : pktF p = 0
  · rw [frT_fnd p hp hk, frT_fnd p ht hk, hf]
  · rw [frT_bad p hp hk, frT_bad p ht hk]
theorem afT_eq {l t : List S87} (p : Pk) (hp : policyF l = 0) (ht : policyF t = 0) (hf : pktF p = 0 → (fnd t p).map (fun x => x.f1) = (fnd l p).map (fun x => x.f1)) : afT t p = afT l p := by
  have hl : ∀ {l : List S87}, policyF l = 0 → afT l p = if pktF p = 0 then (0, ((fnd l p).map (fun x => x.f1)).getD 1) else (pktF p, 0) := by
    intro l hp
    have ha : askT l p = pktF p := by
      unfold askT
      rw [if_pos hp]
    unfold afT
    rw [ha]
    by_cases hk : pktF p = 0
    · rw [if_pos hk, if_pos hk]
      rcases fst_fnd l p 0 with ⟨h1, h2⟩ | ⟨x, j, h, h1, h2, h3⟩
      · rw [h1, h2, if_pos (by decide)]
        rfl
      · rw [h1, h3, if_neg (by omega), show (0 : Int) + (j : Int) = (j : Int) by omega, rdRule_nat l j h, h2]
        rfl
    · rw [if_neg hk, if_neg hk]
  rw [hl hp, hl ht]
  by_cases hk : pktF p = 0
  · rw [if_pos hk, if_pos hk, hf hk]
  · rw [if_neg hk, if_neg hk]

def fitM (s : Sl) : Option Sl := if s.pr = 0 ∨ hasP s.pr then some s else if (s.pl ≤ 0 ∧ 0 ≤ s.ph) ∧ (s.ql ≤ 0 ∧ 0 ≤ s.qh) then some ⟨s.fl, s.fh, s.tl, s.th, 0, 65535, 0, 65535, s.pr⟩ else none
def crossM (a b : Sl) (pr : Int) : Sl := ⟨max a.fl b.fl, min a.fh b.fh, max a.tl b.tl, min a.th b.th, max a.pl b.pl, min a.ph b.ph, max a.ql b.ql, min a.qh b.qh, pr⟩
def okM (s : Sl) : Prop := s.fl ≤ s.fh ∧ s.tl ≤ s.th ∧ s.pl ≤ s.ph ∧ s.ql ≤ s.qh
instance (s : Sl) : Decidable (okM s) := by unfold okM; infer_instance
def prM (a b : Int) : Prop := a = 0 ∨ b = 0 ∨ a = b
instance (a b : Int) : Decidable (prM a b) := by unfold prM; infer_instance
def meetM (a b : Sl) : Option Sl := if okM (crossM a b 0) ∧ prM a.pr b.pr then fitM (crossM a b (if a.pr = 0 then b.pr else a.pr)) else none
def outB : Option Sl → Int × Int × Int × Int × Int × Int × Int × Int × Int × Bool
  | some s => (s.fl, s.fh, s.tl, s.th, s.pl, s.ph, s.ql, s.qh, s.pr, true)
  | none => (0, 0, 0, 0, 0, 0, 0, 0, 0, false)
def outC : Option Sl → Int × Int × Int × Int × Int × Int × Int × Int × Int × Int
  | some s => (s.fl, s.fh, s.tl, s.th, s.pl, s.ph, s.ql, s.qh, s.pr, 0)
  | none => (0, 0, 0, 0, 0, 0, 0, 0, 0, 4)
theorem mx_eq (a b : Int) : mx a b = max a b := by
  unfold mx
  omega
theorem mn_eq (a b : Int) : mn a b = min a b := by
  unfold mn
  omega

def swW (l : List S87) (i : Int) : Int × List S87 :=
  if (meetM (slOf (rd_T87 l i).f0) (slOf (rd_T87 l (i + 1)).f0)).isSome = true ∧ ((rd_T87 l i).f1 ≠ (rd_T87 l (i + 1)).f1 ∨ (rd_T87 l i).f2 ≠ (rd_T87 l (i + 1)).f2) then (1, []) else (0, (l.set i.toNat (rd_T87 l (i + 1))).set (i + 1).toNat (rd_T87 l i))
def swR (l : List S87) (i : Int) : Int × List S87 := if policyF l = 0 then (if 0 ≤ i ∧ i ≤ (l.length : Int) - 2 then swW l i else (3, [])) else (policyF l, [])
theorem swR_len (l : List S87) (i : Int) : (swR l i).2.length ≤ l.length := by
  unfold swR swW
  repeat' split
  all_goals simp
theorem rd_rule0 {l : List S87} (hp : policyF l = 0) {i : Int} (h0 : 0 ≤ i) (h1 : i < (l.length : Int)) : selF (slOf (rd_T87 l i).f0) = 0 := by
  obtain ⟨n, rfl⟩ := Int.eq_ofNat_of_zero_le h0
  rw [rdRule_nat l n (by omega)]
  exact ruleF_sel ((policyF_ok hp).2 _ (List.getElem_mem _))

theorem pktF_okB {p : Pk} (h : pktF p = 0) : pktOk p ∧ pktPorts p := by
  unfold pktF at h
  split at h
  · split at h
    · exact ⟨by assumption, by assumption⟩
    · exact absurd h (by decide)
  · exact absurd h (by decide)
theorem cross_pr {x y q v : Int} (hq : q = if x = 0 then y else x) (hp : prM x y) : (q = 0 ∨ q = v) ↔ ((x = 0 ∨ x = v) ∧ (y = 0 ∨ y = v)) := by
  unfold prM at hp
  by_cases h : x = 0
  · rw [if_pos h] at hq
    omega
  · rw [if_neg h] at hq
    omega
theorem cross_holds {a b : Sl} {q : Int} (p : Pk) (hq : q = if a.pr = 0 then b.pr else a.pr) (hp : prM a.pr b.pr) : holdsS (crossM a b q) p ↔ (holdsS a p ∧ holdsS b p) := by
  have hr := cross_pr (v := p.pr) hq hp
  unfold holdsS crossM
  simp only [Int.max_le, Int.le_min, hr]
  constructor
  · rintro ⟨⟨⟨a1, b1⟩, ⟨a2, b2⟩⟩, ⟨⟨a3, b3⟩, ⟨a4, b4⟩⟩, ⟨⟨a5, b5⟩, ⟨a6, b6⟩⟩, ⟨⟨a7, b7⟩, ⟨a8, b8⟩⟩, a9, b9⟩
    exact ⟨⟨⟨a1, a2⟩, ⟨a3, a4⟩, ⟨a5, a6⟩, ⟨a7, a8⟩, a9⟩, ⟨⟨b1, b2⟩, ⟨b3, b4⟩, ⟨b5, b6⟩, ⟨b7, b8⟩, b9⟩⟩
  · rintro ⟨⟨⟨a1, a2⟩, ⟨a3, a4⟩, ⟨a5, a6⟩, ⟨a7, a8⟩, a9⟩, ⟨⟨b1, b2⟩, ⟨b3, b4⟩, ⟨b5, b6⟩, ⟨b7, b8⟩, b9⟩⟩
    exact ⟨⟨⟨a1, b1⟩, ⟨a2, b2⟩⟩, ⟨⟨a3, b3⟩, ⟨a4, b4⟩⟩, ⟨⟨a5, b5⟩, ⟨a6, b6⟩⟩, ⟨⟨a7, b7⟩, ⟨a8, b8⟩⟩, a9, b9⟩
theorem holds_okM {s : Sl} {p : Pk} (h : holdsS s p) : okM s := ⟨Int.le_trans h.1.1 h.1.2, Int.le_trans h.2.1.1 h.2.1.2, Int.le_trans h.2.2.1.1 h.2.2.1.2, Int.le_trans h.2.2.2.1.1 h.2.2.2.1.2⟩
theorem fit_holds (s : Sl) (p : Pk) (hp : pktF p = 0) : holdsS s p ↔ ∃ s', fitM s = some s' ∧ holdsS s' p := by
  obtain ⟨_, hpp⟩ := pktF_okB hp
  unfold fitM
  by_cases h1 : s.pr = 0 ∨ hasP s.pr
  · rw [if_pos h1]
    exact ⟨fun h => ⟨s, rfl, h⟩, fun ⟨_, e, h⟩ => Option.some.inj e ▸ h⟩
  · rw [if_neg h1]
    have hz : (s.pr = 0 ∨ s.pr = p.pr) → p.fp = 0 ∧ p.tp = 0 := by
      rintro (e | e)
      · exact absurd (.inl e) h1
      · rcases hpp with g | g
        · exact absurd (.inr (e ▸ g)) h1
        · exact g
    by_cases h2 : (s.pl ≤ 0 ∧ 0 ≤ s.ph) ∧ (s.ql ≤ 0 ∧ 0 ≤ s.qh)
    · rw [if_pos h2]
      constructor
      · rintro ⟨a1, a2, a3, a4, a5⟩
        obtain ⟨z1, z2⟩ := hz a5
        refine ⟨_, rfl, a1, a2, ?_, ?_, a5⟩
        · rw [z1]
          simp only
          omega
        · rw [z2]
          simp only
          omega
      · rintro ⟨s', e, h⟩
        obtain rfl := Option.some.inj e
        obtain ⟨a1, a2, a3, a4, a5⟩ := h
        obtain ⟨z1, z2⟩ := hz a5
        exact ⟨a1, a2, by rw [z1]; exact h2.1, by rw [z2]; exact h2.2, a5⟩
    · rw [if_neg h2]
      constructor
      · rintro ⟨a1, a2, a3, a4, a5⟩
        obtain ⟨z1, z2⟩ := hz a5
        exact absurd ⟨by rw [z1] at a3; exact a3, by rw [z2] at a4; exact a4⟩ h2
      · rintro ⟨s', e, h⟩
        exact absurd e (by simp)
theorem holds_prM {a b : Sl} {p : Pk} (h : holdsS a p) (h' : holdsS b p) : prM a.pr b.pr := by
  have h1 := h.2.2.2.2
  have h2 := h'.2.2.2.2
  unfold prM
  omega
theorem meet_spec (a b : Sl) (p : Pk) (hp : pktF p = 0) : (holdsS a p ∧ holdsS b p) ↔ ∃ s, meetM a b = some s ∧ holdsS s p := by
  unfold meetM
  by_cases hc : okM (crossM a b 0) ∧ prM a.pr b.pr
  · rw [if_pos hc, ← cross_holds p rfl hc.2]
    exact fit_holds _ p hp
  · rw [if_neg hc]
    constructor
    · intro h
      have hpr := holds_prM h.1 h.2
      have hk := holds_okM ((cross_holds p rfl hpr).2 h)
      exact absurd ⟨hk, hpr⟩ hc
    · rintro ⟨s', e, h⟩
      exact absurd e (by simp)
theorem meet_none {a b : Sl} (ha : selF a = 0) (hb : selF b = 0) (hm : meetM a b = none) (p : Pk) : ¬ (holdsF a p ∧ holdsF b p) := by
  rintro ⟨⟨_, h2, h3⟩, ⟨_, _, h4⟩⟩
  obtain ⟨s', e, h⟩ := (meet_spec a b p h2).1 ⟨h3, h4⟩
  exact absurd (hm.symm.trans e) (by simp)
theorem swR_ok {l : List S87} {i : Int} (hp : policyF l = 0) (h : (swR l i).1 = 0) : ∃ n : Nat, ∃ hn : n + 1 < l.length, (swR l i).2 = (l.set n l[n + 1]).set (n + 1) (l[n]'(by omega)) ∧ (meetM (slOf (l[n]'(by omega)).f0) (slOf l[n + 1].f0) = none ∨ (l[n]'(by omega)).f1 = l[n + 1].f1) := by
  unfold swR at h ⊢
  rw [if_pos hp] at h ⊢
  by_cases hr : 0 ≤ i ∧ i ≤ (l.length : Int) - 2
  · rw [if_pos hr] at h ⊢
    obtain ⟨n, rfl⟩ := Int.eq_ofNat_of_zero_le hr.1
    have hn : n + 1 < l.length := by omega
    refine ⟨n, hn, ?_⟩
    have e1 : rd_T87 l (n : Int) = l[n]'(by omega) := rdRule_nat l n (by omega)
    have e2 : rd_T87 l ((n : Int) + 1) = l[n + 1] := rdRule_nat l (n + 1) hn
    unfold swW at h ⊢
    rw [e1, e2] at h ⊢
    by_cases hc : (meetM (slOf (l[n]'(by omega)).f0) (slOf l[n + 1].f0)).isSome = true ∧ ((l[n]'(by omega)).f1 ≠ l[n + 1].f1 ∨ (l[n]'(by omega)).f2 ≠ l[n + 1].f2)
    · rw [if_pos hc] at h
      exact absurd h (by decide)
    · rw [if_neg hc]
      refine ⟨?_, ?_⟩
      · show (l.set (n : Int).toNat _).set ((n : Int) + 1).toNat _ = _
        rw [Int.toNat_natCast, show ((n : Int) + 1).toNat = n + 1 by omega]
      · cases hm : meetM (slOf (l[n]'(by omega)).f0) (slOf l[n + 1].f0) with
        | none => exact .inl rfl
        | some s =>
          refine .inr (Decidable.byContradiction fun hne => hc ⟨?_, .inl hne⟩)
          rw [hm]
          rfl
  · rw [if_neg hr] at h
    exact absurd h (by decide)
theorem swR_act {l : List S87} {i : Int} (hp : policyF l = 0) (h : (swR l i).1 = 0) (p : Pk) : afT (swR l i).2 p = afT l p := by
  obtain ⟨n, hn, hs, hm⟩ := swR_ok hp h
  obtain ⟨f1, f2⟩ := swap_form l n hn
  have hok := (policyF_ok hp).2
  rw [hs, f1]
  have hmem : ∀ x ∈ l.take n ++ l[n + 1] :: (l[n]'(by omega)) :: l.drop (n + 2), x ∈ l := by
    intro x hx
    rw [f2]
    simp only [List.mem_append, List.mem_cons] at hx ⊢
    rcases hx with hx | hx | hx | hx
    · exact .inl hx
    · exact .inr (.inr (.inl hx))
    · exact .inr (.inl hx)
    · exact .inr (.inr (.inr hx))
  have hlen : (l.take n ++ l[n + 1] :: (l[n]'(by omega)) :: l.drop (n + 2)).length ≤ l.length := by
    simp only [List.length_append, List.length_cons, List.length_take, List.length_drop]
    omega
  refine afT_eq p hp (policy_of hp hlen hmem) fun hk => ?_
  have := fnd_swap p (l[n]'(by omega)) l[n + 1] (fun ha hb => ?_) (l.take n) (l.drop (n + 2))
  · rw [← f2] at this
    exact this
  · rcases hm with hm | hm
    · exact absurd ⟨⟨ruleF_sel (hok _ (List.getElem_mem _)), hk, ha⟩, ⟨ruleF_sel (hok _ (List.getElem_mem _)), hk, hb⟩⟩ (meet_none (ruleF_sel (hok _ (List.getElem_mem _))) (ruleF_sel (hok _ (List.getElem_mem _))) hm p)
    · exact hm

theorem q_l3Meet (a b c d : Int) : spec_l3Meet.f a b c d = some (max a c, min b d) := by
  unfold spec_l3Meet.f
  have h1 : spec_l1Max.f a c = some (max a c) := by
    unfold spec_l1Max.f
    by_cases h : a > c
    · rw [if_pos h, show max a c = a by omega]
    · rw [if_neg h, show max a c = c by omega]
  have h2 : spec_l1Min.f b d = some (min b d) := by
    unfold spec_l1Min.f
    by_cases h : b < d
    · rw [if_pos h, show min b d = b by omega]
    · rw [if_neg h, show min b d = d by omega]
  rw [h1, h2]
  rfl
theorem q_l1Max (a c : Int) : spec_l1Max.f a c = some (max a c) := by
  unfold spec_l1Max.f
  by_cases h : a > c
  · rw [if_pos h, show max a c = a by omega]
  · rw [if_neg h, show max a c = c by omega]
theorem q_l1Min (b d : Int) : spec_l1Min.f b d = some (min b d) := by
  unfold spec_l1Min.f
  by_cases h : b < d
  · rw [if_pos h, show min b d = b by omega]
  · rw [if_neg h, show min b d = d by omega]
theorem q_l3Common_j3 (k : Nat) (b : Bool) (s : Sl) : spec_l3Common.j3 (k + 1) b s.fl s.fh s.tl s.th s.pl s.ph s.ql s.qh s.pr = some (outC (if b = true then none else some ⟨s.fl, s.fh, s.tl, s.th, 0, 65535, 0, 65535, s.pr⟩)) := by
  rw [spec_l3Common.j3]
  cases b <;> rfl
theorem q_l3Common_j2 (k : Nat) (b : Bool) (s : Sl) (hb : b = true ↔ ¬ (s.pr = 0 ∨ hasP s.pr)) (h0 : 0 ≤ s.ph ∧ 0 ≤ s.qh) : spec_l3Common.j2 (k + 2) b s.fl s.fh s.tl s.th s.pl s.ph s.ql s.qh s.pr = some (outC (fitM s)) := by
  rw [spec_l3Common.j2]
  simp only [q_l3Common_j3]
  unfold fitM
  by_cases h : s.pr = 0 ∨ hasP s.pr
  · rw [if_pos h, if_neg (fun e => hb.mp e h)]
    rfl
  · rw [if_neg h, if_pos (hb.mpr h)]
    by_cases h1 : s.pl > 0
    · rw [if_pos h1, if_pos trivial, if_neg (by omega)]
    · rw [if_neg h1]
      by_cases h2 : s.ql > 0
      · rw [if_pos (by simpa using h2), if_neg (by omega)]
      · rw [if_neg (by simpa using h2), if_pos (by omega)]
theorem q_l3Common_j1 (k : Nat) (b : Bool) (s : Sl) (h0 : 0 ≤ s.ph ∧ 0 ≤ s.qh) : spec_l3Common.j1 (k + 3) b s.fl s.fh s.tl s.th s.pl s.ph s.ql s.qh s.pr = some (outC (if b = true then none else fitM s)) := by
  rw [spec_l3Common.j1, q_spec_HasPorts, Option.bind_some]
  cases b
  · simp only [Bool.false_eq_true, if_false]
    by_cases h : s.pr = 0
    · rw [if_pos h, q_l3Common_j2 k false s (by simp [h]) h0]
    · rw [if_neg h, q_l3Common_j2 k _ s (by simp [h, hasP]) h0]
  · rfl
theorem q_l3Common_l0 (k : Nat) (a b s : Sl) (h0 : 0 ≤ s.ph ∧ 0 ≤ s.qh) (ha : 0 ≤ a.pr) (hb : 0 ≤ b.pr) : spec_l3Common.l0 (k + 8) [⟨s.fl, s.fh⟩, ⟨s.tl, s.th⟩, ⟨s.pl, s.ph⟩, ⟨s.ql, s.qh⟩] 0 a.fl a.fh a.tl a.th a.pl a.ph a.ql a.qh a.pr b.fl b.fh b.tl b.th b.pl b.ph b.ql b.qh b.pr s.fl s.fh s.tl s.th s.pl s.ph s.ql s.qh s.pr = some (outC (if okM s ∧ prM a.pr b.pr then fitM s else none)) := by
  have e1 : wrap64 (0 + 1) = 1 := by rw [w64 (by omega) (by omega)]; rfl
  have e2 : wrap64 (1 + 1) = 2 := by rw [w64 (by omega) (by omega)]; rfl
  have e3 : wrap64 (2 + 1) = 3 := by rw [w64 (by omega) (by omega)]; rfl
  have e4 : wrap64 (3 + 1) = 4 := by rw [w64 (by omega) (by omega)]; rfl
  have r0 : rd_T63 [⟨s.fl, s.fh⟩, ⟨s.tl, s.th⟩, ⟨s.pl, s.ph⟩, ⟨s.ql, s.qh⟩] 0 = ⟨s.fl, s.fh⟩ := rfl
  have r1 : rd_T63 [⟨s.fl, s.fh⟩, ⟨s.tl, s.th⟩, ⟨s.pl, s.ph⟩, ⟨s.ql, s.qh⟩] 1 = ⟨s.tl, s.th⟩ := rfl
  have r2 : rd_T63 [⟨s.fl, s.fh⟩, ⟨s.tl, s.th⟩, ⟨s.pl, s.ph⟩, ⟨s.ql, s.qh⟩] 2 = ⟨s.pl, s.ph⟩ := rfl
  have r3 : rd_T63 [⟨s.fl, s.fh⟩, ⟨s.tl, s.th⟩, ⟨s.pl, s.ph⟩, ⟨s.ql, s.qh⟩] 3 = ⟨s.ql, s.qh⟩ := rfl
  unfold okM
  rw [spec_l3Common.l0, if_pos (by omega), if_pos (by omega), if_pos (by simp), r0, e1]
  by_cases h1 : s.fl ≤ s.fh
  · rw [if_neg (by simpa using h1), spec_l3Common.l0, if_pos (by omega), if_pos (by omega), if_pos (by simp), r1, e2]
    by_cases h2 : s.tl ≤ s.th
    · rw [if_neg (by simpa using h2), spec_l3Common.l0, if_pos (by omega), if_pos (by omega), if_pos (by simp), r2, e3]
      by_cases h3 : s.pl ≤ s.ph
      · rw [if_neg (by simpa using h3), spec_l3Common.l0, if_pos (by omega), if_pos (by omega), if_pos (by simp), r3, e4]
        by_cases h4 : s.ql ≤ s.qh
        · rw [if_neg (by simpa using h4), spec_l3Common.l0, if_neg (by omega), q_l1Min, Option.bind_some, q_l3Common_j1 k _ s h0, q_l3Common_j1 k _ s h0]
          unfold prM
          by_cases h5 : a.pr = b.pr
          · rw [if_pos h5, if_neg (by simp), if_pos ⟨⟨h1, h2, h3, h4⟩, .inr (.inr h5)⟩]
          · rw [if_neg h5]
            by_cases h6 : a.pr = 0 ∨ b.pr = 0
            · rw [if_neg (by simp only [bne_iff_ne, ne_eq, Decidable.not_not]; omega), if_pos ⟨⟨h1, h2, h3, h4⟩, by omega⟩]
            · rw [if_pos (by simp only [bne_iff_ne, ne_eq]; omega), if_neg (by omega)]
        · rw [if_pos (by simpa using h4), if_neg (by omega)]
          rfl
      · rw [if_pos (by simpa using h3), if_neg (by omega)]
        rfl
    · rw [if_pos (by simpa using h2), if_neg (by omega)]
      rfl
  · rw [if_pos (by simpa using h1), if_neg (by omega)]
    rfl
theorem selF_ok {s : Sl} (h : selF s = 0) : selOk s := by
  unfold selF at h
  by_cases g : selOk s
  · exact g
  · rw [if_neg g] at h
    exact absurd h (by omega)
theorem q_spec_l3Common (k : Nat) (a b : Sl) (ha : selF a = 0) (hb : selF b = 0) : spec_l3Common.f (k + 8) a.fl a.fh a.tl a.th a.pl a.ph a.ql a.qh a.pr b.fl b.fh b.tl b.th b.pl b.ph b.ql b.qh b.pr = some (outC (meetM a b)) := by
  obtain ⟨_, _, ⟨a1, a2, a3⟩, ⟨a4, a5, a6⟩, a7, _⟩ := selF_ok ha
  obtain ⟨_, _, ⟨b1, b2, b3⟩, ⟨b4, b5, b6⟩, b7, _⟩ := selF_ok hb
  unfold spec_l3Common.f
  simp only [q_l3Meet, q_l1Max, Option.bind_some]
  have h := q_l3Common_l0 k a b (crossM a b (max a.pr b.pr)) ⟨by simp only [crossM]; omega, by simp only [crossM]; omega⟩ a7 b7
  simp only [crossM] at h
  rw [h]
  unfold meetM okM crossM prM
  by_cases h5 : a.pr = 0 ∨ b.pr = 0 ∨ a.pr = b.pr
  · rw [show max a.pr b.pr = if a.pr = 0 then b.pr else a.pr by split <;> omega]
  · simp only [h5, and_false, if_false]
theorem ev_up {α : Type} {g : Nat → Option α} {r : α} (n : Nat) (h : ∀ k, g (k + n) = some r) : Ev g r := by
  refine ⟨n, fun m hm => ?_⟩
  have := h (m - n)
  rwa [Nat.sub_add_cancel hm] at this
theorem ev_spec_l3Common (a b : Sl) (ha : selF a = 0) (hb : selF b = 0) : Ev (fun k => spec_l3Common.f k a.fl a.fh a.tl a.th a.pl a.ph a.ql a.qh a.pr b.fl b.fh b.tl b.th b.pl b.ph b.ql b.qh b.pr) (outC (meetM a b)) := ev_up 8 (fun k => q_spec_l3Common k a b ha hb)

def meetQ (a b : Sl) : Int × Int × Int × Int × Int × Int × Int × Int × Int × Int :=
  if selF a = 0 then (if selF b = 0 then ((outC (meetM a b)).2.2.2.2.2.2.2.2.2, (outC (meetM a b)).1, (outC (meetM a b)).2.1, (outC (meetM a b)).2.2.1, (outC (meetM a b)).2.2.2.1, (outC (meetM a b)).2.2.2.2.1, (outC (meetM a b)).2.2.2.2.2.1, (outC (meetM a b)).2.2.2.2.2.2.1, (outC (meetM a b)).2.2.2.2.2.2.2.1, (outC (meetM a b)).2.2.2.2.2.2.2.2.1) else (selF b, 0, 0, 0, 0, 0, 0, 0, 0, 0)) else (selF a, 0, 0, 0, 0, 0, 0, 0, 0, 0)
theorem ev_spec_MeetSelsQ (a b : Sl) : Ev (fun k => spec_MeetSels.f k a.fl a.fh a.tl a.th a.pl a.ph a.ql a.qh a.pr b.fl b.fh b.tl b.th b.pl b.ph b.ql b.qh b.pr) (meetQ a b) := by
  unfold spec_MeetSels.f meetQ
  refine Ev.bind (ev_spec_SelFault a) (ev_cond (fun ha => ?_) (fun h => ev_some _))
  refine Ev.bind (ev_spec_SelFault b) (ev_cond (fun hb => ?_) (fun h => ev_some _))
  exact Ev.bind (ev_spec_l3Common a b ha hb) (ev_some _)
theorem meetQ_no {a b : Sl} (ha : selF a = 0) (hb : selF b = 0) (hm : meetM a b = none) : meetQ a b = (4, 0, 0, 0, 0, 0, 0, 0, 0, 0) := by
  unfold meetQ
  rw [if_pos ha, if_pos hb, hm]
  rfl
theorem meetQ_yes {a b s : Sl} (ha : selF a = 0) (hb : selF b = 0) (hm : meetM a b = some s) : meetQ a b = (0, s.fl, s.fh, s.tl, s.th, s.pl, s.ph, s.ql, s.qh, s.pr) := by
  unfold meetQ
  rw [if_pos ha, if_pos hb, hm]
  rfl

theorem ev_spec_PolicyFault_loop (l : List S87) (hl : l.length ≤ 1048576) : ∀ i, i ≤ l.length → Ev (fun k => spec_PolicyFault.l0 k l i) (scanRule (l.drop i)) := by
  refine down l.length ?_ ?_
  · rw [List.drop_length]
    refine Ev.step (fun k => by rw [spec_PolicyFault.l0, if_neg (by omega)]) ?_
    exact ev_some _
  · intro i hi ih
    rw [List.drop_eq_getElem_cons hi, scanRule]
    refine Ev.step (fun k => by rw [spec_PolicyFault.l0, if_pos (by omega), if_pos (by omega), rdRule_nat l i hi, w64 (by omega) (by omega)]) ?_
    refine Ev.bind (ev_spec_SelFault (slOf l[i].f0)) ?_
    have hr : ruleF l[i] = if selF (slOf l[i].f0) = 0 then (if 1 ≤ l[i].f1 ∧ l[i].f1 ≤ 3 then (if (l[i].f1 = 3 ∧ 1 ≤ l[i].f2 ∧ l[i].f2 ≤ 9) ∨ (l[i].f1 ≠ 3 ∧ l[i].f2 = 0) then 0 else 1) else 3) else selF (slOf l[i].f0) := rfl
    generalize hx : l[i] = x at *
    by_cases h : selF (slOf x.f0) = 0
    · refine ev_pos h (ev_opt (q_spec_l1In _ _ _) ?_)
      rw [if_pos h] at hr
      by_cases h1 : 1 ≤ x.f1 ∧ x.f1 ≤ 3
      · refine ev_pos (by simpa using h1) ?_
        rw [if_pos h1] at hr
        by_cases h3 : x.f1 = 3
        · refine ev_pos h3 (ev_opt (q_spec_l1In _ _ _) ?_)
          by_cases h4 : 1 ≤ x.f2 ∧ x.f2 ≤ 9
          · rw [if_pos (.inl ⟨h3, h4⟩)] at hr
            rw [if_pos hr]
            exact ev_pos (by simpa using h4) ih
          · rw [if_neg (by omega)] at hr
            rw [if_neg (by omega), hr]
            exact ev_neg (by simpa using h4) (ev_some _)
        · refine ev_neg h3 ?_
          by_cases h4 : x.f2 = 0
          · rw [if_pos (.inr ⟨h3, h4⟩)] at hr
            rw [if_pos hr]
            exact ev_pos h4 ih
          · rw [if_neg (by omega)] at hr
            rw [if_neg (by omega), hr]
            exact ev_neg h4 (ev_some _)
      · rw [if_neg h1] at hr
        rw [if_neg (by omega), hr]
        exact ev_neg (by simpa using h1) (ev_some _)
    · rw [if_neg h] at hr
      rw [hr, if_neg h]
      exact ev_neg h (ev_some _)
theorem ev_spec_PolicyFault (l : List S87) (hl : l.length ≤ 1048576) : Ev (fun k => spec_PolicyFault.f k l) (policyF l) := by
  unfold spec_PolicyFault.f policyF
  by_cases h1 : (l.length : Int) > 20
  · rw [if_pos (by omega)]
    exact ev_pos h1 (ev_some _)
  · rw [if_neg (by omega)]
    exact ev_neg h1 (ev_spec_PolicyFault_loop l hl 0 (by omega))

theorem ev_spec_SwapRules (l : List S87) (hl : l.length ≤ 1048576) (i : Int) : Ev (fun k => spec_SwapRules.f k l i) (swR l i) := by
  unfold spec_SwapRules.f swR
  refine Ev.bind (ev_spec_PolicyFault l hl) (ev_cond (fun hp => ?_) (fun _ => ev_some _))
  refine ev_opt (q_spec_l1In _ _ _) ?_
  by_cases h : 0 ≤ i ∧ i ≤ (l.length : Int) - 2
  · rw [if_pos h]
    simp only [w64 (x := i + 1) (by omega) (by omega), w64 (x := (l.length : Int) - 2) (by omega) (by omega)]
    refine ev_pos (decide_eq_true h) (ev_pos h.1 (ev_pos (by omega) (ev_pos (by omega) (ev_pos (by omega) ?_))))
    have ga := rd_rule0 hp (i := i) (by omega) (by omega)
    have gb := rd_rule0 hp (i := i + 1) (by omega) (by omega)
    refine Ev.bind (ev_spec_MeetSelsQ (slOf (rd_T87 l i).f0) (slOf (rd_T87 l (i + 1)).f0)) ?_
    cases hm : meetM (slOf (rd_T87 l i).f0) (slOf (rd_T87 l (i + 1)).f0) with
    | none =>
      have hW : swW l i = (0, (l.set i.toNat (rd_T87 l (i + 1))).set (i + 1).toNat (rd_T87 l i)) := by
        unfold swW
        exact if_neg (by simp [hm])
      rw [hW, meetQ_no ga gb hm]
      refine ev_neg (by decide) ?_
      refine ev_opt rfl (ev_pos (by simp; omega) (ev_opt rfl (ev_pos (by simp; omega) (ev_pos (by simp; omega) (ev_some _)))))
    | some s =>
      rw [meetQ_yes ga gb hm]
      refine ev_pos rfl ?_
      by_cases e1 : (rd_T87 l i).f1 = (rd_T87 l (i + 1)).f1
      · refine ev_pos e1 ?_
        by_cases e2 : (rd_T87 l i).f2 = (rd_T87 l (i + 1)).f2
        · have hW : swW l i = (0, (l.set i.toNat (rd_T87 l (i + 1))).set (i + 1).toNat (rd_T87 l i)) := by
            unfold swW
            exact if_neg (fun e => e.2.elim (fun e => e e1) (fun e => e e2))
          rw [hW]
          refine ev_pos e2 ?_
          refine ev_opt rfl (ev_pos (by simp; omega) (ev_opt rfl (ev_pos (by simp; omega) (ev_pos (by simp; omega) (ev_some _)))))
        · have hW : swW l i = (1, []) := by
            unfold swW
            exact if_pos ⟨by simp [hm], .inr e2⟩
          rw [hW]
          exact ev_neg e2 (ev_some _)
      · have hW : swW l i = (1, []) := by
          unfold swW
          exact if_pos ⟨by simp [hm], .inl e1⟩
        rw [hW]
        exact ev_neg e1 (ev_some _)
  · rw [if_neg h]
    simp only [w64 (x := (l.length : Int) - 2) (by omega) (by omega)]
    exact ev_neg (by simpa using h) (ev_some _)

theorem q_meetSels_j3 (k : Nat) (b : Bool) (s : Sl) : impl_meetSels.j3 (k + 1) b s.fl s.fh s.tl s.th s.pl s.ph s.ql s.qh s.pr = some (outB (if b = true then none else some ⟨s.fl, s.fh, s.tl, s.th, 0, 65535, 0, 65535, s.pr⟩)) := by
  rw [impl_meetSels.j3]
  cases b <;> rfl
theorem q_meetSels_j2 (k : Nat) (b : Bool) (s : Sl) (hb : b = true ↔ (s.pr = 0 ∨ hasP s.pr)) : impl_meetSels.j2 (k + 2) b s.fl s.fh s.tl s.th s.pl s.ph s.ql s.qh s.pr = some (outB (fitM s)) := by
  rw [impl_meetSels.j2]
  simp only [q_meetSels_j3, impl_Range_has.f, q_impl_in, Option.bind_some, decide_eq_true_eq]
  unfold fitM
  by_cases h : s.pr = 0 ∨ hasP s.pr
  · rw [if_pos h, if_pos (hb.mpr h)]
    rfl
  · rw [if_neg h, if_neg (fun e => h (hb.mp e))]
    by_cases h1 : s.pl ≤ 0 ∧ 0 ≤ s.ph <;> by_cases h2 : s.ql ≤ 0 ∧ 0 ≤ s.qh <;> simp [h1, h2]
theorem q_meetSels_j1 (k : Nat) (s : Sl) : impl_meetSels.j1 (k + 3) s.fl s.fh s.tl s.th s.pl s.ph s.ql s.qh s.pr = some (outB (fitM s)) := by
  rw [impl_meetSels.j1, q_impl_HasPorts, Option.bind_some]
  by_cases h : s.pr = 0
  · rw [if_pos h, q_meetSels_j2 k true s (by simp [h])]
  · rw [if_neg h, q_meetSels_j2 k _ s (by simp [h, hasP])]
theorem q_meetSels_j0 (k : Nat) (b : Bool) (p0 p1 p2 p3 p4 p5 p6 p7 q : Int) (s : Sl) : impl_meetSels.j0 (k + 4) b p0 p1 p2 p3 p4 p5 p6 p7 q s.fl s.fh s.tl s.th s.pl s.ph s.ql s.qh s.pr = some (outB (if b = true then none else fitM ⟨s.fl, s.fh, s.tl, s.th, s.pl, s.ph, s.ql, s.qh, if s.pr = 0 then q else s.pr⟩)) := by
  rw [impl_meetSels.j0]
  cases b
  · simp only [Bool.false_eq_true, if_false]
    by_cases h : s.pr = 0
    · rw [if_pos h, if_pos h]
      exact q_meetSels_j1 k ⟨s.fl, s.fh, s.tl, s.th, s.pl, s.ph, s.ql, s.qh, q⟩
    · rw [if_neg h, if_neg h]
      exact q_meetSels_j1 k ⟨s.fl, s.fh, s.tl, s.th, s.pl, s.ph, s.ql, s.qh, s.pr⟩
  · rfl
theorem q_impl_meetSels (k : Nat) (a b : Sl) : impl_meetSels.f (k + 4) a.fl a.fh a.tl a.th a.pl a.ph a.ql a.qh a.pr b.fl b.fh b.tl b.th b.pl b.ph b.ql b.qh b.pr = some (outB (meetM a b)) := by
  have hj := fun c => q_meetSels_j0 k c b.fl b.fh b.tl b.th b.pl b.ph b.ql b.qh b.pr (crossM a b a.pr)
  simp only [crossM] at hj
  unfold impl_meetSels.f
  simp only [impl_Range_meet.f, Option.bind_some, mx_eq, mn_eq, decide_eq_true_eq, hj]
  by_cases h1 : max a.fl b.fl ≤ min a.fh b.fh
  · rw [if_pos h1]
    by_cases h2 : max a.tl b.tl ≤ min a.th b.th
    · rw [if_pos h2]
      by_cases h3 : max a.pl b.pl ≤ min a.ph b.ph
      · rw [if_pos h3]
        by_cases h4 : max a.ql b.ql ≤ min a.qh b.qh
        · rw [if_pos h4]
          have hok : okM (crossM a b 0) := ⟨h1, h2, h3, h4⟩
          by_cases h5 : prM a.pr b.pr
          · have hm : meetM a b = fitM (crossM a b (if a.pr = 0 then b.pr else a.pr)) := if_pos ⟨hok, h5⟩
            rw [hm]
            unfold prM at h5
            clear hm hj
            have hz : ∀ c : Bool, c = false → some (outB (if c = true then none else fitM (crossM a b (if a.pr = 0 then b.pr else a.pr)))) = some (outB (fitM (crossM a b (if a.pr = 0 then b.pr else a.pr)))) := by
              intro c hc
              rw [hc]
              rfl
            by_cases h6 : a.pr = 0
            · exact (if_pos h6).trans rfl
            · refine (if_neg h6).trans ?_
              by_cases h7 : b.pr = 0
              · exact (if_pos h7).trans rfl
              · refine (if_neg h7).trans ?_
                exact hz _ (by rw [show a.pr = b.pr by omega]; simp)
          · have hm : meetM a b = none := if_neg (fun e => h5 e.2)
            rw [hm]
            unfold prM at h5
            refine (if_neg (by omega)).trans ((if_neg (by omega)).trans ?_)
            have h8 : (a.pr != b.pr) = true := by simp only [bne_iff_ne, ne_eq]; omega
            rw [if_pos h8]
        · rw [if_neg h4, show meetM a b = none from if_neg (fun e => h4 e.1.2.2.2)]
          rfl
      · rw [if_neg h3, show meetM a b = none from if_neg (fun e => h3 e.1.2.2.1)]
        rfl
    · rw [if_neg h2, show meetM a b = none from if_neg (fun e => h2 e.1.2.1)]
      rfl
  · rw [if_neg h1, show meetM a b = none from if_neg (fun e => h1 e.1.1)]
    rfl
theorem ev_impl_meetSels (a b : Sl) : Ev (fun k => impl_meetSels.f k a.fl a.fh a.tl a.th a.pl a.ph a.ql a.qh a.pr b.fl b.fh b.tl b.th b.pl b.ph b.ql b.qh b.pr) (outB (meetM a b)) := by
  refine Ev.step (f := fun k => impl_meetSels.f (k + 1) a.fl a.fh a.tl a.th a.pl a.ph a.ql a.qh a.pr b.fl b.fh b.tl b.th b.pl b.ph b.ql b.qh b.pr) (fun k => rfl) ?_
  refine Ev.step (f := fun k => impl_meetSels.f (k + 2) a.fl a.fh a.tl a.th a.pl a.ph a.ql a.qh a.pr b.fl b.fh b.tl b.th b.pl b.ph b.ql b.qh b.pr) (fun k => rfl) ?_
  refine Ev.step (f := fun k => impl_meetSels.f (k + 3) a.fl a.fh a.tl a.th a.pl a.ph a.ql a.qh a.pr b.fl b.fh b.tl b.th b.pl b.ph b.ql b.qh b.pr) (fun k => rfl) ?_
  exact ev_succ (fun k => q_impl_meetSels k a b)

theorem ev_impl_SwapRules (l : List S87) (hl : l.length ≤ 1048576) (i : Int) : Ev (fun k => impl_SwapRules.f k l i) (swR l i) := by
  unfold impl_SwapRules.f swR
  refine Ev.bind (ev_impl_PolicyFault l hl) (ev_cond (fun hp => ?_) (fun _ => ev_some _))
  refine ev_opt (q_impl_in _ _ _) ?_
  by_cases h : 0 ≤ i ∧ i ≤ (l.length : Int) - 2
  · rw [if_pos h]
    simp only [w64 (x := i + 1) (by omega) (by omega)]
    refine ev_pos (decide_eq_true h) ?_
    unfold impl_SwapRules.rest
    refine ev_pos h.1 (ev_pos (by omega) (ev_pos (by omega) (ev_pos (by omega) ?_)))
    have hg : impl_SwapRules.g l i (i + 1) = some (0, (l.set i.toNat (rd_T87 l (i + 1))).set (i + 1).toNat (rd_T87 l i)) := if_pos (by omega)
    refine Ev.bind (ev_impl_meetSels (slOf (rd_T87 l i).f0) (slOf (rd_T87 l (i + 1)).f0)) ?_
    cases hm : meetM (slOf (rd_T87 l i).f0) (slOf (rd_T87 l (i + 1)).f0) with
    | none =>
      have hW : swW l i = (0, (l.set i.toNat (rd_T87 l (i + 1))).set (i + 1).toNat (rd_T87 l i)) := by
        unfold swW
        exact if_neg (by simp [hm])
      rw [hW]
      exact ev_neg (by simp [outB]) (ev_fix hg)
    | some s =>
      refine ev_pos rfl ?_
      by_cases e1 : (rd_T87 l i).f1 = (rd_T87 l (i + 1)).f1
      · refine ev_pos e1 ?_
        by_cases e2 : (rd_T87 l i).f2 = (rd_T87 l (i + 1)).f2
        · have hW : swW l i = (0, (l.set i.toNat (rd_T87 l (i + 1))).set (i + 1).toNat (rd_T87 l i)) := by
            unfold swW
            exact if_neg (fun e => e.2.elim (fun e => e e1) (fun e => e e2))
          rw [hW]
          exact ev_pos e2 (ev_fix hg)
        · have hW : swW l i = (1, []) := by
            unfold swW
            exact if_pos ⟨by simp [hm], .inr e2⟩
          rw [hW]
          exact ev_neg e2 (ev_some _)
      · have hW : swW l i = (1, []) := by
          unfold swW
          exact if_pos ⟨by simp [hm], .inl e1⟩
        rw [hW]
        exact ev_neg e1 (ev_some _)
  · rw [if_neg h]
    exact ev_neg (by simpa using h) (ev_some _)

theorem ev_impl_SampleOf (s : Sl) : Ev (fun k => impl_SampleOf.f k s.fl s.fh s.tl s.th s.pl s.ph s.ql s.qh s.pr) (sampleM s) := by
  unfold impl_SampleOf.f sampleM
  simp only [q_impl_HasPorts, Option.bind_some]
  refine Ev.bind (ev_impl_SelFault s) (ev_cond (fun h => ?_) (fun h => ev_some _))
  refine ev_cond (fun h => ev_to (ev_some _) ?_) (fun h => ev_to (ev_some _) ?_)
  · unfold impl_SampleOf.p
    rw [if_pos (by decide)]
  · unfold impl_SampleOf.p
    by_cases g : s.pr = 6 ∨ s.pr = 17
    · rw [if_pos (decide_eq_true g), if_pos (show hasP s.pr from g)]
    · rw [if_neg (by simpa using g), if_neg (show ¬ hasP s.pr from g)]

theorem ev_spec_l1Has (l : List Int) (x : Int) (hl : l.length ≤ 1048576) : Ev (fun k => spec_l1Has.f k l x) (decide (x ∈ l)) := by
  have key : ∀ i, i ≤ l.length → Ev (fun k => spec_l1Has.l0 k l x (i : Nat)) (decide (x ∈ l.drop i)) := by
    refine down l.length ?_ ?_
    · rw [List.drop_length]
      refine Ev.step (fun k => by rw [spec_l1Has.l0, if_neg (by omega)]) ?_
      exact ev_to (ev_some _) (by simp)
    · intro i hi ih
      rw [List.drop_eq_getElem_cons hi]
      refine Ev.step (fun k => by rw [spec_l1Has.l0, if_pos (by omega), if_pos (by omega), rd_nat l i hi, w64 (by omega) (by omega)]) ?_
      by_cases h : l[i] = x
      · exact ev_pos h (ev_to (ev_some _) (by simp [h]))
      · exact ev_neg h (ev_to ih (by rw [decide_eq_decide, List.mem_cons]; exact ⟨.inr, fun e => e.resolve_left (fun z => h z.symm)⟩))
  have h := key 0 (by omega)
  rw [List.drop_zero] at h
  exact h

theorem q_spec_l3In (a b c d : Int) : spec_l3In.f a b c d = some (decide (rin a b c d)) := by
  unfold spec_l3In.f rin
  by_cases h : c ≤ a
  · simp [h]
  · simp [h]
theorem q_spec_l3Within (a b : Sl) : spec_l3Within.f a.fl a.fh a.tl a.th a.pl a.ph a.ql a.qh a.pr b.fl b.fh b.tl b.th b.pl b.ph b.ql b.qh b.pr = some (decide (withinS a b)) := by
  have h7 : (b.pr == a.pr) = (a.pr == b.pr) := by rw [Bool.eq_iff_iff, beq_iff_eq, beq_iff_eq]; exact eq_comm
  unfold spec_l3Within.f withinS
  simp only [q_spec_l3In, Option.bind_some, decide_eq_true_eq, h7]
  by_cases h1 : rin a.fl a.fh b.fl b.fh <;> by_cases h2 : rin a.tl a.th b.tl b.th <;> by_cases h3 : rin a.pl a.ph b.pl b.ph <;> by_cases h4 : rin a.ql a.qh b.ql b.qh <;> by_cases h5 : b.pr = 0 <;> by_cases h6 : a.pr = b.pr <;> simp [h1, h2, h3, h4, h5, h6]

theorem ev_l4Shadowed_in (l : List S87) (hl : l.length ≤ 1048576) (i : Nat) (hi : i < l.length) (acc : List Int) (hacc : acc.length ≤ 1048576) (R : Bool → List Int) (h1 : Ev (fun k => spec_l4Shadowed.l0 k l (acc ++ [(i : Int)]) ((i + 1 : Nat) : Int)) (R true)) (h0 : Ev (fun k => spec_l4Shadowed.l0 k l acc ((i + 1 : Nat) : Int)) (R false)) :
    ∀ j, j ≤ i → Ev (fun k => spec_l4Shadowed.l1 k l acc (i : Nat) (j : Nat)) (R (((l.take i).drop j).any fun x => decide (withinS (slOf l[i].f0) (slOf x.f0)))) := by
  have hlen : (l.take i).length = i := by rw [List.length_take]; omega
  refine down i ?_ ?_
  · rw [List.drop_eq_nil_of_le (by omega)]
    refine Ev.step (fun k => by rw [spec_l4Shadowed.l1, if_neg (by omega), w64 (by omega) (by omega)]) ?_
    exact h0
  · intro j hj ih
    rw [List.drop_eq_getElem_cons (by omega : j < (l.take i).length), List.any_cons, List.getElem_take]
    refine Ev.step (fun k => by rw [spec_l4Shadowed.l1, if_pos (by omega), if_pos (by omega), if_pos (by omega), if_pos (by omega), if_pos (by omega), rdRule_nat l i hi, rdRule_nat l j (by omega), w64 (by omega) (by omega), w64 (by omega) (by omega)]) ?_
    refine ev_opt (q_spec_l3Within (slOf l[i].f0) (slOf l[j].f0)) ?_
    by_cases h : withinS (slOf l[i].f0) (slOf l[j].f0)
    · rw [decide_eq_true h, Bool.true_or]
      exact ev_pos rfl (ev_pos (by omega) h1)
    · rw [decide_eq_false h, Bool.false_or]
      exact ev_neg (by simp) ih
theorem ev_spec_l4Shadowed (l : List S87) (hl : l.length ≤ 1048576) : Ev (fun k => spec_l4Shadowed.f k l) (shL [] l 0) := by
  have key : ∀ i, i ≤ l.length → ∀ acc : List Int, acc.length ≤ i → Ev (fun k => spec_l4Shadowed.l0 k l acc (i : Nat)) (acc ++ shL (l.take i) (l.drop i) (i : Nat)) := by
    refine down l.length ?_ ?_
    · intro acc _
      rw [List.drop_length, shL, List.append_nil]
      refine Ev.step (fun k => by rw [spec_l4Shadowed.l0, if_neg (by omega)]) ?_
      exact ev_some _
    · intro i hi ih acc hacc
      refine Ev.step (fun k => by rw [spec_l4Shadowed.l0, if_pos (by omega)]) ?_
      rw [List.drop_eq_getElem_cons hi, shL, ← take_step l i hi]
      have h1 := ih (acc ++ [(i : Int)]) (by rw [List.length_append, List.length_singleton]; omega)
      have h0 := ih acc (by omega)
      have h := ev_l4Shadowed_in l hl i hi acc (by omega) (fun b => acc ++ ((if b = true then [(i : Int)] else []) ++ shL (l.take (i + 1)) (l.drop (i + 1)) ((i : Int) + 1))) (by simpa using h1) (by simpa using h0) 0 (by omega)
      rw [List.drop_zero] at h
      exact h
  have h := key 0 (by omega) [] (by simp)
  simp only [List.take_zero, List.drop_zero, List.nil_append] at h
  exact h

theorem ev_spec_TrimPolicy_loop (l : List S87) (hl : l.length ≤ 1048576) : Ev (fun k => spec_TrimPolicy.l0 k l (shL [] l 0) 0 0 []) (0, trL [] l) := by
  have hg := shL_len l [] 0
  have key : ∀ i, i ≤ l.length → ∀ acc : List S87, acc.length ≤ i → Ev (fun k => spec_TrimPolicy.l0 k l (shL [] l 0) (i : Nat) 0 acc) (0, acc ++ trL (l.take i) (l.drop i)) := by
    refine down l.length ?_ ?_
    · intro acc _
      rw [List.drop_length, trL, List.append_nil]
      refine Ev.step (fun k => by rw [spec_TrimPolicy.l0, if_neg (by omega)]) ?_
      exact ev_some _
    · intro i hi ih acc hacc
      refine Ev.step (fun k => by rw [spec_TrimPolicy.l0, if_pos (by omega), rdRule_nat l i hi, w64 (by omega) (by omega)]) ?_
      refine Ev.bind (ev_spec_l1Has _ _ (by omega)) ?_
      rw [List.drop_eq_getElem_cons hi, trL, ← take_step l i hi]
      have hm := shL_mem l [] 0 i hi
      rw [List.nil_append, Int.zero_add] at hm
      by_cases h : shR (l.take i) l[i] = true
      · refine ev_pos (by simpa using hm.mpr h) ?_
        rw [if_pos h]
        have h0 := ih acc (by omega)
        simpa using h0
      · refine ev_neg (by simpa using fun e => h (hm.mp e)) (ev_pos (by omega) (ev_pos (by omega) ?_))
        rw [if_neg h]
        have h1 := ih (acc ++ [l[i]]) (by rw [List.length_append, List.length_singleton]; omega)
        simpa using h1
  have h := key 0 (by omega) [] (by simp)
  simp only [List.take_zero, List.drop_zero, List.nil_append] at h
  exact h

theorem q_impl_Range_within (a b c d : Int) : impl_Range_within.f a b c d = some (decide (rin a b c d)) := by
  unfold impl_Range_within.f rin
  by_cases h : c ≤ a
  · simp [h]
  · simp [h]
theorem q_impl_withinSel (a b : Sl) : impl_withinSel.f a.fl a.fh a.tl a.th a.pl a.ph a.ql a.qh a.pr b.fl b.fh b.tl b.th b.pl b.ph b.ql b.qh b.pr = some (decide (withinS a b)) := by
  unfold impl_withinSel.f withinS
  simp only [q_impl_Range_within, Option.bind_some, decide_eq_true_eq]
  by_cases h1 : rin a.fl a.fh b.fl b.fh <;> by_cases h2 : rin a.tl a.th b.tl b.th <;> by_cases h3 : rin a.pl a.ph b.pl b.ph <;> by_cases h4 : rin a.ql a.qh b.ql b.qh <;> by_cases h5 : b.pr = 0 <;> by_cases h6 : a.pr = b.pr <;> simp [h1, h2, h3, h4, h5, h6]

theorem q_idxO {α : Type} (p : α → Option Bool) (P : α → Bool) (h : ∀ x, p x = some (P x)) : ∀ (l : List α) (i : Int), 0 ≤ i → ∃ r, idxO p l i = some r ∧ (0 ≤ r ↔ l.any P = true)
  | [], i, _ => ⟨-1, rfl, by simp⟩
  | x :: xs, i, hi => by
    cases hp : P x with
    | true => exact ⟨i, by rw [idxO, h, hp]; rfl, by simp [hp, hi]⟩
    | false =>
      obtain ⟨r, hr, hm⟩ := q_idxO p P h xs (i + 1) (by omega)
      exact ⟨r, by rw [idxO, h, hp]; exact hr, by simp [hp, hm]⟩
theorem q_impl_shadowed (l : List S87) (i : Nat) (h : i < l.length) : impl_shadowed.f l (i : Int) = some (shR (l.take i) l[i]) := by
  have hp : ∀ x, impl_shadowed.p l (i : Int) x = some (decide (withinS (slOf l[i].f0) (slOf x.f0))) := by
    intro x
    rw [impl_shadowed.p, rdRule_nat l i h]
    exact q_impl_withinSel (slOf l[i].f0) (slOf x.f0)
  obtain ⟨r, hr, hm⟩ := q_idxO (impl_shadowed.p l (i : Int)) _ hp (l.take i) 0 (by omega)
  rw [impl_shadowed.f, if_pos (by omega), if_pos (by omega), Int.toNat_natCast, hr, Option.bind_some]
  refine congrArg some ?_
  rw [shR, Bool.eq_iff_iff, decide_eq_true_eq]
  exact hm

theorem ev_impl_TrimPolicy_loop (l : List S87) (hl : l.length ≤ 1048576) : Ev (fun k => impl_TrimPolicy.l0 k l [] l l.length 0) (0, trL [] l) := by
  have key : ∀ i, i ≤ l.length → ∀ acc : List S87, acc.length ≤ i → Ev (fun k => impl_TrimPolicy.l0 k l acc l l.length (i : Nat)) (0, acc ++ trL (l.take i) (l.drop i)) := by
    refine down l.length ?_ ?_
    · intro acc _
      rw [List.drop_length, trL, List.append_nil]
      refine Ev.step (fun k => by rw [impl_TrimPolicy.l0, if_neg (by omega)]) ?_
      exact ev_some _
    · intro i hi ih acc hacc
      refine Ev.step (fun k => by rw [impl_TrimPolicy.l0, if_pos (by omega), if_pos (by omega), if_pos (by omega), q_impl_shadowed l i hi, Option.bind_some, rdRule_nat l i hi, w64 (by omega) (by omega)]) ?_
      rw [List.drop_eq_getElem_cons hi, trL, ← take_step l i hi]
      by_cases h : shR (l.take i) l[i] = true
      · refine ev_pos h ?_
        rw [if_pos h]
        have h0 := ih acc (by omega)
        simpa using h0
      · refine ev_neg h (ev_pos (by omega) ?_)
        rw [if_neg h]
        have h1 := ih (acc ++ [l[i]]) (by rw [List.length_append, List.length_singleton]; omega)
        simpa using h1
  have h := key 0 (by omega) [] (by simp)
  simp only [List.take_zero, List.drop_zero, List.nil_append] at h
  exact h

theorem ev_impl_ShadowedRules_loop (l : List S87) (hl : l.length ≤ 1048576) : Ev (fun k => impl_ShadowedRules.l0 k l [] l.length 0) (0, shL [] l 0) := by
  have key : ∀ i, i ≤ l.length → ∀ acc : List Int, acc.length ≤ i → Ev (fun k => impl_ShadowedRules.l0 k l acc l.length (i : Nat)) (0, acc ++ shL (l.take i) (l.drop i) (i : Nat)) := by
    refine down l.length ?_ ?_
    · intro acc _
      rw [List.drop_length, shL, List.append_nil]
      refine Ev.step (fun k => by rw [impl_ShadowedRules.l0, if_neg (by omega)]) ?_
      exact ev_some _
    · intro i hi ih acc hacc
      refine Ev.step (fun k => by rw [impl_ShadowedRules.l0, if_pos (by omega), q_impl_shadowed l i hi, Option.bind_some, w64 (by omega) (by omega)]) ?_
      rw [List.drop_eq_getElem_cons hi, shL, ← take_step l i hi]
      by_cases h : shR (l.take i) l[i] = true
      · refine ev_pos h (ev_pos (by omega) ?_)
        have h1 := ih (acc ++ [(i : Int)]) (by rw [List.length_append, List.length_singleton]; omega)
        rw [if_pos h]
        simpa using h1
      · refine ev_neg h ?_
        rw [if_neg h]
        have h0 := ih acc (by omega)
        simpa using h0
  have h := key 0 (by omega) [] (by simp)
  simp only [List.take_zero, List.drop_zero, List.nil_append] at h
  exact h

def trR (l : List S87) : Int × List S87 := if policyF l = 0 then (0, trL [] l) else (policyF l, [])
theorem ev_spec_TrimPolicyT (l : List S87) (hl : l.length ≤ 1048576) : Ev (fun k => spec_TrimPolicy.f k l) (trR l) := by
  unfold spec_TrimPolicy.f trR
  exact Ev.bind (ev_spec_PolicyFault l hl) (ev_cond (fun h => Ev.bind (ev_spec_l4Shadowed l hl) (ev_spec_TrimPolicy_loop l hl)) (fun h => ev_some _))
theorem ev_impl_TrimPolicyT (l : List S87) (hl : l.length ≤ 1048576) : Ev (fun k => impl_TrimPolicy.f k l) (trR l) := by
  unfold impl_TrimPolicy.f trR
  exact Ev.bind (ev_impl_PolicyFault l hl) (ev_cond (fun h => ev_impl_TrimPolicy_loop l hl) (fun h => ev_some _))
theorem ev_impl_ShadowedRulesT (l : List S87) (hl : l.length ≤ 1048576) (h : policyF l = 0) : Ev (fun k => impl_ShadowedRules.f k l) (0, shL [] l 0) := by
  unfold impl_ShadowedRules.f
  exact Ev.bind (ev_impl_PolicyFault l hl) (ev_pos h (ev_impl_ShadowedRules_loop l hl))
theorem ev_DrawSwapRules (l : List Int) (hl : l.length ≤ 1048576) (hb : Bytes l) : ∃ (r : List S87) (i : Int), Ev (fun k => spec_DrawSwapRules.f k l) (r, i) ∧ r.length ≤ 21 := by
  obtain ⟨r, c, hr, hrl, g1, g2⟩ := ev_l4Bent l (by omega) hb 0 (by omega) (by omega)
  obtain ⟨m, hm⟩ : ∃ m, spec_l1Max.f 1 (r.length : Int) = some m := by
    unfold spec_l1Max.f
    split <;> exact ⟨_, rfl⟩
  obtain ⟨v, hv, _⟩ := q_l1Next l (by omega) hb c m (by omega) (by omega)
  obtain ⟨u, hu, _⟩ := q_l1Pick l (by omega) hb (c + 1) [v, 0, 1, -1] (by omega) (by omega) (by simp)
  refine ⟨r, u, ?_, hrl⟩
  unfold spec_DrawSwapRules.f
  exact ev_opt (q_l1Source l) (Ev.bind hr (ev_opt hm (ev_opt hv (ev_opt hu (ev_some _)))))
def pkT (x : S71) : Pk := ⟨x.f0, x.f1, x.f2, x.f3, x.f4, x.f5, x.f6⟩
def smT (s : Sl) : S71 := ⟨(sampleM s).2.1, (sampleM s).2.2.1, (sampleM s).2.2.2.1, (sampleM s).2.2.2.2.1, (sampleM s).2.2.2.2.2.1, (sampleM s).2.2.2.2.2.2.1, (sampleM s).2.2.2.2.2.2.2⟩
theorem ev_smpT : ∀ (rs : List S87) (out : List S71), out.length + rs.length ≤ 1000 → Ev (fun k => laws_FnTrims.smp k rs out) (out ++ rs.map fun r => smT (slOf r.f0))
  | [], out, _ => by
    rw [List.map_nil, List.append_nil]
    exact ev_some _
  | r :: rs, out, h => by
    rw [List.length_cons] at h
    have ih := ev_smpT rs (out ++ [smT (slOf r.f0)]) (by rw [List.length_append, List.length_singleton]; omega)
    rw [List.append_assoc] at ih
    exact Ev.bind (ev_impl_SampleOf (slOf r.f0)) (ev_pos (by omega) ih)
theorem ev_twoT (l : List S87) (hl : l.length ≤ 1048576) (hp : policyF l = 0) (p : S71) : Ev (fun k => laws_FnTrims.two k l (trL [] l) p) () := by
  have hlen := trL_len l []
  have ht : policyF (trL [] l) = 0 := policy_of hp hlen (trL_mem l [])
  have he := frT_eq (pkT p) hp ht (trL_fnd (pkT p) l [] (fun x hx => absurd hx (by simp)))
  have h1 := ev_impl_FirstRuleT l hl (pkT p)
  have h2 := ev_impl_FirstRuleT (trL [] l) (by omega) (pkT p)
  unfold laws_FnTrims.two
  refine Ev.bind h1 (Ev.bind h2 (ev_pos ?_ (ev_some _)))
  generalize frT l (pkT p) = x at he
  generalize frT (trL [] l) (pkT p) = y at he
  obtain ⟨x0, x1, x2, x3, x4, x5, x6, x7, x8, x9, x10, x11, x12⟩ := x
  obtain ⟨y0, y1, y2, y3, y4, y5, y6, y7, y8, y9, y10, y11, y12⟩ := y
  simp only [Prod.mk.injEq] at he ⊢
  exact he
theorem ev_selT (l : List S87) (hl : l.length ≤ 1048576) (hp : policyF l = 0) (i : Int) (p : S71) : Ev (fun k => laws_FnTrims.sel k (swR l i).1 l (swR l i).2 p) () := by
  have hlen := swR_len l i
  unfold laws_FnTrims.sel
  by_cases h : (swR l i).1 = 0
  · refine ev_pos h (Ev.bind (ev_impl_ActionForT (swR l i).2 (by omega) (pkT p)) (Ev.bind (ev_impl_ActionForT l hl (pkT p)) (ev_pos (swR_act hp h (pkT p)) (ev_some _))))
  · exact ev_neg h (ev_some _)
theorem ev_chkT (l : List S87) (hl : l.length ≤ 1048576) (hp : policyF l = 0) (i : Int) : ∀ L : List S71, Ev (fun k => laws_FnTrims.chk k l (trL [] l) (swR l i).2 (swR l i).1 L) ()
  | [] => ev_some _
  | p :: ps => Ev.bind (ev_twoT l hl hp p) (Ev.bind (ev_selT l hl hp i p) (ev_chkT l hl hp i ps))
theorem FnTrims : laws_FnTrims.Pure := by
  intro l _ _ hw
  apply Ev.rounds
  unfold laws_FnTrims.f
  refine ev_opt (q_lwBig l) ?_
  by_cases h : (l.length : Int) > 1048576
  · exact ev_pos (by simpa using h) (ev_some _)
  · have hb := bytes_wf hw
    obtain ⟨r, i, hd, hrl⟩ := ev_DrawSwapRules l (by omega) hb
    refine ev_neg (by simpa using h) (Ev.bind hd ?_)
    unfold laws_FnTrims.g
    refine Ev.bind (ev_impl_TrimPolicyT r (by omega)) ?_
    have hst := ev_spec_TrimPolicyT r (by omega)
    by_cases hp : policyF r = 0
    · have e : trR r = (0, trL [] r) := if_pos hp
      rw [e] at hst ⊢
      refine ev_pos rfl ?_
      have hlen := trL_len r []
      have hsl := trL_shL r [] 0
      have ht : policyF (trL [] r) = 0 := policy_of hp hlen (trL_mem r [])
      unfold laws_FnTrims.good
      refine Ev.bind (ev_impl_SwapRules r (by omega) i) (Ev.bind (ev_spec_SwapRules r (by omega) i) (ev_pos rfl (Ev.bind (ev_impl_ShadowedRulesT r (by omega) hp) (ev_pos ?_ (Ev.bind hst (ev_pos rfl ?_))))))
      · show ((trL [] r).length : Int) = wrap64 ((r.length : Int) - ((shL [] r 0).length : Int))
        rw [w64 (by omega) (by omega)]
        omega
      · unfold laws_FnTrims.rest
        obtain ⟨r2, p, hdf, _, _⟩ := ev_DrawFirstRule ([3] ++ l) (by simp; omega) (bytes_append (bytes_one (by omega)) hb)
        refine ev_pos (by omega) (Ev.bind hdf (Ev.bind (ev_smpT r [⟨p.fr, p.to_, p.pr, p.tl, p.fp, p.tp, p.ld⟩] (by rw [List.length_singleton]; omega)) (Ev.bind (ev_chkT r (by omega) hp i _) ?_)))
        unfold laws_FnTrims.fin
        exact Ev.bind (ev_impl_PolicyFault (trL [] r) (by omega)) (ev_pos ht (ev_some _))
    · have e : trR r = (policyF r, []) := if_neg hp
      rw [e] at hst ⊢
      refine ev_neg hp ?_
      unfold laws_FnTrims.bad
      exact Ev.bind hst (ev_pos rfl (ev_some _))

end Go.Proofs.Ytcelgjhhmkgnhaa.Pure
