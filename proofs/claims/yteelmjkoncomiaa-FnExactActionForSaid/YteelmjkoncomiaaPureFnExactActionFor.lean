/- Proved: the law FnExactActionFor answers true at every input that Go can hand in (it says: The program's ActionFor returns what the reference's returns, for all arguments.) No condition beyond the statement's own. -/
import Derived.Test.YteelmjkoncomiaaStFnExactActionFor
namespace Go.Proofs.Yteelmjkoncomiaa.Pure
open Go.RowKit Go.Proofs.Yteelmjkoncomiaa.PFnExactActionFor Go.Proofs.YteelmjkoncomiaaW.PrintWords Go.Proofs.YteelmjkoncomiaaW.PrintLast Go.Proofs.YteelmjkoncomiaaW.PrintMore
set_option linter.unusedVariables false
set_option linter.unusedSimpArgs false

theorem w64 {x : Int} (h0 : -9223372036854775808 ≤ x) (h1 : x ≤ 9223372036854775807) : wrap64 x = x := by
  unfold wrap64
  omega
theorem tmod_pos {a b : Int} (h : 0 ≤ a) : Int.tmod a b = a % b := Int.tmod_eq_emod_of_nonneg h
theorem tdiv_pos {a b : Int} (h : 0 ≤ a) : Int.tdiv a b = a / b := Int.tdiv_eq_ediv_of_nonneg h
theorem ev_some {α : Type} (r : α) : Ev (fun _ => some r) r := Ev.now r
theorem ev_pos {α : Type} {c : Prop} [Decidable c] {A B : Nat → Option α} {r : α} (h : c) (e : Ev A r) : Ev (fun k => if c then A k else B k) r := by
  simpa only [if_pos h] using e
theorem ev_neg {α : Type} {c : Prop} [Decidable c] {A B : Nat → Option α} {r : α} (h : ¬ c) (e : Ev B r) : Ev (fun k => if c then A k else B k) r := by
  simpa only [if_neg h] using e
theorem ev_opt {α β : Type} {o : Option α} {f : Nat → α → Option β} {a : α} {r : β} (h : o = some a) (e : Ev (fun n => f n a) r) : Ev (fun n => o.bind (f n)) r := by
  simpa only [h, Option.bind_some] using e
theorem ev_to {α : Type} {g : Nat → Option α} {r r' : α} (e : Ev g r) (h : r = r') : Ev g r' := h ▸ e
theorem ev_fix {α : Type} {o : Option α} {r : α} (h : o = some r) : Ev (fun _ => o) r := ⟨0, fun _ _ => h⟩
theorem rd_nat (l : List Int) (i : Nat) (h : i < l.length) : rd l (i : Int) = l[i] := by
  unfold rd
  simp [List.getD_eq_getElem?_getD, h]
theorem rd_mem (l : List Int) (i : Int) (h0 : 0 ≤ i) (h : i < l.length) : rd l i ∈ l := by
  obtain ⟨n, rfl⟩ := Int.eq_ofNat_of_zero_le h0
  rw [rd_nat l n (by omega)]
  exact List.getElem_mem _
theorem u8_range {x : Int} (h : (Lit.int .u8 x).wf = true) : 0 ≤ x ∧ x ≤ 255 := by
  simp [Lit.wf, IntKind.min, IntKind.max, IntKind.signed, IntKind.bits] at h
  omega
theorem i64_range {x : Int} (h : (Lit.int .i64 x).wf = true) : -9223372036854775808 ≤ x ∧ x ≤ 9223372036854775807 := by
  simp [Lit.wf, IntKind.min, IntKind.max, IntKind.signed, IntKind.bits] at h
  omega
theorem set_mid {α : Type} (a : List α) (x : α) (b : List α) (y : α) : (a ++ x :: b).set a.length y = a ++ y :: b := by simp
theorem take_full {α : Type} {a b : List α} (hl : b.length = a.length) (ht : b.take a.length = a.take a.length) : b = a := by
  rw [List.take_of_length_le (by omega), List.take_of_length_le (by omega)] at ht
  exact ht
theorem take_next {α : Type} {a b : List α} {i : Nat} (ha : i < a.length) (hb : i < b.length) (ht : b.take i = a.take i) (hx : b[i] = a[i]) : b.take (i + 1) = a.take (i + 1) := by
  rw [List.take_succ_eq_append_getElem ha, List.take_succ_eq_append_getElem hb, ht, hx]
theorem ev_cond {α : Type} {c : Prop} [Decidable c] {A B : Nat → Option α} {r r' : α} (hp : c → Ev A r) (hn : ¬ c → Ev B r') : Ev (fun k => if c then A k else B k) (if c then r else r') := by
  by_cases h : c
  · rw [if_pos h]; exact ev_pos h (hp h)
  · rw [if_neg h]; exact ev_neg h (hn h)
theorem set_take {α : Type} {a b : List α} {i : Nat} {x : α} (h : i < a.length) (hl : b.length = a.length) (ht : b.take i = a.take i) (hx : x = a[i]) : (b.set i x).take (i + 1) = a.take (i + 1) := by
  refine take_next h (by simp; omega) ?_ (by simp [hx])
  rw [← ht]
  apply List.ext_getElem?
  intro j
  simp only [List.getElem?_take, List.getElem?_set]
  by_cases hj : j < i
  · rw [if_pos hj, if_pos hj, if_neg (by omega)]
  · rw [if_neg hj, if_neg hj]
theorem ev_succ {α : Type} {g : Nat → Option α} {r : α} (h : ∀ k, g (k + 1) = some r) : Ev g r := Ev.step h (ev_some r)
theorem down {P : Nat → Prop} (n : Nat) (hend : P n) (hstep : ∀ i, i < n → P (i + 1) → P i) : ∀ i, i ≤ n → P i := by
  intro i hi
  obtain ⟨d, hd⟩ : ∃ d, i + d = n := ⟨n - i, by omega⟩
  induction d generalizing i with
  | zero =>
    obtain rfl : i = n := by omega
    exact hend
  | succ d ih => exact hstep i (by omega) (ih (i + 1) (by omega) (by omega))
theorem getD_nat {α : Type} (l : List α) (z : α) (i : Nat) (h : i < l.length) : l.getD (i : Int).toNat z = l[i] := by
  simp [List.getD_eq_getElem?_getD, h]
/-- A loop that writes the image of each element into its place. -/
theorem map_loop {α β : Type} (F : Nat → List β → Int → Option (List β)) (l : List α) (c : α → β)
    (hend : ∀ k (b : List β), F (k + 1) b l.length = some b) (hstep : ∀ k (b : List β) (i : Nat) (h : i < l.length), b.length = l.length → F (k + 1) b i = F k (b.set i (c l[i])) ((i + 1 : Nat) : Int)) :
    ∀ (b : List β), b.length = l.length → Ev (fun k => F k b 0) (l.map c) := by
  have key : ∀ (i : Nat), i ≤ l.length → ∀ (b : List β), b.length = l.length → b.take i = (l.map c).take i → Ev (fun k => F k b i) (l.map c) := by
    refine down l.length ?_ ?_
    · intro b hl ht
      refine Ev.step (fun k => hend k b) ?_
      rw [take_full (a := l.map c) (b := b) (by simpa using hl) (by simpa using ht)]
      exact ev_some _
    · intro i hi ih b hl ht
      refine Ev.step (fun k => hstep k b i hi hl) (ih _ (by simpa using hl) ?_)
      exact set_take (by simpa using hi) (by simpa using hl) ht (by simp)
  intro b hl
  exact key 0 (by omega) b hl (by simp)
/-- A loop that goes through all places and answers r. -/
theorem count_loop {ρ : Type} (F : Nat → Int → Option ρ) (n : Nat) (r : ρ) (hend : ∀ k, F (k + 1) n = some r) (hstep : ∀ k (i : Nat), i < n → F (k + 1) i = F k ((i + 1 : Nat) : Int)) : Ev (fun k => F k 0) r := by
  have key : ∀ i, i ≤ n → Ev (fun k => F k (i : Nat)) r := down n (Ev.step hend (ev_some r)) (fun i hi ih => Ev.step (fun k => hstep k i hi) ih)
  exact key 0 (by omega)

structure Sl where
  fl : Int
  fh : Int
  tl : Int
  th : Int
  pl : Int
  ph : Int
  ql : Int
  qh : Int
  pr : Int
def rok (lo hi most : Int) : Prop := 0 ≤ lo ∧ lo ≤ hi ∧ hi ≤ most
instance (lo hi most : Int) : Decidable (rok lo hi most) := by unfold rok; infer_instance
def selOk (s : Sl) : Prop := rok s.fl s.fh 4294967295 ∧ rok s.tl s.th 4294967295 ∧ rok s.pl s.ph 65535 ∧ rok s.ql s.qh 65535 ∧ 0 ≤ s.pr ∧ s.pr ≤ 255
instance (s : Sl) : Decidable (selOk s) := by unfold selOk; infer_instance
def hasP (p : Int) : Prop := p = 6 ∨ p = 17
instance (p : Int) : Decidable (hasP p) := by unfold hasP; infer_instance
def selPorts (s : Sl) : Prop := s.pr = 0 ∨ hasP s.pr ∨ (s.pl = 0 ∧ s.ph = 65535 ∧ s.ql = 0 ∧ s.qh = 65535)
instance (s : Sl) : Decidable (selPorts s) := by unfold selPorts; infer_instance
def selF (s : Sl) : Int := if selOk s then (if selPorts s then 0 else 1) else 3

def slOf (x : S52) : Sl := ⟨x.f0.f0, x.f0.f1, x.f1.f0, x.f1.f1, x.f2.f0, x.f2.f1, x.f3.f0, x.f3.f1, x.f4⟩

structure Pk where
  fr : Int
  to_ : Int
  pr : Int
  tl : Int
  fp : Int
  tp : Int
  ld : List Int
def pktOk (p : Pk) : Prop := (0 ≤ p.fr ∧ p.fr ≤ 4294967295) ∧ (0 ≤ p.to_ ∧ p.to_ ≤ 4294967295) ∧ (1 ≤ p.pr ∧ p.pr ≤ 255) ∧ (1 ≤ p.tl ∧ p.tl ≤ 255) ∧ (0 ≤ p.fp ∧ p.fp ≤ 65535) ∧ (0 ≤ p.tp ∧ p.tp ≤ 65535)
instance (p : Pk) : Decidable (pktOk p) := by unfold pktOk; infer_instance
def pktPorts (p : Pk) : Prop := hasP p.pr ∨ (p.fp = 0 ∧ p.tp = 0)
instance (p : Pk) : Decidable (pktPorts p) := by unfold pktPorts; infer_instance
def pktF (p : Pk) : Int := if pktOk p then (if pktPorts p then (if 200 < p.ld.length then 2 else 0) else 1) else 3
theorem ev_succ2 {α : Type} {g : Nat → Option α} {r : α} (h : ∀ k, g (k + 2) = some r) : Ev g r := Ev.step (f := fun k => g (k + 1)) (fun k => rfl) (ev_succ h)

def holdsS (s : Sl) (p : Pk) : Prop := (s.fl ≤ p.fr ∧ p.fr ≤ s.fh) ∧ (s.tl ≤ p.to_ ∧ p.to_ ≤ s.th) ∧ (s.pl ≤ p.fp ∧ p.fp ≤ s.ph) ∧ (s.ql ≤ p.tp ∧ p.tp ≤ s.qh) ∧ (s.pr = 0 ∨ s.pr = p.pr)
instance (s : Sl) (p : Pk) : Decidable (holdsS s p) := by unfold holdsS; infer_instance
def holdsF (s : Sl) (p : Pk) : Prop := selF s = 0 ∧ pktF p = 0 ∧ holdsS s p
instance (s : Sl) (p : Pk) : Decidable (holdsF s p) := by unfold holdsF; infer_instance

def fstR : List S96 → Pk → Int → Int
  | [], _, _ => -1
  | x :: xs, p, i => if holdsS (slOf x.f0) p then i else fstR xs p (i + 1)
theorem fstR_lt : ∀ (l : List S96) (p : Pk) (i : Int), fstR l p i < i + l.length ∧ (fstR l p i < 0 ∨ i ≤ fstR l p i) ∨ fstR l p i = -1
  | [], _, _ => .inr rfl
  | x :: xs, p, i => by
    rw [fstR]
    by_cases h : holdsS (slOf x.f0) p
    · rw [if_pos h]
      refine .inl ⟨?_, .inr (by omega)⟩
      simp
      omega
    · rw [if_neg h]
      rcases fstR_lt xs p (i + 1) with ⟨h1, h2⟩ | h1
      · refine .inl ⟨?_, ?_⟩
        · simp
          omega
        · omega
      · exact .inr h1
theorem fstR_lt0 (l : List S96) (p : Pk) (h : ¬ fstR l p 0 < 0) : 0 ≤ fstR l p 0 ∧ fstR l p 0 < (l.length : Int) := by
  rcases fstR_lt l p 0 with ⟨h1, h2⟩ | h1 <;> omega

theorem q_spec_l1In (a b c : Int) : spec_l1In.f a b c = some (decide (b ≤ a ∧ a ≤ c)) := by
  unfold spec_l1In.f
  by_cases h : b ≤ a
  · simp [h]
  · simp [h]

theorem q_spec_l3Holds (s : Sl) (p : Pk) : spec_l3Holds.f s.fl s.fh s.tl s.th s.pl s.ph s.ql s.qh s.pr p.fr p.to_ p.pr p.tl p.fp p.tp p.ld = some (decide (holdsS s p)) := by
  unfold spec_l3Holds.f spec_l3Has.f
  simp only [q_spec_l1In, Option.bind_some, decide_eq_true_eq]
  unfold holdsS
  by_cases h1 : s.fl ≤ p.fr ∧ p.fr ≤ s.fh <;> by_cases h2 : s.tl ≤ p.to_ ∧ p.to_ ≤ s.th <;> by_cases h3 : s.pl ≤ p.fp ∧ p.fp ≤ s.ph <;> by_cases h4 : s.ql ≤ p.tp ∧ p.tp ≤ s.qh <;> by_cases h5 : s.pr = 0 <;> by_cases h6 : s.pr = p.pr <;> simp [h1, h2, h3, h4, h5, h6]

theorem rdRule_nat (l : List S96) (i : Nat) (h : i < l.length) : rd_T96 l i = l[i] := getD_nat l _ i h

theorem ev_spec_l4First (l : List S96) (hl : l.length ≤ 1048576) (p : Pk) : Ev (fun k => spec_l4First.f k l p.fr p.to_ p.pr p.tl p.fp p.tp p.ld) (fstR l p 0) := by
  have key : ∀ i, i ≤ l.length → Ev (fun k => spec_l4First.l0 k l (i : Nat) p.fr p.to_ p.pr p.tl p.fp p.tp p.ld) (fstR (l.drop i) p (i : Nat)) := by
    refine down l.length ?_ ?_
    · rw [List.drop_length]
      refine Ev.step (fun k => by rw [spec_l4First.l0, if_neg (by omega)]) ?_
      exact ev_some _
    · intro i hi ih
      rw [List.drop_eq_getElem_cons hi, fstR]
      refine Ev.step (fun k => by rw [spec_l4First.l0, if_pos (by omega), if_pos (by omega), rdRule_nat l i hi, w64 (by omega) (by omega)]) ?_
      refine ev_opt (q_spec_l3Holds (slOf l[i].f0) p) ?_
      by_cases h : holdsS (slOf l[i].f0) p
      · rw [if_pos h]
        exact ev_pos (by simpa using h) (ev_some _)
      · rw [if_neg h]
        exact ev_neg (by simpa using h) ih
  exact key 0 (by omega)

def ruleF (x : S96) : Int := if selF (slOf x.f0) = 0 then (if 1 ≤ x.f1 ∧ x.f1 ≤ 3 then (if (x.f1 = 3 ∧ 1 ≤ x.f2 ∧ x.f2 ≤ 9) ∨ (x.f1 ≠ 3 ∧ x.f2 = 0) then 0 else 1) else 3) else selF (slOf x.f0)
def scanRule : List S96 → Int
  | [] => 0
  | x :: xs => if ruleF x = 0 then scanRule xs else ruleF x
def policyF (l : List S96) : Int := if 20 < l.length then 2 else scanRule l

theorem q_spec_HasPorts (a : Int) : spec_HasPorts.f a = some (decide (a = 6 ∨ a = 17)) := by
  unfold spec_HasPorts.f
  by_cases h : a = 6
  · simp [h]
  · by_cases g : a = 17
    · simp [g]
    · simp [h, g]
theorem q_impl_HasPorts (a : Int) : impl_HasPorts.f a = some (decide (a = 6 ∨ a = 17)) := by
  unfold impl_HasPorts.f
  by_cases h : a = 6
  · simp [h]
  · by_cases g : a = 17
    · simp [g]
    · simp [h, g]

theorem q_spec_l3Range (lo hi m : Int) : spec_l3Range.f lo hi m = some (decide (rok lo hi m)) := by
  unfold spec_l3Range.f rok
  by_cases h : 0 ≤ lo
  · by_cases g : lo ≤ hi
    · simp [h, g]
    · simp [h, g]
  · simp [h]
theorem q_spec_SelFault_j0 (k : Nat) (b : Bool) (s : Sl) : spec_SelFault.j0 (k + 1) b s.fl s.fh s.tl s.th s.pl s.ph s.ql s.qh s.pr = some (if b = true then 3 else if selPorts s then 0 else 1) := by
  rw [spec_SelFault.j0]
  simp only [q_spec_HasPorts, spec_l3All.f, Option.bind_some, decide_eq_true_eq]
  unfold selPorts hasP
  cases b
  · by_cases h1 : s.pr = 0
    · simp [h1]
    · by_cases h2 : s.pr = 6 ∨ s.pr = 17
      · simp [h1, h2]
      · by_cases h3 : s.pl = 0 <;> by_cases h4 : s.ph = 65535 <;> by_cases h5 : s.ql = 0 <;> by_cases h6 : s.qh = 65535 <;> simp [h1, h2, h3, h4, h5, h6]
  · simp
theorem q_spec_SelFault (k : Nat) (s : Sl) : spec_SelFault.f (k + 1) s.fl s.fh s.tl s.th s.pl s.ph s.ql s.qh s.pr = some (selF s) := by
  unfold spec_SelFault.f
  simp only [q_spec_l3Range, q_spec_l1In, q_spec_SelFault_j0, Option.bind_some, decide_eq_true_eq]
  unfold selF selOk
  by_cases h1 : rok s.fl s.fh 4294967295 <;> by_cases h2 : rok s.tl s.th 4294967295 <;> by_cases h3 : rok s.pl s.ph 65535 <;> by_cases h4 : rok s.ql s.qh 65535 <;> by_cases h5 : 0 ≤ s.pr ∧ s.pr ≤ 255 <;> simp [h1, h2, h3, h4, h5]
theorem ev_spec_SelFault (s : Sl) : Ev (fun k => spec_SelFault.f k s.fl s.fh s.tl s.th s.pl s.ph s.ql s.qh s.pr) (selF s) := ev_succ (fun k => q_spec_SelFault k s)

theorem ev_spec_PolicyFault_loop (l : List S96) (hl : l.length ≤ 1048576) : ∀ i, i ≤ l.length → Ev (fun k => spec_PolicyFault.l0 k l i) (scanRule (l.drop i)) := by
  refine down l.length ?_ ?_
  · rw [List.drop_length]
    refine Ev.step (fun k => by rw [spec_PolicyFault.l0, if_neg (by omega)]) ?_
    exact ev_some _
  · intro i hi ih
    rw [List.drop_eq_getElem_cons hi, scanRule]
    refine Ev.step (fun k => by rw [spec_PolicyFault.l0, if_pos (by omega), if_pos (by omega), rdRule_nat l i hi, w64 (by omega) (by omega)]) ?_
    refine Ev.bind (ev_spec_SelFault (slOf l[i].f0)) ?_
    have hr : ruleF l[i] = if selF (slOf l[i].f0) = 0 then (if 1 ≤ l[i].f1 ∧ l[i].f1 ≤ 3 then (if (l[i].f1 = 3 ∧ 1 ≤ l[i].f2 ∧ l[i].f2 ≤ 9) ∨ (l[i].f1 ≠ 3 ∧ l[i].f2 = 0) then 0 else 1) else 3) else selF (slOf l[i].f0) := rfl
    generalize hx : l[i] = x at *
    by_cases h : selF (slOf x.f0) = 0
    · refine ev_pos h (ev_opt (q_spec_l1In _ _ _) ?_)
      rw [if_pos h] at hr
      by_cases h1 : 1 ≤ x.f1 ∧ x.f1 ≤ 3
      · refine ev_pos (by simpa using h1) ?_
        rw [if_pos h1] at hr
        by_cases h3 : x.f1 = 3
        · refine ev_pos h3 (ev_opt (q_spec_l1In _ _ _) ?_)
          by_cases h4 : 1 ≤ x.f2 ∧ x.f2 ≤ 9
          · rw [if_pos (.inl ⟨h3, h4⟩)] at hr
            rw [if_pos hr]
            exact ev_pos (by simpa using h4) ih
          · rw [if_neg (by omega)] at hr
            rw [if_neg (by omega), hr]
            exact ev_neg (by simpa using h4) (ev_some _)
        · refine ev_neg h3 ?_
          by_cases h4 : x.f2 = 0
          · rw [if_pos (.inr ⟨h3, h4⟩)] at hr
            rw [if_pos hr]
            exact ev_pos h4 ih
          · rw [if_neg (by omega)] at hr
            rw [if_neg (by omega), hr]
            exact ev_neg h4 (ev_some _)
      · rw [if_neg h1] at hr
        rw [if_neg (by omega), hr]
        exact ev_neg (by simpa using h1) (ev_some _)
    · rw [if_neg h] at hr
      rw [hr, if_neg h]
      exact ev_neg h (ev_some _)
theorem ev_spec_PolicyFault (l : List S96) (hl : l.length ≤ 1048576) : Ev (fun k => spec_PolicyFault.f k l) (policyF l) := by
  unfold spec_PolicyFault.f policyF
  by_cases h1 : (l.length : Int) > 20
  · rw [if_pos (by omega)]
    exact ev_pos h1 (ev_some _)
  · rw [if_neg (by omega)]
    exact ev_neg h1 (ev_spec_PolicyFault_loop l hl 0 (by omega))

theorem q_spec_PacketFault_j1 (k : Nat) (b : Bool) (p : Pk) : spec_PacketFault.j1 (k + 1) b p.fr p.to_ p.pr p.tl p.fp p.tp p.ld = some (if b = true then 1 else if 200 < p.ld.length then 2 else 0) := by
  rw [spec_PacketFault.j1]
  cases b
  · by_cases h : 200 < p.ld.length
    · simp [h]
      omega
    · simp [h]
      omega
  · simp
theorem q_spec_PacketFault_j0 (k : Nat) (b : Bool) (p : Pk) : spec_PacketFault.j0 (k + 2) b p.fr p.to_ p.pr p.tl p.fp p.tp p.ld = some (if b = true then 3 else if pktPorts p then (if 200 < p.ld.length then 2 else 0) else 1) := by
  rw [spec_PacketFault.j0]
  simp only [q_spec_HasPorts, q_spec_PacketFault_j1, Option.bind_some, decide_eq_true_eq]
  unfold pktPorts hasP
  cases b
  · by_cases h2 : p.pr = 6 ∨ p.pr = 17
    · simp [h2]
    · by_cases h3 : p.fp = 0 <;> by_cases h4 : p.tp = 0 <;> simp [h2, h3, h4]
  · simp
theorem q_spec_PacketFault (k : Nat) (p : Pk) : spec_PacketFault.f (k + 2) p.fr p.to_ p.pr p.tl p.fp p.tp p.ld = some (pktF p) := by
  unfold spec_PacketFault.f spec_l2Address.f spec_l2Port.f
  simp only [q_spec_l1In, q_spec_PacketFault_j0, Option.bind_some, decide_eq_true_eq]
  unfold pktF pktOk
  by_cases h1 : 0 ≤ p.fr ∧ p.fr ≤ 4294967295 <;> by_cases h2 : 0 ≤ p.to_ ∧ p.to_ ≤ 4294967295 <;> by_cases h3 : 1 ≤ p.pr ∧ p.pr ≤ 255 <;> by_cases h4 : 1 ≤ p.tl ∧ p.tl ≤ 255 <;> by_cases h5 : 0 ≤ p.fp ∧ p.fp ≤ 65535 <;> by_cases h6 : 0 ≤ p.tp ∧ p.tp ≤ 65535 <;> simp [h1, h2, h3, h4, h5, h6]
theorem ev_spec_PacketFault (p : Pk) : Ev (fun k => spec_PacketFault.f k p.fr p.to_ p.pr p.tl p.fp p.tp p.ld) (pktF p) := ev_succ2 (fun k => q_spec_PacketFault k p)

def askF (l : List S96) (p : Pk) : Int := if policyF l = 0 then pktF p else policyF l
theorem ev_spec_l4Asked (l : List S96) (hl : l.length ≤ 1048576) (p : Pk) : Ev (fun k => spec_l4Asked.f k l p.fr p.to_ p.pr p.tl p.fp p.tp p.ld) (askF l p) := by
  unfold spec_l4Asked.f askF
  refine Ev.bind (ev_spec_PolicyFault l hl) ?_
  by_cases h : policyF l = 0
  · rw [if_pos h]
    exact ev_pos h (Ev.bind (ev_spec_PacketFault p) (ev_some _))
  · rw [if_neg h]
    exact ev_neg h (ev_some _)

theorem q_impl_in (a b c : Int) : impl_in.f a b c = some (decide (b ≤ a ∧ a ≤ c)) := by
  unfold impl_in.f
  by_cases h : b ≤ a
  · simp [h]
  · simp [h]

theorem q_impl_holds (s : Sl) (p : Pk) : impl_holds.f s.fl s.fh s.tl s.th s.pl s.ph s.ql s.qh s.pr p.fr p.to_ p.pr p.tl p.fp p.tp p.ld = some (decide (holdsS s p)) := by
  unfold impl_holds.f impl_Range_has.f
  simp only [q_impl_in, Option.bind_some, decide_eq_true_eq]
  unfold holdsS
  by_cases h1 : s.fl ≤ p.fr ∧ p.fr ≤ s.fh <;> by_cases h2 : s.tl ≤ p.to_ ∧ p.to_ ≤ s.th <;> by_cases h3 : s.pl ≤ p.fp ∧ p.fp ≤ s.ph <;> by_cases h4 : s.ql ≤ p.tp ∧ p.tp ≤ s.qh <;> by_cases h5 : s.pr = 0 <;> by_cases h6 : s.pr = p.pr <;> simp [h1, h2, h3, h4, h5, h6]

theorem q_impl_firstRule_go (p : Pk) : ∀ (l : List S96) (i : Int), idxO (fun x => impl_holds.f x.f0.f0.f0 x.f0.f0.f1 x.f0.f1.f0 x.f0.f1.f1 x.f0.f2.f0 x.f0.f2.f1 x.f0.f3.f0 x.f0.f3.f1 x.f0.f4 p.fr p.to_ p.pr p.tl p.fp p.tp p.ld) l i = some (fstR l p i)
  | [], _ => rfl
  | x :: xs, i => by
    rw [idxO, show impl_holds.f x.f0.f0.f0 x.f0.f0.f1 x.f0.f1.f0 x.f0.f1.f1 x.f0.f2.f0 x.f0.f2.f1 x.f0.f3.f0 x.f0.f3.f1 x.f0.f4 p.fr p.to_ p.pr p.tl p.fp p.tp p.ld = some (decide (holdsS (slOf x.f0) p)) from q_impl_holds (slOf x.f0) p, Option.bind_some, fstR]
    by_cases h : holdsS (slOf x.f0) p
    · rw [if_pos h, if_pos (by simpa using h)]
    · rw [if_neg h, if_neg (by simpa using h)]
      exact q_impl_firstRule_go p xs (i + 1)
theorem q_impl_firstRule (l : List S96) (p : Pk) : impl_firstRule.f l p.fr p.to_ p.pr p.tl p.fp p.tp p.ld = some (fstR l p 0) := q_impl_firstRule_go p l 0

theorem q_impl_Range_ok (lo hi m : Int) : impl_Range_ok.f lo hi m = some (decide (rok lo hi m)) := by
  unfold impl_Range_ok.f
  simp only [q_impl_in, Option.bind_some, decide_eq_true_eq]
  by_cases hr : rok lo hi m
  · rw [decide_eq_true hr]
    unfold rok at hr
    rw [if_pos (by omega), if_pos (by omega), decide_eq_true (by omega)]
  · rw [decide_eq_false hr]
    unfold rok at hr
    by_cases h : 0 ≤ lo ∧ lo ≤ m
    · by_cases g : 0 ≤ hi ∧ hi ≤ m
      · rw [if_pos h, if_pos g, decide_eq_false (by omega)]
      · rw [if_pos h, if_neg g]
    · rw [if_neg h]
theorem q_impl_SelFault_j0 (k : Nat) (b : Bool) (s : Sl) : impl_SelFault.j0 (k + 1) b s.fl s.fh s.tl s.th s.pl s.ph s.ql s.qh s.pr = some (if b = true then 3 else if selPorts s then 0 else 1) := by
  rw [impl_SelFault.j0]
  simp only [q_impl_HasPorts, impl_whole.f, Option.bind_some, decide_eq_true_eq]
  unfold selPorts hasP
  cases b
  · by_cases h1 : s.pr = 0
    · simp [h1]
    · by_cases h2 : s.pr = 6 ∨ s.pr = 17
      · simp [h1, h2]
      · by_cases h3 : s.pl = 0 <;> by_cases h4 : s.ph = 65535 <;> by_cases h5 : s.ql = 0 <;> by_cases h6 : s.qh = 65535 <;> simp [h1, h2, h3, h4, h5, h6]
  · simp
theorem q_impl_SelFault (k : Nat) (s : Sl) : impl_SelFault.f (k + 1) s.fl s.fh s.tl s.th s.pl s.ph s.ql s.qh s.pr = some (selF s) := by
  unfold impl_SelFault.f
  simp only [q_impl_Range_ok, q_impl_in, q_impl_SelFault_j0, Option.bind_some, decide_eq_true_eq]
  unfold selF selOk
  by_cases h1 : rok s.fl s.fh 4294967295 <;> by_cases h2 : rok s.tl s.th 4294967295 <;> by_cases h3 : rok s.pl s.ph 65535 <;> by_cases h4 : rok s.ql s.qh 65535 <;> by_cases h5 : 0 ≤ s.pr ∧ s.pr ≤ 255 <;> simp [h1, h2, h3, h4, h5]
theorem ev_impl_SelFault (s : Sl) : Ev (fun k => impl_SelFault.f k s.fl s.fh s.tl s.th s.pl s.ph s.ql s.qh s.pr) (selF s) := ev_succ (fun k => q_impl_SelFault k s)

theorem ev_impl_PolicyFault_loop (l : List S96) (hl : l.length ≤ 1048576) : ∀ i, i ≤ l.length → Ev (fun k => impl_PolicyFault.l0 k l l.length i) (scanRule (l.drop i)) := by
  refine down l.length ?_ ?_
  · rw [List.drop_length]
    refine Ev.step (fun k => by rw [impl_PolicyFault.l0, if_neg (by omega)]) ?_
    exact ev_some _
  · intro i hi ih
    rw [List.drop_eq_getElem_cons hi, scanRule]
    refine Ev.step (fun k => by rw [impl_PolicyFault.l0, if_pos (by omega), if_pos (by omega), if_pos (by omega), rdRule_nat l i hi, w64 (by omega) (by omega)]) ?_
    refine Ev.bind (ev_impl_SelFault (slOf l[i].f0)) ?_
    have hr : ruleF l[i] = if selF (slOf l[i].f0) = 0 then (if 1 ≤ l[i].f1 ∧ l[i].f1 ≤ 3 then (if (l[i].f1 = 3 ∧ 1 ≤ l[i].f2 ∧ l[i].f2 ≤ 9) ∨ (l[i].f1 ≠ 3 ∧ l[i].f2 = 0) then 0 else 1) else 3) else selF (slOf l[i].f0) := rfl
    generalize hx : l[i] = x at *
    by_cases h : selF (slOf x.f0) = 0
    · refine ev_pos h (ev_opt (q_impl_in _ _ _) ?_)
      rw [if_pos h] at hr
      by_cases h1 : 1 ≤ x.f1 ∧ x.f1 ≤ 3
      · refine ev_pos (by simpa using h1) ?_
        rw [if_pos h1] at hr
        by_cases h3 : x.f1 = 3
        · refine ev_pos h3 (ev_opt (by rw [impl_isPeer.f, q_impl_in]; rfl) ?_)
          by_cases h4 : 1 ≤ x.f2 ∧ x.f2 ≤ 9
          · rw [if_pos (.inl ⟨h3, h4⟩)] at hr
            rw [if_pos hr]
            exact ev_pos (by simpa using h4) ih
          · rw [if_neg (by omega)] at hr
            rw [if_neg (by omega), hr]
            exact ev_neg (by simpa using h4) (ev_some _)
        · refine ev_neg h3 ?_
          by_cases h4 : x.f2 = 0
          · rw [if_pos (.inr ⟨h3, h4⟩)] at hr
            rw [if_pos hr]
            exact ev_pos h4 ih
          · rw [if_neg (by omega)] at hr
            rw [if_neg (by omega), hr]
            exact ev_neg h4 (ev_some _)
      · rw [if_neg h1] at hr
        rw [if_neg (by omega), hr]
        exact ev_neg (by simpa using h1) (ev_some _)
    · rw [if_neg h] at hr
      rw [hr, if_neg h]
      exact ev_neg h (ev_some _)
theorem ev_impl_PolicyFault (l : List S96) (hl : l.length ≤ 1048576) : Ev (fun k => impl_PolicyFault.f k l) (policyF l) := by
  unfold impl_PolicyFault.f policyF
  by_cases h1 : (l.length : Int) > 20
  · rw [if_pos (by omega)]
    exact ev_pos h1 (ev_some _)
  · rw [if_neg (by omega)]
    exact ev_neg h1 (ev_impl_PolicyFault_loop l hl 0 (by omega))

theorem q_impl_PacketFault_j1 (k : Nat) (b : Bool) (p : Pk) : impl_PacketFault.j1 (k + 1) b p.fr p.to_ p.pr p.tl p.fp p.tp p.ld = some (if b = true then 1 else if 200 < p.ld.length then 2 else 0) := by
  rw [impl_PacketFault.j1]
  cases b
  · by_cases h : 200 < p.ld.length
    · simp [h]
      omega
    · simp [h]
      omega
  · simp
theorem q_impl_PacketFault_j0 (k : Nat) (b : Bool) (p : Pk) : impl_PacketFault.j0 (k + 2) b p.fr p.to_ p.pr p.tl p.fp p.tp p.ld = some (if b = true then 3 else if pktPorts p then (if 200 < p.ld.length then 2 else 0) else 1) := by
  rw [impl_PacketFault.j0]
  simp only [q_impl_HasPorts, q_impl_PacketFault_j1, Option.bind_some, decide_eq_true_eq]
  unfold pktPorts hasP
  cases b
  · by_cases h2 : p.pr = 6 ∨ p.pr = 17
    · simp [h2]
    · by_cases h3 : p.fp = 0 <;> by_cases h4 : p.tp = 0 <;> simp [h2, h3, h4]
  · simp
theorem q_impl_PacketFault (k : Nat) (p : Pk) : impl_PacketFault.f (k + 2) p.fr p.to_ p.pr p.tl p.fp p.tp p.ld = some (pktF p) := by
  unfold impl_PacketFault.f impl_isAddress.f impl_isPort.f
  simp only [q_impl_in, q_impl_PacketFault_j0, Option.bind_some, decide_eq_true_eq]
  unfold pktF pktOk
  by_cases h1 : 0 ≤ p.fr ∧ p.fr ≤ 4294967295 <;> by_cases h2 : 0 ≤ p.to_ ∧ p.to_ ≤ 4294967295 <;> by_cases h3 : 1 ≤ p.pr ∧ p.pr ≤ 255 <;> by_cases h4 : 1 ≤ p.tl ∧ p.tl ≤ 255 <;> by_cases h5 : 0 ≤ p.fp ∧ p.fp ≤ 65535 <;> by_cases h6 : 0 ≤ p.tp ∧ p.tp ≤ 65535 <;> simp [h1, h2, h3, h4, h5, h6]
theorem ev_impl_PacketFault (p : Pk) : Ev (fun k => impl_PacketFault.f k p.fr p.to_ p.pr p.tl p.fp p.tp p.ld) (pktF p) := ev_succ2 (fun k => q_impl_PacketFault k p)

def firstF : List Int → Int
  | [] => 0
  | x :: xs => if x = 0 then firstF xs else x
theorem ev_impl_faultOf_loop (l : List Int) (hl : l.length ≤ 1000000) : ∀ (d i : Nat), i + d = l.length → Ev (fun k => impl_faultOf.l0 k l l.length i) (firstF (l.drop i)) := by
  intro d
  induction d with
  | zero =>
    intro i hi
    obtain rfl : i = l.length := by omega
    rw [List.drop_length]
    refine Ev.step (fun k => by rw [impl_faultOf.l0, if_neg (by omega)]) ?_
    exact ev_some _
  | succ d ih =>
    intro i hi
    have hr := rd_nat l i (by omega)
    rw [List.drop_eq_getElem_cons (by omega : i < l.length), firstF, ← hr]
    by_cases h : rd l i = 0
    · refine Ev.step (fun k => by rw [impl_faultOf.l0, if_pos (by omega), if_pos (by omega), if_pos (by omega), if_pos h]) ?_
      rw [w64 (by omega) (by omega), if_pos h]
      exact ih (i + 1) (by omega)
    · refine Ev.step (fun k => by rw [impl_faultOf.l0, if_pos (by omega), if_pos (by omega), if_pos (by omega), if_neg h]) ?_
      rw [if_neg h]
      exact ev_some _
theorem ev_impl_faultOf (l : List Int) (hl : l.length ≤ 1000000) : Ev (fun k => impl_faultOf.f k l) (firstF l) := ev_impl_faultOf_loop l hl l.length 0 (by omega)
theorem ev_faultOf2 (a b : Int) : Ev (fun k => impl_faultOf.f k [a, b]) (if a = 0 then b else a) := by
  refine ev_to (ev_impl_faultOf [a, b] (by simp)) ?_
  simp only [firstF]
  by_cases h : a = 0
  · rw [if_pos h, if_pos h]
    split
    · rename_i hb; exact hb.symm
    · rfl
  · rw [if_neg h, if_neg h]

def afOf (l : List S96) (p : Pk) : Int × Int :=
  if askF l p = 0 then (if fstR l p 0 < 0 then (0, 1) else (0, (rd_T96 l (fstR l p 0)).f1)) else (askF l p, 0)
theorem ev_spec_ActionFor (l : List S96) (hl : l.length ≤ 1048576) (p : Pk) : Ev (fun k => spec_ActionFor.f k l p.fr p.to_ p.pr p.tl p.fp p.tp p.ld) (afOf l p) := by
  unfold spec_ActionFor.f afOf
  refine Ev.bind (ev_spec_l4Asked l hl p) ?_
  refine ev_cond (fun h => Ev.bind (ev_spec_l4First l hl p) (ev_cond (fun g => ev_some _) (fun g => ?_))) (fun h => ev_some _)
  have := fstR_lt0 l p g
  exact ev_pos this.1 (ev_pos this.2 (ev_some _))
theorem q_impl_actionFor (l : List S96) (p : Pk) : impl_actionFor.f l p.fr p.to_ p.pr p.tl p.fp p.tp p.ld = some (if fstR l p 0 < 0 then 1 else (rd_T96 l (fstR l p 0)).f1) := by
  unfold impl_actionFor.f
  rw [q_impl_firstRule, Option.bind_some]
  by_cases g : fstR l p 0 < 0
  · rw [if_pos g]
    simp only [show ¬ (fstR l p 0 ≥ 0) by omega, show ¬ (0 ≤ fstR l p 0) by omega, if_false]
  · rw [if_neg g]
    have := fstR_lt0 l p g
    simp only [show (fstR l p 0 ≥ 0) by omega, this.1, this.2, if_true]
theorem ev_impl_ActionFor (l : List S96) (hl : l.length ≤ 1048576) (p : Pk) : Ev (fun k => impl_ActionFor.f k l p.fr p.to_ p.pr p.tl p.fp p.tp p.ld) (afOf l p) := by
  unfold impl_ActionFor.f afOf
  refine Ev.bind (ev_impl_PolicyFault l hl) (Ev.bind (ev_impl_PacketFault p) (Ev.bind (ev_faultOf2 _ _) ?_))
  change Ev (fun k => if askF l p = 0 then _ else some (askF l p, 0)) _
  refine ev_cond (fun h => ev_opt (q_impl_actionFor l p) ?_) (fun h => ev_some _)
  exact ev_to (ev_some _) (by split <;> rfl)

theorem q_szRuleS {l : List S133} (h : l.length ≤ 1048576) : laws_szRuleS.f l 1048576 = some (1048576 - (l.length : Int)) := by
  unfold laws_szRuleS.f
  rw [w64 (by omega) (by omega), if_neg (by omega)]
theorem q_szRuleS_big {l : List S133} (h : ¬ l.length ≤ 1048576) (hm : l.length ≤ maxLen) : laws_szRuleS.f l 1048576 = some (-1) := by
  unfold laws_szRuleS.f
  unfold maxLen at hm
  rw [w64 (by omega) (by omega), if_pos (by omega)]

theorem rdLRule_nat (l : List S133) (i : Nat) (h : i < l.length) : rd_T133 l i = l[i] := getD_nat l _ i h

theorem q_toSel (a b c d e f g h i : Int) : laws_toSel.f a b c d e f g h i = some (a, b, c, d, e, f, g, h, i) := rfl

def cvRule (x : S133) : S96 := ⟨⟨⟨x.f0.f0.f0, x.f0.f0.f1⟩, ⟨x.f0.f1.f0, x.f0.f1.f1⟩, ⟨x.f0.f2.f0, x.f0.f2.f1⟩, ⟨x.f0.f3.f0, x.f0.f3.f1⟩, x.f0.f4⟩, x.f1, x.f2⟩
theorem q_toRule (a b c d e f g h i j m : Int) : laws_toRule.f a b c d e f g h i j m = some (a, b, c, d, e, f, g, h, i, j, m) := rfl
theorem ev_toRuleS {l : List S133} (hn : l.length ≤ 1048576) : Ev (fun k => laws_toRuleS.f k l) (l.map cvRule) := by
  unfold laws_toRuleS.f
  refine ev_pos (by omega) (ev_pos (by omega) ?_)
  refine map_loop (fun k b i => laws_toRuleS.l0 k l b i) l cvRule ?_ ?_ _ (by simp)
  · intro k b
    rw [laws_toRuleS.l0, if_neg (by omega)]
  · intro k b i h hb
    rw [laws_toRuleS.l0, if_pos (by omega), if_pos (by omega), q_toRule, Option.bind_some, if_pos (by omega), w64 (by omega) (by omega), rdLRule_nat l i h, Int.toNat_natCast]
    rfl

theorem q_eqRule (a b c d e f g h i j m : Int) : laws_eqRule.f a b c d e f g h i j m a b c d e f g h i j m = some true := by
  simp [laws_eqRule.f, laws_eqSel.f, laws_eqRange.f]
theorem ev_eqRuleS {l : List S96} (hn : l.length ≤ 1048576) : Ev (fun k => laws_eqRuleS.f k l l) true := by
  unfold laws_eqRuleS.f
  refine ev_pos rfl ?_
  refine count_loop (fun k i => laws_eqRuleS.l0 k l l i) l.length true ?_ ?_
  · intro k
    rw [laws_eqRuleS.l0, if_neg (by omega)]
  · intro k i h
    rw [laws_eqRuleS.l0, if_pos (by omega), if_pos (by omega), if_pos (by omega), q_eqRule, Option.bind_some, if_pos rfl, w64 (by omega) (by omega)]
    rfl

theorem q_szPacketAt (a b c d e f : Int) {l : List Int} {t : Int} (ht : 0 ≤ t ∧ t ≤ 1048576) (h : (l.length : Int) ≤ t) : laws_szPacket.f a b c d e f l t = some (t - (l.length : Int)) := by
  unfold laws_szPacket.f laws_szByteS.f
  rw [w64 (by omega) (by omega), if_neg (by omega), Option.bind_some, if_neg (by omega)]
theorem q_szPacketAt_big (a b c d e f : Int) {l : List Int} {t : Int} (ht : 0 ≤ t ∧ t ≤ 1048576) (h : ¬ (l.length : Int) ≤ t) (hm : l.length ≤ maxLen) : laws_szPacket.f a b c d e f l t = some (-1) := by
  unfold laws_szPacket.f laws_szByteS.f
  unfold maxLen at hm
  rw [w64 (by omega) (by omega), if_pos (by omega), Option.bind_some, if_pos (by omega)]

theorem ev_toByteS_loop (a : List Int) (hn : a.length ≤ 140737488355328) : ∀ (d i : Nat) (b : List Int), i + d = a.length → b.length = a.length → b.take i = a.take i → Ev (fun k => laws_toByteS.l0 k a b i) a := by
  intro d
  induction d with
  | zero =>
    intro i b hi hl ht
    refine Ev.step (fun k => by rw [laws_toByteS.l0, if_neg (by omega)]) ?_
    obtain rfl : i = a.length := by omega
    rw [take_full hl ht]
    exact ev_some a
  | succ d ih =>
    intro i b hi hl ht
    refine Ev.step (fun k => by rw [laws_toByteS.l0, if_pos (by omega), if_pos (by omega), if_pos (by omega)]) ?_
    rw [w64 (by omega) (by omega), Int.toNat_natCast]
    exact ih (i + 1) _ (by omega) (by simpa using hl) (set_take (by omega) hl ht (rd_nat a i (by omega)))
theorem ev_toByteS {a : List Int} (hn : a.length ≤ 140737488355328) : Ev (fun k => laws_toByteS.f k a) a := by
  unfold laws_toByteS.f
  refine ev_pos (by omega) (ev_pos (by omega) ?_)
  exact ev_toByteS_loop a hn a.length 0 _ (by omega) (by simp) (by simp)

theorem ev_toPacket (a b c d e f : Int) {l : List Int} (h : l.length ≤ 1048576) : Ev (fun k => laws_toPacket.f k a b c d e f l) (a, b, c, d, e, f, l) := by
  unfold laws_toPacket.f
  exact Ev.bind (ev_toByteS (by omega)) (ev_some _)

theorem ev_eqByteS_loop (a b : List Int) (hn : a.length ≤ 140737488355328) (hl : b.length = a.length) : ∀ (d i : Nat), i + d = a.length → b.take i = a.take i → Ev (fun k => laws_eqByteS.l0 k a b i) (decide (a = b)) := by
  intro d
  induction d with
  | zero =>
    intro i hi ht
    refine Ev.step (fun k => by rw [laws_eqByteS.l0, if_neg (by omega)]) ?_
    obtain rfl : i = a.length := by omega
    rw [take_full hl ht]
    simpa using ev_some true
  | succ d ih =>
    intro i hi ht
    by_cases he : rd a i = rd b i
    · refine Ev.step (fun k => by rw [laws_eqByteS.l0, if_pos (by omega), if_pos (by omega), if_pos (by omega), if_pos he]) ?_
      rw [w64 (by omega) (by omega)]
      rw [rd_nat a i (by omega), rd_nat b i (by omega)] at he
      exact ih (i + 1) (by omega) (take_next (by omega) (by omega) ht he.symm)
    · refine Ev.step (fun k => by rw [laws_eqByteS.l0, if_pos (by omega), if_pos (by omega), if_pos (by omega), if_neg he]) ?_
      have : a ≠ b := fun h => he (by rw [h])
      simpa [this] using ev_some false
theorem ev_eqByteS {a b : List Int} (hn : a.length ≤ 140737488355328) : Ev (fun k => laws_eqByteS.f k a b) (decide (a = b)) := by
  unfold laws_eqByteS.f
  by_cases h : (a.length : Int) = b.length
  · exact ev_pos h (ev_eqByteS_loop a b hn (by omega) a.length 0 (by omega) (by simp))
  · refine ev_neg h ?_
    have : a ≠ b := fun h' => h (by rw [h'])
    simpa [this] using ev_some false
theorem ev_eqByteS_refl {a : List Int} (hn : a.length ≤ 140737488355328) : Ev (fun k => laws_eqByteS.f k a a) true := by
  simpa using ev_eqByteS (b := a) hn

theorem ev_eqPacket (a b c d e f : Int) {l : List Int} (h : l.length ≤ 1048576) : Ev (fun k => laws_eqPacket.f k a b c d e f l a b c d e f l) true := by
  unfold laws_eqPacket.f
  refine ev_pos rfl (ev_pos rfl (ev_pos rfl (ev_pos rfl (ev_pos rfl (ev_pos rfl ?_)))))
  exact Ev.bind (ev_eqByteS_refl (by omega)) (ev_pos rfl (ev_some _))

theorem q_eqIntResult (q r : Int) : laws_eqIntResult.f q r q r = some true := by
  simp [laws_eqIntResult.f]
theorem FnExactActionFor : laws_FnExactActionFor.Pure := by
  intro l a b c d e f y
  intro hm
  intros
  rename_i hmy _
  apply Ev.rounds
  unfold laws_FnExactActionFor.f
  by_cases h : l.length ≤ 1048576
  · have hc : (l.map cvRule).length ≤ 1048576 := by simpa using h
    refine ev_opt (q_szRuleS h) (ev_neg (by omega) ?_)
    by_cases hy : (y.length : Int) ≤ 1048576 - (l.length : Int)
    · have hy' : y.length ≤ 1048576 := by omega
      refine ev_opt (q_szPacketAt a b c d e f (by omega) hy) (ev_neg (by omega) ?_)
      refine Ev.bind (ev_toRuleS h) (Ev.bind (ev_toPacket a b c d e f hy') (Ev.bind (ev_spec_ActionFor _ hc ⟨a, b, c, d, e, f, y⟩) (Ev.bind (ev_toRuleS h) (Ev.bind (ev_toPacket a b c d e f hy') (Ev.bind (ev_impl_ActionFor _ hc ⟨a, b, c, d, e, f, y⟩) ?_)))))
      refine ev_opt (q_eqIntResult _ _) (ev_pos rfl ?_)
      refine Ev.bind (ev_toRuleS h) (Ev.bind (ev_eqRuleS hc) (ev_pos rfl ?_))
      exact Ev.bind (ev_toPacket a b c d e f hy') (Ev.bind (ev_eqPacket a b c d e f hy') (ev_pos rfl (ev_some _)))
    · exact ev_opt (q_szPacketAt_big a b c d e f (by omega) hy hmy) (ev_pos (by omega) (ev_some _))
  · exact ev_opt (q_szRuleS_big h hm) (ev_pos (by omega) (ev_some _))

end Go.Proofs.Yteelmjkoncomiaa.Pure
