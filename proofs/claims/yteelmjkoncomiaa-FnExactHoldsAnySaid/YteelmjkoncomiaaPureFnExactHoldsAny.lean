/- Proved: the law FnExactHoldsAny answers true at every input that Go can hand in (it says: The program's HoldsAny returns what the reference's returns, for all arguments.) No condition beyond the statement's own. -/
import Derived.Test.YteelmjkoncomiaaStFnExactHoldsAny
namespace Go.Proofs.Yteelmjkoncomiaa.Pure
open Go.RowKit Go.Proofs.Yteelmjkoncomiaa.PFnExactHoldsAny Go.Proofs.YteelmjkoncomiaaW.PrintWords Go.Proofs.YteelmjkoncomiaaW.PrintLast Go.Proofs.YteelmjkoncomiaaW.PrintMore
set_option linter.unusedVariables false
set_option linter.unusedSimpArgs false

theorem w64 {x : Int} (h0 : -9223372036854775808 ≤ x) (h1 : x ≤ 9223372036854775807) : wrap64 x = x := by
  unfold wrap64
  omega
theorem tmod_pos {a b : Int} (h : 0 ≤ a) : Int.tmod a b = a % b := Int.tmod_eq_emod_of_nonneg h
theorem tdiv_pos {a b : Int} (h : 0 ≤ a) : Int.tdiv a b = a / b := Int.tdiv_eq_ediv_of_nonneg h
theorem ev_some {α : Type} (r : α) : Ev (fun _ => some r) r := Ev.now r
theorem ev_pos {α : Type} {c : Prop} [Decidable c] {A B : Nat → Option α} {r : α} (h : c) (e : Ev A r) : Ev (fun k => if c then A k else B k) r := by
  simpa only [if_pos h] using e
theorem ev_neg {α : Type} {c : Prop} [Decidable c] {A B : Nat → Option α} {r : α} (h : ¬ c) (e : Ev B r) : Ev (fun k => if c then A k else B k) r := by
  simpa only [if_neg h] using e
theorem ev_opt {α β : Type} {o : Option α} {f : Nat → α → Option β} {a : α} {r : β} (h : o = some a) (e : Ev (fun n => f n a) r) : Ev (fun n => o.bind (f n)) r := by
  simpa only [h, Option.bind_some] using e
theorem ev_to {α : Type} {g : Nat → Option α} {r r' : α} (e : Ev g r) (h : r = r') : Ev g r' := h ▸ e
theorem ev_fix {α : Type} {o : Option α} {r : α} (h : o = some r) : Ev (fun _ => o) r := ⟨0, fun _ _ => h⟩
theorem rd_nat (l : List Int) (i : Nat) (h : i < l.length) : rd l (i : Int) = l[i] := by
  unfold rd
  simp [List.getD_eq_getElem?_getD, h]
theorem rd_mem (l : List Int) (i : Int) (h0 : 0 ≤ i) (h : i < l.length) : rd l i ∈ l := by
  obtain ⟨n, rfl⟩ := Int.eq_ofNat_of_zero_le h0
  rw [rd_nat l n (by omega)]
  exact List.getElem_mem _
theorem u8_range {x : Int} (h : (Lit.int .u8 x).wf = true) : 0 ≤ x ∧ x ≤ 255 := by
  simp [Lit.wf, IntKind.min, IntKind.max, IntKind.signed, IntKind.bits] at h
  omega
theorem i64_range {x : Int} (h : (Lit.int .i64 x).wf = true) : -9223372036854775808 ≤ x ∧ x ≤ 9223372036854775807 := by
  simp [Lit.wf, IntKind.min, IntKind.max, IntKind.signed, IntKind.bits] at h
  omega
theorem set_mid {α : Type} (a : List α) (x : α) (b : List α) (y : α) : (a ++ x :: b).set a.length y = a ++ y :: b := by simp
theorem take_full {α : Type} {a b : List α} (hl : b.length = a.length) (ht : b.take a.length = a.take a.length) : b = a := by
  rw [List.take_of_length_le (by omega), List.take_of_length_le (by omega)] at ht
  exact ht
theorem take_next {α : Type} {a b : List α} {i : Nat} (ha : i < a.length) (hb : i < b.length) (ht : b.take i = a.take i) (hx : b[i] = a[i]) : b.take (i + 1) = a.take (i + 1) := by
  rw [List.take_succ_eq_append_getElem ha, List.take_succ_eq_append_getElem hb, ht, hx]
theorem ev_cond {α : Type} {c : Prop} [Decidable c] {A B : Nat → Option α} {r r' : α} (hp : c → Ev A r) (hn : ¬ c → Ev B r') : Ev (fun k => if c then A k else B k) (if c then r else r') := by
  by_cases h : c
  · rw [if_pos h]; exact ev_pos h (hp h)
  · rw [if_neg h]; exact ev_neg h (hn h)
theorem set_take {α : Type} {a b : List α} {i : Nat} {x : α} (h : i < a.length) (hl : b.length = a.length) (ht : b.take i = a.take i) (hx : x = a[i]) : (b.set i x).take (i + 1) = a.take (i + 1) := by
  refine take_next h (by simp; omega) ?_ (by simp [hx])
  rw [← ht]
  apply List.ext_getElem?
  intro j
  simp only [List.getElem?_take, List.getElem?_set]
  by_cases hj : j < i
  · rw [if_pos hj, if_pos hj, if_neg (by omega)]
  · rw [if_neg hj, if_neg hj]
theorem ev_succ {α : Type} {g : Nat → Option α} {r : α} (h : ∀ k, g (k + 1) = some r) : Ev g r := Ev.step h (ev_some r)
theorem down {P : Nat → Prop} (n : Nat) (hend : P n) (hstep : ∀ i, i < n → P (i + 1) → P i) : ∀ i, i ≤ n → P i := by
  intro i hi
  obtain ⟨d, hd⟩ : ∃ d, i + d = n := ⟨n - i, by omega⟩
  induction d generalizing i with
  | zero =>
    obtain rfl : i = n := by omega
    exact hend
  | succ d ih => exact hstep i (by omega) (ih (i + 1) (by omega) (by omega))
theorem getD_nat {α : Type} (l : List α) (z : α) (i : Nat) (h : i < l.length) : l.getD (i : Int).toNat z = l[i] := by
  simp [List.getD_eq_getElem?_getD, h]
/-- A loop that writes the image of each element into its place. -/
theorem map_loop {α β : Type} (F : Nat → List β → Int → Option (List β)) (l : List α) (c : α → β)
    (hend : ∀ k (b : List β), F (k + 1) b l.length = some b) (hstep : ∀ k (b : List β) (i : Nat) (h : i < l.length), b.length = l.length → F (k + 1) b i = F k (b.set i (c l[i])) ((i + 1 : Nat) : Int)) :
    ∀ (b : List β), b.length = l.length → Ev (fun k => F k b 0) (l.map c) := by
  have key : ∀ (i : Nat), i ≤ l.length → ∀ (b : List β), b.length = l.length → b.take i = (l.map c).take i → Ev (fun k => F k b i) (l.map c) := by
    refine down l.length ?_ ?_
    · intro b hl ht
      refine Ev.step (fun k => hend k b) ?_
      rw [take_full (a := l.map c) (b := b) (by simpa using hl) (by simpa using ht)]
      exact ev_some _
    · intro i hi ih b hl ht
      refine Ev.step (fun k => hstep k b i hi hl) (ih _ (by simpa using hl) ?_)
      exact set_take (by simpa using hi) (by simpa using hl) ht (by simp)
  intro b hl
  exact key 0 (by omega) b hl (by simp)
/-- A loop that goes through all places and answers r. -/
theorem count_loop {ρ : Type} (F : Nat → Int → Option ρ) (n : Nat) (r : ρ) (hend : ∀ k, F (k + 1) n = some r) (hstep : ∀ k (i : Nat), i < n → F (k + 1) i = F k ((i + 1 : Nat) : Int)) : Ev (fun k => F k 0) r := by
  have key : ∀ i, i ≤ n → Ev (fun k => F k (i : Nat)) r := down n (Ev.step hend (ev_some r)) (fun i hi ih => Ev.step (fun k => hstep k i hi) ih)
  exact key 0 (by omega)

structure Sl where
  fl : Int
  fh : Int
  tl : Int
  th : Int
  pl : Int
  ph : Int
  ql : Int
  qh : Int
  pr : Int
def rok (lo hi most : Int) : Prop := 0 ≤ lo ∧ lo ≤ hi ∧ hi ≤ most
instance (lo hi most : Int) : Decidable (rok lo hi most) := by unfold rok; infer_instance
def selOk (s : Sl) : Prop := rok s.fl s.fh 4294967295 ∧ rok s.tl s.th 4294967295 ∧ rok s.pl s.ph 65535 ∧ rok s.ql s.qh 65535 ∧ 0 ≤ s.pr ∧ s.pr ≤ 255
instance (s : Sl) : Decidable (selOk s) := by unfold selOk; infer_instance
def hasP (p : Int) : Prop := p = 6 ∨ p = 17
instance (p : Int) : Decidable (hasP p) := by unfold hasP; infer_instance
def selPorts (s : Sl) : Prop := s.pr = 0 ∨ hasP s.pr ∨ (s.pl = 0 ∧ s.ph = 65535 ∧ s.ql = 0 ∧ s.qh = 65535)
instance (s : Sl) : Decidable (selPorts s) := by unfold selPorts; infer_instance
def selF (s : Sl) : Int := if selOk s then (if selPorts s then 0 else 1) else 3

def slOf (x : S52) : Sl := ⟨x.f0.f0, x.f0.f1, x.f1.f0, x.f1.f1, x.f2.f0, x.f2.f1, x.f3.f0, x.f3.f1, x.f4⟩

def scanSel : List S52 → Int
  | [] => 0
  | x :: xs => if selF (slOf x) = 0 then scanSel xs else selF (slOf x)
def selsF (l : List S52) : Int := if l.length < 1 ∨ 12 < l.length then 2 else scanSel l

theorem q_spec_HasPorts (a : Int) : spec_HasPorts.f a = some (decide (a = 6 ∨ a = 17)) := by
  unfold spec_HasPorts.f
  by_cases h : a = 6
  · simp [h]
  · by_cases g : a = 17
    · simp [g]
    · simp [h, g]
theorem q_impl_HasPorts (a : Int) : impl_HasPorts.f a = some (decide (a = 6 ∨ a = 17)) := by
  unfold impl_HasPorts.f
  by_cases h : a = 6
  · simp [h]
  · by_cases g : a = 17
    · simp [g]
    · simp [h, g]

theorem q_spec_l1In (a b c : Int) : spec_l1In.f a b c = some (decide (b ≤ a ∧ a ≤ c)) := by
  unfold spec_l1In.f
  by_cases h : b ≤ a
  · simp [h]
  · simp [h]

theorem q_spec_l3Range (lo hi m : Int) : spec_l3Range.f lo hi m = some (decide (rok lo hi m)) := by
  unfold spec_l3Range.f rok
  by_cases h : 0 ≤ lo
  · by_cases g : lo ≤ hi
    · simp [h, g]
    · simp [h, g]
  · simp [h]
theorem q_spec_SelFault_j0 (k : Nat) (b : Bool) (s : Sl) : spec_SelFault.j0 (k + 1) b s.fl s.fh s.tl s.th s.pl s.ph s.ql s.qh s.pr = some (if b = true then 3 else if selPorts s then 0 else 1) := by
  rw [spec_SelFault.j0]
  simp only [q_spec_HasPorts, spec_l3All.f, Option.bind_some, decide_eq_true_eq]
  unfold selPorts hasP
  cases b
  · by_cases h1 : s.pr = 0
    · simp [h1]
    · by_cases h2 : s.pr = 6 ∨ s.pr = 17
      · simp [h1, h2]
      · by_cases h3 : s.pl = 0 <;> by_cases h4 : s.ph = 65535 <;> by_cases h5 : s.ql = 0 <;> by_cases h6 : s.qh = 65535 <;> simp [h1, h2, h3, h4, h5, h6]
  · simp
theorem q_spec_SelFault (k : Nat) (s : Sl) : spec_SelFault.f (k + 1) s.fl s.fh s.tl s.th s.pl s.ph s.ql s.qh s.pr = some (selF s) := by
  unfold spec_SelFault.f
  simp only [q_spec_l3Range, q_spec_l1In, q_spec_SelFault_j0, Option.bind_some, decide_eq_true_eq]
  unfold selF selOk
  by_cases h1 : rok s.fl s.fh 4294967295 <;> by_cases h2 : rok s.tl s.th 4294967295 <;> by_cases h3 : rok s.pl s.ph 65535 <;> by_cases h4 : rok s.ql s.qh 65535 <;> by_cases h5 : 0 ≤ s.pr ∧ s.pr ≤ 255 <;> simp [h1, h2, h3, h4, h5]
theorem ev_spec_SelFault (s : Sl) : Ev (fun k => spec_SelFault.f k s.fl s.fh s.tl s.th s.pl s.ph s.ql s.qh s.pr) (selF s) := ev_succ (fun k => q_spec_SelFault k s)

theorem rdSel_nat (l : List S52) (i : Nat) (h : i < l.length) : rd_T52 l i = l[i] := getD_nat l _ i h

theorem ev_spec_SelsFault_loop (l : List S52) (hl : l.length ≤ 1048576) : ∀ i, i ≤ l.length → Ev (fun k => spec_SelsFault.l0 k l i) (scanSel (l.drop i)) := by
  refine down l.length ?_ ?_
  · rw [List.drop_length]
    refine Ev.step (fun k => by rw [spec_SelsFault.l0, if_neg (by omega)]) ?_
    exact ev_some _
  · intro i hi ih
    rw [List.drop_eq_getElem_cons hi, scanSel]
    refine Ev.step (fun k => by rw [spec_SelsFault.l0, if_pos (by omega), if_pos (by omega), rdSel_nat l i hi, w64 (by omega) (by omega)]) ?_
    refine Ev.bind (ev_spec_SelFault (slOf l[i])) ?_
    by_cases h : selF (slOf l[i]) = 0
    · rw [if_pos h]
      exact ev_pos h ih
    · rw [if_neg h]
      exact ev_neg h (ev_some _)
theorem ev_spec_SelsFault (l : List S52) (hl : l.length ≤ 1048576) : Ev (fun k => spec_SelsFault.f k l) (selsF l) := by
  unfold spec_SelsFault.f selsF
  by_cases h1 : (l.length : Int) < 1
  · refine ev_pos h1 ?_
    rw [if_pos (by omega)]
    exact ev_succ (fun k => by rw [spec_SelsFault.j0, if_pos rfl])
  · refine ev_neg h1 ?_
    by_cases h2 : (l.length : Int) > 12
    · rw [if_pos (by omega), decide_eq_true h2]
      exact ev_succ (fun k => by rw [spec_SelsFault.j0, if_pos rfl])
    · rw [if_neg (by omega), decide_eq_false h2]
      refine Ev.step (fun k => by rw [spec_SelsFault.j0, if_neg (by simp)]) ?_
      exact ev_spec_SelsFault_loop l hl 0 (by omega)

theorem q_impl_in (a b c : Int) : impl_in.f a b c = some (decide (b ≤ a ∧ a ≤ c)) := by
  unfold impl_in.f
  by_cases h : b ≤ a
  · simp [h]
  · simp [h]

theorem q_impl_Range_ok (lo hi m : Int) : impl_Range_ok.f lo hi m = some (decide (rok lo hi m)) := by
  unfold impl_Range_ok.f
  simp only [q_impl_in, Option.bind_some, decide_eq_true_eq]
  by_cases hr : rok lo hi m
  · rw [decide_eq_true hr]
    unfold rok at hr
    rw [if_pos (by omega), if_pos (by omega), decide_eq_true (by omega)]
  · rw [decide_eq_false hr]
    unfold rok at hr
    by_cases h : 0 ≤ lo ∧ lo ≤ m
    · by_cases g : 0 ≤ hi ∧ hi ≤ m
      · rw [if_pos h, if_pos g, decide_eq_false (by omega)]
      · rw [if_pos h, if_neg g]
    · rw [if_neg h]
theorem q_impl_SelFault_j0 (k : Nat) (b : Bool) (s : Sl) : impl_SelFault.j0 (k + 1) b s.fl s.fh s.tl s.th s.pl s.ph s.ql s.qh s.pr = some (if b = true then 3 else if selPorts s then 0 else 1) := by
  rw [impl_SelFault.j0]
  simp only [q_impl_HasPorts, impl_whole.f, Option.bind_some, decide_eq_true_eq]
  unfold selPorts hasP
  cases b
  · by_cases h1 : s.pr = 0
    · simp [h1]
    · by_cases h2 : s.pr = 6 ∨ s.pr = 17
      · simp [h1, h2]
      · by_cases h3 : s.pl = 0 <;> by_cases h4 : s.ph = 65535 <;> by_cases h5 : s.ql = 0 <;> by_cases h6 : s.qh = 65535 <;> simp [h1, h2, h3, h4, h5, h6]
  · simp
theorem q_impl_SelFault (k : Nat) (s : Sl) : impl_SelFault.f (k + 1) s.fl s.fh s.tl s.th s.pl s.ph s.ql s.qh s.pr = some (selF s) := by
  unfold impl_SelFault.f
  simp only [q_impl_Range_ok, q_impl_in, q_impl_SelFault_j0, Option.bind_some, decide_eq_true_eq]
  unfold selF selOk
  by_cases h1 : rok s.fl s.fh 4294967295 <;> by_cases h2 : rok s.tl s.th 4294967295 <;> by_cases h3 : rok s.pl s.ph 65535 <;> by_cases h4 : rok s.ql s.qh 65535 <;> by_cases h5 : 0 ≤ s.pr ∧ s.pr ≤ 255 <;> simp [h1, h2, h3, h4, h5]
theorem ev_impl_SelFault (s : Sl) : Ev (fun k => impl_SelFault.f k s.fl s.fh s.tl s.th s.pl s.ph s.ql s.qh s.pr) (selF s) := ev_succ (fun k => q_impl_SelFault k s)

theorem ev_impl_SelsFault_loop (l : List S52) (hl : l.length ≤ 1048576) : ∀ i, i ≤ l.length → Ev (fun k => impl_SelsFault.l0 k l l.length i) (scanSel (l.drop i)) := by
  refine down l.length ?_ ?_
  · rw [List.drop_length]
    refine Ev.step (fun k => by rw [impl_SelsFault.l0, if_neg (by omega)]) ?_
    exact ev_some _
  · intro i hi ih
    rw [List.drop_eq_getElem_cons hi, scanSel]
    refine Ev.step (fun k => by rw [impl_SelsFault.l0, if_pos (by omega), if_pos (by omega), if_pos (by omega), rdSel_nat l i hi, w64 (by omega) (by omega)]) ?_
    refine Ev.bind (ev_impl_SelFault (slOf l[i])) ?_
    by_cases h : selF (slOf l[i]) = 0
    · rw [if_pos h]
      exact ev_pos h ih
    · rw [if_neg h]
      exact ev_neg h (ev_some _)
theorem ev_impl_SelsFault (l : List S52) (hl : l.length ≤ 1048576) : Ev (fun k => impl_SelsFault.f k l) (selsF l) := by
  unfold impl_SelsFault.f selsF
  refine ev_opt (q_impl_in _ _ _) ?_
  by_cases h : 1 ≤ (l.length : Int) ∧ (l.length : Int) ≤ 12
  · rw [if_neg (by omega)]
    exact ev_pos (by simpa using h) (ev_impl_SelsFault_loop l hl 0 (by omega))
  · rw [if_pos (by omega)]
    exact ev_neg (by simpa using h) (ev_some _)

structure Pk where
  fr : Int
  to_ : Int
  pr : Int
  tl : Int
  fp : Int
  tp : Int
  ld : List Int
def pktOk (p : Pk) : Prop := (0 ≤ p.fr ∧ p.fr ≤ 4294967295) ∧ (0 ≤ p.to_ ∧ p.to_ ≤ 4294967295) ∧ (1 ≤ p.pr ∧ p.pr ≤ 255) ∧ (1 ≤ p.tl ∧ p.tl ≤ 255) ∧ (0 ≤ p.fp ∧ p.fp ≤ 65535) ∧ (0 ≤ p.tp ∧ p.tp ≤ 65535)
instance (p : Pk) : Decidable (pktOk p) := by unfold pktOk; infer_instance
def pktPorts (p : Pk) : Prop := hasP p.pr ∨ (p.fp = 0 ∧ p.tp = 0)
instance (p : Pk) : Decidable (pktPorts p) := by unfold pktPorts; infer_instance
def pktF (p : Pk) : Int := if pktOk p then (if pktPorts p then (if 200 < p.ld.length then 2 else 0) else 1) else 3
theorem ev_succ2 {α : Type} {g : Nat → Option α} {r : α} (h : ∀ k, g (k + 2) = some r) : Ev g r := Ev.step (f := fun k => g (k + 1)) (fun k => rfl) (ev_succ h)

def holdsS (s : Sl) (p : Pk) : Prop := (s.fl ≤ p.fr ∧ p.fr ≤ s.fh) ∧ (s.tl ≤ p.to_ ∧ p.to_ ≤ s.th) ∧ (s.pl ≤ p.fp ∧ p.fp ≤ s.ph) ∧ (s.ql ≤ p.tp ∧ p.tp ≤ s.qh) ∧ (s.pr = 0 ∨ s.pr = p.pr)
instance (s : Sl) (p : Pk) : Decidable (holdsS s p) := by unfold holdsS; infer_instance
def holdsF (s : Sl) (p : Pk) : Prop := selF s = 0 ∧ pktF p = 0 ∧ holdsS s p
instance (s : Sl) (p : Pk) : Decidable (holdsF s p) := by unfold holdsF; infer_instance

theorem q_spec_l3Holds (s : Sl) (p : Pk) : spec_l3Holds.f s.fl s.fh s.tl s.th s.pl s.ph s.ql s.qh s.pr p.fr p.to_ p.pr p.tl p.fp p.tp p.ld = some (decide (holdsS s p)) := by
  unfold spec_l3Holds.f spec_l3Has.f
  simp only [q_spec_l1In, Option.bind_some, decide_eq_true_eq]
  unfold holdsS
  by_cases h1 : s.fl ≤ p.fr ∧ p.fr ≤ s.fh <;> by_cases h2 : s.tl ≤ p.to_ ∧ p.to_ ≤ s.th <;> by_cases h3 : s.pl ≤ p.fp ∧ p.fp ≤ s.ph <;> by_cases h4 : s.ql ≤ p.tp ∧ p.tp ≤ s.qh <;> by_cases h5 : s.pr = 0 <;> by_cases h6 : s.pr = p.pr <;> simp [h1, h2, h3, h4, h5, h6]

theorem q_impl_PacketFault_j1 (k : Nat) (b : Bool) (p : Pk) : impl_PacketFault.j1 (k + 1) b p.fr p.to_ p.pr p.tl p.fp p.tp p.ld = some (if b = true then 1 else if 200 < p.ld.length then 2 else 0) := by
  rw [impl_PacketFault.j1]
  cases b
  · by_cases h : 200 < p.ld.length
    · simp [h]
      omega
    · simp [h]
      omega
  · simp
theorem q_impl_PacketFault_j0 (k : Nat) (b : Bool) (p : Pk) : impl_PacketFault.j0 (k + 2) b p.fr p.to_ p.pr p.tl p.fp p.tp p.ld = some (if b = true then 3 else if pktPorts p then (if 200 < p.ld.length then 2 else 0) else 1) := by
  rw [impl_PacketFault.j0]
  simp only [q_impl_HasPorts, q_impl_PacketFault_j1, Option.bind_some, decide_eq_true_eq]
  unfold pktPorts hasP
  cases b
  · by_cases h2 : p.pr = 6 ∨ p.pr = 17
    · simp [h2]
    · by_cases h3 : p.fp = 0 <;> by_cases h4 : p.tp = 0 <;> simp [h2, h3, h4]
  · simp
theorem q_impl_PacketFault (k : Nat) (p : Pk) : impl_PacketFault.f (k + 2) p.fr p.to_ p.pr p.tl p.fp p.tp p.ld = some (pktF p) := by
  unfold impl_PacketFault.f impl_isAddress.f impl_isPort.f
  simp only [q_impl_in, q_impl_PacketFault_j0, Option.bind_some, decide_eq_true_eq]
  unfold pktF pktOk
  by_cases h1 : 0 ≤ p.fr ∧ p.fr ≤ 4294967295 <;> by_cases h2 : 0 ≤ p.to_ ∧ p.to_ ≤ 4294967295 <;> by_cases h3 : 1 ≤ p.pr ∧ p.pr ≤ 255 <;> by_cases h4 : 1 ≤ p.tl ∧ p.tl ≤ 255 <;> by_cases h5 : 0 ≤ p.fp ∧ p.fp ≤ 65535 <;> by_cases h6 : 0 ≤ p.tp ∧ p.tp ≤ 65535 <;> simp [h1, h2, h3, h4, h5, h6]
theorem ev_impl_PacketFault (p : Pk) : Ev (fun k => impl_PacketFault.f k p.fr p.to_ p.pr p.tl p.fp p.tp p.ld) (pktF p) := ev_succ2 (fun k => q_impl_PacketFault k p)

theorem q_impl_holds (s : Sl) (p : Pk) : impl_holds.f s.fl s.fh s.tl s.th s.pl s.ph s.ql s.qh s.pr p.fr p.to_ p.pr p.tl p.fp p.tp p.ld = some (decide (holdsS s p)) := by
  unfold impl_holds.f impl_Range_has.f
  simp only [q_impl_in, Option.bind_some, decide_eq_true_eq]
  unfold holdsS
  by_cases h1 : s.fl ≤ p.fr ∧ p.fr ≤ s.fh <;> by_cases h2 : s.tl ≤ p.to_ ∧ p.to_ ≤ s.th <;> by_cases h3 : s.pl ≤ p.fp ∧ p.fp ≤ s.ph <;> by_cases h4 : s.ql ≤ p.tp ∧ p.tp ≤ s.qh <;> by_cases h5 : s.pr = 0 <;> by_cases h6 : s.pr = p.pr <;> simp [h1, h2, h3, h4, h5, h6]

theorem ev_impl_Holds (s : Sl) (p : Pk) : Ev (fun k => impl_Holds.f k s.fl s.fh s.tl s.th s.pl s.ph s.ql s.qh s.pr p.fr p.to_ p.pr p.tl p.fp p.tp p.ld) (decide (holdsF s p)) := by
  unfold impl_Holds.f
  simp only [q_impl_holds, Option.bind_some]
  unfold holdsF
  refine Ev.bind (ev_impl_SelFault s) ?_
  by_cases h : selF s = 0
  · refine ev_pos h (Ev.bind (ev_impl_PacketFault p) ?_)
    by_cases g : pktF p = 0
    · exact ev_pos g (ev_to (ev_some _) (by simp [h, g]))
    · exact ev_neg g (ev_to (ev_some _) (by simp [h, g]))
  · exact ev_neg h (ev_to (ev_some _) (by simp [h]))

theorem q_spec_PacketFault_j1 (k : Nat) (b : Bool) (p : Pk) : spec_PacketFault.j1 (k + 1) b p.fr p.to_ p.pr p.tl p.fp p.tp p.ld = some (if b = true then 1 else if 200 < p.ld.length then 2 else 0) := by
  rw [spec_PacketFault.j1]
  cases b
  · by_cases h : 200 < p.ld.length
    · simp [h]
      omega
    · simp [h]
      omega
  · simp
theorem q_spec_PacketFault_j0 (k : Nat) (b : Bool) (p : Pk) : spec_PacketFault.j0 (k + 2) b p.fr p.to_ p.pr p.tl p.fp p.tp p.ld = some (if b = true then 3 else if pktPorts p then (if 200 < p.ld.length then 2 else 0) else 1) := by
  rw [spec_PacketFault.j0]
  simp only [q_spec_HasPorts, q_spec_PacketFault_j1, Option.bind_some, decide_eq_true_eq]
  unfold pktPorts hasP
  cases b
  · by_cases h2 : p.pr = 6 ∨ p.pr = 17
    · simp [h2]
    · by_cases h3 : p.fp = 0 <;> by_cases h4 : p.tp = 0 <;> simp [h2, h3, h4]
  · simp
theorem q_spec_PacketFault (k : Nat) (p : Pk) : spec_PacketFault.f (k + 2) p.fr p.to_ p.pr p.tl p.fp p.tp p.ld = some (pktF p) := by
  unfold spec_PacketFault.f spec_l2Address.f spec_l2Port.f
  simp only [q_spec_l1In, q_spec_PacketFault_j0, Option.bind_some, decide_eq_true_eq]
  unfold pktF pktOk
  by_cases h1 : 0 ≤ p.fr ∧ p.fr ≤ 4294967295 <;> by_cases h2 : 0 ≤ p.to_ ∧ p.to_ ≤ 4294967295 <;> by_cases h3 : 1 ≤ p.pr ∧ p.pr ≤ 255 <;> by_cases h4 : 1 ≤ p.tl ∧ p.tl ≤ 255 <;> by_cases h5 : 0 ≤ p.fp ∧ p.fp ≤ 65535 <;> by_cases h6 : 0 ≤ p.tp ∧ p.tp ≤ 65535 <;> simp [h1, h2, h3, h4, h5, h6]
theorem ev_spec_PacketFault (p : Pk) : Ev (fun k => spec_PacketFault.f k p.fr p.to_ p.pr p.tl p.fp p.tp p.ld) (pktF p) := ev_succ2 (fun k => q_spec_PacketFault k p)

theorem q_szSelS {l : List S113} (h : l.length ≤ 1048576) : laws_szSelS.f l 1048576 = some (1048576 - (l.length : Int)) := by
  unfold laws_szSelS.f
  rw [w64 (by omega) (by omega), if_neg (by omega)]
theorem q_szSelS_big {l : List S113} (h : ¬ l.length ≤ 1048576) (hm : l.length ≤ maxLen) : laws_szSelS.f l 1048576 = some (-1) := by
  unfold laws_szSelS.f
  unfold maxLen at hm
  rw [w64 (by omega) (by omega), if_pos (by omega)]

theorem rdLSel_nat (l : List S113) (i : Nat) (h : i < l.length) : rd_T113 l i = l[i] := getD_nat l _ i h

theorem q_toSel (a b c d e f g h i : Int) : laws_toSel.f a b c d e f g h i = some (a, b, c, d, e, f, g, h, i) := rfl

def cvSel (x : S113) : S52 := ⟨⟨x.f0.f0, x.f0.f1⟩, ⟨x.f1.f0, x.f1.f1⟩, ⟨x.f2.f0, x.f2.f1⟩, ⟨x.f3.f0, x.f3.f1⟩, x.f4⟩
theorem ev_toSelS {l : List S113} (hn : l.length ≤ 1048576) : Ev (fun k => laws_toSelS.f k l) (l.map cvSel) := by
  unfold laws_toSelS.f
  refine ev_pos (by omega) (ev_pos (by omega) ?_)
  refine map_loop (fun k b i => laws_toSelS.l0 k l b i) l cvSel ?_ ?_ _ (by simp)
  · intro k b
    rw [laws_toSelS.l0, if_neg (by omega)]
  · intro k b i h hb
    rw [laws_toSelS.l0, if_pos (by omega), if_pos (by omega), q_toSel, Option.bind_some, if_pos (by omega), w64 (by omega) (by omega), rdLSel_nat l i h, Int.toNat_natCast]
    rfl

theorem q_eqSel (a b c d e f g h i : Int) : laws_eqSel.f a b c d e f g h i a b c d e f g h i = some true := by
  simp [laws_eqSel.f, laws_eqRange.f]
theorem ev_eqSelS {l : List S52} (hn : l.length ≤ 1048576) : Ev (fun k => laws_eqSelS.f k l l) true := by
  unfold laws_eqSelS.f
  refine ev_pos rfl ?_
  refine count_loop (fun k i => laws_eqSelS.l0 k l l i) l.length true ?_ ?_
  · intro k
    rw [laws_eqSelS.l0, if_neg (by omega)]
  · intro k i h
    rw [laws_eqSelS.l0, if_pos (by omega), if_pos (by omega), if_pos (by omega), q_eqSel, Option.bind_some, if_pos rfl, w64 (by omega) (by omega)]
    rfl

theorem q_szPacketAt (a b c d e f : Int) {l : List Int} {t : Int} (ht : 0 ≤ t ∧ t ≤ 1048576) (h : (l.length : Int) ≤ t) : laws_szPacket.f a b c d e f l t = some (t - (l.length : Int)) := by
  unfold laws_szPacket.f laws_szByteS.f
  rw [w64 (by omega) (by omega), if_neg (by omega), Option.bind_some, if_neg (by omega)]
theorem q_szPacketAt_big (a b c d e f : Int) {l : List Int} {t : Int} (ht : 0 ≤ t ∧ t ≤ 1048576) (h : ¬ (l.length : Int) ≤ t) (hm : l.length ≤ maxLen) : laws_szPacket.f a b c d e f l t = some (-1) := by
  unfold laws_szPacket.f laws_szByteS.f
  unfold maxLen at hm
  rw [w64 (by omega) (by omega), if_pos (by omega), Option.bind_some, if_pos (by omega)]

theorem ev_toByteS_loop (a : List Int) (hn : a.length ≤ 140737488355328) : ∀ (d i : Nat) (b : List Int), i + d = a.length → b.length = a.length → b.take i = a.take i → Ev (fun k => laws_toByteS.l0 k a b i) a := by
  intro d
  induction d with
  | zero =>
    intro i b hi hl ht
    refine Ev.step (fun k => by rw [laws_toByteS.l0, if_neg (by omega)]) ?_
    obtain rfl : i = a.length := by omega
    rw [take_full hl ht]
    exact ev_some a
  | succ d ih =>
    intro i b hi hl ht
    refine Ev.step (fun k => by rw [laws_toByteS.l0, if_pos (by omega), if_pos (by omega), if_pos (by omega)]) ?_
    rw [w64 (by omega) (by omega), Int.toNat_natCast]
    exact ih (i + 1) _ (by omega) (by simpa using hl) (set_take (by omega) hl ht (rd_nat a i (by omega)))
theorem ev_toByteS {a : List Int} (hn : a.length ≤ 140737488355328) : Ev (fun k => laws_toByteS.f k a) a := by
  unfold laws_toByteS.f
  refine ev_pos (by omega) (ev_pos (by omega) ?_)
  exact ev_toByteS_loop a hn a.length 0 _ (by omega) (by simp) (by simp)

theorem ev_toPacket (a b c d e f : Int) {l : List Int} (h : l.length ≤ 1048576) : Ev (fun k => laws_toPacket.f k a b c d e f l) (a, b, c, d, e, f, l) := by
  unfold laws_toPacket.f
  exact Ev.bind (ev_toByteS (by omega)) (ev_some _)

theorem ev_eqByteS_loop (a b : List Int) (hn : a.length ≤ 140737488355328) (hl : b.length = a.length) : ∀ (d i : Nat), i + d = a.length → b.take i = a.take i → Ev (fun k => laws_eqByteS.l0 k a b i) (decide (a = b)) := by
  intro d
  induction d with
  | zero =>
    intro i hi ht
    refine Ev.step (fun k => by rw [laws_eqByteS.l0, if_neg (by omega)]) ?_
    obtain rfl : i = a.length := by omega
    rw [take_full hl ht]
    simpa using ev_some true
  | succ d ih =>
    intro i hi ht
    by_cases he : rd a i = rd b i
    · refine Ev.step (fun k => by rw [laws_eqByteS.l0, if_pos (by omega), if_pos (by omega), if_pos (by omega), if_pos he]) ?_
      rw [w64 (by omega) (by omega)]
      rw [rd_nat a i (by omega), rd_nat b i (by omega)] at he
      exact ih (i + 1) (by omega) (take_next (by omega) (by omega) ht he.symm)
    · refine Ev.step (fun k => by rw [laws_eqByteS.l0, if_pos (by omega), if_pos (by omega), if_pos (by omega), if_neg he]) ?_
      have : a ≠ b := fun h => he (by rw [h])
      simpa [this] using ev_some false
theorem ev_eqByteS {a b : List Int} (hn : a.length ≤ 140737488355328) : Ev (fun k => laws_eqByteS.f k a b) (decide (a = b)) := by
  unfold laws_eqByteS.f
  by_cases h : (a.length : Int) = b.length
  · exact ev_pos h (ev_eqByteS_loop a b hn (by omega) a.length 0 (by omega) (by simp))
  · refine ev_neg h ?_
    have : a ≠ b := fun h' => h (by rw [h'])
    simpa [this] using ev_some false
theorem ev_eqByteS_refl {a : List Int} (hn : a.length ≤ 140737488355328) : Ev (fun k => laws_eqByteS.f k a a) true := by
  simpa using ev_eqByteS (b := a) hn

theorem ev_eqPacket (a b c d e f : Int) {l : List Int} (h : l.length ≤ 1048576) : Ev (fun k => laws_eqPacket.f k a b c d e f l a b c d e f l) true := by
  unfold laws_eqPacket.f
  refine ev_pos rfl (ev_pos rfl (ev_pos rfl (ev_pos rfl (ev_pos rfl (ev_pos rfl ?_)))))
  exact Ev.bind (ev_eqByteS_refl (by omega)) (ev_pos rfl (ev_some _))

theorem ev_spec_l3Any (l : List S52) (hl : l.length ≤ 1048576) (p : Pk) : Ev (fun k => spec_l3Any.f k l p.fr p.to_ p.pr p.tl p.fp p.tp p.ld) (l.any fun x => decide (holdsS (slOf x) p)) := by
  have key : ∀ i, i ≤ l.length → Ev (fun k => spec_l3Any.l0 k l (i : Nat) p.fr p.to_ p.pr p.tl p.fp p.tp p.ld) ((l.drop i).any fun x => decide (holdsS (slOf x) p)) := by
    refine down l.length ?_ ?_
    · rw [List.drop_length]
      refine Ev.step (fun k => by rw [spec_l3Any.l0, if_neg (by omega)]) ?_
      exact ev_some _
    · intro i hi ih
      rw [List.drop_eq_getElem_cons hi, List.any_cons]
      refine Ev.step (fun k => by rw [spec_l3Any.l0, if_pos (by omega), if_pos (by omega), rdSel_nat l i hi, w64 (by omega) (by omega)]) ?_
      refine ev_opt (q_spec_l3Holds (slOf l[i]) p) ?_
      by_cases h : holdsS (slOf l[i]) p
      · rw [decide_eq_true h, Bool.true_or]
        exact ev_pos (by simp) (ev_some _)
      · rw [decide_eq_false h, Bool.false_or]
        exact ev_neg (by simp) ih
  exact key 0 (by omega)
def hanyF (l : List S52) (p : Pk) : Bool := if selsF l = 0 then (if pktF p = 0 then (l.any fun x => decide (holdsS (slOf x) p)) else false) else false
theorem ev_spec_HoldsAny (l : List S52) (hl : l.length ≤ 1048576) (p : Pk) : Ev (fun k => spec_HoldsAny.f k l p.fr p.to_ p.pr p.tl p.fp p.tp p.ld) (hanyF l p) := by
  unfold spec_HoldsAny.f hanyF
  refine Ev.bind (ev_spec_SelsFault l hl) (ev_cond (fun h => ?_) (fun h => ev_some _))
  exact Ev.bind (ev_spec_PacketFault p) (ev_cond (fun h => Ev.bind (ev_spec_l3Any l hl p) (ev_some _)) (fun h => ev_some _))
theorem ev_idxO {α : Type} (F : Nat → α → Option Bool) (P : α → Bool) (h : ∀ x, Ev (fun k => F k x) (P x)) : ∀ (l : List α) (i : Int), 0 ≤ i → ∃ r, Ev (fun k => idxO (F k) l i) r ∧ (0 ≤ r ↔ l.any P = true)
  | [], i, _ => ⟨-1, ev_some _, by simp⟩
  | x :: xs, i, hi => by
    cases hp : P x with
    | true =>
      refine ⟨i, Ev.bind (h x) (ev_pos hp (ev_some _)), ?_⟩
      simp [hp, hi]
    | false =>
      obtain ⟨r, hr, hm⟩ := ev_idxO F P h xs (i + 1) (by omega)
      refine ⟨r, Ev.bind (h x) (ev_neg (by simp [hp]) hr), ?_⟩
      simp [hp, hm]
theorem scanSel_ok : ∀ (l : List S52), scanSel l = 0 → ∀ x ∈ l, selF (slOf x) = 0
  | [], _, _, h => absurd h (by simp)
  | y :: ys, h, x, hx => by
    rw [scanSel] at h
    by_cases g : selF (slOf y) = 0
    · rw [if_pos g] at h
      rcases List.mem_cons.mp hx with rfl | hx
      · exact g
      · exact scanSel_ok ys h x hx
    · rw [if_neg g] at h
      exact absurd h g
theorem selsF_ok {l : List S52} (h : selsF l = 0) : ∀ x ∈ l, selF (slOf x) = 0 := by
  unfold selsF at h
  split at h
  · exact absurd h (by omega)
  · exact scanSel_ok l h
theorem any_same {α : Type} {l : List α} {P Q : α → Bool} (h : ∀ x ∈ l, P x = Q x) : l.any P = l.any Q := by
  induction l with
  | nil => rfl
  | cons x xs ih =>
    rw [List.any_cons, List.any_cons, h x (by simp), ih (fun y hy => h y (by simp [hy]))]
theorem ev_impl_HoldsAny (l : List S52) (hl : l.length ≤ 1048576) (p : Pk) : Ev (fun k => impl_HoldsAny.f k l p.fr p.to_ p.pr p.tl p.fp p.tp p.ld) (hanyF l p) := by
  unfold impl_HoldsAny.f hanyF
  refine Ev.bind (ev_impl_SelsFault l hl) (ev_cond (fun h => ?_) (fun h => ev_some _))
  obtain ⟨r, hr, hm⟩ := ev_idxO (fun k (x : S52) => impl_Holds.f k x.f0.f0 x.f0.f1 x.f1.f0 x.f1.f1 x.f2.f0 x.f2.f1 x.f3.f0 x.f3.f1 x.f4 p.fr p.to_ p.pr p.tl p.fp p.tp p.ld) (fun x => decide (holdsF (slOf x) p)) (fun x => ev_impl_Holds (slOf x) p) l 0 (by omega)
  refine Ev.bind hr (ev_to (ev_some _) ?_)
  have e : l.any (fun x => decide (holdsF (slOf x) p)) = if pktF p = 0 then (l.any fun x => decide (holdsS (slOf x) p)) else false := by
    by_cases g : pktF p = 0
    · rw [if_pos g]
      exact any_same (fun x hx => by simp [holdsF, g, selsF_ok h x hx])
    · rw [if_neg g]
      simp [holdsF, g]
  rw [← e, Bool.eq_iff_iff, decide_eq_true_eq]
  exact hm
theorem FnExactHoldsAny : laws_FnExactHoldsAny.Pure := by
  intro l a b c d e f y
  intro hm
  intros
  rename_i hmy _
  apply Ev.rounds
  unfold laws_FnExactHoldsAny.f
  by_cases h : l.length ≤ 1048576
  · have hc : (l.map cvSel).length ≤ 1048576 := by simpa using h
    refine ev_opt (q_szSelS h) (ev_neg (by omega) ?_)
    by_cases hy : (y.length : Int) ≤ 1048576 - (l.length : Int)
    · have hy' : y.length ≤ 1048576 := by omega
      refine ev_opt (q_szPacketAt a b c d e f (by omega) hy) (ev_neg (by omega) ?_)
      refine Ev.bind (ev_toSelS h) (Ev.bind (ev_toPacket a b c d e f hy') (Ev.bind (ev_spec_HoldsAny _ hc ⟨a, b, c, d, e, f, y⟩) (Ev.bind (ev_toSelS h) (Ev.bind (ev_toPacket a b c d e f hy') (Ev.bind (ev_impl_HoldsAny _ hc ⟨a, b, c, d, e, f, y⟩) ?_)))))
      refine ev_neg (by simp) ?_
      refine Ev.bind (ev_toSelS h) (Ev.bind (ev_eqSelS hc) (ev_pos rfl ?_))
      exact Ev.bind (ev_toPacket a b c d e f hy') (Ev.bind (ev_eqPacket a b c d e f hy') (ev_pos rfl (ev_some _)))
    · exact ev_opt (q_szPacketAt_big a b c d e f (by omega) hy hmy) (ev_pos (by omega) (ev_some _))
  · exact ev_opt (q_szSelS_big h hm) (ev_pos (by omega) (ev_some _))

end Go.Proofs.Yteelmjkoncomiaa.Pure
