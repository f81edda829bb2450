/- Proved: the law FnExactWithinSel answers true at every input that Go can hand in (it says: The program's WithinSel returns what the reference's returns, for all arguments.) No condition beyond the statement's own. -/
import Derived.Test.YtfggalllhcohaaaStFnExactWithinSel
namespace Go.Proofs.Ytfggalllhcohaaa.Pure
open Go.RowKit Go.Proofs.Ytfggalllhcohaaa.PFnExactWithinSel Go.Proofs.YtfggalllhcohaaaW.PrintWords Go.Proofs.YtfggalllhcohaaaW.PrintLast Go.Proofs.YtfggalllhcohaaaW.PrintMore
set_option linter.unusedVariables false
set_option linter.unusedSimpArgs false

theorem w64 {x : Int} (h0 : -9223372036854775808 ≤ x) (h1 : x ≤ 9223372036854775807) : wrap64 x = x := by
  unfold wrap64
  omega
theorem tmod_pos {a b : Int} (h : 0 ≤ a) : Int.tmod a b = a % b := Int.tmod_eq_emod_of_nonneg h
theorem tdiv_pos {a b : Int} (h : 0 ≤ a) : Int.tdiv a b = a / b := Int.tdiv_eq_ediv_of_nonneg h
theorem ev_some {α : Type} (r : α) : Ev (fun _ => some r) r := Ev.now r
theorem ev_pos {α : Type} {c : Prop} [Decidable c] {A B : Nat → Option α} {r : α} (h : c) (e : Ev A r) : Ev (fun k => if c then A k else B k) r := by
  simpa only [if_pos h] using e
theorem ev_neg {α : Type} {c : Prop} [Decidable c] {A B : Nat → Option α} {r : α} (h : ¬ c) (e : Ev B r) : Ev (fun k => if c then A k else B k) r := by
  simpa only [if_neg h] using e
theorem ev_opt {α β : Type} {o : Option α} {f : Nat → α → Option β} {a : α} {r : β} (h : o = some a) (e : Ev (fun n => f n a) r) : Ev (fun n => o.bind (f n)) r := by
  simpa only [h, Option.bind_some] using e
theorem ev_to {α : Type} {g : Nat → Option α} {r r' : α} (e : Ev g r) (h : r = r') : Ev g r' := h ▸ e
theorem ev_fix {α : Type} {o : Option α} {r : α} (h : o = some r) : Ev (fun _ => o) r := ⟨0, fun _ _ => h⟩
theorem rd_nat (l : List Int) (i : Nat) (h : i < l.length) : rd l (i : Int) = l[i] := by
  unfold rd
  simp [List.getD_eq_getElem?_getD, h]
theorem rd_mem (l : List Int) (i : Int) (h0 : 0 ≤ i) (h : i < l.length) : rd l i ∈ l := by
  obtain ⟨n, rfl⟩ := Int.eq_ofNat_of_zero_le h0
  rw [rd_nat l n (by omega)]
  exact List.getElem_mem _
theorem u8_range {x : Int} (h : (Lit.int .u8 x).wf = true) : 0 ≤ x ∧ x ≤ 255 := by
  simp [Lit.wf, IntKind.min, IntKind.max, IntKind.signed, IntKind.bits] at h
  omega
theorem i64_range {x : Int} (h : (Lit.int .i64 x).wf = true) : -9223372036854775808 ≤ x ∧ x ≤ 9223372036854775807 := by
  simp [Lit.wf, IntKind.min, IntKind.max, IntKind.signed, IntKind.bits] at h
  omega
theorem set_mid {α : Type} (a : List α) (x : α) (b : List α) (y : α) : (a ++ x :: b).set a.length y = a ++ y :: b := by simp
theorem take_full {α : Type} {a b : List α} (hl : b.length = a.length) (ht : b.take a.length = a.take a.length) : b = a := by
  rw [List.take_of_length_le (by omega), List.take_of_length_le (by omega)] at ht
  exact ht
theorem take_next {α : Type} {a b : List α} {i : Nat} (ha : i < a.length) (hb : i < b.length) (ht : b.take i = a.take i) (hx : b[i] = a[i]) : b.take (i + 1) = a.take (i + 1) := by
  rw [List.take_succ_eq_append_getElem ha, List.take_succ_eq_append_getElem hb, ht, hx]
theorem ev_cond {α : Type} {c : Prop} [Decidable c] {A B : Nat → Option α} {r r' : α} (hp : c → Ev A r) (hn : ¬ c → Ev B r') : Ev (fun k => if c then A k else B k) (if c then r else r') := by
  by_cases h : c
  · rw [if_pos h]; exact ev_pos h (hp h)
  · rw [if_neg h]; exact ev_neg h (hn h)
theorem set_take {α : Type} {a b : List α} {i : Nat} {x : α} (h : i < a.length) (hl : b.length = a.length) (ht : b.take i = a.take i) (hx : x = a[i]) : (b.set i x).take (i + 1) = a.take (i + 1) := by
  refine take_next h (by simp; omega) ?_ (by simp [hx])
  rw [← ht]
  apply List.ext_getElem?
  intro j
  simp only [List.getElem?_take, List.getElem?_set]
  by_cases hj : j < i
  · rw [if_pos hj, if_pos hj, if_neg (by omega)]
  · rw [if_neg hj, if_neg hj]
theorem ev_succ {α : Type} {g : Nat → Option α} {r : α} (h : ∀ k, g (k + 1) = some r) : Ev g r := Ev.step h (ev_some r)

structure Sl where
  fl : Int
  fh : Int
  tl : Int
  th : Int
  pl : Int
  ph : Int
  ql : Int
  qh : Int
  pr : Int
def rok (lo hi most : Int) : Prop := 0 ≤ lo ∧ lo ≤ hi ∧ hi ≤ most
instance (lo hi most : Int) : Decidable (rok lo hi most) := by unfold rok; infer_instance
def selOk (s : Sl) : Prop := rok s.fl s.fh 4294967295 ∧ rok s.tl s.th 4294967295 ∧ rok s.pl s.ph 65535 ∧ rok s.ql s.qh 65535 ∧ 0 ≤ s.pr ∧ s.pr ≤ 255
instance (s : Sl) : Decidable (selOk s) := by unfold selOk; infer_instance
def hasP (p : Int) : Prop := p = 6 ∨ p = 17
instance (p : Int) : Decidable (hasP p) := by unfold hasP; infer_instance
def selPorts (s : Sl) : Prop := s.pr = 0 ∨ hasP s.pr ∨ (s.pl = 0 ∧ s.ph = 65535 ∧ s.ql = 0 ∧ s.qh = 65535)
instance (s : Sl) : Decidable (selPorts s) := by unfold selPorts; infer_instance
def selF (s : Sl) : Int := if selOk s then (if selPorts s then 0 else 1) else 3

theorem q_spec_HasPorts (a : Int) : spec_HasPorts.f a = some (decide (a = 6 ∨ a = 17)) := by
  unfold spec_HasPorts.f
  by_cases h : a = 6
  · simp [h]
  · by_cases g : a = 17
    · simp [g]
    · simp [h, g]
theorem q_impl_HasPorts (a : Int) : impl_HasPorts.f a = some (decide (a = 6 ∨ a = 17)) := by
  unfold impl_HasPorts.f
  by_cases h : a = 6
  · simp [h]
  · by_cases g : a = 17
    · simp [g]
    · simp [h, g]

theorem q_spec_l1In (a b c : Int) : spec_l1In.f a b c = some (decide (b ≤ a ∧ a ≤ c)) := by
  unfold spec_l1In.f
  by_cases h : b ≤ a
  · simp [h]
  · simp [h]

theorem q_spec_l3Range (lo hi m : Int) : spec_l3Range.f lo hi m = some (decide (rok lo hi m)) := by
  unfold spec_l3Range.f rok
  by_cases h : 0 ≤ lo
  · by_cases g : lo ≤ hi
    · simp [h, g]
    · simp [h, g]
  · simp [h]
theorem q_spec_SelFault_j0 (k : Nat) (b : Bool) (s : Sl) : spec_SelFault.j0 (k + 1) b s.fl s.fh s.tl s.th s.pl s.ph s.ql s.qh s.pr = some (if b = true then 3 else if selPorts s then 0 else 1) := by
  rw [spec_SelFault.j0]
  simp only [q_spec_HasPorts, spec_l3All.f, Option.bind_some, decide_eq_true_eq]
  unfold selPorts hasP
  cases b
  · by_cases h1 : s.pr = 0
    · simp [h1]
    · by_cases h2 : s.pr = 6 ∨ s.pr = 17
      · simp [h1, h2]
      · by_cases h3 : s.pl = 0 <;> by_cases h4 : s.ph = 65535 <;> by_cases h5 : s.ql = 0 <;> by_cases h6 : s.qh = 65535 <;> simp [h1, h2, h3, h4, h5, h6]
  · simp
theorem q_spec_SelFault (k : Nat) (s : Sl) : spec_SelFault.f (k + 1) s.fl s.fh s.tl s.th s.pl s.ph s.ql s.qh s.pr = some (selF s) := by
  unfold spec_SelFault.f
  simp only [q_spec_l3Range, q_spec_l1In, q_spec_SelFault_j0, Option.bind_some, decide_eq_true_eq]
  unfold selF selOk
  by_cases h1 : rok s.fl s.fh 4294967295 <;> by_cases h2 : rok s.tl s.th 4294967295 <;> by_cases h3 : rok s.pl s.ph 65535 <;> by_cases h4 : rok s.ql s.qh 65535 <;> by_cases h5 : 0 ≤ s.pr ∧ s.pr ≤ 255 <;> simp [h1, h2, h3, h4, h5]
theorem ev_spec_SelFault (s : Sl) : Ev (fun k => spec_SelFault.f k s.fl s.fh s.tl s.th s.pl s.ph s.ql s.qh s.pr) (selF s) := ev_succ (fun k => q_spec_SelFault k s)

def rin (al ah bl bh : Int) : Prop := bl ≤ al ∧ ah ≤ bh
instance (al ah bl bh : Int) : Decidable (rin al ah bl bh) := by unfold rin; infer_instance
def withinS (a b : Sl) : Prop := rin a.fl a.fh b.fl b.fh ∧ rin a.tl a.th b.tl b.th ∧ rin a.pl a.ph b.pl b.ph ∧ rin a.ql a.qh b.ql b.qh ∧ (b.pr = 0 ∨ a.pr = b.pr)
instance (a b : Sl) : Decidable (withinS a b) := by unfold withinS; infer_instance

theorem q_spec_l3In (a b c d : Int) : spec_l3In.f a b c d = some (decide (rin a b c d)) := by
  unfold spec_l3In.f rin
  by_cases h : c ≤ a
  · simp [h]
  · simp [h]
theorem q_spec_l3Within (a b : Sl) : spec_l3Within.f a.fl a.fh a.tl a.th a.pl a.ph a.ql a.qh a.pr b.fl b.fh b.tl b.th b.pl b.ph b.ql b.qh b.pr = some (decide (withinS a b)) := by
  have h7 : (b.pr == a.pr) = (a.pr == b.pr) := by rw [Bool.eq_iff_iff, beq_iff_eq, beq_iff_eq]; exact eq_comm
  unfold spec_l3Within.f withinS
  simp only [q_spec_l3In, Option.bind_some, decide_eq_true_eq, h7]
  by_cases h1 : rin a.fl a.fh b.fl b.fh <;> by_cases h2 : rin a.tl a.th b.tl b.th <;> by_cases h3 : rin a.pl a.ph b.pl b.ph <;> by_cases h4 : rin a.ql a.qh b.ql b.qh <;> by_cases h5 : b.pr = 0 <;> by_cases h6 : a.pr = b.pr <;> simp [h1, h2, h3, h4, h5, h6]

theorem ev_spec_WithinSel (a b : Sl) : Ev (fun k => spec_WithinSel.f k a.fl a.fh a.tl a.th a.pl a.ph a.ql a.qh a.pr b.fl b.fh b.tl b.th b.pl b.ph b.ql b.qh b.pr) (decide (selF a = 0 ∧ selF b = 0 ∧ withinS a b)) := by
  unfold spec_WithinSel.f
  simp only [q_spec_l3Within, Option.bind_some]
  refine Ev.bind (ev_spec_SelFault a) ?_
  by_cases h : selF a = 0
  · refine ev_pos h (Ev.bind (ev_spec_SelFault b) ?_)
    by_cases g : selF b = 0
    · exact ev_pos g (ev_to (ev_some _) (by simp [h, g]))
    · exact ev_neg g (ev_to (ev_some _) (by simp [h, g]))
  · exact ev_neg h (ev_to (ev_some _) (by simp [h]))

theorem q_impl_in (a b c : Int) : impl_in.f a b c = some (decide (b ≤ a ∧ a ≤ c)) := by
  unfold impl_in.f
  by_cases h : b ≤ a
  · simp [h]
  · simp [h]

theorem q_impl_Range_ok (lo hi m : Int) : impl_Range_ok.f lo hi m = some (decide (rok lo hi m)) := by
  unfold impl_Range_ok.f
  simp only [q_impl_in, Option.bind_some, decide_eq_true_eq]
  by_cases hr : rok lo hi m
  · rw [decide_eq_true hr]
    unfold rok at hr
    rw [if_pos (by omega), if_pos (by omega), decide_eq_true (by omega)]
  · rw [decide_eq_false hr]
    unfold rok at hr
    by_cases h : 0 ≤ lo ∧ lo ≤ m
    · by_cases g : 0 ≤ hi ∧ hi ≤ m
      · rw [if_pos h, if_pos g, decide_eq_false (by omega)]
      · rw [if_pos h, if_neg g]
    · rw [if_neg h]
theorem q_impl_SelFault_j0 (k : Nat) (b : Bool) (s : Sl) : impl_SelFault.j0 (k + 1) b s.fl s.fh s.tl s.th s.pl s.ph s.ql s.qh s.pr = some (if b = true then 3 else if selPorts s then 0 else 1) := by
  rw [impl_SelFault.j0]
  simp only [q_impl_HasPorts, impl_whole.f, Option.bind_some, decide_eq_true_eq]
  unfold selPorts hasP
  cases b
  · by_cases h1 : s.pr = 0
    · simp [h1]
    · by_cases h2 : s.pr = 6 ∨ s.pr = 17
      · simp [h1, h2]
      · by_cases h3 : s.pl = 0 <;> by_cases h4 : s.ph = 65535 <;> by_cases h5 : s.ql = 0 <;> by_cases h6 : s.qh = 65535 <;> simp [h1, h2, h3, h4, h5, h6]
  · simp
theorem q_impl_SelFault (k : Nat) (s : Sl) : impl_SelFault.f (k + 1) s.fl s.fh s.tl s.th s.pl s.ph s.ql s.qh s.pr = some (selF s) := by
  unfold impl_SelFault.f
  simp only [q_impl_Range_ok, q_impl_in, q_impl_SelFault_j0, Option.bind_some, decide_eq_true_eq]
  unfold selF selOk
  by_cases h1 : rok s.fl s.fh 4294967295 <;> by_cases h2 : rok s.tl s.th 4294967295 <;> by_cases h3 : rok s.pl s.ph 65535 <;> by_cases h4 : rok s.ql s.qh 65535 <;> by_cases h5 : 0 ≤ s.pr ∧ s.pr ≤ 255 <;> simp [h1, h2, h3, h4, h5]
theorem ev_impl_SelFault (s : Sl) : Ev (fun k => impl_SelFault.f k s.fl s.fh s.tl s.th s.pl s.ph s.ql s.qh s.pr) (selF s) := ev_succ (fun k => q_impl_SelFault k s)

theorem q_impl_Range_within (a b c d : Int) : impl_Range_within.f a b c d = some (decide (rin a b c d)) := by
  unfold impl_Range_within.f rin
  by_cases h : c ≤ a
  · simp [h]
  · simp [h]
theorem q_impl_withinSel (a b : Sl) : impl_withinSel.f a.fl a.fh a.tl a.th a.pl a.ph a.ql a.qh a.pr b.fl b.fh b.tl b.th b.pl b.ph b.ql b.qh b.pr = some (decide (withinS a b)) := by
  unfold impl_withinSel.f withinS
  simp only [q_impl_Range_within, Option.bind_some, decide_eq_true_eq]
  by_cases h1 : rin a.fl a.fh b.fl b.fh <;> by_cases h2 : rin a.tl a.th b.tl b.th <;> by_cases h3 : rin a.pl a.ph b.pl b.ph <;> by_cases h4 : rin a.ql a.qh b.ql b.qh <;> by_cases h5 : b.pr = 0 <;> by_cases h6 : a.pr = b.pr <;> simp [h1, h2, h3, h4, h5, h6]

def firstF : List Int → Int
  | [] => 0
  | x :: xs => if x = 0 then firstF xs else x
theorem ev_impl_faultOf_loop (l : List Int) (hl : l.length ≤ 1000000) : ∀ (d i : Nat), i + d = l.length → Ev (fun k => impl_faultOf.l0 k l l.length i) (firstF (l.drop i)) := by
  intro d
  induction d with
  | zero =>
    intro i hi
    obtain rfl : i = l.length := by omega
    rw [List.drop_length]
    refine Ev.step (fun k => by rw [impl_faultOf.l0, if_neg (by omega)]) ?_
    exact ev_some _
  | succ d ih =>
    intro i hi
    have hr := rd_nat l i (by omega)
    rw [List.drop_eq_getElem_cons (by omega : i < l.length), firstF, ← hr]
    by_cases h : rd l i = 0
    · refine Ev.step (fun k => by rw [impl_faultOf.l0, if_pos (by omega), if_pos (by omega), if_pos (by omega), if_pos h]) ?_
      rw [w64 (by omega) (by omega), if_pos h]
      exact ih (i + 1) (by omega)
    · refine Ev.step (fun k => by rw [impl_faultOf.l0, if_pos (by omega), if_pos (by omega), if_pos (by omega), if_neg h]) ?_
      rw [if_neg h]
      exact ev_some _
theorem ev_impl_faultOf (l : List Int) (hl : l.length ≤ 1000000) : Ev (fun k => impl_faultOf.f k l) (firstF l) := ev_impl_faultOf_loop l hl l.length 0 (by omega)
theorem ev_faultOf2 (a b : Int) : Ev (fun k => impl_faultOf.f k [a, b]) (if a = 0 then b else a) := by
  refine ev_to (ev_impl_faultOf [a, b] (by simp)) ?_
  simp only [firstF]
  by_cases h : a = 0
  · rw [if_pos h, if_pos h]
    split
    · rename_i hb; exact hb.symm
    · rfl
  · rw [if_neg h, if_neg h]

theorem ev_impl_WithinSel (a b : Sl) : Ev (fun k => impl_WithinSel.f k a.fl a.fh a.tl a.th a.pl a.ph a.ql a.qh a.pr b.fl b.fh b.tl b.th b.pl b.ph b.ql b.qh b.pr) (decide (selF a = 0 ∧ selF b = 0 ∧ withinS a b)) := by
  unfold impl_WithinSel.f
  simp only [q_impl_withinSel, Option.bind_some]
  refine Ev.bind (ev_impl_SelFault a) (Ev.bind (ev_impl_SelFault b) (Ev.bind (ev_faultOf2 _ _) ?_))
  by_cases h : selF a = 0
  · rw [if_pos h]
    by_cases g : selF b = 0
    · exact ev_pos g (ev_to (ev_some _) (by simp [h, g]))
    · exact ev_neg g (ev_to (ev_some _) (by simp [h, g]))
  · rw [if_neg h]
    exact ev_neg h (ev_to (ev_some _) (by simp [h]))

theorem q_toSel (a b c d e f g h i : Int) : laws_toSel.f a b c d e f g h i = some (a, b, c, d, e, f, g, h, i) := rfl

theorem FnExactWithinSel : laws_FnExactWithinSel.Pure := by
  intro a b c d e f g h i a' b' c' d' e' f' g' h' i'
  intros
  apply Ev.rounds
  unfold laws_FnExactWithinSel.f
  refine ev_opt (q_toSel a b c d e f g h i) (ev_opt (q_toSel a' b' c' d' e' f' g' h' i') (Ev.bind (ev_spec_WithinSel ⟨a, b, c, d, e, f, g, h, i⟩ ⟨a', b', c', d', e', f', g', h', i'⟩) ?_))
  refine ev_opt (q_toSel a b c d e f g h i) (ev_opt (q_toSel a' b' c' d' e' f' g' h' i') (Ev.bind (ev_impl_WithinSel ⟨a, b, c, d, e, f, g, h, i⟩ ⟨a', b', c', d', e', f', g', h', i'⟩) ?_))
  exact ev_neg (by simp) (ev_some _)

end Go.Proofs.Ytfggalllhcohaaa.Pure
