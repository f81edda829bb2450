/- Proved: the law FnExactMeetSels answers true at every input that Go can hand in (it says: The program's MeetSels returns what the reference's returns, for all arguments.) No condition beyond the statement's own. -/
import Derived.Test.YthmlhnfoibbhaaaStFnExactMeetSels
namespace Go.Proofs.Ythmlhnfoibbhaaa.Pure
open Go.RowKit Go.Proofs.Ythmlhnfoibbhaaa.PFnExactMeetSels Go.Proofs.YthmlhnfoibbhaaaW.PrintWords Go.Proofs.YthmlhnfoibbhaaaW.PrintLast Go.Proofs.YthmlhnfoibbhaaaW.PrintMore
set_option linter.unusedVariables false
set_option linter.unusedSimpArgs false

theorem w64 {x : Int} (h0 : -9223372036854775808 ≤ x) (h1 : x ≤ 9223372036854775807) : wrap64 x = x := by
  unfold wrap64
  omega
theorem tmod_pos {a b : Int} (h : 0 ≤ a) : Int.tmod a b = a % b := Int.tmod_eq_emod_of_nonneg h
theorem tdiv_pos {a b : Int} (h : 0 ≤ a) : Int.tdiv a b = a / b := Int.tdiv_eq_ediv_of_nonneg h
theorem ev_some {α : Type} (r : α) : Ev (fun _ => some r) r := Ev.now r
theorem ev_pos {α : Type} {c : Prop} [Decidable c] {A B : Nat → Option α} {r : α} (h : c) (e : Ev A r) : Ev (fun k => if c then A k else B k) r := by
  simpa only [if_pos h] using e
theorem ev_neg {α : Type} {c : Prop} [Decidable c] {A B : Nat → Option α} {r : α} (h : ¬ c) (e : Ev B r) : Ev (fun k => if c then A k else B k) r := by
  simpa only [if_neg h] using e
theorem ev_opt {α β : Type} {o : Option α} {f : Nat → α → Option β} {a : α} {r : β} (h : o = some a) (e : Ev (fun n => f n a) r) : Ev (fun n => o.bind (f n)) r := by
  simpa only [h, Option.bind_some] using e
theorem ev_to {α : Type} {g : Nat → Option α} {r r' : α} (e : Ev g r) (h : r = r') : Ev g r' := h ▸ e
theorem ev_fix {α : Type} {o : Option α} {r : α} (h : o = some r) : Ev (fun _ => o) r := ⟨0, fun _ _ => h⟩
theorem rd_nat (l : List Int) (i : Nat) (h : i < l.length) : rd l (i : Int) = l[i] := by
  unfold rd
  simp [List.getD_eq_getElem?_getD, h]
theorem rd_mem (l : List Int) (i : Int) (h0 : 0 ≤ i) (h : i < l.length) : rd l i ∈ l := by
  obtain ⟨n, rfl⟩ := Int.eq_ofNat_of_zero_le h0
  rw [rd_nat l n (by omega)]
  exact List.getElem_mem _
theorem u8_range {x : Int} (h : (Lit.int .u8 x).wf = true) : 0 ≤ x ∧ x ≤ 255 := by
  simp [Lit.wf, IntKind.min, IntKind.max, IntKind.signed, IntKind.bits] at h
  omega
theorem i64_range {x : Int} (h : (Lit.int .i64 x).wf = true) : -9223372036854775808 ≤ x ∧ x ≤ 9223372036854775807 := by
  simp [Lit.wf, IntKind.min, IntKind.max, IntKind.signed, IntKind.bits] at h
  omega
theorem set_mid {α : Type} (a : List α) (x : α) (b : List α) (y : α) : (a ++ x :: b).set a.length y = a ++ y :: b := by simp
theorem take_full {α : Type} {a b : List α} (hl : b.length = a.length) (ht : b.take a.length = a.take a.length) : b = a := by
  rw [List.take_of_length_le (by omega), List.take_of_length_le (by omega)] at ht
  exact ht
theorem take_next {α : Type} {a b : List α} {i : Nat} (ha : i < a.length) (hb : i < b.length) (ht : b.take i = a.take i) (hx : b[i] = a[i]) : b.take (i + 1) = a.take (i + 1) := by
  rw [List.take_succ_eq_append_getElem ha, List.take_succ_eq_append_getElem hb, ht, hx]
theorem ev_cond {α : Type} {c : Prop} [Decidable c] {A B : Nat → Option α} {r r' : α} (hp : c → Ev A r) (hn : ¬ c → Ev B r') : Ev (fun k => if c then A k else B k) (if c then r else r') := by
  by_cases h : c
  · rw [if_pos h]; exact ev_pos h (hp h)
  · rw [if_neg h]; exact ev_neg h (hn h)
theorem set_take {α : Type} {a b : List α} {i : Nat} {x : α} (h : i < a.length) (hl : b.length = a.length) (ht : b.take i = a.take i) (hx : x = a[i]) : (b.set i x).take (i + 1) = a.take (i + 1) := by
  refine take_next h (by simp; omega) ?_ (by simp [hx])
  rw [← ht]
  apply List.ext_getElem?
  intro j
  simp only [List.getElem?_take, List.getElem?_set]
  by_cases hj : j < i
  · rw [if_pos hj, if_pos hj, if_neg (by omega)]
  · rw [if_neg hj, if_neg hj]
theorem ev_succ {α : Type} {g : Nat → Option α} {r : α} (h : ∀ k, g (k + 1) = some r) : Ev g r := Ev.step h (ev_some r)
theorem down {P : Nat → Prop} (n : Nat) (hend : P n) (hstep : ∀ i, i < n → P (i + 1) → P i) : ∀ i, i ≤ n → P i := by
  intro i hi
  obtain ⟨d, hd⟩ : ∃ d, i + d = n := ⟨n - i, by omega⟩
  induction d generalizing i with
  | zero =>
    obtain rfl : i = n := by omega
    exact hend
  | succ d ih => exact hstep i (by omega) (ih (i + 1) (by omega) (by omega))
theorem getD_nat {α : Type} (l : List α) (z : α) (i : Nat) (h : i < l.length) : l.getD (i : Int).toNat z = l[i] := by
  simp [List.getD_eq_getElem?_getD, h]
/-- A loop that writes the image of each element into its place. -/
theorem map_loop {α β : Type} (F : Nat → List β → Int → Option (List β)) (l : List α) (c : α → β)
    (hend : ∀ k (b : List β), F (k + 1) b l.length = some b) (hstep : ∀ k (b : List β) (i : Nat) (h : i < l.length), b.length = l.length → F (k + 1) b i = F k (b.set i (c l[i])) ((i + 1 : Nat) : Int)) :
    ∀ (b : List β), b.length = l.length → Ev (fun k => F k b 0) (l.map c) := by
  have key : ∀ (i : Nat), i ≤ l.length → ∀ (b : List β), b.length = l.length → b.take i = (l.map c).take i → Ev (fun k => F k b i) (l.map c) := by
    refine down l.length ?_ ?_
    · intro b hl ht
      refine Ev.step (fun k => hend k b) ?_
      rw [take_full (a := l.map c) (b := b) (by simpa using hl) (by simpa using ht)]
      exact ev_some _
    · intro i hi ih b hl ht
      refine Ev.step (fun k => hstep k b i hi hl) (ih _ (by simpa using hl) ?_)
      exact set_take (by simpa using hi) (by simpa using hl) ht (by simp)
  intro b hl
  exact key 0 (by omega) b hl (by simp)
/-- A loop that goes through all places and answers r. -/
theorem count_loop {ρ : Type} (F : Nat → Int → Option ρ) (n : Nat) (r : ρ) (hend : ∀ k, F (k + 1) n = some r) (hstep : ∀ k (i : Nat), i < n → F (k + 1) i = F k ((i + 1 : Nat) : Int)) : Ev (fun k => F k 0) r := by
  have key : ∀ i, i ≤ n → Ev (fun k => F k (i : Nat)) r := down n (Ev.step hend (ev_some r)) (fun i hi ih => Ev.step (fun k => hstep k i hi) ih)
  exact key 0 (by omega)

structure Sl where
  fl : Int
  fh : Int
  tl : Int
  th : Int
  pl : Int
  ph : Int
  ql : Int
  qh : Int
  pr : Int
def rok (lo hi most : Int) : Prop := 0 ≤ lo ∧ lo ≤ hi ∧ hi ≤ most
instance (lo hi most : Int) : Decidable (rok lo hi most) := by unfold rok; infer_instance
def selOk (s : Sl) : Prop := rok s.fl s.fh 4294967295 ∧ rok s.tl s.th 4294967295 ∧ rok s.pl s.ph 65535 ∧ rok s.ql s.qh 65535 ∧ 0 ≤ s.pr ∧ s.pr ≤ 255
instance (s : Sl) : Decidable (selOk s) := by unfold selOk; infer_instance
def hasP (p : Int) : Prop := p = 6 ∨ p = 17
instance (p : Int) : Decidable (hasP p) := by unfold hasP; infer_instance
def selPorts (s : Sl) : Prop := s.pr = 0 ∨ hasP s.pr ∨ (s.pl = 0 ∧ s.ph = 65535 ∧ s.ql = 0 ∧ s.qh = 65535)
instance (s : Sl) : Decidable (selPorts s) := by unfold selPorts; infer_instance
def selF (s : Sl) : Int := if selOk s then (if selPorts s then 0 else 1) else 3

def fitM (s : Sl) : Option Sl := if s.pr = 0 ∨ hasP s.pr then some s else if (s.pl ≤ 0 ∧ 0 ≤ s.ph) ∧ (s.ql ≤ 0 ∧ 0 ≤ s.qh) then some ⟨s.fl, s.fh, s.tl, s.th, 0, 65535, 0, 65535, s.pr⟩ else none
def crossM (a b : Sl) (pr : Int) : Sl := ⟨max a.fl b.fl, min a.fh b.fh, max a.tl b.tl, min a.th b.th, max a.pl b.pl, min a.ph b.ph, max a.ql b.ql, min a.qh b.qh, pr⟩
def okM (s : Sl) : Prop := s.fl ≤ s.fh ∧ s.tl ≤ s.th ∧ s.pl ≤ s.ph ∧ s.ql ≤ s.qh
instance (s : Sl) : Decidable (okM s) := by unfold okM; infer_instance
def prM (a b : Int) : Prop := a = 0 ∨ b = 0 ∨ a = b
instance (a b : Int) : Decidable (prM a b) := by unfold prM; infer_instance
def meetM (a b : Sl) : Option Sl := if okM (crossM a b 0) ∧ prM a.pr b.pr then fitM (crossM a b (if a.pr = 0 then b.pr else a.pr)) else none
def outB : Option Sl → Int × Int × Int × Int × Int × Int × Int × Int × Int × Bool
  | some s => (s.fl, s.fh, s.tl, s.th, s.pl, s.ph, s.ql, s.qh, s.pr, true)
  | none => (0, 0, 0, 0, 0, 0, 0, 0, 0, false)
def outC : Option Sl → Int × Int × Int × Int × Int × Int × Int × Int × Int × Int
  | some s => (s.fl, s.fh, s.tl, s.th, s.pl, s.ph, s.ql, s.qh, s.pr, 0)
  | none => (0, 0, 0, 0, 0, 0, 0, 0, 0, 4)
theorem mx_eq (a b : Int) : mx a b = max a b := by
  unfold mx
  omega
theorem mn_eq (a b : Int) : mn a b = min a b := by
  unfold mn
  omega

theorem q_spec_HasPorts (a : Int) : spec_HasPorts.f a = some (decide (a = 6 ∨ a = 17)) := by
  unfold spec_HasPorts.f
  by_cases h : a = 6
  · simp [h]
  · by_cases g : a = 17
    · simp [g]
    · simp [h, g]
theorem q_impl_HasPorts (a : Int) : impl_HasPorts.f a = some (decide (a = 6 ∨ a = 17)) := by
  unfold impl_HasPorts.f
  by_cases h : a = 6
  · simp [h]
  · by_cases g : a = 17
    · simp [g]
    · simp [h, g]

theorem q_l3Meet (a b c d : Int) : spec_l3Meet.f a b c d = some (max a c, min b d) := by
  unfold spec_l3Meet.f
  have h1 : spec_l1Max.f a c = some (max a c) := by
    unfold spec_l1Max.f
    by_cases h : a > c
    · rw [if_pos h, show max a c = a by omega]
    · rw [if_neg h, show max a c = c by omega]
  have h2 : spec_l1Min.f b d = some (min b d) := by
    unfold spec_l1Min.f
    by_cases h : b < d
    · rw [if_pos h, show min b d = b by omega]
    · rw [if_neg h, show min b d = d by omega]
  rw [h1, h2]
  rfl
theorem q_l1Max (a c : Int) : spec_l1Max.f a c = some (max a c) := by
  unfold spec_l1Max.f
  by_cases h : a > c
  · rw [if_pos h, show max a c = a by omega]
  · rw [if_neg h, show max a c = c by omega]
theorem q_l1Min (b d : Int) : spec_l1Min.f b d = some (min b d) := by
  unfold spec_l1Min.f
  by_cases h : b < d
  · rw [if_pos h, show min b d = b by omega]
  · rw [if_neg h, show min b d = d by omega]
theorem q_l3Common_j3 (k : Nat) (b : Bool) (s : Sl) : spec_l3Common.j3 (k + 1) b s.fl s.fh s.tl s.th s.pl s.ph s.ql s.qh s.pr = some (outC (if b = true then none else some ⟨s.fl, s.fh, s.tl, s.th, 0, 65535, 0, 65535, s.pr⟩)) := by
  rw [spec_l3Common.j3]
  cases b <;> rfl
theorem q_l3Common_j2 (k : Nat) (b : Bool) (s : Sl) (hb : b = true ↔ ¬ (s.pr = 0 ∨ hasP s.pr)) (h0 : 0 ≤ s.ph ∧ 0 ≤ s.qh) : spec_l3Common.j2 (k + 2) b s.fl s.fh s.tl s.th s.pl s.ph s.ql s.qh s.pr = some (outC (fitM s)) := by
  rw [spec_l3Common.j2]
  simp only [q_l3Common_j3]
  unfold fitM
  by_cases h : s.pr = 0 ∨ hasP s.pr
  · rw [if_pos h, if_neg (fun e => hb.mp e h)]
    rfl
  · rw [if_neg h, if_pos (hb.mpr h)]
    by_cases h1 : s.pl > 0
    · rw [if_pos h1, if_pos trivial, if_neg (by omega)]
    · rw [if_neg h1]
      by_cases h2 : s.ql > 0
      · rw [if_pos (by simpa using h2), if_neg (by omega)]
      · rw [if_neg (by simpa using h2), if_pos (by omega)]
theorem q_l3Common_j1 (k : Nat) (b : Bool) (s : Sl) (h0 : 0 ≤ s.ph ∧ 0 ≤ s.qh) : spec_l3Common.j1 (k + 3) b s.fl s.fh s.tl s.th s.pl s.ph s.ql s.qh s.pr = some (outC (if b = true then none else fitM s)) := by
  rw [spec_l3Common.j1, q_spec_HasPorts, Option.bind_some]
  cases b
  · simp only [Bool.false_eq_true, if_false]
    by_cases h : s.pr = 0
    · rw [if_pos h, q_l3Common_j2 k false s (by simp [h]) h0]
    · rw [if_neg h, q_l3Common_j2 k _ s (by simp [h, hasP]) h0]
  · rfl
theorem q_l3Common_l0 (k : Nat) (a b s : Sl) (h0 : 0 ≤ s.ph ∧ 0 ≤ s.qh) (ha : 0 ≤ a.pr) (hb : 0 ≤ b.pr) : spec_l3Common.l0 (k + 8) [⟨s.fl, s.fh⟩, ⟨s.tl, s.th⟩, ⟨s.pl, s.ph⟩, ⟨s.ql, s.qh⟩] 0 a.fl a.fh a.tl a.th a.pl a.ph a.ql a.qh a.pr b.fl b.fh b.tl b.th b.pl b.ph b.ql b.qh b.pr s.fl s.fh s.tl s.th s.pl s.ph s.ql s.qh s.pr = some (outC (if okM s ∧ prM a.pr b.pr then fitM s else none)) := by
  have e1 : wrap64 (0 + 1) = 1 := by rw [w64 (by omega) (by omega)]; rfl
  have e2 : wrap64 (1 + 1) = 2 := by rw [w64 (by omega) (by omega)]; rfl
  have e3 : wrap64 (2 + 1) = 3 := by rw [w64 (by omega) (by omega)]; rfl
  have e4 : wrap64 (3 + 1) = 4 := by rw [w64 (by omega) (by omega)]; rfl
  have r0 : rd_T33 [⟨s.fl, s.fh⟩, ⟨s.tl, s.th⟩, ⟨s.pl, s.ph⟩, ⟨s.ql, s.qh⟩] 0 = ⟨s.fl, s.fh⟩ := rfl
  have r1 : rd_T33 [⟨s.fl, s.fh⟩, ⟨s.tl, s.th⟩, ⟨s.pl, s.ph⟩, ⟨s.ql, s.qh⟩] 1 = ⟨s.tl, s.th⟩ := rfl
  have r2 : rd_T33 [⟨s.fl, s.fh⟩, ⟨s.tl, s.th⟩, ⟨s.pl, s.ph⟩, ⟨s.ql, s.qh⟩] 2 = ⟨s.pl, s.ph⟩ := rfl
  have r3 : rd_T33 [⟨s.fl, s.fh⟩, ⟨s.tl, s.th⟩, ⟨s.pl, s.ph⟩, ⟨s.ql, s.qh⟩] 3 = ⟨s.ql, s.qh⟩ := rfl
  unfold okM
  rw [spec_l3Common.l0, if_pos (by omega), if_pos (by omega), if_pos (by simp), r0, e1]
  by_cases h1 : s.fl ≤ s.fh
  · rw [if_neg (by simpa using h1), spec_l3Common.l0, if_pos (by omega), if_pos (by omega), if_pos (by simp), r1, e2]
    by_cases h2 : s.tl ≤ s.th
    · rw [if_neg (by simpa using h2), spec_l3Common.l0, if_pos (by omega), if_pos (by omega), if_pos (by simp), r2, e3]
      by_cases h3 : s.pl ≤ s.ph
      · rw [if_neg (by simpa using h3), spec_l3Common.l0, if_pos (by omega), if_pos (by omega), if_pos (by simp), r3, e4]
        by_cases h4 : s.ql ≤ s.qh
        · rw [if_neg (by simpa using h4), spec_l3Common.l0, if_neg (by omega), q_l1Min, Option.bind_some, q_l3Common_j1 k _ s h0, q_l3Common_j1 k _ s h0]
          unfold prM
          by_cases h5 : a.pr = b.pr
          · rw [if_pos h5, if_neg (by simp), if_pos ⟨⟨h1, h2, h3, h4⟩, .inr (.inr h5)⟩]
          · rw [if_neg h5]
            by_cases h6 : a.pr = 0 ∨ b.pr = 0
            · rw [if_neg (by simp only [bne_iff_ne, ne_eq, Decidable.not_not]; omega), if_pos ⟨⟨h1, h2, h3, h4⟩, by omega⟩]
            · rw [if_pos (by simp only [bne_iff_ne, ne_eq]; omega), if_neg (by omega)]
        · rw [if_pos (by simpa using h4), if_neg (by omega)]
          rfl
      · rw [if_pos (by simpa using h3), if_neg (by omega)]
        rfl
    · rw [if_pos (by simpa using h2), if_neg (by omega)]
      rfl
  · rw [if_pos (by simpa using h1), if_neg (by omega)]
    rfl
theorem selF_ok {s : Sl} (h : selF s = 0) : selOk s := by
  unfold selF at h
  by_cases g : selOk s
  · exact g
  · rw [if_neg g] at h
    exact absurd h (by omega)
theorem q_spec_l3Common (k : Nat) (a b : Sl) (ha : selF a = 0) (hb : selF b = 0) : spec_l3Common.f (k + 8) a.fl a.fh a.tl a.th a.pl a.ph a.ql a.qh a.pr b.fl b.fh b.tl b.th b.pl b.ph b.ql b.qh b.pr = some (outC (meetM a b)) := by
  obtain ⟨_, _, ⟨a1, a2, a3⟩, ⟨a4, a5, a6⟩, a7, _⟩ := selF_ok ha
  obtain ⟨_, _, ⟨b1, b2, b3⟩, ⟨b4, b5, b6⟩, b7, _⟩ := selF_ok hb
  unfold spec_l3Common.f
  simp only [q_l3Meet, q_l1Max, Option.bind_some]
  have h := q_l3Common_l0 k a b (crossM a b (max a.pr b.pr)) ⟨by simp only [crossM]; omega, by simp only [crossM]; omega⟩ a7 b7
  simp only [crossM] at h
  rw [h]
  unfold meetM okM crossM prM
  by_cases h5 : a.pr = 0 ∨ b.pr = 0 ∨ a.pr = b.pr
  · rw [show max a.pr b.pr = if a.pr = 0 then b.pr else a.pr by split <;> omega]
  · simp only [h5, and_false, if_false]
theorem ev_up {α : Type} {g : Nat → Option α} {r : α} (n : Nat) (h : ∀ k, g (k + n) = some r) : Ev g r := by
  refine ⟨n, fun m hm => ?_⟩
  have := h (m - n)
  rwa [Nat.sub_add_cancel hm] at this
theorem ev_spec_l3Common (a b : Sl) (ha : selF a = 0) (hb : selF b = 0) : Ev (fun k => spec_l3Common.f k a.fl a.fh a.tl a.th a.pl a.ph a.ql a.qh a.pr b.fl b.fh b.tl b.th b.pl b.ph b.ql b.qh b.pr) (outC (meetM a b)) := ev_up 8 (fun k => q_spec_l3Common k a b ha hb)

theorem q_impl_in (a b c : Int) : impl_in.f a b c = some (decide (b ≤ a ∧ a ≤ c)) := by
  unfold impl_in.f
  by_cases h : b ≤ a
  · simp [h]
  · simp [h]

theorem q_meetSels_j3 (k : Nat) (b : Bool) (s : Sl) : impl_meetSels.j3 (k + 1) b s.fl s.fh s.tl s.th s.pl s.ph s.ql s.qh s.pr = some (outB (if b = true then none else some ⟨s.fl, s.fh, s.tl, s.th, 0, 65535, 0, 65535, s.pr⟩)) := by
  rw [impl_meetSels.j3]
  cases b <;> rfl
theorem q_meetSels_j2 (k : Nat) (b : Bool) (s : Sl) (hb : b = true ↔ (s.pr = 0 ∨ hasP s.pr)) : impl_meetSels.j2 (k + 2) b s.fl s.fh s.tl s.th s.pl s.ph s.ql s.qh s.pr = some (outB (fitM s)) := by
  rw [impl_meetSels.j2]
  simp only [q_meetSels_j3, impl_Range_has.f, q_impl_in, Option.bind_some, decide_eq_true_eq]
  unfold fitM
  by_cases h : s.pr = 0 ∨ hasP s.pr
  · rw [if_pos h, if_pos (hb.mpr h)]
    rfl
  · rw [if_neg h, if_neg (fun e => h (hb.mp e))]
    by_cases h1 : s.pl ≤ 0 ∧ 0 ≤ s.ph <;> by_cases h2 : s.ql ≤ 0 ∧ 0 ≤ s.qh <;> simp [h1, h2]
theorem q_meetSels_j1 (k : Nat) (s : Sl) : impl_meetSels.j1 (k + 3) s.fl s.fh s.tl s.th s.pl s.ph s.ql s.qh s.pr = some (outB (fitM s)) := by
  rw [impl_meetSels.j1, q_impl_HasPorts, Option.bind_some]
  by_cases h : s.pr = 0
  · rw [if_pos h, q_meetSels_j2 k true s (by simp [h])]
  · rw [if_neg h, q_meetSels_j2 k _ s (by simp [h, hasP])]
theorem q_meetSels_j0 (k : Nat) (b : Bool) (p0 p1 p2 p3 p4 p5 p6 p7 q : Int) (s : Sl) : impl_meetSels.j0 (k + 4) b p0 p1 p2 p3 p4 p5 p6 p7 q s.fl s.fh s.tl s.th s.pl s.ph s.ql s.qh s.pr = some (outB (if b = true then none else fitM ⟨s.fl, s.fh, s.tl, s.th, s.pl, s.ph, s.ql, s.qh, if s.pr = 0 then q else s.pr⟩)) := by
  rw [impl_meetSels.j0]
  cases b
  · simp only [Bool.false_eq_true, if_false]
    by_cases h : s.pr = 0
    · rw [if_pos h, if_pos h]
      exact q_meetSels_j1 k ⟨s.fl, s.fh, s.tl, s.th, s.pl, s.ph, s.ql, s.qh, q⟩
    · rw [if_neg h, if_neg h]
      exact q_meetSels_j1 k ⟨s.fl, s.fh, s.tl, s.th, s.pl, s.ph, s.ql, s.qh, s.pr⟩
  · rfl
theorem q_impl_meetSels (k : Nat) (a b : Sl) : impl_meetSels.f (k + 4) a.fl a.fh a.tl a.th a.pl a.ph a.ql a.qh a.pr b.fl b.fh b.tl b.th b.pl b.ph b.ql b.qh b.pr = some (outB (meetM a b)) := by
  have hj := fun c => q_meetSels_j0 k c b.fl b.fh b.tl b.th b.pl b.ph b.ql b.qh b.pr (crossM a b a.pr)
  simp only [crossM] at hj
  unfold impl_meetSels.f
  simp only [impl_Range_meet.f, Option.bind_some, mx_eq, mn_eq, decide_eq_true_eq, hj]
  by_cases h1 : max a.fl b.fl ≤ min a.fh b.fh
  · rw [if_pos h1]
    by_cases h2 : max a.tl b.tl ≤ min a.th b.th
    · rw [if_pos h2]
      by_cases h3 : max a.pl b.pl ≤ min a.ph b.ph
      · rw [if_pos h3]
        by_cases h4 : max a.ql b.ql ≤ min a.qh b.qh
        · rw [if_pos h4]
          have hok : okM (crossM a b 0) := ⟨h1, h2, h3, h4⟩
          by_cases h5 : prM a.pr b.pr
          · have hm : meetM a b = fitM (crossM a b (if a.pr = 0 then b.pr else a.pr)) := if_pos ⟨hok, h5⟩
            rw [hm]
            unfold prM at h5
            clear hm hj
            have hz : ∀ c : Bool, c = false → some (outB (if c = true then none else fitM (crossM a b (if a.pr = 0 then b.pr else a.pr)))) = some (outB (fitM (crossM a b (if a.pr = 0 then b.pr else a.pr)))) := by
              intro c hc
              rw [hc]
              rfl
            by_cases h6 : a.pr = 0
            · exact (if_pos h6).trans rfl
            · refine (if_neg h6).trans ?_
              by_cases h7 : b.pr = 0
              · exact (if_pos h7).trans rfl
              · refine (if_neg h7).trans ?_
                exact hz _ (by rw [show a.pr = b.pr by omega]; simp)
          · have hm : meetM a b = none := if_neg (fun e => h5 e.2)
            rw [hm]
            unfold prM at h5
            refine (if_neg (by omega)).trans ((if_neg (by omega)).trans ?_)
            have h8 : (a.pr != b.pr) = true := by simp only [bne_iff_ne, ne_eq]; omega
            rw [if_pos h8]
        · rw [if_neg h4, show meetM a b = none from if_neg (fun e => h4 e.1.2.2.2)]
          rfl
      · rw [if_neg h3, show meetM a b = none from if_neg (fun e => h3 e.1.2.2.1)]
        rfl
    · rw [if_neg h2, show meetM a b = none from if_neg (fun e => h2 e.1.2.1)]
      rfl
  · rw [if_neg h1, show meetM a b = none from if_neg (fun e => h1 e.1.1)]
    rfl
theorem ev_impl_meetSels (a b : Sl) : Ev (fun k => impl_meetSels.f k a.fl a.fh a.tl a.th a.pl a.ph a.ql a.qh a.pr b.fl b.fh b.tl b.th b.pl b.ph b.ql b.qh b.pr) (outB (meetM a b)) := by
  refine Ev.step (f := fun k => impl_meetSels.f (k + 1) a.fl a.fh a.tl a.th a.pl a.ph a.ql a.qh a.pr b.fl b.fh b.tl b.th b.pl b.ph b.ql b.qh b.pr) (fun k => rfl) ?_
  refine Ev.step (f := fun k => impl_meetSels.f (k + 2) a.fl a.fh a.tl a.th a.pl a.ph a.ql a.qh a.pr b.fl b.fh b.tl b.th b.pl b.ph b.ql b.qh b.pr) (fun k => rfl) ?_
  refine Ev.step (f := fun k => impl_meetSels.f (k + 3) a.fl a.fh a.tl a.th a.pl a.ph a.ql a.qh a.pr b.fl b.fh b.tl b.th b.pl b.ph b.ql b.qh b.pr) (fun k => rfl) ?_
  exact ev_succ (fun k => q_impl_meetSels k a b)

theorem q_spec_l1In (a b c : Int) : spec_l1In.f a b c = some (decide (b ≤ a ∧ a ≤ c)) := by
  unfold spec_l1In.f
  by_cases h : b ≤ a
  · simp [h]
  · simp [h]

theorem q_spec_l3Range (lo hi m : Int) : spec_l3Range.f lo hi m = some (decide (rok lo hi m)) := by
  unfold spec_l3Range.f rok
  by_cases h : 0 ≤ lo
  · by_cases g : lo ≤ hi
    · simp [h, g]
    · simp [h, g]
  · simp [h]
theorem q_spec_SelFault_j0 (k : Nat) (b : Bool) (s : Sl) : spec_SelFault.j0 (k + 1) b s.fl s.fh s.tl s.th s.pl s.ph s.ql s.qh s.pr = some (if b = true then 3 else if selPorts s then 0 else 1) := by
  rw [spec_SelFault.j0]
  simp only [q_spec_HasPorts, spec_l3All.f, Option.bind_some, decide_eq_true_eq]
  unfold selPorts hasP
  cases b
  · by_cases h1 : s.pr = 0
    · simp [h1]
    · by_cases h2 : s.pr = 6 ∨ s.pr = 17
      · simp [h1, h2]
      · by_cases h3 : s.pl = 0 <;> by_cases h4 : s.ph = 65535 <;> by_cases h5 : s.ql = 0 <;> by_cases h6 : s.qh = 65535 <;> simp [h1, h2, h3, h4, h5, h6]
  · simp
theorem q_spec_SelFault (k : Nat) (s : Sl) : spec_SelFault.f (k + 1) s.fl s.fh s.tl s.th s.pl s.ph s.ql s.qh s.pr = some (selF s) := by
  unfold spec_SelFault.f
  simp only [q_spec_l3Range, q_spec_l1In, q_spec_SelFault_j0, Option.bind_some, decide_eq_true_eq]
  unfold selF selOk
  by_cases h1 : rok s.fl s.fh 4294967295 <;> by_cases h2 : rok s.tl s.th 4294967295 <;> by_cases h3 : rok s.pl s.ph 65535 <;> by_cases h4 : rok s.ql s.qh 65535 <;> by_cases h5 : 0 ≤ s.pr ∧ s.pr ≤ 255 <;> simp [h1, h2, h3, h4, h5]
theorem ev_spec_SelFault (s : Sl) : Ev (fun k => spec_SelFault.f k s.fl s.fh s.tl s.th s.pl s.ph s.ql s.qh s.pr) (selF s) := ev_succ (fun k => q_spec_SelFault k s)

theorem q_impl_Range_ok (lo hi m : Int) : impl_Range_ok.f lo hi m = some (decide (rok lo hi m)) := by
  unfold impl_Range_ok.f
  simp only [q_impl_in, Option.bind_some, decide_eq_true_eq]
  by_cases hr : rok lo hi m
  · rw [decide_eq_true hr]
    unfold rok at hr
    rw [if_pos (by omega), if_pos (by omega), decide_eq_true (by omega)]
  · rw [decide_eq_false hr]
    unfold rok at hr
    by_cases h : 0 ≤ lo ∧ lo ≤ m
    · by_cases g : 0 ≤ hi ∧ hi ≤ m
      · rw [if_pos h, if_pos g, decide_eq_false (by omega)]
      · rw [if_pos h, if_neg g]
    · rw [if_neg h]
theorem q_impl_SelFault_j0 (k : Nat) (b : Bool) (s : Sl) : impl_SelFault.j0 (k + 1) b s.fl s.fh s.tl s.th s.pl s.ph s.ql s.qh s.pr = some (if b = true then 3 else if selPorts s then 0 else 1) := by
  rw [impl_SelFault.j0]
  simp only [q_impl_HasPorts, impl_whole.f, Option.bind_some, decide_eq_true_eq]
  unfold selPorts hasP
  cases b
  · by_cases h1 : s.pr = 0
    · simp [h1]
    · by_cases h2 : s.pr = 6 ∨ s.pr = 17
      · simp [h1, h2]
      · by_cases h3 : s.pl = 0 <;> by_cases h4 : s.ph = 65535 <;> by_cases h5 : s.ql = 0 <;> by_cases h6 : s.qh = 65535 <;> simp [h1, h2, h3, h4, h5, h6]
  · simp
theorem q_impl_SelFault (k : Nat) (s : Sl) : impl_SelFault.f (k + 1) s.fl s.fh s.tl s.th s.pl s.ph s.ql s.qh s.pr = some (selF s) := by
  unfold impl_SelFault.f
  simp only [q_impl_Range_ok, q_impl_in, q_impl_SelFault_j0, Option.bind_some, decide_eq_true_eq]
  unfold selF selOk
  by_cases h1 : rok s.fl s.fh 4294967295 <;> by_cases h2 : rok s.tl s.th 4294967295 <;> by_cases h3 : rok s.pl s.ph 65535 <;> by_cases h4 : rok s.ql s.qh 65535 <;> by_cases h5 : 0 ≤ s.pr ∧ s.pr ≤ 255 <;> simp [h1, h2, h3, h4, h5]
theorem ev_impl_SelFault (s : Sl) : Ev (fun k => impl_SelFault.f k s.fl s.fh s.tl s.th s.pl s.ph s.ql s.qh s.pr) (selF s) := ev_succ (fun k => q_impl_SelFault k s)

def firstF : List Int → Int
  | [] => 0
  | x :: xs => if x = 0 then firstF xs else x
theorem ev_impl_faultOf_loop (l : List Int) (hl : l.length ≤ 1000000) : ∀ (d i : Nat), i + d = l.length → Ev (fun k => impl_faultOf.l0 k l l.length i) (firstF (l.drop i)) := by
  intro d
  induction d with
  | zero =>
    intro i hi
    obtain rfl : i = l.length := by omega
    rw [List.drop_length]
    refine Ev.step (fun k => by rw [impl_faultOf.l0, if_neg (by omega)]) ?_
    exact ev_some _
  | succ d ih =>
    intro i hi
    have hr := rd_nat l i (by omega)
    rw [List.drop_eq_getElem_cons (by omega : i < l.length), firstF, ← hr]
    by_cases h : rd l i = 0
    · refine Ev.step (fun k => by rw [impl_faultOf.l0, if_pos (by omega), if_pos (by omega), if_pos (by omega), if_pos h]) ?_
      rw [w64 (by omega) (by omega), if_pos h]
      exact ih (i + 1) (by omega)
    · refine Ev.step (fun k => by rw [impl_faultOf.l0, if_pos (by omega), if_pos (by omega), if_pos (by omega), if_neg h]) ?_
      rw [if_neg h]
      exact ev_some _
theorem ev_impl_faultOf (l : List Int) (hl : l.length ≤ 1000000) : Ev (fun k => impl_faultOf.f k l) (firstF l) := ev_impl_faultOf_loop l hl l.length 0 (by omega)
theorem ev_faultOf2 (a b : Int) : Ev (fun k => impl_faultOf.f k [a, b]) (if a = 0 then b else a) := by
  refine ev_to (ev_impl_faultOf [a, b] (by simp)) ?_
  simp only [firstF]
  by_cases h : a = 0
  · rw [if_pos h, if_pos h]
    split
    · rename_i hb; exact hb.symm
    · rfl
  · rw [if_neg h, if_neg h]

theorem q_toSel (a b c d e f g h i : Int) : laws_toSel.f a b c d e f g h i = some (a, b, c, d, e, f, g, h, i) := rfl

def meetR (a b : Sl) : Int × Int × Int × Int × Int × Int × Int × Int × Int × Int :=
  if selF a = 0 then (if selF b = 0 then ((outC (meetM a b)).2.2.2.2.2.2.2.2.2, (outC (meetM a b)).1, (outC (meetM a b)).2.1, (outC (meetM a b)).2.2.1, (outC (meetM a b)).2.2.2.1, (outC (meetM a b)).2.2.2.2.1, (outC (meetM a b)).2.2.2.2.2.1, (outC (meetM a b)).2.2.2.2.2.2.1, (outC (meetM a b)).2.2.2.2.2.2.2.1, (outC (meetM a b)).2.2.2.2.2.2.2.2.1) else (selF b, 0, 0, 0, 0, 0, 0, 0, 0, 0)) else (selF a, 0, 0, 0, 0, 0, 0, 0, 0, 0)
theorem ev_spec_MeetSels (a b : Sl) : Ev (fun k => spec_MeetSels.f k a.fl a.fh a.tl a.th a.pl a.ph a.ql a.qh a.pr b.fl b.fh b.tl b.th b.pl b.ph b.ql b.qh b.pr) (meetR a b) := by
  unfold spec_MeetSels.f meetR
  refine Ev.bind (ev_spec_SelFault a) (ev_cond (fun ha => ?_) (fun h => ev_some _))
  refine Ev.bind (ev_spec_SelFault b) (ev_cond (fun hb => ?_) (fun h => ev_some _))
  exact Ev.bind (ev_spec_l3Common a b ha hb) (ev_some _)
theorem ev_impl_MeetSels (a b : Sl) : Ev (fun k => impl_MeetSels.f k a.fl a.fh a.tl a.th a.pl a.ph a.ql a.qh a.pr b.fl b.fh b.tl b.th b.pl b.ph b.ql b.qh b.pr) (meetR a b) := by
  unfold impl_MeetSels.f meetR
  refine Ev.bind (ev_impl_SelFault a) (Ev.bind (ev_impl_SelFault b) (Ev.bind (ev_faultOf2 _ _) ?_))
  by_cases h : selF a = 0
  · rw [if_pos h, if_pos h]
    refine ev_cond (fun hb => Ev.bind (ev_impl_meetSels a b) ?_) (fun hb => ev_some _)
    cases meetM a b with
    | none => exact ev_neg (by simp [outB]) (ev_some _)
    | some s => exact ev_pos rfl (ev_some _)
  · rw [if_neg h, if_neg h]
    exact ev_neg h (ev_some _)
theorem FnExactMeetSels : laws_FnExactMeetSels.Pure := by
  intro a b c d e f g h i a' b' c' d' e' f' g' h' i'
  intros
  apply Ev.rounds
  have heq : ∀ (z a b c d e f g h i : Int), laws_eqSelResult.f z a b c d e f g h i z a b c d e f g h i = some true := by
    intro z a b c d e f g h i
    simp [laws_eqSelResult.f, laws_eqSel.f, laws_eqRange.f]
  unfold laws_FnExactMeetSels.f
  refine ev_opt (q_toSel a b c d e f g h i) (ev_opt (q_toSel a' b' c' d' e' f' g' h' i') (Ev.bind (ev_spec_MeetSels ⟨a, b, c, d, e, f, g, h, i⟩ ⟨a', b', c', d', e', f', g', h', i'⟩) ?_))
  refine ev_opt (q_toSel a b c d e f g h i) (ev_opt (q_toSel a' b' c' d' e' f' g' h' i') (Ev.bind (ev_impl_MeetSels ⟨a, b, c, d, e, f, g, h, i⟩ ⟨a', b', c', d', e', f', g', h', i'⟩) ?_))
  exact ev_opt (heq _ _ _ _ _ _ _ _ _ _) (ev_pos rfl (ev_some _))

end Go.Proofs.Ythmlhnfoibbhaaa.Pure
