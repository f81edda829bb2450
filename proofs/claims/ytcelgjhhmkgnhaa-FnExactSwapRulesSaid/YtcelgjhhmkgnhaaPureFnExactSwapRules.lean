
/- Proved: the law FnExactSwapRules answers true at every input that Go can hand in (it says: The program's SwapRules returns what the reference's returns, for all arguments.) No condition beyond the statement's own. -/
import Derived.Test.YtcelgjhhmkgnhaaStFnExactSwapRules
namespace Go.Proofs.Ytcelgjhhmkgnhaa.Pure
open Go.RowKit Go.Proofs.Ytcelgjhhmkgnhaa.PFnExactSwapRules Go.Proofs.YtcelgjhhmkgnhaaW.PrintWords Go.Proofs.YtcelgjhhmkgnhaaW.PrintLast Go.Proofs.YtcelgjhhmkgnhaaW.PrintMore
set_option linter.unusedVariables false
set_option linter.unusedSimpArgs false

theorem w64 {x : Int} (h0 : -9223372036854775808 ≤ x) (h1 : x ≤ 9223372036854775807) : wrap64 x = x := by
  unfold wrap64
  omega
theorem ev_some {α : Type} (r : α) : Ev (fun _ => some r) r := Ev.now r
theorem ev_pos {α : Type} {c : Prop} [Decidable c] {A B : Nat → Option α} {r : α} (h : c) (e : Ev A r) : Ev (fun k => if c then A k else B k) r := by
  simpa only [if_pos h] using e
theorem ev_neg {α : Type} {c : Prop} [Decidable c] {A B : Nat → Option α} {r : α} (h : ¬ c) (e : Ev B r) : Ev (fun k => if c then A k else B k) r := by
  simpa only [if_neg h] using e
theorem ev_opt {α β : Type} {o : Option α} {f : Nat → α → Option β} {a : α} {r : β} (h : o = some a) (e : Ev (fun n => f n a) r) : Ev (fun n => o.bind (f n)) r := by
  simpa only [h, Option.bind_some] using e
theorem ev_fix {α : Type} {o : Option α} {r : α} (h : o = some r) : Ev (fun _ => o) r := ⟨0, fun _ _ => h⟩
theorem take_full {α : Type} {a b : List α} (hl : b.length = a.length) (ht : b.take a.length = a.take a.length) : b = a := by
  rw [List.take_of_length_le (by omega), List.take_of_length_le (by omega)] at ht
  exact ht
theorem take_next {α : Type} {a b : List α} {i : Nat} (ha : i < a.length) (hb : i < b.length) (ht : b.take i = a.take i) (hx : b[i] = a[i]) : b.take (i + 1) = a.take (i + 1) := by
  rw [List.take_succ_eq_append_getElem ha, List.take_succ_eq_append_getElem hb, ht, hx]
theorem ev_cond {α : Type} {c : Prop} [Decidable c] {A B : Nat → Option α} {r r' : α} (hp : c → Ev A r) (hn : ¬ c → Ev B r') : Ev (fun k => if c then A k else B k) (if c then r else r') := by
  by_cases h : c
  · rw [if_pos h]; exact ev_pos h (hp h)
  · rw [if_neg h]; exact ev_neg h (hn h)
theorem set_take {α : Type} {a b : List α} {i : Nat} {x : α} (h : i < a.length) (hl : b.length = a.length) (ht : b.take i = a.take i) (hx : x = a[i]) : (b.set i x).take (i + 1) = a.take (i + 1) := by
  refine take_next h (by simp; omega) ?_ (by simp [hx])
  rw [← ht]
  apply List.ext_getElem?
  intro j
  simp only [List.getElem?_take, List.getElem?_set]
  by_cases hj : j < i
  · rw [if_pos hj, if_pos hj, if_neg (by omega)]
  · rw [if_neg hj, if_neg hj]
theorem ev_succ {α : Type} {g : Nat → Option α} {r : α} (h : ∀ k, g (k + 1) = some r) : Ev g r := Ev.step h (ev_some r)
theorem down {P : Nat → Prop} (n : Nat) (hend : P n) (hstep : ∀ i, i < n → P (i + 1) → P i) : ∀ i, i ≤ n → P i := by
  intro i hi
  obtain ⟨d, hd⟩ : ∃ d, i + d = n := ⟨n - i, by omega⟩
  induction d generalizing i with
  | zero =>
    obtain rfl : i = n := by omega
    exact hend
  | succ d ih => exact hstep i (by omega) (ih (i + 1) (by omega) (by omega))
theorem getD_nat {α : Type} (l : List α) (z : α) (i : Nat) (h : i < l.length) : l.getD (i : Int).toNat z = l[i] := by
  simp [List.getD_eq_getElem?_getD, h]
/-- A loop that writes the image of each element into its place. -/
theorem map_loop {α β : Type} (F : Nat → List β → Int → Option (List β)) (l : List α) (c : α → β)
    (hend : ∀ k (b : List β), F (k + 1) b l.length = some b) (hstep : ∀ k (b : List β) (i : Nat) (h : i < l.length), b.length = l.length → F (k + 1) b i = F k (b.set i (c l[i])) ((i + 1 : Nat) : Int)) :
    ∀ (b : List β), b.length = l.length → Ev (fun k => F k b 0) (l.map c) := by
  have key : ∀ (i : Nat), i ≤ l.length → ∀ (b : List β), b.length = l.length → b.take i = (l.map c).take i → Ev (fun k => F k b i) (l.map c) := by
    refine down l.length ?_ ?_
    · intro b hl ht
      refine Ev.step (fun k => hend k b) ?_
      rw [take_full (a := l.map c) (b := b) (by simpa using hl) (by simpa using ht)]
      exact ev_some _
    · intro i hi ih b hl ht
      refine Ev.step (fun k => hstep k b i hi hl) (ih _ (by simpa using hl) ?_)
      exact set_take (by simpa using hi) (by simpa using hl) ht (by simp)
  intro b hl
  exact key 0 (by omega) b hl (by simp)
/-- A loop that goes through all places and answers r. -/
theorem count_loop {ρ : Type} (F : Nat → Int → Option ρ) (n : Nat) (r : ρ) (hend : ∀ k, F (k + 1) n = some r) (hstep : ∀ k (i : Nat), i < n → F (k + 1) i = F k ((i + 1 : Nat) : Int)) : Ev (fun k => F k 0) r := by
  have key : ∀ i, i ≤ n → Ev (fun k => F k (i : Nat)) r := down n (Ev.step hend (ev_some r)) (fun i hi ih => Ev.step (fun k => hstep k i hi) ih)
  exact key 0 (by omega)

structure Sl where
  fl : Int
  fh : Int
  tl : Int
  th : Int
  pl : Int
  ph : Int
  ql : Int
  qh : Int
  pr : Int
def rok (lo hi most : Int) : Prop := 0 ≤ lo ∧ lo ≤ hi ∧ hi ≤ most
instance (lo hi most : Int) : Decidable (rok lo hi most) := by unfold rok; infer_instance
def selOk (s : Sl) : Prop := rok s.fl s.fh 4294967295 ∧ rok s.tl s.th 4294967295 ∧ rok s.pl s.ph 65535 ∧ rok s.ql s.qh 65535 ∧ 0 ≤ s.pr ∧ s.pr ≤ 255
instance (s : Sl) : Decidable (selOk s) := by unfold selOk; infer_instance
def hasP (p : Int) : Prop := p = 6 ∨ p = 17
instance (p : Int) : Decidable (hasP p) := by unfold hasP; infer_instance
def selPorts (s : Sl) : Prop := s.pr = 0 ∨ hasP s.pr ∨ (s.pl = 0 ∧ s.ph = 65535 ∧ s.ql = 0 ∧ s.qh = 65535)
instance (s : Sl) : Decidable (selPorts s) := by unfold selPorts; infer_instance
def selF (s : Sl) : Int := if selOk s then (if selPorts s then 0 else 1) else 3

def fitM (s : Sl) : Option Sl := if s.pr = 0 ∨ hasP s.pr then some s else if (s.pl ≤ 0 ∧ 0 ≤ s.ph) ∧ (s.ql ≤ 0 ∧ 0 ≤ s.qh) then some ⟨s.fl, s.fh, s.tl, s.th, 0, 65535, 0, 65535, s.pr⟩ else none
def crossM (a b : Sl) (pr : Int) : Sl := ⟨max a.fl b.fl, min a.fh b.fh, max a.tl b.tl, min a.th b.th, max a.pl b.pl, min a.ph b.ph, max a.ql b.ql, min a.qh b.qh, pr⟩
def okM (s : Sl) : Prop := s.fl ≤ s.fh ∧ s.tl ≤ s.th ∧ s.pl ≤ s.ph ∧ s.ql ≤ s.qh
instance (s : Sl) : Decidable (okM s) := by unfold okM; infer_instance
def prM (a b : Int) : Prop := a = 0 ∨ b = 0 ∨ a = b
instance (a b : Int) : Decidable (prM a b) := by unfold prM; infer_instance
def meetM (a b : Sl) : Option Sl := if okM (crossM a b 0) ∧ prM a.pr b.pr then fitM (crossM a b (if a.pr = 0 then b.pr else a.pr)) else none
def outB : Option Sl → Int × Int × Int × Int × Int × Int × Int × Int × Int × Bool
  | some s => (s.fl, s.fh, s.tl, s.th, s.pl, s.ph, s.ql, s.qh, s.pr, true)
  | none => (0, 0, 0, 0, 0, 0, 0, 0, 0, false)
def outC : Option Sl → Int × Int × Int × Int × Int × Int × Int × Int × Int × Int
  | some s => (s.fl, s.fh, s.tl, s.th, s.pl, s.ph, s.ql, s.qh, s.pr, 0)
  | none => (0, 0, 0, 0, 0, 0, 0, 0, 0, 4)
theorem mx_eq (a b : Int) : mx a b = max a b := by
  unfold mx
  omega
theorem mn_eq (a b : Int) : mn a b = min a b := by
  unfold mn
  omega

def slOf (x : S65) : Sl := ⟨x.f0.f0, x.f0.f1, x.f1.f0, x.f1.f1, x.f2.f0, x.f2.f1, x.f3.f0, x.f3.f1, x.f4⟩

def ruleF (x : S87) : Int := if selF (slOf x.f0) = 0 then (if 1 ≤ x.f1 ∧ x.f1 ≤ 3 then (if (x.f1 = 3 ∧ 1 ≤ x.f2 ∧ x.f2 ≤ 9) ∨ (x.f1 ≠ 3 ∧ x.f2 = 0) then 0 else 1) else 3) else selF (slOf x.f0)
def scanRule : List S87 → Int
  | [] => 0
  | x :: xs => if ruleF x = 0 then scanRule xs else ruleF x
def policyF (l : List S87) : Int := if 20 < l.length then 2 else scanRule l

theorem scanRule_ok : ∀ (l : List S87), scanRule l = 0 → ∀ x ∈ l, ruleF x = 0
  | [], _, _, h => absurd h (by simp)
  | y :: ys, h, x, hx => by
    rw [scanRule] at h
    by_cases g : ruleF y = 0
    · rw [if_pos g] at h
      rcases List.mem_cons.mp hx with rfl | hx
      · exact g
      · exact scanRule_ok ys h x hx
    · rw [if_neg g] at h
      exact absurd h g
theorem policyF_ok {l : List S87} (h : policyF l = 0) : l.length ≤ 20 ∧ ∀ x ∈ l, ruleF x = 0 := by
  unfold policyF at h
  split at h
  · exact absurd h (by omega)
  · exact ⟨by omega, scanRule_ok l h⟩
theorem ruleF_sel {x : S87} (h : ruleF x = 0) : selF (slOf x.f0) = 0 := by
  unfold ruleF at h
  by_cases g : selF (slOf x.f0) = 0
  · exact g
  · rw [if_neg g] at h
    exact h
theorem rdRule_nat (l : List S87) (i : Nat) (h : i < l.length) : rd_T87 l i = l[i] := getD_nat l _ i h

def swW (l : List S87) (i : Int) : Int × List S87 :=
  if (meetM (slOf (rd_T87 l i).f0) (slOf (rd_T87 l (i + 1)).f0)).isSome = true ∧ ((rd_T87 l i).f1 ≠ (rd_T87 l (i + 1)).f1 ∨ (rd_T87 l i).f2 ≠ (rd_T87 l (i + 1)).f2) then (1, []) else (0, (l.set i.toNat (rd_T87 l (i + 1))).set (i + 1).toNat (rd_T87 l i))
def swR (l : List S87) (i : Int) : Int × List S87 := if policyF l = 0 then (if 0 ≤ i ∧ i ≤ (l.length : Int) - 2 then swW l i else (3, [])) else (policyF l, [])
theorem swR_len (l : List S87) (i : Int) : (swR l i).2.length ≤ l.length := by
  unfold swR swW
  repeat' split
  all_goals simp
theorem rd_rule0 {l : List S87} (hp : policyF l = 0) {i : Int} (h0 : 0 ≤ i) (h1 : i < (l.length : Int)) : selF (slOf (rd_T87 l i).f0) = 0 := by
  obtain ⟨n, rfl⟩ := Int.eq_ofNat_of_zero_le h0
  rw [rdRule_nat l n (by omega)]
  exact ruleF_sel ((policyF_ok hp).2 _ (List.getElem_mem _))

theorem q_spec_HasPorts (a : Int) : spec_HasPorts.f a = some (decide (a = 6 ∨ a = 17)) := by
  unfold spec_HasPorts.f
  by_cases h : a = 6
  · simp [h]
  · by_cases g : a = 17
    · simp [g]
    · simp [h, g]
theorem q_impl_HasPorts (a : Int) : impl_HasPorts.f a = some (decide (a = 6 ∨ a = 17)) := by
  unfold impl_HasPorts.f
  by_cases h : a = 6
  · simp [h]
  · by_cases g : a = 17
    · simp [g]
    · simp [h, g]

theorem q_l3Meet (a b c d : Int) : spec_l3Meet.f a b c d = some (max a c, min b d) := by
  unfold spec_l3Meet.f
  have h1 : spec_l1Max.f a c = some (max a c) := by
    unfold spec_l1Max.f
    by_cases h : a > c
    · rw [if_pos h, show max a c = a by omega]
    · rw [if_neg h, show max a c = c by omega]
  have h2 : spec_l1Min.f b d = some (min b d) := by
    unfold spec_l1Min.f
    by_cases h : b < d
    · rw [if_pos h, show min b d = b by omega]
    · rw [if_neg h, show min b d = d by omega]
  rw [h1, h2]
  rfl
theorem q_l1Max (a c : Int) : spec_l1Max.f a c = some (max a c) := by
  unfold spec_l1Max.f
  by_cases h : a > c
  · rw [if_pos h, show max a c = a by omega]
  · rw [if_neg h, show max a c = c by omega]
theorem q_l1Min (b d : Int) : spec_l1Min.f b d = some (min b d) := by
  unfold spec_l1Min.f
  by_cases h : b < d
  · rw [if_pos h, show min b d = b by omega]
  · rw [if_neg h, show min b d = d by omega]
theorem q_l3Common_j3 (k : Nat) (b : Bool) (s : Sl) : spec_l3Common.j3 (k + 1) b s.fl s.fh s.tl s.th s.pl s.ph s.ql s.qh s.pr = some (outC (if b = true then none else some ⟨s.fl, s.fh, s.tl, s.th, 0, 65535, 0, 65535, s.pr⟩)) := by
  rw [spec_l3Common.j3]
  cases b <;> rfl
theorem q_l3Common_j2 (k : Nat) (b : Bool) (s : Sl) (hb : b = true ↔ ¬ (s.pr = 0 ∨ hasP s.pr)) (h0 : 0 ≤ s.ph ∧ 0 ≤ s.qh) : spec_l3Common.j2 (k + 2) b s.fl s.fh s.tl s.th s.pl s.ph s.ql s.qh s.pr = some (outC (fitM s)) := by
  rw [spec_l3Common.j2]
  simp only [q_l3Common_j3]
  unfold fitM
  by_cases h : s.pr = 0 ∨ hasP s.pr
  · rw [if_pos h, if_neg (fun e => hb.mp e h)]
    rfl
  · rw [if_neg h, if_pos (hb.mpr h)]
    by_cases h1 : s.pl > 0
    · rw [if_pos h1, if_pos trivial, if_neg (by omega)]
    · rw [if_neg h1]
      by_cases h2 : s.ql > 0
      · rw [if_pos (by simpa using h2), if_neg (by omega)]
      · rw [if_neg (by simpa using h2), if_pos (by omega)]
theorem q_l3Common_j1 (k : Nat) (b : Bool) (s : Sl) (h0 : 0 ≤ s.ph ∧ 0 ≤ s.qh) : spec_l3Common.j1 (k + 3) b s.fl s.fh s.tl s.th s.pl s.ph s.ql s.qh s.pr = some (outC (if b = true then none else fitM s)) := by
  rw [spec_l3Common.j1, q_spec_HasPorts, Option.bind_some]
  cases b
  · simp only [Bool.false_eq_true, if_false]
    by_cases h : s.pr = 0
    · rw [if_pos h, q_l3Common_j2 k false s (by simp [h]) h0]
    · rw [if_neg h, q_l3Common_j2 k _ s (by simp [h, hasP]) h0]
  · rfl
theorem q_l3Common_l0 (k : Nat) (a b s : Sl) (h0 : 0 ≤ s.ph ∧ 0 ≤ s.qh) (ha : 0 ≤ a.pr) (hb : 0 ≤ b.pr) : spec_l3Common.l0 (k + 8) [⟨s.fl, s.fh⟩, ⟨s.tl, s.th⟩, ⟨s.pl, s.ph⟩, ⟨s.ql, s.qh⟩] 0 a.fl a.fh a.tl a.th a.pl a.ph a.ql a.qh a.pr b.fl b.fh b.tl b.th b.pl b.ph b.ql b.qh b.pr s.fl s.fh s.tl s.th s.pl s.ph s.ql s.qh s.pr = some (outC (if okM s ∧ prM a.pr b.pr then fitM s else none)) := by
  have e1 : wrap64 (0 + 1) = 1 := by rw [w64 (by omega) (by omega)]; rfl
  have e2 : wrap64 (1 + 1) = 2 := by rw [w64 (by omega) (by omega)]; rfl
  have e3 : wrap64 (2 + 1) = 3 := by rw [w64 (by omega) (by omega)]; rfl
  have e4 : wrap64 (3 + 1) = 4 := by rw [w64 (by omega) (by omega)]; rfl
  have r0 : rd_T63 [⟨s.fl, s.fh⟩, ⟨s.tl, s.th⟩, ⟨s.pl, s.ph⟩, ⟨s.ql, s.qh⟩] 0 = ⟨s.fl, s.fh⟩ := rfl
  have r1 : rd_T63 [⟨s.fl, s.fh⟩, ⟨s.tl, s.th⟩, ⟨s.pl, s.ph⟩, ⟨s.ql, s.qh⟩] 1 = ⟨s.tl, s.th⟩ := rfl
  have r2 : rd_T63 [⟨s.fl, s.fh⟩, ⟨s.tl, s.th⟩, ⟨s.pl, s.ph⟩, ⟨s.ql, s.qh⟩] 2 = ⟨s.pl, s.ph⟩ := rfl
  have r3 : rd_T63 [⟨s.fl, s.fh⟩, ⟨s.tl, s.th⟩, ⟨s.pl, s.ph⟩, ⟨s.ql, s.qh⟩] 3 = ⟨s.ql, s.qh⟩ := rfl
  unfold okM
  rw [spec_l3Common.l0, if_pos (by omega), if_pos (by omega), if_pos (by simp), r0, e1]
  by_cases h1 : s.fl ≤ s.fh
  · rw [if_neg (by simpa using h1), spec_l3Common.l0, if_pos (by omega), if_pos (by omega), if_pos (by simp), r1, e2]
    by_cases h2 : s.tl ≤ s.th
    · rw [if_neg (by simpa using h2), spec_l3Common.l0, if_pos (by omega), if_pos (by omega), if_pos (by simp), r2, e3]
      by_cases h3 : s.pl ≤ s.ph
      · rw [if_neg (by simpa using h3), spec_l3Common.l0, if_pos (by omega), if_pos (by omega), if_pos (by simp), r3, e4]
        by_cases h4 : s.ql ≤ s.qh
        · rw [if_neg (by simpa using h4), spec_l3Common.l0, if_neg (by omega), q_l1Min, Option.bind_some, q_l3Common_j1 k _ s h0, q_l3Common_j1 k _ s h0]
          unfold prM
          by_cases h5 : a.pr = b.pr
          · rw [if_pos h5, if_neg (by simp), if_pos ⟨⟨h1, h2, h3, h4⟩, .inr (.inr h5)⟩]
          · rw [if_neg h5]
            by_cases h6 : a.pr = 0 ∨ b.pr = 0
            · rw [if_neg (by simp only [bne_iff_ne, ne_eq, Decidable.not_not]; omega), if_pos ⟨⟨h1, h2, h3, h4⟩, by omega⟩]
            · rw [if_pos (by simp only [bne_iff_ne, ne_eq]; omega), if_neg (by omega)]
        · rw [if_pos (by simpa using h4), if_neg (by omega)]
          rfl
      · rw [if_pos (by simpa using h3), if_neg (by omega)]
        rfl
    · rw [if_pos (by simpa using h2), if_neg (by omega)]
      rfl
  · rw [if_pos (by simpa using h1), if_neg (by omega)]
    rfl
theorem selF_ok {s : Sl} (h : selF s = 0) : selOk s := by
  unfold selF at h
  by_cases g : selOk s
  · exact g
  · rw [if_neg g] at h
    exact absurd h (by omega)
theorem q_spec_l3Common (k : Nat) (a b : Sl) (ha : selF a = 0) (hb : selF b = 0) : spec_l3Common.f (k + 8) a.fl a.fh a.tl a.th a.pl a.ph a.ql a.qh a.pr b.fl b.fh b.tl b.th b.pl b.ph b.ql b.qh b.pr = some (outC (meetM a b)) := by
  obtain ⟨_, _, ⟨a1, a2, a3⟩, ⟨a4, a5, a6⟩, a7, _⟩ := selF_ok ha
  obtain ⟨_, _, ⟨b1, b2, b3⟩, ⟨b4, b5, b6⟩, b7, _⟩ := selF_ok hb
  unfold spec_l3Common.f
  simp only [q_l3Meet, q_l1Max, Option.bind_some]
  have h := q_l3Common_l0 k a b (crossM a b (max a.pr b.pr)) ⟨by simp only [crossM]; omega, by simp only [crossM]; omega⟩ a7 b7
  simp only [crossM] at h
  rw [h]
  unfold meetM okM crossM prM
  by_cases h5 : a.pr = 0 ∨ b.pr = 0 ∨ a.pr = b.pr
  · rw [show max a.pr b.pr = if a.pr = 0 then b.pr else a.pr by split <;> omega]
  · simp only [h5, and_false, if_false]
theorem ev_up {α : Type} {g : Nat → Option α} {r : α} (n : Nat) (h : ∀ k, g (k + n) = some r) : Ev g r := by
  refine ⟨n, fun m hm => ?_⟩
  have := h (m - n)
  rwa [Nat.sub_add_cancel hm] at this
theorem ev_spec_l3Common (a b : Sl) (ha : selF a = 0) (hb : selF b = 0) : Ev (fun k => spec_l3Common.f k a.fl a.fh a.tl a.th a.pl a.ph a.ql a.qh a.pr b.fl b.fh b.tl b.th b.pl b.ph b.ql b.qh b.pr) (outC (meetM a b)) := ev_up 8 (fun k => q_spec_l3Common k a b ha hb)

theorem q_spec_l1In (a b c : Int) : spec_l1In.f a b c = some (decide (b ≤ a ∧ a ≤ c)) := by
  unfold spec_l1In.f
  by_cases h : b ≤ a
  · simp [h]
  · simp [h]

theorem q_spec_l3Range (lo hi m : Int) : spec_l3Range.f lo hi m = some (decide (rok lo hi m)) := by
  unfold spec_l3Range.f rok
  by_cases h : 0 ≤ lo
  · by_cases g : lo ≤ hi
    · simp [h, g]
    · simp [h, g]
  · simp [h]
theorem q_spec_SelFault_j0 (k : Nat) (b : Bool) (s : Sl) : spec_SelFault.j0 (k + 1) b s.fl s.fh s.tl s.th s.pl s.ph s.ql s.qh s.pr = some (if b = true then 3 else if selPorts s then 0 else 1) := by
  rw [spec_SelFault.j0]
  simp only [q_spec_HasPorts, spec_l3All.f, Option.bind_some, decide_eq_true_eq]
  unfold selPorts hasP
  cases b
  · by_cases h1 : s.pr = 0
    · simp [h1]
    · by_cases h2 : s.pr = 6 ∨ s.pr = 17
      · simp [h1, h2]
      · by_cases h3 : s.pl = 0 <;> by_cases h4 : s.ph = 65535 <;> by_cases h5 : s.ql = 0 <;> by_cases h6 : s.qh = 65535 <;> simp [h1, h2, h3, h4, h5, h6]
  · simp
theorem q_spec_SelFault (k : Nat) (s : Sl) : spec_SelFault.f (k + 1) s.fl s.fh s.tl s.th s.pl s.ph s.ql s.qh s.pr = some (selF s) := by
  unfold spec_SelFault.f
  simp only [q_spec_l3Range, q_spec_l1In, q_spec_SelFault_j0, Option.bind_some, decide_eq_true_eq]
  unfold selF selOk
  by_cases h1 : rok s.fl s.fh 4294967295 <;> by_cases h2 : rok s.tl s.th 4294967295 <;> by_cases h3 : rok s.pl s.ph 65535 <;> by_cases h4 : rok s.ql s.qh 65535 <;> by_cases h5 : 0 ≤ s.pr ∧ s.pr ≤ 255 <;> simp [h1, h2, h3, h4, h5]
theorem ev_spec_SelFault (s : Sl) : Ev (fun k => spec_SelFault.f k s.fl s.fh s.tl s.th s.pl s.ph s.ql s.qh s.pr) (selF s) := ev_succ (fun k => q_spec_SelFault k s)

def meetQ (a b : Sl) : Int × Int × Int × Int × Int × Int × Int × Int × Int × Int :=
  if selF a = 0 then (if selF b = 0 then ((outC (meetM a b)).2.2.2.2.2.2.2.2.2, (outC (meetM a b)).1, (outC (meetM a b)).2.1, (outC (meetM a b)).2.2.1, (outC (meetM a b)).2.2.2.1, (outC (meetM a b)).2.2.2.2.1, (outC (meetM a b)).2.2.2.2.2.1, (outC (meetM a b)).2.2.2.2.2.2.1, (outC (meetM a b)).2.2.2.2.2.2.2.1, (outC (meetM a b)).2.2.2.2.2.2.2.2.1) else (selF b, 0, 0, 0, 0, 0, 0, 0, 0, 0)) else (selF a, 0, 0, 0, 0, 0, 0, 0, 0, 0)
theorem ev_spec_MeetSelsQ (a b : Sl) : Ev (fun k => spec_MeetSels.f k a.fl a.fh a.tl a.th a.pl a.ph a.ql a.qh a.pr b.fl b.fh b.tl b.th b.pl b.ph b.ql b.qh b.pr) (meetQ a b) := by
  unfold spec_MeetSels.f meetQ
  refine Ev.bind (ev_spec_SelFault a) (ev_cond (fun ha => ?_) (fun h => ev_some _))
  refine Ev.bind (ev_spec_SelFault b) (ev_cond (fun hb => ?_) (fun h => ev_some _))
  exact Ev.bind (ev_spec_l3Common a b ha hb) (ev_some _)
theorem meetQ_no {a b : Sl} (ha : selF a = 0) (hb : selF b = 0) (hm : meetM a b = none) : meetQ a b = (4, 0, 0, 0, 0, 0, 0, 0, 0, 0) := by
  unfold meetQ
  rw [if_pos ha, if_pos hb, hm]
  rfl
theorem meetQ_yes {a b s : Sl} (ha : selF a = 0) (hb : selF b = 0) (hm : meetM a b = some s) : meetQ a b = (0, s.fl, s.fh, s.tl, s.th, s.pl, s.ph, s.ql, s.qh, s.pr) := by
  unfold meetQ
  rw [if_pos ha, if_pos hb, hm]
  rfl

theorem ev_spec_PolicyFault_loop (l : List S87) (hl : l.length ≤ 1048576) : ∀ i, i ≤ l.length → Ev (fun k => spec_PolicyFault.l0 k l i) (scanRule (l.drop i)) := by
  refine down l.length ?_ ?_
  · rw [List.drop_length]
    refine Ev.step (fun k => by rw [spec_PolicyFault.l0, if_neg (by omega)]) ?_
    exact ev_some _
  · intro i hi ih
    rw [List.drop_eq_getElem_cons hi, scanRule]
    refine Ev.step (fun k => by rw [spec_PolicyFault.l0, if_pos (by omega), if_pos (by omega), rdRule_nat l i hi, w64 (by omega) (by omega)]) ?_
    refine Ev.bind (ev_spec_SelFault (slOf l[i].f0)) ?_
    have hr : ruleF l[i] = if selF (slOf l[i].f0) = 0 then (if 1 ≤ l[i].f1 ∧ l[i].f1 ≤ 3 then (if (l[i].f1 = 3 ∧ 1 ≤ l[i].f2 ∧ l[i].f2 ≤ 9) ∨ (l[i].f1 ≠ 3 ∧ l[i].f2 = 0) then 0 else 1) else 3) else selF (slOf l[i].f0) := rfl
    generalize hx : l[i] = x at *
    by_cases h : selF (slOf x.f0) = 0
    · refine ev_pos h (ev_opt (q_spec_l1In _ _ _) ?_)
      rw [if_pos h] at hr
      by_cases h1 : 1 ≤ x.f1 ∧ x.f1 ≤ 3
      · refine ev_pos (by simpa using h1) ?_
        rw [if_pos h1] at hr
        by_cases h3 : x.f1 = 3
        · refine ev_pos h3 (ev_opt (q_spec_l1In _ _ _) ?_)
          by_cases h4 : 1 ≤ x.f2 ∧ x.f2 ≤ 9
          · rw [if_pos (.inl ⟨h3, h4⟩)] at hr
            rw [if_pos hr]
            exact ev_pos (by simpa using h4) ih
          · rw [if_neg (by omega)] at hr
            rw [if_neg (by omega), hr]
            exact ev_neg (by simpa using h4) (ev_some _)
        · refine ev_neg h3 ?_
          by_cases h4 : x.f2 = 0
          · rw [if_pos (.inr ⟨h3, h4⟩)] at hr
            rw [if_pos hr]
            exact ev_pos h4 ih
          · rw [if_neg (by omega)] at hr
            rw [if_neg (by omega), hr]
            exact ev_neg h4 (ev_some _)
      · rw [if_neg h1] at hr
        rw [if_neg (by omega), hr]
        exact ev_neg (by simpa using h1) (ev_some _)
    · rw [if_neg h] at hr
      rw [hr, if_neg h]
      exact ev_neg h (ev_some _)
theorem ev_spec_PolicyFault (l : List S87) (hl : l.length ≤ 1048576) : Ev (fun k => spec_PolicyFault.f k l) (policyF l) := by
  unfold spec_PolicyFault.f policyF
  by_cases h1 : (l.length : Int) > 20
  · rw [if_pos (by omega)]
    exact ev_pos h1 (ev_some _)
  · rw [if_neg (by omega)]
    exact ev_neg h1 (ev_spec_PolicyFault_loop l hl 0 (by omega))

theorem ev_spec_SwapRules (l : List S87) (hl : l.length ≤ 1048576) (i : Int) : Ev (fun k => spec_SwapRules.f k l i) (swR l i) := by
  unfold spec_SwapRules.f swR
  refine Ev.bind (ev_spec_PolicyFault l hl) (ev_cond (fun hp => ?_) (fun _ => ev_some _))
  refine ev_opt (q_spec_l1In _ _ _) ?_
  by_cases h : 0 ≤ i ∧ i ≤ (l.length : Int) - 2
  · rw [if_pos h]
    simp only [w64 (x := i + 1) (by omega) (by omega), w64 (x := (l.length : Int) - 2) (by omega) (by omega)]
    refine ev_pos (decide_eq_true h) (ev_pos h.1 (ev_pos (by omega) (ev_pos (by omega) (ev_pos (by omega) ?_))))
    have ga := rd_rule0 hp (i := i) (by omega) (by omega)
    have gb := rd_rule0 hp (i := i + 1) (by omega) (by omega)
    refine Ev.bind (ev_spec_MeetSelsQ (slOf (rd_T87 l i).f0) (slOf (rd_T87 l (i + 1)).f0)) ?_
    cases hm : meetM (slOf (rd_T87 l i).f0) (slOf (rd_T87 l (i + 1)).f0) with
    | none =>
      have hW : swW l i = (0, (l.set i.toNat (rd_T87 l (i + 1))).set (i + 1).toNat (rd_T87 l i)) := by
        unfold swW
        exact if_neg (by simp [hm])
      rw [hW, meetQ_no ga gb hm]
      refine ev_neg (by decide) ?_
      refine ev_opt rfl (ev_pos (by simp; omega) (ev_opt rfl (ev_pos (by simp; omega) (ev_pos (by simp; omega) (ev_some _)))))
    | some s =>
      rw [meetQ_yes ga gb hm]
      refine ev_pos rfl ?_
      by_cases e1 : (rd_T87 l i).f1 = (rd_T87 l (i + 1)).f1
      · refine ev_pos e1 ?_
        by_cases e2 : (rd_T87 l i).f2 = (rd_T87 l (i + 1)).f2
        · have hW : swW l i = (0, (l.set i.toNat (rd_T87 l (i + 1))).set (i + 1).toNat (rd_T87 l i)) := by
            unfold swW
            exact if_neg (fun e => e.2.elim (fun e => e e1) (fun e => e e2))
          rw [hW]
          refine ev_pos e2 ?_
          refine ev_opt rfl (ev_pos (by simp; omega) (ev_opt rfl (ev_pos (by simp; omega) (ev_pos (by simp; omega) (ev_some _)))))
        · have hW : swW l i = (1, []) := by
            unfold swW
            exact if_pos ⟨by simp [hm], .inr e2⟩
          rw [hW]
          exact ev_neg e2 (ev_some _)
      · have hW : swW l i = (1, []) := by
          unfold swW
          exact if_pos ⟨by simp [hm], .inl e1⟩
        rw [hW]
        exact ev_neg e1 (ev_some _)
  · rw [if_neg h]
    simp only [w64 (x := (l.length : Int) - 2) (by omega) (by omega)]
    exact ev_neg (by simpa using h) (ev_some _)

theorem q_impl_in (a b c : Int) : impl_in.f a b c = some (decide (b ≤ a ∧ a ≤ c)) := by
  unfold impl_in.f
  by_cases h : b ≤ a
  · simp [h]
  · simp [h]

theorem q_meetSels_j3 (k : Nat) (b : Bool) (s : Sl) : impl_meetSels.j3 (k + 1) b s.fl s.fh s.tl s.th s.pl s.ph s.ql s.qh s.pr = some (outB (if b = true then none else some ⟨s.fl, s.fh, s.tl, s.th, 0, 65535, 0, 65535, s.pr⟩)) := by
  rw [impl_meetSels.j3]
  cases b <;> rfl
theorem q_meetSels_j2 (k : Nat) (b : Bool) (s : Sl) (hb : b = true ↔ (s.pr = 0 ∨ hasP s.pr)) : impl_meetSels.j2 (k + 2) b s.fl s.fh s.tl s.th s.pl s.ph s.ql s.qh s.pr = some (outB (fitM s)) := by
  rw [impl_meetSels.j2]
  simp only [q_meetSels_j3, impl_Range_has.f, q_impl_in, Option.bind_some, decide_eq_true_eq]
  unfold fitM
  by_cases h : s.pr = 0 ∨ hasP s.pr
  · rw [if_pos h, if_pos (hb.mpr h)]
    rfl
  · rw [if_neg h, if_neg (fun e => h (hb.mp e))]
    by_cases h1 : s.pl ≤ 0 ∧ 0 ≤ s.ph <;> by_cases h2 : s.ql ≤ 0 ∧ 0 ≤ s.qh <;> simp [h1, h2]
theorem q_meetSels_j1 (k : Nat) (s : Sl) : impl_meetSels.j1 (k + 3) s.fl s.fh s.tl s.th s.pl s.ph s.ql s.qh s.pr = some (outB (fitM s)) := by
  rw [impl_meetSels.j1, q_impl_HasPorts, Option.bind_some]
  by_cases h : s.pr = 0
  · rw [if_pos h, q_meetSels_j2 k true s (by simp [h])]
  · rw [if_neg h, q_meetSels_j2 k _ s (by simp [h, hasP])]
theorem q_meetSels_j0 (k : Nat) (b : Bool) (p0 p1 p2 p3 p4 p5 p6 p7 q : Int) (s : Sl) : impl_meetSels.j0 (k + 4) b p0 p1 p2 p3 p4 p5 p6 p7 q s.fl s.fh s.tl s.th s.pl s.ph s.ql s.qh s.pr = some (outB (if b = true then none else fitM ⟨s.fl, s.fh, s.tl, s.th, s.pl, s.ph, s.ql, s.qh, if s.pr = 0 then q else s.pr⟩)) := by
  rw [impl_meetSels.j0]
  cases b
  · simp only [Bool.false_eq_true, if_false]
    by_cases h : s.pr = 0
    · rw [if_pos h, if_pos h]
      exact q_meetSels_j1 k ⟨s.fl, s.fh, s.tl, s.th, s.pl, s.ph, s.ql, s.qh, q⟩
    · rw [if_neg h, if_neg h]
      exact q_meetSels_j1 k ⟨s.fl, s.fh, s.tl, s.th, s.pl, s.ph, s.ql, s.qh, s.pr⟩
  · rfl
theorem q_impl_meetSels (k : Nat) (a b : Sl) : impl_meetSels.f (k + 4) a.fl a.fh a.tl a.th a.pl a.ph a.ql a.qh a.pr b.fl b.fh b.tl b.th b.pl b.ph b.ql b.qh b.pr = some (outB (meetM a b)) := by
  have hj := fun c => q_meetSels_j0 k c b.fl b.fh b.tl b.th b.pl b.ph b.ql b.qh b.pr (crossM a b a.pr)
  simp only [crossM] at hj
  unfold impl_meetSels.f
  simp only [impl_Range_meet.f, Option.bind_some, mx_eq, mn_eq, decide_eq_true_eq, hj]
  by_cases h1 : max a.fl b.fl ≤ min a.fh b.fh
  · rw [if_pos h1]
    by_cases h2 : max a.tl b.tl ≤ min a.th b.th
    · rw [if_pos h2]
      by_cases h3 : max a.pl b.pl ≤ min a.ph b.ph
      · rw [if_pos h3]
        by_cases h4 : max a.ql b.ql ≤ min a.qh b.qh
        · rw [if_pos h4]
          have hok : okM (crossM a b 0) := ⟨h1, h2, h3, h4⟩
          by_cases h5 : prM a.pr b.pr
          · have hm : meetM a b = fitM (crossM a b (if a.pr = 0 then b.pr else a.pr)) := if_pos ⟨hok, h5⟩
            rw [hm]
            unfold prM at h5
            clear hm hj
            have hz : ∀ c : Bool, c = false → some (outB (if c = true then none else fitM (crossM a b (if a.pr = 0 then b.pr else a.pr)))) = some (outB (fitM (crossM a b (if a.pr = 0 then b.pr else a.pr)))) := by
              intro c hc
              rw [hc]
              rfl
            by_cases h6 : a.pr = 0
            · exact (if_pos h6).trans rfl
            · refine (if_neg h6).trans ?_
              by_cases h7 : b.pr = 0
              · exact (if_pos h7).trans rfl
              · refine (if_neg h7).trans ?_
                exact hz _ (by rw [show a.pr = b.pr by omega]; simp)
          · have hm : meetM a b = none := if_neg (fun e => h5 e.2)
            rw [hm]
            unfold prM at h5
            refine (if_neg (by omega)).trans ((if_neg (by omega)).trans ?_)
            have h8 : (a.pr != b.pr) = true := by simp only [bne_iff_ne, ne_eq]; omega
            rw [if_pos h8]
        · rw [if_neg h4, show meetM a b = none from if_neg (fun e => h4 e.1.2.2.2)]
          rfl
      · rw [if_neg h3, show meetM a b = none from if_neg (fun e => h3 e.1.2.2.1)]
        rfl
    · rw [if_neg h2, show meetM a b = none from if_neg (fun e => h2 e.1.2.1)]
      rfl
  · rw [if_neg h1, show meetM a b = none from if_neg (fun e => h1 e.1.1)]
    rfl
theorem ev_impl_meetSels (a b : Sl) : Ev (fun k => impl_meetSels.f k a.fl a.fh a.tl a.th a.pl a.ph a.ql a.qh a.pr b.fl b.fh b.tl b.th b.pl b.ph b.ql b.qh b.pr) (outB (meetM a b)) := by
  refine Ev.step (f := fun k => impl_meetSels.f (k + 1) a.fl a.fh a.tl a.th a.pl a.ph a.ql a.qh a.pr b.fl b.fh b.tl b.th b.pl b.ph b.ql b.qh b.pr) (fun k => rfl) ?_
  refine Ev.step (f := fun k => impl_meetSels.f (k + 2) a.fl a.fh a.tl a.th a.pl a.ph a.ql a.qh a.pr b.fl b.fh b.tl b.th b.pl b.ph b.ql b.qh b.pr) (fun k => rfl) ?_
  refine Ev.step (f := fun k => impl_meetSels.f (k + 3) a.fl a.fh a.tl a.th a.pl a.ph a.ql a.qh a.pr b.fl b.fh b.tl b.th b.pl b.ph b.ql b.qh b.pr) (fun k => rfl) ?_
  exact ev_succ (fun k => q_impl_meetSels k a b)

theorem q_impl_Range_ok (lo hi m : Int) : impl_Range_ok.f lo hi m = some (decide (rok lo hi m)) := by
  unfold impl_Range_ok.f
  simp only [q_impl_in, Option.bind_some, decide_eq_true_eq]
  by_cases hr : rok lo hi m
  · rw [decide_eq_true hr]
    unfold rok at hr
    rw [if_pos (by omega), if_pos (by omega), decide_eq_true (by omega)]
  · rw [decide_eq_false hr]
    unfold rok at hr
    by_cases h : 0 ≤ lo ∧ lo ≤ m
    · by_cases g : 0 ≤ hi ∧ hi ≤ m
      · rw [if_pos h, if_pos g, decide_eq_false (by omega)]
      · rw [if_pos h, if_neg g]
    · rw [if_neg h]
theorem q_impl_SelFault_j0 (k : Nat) (b : Bool) (s : Sl) : impl_SelFault.j0 (k + 1) b s.fl s.fh s.tl s.th s.pl s.ph s.ql s.qh s.pr = some (if b = true then 3 else if selPorts s then 0 else 1) := by
  rw [impl_SelFault.j0]
  simp only [q_impl_HasPorts, impl_whole.f, Option.bind_some, decide_eq_true_eq]
  unfold selPorts hasP
  cases b
  · by_cases h1 : s.pr = 0
    · simp [h1]
    · by_cases h2 : s.pr = 6 ∨ s.pr = 17
      · simp [h1, h2]
      · by_cases h3 : s.pl = 0 <;> by_cases h4 : s.ph = 65535 <;> by_cases h5 : s.ql = 0 <;> by_cases h6 : s.qh = 65535 <;> simp [h1, h2, h3, h4, h5, h6]
  · simp
theorem q_impl_SelFault (k : Nat) (s : Sl) : impl_SelFault.f (k + 1) s.fl s.fh s.tl s.th s.pl s.ph s.ql s.qh s.pr = some (selF s) := by
  unfold impl_SelFault.f
  simp only [q_impl_Range_ok, q_impl_in, q_impl_SelFault_j0, Option.bind_some, decide_eq_true_eq]
  unfold selF selOk
  by_cases h1 : rok s.fl s.fh 4294967295 <;> by_cases h2 : rok s.tl s.th 4294967295 <;> by_cases h3 : rok s.pl s.ph 65535 <;> by_cases h4 : rok s.ql s.qh 65535 <;> by_cases h5 : 0 ≤ s.pr ∧ s.pr ≤ 255 <;> simp [h1, h2, h3, h4, h5]
theorem ev_impl_SelFault (s : Sl) : Ev (fun k => impl_SelFault.f k s.fl s.fh s.tl s.th s.pl s.ph s.ql s.qh s.pr) (selF s) := ev_succ (fun k => q_impl_SelFault k s)

theorem ev_impl_PolicyFault_loop (l : List S87) (hl : l.length ≤ 1048576) : ∀ i, i ≤ l.length → Ev (fun k => impl_PolicyFault.l0 k l l.length i) (scanRule (l.drop i)) := by
  refine down l.length ?_ ?_
  · rw [List.drop_length]
    refine Ev.step (fun k => by rw [impl_PolicyFault.l0, if_neg (by omega)]) ?_
    exact ev_some _
  · intro i hi ih
    rw [List.drop_eq_getElem_cons hi, scanRule]
    refine Ev.step (fun k => by rw [impl_PolicyFault.l0, if_pos (by omega), if_pos (by omega), if_pos (by omega), rdRule_nat l i hi, w64 (by omega) (by omega)]) ?_
    refine Ev.bind (ev_impl_SelFault (slOf l[i].f0)) ?_
    have hr : ruleF l[i] = if selF (slOf l[i].f0) = 0 then (if 1 ≤ l[i].f1 ∧ l[i].f1 ≤ 3 then (if (l[i].f1 = 3 ∧ 1 ≤ l[i].f2 ∧ l[i].f2 ≤ 9) ∨ (l[i].f1 ≠ 3 ∧ l[i].f2 = 0) then 0 else 1) else 3) else selF (slOf l[i].f0) := rfl
    generalize hx : l[i] = x at *
    by_cases h : selF (slOf x.f0) = 0
    · refine ev_pos h (ev_opt (q_impl_in _ _ _) ?_)
      rw [if_pos h] at hr
      by_cases h1 : 1 ≤ x.f1 ∧ x.f1 ≤ 3
      · refine ev_pos (by simpa using h1) ?_
        rw [if_pos h1] at hr
        by_cases h3 : x.f1 = 3
        · refine ev_pos h3 (ev_opt (by rw [impl_isPeer.f, q_impl_in]; rfl) ?_)
          by_cases h4 : 1 ≤ x.f2 ∧ x.f2 ≤ 9
          · rw [if_pos (.inl ⟨h3, h4⟩)] at hr
            rw [if_pos hr]
            exact ev_pos (by simpa using h4) ih
          · rw [if_neg (by omega)] at hr
            rw [if_neg (by omega), hr]
            exact ev_neg (by simpa using h4) (ev_some _)
        · refine ev_neg h3 ?_
          by_cases h4 : x.f2 = 0
          · rw [if_pos (.inr ⟨h3, h4⟩)] at hr
            rw [if_pos hr]
            exact ev_pos h4 ih
          · rw [if_neg (by omega)] at hr
            rw [if_neg (by omega), hr]
            exact ev_neg h4 (ev_some _)
      · rw [if_neg h1] at hr
        rw [if_neg (by omega), hr]
        exact ev_neg (by simpa using h1) (ev_some _)
    · rw [if_neg h] at hr
      rw [hr, if_neg h]
      exact ev_neg h (ev_some _)
theorem ev_impl_PolicyFault (l : List S87) (hl : l.length ≤ 1048576) : Ev (fun k => impl_PolicyFault.f k l) (policyF l) := by
  unfold impl_PolicyFault.f policyF
  by_cases h1 : (l.length : Int) > 20
  · rw [if_pos (by omega)]
    exact ev_pos h1 (ev_some _)
  · rw [if_neg (by omega)]
    exact ev_neg h1 (ev_impl_PolicyFault_loop l hl 0 (by omega))

theorem ev_impl_SwapRules (l : List S87) (hl : l.length ≤ 1048576) (i : Int) : Ev (fun k => impl_SwapRules.f k l i) (swR l i) := by
  unfold impl_SwapRules.f swR
  refine Ev.bind (ev_impl_PolicyFault l hl) (ev_cond (fun hp => ?_) (fun _ => ev_some _))
  refine ev_opt (q_impl_in _ _ _) ?_
  by_cases h : 0 ≤ i ∧ i ≤ (l.length : Int) - 2
  · rw [if_pos h]
    simp only [w64 (x := i + 1) (by omega) (by omega)]
    refine ev_pos (decide_eq_true h) ?_
    unfold impl_SwapRules.rest
    refine ev_pos h.1 (ev_pos (by omega) (ev_pos (by omega) (ev_pos (by omega) ?_)))
    have hg : impl_SwapRules.g l i (i + 1) = some (0, (l.set i.toNat (rd_T87 l (i + 1))).set (i + 1).toNat (rd_T87 l i)) := if_pos (by omega)
    refine Ev.bind (ev_impl_meetSels (slOf (rd_T87 l i).f0) (slOf (rd_T87 l (i + 1)).f0)) ?_
    cases hm : meetM (slOf (rd_T87 l i).f0) (slOf (rd_T87 l (i + 1)).f0) with
    | none =>
      have hW : swW l i = (0, (l.set i.toNat (rd_T87 l (i + 1))).set (i + 1).toNat (rd_T87 l i)) := by
        unfold swW
        exact if_neg (by simp [hm])
      rw [hW]
      exact ev_neg (by simp [outB]) (ev_fix hg)
    | some s =>
      refine ev_pos rfl ?_
      by_cases e1 : (rd_T87 l i).f1 = (rd_T87 l (i + 1)).f1
      · refine ev_pos e1 ?_
        by_cases e2 : (rd_T87 l i).f2 = (rd_T87 l (i + 1)).f2
        · have hW : swW l i = (0, (l.set i.toNat (rd_T87 l (i + 1))).set (i + 1).toNat (rd_T87 l i)) := by
            unfold swW
            exact if_neg (fun e => e.2.elim (fun e => e e1) (fun e => e e2))
          rw [hW]
          exact ev_pos e2 (ev_fix hg)
        · have hW : swW l i = (1, []) := by
            unfold swW
            exact if_pos ⟨by simp [hm], .inr e2⟩
          rw [hW]
          exact ev_neg e2 (ev_some _)
      · have hW : swW l i = (1, []) := by
          unfold swW
          exact if_pos ⟨by simp [hm], .inl e1⟩
        rw [hW]
        exact ev_neg e1 (ev_some _)
  · rw [if_neg h]
    exact ev_neg (by simpa using h) (ev_some _)

theorem q_szRuleS {l : List S130} (h : l.length ≤ 1048576) : laws_szRuleS.f l 1048576 = some (1048576 - (l.length : Int)) := by
  unfold laws_szRuleS.f
  rw [w64 (by omega) (by omega), if_neg (by omega)]
theorem q_szRuleS_big {l : List S130} (h : ¬ l.length ≤ 1048576) (hm : l.length ≤ maxLen) : laws_szRuleS.f l 1048576 = some (-1) := by
  unfold laws_szRuleS.f
  unfold maxLen at hm
  rw [w64 (by omega) (by omega), if_pos (by omega)]

theorem rdLRule_nat (l : List S130) (i : Nat) (h : i < l.length) : rd_T130 l i = l[i] := getD_nat l _ i h

def cvRule (x : S130) : S87 := ⟨⟨⟨x.f0.f0.f0, x.f0.f0.f1⟩, ⟨x.f0.f1.f0, x.f0.f1.f1⟩, ⟨x.f0.f2.f0, x.f0.f2.f1⟩, ⟨x.f0.f3.f0, x.f0.f3.f1⟩, x.f0.f4⟩, x.f1, x.f2⟩
theorem q_toRule (a b c d e f g h i j m : Int) : laws_toRule.f a b c d e f g h i j m = some (a, b, c, d, e, f, g, h, i, j, m) := rfl
theorem ev_toRuleS {l : List S130} (hn : l.length ≤ 1048576) : Ev (fun k => laws_toRuleS.f k l) (l.map cvRule) := by
  unfold laws_toRuleS.f
  refine ev_pos (by omega) (ev_pos (by omega) ?_)
  refine map_loop (fun k b i => laws_toRuleS.l0 k l b i) l cvRule ?_ ?_ _ (by simp)
  · intro k b
    rw [laws_toRuleS.l0, if_neg (by omega)]
  · intro k b i h hb
    rw [laws_toRuleS.l0, if_pos (by omega), if_pos (by omega), q_toRule, Option.bind_some, if_pos (by omega), w64 (by omega) (by omega), rdLRule_nat l i h, Int.toNat_natCast]
    rfl

theorem q_eqRule (a b c d e f g h i j m : Int) : laws_eqRule.f a b c d e f g h i j m a b c d e f g h i j m = some true := by
  simp [laws_eqRule.f, laws_eqSel.f, laws_eqRange.f]
theorem ev_eqRuleS {l : List S87} (hn : l.length ≤ 1048576) : Ev (fun k => laws_eqRuleS.f k l l) true := by
  unfold laws_eqRuleS.f
  refine ev_pos rfl ?_
  refine count_loop (fun k i => laws_eqRuleS.l0 k l l i) l.length true ?_ ?_
  · intro k
    rw [laws_eqRuleS.l0, if_neg (by omega)]
  · intro k i h
    rw [laws_eqRuleS.l0, if_pos (by omega), if_pos (by omega), if_pos (by omega), q_eqRule, Option.bind_some, if_pos rfl, w64 (by omega) (by omega)]
    rfl

def elRule (k : Int) : S87 := ⟨⟨⟨k, k + 1⟩, ⟨k + 1 + 1, k + 1 + 1 + 1⟩, ⟨k + 1 + 1 + 1 + 1, k + 1 + 1 + 1 + 1 + 1⟩, ⟨k + 1 + 1 + 1 + 1 + 1 + 1, k + 1 + 1 + 1 + 1 + 1 + 1 + 1⟩, k + 1 + 1 + 1 + 1 + 1 + 1 + 1 + 1⟩, k + 1 + 1 + 1 + 1 + 1 + 1 + 1 + 1 + 1, k + 1 + 1 + 1 + 1 + 1 + 1 + 1 + 1 + 1 + 1⟩
theorem q_goRule : ∀ (l : List S87) (k : Int), 0 ≤ k → k + 11 * (l.length : Int) ≤ 4611686018427387904 → (laws_markRuleS.go l k).1 = k + 11 * (l.length : Int) ∧ (laws_markRuleS.go l k).2.length = l.length ∧ ∀ (j : Nat), j < l.length → (laws_markRuleS.go l k).2[j]? = some (elRule (k + 11 * (j : Int)))
  | [], k, _, _ => ⟨by simp [laws_markRuleS.go], rfl, fun j h => absurd h (by simp)⟩
  | x :: xs, k, h0, hm => by
    rw [List.length_cons] at hm
    have e1 : wrap64 (k + 1) = k + 1 := w64 (by omega) (by omega)
    have e2 : wrap64 (k + 1 + 1) = k + 1 + 1 := w64 (by omega) (by omega)
    have e3 : wrap64 (k + 1 + 1 + 1) = k + 1 + 1 + 1 := w64 (by omega) (by omega)
    have e4 : wrap64 (k + 1 + 1 + 1 + 1) = k + 1 + 1 + 1 + 1 := w64 (by omega) (by omega)
    have e5 : wrap64 (k + 1 + 1 + 1 + 1 + 1) = k + 1 + 1 + 1 + 1 + 1 := w64 (by omega) (by omega)
    have e6 : wrap64 (k + 1 + 1 + 1 + 1 + 1 + 1) = k + 1 + 1 + 1 + 1 + 1 + 1 := w64 (by omega) (by omega)
    have e7 : wrap64 (k + 1 + 1 + 1 + 1 + 1 + 1 + 1) = k + 1 + 1 + 1 + 1 + 1 + 1 + 1 := w64 (by omega) (by omega)
    have e8 : wrap64 (k + 1 + 1 + 1 + 1 + 1 + 1 + 1 + 1) = k + 1 + 1 + 1 + 1 + 1 + 1 + 1 + 1 := w64 (by omega) (by omega)
    have e9 : wrap64 (k + 1 + 1 + 1 + 1 + 1 + 1 + 1 + 1 + 1) = k + 1 + 1 + 1 + 1 + 1 + 1 + 1 + 1 + 1 := w64 (by omega) (by omega)
    have e10 : wrap64 (k + 1 + 1 + 1 + 1 + 1 + 1 + 1 + 1 + 1 + 1) = k + 1 + 1 + 1 + 1 + 1 + 1 + 1 + 1 + 1 + 1 := w64 (by omega) (by omega)
    have e11 : wrap64 (k + 1 + 1 + 1 + 1 + 1 + 1 + 1 + 1 + 1 + 1 + 1) = k + 1 + 1 + 1 + 1 + 1 + 1 + 1 + 1 + 1 + 1 + 1 := w64 (by omega) (by omega)
    obtain ⟨h1, h2, h3⟩ := q_goRule xs (k + 1 + 1 + 1 + 1 + 1 + 1 + 1 + 1 + 1 + 1 + 1) (by omega) (by omega)
    rw [laws_markRuleS.go]
    simp only [e1, e2, e3, e4, e5, e6, e7, e8, e9, e10, e11]
    refine ⟨by rw [h1, List.length_cons]; omega, by rw [List.length_cons, h2, List.length_cons], ?_⟩
    intro j hj
    cases j with
    | zero => exact congrArg some (by rw [show k + 11 * ((0 : Nat) : Int) = k by omega]; rfl)
    | succ j =>
      rw [List.length_cons] at hj
      refine (h3 j (by omega)).trans ?_
      rw [show k + 1 + 1 + 1 + 1 + 1 + 1 + 1 + 1 + 1 + 1 + 1 + 11 * (j : Int) = k + 11 * ((j + 1 : Nat) : Int) by omega]
theorem q_markRule (l : List S87) (hl : l.length ≤ 4294967296) : ∃ r, laws_markRuleS.f l 1 = some (1 + 11 * (l.length : Int), r) := by
  obtain ⟨h1, _, _⟩ := q_goRule l 1 (by omega) (by omega)
  exact ⟨_, by rw [laws_markRuleS.f, ← h1]⟩

theorem ev_heldRule (r : List S87) (hl : r.length ≤ 4294967296) (hj : ∀ j : Nat, j < r.length → r[j]? = some (elRule (1 + 11 * (j : Int)))) : Ev (fun k => laws_heldRuleS.f k r 1) (1 + 11 * (r.length : Int)) := by
  have key : ∀ i, i ≤ r.length → Ev (fun k => laws_heldRuleS.l0 k r (1 + 11 * (i : Int)) i) (1 + 11 * (r.length : Int)) := by
    refine down r.length ?_ ?_
    · refine Ev.step (fun k => by rw [laws_heldRuleS.l0, if_neg (by omega)]) ?_
      exact ev_some _
    · intro i hi ih
      have h1 := hj i hi
      rw [List.getElem?_eq_getElem hi] at h1
      have h2 : rd_T87 r (i : Int) = elRule (1 + 11 * (i : Int)) := (rdRule_nat r i hi).trans (Option.some.inj h1)
      obtain ⟨k, hk⟩ : ∃ k, k = 1 + 11 * (i : Int) := ⟨_, rfl⟩
      rw [← hk] at h2 ⊢
      have e1 : wrap64 (k + 1) = k + 1 := w64 (by omega) (by omega)
      have e2 : wrap64 (k + 1 + 1) = k + 1 + 1 := w64 (by omega) (by omega)
      have e3 : wrap64 (k + 1 + 1 + 1) = k + 1 + 1 + 1 := w64 (by omega) (by omega)
      have e4 : wrap64 (k + 1 + 1 + 1 + 1) = k + 1 + 1 + 1 + 1 := w64 (by omega) (by omega)
      have e5 : wrap64 (k + 1 + 1 + 1 + 1 + 1) = k + 1 + 1 + 1 + 1 + 1 := w64 (by omega) (by omega)
      have e6 : wrap64 (k + 1 + 1 + 1 + 1 + 1 + 1) = k + 1 + 1 + 1 + 1 + 1 + 1 := w64 (by omega) (by omega)
      have e7 : wrap64 (k + 1 + 1 + 1 + 1 + 1 + 1 + 1) = k + 1 + 1 + 1 + 1 + 1 + 1 + 1 := w64 (by omega) (by omega)
      have e8 : wrap64 (k + 1 + 1 + 1 + 1 + 1 + 1 + 1 + 1) = k + 1 + 1 + 1 + 1 + 1 + 1 + 1 + 1 := w64 (by omega) (by omega)
      have e9 : wrap64 (k + 1 + 1 + 1 + 1 + 1 + 1 + 1 + 1 + 1) = k + 1 + 1 + 1 + 1 + 1 + 1 + 1 + 1 + 1 := w64 (by omega) (by omega)
      have e10 : wrap64 (k + 1 + 1 + 1 + 1 + 1 + 1 + 1 + 1 + 1 + 1) = k + 1 + 1 + 1 + 1 + 1 + 1 + 1 + 1 + 1 + 1 := w64 (by omega) (by omega)
      have e11 : wrap64 (k + 1 + 1 + 1 + 1 + 1 + 1 + 1 + 1 + 1 + 1 + 1) = k + 1 + 1 + 1 + 1 + 1 + 1 + 1 + 1 + 1 + 1 + 1 := w64 (by omega) (by omega)
      have b1 : (i : Int) < (r.length : Int) := by omega
      have b2 : 0 ≤ (i : Int) := by omega
      refine Ev.step (f := fun q => laws_heldRuleS.l0 q r (1 + 11 * ((i + 1 : Nat) : Int)) ((i + 1 : Nat) : Int)) (fun q => ?_) ih
      rw [laws_heldRuleS.l0, if_pos b1, if_pos b2, h2]
      simp only [e1, e2, e3, e4, e5, e6, e7, e8, e9, e10, e11, elRule, if_true]
      rw [w64 (by omega) (by omega), show k + 1 + 1 + 1 + 1 + 1 + 1 + 1 + 1 + 1 + 1 + 1 = 1 + 11 * ((i + 1 : Nat) : Int) by omega]
      rfl
  exact key 0 (by omega)
theorem ev_markheldRule (l : List S87) (hl : l.length ≤ 4294967296) : ∃ r, laws_markRuleS.f l 1 = some (1 + 11 * (l.length : Int), r) ∧ Ev (fun k => laws_heldRuleS.f k r 1) (1 + 11 * (l.length : Int)) := by
  obtain ⟨h1, h2, h3⟩ := q_goRule l 1 (by omega) (by omega)
  refine ⟨(laws_markRuleS.go l 1).2, ?_, ?_⟩
  · rw [laws_markRuleS.f, ← h1]
  · rw [← h2]
    exact ev_heldRule _ (by omega) (fun j hj => h3 j (by omega))

theorem ev_eqRulesResult (c : Int) {l : List S87} (h : l.length ≤ 1048576) : Ev (fun k => laws_eqRulesResult.f k c l c l) true := by
  unfold laws_eqRulesResult.f
  exact ev_pos rfl (Ev.bind (ev_eqRuleS h) (ev_pos rfl (ev_some _)))
theorem ev_markheldRulesResult (c : Int) (l : List S87) (hl : l.length ≤ 4294967296) : ∃ r, laws_markRulesResult.f c l 1 = some (1 + 11 * (l.length : Int), r) ∧ Ev (fun k => laws_heldRulesResult.f k c r 1) (1 + 11 * (l.length : Int)) := by
  obtain ⟨r, h1, h2⟩ := ev_markheldRule l hl
  refine ⟨r, ?_, ?_⟩
  · rw [laws_markRulesResult.f, h1]
    rfl
  · unfold laws_heldRulesResult.f
    exact Ev.bind h2 (ev_neg (by omega) (ev_some _))

theorem FnExactSwapRules : laws_FnExactSwapRules.Pure := by
  intro l i
  intro hm
  intros
  apply Ev.rounds
  unfold laws_FnExactSwapRules.f
  by_cases h : l.length ≤ 1048576
  · have hc : (l.map cvRule).length ≤ 1048576 := by simpa using h
    have hsp := ev_spec_SwapRules (l.map cvRule) hc i
    have him := ev_impl_SwapRules (l.map cvRule) hc i
    have hlen := swR_len (l.map cvRule) i
    generalize swR (l.map cvRule) i = z at *
    obtain ⟨z1, z2⟩ := z
    have hz : z2.length ≤ 1048576 := Nat.le_trans hlen hc
    obtain ⟨r1, m1⟩ := q_markRule (l.map cvRule) (by omega)
    obtain ⟨r2, m2, m3⟩ := ev_markheldRulesResult z1 z2 (by omega)
    refine ev_opt (q_szRuleS h) (ev_neg (by omega) ?_)
    refine Ev.bind (ev_toRuleS h) (Ev.bind hsp (Ev.bind (ev_toRuleS h) (Ev.bind him (Ev.bind (ev_eqRulesResult z1 hz) (ev_pos rfl ?_)))))
    refine Ev.bind (ev_toRuleS h) (Ev.bind (ev_eqRuleS hc) (ev_pos rfl (ev_opt m1 (ev_neg (by omega) (Ev.bind (ev_eqRulesResult z1 hz) ?_)))))
    refine Ev.step (fun k => by rw [laws_FnExactSwapRules.j0, if_neg (by simp)]) ?_
    refine ev_opt m2 (Ev.bind m3 (ev_neg (by omega) (ev_pos rfl ?_)))
    refine Ev.bind (ev_toRuleS h) (Ev.bind him (Ev.bind (ev_eqRulesResult z1 hz) (ev_pos rfl ?_)))
    exact Ev.bind m3 (ev_neg (by omega) (ev_pos rfl (ev_some _)))
  · exact ev_opt (q_szRuleS_big h hm) (ev_pos (by omega) (ev_some _))

end Go.Proofs.Ytcelgjhhmkgnhaa.Pure
