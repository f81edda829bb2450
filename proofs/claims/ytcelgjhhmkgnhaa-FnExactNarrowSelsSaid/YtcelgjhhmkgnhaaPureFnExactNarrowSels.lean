
/- Proved: the law FnExactNarrowSels answers true at every input that Go can hand in (it says: The program's NarrowSels returns what the reference's returns, for all arguments.) No condition beyond the statement's own. -/
import Derived.Test.YtcelgjhhmkgnhaaStFnExactNarrowSels
namespace Go.Proofs.Ytcelgjhhmkgnhaa.Pure
open Go.RowKit Go.Proofs.Ytcelgjhhmkgnhaa.PFnExactNarrowSels Go.Proofs.YtcelgjhhmkgnhaaW.PrintWords Go.Proofs.YtcelgjhhmkgnhaaW.PrintLast Go.Proofs.YtcelgjhhmkgnhaaW.PrintMore
set_option linter.unusedVariables false
set_option linter.unusedSimpArgs false

theorem w64 {x : Int} (h0 : -9223372036854775808 ≤ x) (h1 : x ≤ 9223372036854775807) : wrap64 x = x := by
  unfold wrap64
  omega
theorem ev_some {α : Type} (r : α) : Ev (fun _ => some r) r := Ev.now r
theorem ev_pos {α : Type} {c : Prop} [Decidable c] {A B : Nat → Option α} {r : α} (h : c) (e : Ev A r) : Ev (fun k => if c then A k else B k) r := by
  simpa only [if_pos h] using e
theorem ev_neg {α : Type} {c : Prop} [Decidable c] {A B : Nat → Option α} {r : α} (h : ¬ c) (e : Ev B r) : Ev (fun k => if c then A k else B k) r := by
  simpa only [if_neg h] using e
theorem ev_opt {α β : Type} {o : Option α} {f : Nat → α → Option β} {a : α} {r : β} (h : o = some a) (e : Ev (fun n => f n a) r) : Ev (fun n => o.bind (f n)) r := by
  simpa only [h, Option.bind_some] using e
theorem ev_to {α : Type} {g : Nat → Option α} {r r' : α} (e : Ev g r) (h : r = r') : Ev g r' := h ▸ e
theorem rd_nat (l : List Int) (i : Nat) (h : i < l.length) : rd l (i : Int) = l[i] := by
  unfold rd
  simp [List.getD_eq_getElem?_getD, h]
theorem take_full {α : Type} {a b : List α} (hl : b.length = a.length) (ht : b.take a.length = a.take a.length) : b = a := by
  rw [List.take_of_length_le (by omega), List.take_of_length_le (by omega)] at ht
  exact ht
theorem take_next {α : Type} {a b : List α} {i : Nat} (ha : i < a.length) (hb : i < b.length) (ht : b.take i = a.take i) (hx : b[i] = a[i]) : b.take (i + 1) = a.take (i + 1) := by
  rw [List.take_succ_eq_append_getElem ha, List.take_succ_eq_append_getElem hb, ht, hx]
theorem ev_cond {α : Type} {c : Prop} [Decidable c] {A B : Nat → Option α} {r r' : α} (hp : c → Ev A r) (hn : ¬ c → Ev B r') : Ev (fun k => if c then A k else B k) (if c then r else r') := by
  by_cases h : c
  · rw [if_pos h]; exact ev_pos h (hp h)
  · rw [if_neg h]; exact ev_neg h (hn h)
theorem set_take {α : Type} {a b : List α} {i : Nat} {x : α} (h : i < a.length) (hl : b.length = a.length) (ht : b.take i = a.take i) (hx : x = a[i]) : (b.set i x).take (i + 1) = a.take (i + 1) := by
  refine take_next h (by simp; omega) ?_ (by simp [hx])
  rw [← ht]
  apply List.ext_getElem?
  intro j
  simp only [List.getElem?_take, List.getElem?_set]
  by_cases hj : j < i
  · rw [if_pos hj, if_pos hj, if_neg (by omega)]
  · rw [if_neg hj, if_neg hj]
theorem ev_succ {α : Type} {g : Nat → Option α} {r : α} (h : ∀ k, g (k + 1) = some r) : Ev g r := Ev.step h (ev_some r)
theorem down {P : Nat → Prop} (n : Nat) (hend : P n) (hstep : ∀ i, i < n → P (i + 1) → P i) : ∀ i, i ≤ n → P i := by
  intro i hi
  obtain ⟨d, hd⟩ : ∃ d, i + d = n := ⟨n - i, by omega⟩
  induction d generalizing i with
  | zero =>
    obtain rfl : i = n := by omega
    exact hend
  | succ d ih => exact hstep i (by omega) (ih (i + 1) (by omega) (by omega))
theorem getD_nat {α : Type} (l : List α) (z : α) (i : Nat) (h : i < l.length) : l.getD (i : Int).toNat z = l[i] := by
  simp [List.getD_eq_getElem?_getD, h]
/-- A loop that writes the image of each element into its place. -/
theorem map_loop {α β : Type} (F : Nat → List β → Int → Option (List β)) (l : List α) (c : α → β)
    (hend : ∀ k (b : List β), F (k + 1) b l.length = some b) (hstep : ∀ k (b : List β) (i : Nat) (h : i < l.length), b.length = l.length → F (k + 1) b i = F k (b.set i (c l[i])) ((i + 1 : Nat) : Int)) :
    ∀ (b : List β), b.length = l.length → Ev (fun k => F k b 0) (l.map c) := by
  have key : ∀ (i : Nat), i ≤ l.length → ∀ (b : List β), b.length = l.length → b.take i = (l.map c).take i → Ev (fun k => F k b i) (l.map c) := by
    refine down l.length ?_ ?_
    · intro b hl ht
      refine Ev.step (fun k => hend k b) ?_
      rw [take_full (a := l.map c) (b := b) (by simpa using hl) (by simpa using ht)]
      exact ev_some _
    · intro i hi ih b hl ht
      refine Ev.step (fun k => hstep k b i hi hl) (ih _ (by simpa using hl) ?_)
      exact set_take (by simpa using hi) (by simpa using hl) ht (by simp)
  intro b hl
  exact key 0 (by omega) b hl (by simp)
/-- A loop that goes through all places and answers r. -/
theorem count_loop {ρ : Type} (F : Nat → Int → Option ρ) (n : Nat) (r : ρ) (hend : ∀ k, F (k + 1) n = some r) (hstep : ∀ k (i : Nat), i < n → F (k + 1) i = F k ((i + 1 : Nat) : Int)) : Ev (fun k => F k 0) r := by
  have key : ∀ i, i ≤ n → Ev (fun k => F k (i : Nat)) r := down n (Ev.step hend (ev_some r)) (fun i hi ih => Ev.step (fun k => hstep k i hi) ih)
  exact key 0 (by omega)

structure Sl where
  fl : Int
  fh : Int
  tl : Int
  th : Int
  pl : Int
  ph : Int
  ql : Int
  qh : Int
  pr : Int
def rok (lo hi most : Int) : Prop := 0 ≤ lo ∧ lo ≤ hi ∧ hi ≤ most
instance (lo hi most : Int) : Decidable (rok lo hi most) := by unfold rok; infer_instance
def selOk (s : Sl) : Prop := rok s.fl s.fh 4294967295 ∧ rok s.tl s.th 4294967295 ∧ rok s.pl s.ph 65535 ∧ rok s.ql s.qh 65535 ∧ 0 ≤ s.pr ∧ s.pr ≤ 255
instance (s : Sl) : Decidable (selOk s) := by unfold selOk; infer_instance
def hasP (p : Int) : Prop := p = 6 ∨ p = 17
instance (p : Int) : Decidable (hasP p) := by unfold hasP; infer_instance
def selPorts (s : Sl) : Prop := s.pr = 0 ∨ hasP s.pr ∨ (s.pl = 0 ∧ s.ph = 65535 ∧ s.ql = 0 ∧ s.qh = 65535)
instance (s : Sl) : Decidable (selPorts s) := by unfold selPorts; infer_instance
def selF (s : Sl) : Int := if selOk s then (if selPorts s then 0 else 1) else 3

def slOf (x : S65) : Sl := ⟨x.f0.f0, x.f0.f1, x.f1.f0, x.f1.f1, x.f2.f0, x.f2.f1, x.f3.f0, x.f3.f1, x.f4⟩

def fitM (s : Sl) : Option Sl := if s.pr = 0 ∨ hasP s.pr then some s else if (s.pl ≤ 0 ∧ 0 ≤ s.ph) ∧ (s.ql ≤ 0 ∧ 0 ≤ s.qh) then some ⟨s.fl, s.fh, s.tl, s.th, 0, 65535, 0, 65535, s.pr⟩ else none
def crossM (a b : Sl) (pr : Int) : Sl := ⟨max a.fl b.fl, min a.fh b.fh, max a.tl b.tl, min a.th b.th, max a.pl b.pl, min a.ph b.ph, max a.ql b.ql, min a.qh b.qh, pr⟩
def okM (s : Sl) : Prop := s.fl ≤ s.fh ∧ s.tl ≤ s.th ∧ s.pl ≤ s.ph ∧ s.ql ≤ s.qh
instance (s : Sl) : Decidable (okM s) := by unfold okM; infer_instance
def prM (a b : Int) : Prop := a = 0 ∨ b = 0 ∨ a = b
instance (a b : Int) : Decidable (prM a b) := by unfold prM; infer_instance
def meetM (a b : Sl) : Option Sl := if okM (crossM a b 0) ∧ prM a.pr b.pr then fitM (crossM a b (if a.pr = 0 then b.pr else a.pr)) else none
def outB : Option Sl → Int × Int × Int × Int × Int × Int × Int × Int × Int × Bool
  | some s => (s.fl, s.fh, s.tl, s.th, s.pl, s.ph, s.ql, s.qh, s.pr, true)
  | none => (0, 0, 0, 0, 0, 0, 0, 0, 0, false)
def outC : Option Sl → Int × Int × Int × Int × Int × Int × Int × Int × Int × Int
  | some s => (s.fl, s.fh, s.tl, s.th, s.pl, s.ph, s.ql, s.qh, s.pr, 0)
  | none => (0, 0, 0, 0, 0, 0, 0, 0, 0, 4)
theorem mx_eq (a b : Int) : mx a b = max a b := by
  unfold mx
  omega
theorem mn_eq (a b : Int) : mn a b = min a b := by
  unfold mn
  omega

def rin (al ah bl bh : Int) : Prop := bl ≤ al ∧ ah ≤ bh
instance (al ah bl bh : Int) : Decidable (rin al ah bl bh) := by unfold rin; infer_instance
def withinS (a b : Sl) : Prop := rin a.fl a.fh b.fl b.fh ∧ rin a.tl a.th b.tl b.th ∧ rin a.pl a.ph b.pl b.ph ∧ rin a.ql a.qh b.ql b.qh ∧ (b.pr = 0 ∨ a.pr = b.pr)
instance (a b : Sl) : Decidable (withinS a b) := by unfold withinS; infer_instance

def slT (s : Sl) : S65 := ⟨⟨s.fl, s.fh⟩, ⟨s.tl, s.th⟩, ⟨s.pl, s.ph⟩, ⟨s.ql, s.qh⟩, s.pr⟩
def hitM (m : Sl) (l : List S65) : Bool := l.any fun y => decide (withinS m (slOf y))
def narI (a : S65) : List S65 → List S65 → List S65
  | [], out => out
  | b :: bs, out => match meetM (slOf a) (slOf b) with
    | some m => if hitM m out = true then narI a bs out else narI a bs (out ++ [slT m])
    | none => narI a bs out
def narO (th : List S65) : List S65 → List S65 → List S65
  | [], out => out
  | a :: l, out => narO th l (narI a th out)
theorem narI_len (a : S65) : ∀ (bs out : List S65), (narI a bs out).length ≤ out.length + bs.length
  | [], out => by rw [narI]; simp
  | b :: bs, out => by
    rw [narI]
    have h1 := narI_len a bs out
    split
    · rename_i m _
      have h2 := narI_len a bs (out ++ [slT m])
      rw [List.length_append, List.length_singleton] at h2
      split <;> simp only [List.length_cons] <;> omega
    · simp only [List.length_cons]
      omega
def finM (o : List S65) : List S65 × Int := if (o.length : Int) = 0 then ([], 4) else if (o.length : Int) > 12 then ([], 2) else (o, 0)
theorem finM_len (o : List S65) : (finM o).1.length ≤ 12 := by
  unfold finM
  split
  · simp
  · split
    · simp
    · simp only
      omega

def scanSel : List S65 → Int
  | [] => 0
  | x :: xs => if selF (slOf x) = 0 then scanSel xs else selF (slOf x)
def selsF (l : List S65) : Int := if l.length < 1 ∨ 12 < l.length then 2 else scanSel l

theorem scanSel_okB : ∀ (l : List S65), scanSel l = 0 → ∀ x ∈ l, selF (slOf x) = 0
  | [], _, _, h => absurd h (by simp)
  | y :: ys, h, x, hx => by
    rw [scanSel] at h
    by_cases g : selF (slOf y) = 0
    · rw [if_pos g] at h
      rcases List.mem_cons.mp hx with rfl | hx
      · exact g
      · exact scanSel_okB ys h x hx
    · rw [if_neg g] at h
      exact absurd h g
theorem selsF_okB {l : List S65} (h : selsF l = 0) : (1 ≤ l.length ∧ l.length ≤ 12) ∧ ∀ x ∈ l, selF (slOf x) = 0 := by
  unfold selsF at h
  split at h
  · exact absurd h (by omega)
  · exact ⟨by omega, scanSel_okB l h⟩

def narR (l0 l1 : List S65) : Int × List S65 := if selsF l0 = 0 then (if selsF l1 = 0 then ((finM (narO l1 l0 [])).2, (finM (narO l1 l0 [])).1) else (selsF l1, [])) else (selsF l0, [])
theorem narR_len (l0 l1 : List S65) : (narR l0 l1).2.length ≤ 12 := by
  unfold narR
  split
  · split
    · exact finM_len _
    · simp
  · simp

theorem q_spec_HasPorts (a : Int) : spec_HasPorts.f a = some (decide (a = 6 ∨ a = 17)) := by
  unfold spec_HasPorts.f
  by_cases h : a = 6
  · simp [h]
  · by_cases g : a = 17
    · simp [g]
    · simp [h, g]
theorem q_impl_HasPorts (a : Int) : impl_HasPorts.f a = some (decide (a = 6 ∨ a = 17)) := by
  unfold impl_HasPorts.f
  by_cases h : a = 6
  · simp [h]
  · by_cases g : a = 17
    · simp [g]
    · simp [h, g]

theorem q_l3Meet (a b c d : Int) : spec_l3Meet.f a b c d = some (max a c, min b d) := by
  unfold spec_l3Meet.f
  have h1 : spec_l1Max.f a c = some (max a c) := by
    unfold spec_l1Max.f
    by_cases h : a > c
    · rw [if_pos h, show max a c = a by omega]
    · rw [if_neg h, show max a c = c by omega]
  have h2 : spec_l1Min.f b d = some (min b d) := by
    unfold spec_l1Min.f
    by_cases h : b < d
    · rw [if_pos h, show min b d = b by omega]
    · rw [if_neg h, show min b d = d by omega]
  rw [h1, h2]
  rfl
theorem q_l1Max (a c : Int) : spec_l1Max.f a c = some (max a c) := by
  unfold spec_l1Max.f
  by_cases h : a > c
  · rw [if_pos h, show max a c = a by omega]
  · rw [if_neg h, show max a c = c by omega]
theorem q_l1Min (b d : Int) : spec_l1Min.f b d = some (min b d) := by
  unfold spec_l1Min.f
  by_cases h : b < d
  · rw [if_pos h, show min b d = b by omega]
  · rw [if_neg h, show min b d = d by omega]
theorem q_l3Common_j3 (k : Nat) (b : Bool) (s : Sl) : spec_l3Common.j3 (k + 1) b s.fl s.fh s.tl s.th s.pl s.ph s.ql s.qh s.pr = some (outC (if b = true then none else some ⟨s.fl, s.fh, s.tl, s.th, 0, 65535, 0, 65535, s.pr⟩)) := by
  rw [spec_l3Common.j3]
  cases b <;> rfl
theorem q_l3Common_j2 (k : Nat) (b : Bool) (s : Sl) (hb : b = true ↔ ¬ (s.pr = 0 ∨ hasP s.pr)) (h0 : 0 ≤ s.ph ∧ 0 ≤ s.qh) : spec_l3Common.j2 (k + 2) b s.fl s.fh s.tl s.th s.pl s.ph s.ql s.qh s.pr = some (outC (fitM s)) := by
  rw [spec_l3Common.j2]
  simp only [q_l3Common_j3]
  unfold fitM
  by_cases h : s.pr = 0 ∨ hasP s.pr
  · rw [if_pos h, if_neg (fun e => hb.mp e h)]
    rfl
  · rw [if_neg h, if_pos (hb.mpr h)]
    by_cases h1 : s.pl > 0
    · rw [if_pos h1, if_pos trivial, if_neg (by omega)]
    · rw [if_neg h1]
      by_cases h2 : s.ql > 0
      · rw [if_pos (by simpa using h2), if_neg (by omega)]
      · rw [if_neg (by simpa using h2), if_pos (by omega)]
theorem q_l3Common_j1 (k : Nat) (b : Bool) (s : Sl) (h0 : 0 ≤ s.ph ∧ 0 ≤ s.qh) : spec_l3Common.j1 (k + 3) b s.fl s.fh s.tl s.th s.pl s.ph s.ql s.qh s.pr = some (outC (if b = true then none else fitM s)) := by
  rw [spec_l3Common.j1, q_spec_HasPorts, Option.bind_some]
  cases b
  · simp only [Bool.false_eq_true, if_false]
    by_cases h : s.pr = 0
    · rw [if_pos h, q_l3Common_j2 k false s (by simp [h]) h0]
    · rw [if_neg h, q_l3Common_j2 k _ s (by simp [h, hasP]) h0]
  · rfl
theorem q_l3Common_l0 (k : Nat) (a b s : Sl) (h0 : 0 ≤ s.ph ∧ 0 ≤ s.qh) (ha : 0 ≤ a.pr) (hb : 0 ≤ b.pr) : spec_l3Common.l0 (k + 8) [⟨s.fl, s.fh⟩, ⟨s.tl, s.th⟩, ⟨s.pl, s.ph⟩, ⟨s.ql, s.qh⟩] 0 a.fl a.fh a.tl a.th a.pl a.ph a.ql a.qh a.pr b.fl b.fh b.tl b.th b.pl b.ph b.ql b.qh b.pr s.fl s.fh s.tl s.th s.pl s.ph s.ql s.qh s.pr = some (outC (if okM s ∧ prM a.pr b.pr then fitM s else none)) := by
  have e1 : wrap64 (0 + 1) = 1 := by rw [w64 (by omega) (by omega)]; rfl
  have e2 : wrap64 (1 + 1) = 2 := by rw [w64 (by omega) (by omega)]; rfl
  have e3 : wrap64 (2 + 1) = 3 := by rw [w64 (by omega) (by omega)]; rfl
  have e4 : wrap64 (3 + 1) = 4 := by rw [w64 (by omega) (by omega)]; rfl
  have r0 : rd_T63 [⟨s.fl, s.fh⟩, ⟨s.tl, s.th⟩, ⟨s.pl, s.ph⟩, ⟨s.ql, s.qh⟩] 0 = ⟨s.fl, s.fh⟩ := rfl
  have r1 : rd_T63 [⟨s.fl, s.fh⟩, ⟨s.tl, s.th⟩, ⟨s.pl, s.ph⟩, ⟨s.ql, s.qh⟩] 1 = ⟨s.tl, s.th⟩ := rfl
  have r2 : rd_T63 [⟨s.fl, s.fh⟩, ⟨s.tl, s.th⟩, ⟨s.pl, s.ph⟩, ⟨s.ql, s.qh⟩] 2 = ⟨s.pl, s.ph⟩ := rfl
  have r3 : rd_T63 [⟨s.fl, s.fh⟩, ⟨s.tl, s.th⟩, ⟨s.pl, s.ph⟩, ⟨s.ql, s.qh⟩] 3 = ⟨s.ql, s.qh⟩ := rfl
  unfold okM
  rw [spec_l3Common.l0, if_pos (by omega), if_pos (by omega), if_pos (by simp), r0, e1]
  by_cases h1 : s.fl ≤ s.fh
  · rw [if_neg (by simpa using h1), spec_l3Common.l0, if_pos (by omega), if_pos (by omega), if_pos (by simp), r1, e2]
    by_cases h2 : s.tl ≤ s.th
    · rw [if_neg (by simpa using h2), spec_l3Common.l0, if_pos (by omega), if_pos (by omega), if_pos (by simp), r2, e3]
      by_cases h3 : s.pl ≤ s.ph
      · rw [if_neg (by simpa using h3), spec_l3Common.l0, if_pos (by omega), if_pos (by omega), if_pos (by simp), r3, e4]
        by_cases h4 : s.ql ≤ s.qh
        · rw [if_neg (by simpa using h4), spec_l3Common.l0, if_neg (by omega), q_l1Min, Option.bind_some, q_l3Common_j1 k _ s h0, q_l3Common_j1 k _ s h0]
          unfold prM
          by_cases h5 : a.pr = b.pr
          · rw [if_pos h5, if_neg (by simp), if_pos ⟨⟨h1, h2, h3, h4⟩, .inr (.inr h5)⟩]
          · rw [if_neg h5]
            by_cases h6 : a.pr = 0 ∨ b.pr = 0
            · rw [if_neg (by simp only [bne_iff_ne, ne_eq, Decidable.not_not]; omega), if_pos ⟨⟨h1, h2, h3, h4⟩, by omega⟩]
            · rw [if_pos (by simp only [bne_iff_ne, ne_eq]; omega), if_neg (by omega)]
        · rw [if_pos (by simpa using h4), if_neg (by omega)]
          rfl
      · rw [if_pos (by simpa using h3), if_neg (by omega)]
        rfl
    · rw [if_pos (by simpa using h2), if_neg (by omega)]
      rfl
  · rw [if_pos (by simpa using h1), if_neg (by omega)]
    rfl
theorem selF_ok {s : Sl} (h : selF s = 0) : selOk s := by
  unfold selF at h
  by_cases g : selOk s
  · exact g
  · rw [if_neg g] at h
    exact absurd h (by omega)
theorem q_spec_l3Common (k : Nat) (a b : Sl) (ha : selF a = 0) (hb : selF b = 0) : spec_l3Common.f (k + 8) a.fl a.fh a.tl a.th a.pl a.ph a.ql a.qh a.pr b.fl b.fh b.tl b.th b.pl b.ph b.ql b.qh b.pr = some (outC (meetM a b)) := by
  obtain ⟨_, _, ⟨a1, a2, a3⟩, ⟨a4, a5, a6⟩, a7, _⟩ := selF_ok ha
  obtain ⟨_, _, ⟨b1, b2, b3⟩, ⟨b4, b5, b6⟩, b7, _⟩ := selF_ok hb
  unfold spec_l3Common.f
  simp only [q_l3Meet, q_l1Max, Option.bind_some]
  have h := q_l3Common_l0 k a b (crossM a b (max a.pr b.pr)) ⟨by simp only [crossM]; omega, by simp only [crossM]; omega⟩ a7 b7
  simp only [crossM] at h
  rw [h]
  unfold meetM okM crossM prM
  by_cases h5 : a.pr = 0 ∨ b.pr = 0 ∨ a.pr = b.pr
  · rw [show max a.pr b.pr = if a.pr = 0 then b.pr else a.pr by split <;> omega]
  · simp only [h5, and_false, if_false]
theorem ev_up {α : Type} {g : Nat → Option α} {r : α} (n : Nat) (h : ∀ k, g (k + n) = some r) : Ev g r := by
  refine ⟨n, fun m hm => ?_⟩
  have := h (m - n)
  rwa [Nat.sub_add_cancel hm] at this
theorem ev_spec_l3Common (a b : Sl) (ha : selF a = 0) (hb : selF b = 0) : Ev (fun k => spec_l3Common.f k a.fl a.fh a.tl a.th a.pl a.ph a.ql a.qh a.pr b.fl b.fh b.tl b.th b.pl b.ph b.ql b.qh b.pr) (outC (meetM a b)) := ev_up 8 (fun k => q_spec_l3Common k a b ha hb)

theorem q_spec_l3In (a b c d : Int) : spec_l3In.f a b c d = some (decide (rin a b c d)) := by
  unfold spec_l3In.f rin
  by_cases h : c ≤ a
  · simp [h]
  · simp [h]
theorem q_spec_l3Within (a b : Sl) : spec_l3Within.f a.fl a.fh a.tl a.th a.pl a.ph a.ql a.qh a.pr b.fl b.fh b.tl b.th b.pl b.ph b.ql b.qh b.pr = some (decide (withinS a b)) := by
  have h7 : (b.pr == a.pr) = (a.pr == b.pr) := by rw [Bool.eq_iff_iff, beq_iff_eq, beq_iff_eq]; exact eq_comm
  unfold spec_l3Within.f withinS
  simp only [q_spec_l3In, Option.bind_some, decide_eq_true_eq, h7]
  by_cases h1 : rin a.fl a.fh b.fl b.fh <;> by_cases h2 : rin a.tl a.th b.tl b.th <;> by_cases h3 : rin a.pl a.ph b.pl b.ph <;> by_cases h4 : rin a.ql a.qh b.ql b.qh <;> by_cases h5 : b.pr = 0 <;> by_cases h6 : a.pr = b.pr <;> simp [h1, h2, h3, h4, h5, h6]

theorem rdSel_nat (l : List S65) (i : Nat) (h : i < l.length) : rd_T65 l i = l[i] := getD_nat l _ i h

theorem ev_l3Narrow_l2 (x0 x1 out : List S65) (hl : out.length ≤ 100000) (i j : Int) (m : Sl) {r : List S65 × Int} (h1 : hitM m out = true → Ev (fun k => spec_l3Narrow.l1 k x0 x1 out i (wrap64 (j + 1))) r) (h2 : hitM m out = false → Ev (fun k => spec_l3Narrow.l1 k x0 x1 (out ++ [slT m]) i (wrap64 (j + 1))) r) :
    Ev (fun k => spec_l3Narrow.l2 k x0 x1 out i j false 0 m.fl m.fh m.tl m.th m.pl m.ph m.ql m.qh m.pr) r := by
  have key : ∀ n, n ≤ out.length → ∀ b : Bool, (b || hitM m (out.drop n)) = hitM m out → Ev (fun k => spec_l3Narrow.l2 k x0 x1 out i j b (n : Nat) m.fl m.fh m.tl m.th m.pl m.ph m.ql m.qh m.pr) r := by
    refine down out.length ?_ ?_
    · intro b hb
      rw [List.drop_length] at hb
      refine Ev.step (fun k => by rw [spec_l3Narrow.l2, if_neg (by omega)]) ?_
      cases b
      · refine ev_neg (by simp) (ev_pos (by omega) (h2 (hb.symm.trans rfl)))
      · exact ev_pos rfl (h1 (hb.symm.trans rfl))
    · intro n hn ih b hb
      refine Ev.step (fun k => by rw [spec_l3Narrow.l2, if_pos (by omega), w64 (by omega) (by omega)]) ?_
      cases b
      · refine ev_neg (by simp) (ev_pos (by omega) ?_)
        refine ev_opt (a := decide (withinS m (slOf out[n]))) (by rw [rdSel_nat out n hn]; exact q_spec_l3Within m (slOf out[n])) ?_
        refine ih _ ?_
        rw [← hb, List.drop_eq_getElem_cons hn, Bool.false_or]
        unfold hitM
        rw [List.any_cons]
      · refine ev_pos rfl (ih true ?_)
        rw [← hb]
        simp
  exact key 0 (by omega) false (by simp)
theorem ev_l3Narrow_l2t (x0 x1 out : List S65) (hl : out.length ≤ 100000) (i j : Int) (m0 m1 m2 m3 m4 m5 m6 m7 m8 : Int) {r : List S65 × Int} (h1 : Ev (fun k => spec_l3Narrow.l1 k x0 x1 out i (wrap64 (j + 1))) r) :
    Ev (fun k => spec_l3Narrow.l2 k x0 x1 out i j true 0 m0 m1 m2 m3 m4 m5 m6 m7 m8) r := by
  have key : ∀ n, n ≤ out.length → Ev (fun k => spec_l3Narrow.l2 k x0 x1 out i j true (n : Nat) m0 m1 m2 m3 m4 m5 m6 m7 m8) r := by
    refine down out.length ?_ ?_
    · exact Ev.step (fun k => by rw [spec_l3Narrow.l2, if_neg (by omega), if_pos rfl]) h1
    · intro n hn ih
      exact Ev.step (fun k => by rw [spec_l3Narrow.l2, if_pos (by omega), if_pos rfl, w64 (by omega) (by omega)]; rfl) ih
  exact key 0 (by omega)
theorem ev_l3Narrow_l1 (x0 x1 : List S65) (h0 : x0.length ≤ 12) (h1 : x1.length ≤ 12) (ok0 : ∀ x ∈ x0, selF (slOf x) = 0) (ok1 : ∀ x ∈ x1, selF (slOf x) = 0) (i : Nat) (hi : i < x0.length) {r : List S65 × Int} :
    ∀ n, n ≤ x1.length → ∀ out : List S65, out.length + (x1.length - n) ≤ 100000 → Ev (fun k => spec_l3Narrow.l0 k x0 x1 (narI x0[i] (x1.drop n) out) ((i + 1 : Nat) : Int)) r → Ev (fun k => spec_l3Narrow.l1 k x0 x1 out (i : Nat) (n : Nat)) r := by
  refine down x1.length ?_ ?_
  · intro out _ h
    rw [List.drop_length, narI] at h
    exact Ev.step (fun k => by rw [spec_l3Narrow.l1, if_neg (by omega), w64 (by omega) (by omega)]; rfl) h
  · intro n hn ih out hl h
    rw [List.drop_eq_getElem_cons hn, narI] at h
    refine Ev.step (fun k => by rw [spec_l3Narrow.l1, if_pos (by omega), if_pos (by omega), if_pos (by omega), if_pos (by omega), rdSel_nat x0 i hi, rdSel_nat x1 n hn]) ?_
    refine Ev.bind (ev_spec_l3Common (slOf x0[i]) (slOf x1[n]) (ok0 _ (List.getElem_mem hi)) (ok1 _ (List.getElem_mem hn))) ?_
    have hw : wrap64 ((n : Int) + 1) = ((n + 1 : Nat) : Int) := w64 (by omega) (by omega)
    cases hm : meetM (slOf x0[i]) (slOf x1[n]) with
    | none =>
      rw [hm] at h
      refine ev_l3Narrow_l2t x0 x1 out (by omega) _ _ _ _ _ _ _ _ _ _ _ ?_
      rw [hw]
      exact ih out (by omega) h
    | some m =>
      rw [hm] at h
      refine ev_l3Narrow_l2 x0 x1 out (by omega) _ _ m (fun g => ?_) (fun g => ?_)
      · rw [hw]
        exact ih out (by omega) (by simpa [g] using h)
      · rw [hw]
        exact ih (out ++ [slT m]) (by simp; omega) (by simpa [g] using h)
theorem ev_l3Narrow (x0 x1 : List S65) (h0 : x0.length ≤ 12) (h1 : x1.length ≤ 12) (ok0 : ∀ x ∈ x0, selF (slOf x) = 0) (ok1 : ∀ x ∈ x1, selF (slOf x) = 0) : Ev (fun k => spec_l3Narrow.f k x0 x1) (finM (narO x1 x0 [])) := by
  have key : ∀ n, n ≤ x0.length → ∀ out : List S65, out.length ≤ 12 * n → Ev (fun k => spec_l3Narrow.l0 k x0 x1 out (n : Nat)) (finM (narO x1 (x0.drop n) out)) := by
    refine down x0.length ?_ ?_
    · intro out hl
      rw [List.drop_length, narO]
      refine Ev.step (fun k => by rw [spec_l3Narrow.l0, if_neg (by omega)]) ?_
      unfold finM
      split
      · exact ev_some _
      · split <;> exact ev_some _
    · intro n hn ih out hl
      rw [List.drop_eq_getElem_cons hn, narO]
      refine Ev.step (fun k => by rw [spec_l3Narrow.l0, if_pos (by omega)]) ?_
      have hlen := narI_len x0[n] x1 out
      exact ev_l3Narrow_l1 x0 x1 h0 h1 ok0 ok1 n hn 0 (by omega) out (by omega) (by rw [List.drop_zero]; exact ih _ (by omega))
  exact key 0 (by omega) [] (by simp)

theorem q_spec_l1In (a b c : Int) : spec_l1In.f a b c = some (decide (b ≤ a ∧ a ≤ c)) := by
  unfold spec_l1In.f
  by_cases h : b ≤ a
  · simp [h]
  · simp [h]

theorem q_spec_l3Range (lo hi m : Int) : spec_l3Range.f lo hi m = some (decide (rok lo hi m)) := by
  unfold spec_l3Range.f rok
  by_cases h : 0 ≤ lo
  · by_cases g : lo ≤ hi
    · simp [h, g]
    · simp [h, g]
  · simp [h]
theorem q_spec_SelFault_j0 (k : Nat) (b : Bool) (s : Sl) : spec_SelFault.j0 (k + 1) b s.fl s.fh s.tl s.th s.pl s.ph s.ql s.qh s.pr = some (if b = true then 3 else if selPorts s then 0 else 1) := by
  rw [spec_SelFault.j0]
  simp only [q_spec_HasPorts, spec_l3All.f, Option.bind_some, decide_eq_true_eq]
  unfold selPorts hasP
  cases b
  · by_cases h1 : s.pr = 0
    · simp [h1]
    · by_cases h2 : s.pr = 6 ∨ s.pr = 17
      · simp [h1, h2]
      · by_cases h3 : s.pl = 0 <;> by_cases h4 : s.ph = 65535 <;> by_cases h5 : s.ql = 0 <;> by_cases h6 : s.qh = 65535 <;> simp [h1, h2, h3, h4, h5, h6]
  · simp
theorem q_spec_SelFault (k : Nat) (s : Sl) : spec_SelFault.f (k + 1) s.fl s.fh s.tl s.th s.pl s.ph s.ql s.qh s.pr = some (selF s) := by
  unfold spec_SelFault.f
  simp only [q_spec_l3Range, q_spec_l1In, q_spec_SelFault_j0, Option.bind_some, decide_eq_true_eq]
  unfold selF selOk
  by_cases h1 : rok s.fl s.fh 4294967295 <;> by_cases h2 : rok s.tl s.th 4294967295 <;> by_cases h3 : rok s.pl s.ph 65535 <;> by_cases h4 : rok s.ql s.qh 65535 <;> by_cases h5 : 0 ≤ s.pr ∧ s.pr ≤ 255 <;> simp [h1, h2, h3, h4, h5]
theorem ev_spec_SelFault (s : Sl) : Ev (fun k => spec_SelFault.f k s.fl s.fh s.tl s.th s.pl s.ph s.ql s.qh s.pr) (selF s) := ev_succ (fun k => q_spec_SelFault k s)

theorem ev_spec_SelsFault_loop (l : List S65) (hl : l.length ≤ 1048576) : ∀ i, i ≤ l.length → Ev (fun k => spec_SelsFault.l0 k l i) (scanSel (l.drop i)) := by
  refine down l.length ?_ ?_
  · rw [List.drop_length]
    refine Ev.step (fun k => by rw [spec_SelsFault.l0, if_neg (by omega)]) ?_
    exact ev_some _
  · intro i hi ih
    rw [List.drop_eq_getElem_cons hi, scanSel]
    refine Ev.step (fun k => by rw [spec_SelsFault.l0, if_pos (by omega), if_pos (by omega), rdSel_nat l i hi, w64 (by omega) (by omega)]) ?_
    refine Ev.bind (ev_spec_SelFault (slOf l[i])) ?_
    by_cases h : selF (slOf l[i]) = 0
    · rw [if_pos h]
      exact ev_pos h ih
    · rw [if_neg h]
      exact ev_neg h (ev_some _)
theorem ev_spec_SelsFault (l : List S65) (hl : l.length ≤ 1048576) : Ev (fun k => spec_SelsFault.f k l) (selsF l) := by
  unfold spec_SelsFault.f selsF
  by_cases h1 : (l.length : Int) < 1
  · refine ev_pos h1 ?_
    rw [if_pos (by omega)]
    exact ev_succ (fun k => by rw [spec_SelsFault.j0, if_pos rfl])
  · refine ev_neg h1 ?_
    by_cases h2 : (l.length : Int) > 12
    · rw [if_pos (by omega), decide_eq_true h2]
      exact ev_succ (fun k => by rw [spec_SelsFault.j0, if_pos rfl])
    · rw [if_neg (by omega), decide_eq_false h2]
      refine Ev.step (fun k => by rw [spec_SelsFault.j0, if_neg (by simp)]) ?_
      exact ev_spec_SelsFault_loop l hl 0 (by omega)

theorem ev_spec_NarrowSels (l0 l1 : List S65) (h0 : l0.length ≤ 1048576) (h1 : l1.length ≤ 1048576) : Ev (fun k => spec_NarrowSels.f k l0 l1) (narR l0 l1) := by
  unfold spec_NarrowSels.f narR
  refine Ev.bind (ev_spec_SelsFault l0 h0) (ev_cond (fun g0 => Ev.bind (ev_spec_SelsFault l1 h1) (ev_cond (fun g1 => ?_) (fun g1 => ev_some _))) (fun g0 => ev_some _))
  have o0 := selsF_okB g0
  have o1 := selsF_okB g1
  exact Ev.bind (ev_l3Narrow l0 l1 o0.1.2 o1.1.2 o0.2 o1.2) (ev_some _)

theorem q_impl_in (a b c : Int) : impl_in.f a b c = some (decide (b ≤ a ∧ a ≤ c)) := by
  unfold impl_in.f
  by_cases h : b ≤ a
  · simp [h]
  · simp [h]

theorem q_meetSels_j3 (k : Nat) (b : Bool) (s : Sl) : impl_meetSels.j3 (k + 1) b s.fl s.fh s.tl s.th s.pl s.ph s.ql s.qh s.pr = some (outB (if b = true then none else some ⟨s.fl, s.fh, s.tl, s.th, 0, 65535, 0, 65535, s.pr⟩)) := by
  rw [impl_meetSels.j3]
  cases b <;> rfl
theorem q_meetSels_j2 (k : Nat) (b : Bool) (s : Sl) (hb : b = true ↔ (s.pr = 0 ∨ hasP s.pr)) : impl_meetSels.j2 (k + 2) b s.fl s.fh s.tl s.th s.pl s.ph s.ql s.qh s.pr = some (outB (fitM s)) := by
  rw [impl_meetSels.j2]
  simp only [q_meetSels_j3, impl_Range_has.f, q_impl_in, Option.bind_some, decide_eq_true_eq]
  unfold fitM
  by_cases h : s.pr = 0 ∨ hasP s.pr
  · rw [if_pos h, if_pos (hb.mpr h)]
    rfl
  · rw [if_neg h, if_neg (fun e => h (hb.mp e))]
    by_cases h1 : s.pl ≤ 0 ∧ 0 ≤ s.ph <;> by_cases h2 : s.ql ≤ 0 ∧ 0 ≤ s.qh <;> simp [h1, h2]
theorem q_meetSels_j1 (k : Nat) (s : Sl) : impl_meetSels.j1 (k + 3) s.fl s.fh s.tl s.th s.pl s.ph s.ql s.qh s.pr = some (outB (fitM s)) := by
  rw [impl_meetSels.j1, q_impl_HasPorts, Option.bind_some]
  by_cases h : s.pr = 0
  · rw [if_pos h, q_meetSels_j2 k true s (by simp [h])]
  · rw [if_neg h, q_meetSels_j2 k _ s (by simp [h, hasP])]
theorem q_meetSels_j0 (k : Nat) (b : Bool) (p0 p1 p2 p3 p4 p5 p6 p7 q : Int) (s : Sl) : impl_meetSels.j0 (k + 4) b p0 p1 p2 p3 p4 p5 p6 p7 q s.fl s.fh s.tl s.th s.pl s.ph s.ql s.qh s.pr = some (outB (if b = true then none else fitM ⟨s.fl, s.fh, s.tl, s.th, s.pl, s.ph, s.ql, s.qh, if s.pr = 0 then q else s.pr⟩)) := by
  rw [impl_meetSels.j0]
  cases b
  · simp only [Bool.false_eq_true, if_false]
    by_cases h : s.pr = 0
    · rw [if_pos h, if_pos h]
      exact q_meetSels_j1 k ⟨s.fl, s.fh, s.tl, s.th, s.pl, s.ph, s.ql, s.qh, q⟩
    · rw [if_neg h, if_neg h]
      exact q_meetSels_j1 k ⟨s.fl, s.fh, s.tl, s.th, s.pl, s.ph, s.ql, s.qh, s.pr⟩
  · rfl
theorem q_impl_meetSels (k : Nat) (a b : Sl) : impl_meetSels.f (k + 4) a.fl a.fh a.tl a.th a.pl a.ph a.ql a.qh a.pr b.fl b.fh b.tl b.th b.pl b.ph b.ql b.qh b.pr = some (outB (meetM a b)) := by
  have hj := fun c => q_meetSels_j0 k c b.fl b.fh b.tl b.th b.pl b.ph b.ql b.qh b.pr (crossM a b a.pr)
  simp only [crossM] at hj
  unfold impl_meetSels.f
  simp only [impl_Range_meet.f, Option.bind_some, mx_eq, mn_eq, decide_eq_true_eq, hj]
  by_cases h1 : max a.fl b.fl ≤ min a.fh b.fh
  · rw [if_pos h1]
    by_cases h2 : max a.tl b.tl ≤ min a.th b.th
    · rw [if_pos h2]
      by_cases h3 : max a.pl b.pl ≤ min a.ph b.ph
      · rw [if_pos h3]
        by_cases h4 : max a.ql b.ql ≤ min a.qh b.qh
        · rw [if_pos h4]
          have hok : okM (crossM a b 0) := ⟨h1, h2, h3, h4⟩
          by_cases h5 : prM a.pr b.pr
          · have hm : meetM a b = fitM (crossM a b (if a.pr = 0 then b.pr else a.pr)) := if_pos ⟨hok, h5⟩
            rw [hm]
            unfold prM at h5
            clear hm hj
            have hz : ∀ c : Bool, c = false → some (outB (if c = true then none else fitM (crossM a b (if a.pr = 0 then b.pr else a.pr)))) = some (outB (fitM (crossM a b (if a.pr = 0 then b.pr else a.pr)))) := by
              intro c hc
              rw [hc]
              rfl
            by_cases h6 : a.pr = 0
            · exact (if_pos h6).trans rfl
            · refine (if_neg h6).trans ?_
              by_cases h7 : b.pr = 0
              · exact (if_pos h7).trans rfl
              · refine (if_neg h7).trans ?_
                exact hz _ (by rw [show a.pr = b.pr by omega]; simp)
          · have hm : meetM a b = none := if_neg (fun e => h5 e.2)
            rw [hm]
            unfold prM at h5
            refine (if_neg (by omega)).trans ((if_neg (by omega)).trans ?_)
            have h8 : (a.pr != b.pr) = true := by simp only [bne_iff_ne, ne_eq]; omega
            rw [if_pos h8]
        · rw [if_neg h4, show meetM a b = none from if_neg (fun e => h4 e.1.2.2.2)]
          rfl
      · rw [if_neg h3, show meetM a b = none from if_neg (fun e => h3 e.1.2.2.1)]
        rfl
    · rw [if_neg h2, show meetM a b = none from if_neg (fun e => h2 e.1.2.1)]
      rfl
  · rw [if_neg h1, show meetM a b = none from if_neg (fun e => h1 e.1.1)]
    rfl
theorem ev_impl_meetSels (a b : Sl) : Ev (fun k => impl_meetSels.f k a.fl a.fh a.tl a.th a.pl a.ph a.ql a.qh a.pr b.fl b.fh b.tl b.th b.pl b.ph b.ql b.qh b.pr) (outB (meetM a b)) := by
  refine Ev.step (f := fun k => impl_meetSels.f (k + 1) a.fl a.fh a.tl a.th a.pl a.ph a.ql a.qh a.pr b.fl b.fh b.tl b.th b.pl b.ph b.ql b.qh b.pr) (fun k => rfl) ?_
  refine Ev.step (f := fun k => impl_meetSels.f (k + 2) a.fl a.fh a.tl a.th a.pl a.ph a.ql a.qh a.pr b.fl b.fh b.tl b.th b.pl b.ph b.ql b.qh b.pr) (fun k => rfl) ?_
  refine Ev.step (f := fun k => impl_meetSels.f (k + 3) a.fl a.fh a.tl a.th a.pl a.ph a.ql a.qh a.pr b.fl b.fh b.tl b.th b.pl b.ph b.ql b.qh b.pr) (fun k => rfl) ?_
  exact ev_succ (fun k => q_impl_meetSels k a b)

theorem q_impl_Range_within (a b c d : Int) : impl_Range_within.f a b c d = some (decide (rin a b c d)) := by
  unfold impl_Range_within.f rin
  by_cases h : c ≤ a
  · simp [h]
  · simp [h]
theorem q_impl_withinSel (a b : Sl) : impl_withinSel.f a.fl a.fh a.tl a.th a.pl a.ph a.ql a.qh a.pr b.fl b.fh b.tl b.th b.pl b.ph b.ql b.qh b.pr = some (decide (withinS a b)) := by
  unfold impl_withinSel.f withinS
  simp only [q_impl_Range_within, Option.bind_some, decide_eq_true_eq]
  by_cases h1 : rin a.fl a.fh b.fl b.fh <;> by_cases h2 : rin a.tl a.th b.tl b.th <;> by_cases h3 : rin a.pl a.ph b.pl b.ph <;> by_cases h4 : rin a.ql a.qh b.ql b.qh <;> by_cases h5 : b.pr = 0 <;> by_cases h6 : a.pr = b.pr <;> simp [h1, h2, h3, h4, h5, h6]

theorem ev_idxOB {α : Type} (p : α → Option Bool) (P : α → Bool) (h : ∀ x, p x = some (P x)) : ∀ (l : List α) (i : Int), 0 ≤ i → ∃ r, idxO p l i = some r ∧ (0 ≤ r ↔ l.any P = true)
  | [], i, _ => ⟨-1, rfl, by simp⟩
  | x :: xs, i, hi => by
    rw [idxO, h x, Option.bind_some]
    cases hp : P x with
    | true => exact ⟨i, if_pos rfl, by simp [hp, hi]⟩
    | false =>
      obtain ⟨r, hr, hm⟩ := ev_idxOB p P h xs (i + 1) (by omega)
      exact ⟨r, by rw [if_neg (by simp), hr], by simp [hp, hm]⟩

theorem ev_impl_Narrow_in (a : S65) : ∀ (bs out : List S65), out.length + bs.length ≤ 1000 → Ev (fun k => impl_NarrowSels.in_ k a bs out) (narI a bs out)
  | [], out, _ => ev_some _
  | b :: bs, out, hl => by
    rw [List.length_cons] at hl
    rw [narI]
    refine Ev.bind (ev_impl_meetSels (slOf a) (slOf b)) ?_
    cases hm : meetM (slOf a) (slOf b) with
    | none => exact ev_neg (by simp [outB]) (ev_impl_Narrow_in a bs out (by omega))
    | some m =>
      refine ev_pos rfl ?_
      obtain ⟨i, hi, hmm⟩ := ev_idxOB (impl_NarrowSels.p m.fl m.fh m.tl m.th m.pl m.ph m.ql m.qh m.pr) (fun y => decide (withinS m (slOf y))) (fun y => q_impl_withinSel m (slOf y)) out 0 (by omega)
      refine ev_opt hi ?_
      by_cases g : 0 ≤ i
      · refine ev_pos g ?_
        simp only [show hitM m out = true from hmm.mp g, if_true]
        exact ev_impl_Narrow_in a bs out (by omega)
      · refine ev_neg g (ev_pos (by omega) ?_)
        have g2 : hitM m out = false := by
          cases hh : hitM m out
          · rfl
          · exact absurd (hmm.mpr hh) g
        simp only [g2]
        exact ev_impl_Narrow_in a bs (out ++ [slT m]) (by simp; omega)
theorem ev_impl_Narrow_out (th : List S65) (ht : th.length ≤ 12) : ∀ (l out : List S65), out.length + 12 * l.length ≤ 900 → Ev (fun k => impl_NarrowSels.out_ k th l out) (narO th l out)
  | [], out, _ => ev_some _
  | a :: l, out, hl => by
    rw [List.length_cons] at hl
    have := narI_len a th out
    exact Ev.bind (ev_impl_Narrow_in a th out (by omega)) (ev_impl_Narrow_out th ht l (narI a th out) (by omega))

theorem q_impl_Range_ok (lo hi m : Int) : impl_Range_ok.f lo hi m = some (decide (rok lo hi m)) := by
  unfold impl_Range_ok.f
  simp only [q_impl_in, Option.bind_some, decide_eq_true_eq]
  by_cases hr : rok lo hi m
  · rw [decide_eq_true hr]
    unfold rok at hr
    rw [if_pos (by omega), if_pos (by omega), decide_eq_true (by omega)]
  · rw [decide_eq_false hr]
    unfold rok at hr
    by_cases h : 0 ≤ lo ∧ lo ≤ m
    · by_cases g : 0 ≤ hi ∧ hi ≤ m
      · rw [if_pos h, if_pos g, decide_eq_false (by omega)]
      · rw [if_pos h, if_neg g]
    · rw [if_neg h]
theorem q_impl_SelFault_j0 (k : Nat) (b : Bool) (s : Sl) : impl_SelFault.j0 (k + 1) b s.fl s.fh s.tl s.th s.pl s.ph s.ql s.qh s.pr = some (if b = true then 3 else if selPorts s then 0 else 1) := by
  rw [impl_SelFault.j0]
  simp only [q_impl_HasPorts, impl_whole.f, Option.bind_some, decide_eq_true_eq]
  unfold selPorts hasP
  cases b
  · by_cases h1 : s.pr = 0
    · simp [h1]
    · by_cases h2 : s.pr = 6 ∨ s.pr = 17
      · simp [h1, h2]
      · by_cases h3 : s.pl = 0 <;> by_cases h4 : s.ph = 65535 <;> by_cases h5 : s.ql = 0 <;> by_cases h6 : s.qh = 65535 <;> simp [h1, h2, h3, h4, h5, h6]
  · simp
theorem q_impl_SelFault (k : Nat) (s : Sl) : impl_SelFault.f (k + 1) s.fl s.fh s.tl s.th s.pl s.ph s.ql s.qh s.pr = some (selF s) := by
  unfold impl_SelFault.f
  simp only [q_impl_Range_ok, q_impl_in, q_impl_SelFault_j0, Option.bind_some, decide_eq_true_eq]
  unfold selF selOk
  by_cases h1 : rok s.fl s.fh 4294967295 <;> by_cases h2 : rok s.tl s.th 4294967295 <;> by_cases h3 : rok s.pl s.ph 65535 <;> by_cases h4 : rok s.ql s.qh 65535 <;> by_cases h5 : 0 ≤ s.pr ∧ s.pr ≤ 255 <;> simp [h1, h2, h3, h4, h5]
theorem ev_impl_SelFault (s : Sl) : Ev (fun k => impl_SelFault.f k s.fl s.fh s.tl s.th s.pl s.ph s.ql s.qh s.pr) (selF s) := ev_succ (fun k => q_impl_SelFault k s)

theorem ev_impl_SelsFault_loop (l : List S65) (hl : l.length ≤ 1048576) : ∀ i, i ≤ l.length → Ev (fun k => impl_SelsFault.l0 k l l.length i) (scanSel (l.drop i)) := by
  refine down l.length ?_ ?_
  · rw [List.drop_length]
    refine Ev.step (fun k => by rw [impl_SelsFault.l0, if_neg (by omega)]) ?_
    exact ev_some _
  · intro i hi ih
    rw [List.drop_eq_getElem_cons hi, scanSel]
    refine Ev.step (fun k => by rw [impl_SelsFault.l0, if_pos (by omega), if_pos (by omega), if_pos (by omega), rdSel_nat l i hi, w64 (by omega) (by omega)]) ?_
    refine Ev.bind (ev_impl_SelFault (slOf l[i])) ?_
    by_cases h : selF (slOf l[i]) = 0
    · rw [if_pos h]
      exact ev_pos h ih
    · rw [if_neg h]
      exact ev_neg h (ev_some _)
theorem ev_impl_SelsFault (l : List S65) (hl : l.length ≤ 1048576) : Ev (fun k => impl_SelsFault.f k l) (selsF l) := by
  unfold impl_SelsFault.f selsF
  refine ev_opt (q_impl_in _ _ _) ?_
  by_cases h : 1 ≤ (l.length : Int) ∧ (l.length : Int) ≤ 12
  · rw [if_neg (by omega)]
    exact ev_pos (by simpa using h) (ev_impl_SelsFault_loop l hl 0 (by omega))
  · rw [if_pos (by omega)]
    exact ev_neg (by simpa using h) (ev_some _)

def firstF : List Int → Int
  | [] => 0
  | x :: xs => if x = 0 then firstF xs else x
theorem ev_impl_faultOf_loop (l : List Int) (hl : l.length ≤ 1000000) : ∀ (d i : Nat), i + d = l.length → Ev (fun k => impl_faultOf.l0 k l l.length i) (firstF (l.drop i)) := by
  intro d
  induction d with
  | zero =>
    intro i hi
    obtain rfl : i = l.length := by omega
    rw [List.drop_length]
    refine Ev.step (fun k => by rw [impl_faultOf.l0, if_neg (by omega)]) ?_
    exact ev_some _
  | succ d ih =>
    intro i hi
    have hr := rd_nat l i (by omega)
    rw [List.drop_eq_getElem_cons (by omega : i < l.length), firstF, ← hr]
    by_cases h : rd l i = 0
    · refine Ev.step (fun k => by rw [impl_faultOf.l0, if_pos (by omega), if_pos (by omega), if_pos (by omega), if_pos h]) ?_
      rw [w64 (by omega) (by omega), if_pos h]
      exact ih (i + 1) (by omega)
    · refine Ev.step (fun k => by rw [impl_faultOf.l0, if_pos (by omega), if_pos (by omega), if_pos (by omega), if_neg h]) ?_
      rw [if_neg h]
      exact ev_some _
theorem ev_impl_faultOf (l : List Int) (hl : l.length ≤ 1000000) : Ev (fun k => impl_faultOf.f k l) (firstF l) := ev_impl_faultOf_loop l hl l.length 0 (by omega)
theorem ev_faultOf2 (a b : Int) : Ev (fun k => impl_faultOf.f k [a, b]) (if a = 0 then b else a) := by
  refine ev_to (ev_impl_faultOf [a, b] (by simp)) ?_
  simp only [firstF]
  by_cases h : a = 0
  · rw [if_pos h, if_pos h]
    split
    · rename_i hb; exact hb.symm
    · rfl
  · rw [if_neg h, if_neg h]

theorem ev_impl_NarrowSels (l0 l1 : List S65) (h0 : l0.length ≤ 1048576) (h1 : l1.length ≤ 1048576) : Ev (fun k => impl_NarrowSels.f k l0 l1) (narR l0 l1) := by
  unfold impl_NarrowSels.f narR
  refine Ev.bind (ev_impl_SelsFault l0 h0) (Ev.bind (ev_impl_SelsFault l1 h1) (Ev.bind (ev_faultOf2 _ _) ?_))
  by_cases g0 : selsF l0 = 0
  · rw [if_pos g0, if_pos g0]
    refine ev_cond (fun g1 => ?_) (fun g1 => ev_some _)
    have o0 := selsF_okB g0
    have o1 := selsF_okB g1
    refine Ev.bind (ev_impl_Narrow_out l1 o1.1.2 l0 [] (by simp; omega)) ?_
    unfold finM
    by_cases z : ((narO l1 l0 []).length : Int) = 0
    · simp only [if_pos z]
      exact ev_some _
    · simp only [if_neg z]
      by_cases y : ((narO l1 l0 []).length : Int) > 12
      · simp only [if_pos y]
        exact ev_some _
      · simp only [if_neg y]
        exact ev_some _
  · rw [if_neg g0]
    simp only [if_neg g0]
    exact ev_some _

theorem q_szSelS {l : List S122} (h : l.length ≤ 1048576) : laws_szSelS.f l 1048576 = some (1048576 - (l.length : Int)) := by
  unfold laws_szSelS.f
  rw [w64 (by omega) (by omega), if_neg (by omega)]
theorem q_szSelS_big {l : List S122} (h : ¬ l.length ≤ 1048576) (hm : l.length ≤ maxLen) : laws_szSelS.f l 1048576 = some (-1) := by
  unfold laws_szSelS.f
  unfold maxLen at hm
  rw [w64 (by omega) (by omega), if_pos (by omega)]

theorem q_szSelSAt {l : List S122} {t : Int} (ht : 0 ≤ t ∧ t ≤ 1048576) (h : (l.length : Int) ≤ t) : laws_szSelS.f l t = some (t - (l.length : Int)) := by
  unfold laws_szSelS.f
  rw [w64 (by omega) (by omega), if_neg (by omega)]
theorem q_szSelSAt_big {l : List S122} {t : Int} (ht : 0 ≤ t ∧ t ≤ 1048576) (h : ¬ (l.length : Int) ≤ t) (hm : l.length ≤ maxLen) : laws_szSelS.f l t = some (-1) := by
  unfold laws_szSelS.f
  unfold maxLen at hm
  rw [w64 (by omega) (by omega), if_pos (by omega)]

theorem rdLSel_nat (l : List S122) (i : Nat) (h : i < l.length) : rd_T122 l i = l[i] := getD_nat l _ i h

theorem q_toSel (a b c d e f g h i : Int) : laws_toSel.f a b c d e f g h i = some (a, b, c, d, e, f, g, h, i) := rfl

def cvSel (x : S122) : S65 := ⟨⟨x.f0.f0, x.f0.f1⟩, ⟨x.f1.f0, x.f1.f1⟩, ⟨x.f2.f0, x.f2.f1⟩, ⟨x.f3.f0, x.f3.f1⟩, x.f4⟩
theorem ev_toSelS {l : List S122} (hn : l.length ≤ 1048576) : Ev (fun k => laws_toSelS.f k l) (l.map cvSel) := by
  unfold laws_toSelS.f
  refine ev_pos (by omega) (ev_pos (by omega) ?_)
  refine map_loop (fun k b i => laws_toSelS.l0 k l b i) l cvSel ?_ ?_ _ (by simp)
  · intro k b
    rw [laws_toSelS.l0, if_neg (by omega)]
  · intro k b i h hb
    rw [laws_toSelS.l0, if_pos (by omega), if_pos (by omega), q_toSel, Option.bind_some, if_pos (by omega), w64 (by omega) (by omega), rdLSel_nat l i h, Int.toNat_natCast]
    rfl

theorem q_eqSel (a b c d e f g h i : Int) : laws_eqSel.f a b c d e f g h i a b c d e f g h i = some true := by
  simp [laws_eqSel.f, laws_eqRange.f]
theorem ev_eqSelS {l : List S65} (hn : l.length ≤ 1048576) : Ev (fun k => laws_eqSelS.f k l l) true := by
  unfold laws_eqSelS.f
  refine ev_pos rfl ?_
  refine count_loop (fun k i => laws_eqSelS.l0 k l l i) l.length true ?_ ?_
  · intro k
    rw [laws_eqSelS.l0, if_neg (by omega)]
  · intro k i h
    rw [laws_eqSelS.l0, if_pos (by omega), if_pos (by omega), if_pos (by omega), q_eqSel, Option.bind_some, if_pos rfl, w64 (by omega) (by omega)]
    rfl

def elSel (k : Int) : S65 := ⟨⟨k, k + 1⟩, ⟨k + 1 + 1, k + 1 + 1 + 1⟩, ⟨k + 1 + 1 + 1 + 1, k + 1 + 1 + 1 + 1 + 1⟩, ⟨k + 1 + 1 + 1 + 1 + 1 + 1, k + 1 + 1 + 1 + 1 + 1 + 1 + 1⟩, k + 1 + 1 + 1 + 1 + 1 + 1 + 1 + 1⟩
theorem q_goSel : ∀ (l : List S65) (k : Int), 0 ≤ k → k + 9 * (l.length : Int) ≤ 4611686018427387904 → (laws_markSelS.go l k).1 = k + 9 * (l.length : Int) ∧ (laws_markSelS.go l k).2.length = l.length ∧ ∀ (j : Nat), j < l.length → (laws_markSelS.go l k).2[j]? = some (elSel (k + 9 * (j : Int)))
  | [], k, _, _ => ⟨by simp [laws_markSelS.go], rfl, fun j h => absurd h (by simp)⟩
  | x :: xs, k, h0, hm => by
    rw [List.length_cons] at hm
    have e1 : wrap64 (k + 1) = k + 1 := w64 (by omega) (by omega)
    have e2 : wrap64 (k + 1 + 1) = k + 1 + 1 := w64 (by omega) (by omega)
    have e3 : wrap64 (k + 1 + 1 + 1) = k + 1 + 1 + 1 := w64 (by omega) (by omega)
    have e4 : wrap64 (k + 1 + 1 + 1 + 1) = k + 1 + 1 + 1 + 1 := w64 (by omega) (by omega)
    have e5 : wrap64 (k + 1 + 1 + 1 + 1 + 1) = k + 1 + 1 + 1 + 1 + 1 := w64 (by omega) (by omega)
    have e6 : wrap64 (k + 1 + 1 + 1 + 1 + 1 + 1) = k + 1 + 1 + 1 + 1 + 1 + 1 := w64 (by omega) (by omega)
    have e7 : wrap64 (k + 1 + 1 + 1 + 1 + 1 + 1 + 1) = k + 1 + 1 + 1 + 1 + 1 + 1 + 1 := w64 (by omega) (by omega)
    have e8 : wrap64 (k + 1 + 1 + 1 + 1 + 1 + 1 + 1 + 1) = k + 1 + 1 + 1 + 1 + 1 + 1 + 1 + 1 := w64 (by omega) (by omega)
    have e9 : wrap64 (k + 1 + 1 + 1 + 1 + 1 + 1 + 1 + 1 + 1) = k + 1 + 1 + 1 + 1 + 1 + 1 + 1 + 1 + 1 := w64 (by omega) (by omega)
    obtain ⟨h1, h2, h3⟩ := q_goSel xs (k + 1 + 1 + 1 + 1 + 1 + 1 + 1 + 1 + 1) (by omega) (by omega)
    rw [laws_markSelS.go]
    simp only [e1, e2, e3, e4, e5, e6, e7, e8, e9]
    refine ⟨by rw [h1, List.length_cons]; omega, by rw [List.length_cons, h2, List.length_cons], ?_⟩
    intro j hj
    cases j with
    | zero => exact congrArg some (by rw [show k + 9 * ((0 : Nat) : Int) = k by omega]; rfl)
    | succ j =>
      rw [List.length_cons] at hj
      refine (h3 j (by omega)).trans ?_
      rw [show k + 1 + 1 + 1 + 1 + 1 + 1 + 1 + 1 + 1 + 9 * (j : Int) = k + 9 * ((j + 1 : Nat) : Int) by omega]
theorem q_markSel (l : List S65) (hl : l.length ≤ 4294967296) : ∃ r, laws_markSelS.f l 1 = some (1 + 9 * (l.length : Int), r) := by
  obtain ⟨h1, _, _⟩ := q_goSel l 1 (by omega) (by omega)
  exact ⟨_, by rw [laws_markSelS.f, ← h1]⟩

theorem ev_heldSel (r : List S65) (hl : r.length ≤ 4294967296) (hj : ∀ j : Nat, j < r.length → r[j]? = some (elSel (1 + 9 * (j : Int)))) : Ev (fun k => laws_heldSelS.f k r 1) (1 + 9 * (r.length : Int)) := by
  have key : ∀ i, i ≤ r.length → Ev (fun k => laws_heldSelS.l0 k r (1 + 9 * (i : Int)) i) (1 + 9 * (r.length : Int)) := by
    refine down r.length ?_ ?_
    · refine Ev.step (fun k => by rw [laws_heldSelS.l0, if_neg (by omega)]) ?_
      exact ev_some _
    · intro i hi ih
      have h1 := hj i hi
      rw [List.getElem?_eq_getElem hi] at h1
      have h2 : rd_T65 r (i : Int) = elSel (1 + 9 * (i : Int)) := (rdSel_nat r i hi).trans (Option.some.inj h1)
      obtain ⟨k, hk⟩ : ∃ k, k = 1 + 9 * (i : Int) := ⟨_, rfl⟩
      rw [← hk] at h2 ⊢
      have e1 : wrap64 (k + 1) = k + 1 := w64 (by omega) (by omega)
      have e2 : wrap64 (k + 1 + 1) = k + 1 + 1 := w64 (by omega) (by omega)
      have e3 : wrap64 (k + 1 + 1 + 1) = k + 1 + 1 + 1 := w64 (by omega) (by omega)
      have e4 : wrap64 (k + 1 + 1 + 1 + 1) = k + 1 + 1 + 1 + 1 := w64 (by omega) (by omega)
      have e5 : wrap64 (k + 1 + 1 + 1 + 1 + 1) = k + 1 + 1 + 1 + 1 + 1 := w64 (by omega) (by omega)
      have e6 : wrap64 (k + 1 + 1 + 1 + 1 + 1 + 1) = k + 1 + 1 + 1 + 1 + 1 + 1 := w64 (by omega) (by omega)
      have e7 : wrap64 (k + 1 + 1 + 1 + 1 + 1 + 1 + 1) = k + 1 + 1 + 1 + 1 + 1 + 1 + 1 := w64 (by omega) (by omega)
      have e8 : wrap64 (k + 1 + 1 + 1 + 1 + 1 + 1 + 1 + 1) = k + 1 + 1 + 1 + 1 + 1 + 1 + 1 + 1 := w64 (by omega) (by omega)
      have e9 : wrap64 (k + 1 + 1 + 1 + 1 + 1 + 1 + 1 + 1 + 1) = k + 1 + 1 + 1 + 1 + 1 + 1 + 1 + 1 + 1 := w64 (by omega) (by omega)
      have b1 : (i : Int) < (r.length : Int) := by omega
      have b2 : 0 ≤ (i : Int) := by omega
      refine Ev.step (f := fun q => laws_heldSelS.l0 q r (1 + 9 * ((i + 1 : Nat) : Int)) ((i + 1 : Nat) : Int)) (fun q => ?_) ih
      rw [laws_heldSelS.l0, if_pos b1, if_pos b2, h2]
      simp only [e1, e2, e3, e4, e5, e6, e7, e8, e9, elSel, if_true]
      rw [w64 (by omega) (by omega), show k + 1 + 1 + 1 + 1 + 1 + 1 + 1 + 1 + 1 = 1 + 9 * ((i + 1 : Nat) : Int) by omega]
      rfl
  exact key 0 (by omega)
theorem ev_markheldSel (l : List S65) (hl : l.length ≤ 4294967296) : ∃ r, laws_markSelS.f l 1 = some (1 + 9 * (l.length : Int), r) ∧ Ev (fun k => laws_heldSelS.f k r 1) (1 + 9 * (l.length : Int)) := by
  obtain ⟨h1, h2, h3⟩ := q_goSel l 1 (by omega) (by omega)
  refine ⟨(laws_markSelS.go l 1).2, ?_, ?_⟩
  · rw [laws_markSelS.f, ← h1]
  · rw [← h2]
    exact ev_heldSel _ (by omega) (fun j hj => h3 j (by omega))

theorem ev_eqSelsResult (c : Int) {l : List S65} (h : l.length ≤ 1048576) : Ev (fun k => laws_eqSelsResult.f k c l c l) true := by
  unfold laws_eqSelsResult.f
  exact ev_pos rfl (Ev.bind (ev_eqSelS h) (ev_pos rfl (ev_some _)))
theorem ev_markheldSelsResult (c : Int) (l : List S65) (hl : l.length ≤ 4294967296) : ∃ r, laws_markSelsResult.f c l 1 = some (1 + 9 * (l.length : Int), r) ∧ Ev (fun k => laws_heldSelsResult.f k c r 1) (1 + 9 * (l.length : Int)) := by
  obtain ⟨r, h1, h2⟩ := ev_markheldSel l hl
  refine ⟨r, ?_, ?_⟩
  · rw [laws_markSelsResult.f, h1]
    rfl
  · unfold laws_heldSelsResult.f
    exact Ev.bind h2 (ev_neg (by omega) (ev_some _))

theorem FnExactNarrowSels : laws_FnExactNarrowSels.Pure := by
  intro l l'
  intro hm
  intros
  rename_i hm' _ _
  apply Ev.rounds
  unfold laws_FnExactNarrowSels.f
  by_cases h : l.length ≤ 1048576
  · refine ev_opt (q_szSelS h) (ev_neg (by omega) ?_)
    by_cases h' : (l'.length : Int) ≤ 1048576 - (l.length : Int)
    · have hy : l'.length ≤ 1048576 := by omega
      have hc : (l.map cvSel).length ≤ 1048576 := by simpa using h
      have hc' : (l'.map cvSel).length ≤ 1048576 := by simpa using hy
      have hsp := ev_spec_NarrowSels _ _ hc hc'
      have him := ev_impl_NarrowSels _ _ hc hc'
      have hlen := narR_len (l.map cvSel) (l'.map cvSel)
      generalize narR (l.map cvSel) (l'.map cvSel) = z at *
      obtain ⟨z1, z2⟩ := z
      have hz : z2.length ≤ 1048576 := Nat.le_trans hlen (by omega)
      obtain ⟨r1, m1⟩ := q_markSel (l.map cvSel) (by omega)
      obtain ⟨r2, m2, m3⟩ := ev_markheldSelsResult z1 z2 (by omega)
      refine ev_opt (q_szSelSAt (by omega) h') (ev_neg (by omega) ?_)
      refine Ev.bind (ev_toSelS h) (Ev.bind (ev_toSelS hy) (Ev.bind hsp (Ev.bind (ev_toSelS h) (Ev.bind (ev_toSelS hy) (Ev.bind him (Ev.bind (ev_eqSelsResult z1 hz) (ev_pos rfl ?_)))))))
      refine Ev.bind (ev_toSelS h) (Ev.bind (ev_eqSelS hc) (ev_pos rfl (Ev.bind (ev_toSelS hy) (Ev.bind (ev_eqSelS hc') (ev_pos rfl ?_)))))
      obtain ⟨g1, _, _⟩ := q_goSel (l'.map cvSel) (1 + 9 * ((l.map cvSel).length : Int)) (by omega) (by omega)
      have m4 : laws_markSelS.f (l'.map cvSel) (1 + 9 * ((l.map cvSel).length : Int)) = some (1 + 9 * ((l.map cvSel).length : Int) + 9 * ((l'.map cvSel).length : Int), (laws_markSelS.go (l'.map cvSel) (1 + 9 * ((l.map cvSel).length : Int))).2) := by rw [laws_markSelS.f, ← g1]
      refine ev_opt m1 (ev_opt m4 (ev_neg (by simp only; omega) (Ev.bind (ev_eqSelsResult z1 hz) ?_)))
      refine Ev.step (fun k => by rw [laws_FnExactNarrowSels.j0, if_neg (by simp)]) ?_
      refine ev_opt m2 (Ev.bind m3 (ev_neg (by omega) (ev_pos rfl ?_)))
      refine Ev.bind (ev_toSelS h) (Ev.bind (ev_toSelS hy) (Ev.bind him (Ev.bind (ev_eqSelsResult z1 hz) (ev_pos rfl ?_))))
      exact Ev.bind m3 (ev_neg (by omega) (ev_pos rfl (ev_some _)))
    · exact ev_opt (q_szSelSAt_big (by omega) h' hm') (ev_pos (by omega) (ev_some _))
  · exact ev_opt (q_szSelS_big h hm) (ev_pos (by omega) (ev_some _))

end Go.Proofs.Ytcelgjhhmkgnhaa.Pure
