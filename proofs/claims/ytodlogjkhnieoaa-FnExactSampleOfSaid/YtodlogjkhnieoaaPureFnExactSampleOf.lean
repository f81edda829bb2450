/- Proved: the law FnExactSampleOf answers true at every input that Go can hand in (it says: The program's SampleOf returns what the reference's returns, for all arguments.) No condition beyond the statement's own. -/
import Derived.Test.YtodlogjkhnieoaaStFnExactSampleOf
namespace Go.Proofs.Ytodlogjkhnieoaa.Pure
open Go.RowKit Go.Proofs.Ytodlogjkhnieoaa.PFnExactSampleOf Go.Proofs.YtodlogjkhnieoaaW.PrintWords Go.Proofs.YtodlogjkhnieoaaW.PrintLast Go.Proofs.YtodlogjkhnieoaaW.PrintMore
set_option linter.unusedVariables false
set_option linter.unusedSimpArgs false

theorem w64 {x : Int} (h0 : -9223372036854775808 ≤ x) (h1 : x ≤ 9223372036854775807) : wrap64 x = x := by
  unfold wrap64
  omega
theorem tmod_pos {a b : Int} (h : 0 ≤ a) : Int.tmod a b = a % b := Int.tmod_eq_emod_of_nonneg h
theorem tdiv_pos {a b : Int} (h : 0 ≤ a) : Int.tdiv a b = a / b := Int.tdiv_eq_ediv_of_nonneg h
theorem ev_some {α : Type} (r : α) : Ev (fun _ => some r) r := Ev.now r
theorem ev_pos {α : Type} {c : Prop} [Decidable c] {A B : Nat → Option α} {r : α} (h : c) (e : Ev A r) : Ev (fun k => if c then A k else B k) r := by
  simpa only [if_pos h] using e
theorem ev_neg {α : Type} {c : Prop} [Decidable c] {A B : Nat → Option α} {r : α} (h : ¬ c) (e : Ev B r) : Ev (fun k => if c then A k else B k) r := by
  simpa only [if_neg h] using e
theorem ev_opt {α β : Type} {o : Option α} {f : Nat → α → Option β} {a : α} {r : β} (h : o = some a) (e : Ev (fun n => f n a) r) : Ev (fun n => o.bind (f n)) r := by
  simpa only [h, Option.bind_some] using e
theorem ev_to {α : Type} {g : Nat → Option α} {r r' : α} (e : Ev g r) (h : r = r') : Ev g r' := h ▸ e
theorem ev_fix {α : Type} {o : Option α} {r : α} (h : o = some r) : Ev (fun _ => o) r := ⟨0, fun _ _ => h⟩
theorem rd_nat (l : List Int) (i : Nat) (h : i < l.length) : rd l (i : Int) = l[i] := by
  unfold rd
  simp [List.getD_eq_getElem?_getD, h]
theorem rd_mem (l : List Int) (i : Int) (h0 : 0 ≤ i) (h : i < l.length) : rd l i ∈ l := by
  obtain ⟨n, rfl⟩ := Int.eq_ofNat_of_zero_le h0
  rw [rd_nat l n (by omega)]
  exact List.getElem_mem _
theorem u8_range {x : Int} (h : (Lit.int .u8 x).wf = true) : 0 ≤ x ∧ x ≤ 255 := by
  simp [Lit.wf, IntKind.min, IntKind.max, IntKind.signed, IntKind.bits] at h
  omega
theorem i64_range {x : Int} (h : (Lit.int .i64 x).wf = true) : -9223372036854775808 ≤ x ∧ x ≤ 9223372036854775807 := by
  simp [Lit.wf, IntKind.min, IntKind.max, IntKind.signed, IntKind.bits] at h
  omega
theorem set_mid {α : Type} (a : List α) (x : α) (b : List α) (y : α) : (a ++ x :: b).set a.length y = a ++ y :: b := by simp
theorem take_full {α : Type} {a b : List α} (hl : b.length = a.length) (ht : b.take a.length = a.take a.length) : b = a := by
  rw [List.take_of_length_le (by omega), List.take_of_length_le (by omega)] at ht
  exact ht
theorem take_next {α : Type} {a b : List α} {i : Nat} (ha : i < a.length) (hb : i < b.length) (ht : b.take i = a.take i) (hx : b[i] = a[i]) : b.take (i + 1) = a.take (i + 1) := by
  rw [List.take_succ_eq_append_getElem ha, List.take_succ_eq_append_getElem hb, ht, hx]
theorem ev_cond {α : Type} {c : Prop} [Decidable c] {A B : Nat → Option α} {r r' : α} (hp : c → Ev A r) (hn : ¬ c → Ev B r') : Ev (fun k => if c then A k else B k) (if c then r else r') := by
  by_cases h : c
  · rw [if_pos h]; exact ev_pos h (hp h)
  · rw [if_neg h]; exact ev_neg h (hn h)
theorem set_take {α : Type} {a b : List α} {i : Nat} {x : α} (h : i < a.length) (hl : b.length = a.length) (ht : b.take i = a.take i) (hx : x = a[i]) : (b.set i x).take (i + 1) = a.take (i + 1) := by
  refine take_next h (by simp; omega) ?_ (by simp [hx])
  rw [← ht]
  apply List.ext_getElem?
  intro j
  simp only [List.getElem?_take, List.getElem?_set]
  by_cases hj : j < i
  · rw [if_pos hj, if_pos hj, if_neg (by omega)]
  · rw [if_neg hj, if_neg hj]
theorem ev_succ {α : Type} {g : Nat → Option α} {r : α} (h : ∀ k, g (k + 1) = some r) : Ev g r := Ev.step h (ev_some r)
theorem down {P : Nat → Prop} (n : Nat) (hend : P n) (hstep : ∀ i, i < n → P (i + 1) → P i) : ∀ i, i ≤ n → P i := by
  intro i hi
  obtain ⟨d, hd⟩ : ∃ d, i + d = n := ⟨n - i, by omega⟩
  induction d generalizing i with
  | zero =>
    obtain rfl : i = n := by omega
    exact hend
  | succ d ih => exact hstep i (by omega) (ih (i + 1) (by omega) (by omega))
theorem getD_nat {α : Type} (l : List α) (z : α) (i : Nat) (h : i < l.length) : l.getD (i : Int).toNat z = l[i] := by
  simp [List.getD_eq_getElem?_getD, h]
/-- A loop that writes the image of each element into its place. -/
theorem map_loop {α β : Type} (F : Nat → List β → Int → Option (List β)) (l : List α) (c : α → β)
    (hend : ∀ k (b : List β), F (k + 1) b l.length = some b) (hstep : ∀ k (b : List β) (i : Nat) (h : i < l.length), b.length = l.length → F (k + 1) b i = F k (b.set i (c l[i])) ((i + 1 : Nat) : Int)) :
    ∀ (b : List β), b.length = l.length → Ev (fun k => F k b 0) (l.map c) := by
  have key : ∀ (i : Nat), i ≤ l.length → ∀ (b : List β), b.length = l.length → b.take i = (l.map c).take i → Ev (fun k => F k b i) (l.map c) := by
    refine down l.length ?_ ?_
    · intro b hl ht
      refine Ev.step (fun k => hend k b) ?_
      rw [take_full (a := l.map c) (b := b) (by simpa using hl) (by simpa using ht)]
      exact ev_some _
    · intro i hi ih b hl ht
      refine Ev.step (fun k => hstep k b i hi hl) (ih _ (by simpa using hl) ?_)
      exact set_take (by simpa using hi) (by simpa using hl) ht (by simp)
  intro b hl
  exact key 0 (by omega) b hl (by simp)
/-- A loop that goes through all places and answers r. -/
theorem count_loop {ρ : Type} (F : Nat → Int → Option ρ) (n : Nat) (r : ρ) (hend : ∀ k, F (k + 1) n = some r) (hstep : ∀ k (i : Nat), i < n → F (k + 1) i = F k ((i + 1 : Nat) : Int)) : Ev (fun k => F k 0) r := by
  have key : ∀ i, i ≤ n → Ev (fun k => F k (i : Nat)) r := down n (Ev.step hend (ev_some r)) (fun i hi ih => Ev.step (fun k => hstep k i hi) ih)
  exact key 0 (by omega)

structure Sl where
  fl : Int
  fh : Int
  tl : Int
  th : Int
  pl : Int
  ph : Int
  ql : Int
  qh : Int
  pr : Int
def rok (lo hi most : Int) : Prop := 0 ≤ lo ∧ lo ≤ hi ∧ hi ≤ most
instance (lo hi most : Int) : Decidable (rok lo hi most) := by unfold rok; infer_instance
def selOk (s : Sl) : Prop := rok s.fl s.fh 4294967295 ∧ rok s.tl s.th 4294967295 ∧ rok s.pl s.ph 65535 ∧ rok s.ql s.qh 65535 ∧ 0 ≤ s.pr ∧ s.pr ≤ 255
instance (s : Sl) : Decidable (selOk s) := by unfold selOk; infer_instance
def hasP (p : Int) : Prop := p = 6 ∨ p = 17
instance (p : Int) : Decidable (hasP p) := by unfold hasP; infer_instance
def selPorts (s : Sl) : Prop := s.pr = 0 ∨ hasP s.pr ∨ (s.pl = 0 ∧ s.ph = 65535 ∧ s.ql = 0 ∧ s.qh = 65535)
instance (s : Sl) : Decidable (selPorts s) := by unfold selPorts; infer_instance
def selF (s : Sl) : Int := if selOk s then (if selPorts s then 0 else 1) else 3

def sampleM (s : Sl) : Int × Int × Int × Int × Int × Int × Int × List Int :=
  if selF s = 0 then (if s.pr = 0 then (0, s.fl, s.tl, 6, 64, s.pl, s.ql, []) else if hasP s.pr then (0, s.fl, s.tl, s.pr, 64, s.pl, s.ql, []) else (0, s.fl, s.tl, s.pr, 64, 0, 0, [])) else (selF s, 0, 0, 0, 0, 0, 0, [])

theorem q_spec_HasPorts (a : Int) : spec_HasPorts.f a = some (decide (a = 6 ∨ a = 17)) := by
  unfold spec_HasPorts.f
  by_cases h : a = 6
  · simp [h]
  · by_cases g : a = 17
    · simp [g]
    · simp [h, g]
theorem q_impl_HasPorts (a : Int) : impl_HasPorts.f a = some (decide (a = 6 ∨ a = 17)) := by
  unfold impl_HasPorts.f
  by_cases h : a = 6
  · simp [h]
  · by_cases g : a = 17
    · simp [g]
    · simp [h, g]

theorem q_spec_l1In (a b c : Int) : spec_l1In.f a b c = some (decide (b ≤ a ∧ a ≤ c)) := by
  unfold spec_l1In.f
  by_cases h : b ≤ a
  · simp [h]
  · simp [h]

theorem q_spec_l3Range (lo hi m : Int) : spec_l3Range.f lo hi m = some (decide (rok lo hi m)) := by
  unfold spec_l3Range.f rok
  by_cases h : 0 ≤ lo
  · by_cases g : lo ≤ hi
    · simp [h, g]
    · simp [h, g]
  · simp [h]
theorem q_spec_SelFault_j0 (k : Nat) (b : Bool) (s : Sl) : spec_SelFault.j0 (k + 1) b s.fl s.fh s.tl s.th s.pl s.ph s.ql s.qh s.pr = some (if b = true then 3 else if selPorts s then 0 else 1) := by
  rw [spec_SelFault.j0]
  simp only [q_spec_HasPorts, spec_l3All.f, Option.bind_some, decide_eq_true_eq]
  unfold selPorts hasP
  cases b
  · by_cases h1 : s.pr = 0
    · simp [h1]
    · by_cases h2 : s.pr = 6 ∨ s.pr = 17
      · simp [h1, h2]
      · by_cases h3 : s.pl = 0 <;> by_cases h4 : s.ph = 65535 <;> by_cases h5 : s.ql = 0 <;> by_cases h6 : s.qh = 65535 <;> simp [h1, h2, h3, h4, h5, h6]
  · simp
theorem q_spec_SelFault (k : Nat) (s : Sl) : spec_SelFault.f (k + 1) s.fl s.fh s.tl s.th s.pl s.ph s.ql s.qh s.pr = some (selF s) := by
  unfold spec_SelFault.f
  simp only [q_spec_l3Range, q_spec_l1In, q_spec_SelFault_j0, Option.bind_some, decide_eq_true_eq]
  unfold selF selOk
  by_cases h1 : rok s.fl s.fh 4294967295 <;> by_cases h2 : rok s.tl s.th 4294967295 <;> by_cases h3 : rok s.pl s.ph 65535 <;> by_cases h4 : rok s.ql s.qh 65535 <;> by_cases h5 : 0 ≤ s.pr ∧ s.pr ≤ 255 <;> simp [h1, h2, h3, h4, h5]
theorem ev_spec_SelFault (s : Sl) : Ev (fun k => spec_SelFault.f k s.fl s.fh s.tl s.th s.pl s.ph s.ql s.qh s.pr) (selF s) := ev_succ (fun k => q_spec_SelFault k s)

theorem ev_spec_SampleOf (s : Sl) : Ev (fun k => spec_SampleOf.f k s.fl s.fh s.tl s.th s.pl s.ph s.ql s.qh s.pr) (sampleM s) := by
  unfold spec_SampleOf.f sampleM spec_l2Bad.f
  simp only [q_spec_HasPorts, Option.bind_some]
  refine Ev.bind (ev_spec_SelFault s) (ev_cond (fun h => ?_) (fun h => ev_some _))
  refine ev_cond (fun h => ev_to (ev_some _) ?_) (fun h => ev_to (ev_some _) ?_)
  · unfold spec_SampleOf.p
    rw [if_pos (by decide)]
  · unfold spec_SampleOf.p
    by_cases g : s.pr = 6 ∨ s.pr = 17
    · rw [if_pos (decide_eq_true g), if_pos (show hasP s.pr from g)]
    · rw [if_neg (by simpa using g), if_neg (show ¬ hasP s.pr from g)]

theorem q_impl_in (a b c : Int) : impl_in.f a b c = some (decide (b ≤ a ∧ a ≤ c)) := by
  unfold impl_in.f
  by_cases h : b ≤ a
  · simp [h]
  · simp [h]

theorem q_impl_Range_ok (lo hi m : Int) : impl_Range_ok.f lo hi m = some (decide (rok lo hi m)) := by
  unfold impl_Range_ok.f
  simp only [q_impl_in, Option.bind_some, decide_eq_true_eq]
  by_cases hr : rok lo hi m
  · rw [decide_eq_true hr]
    unfold rok at hr
    rw [if_pos (by omega), if_pos (by omega), decide_eq_true (by omega)]
  · rw [decide_eq_false hr]
    unfold rok at hr
    by_cases h : 0 ≤ lo ∧ lo ≤ m
    · by_cases g : 0 ≤ hi ∧ hi ≤ m
      · rw [if_pos h, if_pos g, decide_eq_false (by omega)]
      · rw [if_pos h, if_neg g]
    · rw [if_neg h]
theorem q_impl_SelFault_j0 (k : Nat) (b : Bool) (s : Sl) : impl_SelFault.j0 (k + 1) b s.fl s.fh s.tl s.th s.pl s.ph s.ql s.qh s.pr = some (if b = true then 3 else if selPorts s then 0 else 1) := by
  rw [impl_SelFault.j0]
  simp only [q_impl_HasPorts, impl_whole.f, Option.bind_some, decide_eq_true_eq]
  unfold selPorts hasP
  cases b
  · by_cases h1 : s.pr = 0
    · simp [h1]
    · by_cases h2 : s.pr = 6 ∨ s.pr = 17
      · simp [h1, h2]
      · by_cases h3 : s.pl = 0 <;> by_cases h4 : s.ph = 65535 <;> by_cases h5 : s.ql = 0 <;> by_cases h6 : s.qh = 65535 <;> simp [h1, h2, h3, h4, h5, h6]
  · simp
theorem q_impl_SelFault (k : Nat) (s : Sl) : impl_SelFault.f (k + 1) s.fl s.fh s.tl s.th s.pl s.ph s.ql s.qh s.pr = some (selF s) := by
  unfold impl_SelFault.f
  simp only [q_impl_Range_ok, q_impl_in, q_impl_SelFault_j0, Option.bind_some, decide_eq_true_eq]
  unfold selF selOk
  by_cases h1 : rok s.fl s.fh 4294967295 <;> by_cases h2 : rok s.tl s.th 4294967295 <;> by_cases h3 : rok s.pl s.ph 65535 <;> by_cases h4 : rok s.ql s.qh 65535 <;> by_cases h5 : 0 ≤ s.pr ∧ s.pr ≤ 255 <;> simp [h1, h2, h3, h4, h5]
theorem ev_impl_SelFault (s : Sl) : Ev (fun k => impl_SelFault.f k s.fl s.fh s.tl s.th s.pl s.ph s.ql s.qh s.pr) (selF s) := ev_succ (fun k => q_impl_SelFault k s)

theorem ev_impl_SampleOf (s : Sl) : Ev (fun k => impl_SampleOf.f k s.fl s.fh s.tl s.th s.pl s.ph s.ql s.qh s.pr) (sampleM s) := by
  unfold impl_SampleOf.f sampleM
  simp only [q_impl_HasPorts, Option.bind_some]
  refine Ev.bind (ev_impl_SelFault s) (ev_cond (fun h => ?_) (fun h => ev_some _))
  refine ev_cond (fun h => ev_to (ev_some _) ?_) (fun h => ev_to (ev_some _) ?_)
  · unfold impl_SampleOf.p
    rw [if_pos (by decide)]
  · unfold impl_SampleOf.p
    by_cases g : s.pr = 6 ∨ s.pr = 17
    · rw [if_pos (decide_eq_true g), if_pos (show hasP s.pr from g)]
    · rw [if_neg (by simpa using g), if_neg (show ¬ hasP s.pr from g)]

theorem ev_eqByteS_loop (a b : List Int) (hn : a.length ≤ 140737488355328) (hl : b.length = a.length) : ∀ (d i : Nat), i + d = a.length → b.take i = a.take i → Ev (fun k => laws_eqByteS.l0 k a b i) (decide (a = b)) := by
  intro d
  induction d with
  | zero =>
    intro i hi ht
    refine Ev.step (fun k => by rw [laws_eqByteS.l0, if_neg (by omega)]) ?_
    obtain rfl : i = a.length := by omega
    rw [take_full hl ht]
    simpa using ev_some true
  | succ d ih =>
    intro i hi ht
    by_cases he : rd a i = rd b i
    · refine Ev.step (fun k => by rw [laws_eqByteS.l0, if_pos (by omega), if_pos (by omega), if_pos (by omega), if_pos he]) ?_
      rw [w64 (by omega) (by omega)]
      rw [rd_nat a i (by omega), rd_nat b i (by omega)] at he
      exact ih (i + 1) (by omega) (take_next (by omega) (by omega) ht he.symm)
    · refine Ev.step (fun k => by rw [laws_eqByteS.l0, if_pos (by omega), if_pos (by omega), if_pos (by omega), if_neg he]) ?_
      have : a ≠ b := fun h => he (by rw [h])
      simpa [this] using ev_some false
theorem ev_eqByteS {a b : List Int} (hn : a.length ≤ 140737488355328) : Ev (fun k => laws_eqByteS.f k a b) (decide (a = b)) := by
  unfold laws_eqByteS.f
  by_cases h : (a.length : Int) = b.length
  · exact ev_pos h (ev_eqByteS_loop a b hn (by omega) a.length 0 (by omega) (by simp))
  · refine ev_neg h ?_
    have : a ≠ b := fun h' => h (by rw [h'])
    simpa [this] using ev_some false
theorem ev_eqByteS_refl {a : List Int} (hn : a.length ≤ 140737488355328) : Ev (fun k => laws_eqByteS.f k a a) true := by
  simpa using ev_eqByteS (b := a) hn

theorem ev_eqPacket (a b c d e f : Int) {l : List Int} (h : l.length ≤ 1048576) : Ev (fun k => laws_eqPacket.f k a b c d e f l a b c d e f l) true := by
  unfold laws_eqPacket.f
  refine ev_pos rfl (ev_pos rfl (ev_pos rfl (ev_pos rfl (ev_pos rfl (ev_pos rfl ?_)))))
  exact Ev.bind (ev_eqByteS_refl (by omega)) (ev_pos rfl (ev_some _))

theorem ev_markByteS_loop : ∀ (d i : Nat) (b : List Int), i + d = b.length → b.length ≤ 4294967296 → (∀ j : Nat, j < i → b[j]? = some ((1 + (j : Int)) % 256)) →
    ∃ r, Ev (fun k => laws_markByteS.l0 k b (1 + (i : Int)) i) (1 + (b.length : Int), r) ∧ r.length = b.length ∧ ∀ j : Nat, j < b.length → r[j]? = some ((1 + (j : Int)) % 256) := by
  intro d
  induction d with
  | zero =>
    intro i b hi hl hj
    obtain rfl : i = b.length := by omega
    refine ⟨b, Ev.step (fun k => by rw [laws_markByteS.l0, if_neg (by omega)]) ?_, rfl, hj⟩
    exact ev_some _
  | succ d ih =>
    intro i b hi hl hj
    obtain ⟨r, hr, hrl, hrj⟩ := ih (i + 1) (b.set i ((1 + (i : Int)) % 256)) (by simp; omega) (by simpa using hl) (fun j h => by
      rw [List.getElem?_set]
      by_cases e : i = j
      · subst e
        rw [if_pos rfl, if_pos (by omega)]
      · rw [if_neg e]
        exact hj j (by omega))
    rw [List.length_set] at hr hrl hrj
    refine ⟨r, Ev.step (fun k => by rw [laws_markByteS.l0, if_pos (by omega), if_pos (by omega), Int.toNat_natCast, w64 (by omega) (by omega), w64 (by omega) (by omega)]) ?_, hrl, hrj⟩
    rw [show 1 + (i : Int) + 1 = 1 + ((i + 1 : Nat) : Int) from by omega]
    exact hr
theorem ev_heldByteS_loop (r : List Int) (hl : r.length ≤ 4294967296) (hj : ∀ j : Nat, j < r.length → r[j]? = some ((1 + (j : Int)) % 256)) : ∀ i, i ≤ r.length → Ev (fun k => laws_heldByteS.l0 k r (1 + (i : Int)) i) (1 + (r.length : Int)) := by
  refine down r.length ?_ ?_
  · refine Ev.step (fun k => by rw [laws_heldByteS.l0, if_neg (by omega)]) ?_
    exact ev_some _
  · intro i hi ih
    have h1 := hj i hi
    rw [List.getElem?_eq_getElem hi] at h1
    have h2 : rd r (i : Int) = (1 + (i : Int)) % 256 := by
      rw [rd_nat r i hi]
      exact Option.some.inj h1
    refine Ev.step (fun k => by rw [laws_heldByteS.l0, if_pos (by omega), if_pos (by omega), if_pos h2, w64 (by omega) (by omega), w64 (by omega) (by omega)]) ?_
    rw [show 1 + (i : Int) + 1 = 1 + ((i + 1 : Nat) : Int) from by omega]
    exact ih
/-- Marks laid into a row of bytes are found there again. -/
theorem ev_markheldByteS (l : List Int) (hl : l.length ≤ 4294967296) : ∃ r, Ev (fun k => laws_markByteS.f k l 1) (1 + (l.length : Int), r) ∧ Ev (fun k => laws_heldByteS.f k r 1) (1 + (l.length : Int)) := by
  obtain ⟨r, hr, hrl, hrj⟩ := ev_markByteS_loop l.length 0 l (by omega) hl (fun j h => by omega)
  have h := ev_heldByteS_loop r (by omega) (fun j h => hrj j (by omega)) 0 (by omega)
  rw [hrl] at h
  exact ⟨r, hr, h⟩

theorem ev_eqPacketResult (z a b c d e f : Int) {l : List Int} (h : l.length ≤ 1048576) : Ev (fun k => laws_eqPacketResult.f k z a b c d e f l z a b c d e f l) true := by
  unfold laws_eqPacketResult.f
  exact ev_pos rfl (Ev.bind (ev_eqPacket a b c d e f h) (ev_pos rfl (ev_some _)))
theorem ev_markheldPacketResult (z a b c d e f : Int) (l : List Int) (hl : l.length ≤ 4294967296) : ∃ r, Ev (fun k => laws_markPacketResult.f k z a b c d e f l 1) (1 + (l.length : Int), r) ∧ Ev (fun k => laws_heldPacketResult.f k z a b c d e f r 1) (1 + (l.length : Int)) := by
  obtain ⟨r, h1, h2⟩ := ev_markheldByteS l hl
  refine ⟨r, ?_, ?_⟩
  · unfold laws_markPacketResult.f laws_markPacket.f
    exact Ev.bind (Ev.bind h1 (ev_some _)) (ev_some _)
  · unfold laws_heldPacketResult.f laws_heldPacket.f
    exact Ev.bind (Ev.bind h2 (ev_neg (by omega) (ev_some _))) (ev_neg (by omega) (ev_some _))

theorem q_toSel (a b c d e f g h i : Int) : laws_toSel.f a b c d e f g h i = some (a, b, c, d, e, f, g, h, i) := rfl

theorem sampleM_len (s : Sl) : (sampleM s).2.2.2.2.2.2.2 = [] := by
  unfold sampleM
  repeat' split
  all_goals rfl
theorem FnExactSampleOf : laws_FnExactSampleOf.Pure := by
  intro a b c d e f g h i
  intros
  apply Ev.rounds
  unfold laws_FnExactSampleOf.f
  have hs := ev_spec_SampleOf ⟨a, b, c, d, e, f, g, h, i⟩
  have hi := ev_impl_SampleOf ⟨a, b, c, d, e, f, g, h, i⟩
  have hl := sampleM_len ⟨a, b, c, d, e, f, g, h, i⟩
  generalize sampleM ⟨a, b, c, d, e, f, g, h, i⟩ = x at *
  obtain ⟨x0, x1, x2, x3, x4, x5, x6, x7⟩ := x
  obtain rfl : x7 = [] := hl
  obtain ⟨r, h1, h2⟩ := ev_markheldPacketResult x0 x1 x2 x3 x4 x5 x6 [] (by simp)
  refine ev_opt (q_toSel a b c d e f g h i) (Ev.bind hs (ev_opt (q_toSel a b c d e f g h i) (Ev.bind hi ?_)))
  refine Ev.bind (ev_eqPacketResult x0 x1 x2 x3 x4 x5 x6 (l := []) (by simp)) (ev_pos rfl (Ev.bind h1 (Ev.bind h2 (ev_neg (by simp) (ev_pos rfl ?_)))))
  refine ev_opt (q_toSel a b c d e f g h i) (Ev.bind hi (Ev.bind (ev_eqPacketResult x0 x1 x2 x3 x4 x5 x6 (l := []) (by simp)) (ev_pos rfl ?_)))
  exact Ev.bind h2 (ev_neg (by simp) (ev_pos rfl (ev_some _)))

end Go.Proofs.Ytodlogjkhnieoaa.Pure
