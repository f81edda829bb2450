/- Proved: the law FnExactReverseWay answers true at every input that Go can hand in (it says: The program's ReverseWay returns what the reference's returns, for all arguments.) No condition beyond the statement's own. -/
import Derived.Test.YtodlogjkhnieoaaStFnExactReverseWay
namespace Go.Proofs.Ytodlogjkhnieoaa.Pure
open Go.RowKit Go.Proofs.Ytodlogjkhnieoaa.PFnExactReverseWay Go.Proofs.YtodlogjkhnieoaaW.PrintWords Go.Proofs.YtodlogjkhnieoaaW.PrintLast Go.Proofs.YtodlogjkhnieoaaW.PrintMore
set_option linter.unusedVariables false
set_option linter.unusedSimpArgs false

theorem w64 {x : Int} (h0 : -9223372036854775808 ≤ x) (h1 : x ≤ 9223372036854775807) : wrap64 x = x := by
  unfold wrap64
  omega
theorem tmod_pos {a b : Int} (h : 0 ≤ a) : Int.tmod a b = a % b := Int.tmod_eq_emod_of_nonneg h
theorem tdiv_pos {a b : Int} (h : 0 ≤ a) : Int.tdiv a b = a / b := Int.tdiv_eq_ediv_of_nonneg h
theorem ev_some {α : Type} (r : α) : Ev (fun _ => some r) r := Ev.now r
theorem ev_pos {α : Type} {c : Prop} [Decidable c] {A B : Nat → Option α} {r : α} (h : c) (e : Ev A r) : Ev (fun k => if c then A k else B k) r := by
  simpa only [if_pos h] using e
theorem ev_neg {α : Type} {c : Prop} [Decidable c] {A B : Nat → Option α} {r : α} (h : ¬ c) (e : Ev B r) : Ev (fun k => if c then A k else B k) r := by
  simpa only [if_neg h] using e
theorem ev_opt {α β : Type} {o : Option α} {f : Nat → α → Option β} {a : α} {r : β} (h : o = some a) (e : Ev (fun n => f n a) r) : Ev (fun n => o.bind (f n)) r := by
  simpa only [h, Option.bind_some] using e
theorem ev_to {α : Type} {g : Nat → Option α} {r r' : α} (e : Ev g r) (h : r = r') : Ev g r' := h ▸ e
theorem ev_fix {α : Type} {o : Option α} {r : α} (h : o = some r) : Ev (fun _ => o) r := ⟨0, fun _ _ => h⟩
theorem rd_nat (l : List Int) (i : Nat) (h : i < l.length) : rd l (i : Int) = l[i] := by
  unfold rd
  simp [List.getD_eq_getElem?_getD, h]
theorem rd_mem (l : List Int) (i : Int) (h0 : 0 ≤ i) (h : i < l.length) : rd l i ∈ l := by
  obtain ⟨n, rfl⟩ := Int.eq_ofNat_of_zero_le h0
  rw [rd_nat l n (by omega)]
  exact List.getElem_mem _
theorem u8_range {x : Int} (h : (Lit.int .u8 x).wf = true) : 0 ≤ x ∧ x ≤ 255 := by
  simp [Lit.wf, IntKind.min, IntKind.max, IntKind.signed, IntKind.bits] at h
  omega
theorem i64_range {x : Int} (h : (Lit.int .i64 x).wf = true) : -9223372036854775808 ≤ x ∧ x ≤ 9223372036854775807 := by
  simp [Lit.wf, IntKind.min, IntKind.max, IntKind.signed, IntKind.bits] at h
  omega
theorem set_mid {α : Type} (a : List α) (x : α) (b : List α) (y : α) : (a ++ x :: b).set a.length y = a ++ y :: b := by simp
theorem take_full {α : Type} {a b : List α} (hl : b.length = a.length) (ht : b.take a.length = a.take a.length) : b = a := by
  rw [List.take_of_length_le (by omega), List.take_of_length_le (by omega)] at ht
  exact ht
theorem take_next {α : Type} {a b : List α} {i : Nat} (ha : i < a.length) (hb : i < b.length) (ht : b.take i = a.take i) (hx : b[i] = a[i]) : b.take (i + 1) = a.take (i + 1) := by
  rw [List.take_succ_eq_append_getElem ha, List.take_succ_eq_append_getElem hb, ht, hx]
theorem ev_cond {α : Type} {c : Prop} [Decidable c] {A B : Nat → Option α} {r r' : α} (hp : c → Ev A r) (hn : ¬ c → Ev B r') : Ev (fun k => if c then A k else B k) (if c then r else r') := by
  by_cases h : c
  · rw [if_pos h]; exact ev_pos h (hp h)
  · rw [if_neg h]; exact ev_neg h (hn h)
theorem set_take {α : Type} {a b : List α} {i : Nat} {x : α} (h : i < a.length) (hl : b.length = a.length) (ht : b.take i = a.take i) (hx : x = a[i]) : (b.set i x).take (i + 1) = a.take (i + 1) := by
  refine take_next h (by simp; omega) ?_ (by simp [hx])
  rw [← ht]
  apply List.ext_getElem?
  intro j
  simp only [List.getElem?_take, List.getElem?_set]
  by_cases hj : j < i
  · rw [if_pos hj, if_pos hj, if_neg (by omega)]
  · rw [if_neg hj, if_neg hj]
theorem ev_succ {α : Type} {g : Nat → Option α} {r : α} (h : ∀ k, g (k + 1) = some r) : Ev g r := Ev.step h (ev_some r)
theorem down {P : Nat → Prop} (n : Nat) (hend : P n) (hstep : ∀ i, i < n → P (i + 1) → P i) : ∀ i, i ≤ n → P i := by
  intro i hi
  obtain ⟨d, hd⟩ : ∃ d, i + d = n := ⟨n - i, by omega⟩
  induction d generalizing i with
  | zero =>
    obtain rfl : i = n := by omega
    exact hend
  | succ d ih => exact hstep i (by omega) (ih (i + 1) (by omega) (by omega))
theorem getD_nat {α : Type} (l : List α) (z : α) (i : Nat) (h : i < l.length) : l.getD (i : Int).toNat z = l[i] := by
  simp [List.getD_eq_getElem?_getD, h]
/-- A loop that writes the image of each element into its place. -/
theorem map_loop {α β : Type} (F : Nat → List β → Int → Option (List β)) (l : List α) (c : α → β)
    (hend : ∀ k (b : List β), F (k + 1) b l.length = some b) (hstep : ∀ k (b : List β) (i : Nat) (h : i < l.length), b.length = l.length → F (k + 1) b i = F k (b.set i (c l[i])) ((i + 1 : Nat) : Int)) :
    ∀ (b : List β), b.length = l.length → Ev (fun k => F k b 0) (l.map c) := by
  have key : ∀ (i : Nat), i ≤ l.length → ∀ (b : List β), b.length = l.length → b.take i = (l.map c).take i → Ev (fun k => F k b i) (l.map c) := by
    refine down l.length ?_ ?_
    · intro b hl ht
      refine Ev.step (fun k => hend k b) ?_
      rw [take_full (a := l.map c) (b := b) (by simpa using hl) (by simpa using ht)]
      exact ev_some _
    · intro i hi ih b hl ht
      refine Ev.step (fun k => hstep k b i hi hl) (ih _ (by simpa using hl) ?_)
      exact set_take (by simpa using hi) (by simpa using hl) ht (by simp)
  intro b hl
  exact key 0 (by omega) b hl (by simp)
/-- A loop that goes through all places and answers r. -/
theorem count_loop {ρ : Type} (F : Nat → Int → Option ρ) (n : Nat) (r : ρ) (hend : ∀ k, F (k + 1) n = some r) (hstep : ∀ k (i : Nat), i < n → F (k + 1) i = F k ((i + 1 : Nat) : Int)) : Ev (fun k => F k 0) r := by
  have key : ∀ i, i ≤ n → Ev (fun k => F k (i : Nat)) r := down n (Ev.step hend (ev_some r)) (fun i hi ih => Ev.step (fun k => hstep k i hi) ih)
  exact key 0 (by omega)

structure Sl where
  fl : Int
  fh : Int
  tl : Int
  th : Int
  pl : Int
  ph : Int
  ql : Int
  qh : Int
  pr : Int
def rok (lo hi most : Int) : Prop := 0 ≤ lo ∧ lo ≤ hi ∧ hi ≤ most
instance (lo hi most : Int) : Decidable (rok lo hi most) := by unfold rok; infer_instance
def selOk (s : Sl) : Prop := rok s.fl s.fh 4294967295 ∧ rok s.tl s.th 4294967295 ∧ rok s.pl s.ph 65535 ∧ rok s.ql s.qh 65535 ∧ 0 ≤ s.pr ∧ s.pr ≤ 255
instance (s : Sl) : Decidable (selOk s) := by unfold selOk; infer_instance
def hasP (p : Int) : Prop := p = 6 ∨ p = 17
instance (p : Int) : Decidable (hasP p) := by unfold hasP; infer_instance
def selPorts (s : Sl) : Prop := s.pr = 0 ∨ hasP s.pr ∨ (s.pl = 0 ∧ s.ph = 65535 ∧ s.ql = 0 ∧ s.qh = 65535)
instance (s : Sl) : Decidable (selPorts s) := by unfold selPorts; infer_instance
def selF (s : Sl) : Int := if selOk s then (if selPorts s then 0 else 1) else 3

structure Pk where
  fr : Int
  to_ : Int
  pr : Int
  tl : Int
  fp : Int
  tp : Int
  ld : List Int
def pktOk (p : Pk) : Prop := (0 ≤ p.fr ∧ p.fr ≤ 4294967295) ∧ (0 ≤ p.to_ ∧ p.to_ ≤ 4294967295) ∧ (1 ≤ p.pr ∧ p.pr ≤ 255) ∧ (1 ≤ p.tl ∧ p.tl ≤ 255) ∧ (0 ≤ p.fp ∧ p.fp ≤ 65535) ∧ (0 ≤ p.tp ∧ p.tp ≤ 65535)
instance (p : Pk) : Decidable (pktOk p) := by unfold pktOk; infer_instance
def pktPorts (p : Pk) : Prop := hasP p.pr ∨ (p.fp = 0 ∧ p.tp = 0)
instance (p : Pk) : Decidable (pktPorts p) := by unfold pktPorts; infer_instance
def pktF (p : Pk) : Int := if pktOk p then (if pktPorts p then (if 200 < p.ld.length then 2 else 0) else 1) else 3
theorem ev_succ2 {α : Type} {g : Nat → Option α} {r : α} (h : ∀ k, g (k + 2) = some r) : Ev g r := Ev.step (f := fun k => g (k + 1)) (fun k => rfl) (ev_succ h)

theorem q_spec_HasPorts (a : Int) : spec_HasPorts.f a = some (decide (a = 6 ∨ a = 17)) := by
  unfold spec_HasPorts.f
  by_cases h : a = 6
  · simp [h]
  · by_cases g : a = 17
    · simp [g]
    · simp [h, g]
theorem q_impl_HasPorts (a : Int) : impl_HasPorts.f a = some (decide (a = 6 ∨ a = 17)) := by
  unfold impl_HasPorts.f
  by_cases h : a = 6
  · simp [h]
  · by_cases g : a = 17
    · simp [g]
    · simp [h, g]

theorem q_spec_l1In (a b c : Int) : spec_l1In.f a b c = some (decide (b ≤ a ∧ a ≤ c)) := by
  unfold spec_l1In.f
  by_cases h : b ≤ a
  · simp [h]
  · simp [h]

theorem q_spec_PacketFault_j1 (k : Nat) (b : Bool) (p : Pk) : spec_PacketFault.j1 (k + 1) b p.fr p.to_ p.pr p.tl p.fp p.tp p.ld = some (if b = true then 1 else if 200 < p.ld.length then 2 else 0) := by
  rw [spec_PacketFault.j1]
  cases b
  · by_cases h : 200 < p.ld.length
    · simp [h]
      omega
    · simp [h]
      omega
  · simp
theorem q_spec_PacketFault_j0 (k : Nat) (b : Bool) (p : Pk) : spec_PacketFault.j0 (k + 2) b p.fr p.to_ p.pr p.tl p.fp p.tp p.ld = some (if b = true then 3 else if pktPorts p then (if 200 < p.ld.length then 2 else 0) else 1) := by
  rw [spec_PacketFault.j0]
  simp only [q_spec_HasPorts, q_spec_PacketFault_j1, Option.bind_some, decide_eq_true_eq]
  unfold pktPorts hasP
  cases b
  · by_cases h2 : p.pr = 6 ∨ p.pr = 17
    · simp [h2]
    · by_cases h3 : p.fp = 0 <;> by_cases h4 : p.tp = 0 <;> simp [h2, h3, h4]
  · simp
theorem q_spec_PacketFault (k : Nat) (p : Pk) : spec_PacketFault.f (k + 2) p.fr p.to_ p.pr p.tl p.fp p.tp p.ld = some (pktF p) := by
  unfold spec_PacketFault.f spec_l2Address.f spec_l2Port.f
  simp only [q_spec_l1In, q_spec_PacketFault_j0, Option.bind_some, decide_eq_true_eq]
  unfold pktF pktOk
  by_cases h1 : 0 ≤ p.fr ∧ p.fr ≤ 4294967295 <;> by_cases h2 : 0 ≤ p.to_ ∧ p.to_ ≤ 4294967295 <;> by_cases h3 : 1 ≤ p.pr ∧ p.pr ≤ 255 <;> by_cases h4 : 1 ≤ p.tl ∧ p.tl ≤ 255 <;> by_cases h5 : 0 ≤ p.fp ∧ p.fp ≤ 65535 <;> by_cases h6 : 0 ≤ p.tp ∧ p.tp ≤ 65535 <;> simp [h1, h2, h3, h4, h5, h6]
theorem ev_spec_PacketFault (p : Pk) : Ev (fun k => spec_PacketFault.f k p.fr p.to_ p.pr p.tl p.fp p.tp p.ld) (pktF p) := ev_succ2 (fun k => q_spec_PacketFault k p)

theorem q_impl_in (a b c : Int) : impl_in.f a b c = some (decide (b ≤ a ∧ a ≤ c)) := by
  unfold impl_in.f
  by_cases h : b ≤ a
  · simp [h]
  · simp [h]

theorem q_impl_PacketFault_j1 (k : Nat) (b : Bool) (p : Pk) : impl_PacketFault.j1 (k + 1) b p.fr p.to_ p.pr p.tl p.fp p.tp p.ld = some (if b = true then 1 else if 200 < p.ld.length then 2 else 0) := by
  rw [impl_PacketFault.j1]
  cases b
  · by_cases h : 200 < p.ld.length
    · simp [h]
      omega
    · simp [h]
      omega
  · simp
theorem q_impl_PacketFault_j0 (k : Nat) (b : Bool) (p : Pk) : impl_PacketFault.j0 (k + 2) b p.fr p.to_ p.pr p.tl p.fp p.tp p.ld = some (if b = true then 3 else if pktPorts p then (if 200 < p.ld.length then 2 else 0) else 1) := by
  rw [impl_PacketFault.j0]
  simp only [q_impl_HasPorts, q_impl_PacketFault_j1, Option.bind_some, decide_eq_true_eq]
  unfold pktPorts hasP
  cases b
  · by_cases h2 : p.pr = 6 ∨ p.pr = 17
    · simp [h2]
    · by_cases h3 : p.fp = 0 <;> by_cases h4 : p.tp = 0 <;> simp [h2, h3, h4]
  · simp
theorem q_impl_PacketFault (k : Nat) (p : Pk) : impl_PacketFault.f (k + 2) p.fr p.to_ p.pr p.tl p.fp p.tp p.ld = some (pktF p) := by
  unfold impl_PacketFault.f impl_isAddress.f impl_isPort.f
  simp only [q_impl_in, q_impl_PacketFault_j0, Option.bind_some, decide_eq_true_eq]
  unfold pktF pktOk
  by_cases h1 : 0 ≤ p.fr ∧ p.fr ≤ 4294967295 <;> by_cases h2 : 0 ≤ p.to_ ∧ p.to_ ≤ 4294967295 <;> by_cases h3 : 1 ≤ p.pr ∧ p.pr ≤ 255 <;> by_cases h4 : 1 ≤ p.tl ∧ p.tl ≤ 255 <;> by_cases h5 : 0 ≤ p.fp ∧ p.fp ≤ 65535 <;> by_cases h6 : 0 ≤ p.tp ∧ p.tp ≤ 65535 <;> simp [h1, h2, h3, h4, h5, h6]
theorem ev_impl_PacketFault (p : Pk) : Ev (fun k => impl_PacketFault.f k p.fr p.to_ p.pr p.tl p.fp p.tp p.ld) (pktF p) := ev_succ2 (fun k => q_impl_PacketFault k p)

theorem q_szPacket (a b c d e f : Int) {l : List Int} (h : l.length ≤ 1048576) : laws_szPacket.f a b c d e f l 1048576 = some (1048576 - (l.length : Int)) := by
  unfold laws_szPacket.f laws_szByteS.f
  rw [w64 (by omega) (by omega), if_neg (by omega), Option.bind_some, if_neg (by omega)]
theorem q_szPacket_big (a b c d e f : Int) {l : List Int} (h : ¬ l.length ≤ 1048576) (hm : l.length ≤ maxLen) : laws_szPacket.f a b c d e f l 1048576 = some (-1) := by
  unfold laws_szPacket.f laws_szByteS.f
  unfold maxLen at hm
  rw [w64 (by omega) (by omega), if_pos (by omega), Option.bind_some, if_pos (by omega)]

theorem ev_toByteS_loop (a : List Int) (hn : a.length ≤ 140737488355328) : ∀ (d i : Nat) (b : List Int), i + d = a.length → b.length = a.length → b.take i = a.take i → Ev (fun k => laws_toByteS.l0 k a b i) a := by
  intro d
  induction d with
  | zero =>
    intro i b hi hl ht
    refine Ev.step (fun k => by rw [laws_toByteS.l0, if_neg (by omega)]) ?_
    obtain rfl : i = a.length := by omega
    rw [take_full hl ht]
    exact ev_some a
  | succ d ih =>
    intro i b hi hl ht
    refine Ev.step (fun k => by rw [laws_toByteS.l0, if_pos (by omega), if_pos (by omega), if_pos (by omega)]) ?_
    rw [w64 (by omega) (by omega), Int.toNat_natCast]
    exact ih (i + 1) _ (by omega) (by simpa using hl) (set_take (by omega) hl ht (rd_nat a i (by omega)))
theorem ev_toByteS {a : List Int} (hn : a.length ≤ 140737488355328) : Ev (fun k => laws_toByteS.f k a) a := by
  unfold laws_toByteS.f
  refine ev_pos (by omega) (ev_pos (by omega) ?_)
  exact ev_toByteS_loop a hn a.length 0 _ (by omega) (by simp) (by simp)

theorem ev_toPacket (a b c d e f : Int) {l : List Int} (h : l.length ≤ 1048576) : Ev (fun k => laws_toPacket.f k a b c d e f l) (a, b, c, d, e, f, l) := by
  unfold laws_toPacket.f
  exact Ev.bind (ev_toByteS (by omega)) (ev_some _)

theorem ev_eqByteS_loop (a b : List Int) (hn : a.length ≤ 140737488355328) (hl : b.length = a.length) : ∀ (d i : Nat), i + d = a.length → b.take i = a.take i → Ev (fun k => laws_eqByteS.l0 k a b i) (decide (a = b)) := by
  intro d
  induction d with
  | zero =>
    intro i hi ht
    refine Ev.step (fun k => by rw [laws_eqByteS.l0, if_neg (by omega)]) ?_
    obtain rfl : i = a.length := by omega
    rw [take_full hl ht]
    simpa using ev_some true
  | succ d ih =>
    intro i hi ht
    by_cases he : rd a i = rd b i
    · refine Ev.step (fun k => by rw [laws_eqByteS.l0, if_pos (by omega), if_pos (by omega), if_pos (by omega), if_pos he]) ?_
      rw [w64 (by omega) (by omega)]
      rw [rd_nat a i (by omega), rd_nat b i (by omega)] at he
      exact ih (i + 1) (by omega) (take_next (by omega) (by omega) ht he.symm)
    · refine Ev.step (fun k => by rw [laws_eqByteS.l0, if_pos (by omega), if_pos (by omega), if_pos (by omega), if_neg he]) ?_
      have : a ≠ b := fun h => he (by rw [h])
      simpa [this] using ev_some false
theorem ev_eqByteS {a b : List Int} (hn : a.length ≤ 140737488355328) : Ev (fun k => laws_eqByteS.f k a b) (decide (a = b)) := by
  unfold laws_eqByteS.f
  by_cases h : (a.length : Int) = b.length
  · exact ev_pos h (ev_eqByteS_loop a b hn (by omega) a.length 0 (by omega) (by simp))
  · refine ev_neg h ?_
    have : a ≠ b := fun h' => h (by rw [h'])
    simpa [this] using ev_some false
theorem ev_eqByteS_refl {a : List Int} (hn : a.length ≤ 140737488355328) : Ev (fun k => laws_eqByteS.f k a a) true := by
  simpa using ev_eqByteS (b := a) hn

theorem ev_eqPacket (a b c d e f : Int) {l : List Int} (h : l.length ≤ 1048576) : Ev (fun k => laws_eqPacket.f k a b c d e f l a b c d e f l) true := by
  unfold laws_eqPacket.f
  refine ev_pos rfl (ev_pos rfl (ev_pos rfl (ev_pos rfl (ev_pos rfl (ev_pos rfl ?_)))))
  exact Ev.bind (ev_eqByteS_refl (by omega)) (ev_pos rfl (ev_some _))

theorem ev_markByteS_loop : ∀ (d i : Nat) (b : List Int), i + d = b.length → b.length ≤ 4294967296 → (∀ j : Nat, j < i → b[j]? = some ((1 + (j : Int)) % 256)) →
    ∃ r, Ev (fun k => laws_markByteS.l0 k b (1 + (i : Int)) i) (1 + (b.length : Int), r) ∧ r.length = b.length ∧ ∀ j : Nat, j < b.length → r[j]? = some ((1 + (j : Int)) % 256) := by
  intro d
  induction d with
  | zero =>
    intro i b hi hl hj
    obtain rfl : i = b.length := by omega
    refine ⟨b, Ev.step (fun k => by rw [laws_markByteS.l0, if_neg (by omega)]) ?_, rfl, hj⟩
    exact ev_some _
  | succ d ih =>
    intro i b hi hl hj
    obtain ⟨r, hr, hrl, hrj⟩ := ih (i + 1) (b.set i ((1 + (i : Int)) % 256)) (by simp; omega) (by simpa using hl) (fun j h => by
      rw [List.getElem?_set]
      by_cases e : i = j
      · subst e
        rw [if_pos rfl, if_pos (by omega)]
      · rw [if_neg e]
        exact hj j (by omega))
    rw [List.length_set] at hr hrl hrj
    refine ⟨r, Ev.step (fun k => by rw [laws_markByteS.l0, if_pos (by omega), if_pos (by omega), Int.toNat_natCast, w64 (by omega) (by omega), w64 (by omega) (by omega)]) ?_, hrl, hrj⟩
    rw [show 1 + (i : Int) + 1 = 1 + ((i + 1 : Nat) : Int) from by omega]
    exact hr
theorem ev_heldByteS_loop (r : List Int) (hl : r.length ≤ 4294967296) (hj : ∀ j : Nat, j < r.length → r[j]? = some ((1 + (j : Int)) % 256)) : ∀ i, i ≤ r.length → Ev (fun k => laws_heldByteS.l0 k r (1 + (i : Int)) i) (1 + (r.length : Int)) := by
  refine down r.length ?_ ?_
  · refine Ev.step (fun k => by rw [laws_heldByteS.l0, if_neg (by omega)]) ?_
    exact ev_some _
  · intro i hi ih
    have h1 := hj i hi
    rw [List.getElem?_eq_getElem hi] at h1
    have h2 : rd r (i : Int) = (1 + (i : Int)) % 256 := by
      rw [rd_nat r i hi]
      exact Option.some.inj h1
    refine Ev.step (fun k => by rw [laws_heldByteS.l0, if_pos (by omega), if_pos (by omega), if_pos h2, w64 (by omega) (by omega), w64 (by omega) (by omega)]) ?_
    rw [show 1 + (i : Int) + 1 = 1 + ((i + 1 : Nat) : Int) from by omega]
    exact ih
/-- Marks laid into a row of bytes are found there again. -/
theorem ev_markheldByteS (l : List Int) (hl : l.length ≤ 4294967296) : ∃ r, Ev (fun k => laws_markByteS.f k l 1) (1 + (l.length : Int), r) ∧ Ev (fun k => laws_heldByteS.f k r 1) (1 + (l.length : Int)) := by
  obtain ⟨r, hr, hrl, hrj⟩ := ev_markByteS_loop l.length 0 l (by omega) hl (fun j h => by omega)
  have h := ev_heldByteS_loop r (by omega) (fun j h => hrj j (by omega)) 0 (by omega)
  rw [hrl] at h
  exact ⟨r, hr, h⟩

theorem ev_eqPacketResult (z a b c d e f : Int) {l : List Int} (h : l.length ≤ 1048576) : Ev (fun k => laws_eqPacketResult.f k z a b c d e f l z a b c d e f l) true := by
  unfold laws_eqPacketResult.f
  exact ev_pos rfl (Ev.bind (ev_eqPacket a b c d e f h) (ev_pos rfl (ev_some _)))
theorem ev_markheldPacketResult (z a b c d e f : Int) (l : List Int) (hl : l.length ≤ 4294967296) : ∃ r, Ev (fun k => laws_markPacketResult.f k z a b c d e f l 1) (1 + (l.length : Int), r) ∧ Ev (fun k => laws_heldPacketResult.f k z a b c d e f r 1) (1 + (l.length : Int)) := by
  obtain ⟨r, h1, h2⟩ := ev_markheldByteS l hl
  refine ⟨r, ?_, ?_⟩
  · unfold laws_markPacketResult.f laws_markPacket.f
    exact Ev.bind (Ev.bind h1 (ev_some _)) (ev_some _)
  · unfold laws_heldPacketResult.f laws_heldPacket.f
    exact Ev.bind (Ev.bind h2 (ev_neg (by omega) (ev_some _))) (ev_neg (by omega) (ev_some _))

theorem ev_markPacket (a b c d e f : Int) (l : List Int) (hl : l.length ≤ 4294967296) : ∃ r, Ev (fun k => laws_markPacket.f k a b c d e f l 1) (1 + (l.length : Int), r) := by
  obtain ⟨r, h1, _⟩ := ev_markheldByteS l hl
  refine ⟨r, ?_⟩
  unfold laws_markPacket.f
  exact Ev.bind h1 (ev_some _)

def revR (p : Pk) : Int × Int × Int × Int × Int × Int × Int × List Int := if pktF p = 0 then (0, p.to_, p.fr, p.pr, p.tl, p.tp, p.fp, p.ld) else (pktF p, 0, 0, 0, 0, 0, 0, [])
theorem ev_spec_ReverseWay (p : Pk) (h : p.ld.length ≤ 1048576) : Ev (fun k => spec_ReverseWay.f k p.fr p.to_ p.pr p.tl p.fp p.tp p.ld) (revR p) := by
  unfold spec_ReverseWay.f revR spec_l2Bad.f
  have hc : spec_l2Copy.f p.fr p.to_ p.pr p.tl p.fp p.tp p.ld = some (p.fr, p.to_, p.pr, p.tl, p.fp, p.tp, p.ld) := by
    rw [spec_l2Copy.f, Option.bind_some, if_pos (by rw [List.length_nil]; omega), List.nil_append]
  exact Ev.bind (ev_spec_PacketFault p) (ev_cond (fun g => ev_opt hc (ev_some _)) (fun g => ev_some _))
theorem ev_impl_ReverseWay (p : Pk) (h : p.ld.length ≤ 1048576) : Ev (fun k => impl_ReverseWay.f k p.fr p.to_ p.pr p.tl p.fp p.tp p.ld) (revR p) := by
  unfold impl_ReverseWay.f revR
  have hc : impl_reverse.f p.fr p.to_ p.pr p.tl p.fp p.tp p.ld = some (p.to_, p.fr, p.pr, p.tl, p.tp, p.fp, p.ld) := by
    rw [impl_reverse.f, slices_Clone_byte_byte.f, if_pos (by omega), Option.bind_some]
  exact Ev.bind (ev_impl_PacketFault p) (ev_cond (fun g => ev_opt hc (ev_some _)) (fun g => ev_some _))
theorem revR_len (p : Pk) : (revR p).2.2.2.2.2.2.2.length ≤ p.ld.length := by
  unfold revR
  split <;> simp
theorem FnExactReverseWay : laws_FnExactReverseWay.Pure := by
  intro a b c d e f l
  intro _ _ _ _ _ _ hm _
  apply Ev.rounds
  unfold laws_FnExactReverseWay.f
  by_cases h : l.length ≤ 1048576
  · have hs := ev_spec_ReverseWay ⟨a, b, c, d, e, f, l⟩ h
    have hi := ev_impl_ReverseWay ⟨a, b, c, d, e, f, l⟩ h
    have hlen : (revR ⟨a, b, c, d, e, f, l⟩).2.2.2.2.2.2.2.length ≤ 1048576 := Nat.le_trans (revR_len _) h
    generalize revR ⟨a, b, c, d, e, f, l⟩ = x at *
    obtain ⟨x0, x1, x2, x3, x4, x5, x6, x7⟩ := x
    replace hlen : x7.length ≤ 1048576 := hlen
    obtain ⟨r1, m1⟩ := ev_markPacket a b c d e f l (by omega)
    obtain ⟨r, h1, h2⟩ := ev_markheldPacketResult x0 x1 x2 x3 x4 x5 x6 x7 (by omega)
    refine ev_opt (q_szPacket a b c d e f h) (ev_neg (by omega) ?_)
    refine Ev.bind (ev_toPacket a b c d e f h) (Ev.bind hs (Ev.bind (ev_toPacket a b c d e f h) (Ev.bind hi ?_)))
    refine Ev.bind (ev_eqPacketResult x0 x1 x2 x3 x4 x5 x6 hlen) (ev_pos rfl (Ev.bind (ev_toPacket a b c d e f h) (Ev.bind (ev_eqPacket a b c d e f h) (ev_pos rfl ?_))))
    refine Ev.bind m1 (ev_neg (by simp only; omega) (Ev.bind (ev_eqPacketResult x0 x1 x2 x3 x4 x5 x6 hlen) ?_))
    refine Ev.step (fun k => by rw [laws_FnExactReverseWay.j0, if_neg (by simp)]) ?_
    refine Ev.bind h1 (Ev.bind h2 (ev_neg (by omega) (ev_pos rfl ?_)))
    refine Ev.bind (ev_toPacket a b c d e f h) (Ev.bind hi (Ev.bind (ev_eqPacketResult x0 x1 x2 x3 x4 x5 x6 hlen) (ev_pos rfl ?_)))
    exact Ev.bind h2 (ev_neg (by omega) (ev_pos rfl (ev_some _)))
  · exact ev_opt (q_szPacket_big a b c d e f h hm) (ev_pos (by omega) (ev_some _))

end Go.Proofs.Ytodlogjkhnieoaa.Pure
