
/- Proved: the law FnExactBuildPacket answers true at every input that Go can hand in (it says: The program's BuildPacket returns what the reference's returns, for all arguments.) No condition beyond the statement's own. -/
import Derived.Test.YtodlogjkhnieoaaStFnExactBuildPacket
namespace Go.Proofs.Ytodlogjkhnieoaa.Pure
open Go.RowKit Go.Proofs.Ytodlogjkhnieoaa.PFnExactBuildPacket Go.Proofs.YtodlogjkhnieoaaW.PrintWords Go.Proofs.YtodlogjkhnieoaaW.PrintLast Go.Proofs.YtodlogjkhnieoaaW.PrintMore
set_option linter.unusedVariables false
set_option linter.unusedSimpArgs false

theorem w64 {x : Int} (h0 : -9223372036854775808 ≤ x) (h1 : x ≤ 9223372036854775807) : wrap64 x = x := by
  unfold wrap64
  omega
theorem tmod_pos {a b : Int} (h : 0 ≤ a) : Int.tmod a b = a % b := Int.tmod_eq_emod_of_nonneg h
theorem tdiv_pos {a b : Int} (h : 0 ≤ a) : Int.tdiv a b = a / b := Int.tdiv_eq_ediv_of_nonneg h
theorem ev_some {α : Type} (r : α) : Ev (fun _ => some r) r := Ev.now r
theorem ev_pos {α : Type} {c : Prop} [Decidable c] {A B : Nat → Option α} {r : α} (h : c) (e : Ev A r) : Ev (fun k => if c then A k else B k) r := by
  simpa only [if_pos h] using e
theorem ev_neg {α : Type} {c : Prop} [Decidable c] {A B : Nat → Option α} {r : α} (h : ¬ c) (e : Ev B r) : Ev (fun k => if c then A k else B k) r := by
  simpa only [if_neg h] using e
theorem ev_opt {α β : Type} {o : Option α} {f : Nat → α → Option β} {a : α} {r : β} (h : o = some a) (e : Ev (fun n => f n a) r) : Ev (fun n => o.bind (f n)) r := by
  simpa only [h, Option.bind_some] using e
theorem ev_to {α : Type} {g : Nat → Option α} {r r' : α} (e : Ev g r) (h : r = r') : Ev g r' := h ▸ e
theorem ev_fix {α : Type} {o : Option α} {r : α} (h : o = some r) : Ev (fun _ => o) r := ⟨0, fun _ _ => h⟩
theorem rd_nat (l : List Int) (i : Nat) (h : i < l.length) : rd l (i : Int) = l[i] := by
  unfold rd
  simp [List.getD_eq_getElem?_getD, h]
theorem rd_mem (l : List Int) (i : Int) (h0 : 0 ≤ i) (h : i < l.length) : rd l i ∈ l := by
  obtain ⟨n, rfl⟩ := Int.eq_ofNat_of_zero_le h0
  rw [rd_nat l n (by omega)]
  exact List.getElem_mem _
theorem take_full {α : Type} {a b : List α} (hl : b.length = a.length) (ht : b.take a.length = a.take a.length) : b = a := by
  rw [List.take_of_length_le (by omega), List.take_of_length_le (by omega)] at ht
  exact ht
theorem take_next {α : Type} {a b : List α} {i : Nat} (ha : i < a.length) (hb : i < b.length) (ht : b.take i = a.take i) (hx : b[i] = a[i]) : b.take (i + 1) = a.take (i + 1) := by
  rw [List.take_succ_eq_append_getElem ha, List.take_succ_eq_append_getElem hb, ht, hx]
theorem ev_cond {α : Type} {c : Prop} [Decidable c] {A B : Nat → Option α} {r r' : α} (hp : c → Ev A r) (hn : ¬ c → Ev B r') : Ev (fun k => if c then A k else B k) (if c then r else r') := by
  by_cases h : c
  · rw [if_pos h]; exact ev_pos h (hp h)
  · rw [if_neg h]; exact ev_neg h (hn h)
theorem set_take {α : Type} {a b : List α} {i : Nat} {x : α} (h : i < a.length) (hl : b.length = a.length) (ht : b.take i = a.take i) (hx : x = a[i]) : (b.set i x).take (i + 1) = a.take (i + 1) := by
  refine take_next h (by simp; omega) ?_ (by simp [hx])
  rw [← ht]
  apply List.ext_getElem?
  intro j
  simp only [List.getElem?_take, List.getElem?_set]
  by_cases hj : j < i
  · rw [if_pos hj, if_pos hj, if_neg (by omega)]
  · rw [if_neg hj, if_neg hj]
theorem ev_succ {α : Type} {g : Nat → Option α} {r : α} (h : ∀ k, g (k + 1) = some r) : Ev g r := Ev.step h (ev_some r)
theorem down {P : Nat → Prop} (n : Nat) (hend : P n) (hstep : ∀ i, i < n → P (i + 1) → P i) : ∀ i, i ≤ n → P i := by
  intro i hi
  obtain ⟨d, hd⟩ : ∃ d, i + d = n := ⟨n - i, by omega⟩
  induction d generalizing i with
  | zero =>
    obtain rfl : i = n := by omega
    exact hend
  | succ d ih => exact hstep i (by omega) (ih (i + 1) (by omega) (by omega))
def nb (n : Int) : Nat → List Int
  | 0 => []
  | s + 1 => nb (n / 256) s ++ [n % 256]
theorem nb_length (s : Nat) : ∀ n : Int, (nb n s).length = s := by
  induction s with
  | zero => intro n; rfl
  | succ s ih => intro n; rw [nb, List.length_append, ih]; rfl
theorem nb_bytes (s : Nat) : ∀ n : Int, ∀ x ∈ nb n s, 0 ≤ x ∧ x ≤ 255 := by
  induction s with
  | zero => intro n x hx; simp [nb] at hx
  | succ s ih =>
    intro n x hx
    rw [nb, List.mem_append] at hx
    rcases hx with hx | hx
    · exact ih _ x hx
    · simp at hx
      omega
theorem nb_cons (s : Nat) : ∀ n : Int, nb n (s + 1) = (n / 256 ^ s) % 256 :: nb n s := by
  induction s with
  | zero => intro n; simp [nb]
  | succ s ih =>
    intro n
    rw [nb, ih (n / 256), nb, List.cons_append]
    congr 2
    rw [Int.ediv_ediv_of_nonneg (by omega), Int.pow_succ, Int.mul_comm]

def ws (l : List Int) : Nat → Int
  | 0 => 0
  | n + 1 => ws l n + (if n % 2 = 0 then 256 * rd l n else rd l n)
theorem ws_range {l : List Int} (hb : ∀ x ∈ l, 0 ≤ x ∧ x ≤ 255) : ∀ n : Nat, n ≤ l.length → 0 ≤ ws l n ∧ ws l n ≤ 65280 * n := by
  intro n
  induction n with
  | zero => intro _; simp [ws]
  | succ n ih =>
    intro hn
    have h1 := ih (by omega)
    have h2 := hb _ (rd_mem l n (by omega) (by omega))
    rw [ws]
    split <;> omega

def foldv (n : Int) : Int := if n ≤ 65535 then n else (n - 1) % 65535 + 1
theorem foldv_step (n : Int) (h : 65536 ≤ n) : foldv (n % 65536 + n / 65536) = foldv n := by
  unfold foldv
  split <;> split <;> omega
theorem foldv_low {n : Int} (h : n ≤ 65535) : foldv n = n := by
  unfold foldv
  rw [if_pos h]
theorem foldv_range {n : Int} (h : 0 ≤ n) : 0 ≤ foldv n ∧ foldv n ≤ 65535 := by
  unfold foldv
  split <;> omega
theorem foldv_add (a b : Int) (ha : 0 ≤ a) (hb : 0 ≤ b) : foldv (foldv a + b) = foldv (a + b) := by
  unfold foldv
  repeat' split
  all_goals omega

structure Sl where
  fl : Int
  fh : Int
  tl : Int
  th : Int
  pl : Int
  ph : Int
  ql : Int
  qh : Int
  pr : Int
def rok (lo hi most : Int) : Prop := 0 ≤ lo ∧ lo ≤ hi ∧ hi ≤ most
instance (lo hi most : Int) : Decidable (rok lo hi most) := by unfold rok; infer_instance
def selOk (s : Sl) : Prop := rok s.fl s.fh 4294967295 ∧ rok s.tl s.th 4294967295 ∧ rok s.pl s.ph 65535 ∧ rok s.ql s.qh 65535 ∧ 0 ≤ s.pr ∧ s.pr ≤ 255
instance (s : Sl) : Decidable (selOk s) := by unfold selOk; infer_instance
def hasP (p : Int) : Prop := p = 6 ∨ p = 17
instance (p : Int) : Decidable (hasP p) := by unfold hasP; infer_instance
def selPorts (s : Sl) : Prop := s.pr = 0 ∨ hasP s.pr ∨ (s.pl = 0 ∧ s.ph = 65535 ∧ s.ql = 0 ∧ s.qh = 65535)
instance (s : Sl) : Decidable (selPorts s) := by unfold selPorts; infer_instance
structure Pk where
  fr : Int
  to_ : Int
  pr : Int
  tl : Int
  fp : Int
  tp : Int
  ld : List Int
def pktOk (p : Pk) : Prop := (0 ≤ p.fr ∧ p.fr ≤ 4294967295) ∧ (0 ≤ p.to_ ∧ p.to_ ≤ 4294967295) ∧ (1 ≤ p.pr ∧ p.pr ≤ 255) ∧ (1 ≤ p.tl ∧ p.tl ≤ 255) ∧ (0 ≤ p.fp ∧ p.fp ≤ 65535) ∧ (0 ≤ p.tp ∧ p.tp ≤ 65535)
instance (p : Pk) : Decidable (pktOk p) := by unfold pktOk; infer_instance
def pktPorts (p : Pk) : Prop := hasP p.pr ∨ (p.fp = 0 ∧ p.tp = 0)
instance (p : Pk) : Decidable (pktPorts p) := by unfold pktPorts; infer_instance
def pktF (p : Pk) : Int := if pktOk p then (if pktPorts p then (if 200 < p.ld.length then 2 else 0) else 1) else 3
theorem ev_succ2 {α : Type} {g : Nat → Option α} {r : α} (h : ∀ k, g (k + 2) = some r) : Ev g r := Ev.step (f := fun k => g (k + 1)) (fun k => rfl) (ev_succ h)

theorem q_spec_HasPorts (a : Int) : spec_HasPorts.f a = some (decide (a = 6 ∨ a = 17)) := by
  unfold spec_HasPorts.f
  by_cases h : a = 6
  · simp [h]
  · by_cases g : a = 17
    · simp [g]
    · simp [h, g]
theorem q_impl_HasPorts (a : Int) : impl_HasPorts.f a = some (decide (a = 6 ∨ a = 17)) := by
  unfold impl_HasPorts.f
  by_cases h : a = 6
  · simp [h]
  · by_cases g : a = 17
    · simp [g]
    · simp [h, g]

def bdH (p : Pk) (n : Int) : List Int := [69, 0] ++ nb n 2 ++ [0, 0, 64, 0, p.tl % 256, p.pr % 256]
def bdE (p : Pk) : List Int := nb p.fr 4 ++ nb p.to_ 4
def bdB (p : Pk) (n : Int) : List Int := bdH p n ++ [0, 0] ++ bdE p
def bdS (p : Pk) (n : Int) : Int := 65535 - foldv (ws (bdB p n) (bdB p n).length)
def bdR (p : Pk) (t : List Int) : List Int := bdH p (20 + (t.length : Int)) ++ nb (bdS p (20 + (t.length : Int))) 2 ++ bdE p ++ t
def bdP (p : Pk) : List Int := if hasP p.pr then nb p.fp 2 ++ nb p.tp 2 else []
def bdF (p : Pk) : Int × List Int := if pktF p = 0 then (0, bdR p (bdP p ++ p.ld)) else (pktF p, [])
theorem bdB_len (p : Pk) (n : Int) : (bdB p n).length = 20 := by
  unfold bdB bdH bdE
  simp only [List.length_append, nb_length, List.length_cons, List.length_nil]
theorem bdP_len (p : Pk) : (bdP p).length ≤ 4 := by
  unfold bdP
  split
  · simp only [List.length_append, nb_length]
    omega
  · simp
theorem bdB_bytes (p : Pk) (n : Int) : ∀ x ∈ bdB p n, 0 ≤ x ∧ x ≤ 255 := by
  intro x hx
  unfold bdB bdH bdE at hx
  simp only [List.mem_append, List.mem_cons, List.not_mem_nil, or_false] at hx
  rcases hx with (((h | h) | h) | h) | h | h
  · omega
  · exact nb_bytes _ _ _ h
  · omega
  · omega
  · exact nb_bytes _ _ _ h
  · exact nb_bytes _ _ _ h
theorem bdR_len (p : Pk) (t : List Int) : (bdR p t).length = 20 + t.length := by
  unfold bdR bdH bdE
  simp only [List.length_append, nb_length, List.length_cons, List.length_nil]
theorem pktF_ld {p : Pk} (h : pktF p = 0) : p.ld.length ≤ 200 := by
  unfold pktF at h
  split at h
  · split at h
    · split at h
      · exact absurd h (by decide)
      · omega
    · exact absurd h (by decide)
  · exact absurd h (by decide)
theorem bdF_len (p : Pk) : (bdF p).2.length ≤ 1000 := by
  unfold bdF
  split
  · rename_i h
    have := pktF_ld h
    have := bdP_len p
    simp only [bdR_len, List.length_append]
    omega
  · simp

theorem u64_small (x : Int) (h0 : 0 ≤ x) (h : x < 18446744073709551616) : IntKind.u64.wrap x = x := by
  simp [IntKind.wrap, IntKind.signed, IntKind.bits]
  omega
theorem shr8 (n : Int) (i : Nat) (h : i ≤ 7) : shr .i64 n (IntKind.u64.wrap (wrap64 (8 * (i : Int)))) = n / 256 ^ i := by
  rw [w64 (by omega) (by omega)]
  have e : IntKind.u64.wrap (8 * (i : Int)) = 8 * (i : Int) := u64_small _ (by omega) (by omega)
  rw [e]
  unfold shr
  have e2 : min (8 * (i : Int)).toNat IntKind.i64.bits = 8 * i := by
    simp [IntKind.bits]
    omega
  rw [e2, Int.pow_mul]
  rfl
theorem ev_spec_l1Bytes_loop (n : Int) : ∀ (i : Nat) (b : List Int), i ≤ 8 → b.length + i ≤ 1000 → Ev (fun k => spec_l1Bytes.l0 k n b ((i : Int) - 1)) (b ++ nb n i) := by
  intro i
  induction i with
  | zero =>
    intro b _ _
    refine Ev.step (fun k => by rw [spec_l1Bytes.l0, if_neg (by omega)]) ?_
    rw [nb, List.append_nil]
    exact ev_some _
  | succ i ih =>
    intro b hi hb
    have hs := shr8 n i (by omega)
    have hw : 0 ≤ IntKind.u64.wrap (wrap64 (8 * (i : Int))) := by
      rw [w64 (by omega) (by omega), u64_small _ (by omega) (by omega)]
      omega
    have e : (((i + 1 : Nat) : Int) - 1) = (i : Int) := by omega
    refine Ev.step (fun k => by rw [e, spec_l1Bytes.l0, if_pos (show (i : Int) ≥ 0 by omega), if_pos hw, if_pos (show b.length < 140737488355328 by omega), hs, w64 (by omega) (by omega)]) ?_
    rw [nb_cons]
    have h := ih (b ++ [n / 256 ^ i % 256]) (by omega) (by simp; omega)
    rw [List.append_assoc] at h
    exact h
theorem ev_spec_l1Bytes (n : Int) (s : Nat) (h : s ≤ 8) : Ev (fun k => spec_l1Bytes.f k n s) (nb n s) := by
  unfold spec_l1Bytes.f
  rw [w64 (by omega) (by omega)]
  exact ev_spec_l1Bytes_loop n s [] h (by simp; omega)

theorem ev_spec_l1Fold : ∀ (d : Nat) (n : Int), 0 ≤ n → n < d → n ≤ 4611686018427387904 → Ev (fun k => spec_l1Fold.l0 k n) (foldv n) := by
  intro d
  induction d with
  | zero => intro n h0 hd; omega
  | succ d ih =>
    intro n h0 hd hb
    by_cases h : n > 65535
    · refine Ev.step (fun k => by rw [spec_l1Fold.l0, if_pos h]) ?_
      rw [tmod_pos h0, tdiv_pos h0, w64 (x := n / 65536) (by omega) (by omega), w64 (by omega) (by omega), ← foldv_step n (by omega)]
      exact ih _ (by omega) (by omega) (by omega)
    · refine Ev.step (fun k => by rw [spec_l1Fold.l0, if_neg h]) ?_
      rw [foldv_low (by omega)]
      exact ev_some n
theorem ev_spec_l1Fold_f {n : Int} (h0 : 0 ≤ n) (hb : n ≤ 4611686018427387904) : Ev (fun k => spec_l1Fold.f k n) (foldv n) :=
  ev_spec_l1Fold (n.toNat + 1) n h0 (by omega) hb

theorem ev_spec_SumWords_loop (l : List Int) (hl : l.length ≤ 68719476736) (hb : ∀ x ∈ l, 0 ≤ x ∧ x ≤ 255) : ∀ (d i : Nat), l.length ≤ i + d → i ≤ l.length + 1 → i % 2 = 0 → (i = l.length + 1 → l.length % 2 = 1) → Ev (fun k => spec_SumWords.l0 k l (foldv (ws l (min i l.length))) i) (65535 - foldv (ws l l.length)) := by
  intro d
  induction d using Nat.strongRecOn with
  | _ d ih =>
    intro i hd hi hp hq
    by_cases hlt : i < l.length
    · have h := ws_range hb i (by omega)
      have hf := foldv_range h.1
      have hx := hb _ (rd_mem l i (by omega) (by omega))
      have e0 : min i l.length = i := by omega
      have hs := ih (d - 1) (by omega) (i + 2) (by omega) (by omega) (by omega) (by omega)
      have hw : ws l (i + 1) = ws l i + 256 * rd l i := by rw [ws, if_pos hp]
      have c1 : wrap64 ((i : Int) + 1) = (i : Int) + 1 := w64 (by omega) (by omega)
      have c2 : wrap64 ((i : Int) + 2) = (i : Int) + 2 := w64 (by omega) (by omega)
      rw [e0]
      by_cases hl2 : i + 1 < l.length
      · have hy := hb _ (rd_mem l ((i : Int) + 1) (by omega) (by omega))
        have hw2 : ws l (i + 2) = ws l i + 256 * rd l i + rd l ((i : Int) + 1) := by
          rw [ws, if_neg (by omega), hw]
          rfl
        refine Ev.step (fun k => by rw [spec_SumWords.l0, if_pos (by omega), if_pos (by omega), c1, if_pos (by omega), if_pos (by omega)]) ?_
        rw [w64 (x := rd l i) (by omega) (by omega), w64 (x := 256 * rd l i) (by omega) (by omega), w64 (x := rd l ((i : Int) + 1)) (by omega) (by omega), w64 (x := foldv (ws l i) + 256 * rd l i) (by omega) (by omega), w64 (by omega) (by omega), c2]
        refine Ev.bind (ev_spec_l1Fold_f (by omega) (by omega)) ?_
        rw [show foldv (ws l i) + 256 * rd l i + rd l ((i : Int) + 1) = foldv (ws l i) + (256 * rd l i + rd l ((i : Int) + 1)) from by omega, foldv_add _ _ h.1 (by omega)]
        rw [show min (i + 2) l.length = i + 2 from by omega, hw2] at hs
        rw [show ws l i + (256 * rd l i + rd l ((i : Int) + 1)) = ws l i + 256 * rd l i + rd l ((i : Int) + 1) from by omega]
        exact hs
      · refine Ev.step (fun k => by rw [spec_SumWords.l0, if_pos (by omega), if_pos (by omega), c1, if_neg (by omega)]) ?_
        rw [w64 (x := rd l i) (by omega) (by omega), w64 (x := 256 * rd l i) (by omega) (by omega), w64 (by omega) (by omega), c2]
        refine Ev.bind (ev_spec_l1Fold_f (by omega) (by omega)) ?_
        rw [foldv_add _ _ h.1 (by omega)]
        rw [show min (i + 2) l.length = i + 1 from by omega, hw] at hs
        exact hs
    · have h := ws_range hb l.length (by omega)
      have hf := foldv_range h.1
      refine Ev.step (fun k => by rw [spec_SumWords.l0, if_neg (by omega)]) ?_
      rw [show min i l.length = l.length from by omega, w64 (by omega) (by omega)]
      exact ev_some _
theorem ev_spec_SumWords {l : List Int} (hl : l.length ≤ 68719476736) (hb : ∀ x ∈ l, 0 ≤ x ∧ x ≤ 255) : Ev (fun k => spec_SumWords.f k l) (65535 - foldv (ws l l.length)) := by
  have h := ev_spec_SumWords_loop l hl hb l.length 0 (by omega) (by omega) (by omega) (by omega)
  rw [Nat.zero_min, show ws l 0 = 0 from rfl, foldv_low (by omega)] at h
  exact h

theorem ev_l2Build_j0 (p : Pk) (t : List Int) (ht : t.length ≤ 1000) : Ev (fun k => spec_l2Build.j0 k t p.fr p.to_ p.pr p.tl p.fp p.tp p.ld) (bdR p t) := by
  refine Ev.step (fun k => by rw [spec_l2Build.j0, w64 (by omega) (by omega)]) ?_
  have hs := ev_spec_SumWords (l := bdB p (20 + (t.length : Int))) (by rw [bdB_len]; omega) (bdB_bytes p _)
  refine ev_opt rfl (Ev.bind (ev_spec_l1Bytes _ 2 (by omega)) (ev_pos ?_ (ev_opt rfl (ev_opt rfl (ev_pos ?_ (ev_opt rfl (Ev.bind (ev_spec_l1Bytes p.fr 4 (by omega)) (Ev.bind (ev_spec_l1Bytes p.to_ 4 (by omega)) (ev_pos ?_ (ev_opt rfl (ev_opt rfl (ev_pos ?_ (ev_opt rfl (ev_opt rfl (ev_pos ?_ (ev_opt rfl (ev_pos ?_ (ev_opt rfl (ev_pos ?_ (ev_opt rfl (Ev.bind hs (Ev.bind (ev_spec_l1Bytes _ 2 (by omega)) (ev_pos ?_ (ev_opt rfl (ev_pos ?_ (ev_opt rfl (ev_pos ?_ (ev_some _))))))))))))))))))))))))))))
  all_goals
    simp only [List.length_append, nb_length, List.length_cons, List.length_nil]
    omega
theorem ev_spec_l2Build (p : Pk) (hl : p.ld.length ≤ 200) : Ev (fun k => spec_l2Build.f k p.fr p.to_ p.pr p.tl p.fp p.tp p.ld) (bdR p (bdP p ++ p.ld)) := by
  have hp := bdP_len p
  unfold spec_l2Build.f
  refine ev_opt rfl (ev_pos (by simp only [List.length_nil]; omega) (ev_opt rfl (ev_opt (q_spec_HasPorts p.pr) ?_)))
  by_cases h : hasP p.pr
  · refine ev_pos (decide_eq_true h) (Ev.bind (ev_spec_l1Bytes _ 2 (by omega)) (Ev.bind (ev_spec_l1Bytes _ 2 (by omega)) (ev_pos ?_ (ev_opt rfl (ev_pos ?_ ?_)))))
    · simp only [nb_length]
      omega
    · simp only [List.length_append, List.length_nil, nb_length]
      omega
    · have e : bdP p = nb p.fp 2 ++ nb p.tp 2 := if_pos h
      rw [e] at hp ⊢
      exact ev_l2Build_j0 p (nb p.fp 2 ++ nb p.tp 2 ++ p.ld) (by rw [List.length_append]; omega)
  · refine ev_neg (by simpa [hasP] using h) ?_
    have e : bdP p = [] := if_neg h
    rw [e]
    exact ev_l2Build_j0 p ([] ++ p.ld) (by rw [List.length_append, List.length_nil]; omega)

theorem ev_impl_put_loop : ∀ (i : Nat) (n : Int) (b : List Int), i ≤ b.length → b.length ≤ 1000 → Ev (fun k => impl_put.l0 k n b ((i : Int) - 1)) (nb n i ++ b.drop i) := by
  intro i
  induction i with
  | zero =>
    intro n b _ _
    refine Ev.step (fun k => by rw [impl_put.l0, if_neg (by omega)]) ?_
    rw [nb, List.nil_append, List.drop_zero]
    exact ev_some _
  | succ i ih =>
    intro n b hi hb
    have e : (((i + 1 : Nat) : Int) - 1) = (i : Int) := by omega
    refine Ev.step (fun k => by rw [e, impl_put.l0, if_pos (by omega), if_pos (by omega), if_pos (by omega), Int.toNat_natCast, w64 (by omega) (by omega)]) ?_
    have h := ih (n / 256) (b.set i (n % 256)) (by simp; omega) (by simpa using hb)
    refine ev_to h ?_
    rw [nb, List.append_assoc]
    congr 1
    rw [List.drop_eq_getElem_cons (by simp; omega : i < (b.set i (n % 256)).length), List.getElem_set_self, List.drop_set_of_lt (by omega)]
    rfl
theorem ev_impl_put (n : Int) (s : Nat) (h : s ≤ 8) : Ev (fun k => impl_put.f k n s) (nb n s) := by
  unfold impl_put.f
  refine ev_pos (by omega) (ev_pos (by omega) ?_)
  rw [w64 (by omega) (by omega), Int.toNat_natCast]
  have h := ev_impl_put_loop s n (List.replicate s 0) (by simp) (by simp; omega)
  refine ev_to h ?_
  simp

theorem ev_impl_fold : ∀ (d : Nat) (n : Int), 0 ≤ n → n < d → n ≤ 4611686018427387904 → Ev (fun k => impl_fold.l0 k n) (foldv n) := by
  intro d
  induction d with
  | zero => intro n h0 hd; omega
  | succ d ih =>
    intro n h0 hd hb
    by_cases h : n ≥ 65536
    · refine Ev.step (fun k => by rw [impl_fold.l0, if_pos h]) ?_
      rw [tmod_pos h0, tdiv_pos h0, w64 (x := n / 65536) (by omega) (by omega), w64 (by omega) (by omega), ← foldv_step n h]
      exact ih _ (by omega) (by omega) (by omega)
    · refine Ev.step (fun k => by rw [impl_fold.l0, if_neg h]) ?_
      rw [foldv_low (by omega)]
      exact ev_some n
theorem ev_impl_fold_f {n : Int} (h0 : 0 ≤ n) (hb : n ≤ 4611686018427387904) : Ev (fun k => impl_fold.f k n) (foldv n) :=
  ev_impl_fold (n.toNat + 1) n h0 (by omega) hb

theorem ev_impl_SumWords_loop (l : List Int) (hl : l.length ≤ 68719476736) (hb : ∀ x ∈ l, 0 ≤ x ∧ x ≤ 255) : ∀ (d i : Nat), i + d = l.length → Ev (fun k => impl_SumWords.l0 k (ws l i) l l.length i) (65535 - foldv (ws l l.length)) := by
  intro d
  induction d with
  | zero =>
    intro i hi
    obtain rfl : i = l.length := by omega
    have h := ws_range hb l.length (by omega)
    have hf := foldv_range h.1
    refine Ev.step (fun k => by rw [impl_SumWords.l0, if_neg (by omega)]) ?_
    refine Ev.bind (ev_impl_fold_f h.1 (by omega)) ?_
    rw [w64 (by omega) (by omega)]
    exact ev_some _
  | succ d ih =>
    intro i hi
    have h := ws_range hb i (by omega)
    have hx := hb _ (rd_mem l i (by omega) (by omega))
    have e : Int.tmod (i : Int) 2 = (i : Int) % 2 := tmod_pos (by omega)
    have hs := ih (i + 1) (by omega)
    rw [ws] at hs
    by_cases hp : i % 2 = 0
    · refine Ev.step (fun k => by rw [impl_SumWords.l0, if_pos (by omega), if_pos (by omega), if_pos (by omega), if_pos (by omega)]) ?_
      rw [if_pos hp] at hs
      rw [w64 (x := rd l i) (by omega) (by omega), w64 (x := 256 * rd l i) (by omega) (by omega), w64 (x := (i : Int) + 1) (by omega) (by omega), w64 (by omega) (by omega)]
      exact hs
    · refine Ev.step (fun k => by rw [impl_SumWords.l0, if_pos (by omega), if_pos (by omega), if_pos (by omega), if_neg (by omega)]) ?_
      rw [if_neg hp] at hs
      rw [w64 (x := rd l i) (by omega) (by omega), w64 (x := (i : Int) + 1) (by omega) (by omega), w64 (by omega) (by omega)]
      exact hs
theorem ev_impl_SumWords {l : List Int} (hl : l.length ≤ 68719476736) (hb : ∀ x ∈ l, 0 ≤ x ∧ x ≤ 255) : Ev (fun k => impl_SumWords.f k l) (65535 - foldv (ws l l.length)) :=
  ev_impl_SumWords_loop l hl hb l.length 0 (by omega)

theorem q_concat2 (a b : List Int) (h : a.length + b.length ≤ 1000000) : slices_Concat_byte_byte.f [a, b] = some (a ++ b) := by
  unfold slices_Concat_byte_byte.f
  rw [if_pos ⟨by simp, by simp [slices_Concat_byte_byte.s0]; omega⟩]
  simp
theorem q_concat3 (a b c : List Int) (h : a.length + b.length + c.length ≤ 1000000) : slices_Concat_byte_byte.f [a, b, c] = some (a ++ b ++ c) := by
  unfold slices_Concat_byte_byte.f
  rw [if_pos ⟨by simp, by simp [slices_Concat_byte_byte.s0]; omega⟩]
  simp

theorem q_concat5 (a b c d e : List Int) (h : a.length + b.length + c.length + d.length + e.length ≤ 1000000) : slices_Concat_byte_byte.f [a, b, c, d, e] = some (a ++ b ++ c ++ d ++ e) := by
  unfold slices_Concat_byte_byte.f
  rw [if_pos ⟨by simp, by simp [slices_Concat_byte_byte.s0]; omega⟩]
  simp
theorem bd_head (p : Pk) (n : Int) : [69, 0] ++ nb n 2 ++ [0, 0, 64, 0, p.tl % 256, p.pr % 256, 0, 0] ++ nb p.fr 4 ++ nb p.to_ 4 = bdB p n := by
  unfold bdB bdH bdE
  simp
theorem bd_copy (p : Pk) (n : Int) (c : List Int) : (bdB p n).take 10 ++ (c ++ (bdB p n).drop 12) = bdH p n ++ c ++ bdE p := by
  have e : bdB p n = bdH p n ++ ([0, 0] ++ bdE p) := by
    unfold bdB
    rw [List.append_assoc]
  have hl : (bdH p n).length = 10 := by
    unfold bdH
    simp only [List.length_append, nb_length, List.length_cons, List.length_nil]
  rw [e, List.take_append_of_le_length (by omega), List.take_of_length_le (by omega), List.drop_append, hl, List.drop_of_length_le (by omega), List.append_assoc]
  simp
theorem ev_impl_build (p : Pk) (hl : p.ld.length ≤ 200) : Ev (fun k => impl_build.f k p.fr p.to_ p.pr p.tl p.fp p.tp p.ld) (bdR p (bdP p ++ p.ld)) := by
  have hp := bdP_len p
  unfold impl_build.f
  refine ev_opt (q_impl_HasPorts p.pr) ?_
  have h1 : Ev (fun k => impl_build.s k (decide (hasP p.pr)) p.fp p.tp) (bdP p) := by
    unfold impl_build.s bdP
    by_cases h : hasP p.pr
    · rw [if_pos h]
      refine ev_pos (decide_eq_true h) (Ev.bind (ev_impl_put _ 2 (by omega)) (Ev.bind (ev_impl_put _ 2 (by omega)) (ev_fix (q_concat2 _ _ ?_))))
      simp only [nb_length]
      omega
    · rw [if_neg h]
      exact ev_neg (by simpa using h) (ev_some _)
  refine Ev.bind h1 ?_
  unfold impl_build.rest
  have hs := ev_impl_SumWords (l := bdB p (20 + ((bdP p).length : Int) + (p.ld.length : Int))) (by rw [bdB_len]; omega) (bdB_bytes p _)
  refine ev_pos (by omega) (ev_pos (by omega) (Ev.bind (ev_impl_put _ 2 (by omega)) (Ev.bind (ev_impl_put _ 4 (by omega)) (Ev.bind (ev_impl_put _ 4 (by omega)) (ev_opt (q_concat5 _ _ _ _ _ ?_) ?_)))))
  · simp only [nb_length, List.length_cons, List.length_nil]
    omega
  rw [bd_head p]
  unfold impl_build.fin
  refine ev_pos (bdB_len p _) (Ev.bind hs (Ev.bind (ev_impl_put _ 2 (by omega)) (ev_pos (nb_length _ _) ?_)))
  rw [bd_copy]
  refine ev_to (ev_fix (q_concat3 _ _ _ ?_)) ?_
  · unfold bdH bdE
    simp only [List.length_append, nb_length, List.length_cons, List.length_nil]
    omega
  · have en : (20 + ((bdP p).length : Int) + (p.ld.length : Int)) = 20 + (((bdP p ++ p.ld).length : Nat) : Int) := by
      rw [List.length_append]
      omega
    rw [en]
    unfold bdR bdS
    simp only [List.append_assoc]

theorem q_spec_l1In (a b c : Int) : spec_l1In.f a b c = some (decide (b ≤ a ∧ a ≤ c)) := by
  unfold spec_l1In.f
  by_cases h : b ≤ a
  · simp [h]
  · simp [h]

theorem q_spec_PacketFault_j1 (k : Nat) (b : Bool) (p : Pk) : spec_PacketFault.j1 (k + 1) b p.fr p.to_ p.pr p.tl p.fp p.tp p.ld = some (if b = true then 1 else if 200 < p.ld.length then 2 else 0) := by
  rw [spec_PacketFault.j1]
  cases b
  · by_cases h : 200 < p.ld.length
    · simp [h]
      omega
    · simp [h]
      omega
  · simp
theorem q_spec_PacketFault_j0 (k : Nat) (b : Bool) (p : Pk) : spec_PacketFault.j0 (k + 2) b p.fr p.to_ p.pr p.tl p.fp p.tp p.ld = some (if b = true then 3 else if pktPorts p then (if 200 < p.ld.length then 2 else 0) else 1) := by
  rw [spec_PacketFault.j0]
  simp only [q_spec_HasPorts, q_spec_PacketFault_j1, Option.bind_some, decide_eq_true_eq]
  unfold pktPorts hasP
  cases b
  · by_cases h2 : p.pr = 6 ∨ p.pr = 17
    · simp [h2]
    · by_cases h3 : p.fp = 0 <;> by_cases h4 : p.tp = 0 <;> simp [h2, h3, h4]
  · simp
theorem q_spec_PacketFault (k : Nat) (p : Pk) : spec_PacketFault.f (k + 2) p.fr p.to_ p.pr p.tl p.fp p.tp p.ld = some (pktF p) := by
  unfold spec_PacketFault.f spec_l2Address.f spec_l2Port.f
  simp only [q_spec_l1In, q_spec_PacketFault_j0, Option.bind_some, decide_eq_true_eq]
  unfold pktF pktOk
  by_cases h1 : 0 ≤ p.fr ∧ p.fr ≤ 4294967295 <;> by_cases h2 : 0 ≤ p.to_ ∧ p.to_ ≤ 4294967295 <;> by_cases h3 : 1 ≤ p.pr ∧ p.pr ≤ 255 <;> by_cases h4 : 1 ≤ p.tl ∧ p.tl ≤ 255 <;> by_cases h5 : 0 ≤ p.fp ∧ p.fp ≤ 65535 <;> by_cases h6 : 0 ≤ p.tp ∧ p.tp ≤ 65535 <;> simp [h1, h2, h3, h4, h5, h6]
theorem ev_spec_PacketFault (p : Pk) : Ev (fun k => spec_PacketFault.f k p.fr p.to_ p.pr p.tl p.fp p.tp p.ld) (pktF p) := ev_succ2 (fun k => q_spec_PacketFault k p)

theorem q_impl_in (a b c : Int) : impl_in.f a b c = some (decide (b ≤ a ∧ a ≤ c)) := by
  unfold impl_in.f
  by_cases h : b ≤ a
  · simp [h]
  · simp [h]

theorem q_impl_PacketFault_j1 (k : Nat) (b : Bool) (p : Pk) : impl_PacketFault.j1 (k + 1) b p.fr p.to_ p.pr p.tl p.fp p.tp p.ld = some (if b = true then 1 else if 200 < p.ld.length then 2 else 0) := by
  rw [impl_PacketFault.j1]
  cases b
  · by_cases h : 200 < p.ld.length
    · simp [h]
      omega
    · simp [h]
      omega
  · simp
theorem q_impl_PacketFault_j0 (k : Nat) (b : Bool) (p : Pk) : impl_PacketFault.j0 (k + 2) b p.fr p.to_ p.pr p.tl p.fp p.tp p.ld = some (if b = true then 3 else if pktPorts p then (if 200 < p.ld.length then 2 else 0) else 1) := by
  rw [impl_PacketFault.j0]
  simp only [q_impl_HasPorts, q_impl_PacketFault_j1, Option.bind_some, decide_eq_true_eq]
  unfold pktPorts hasP
  cases b
  · by_cases h2 : p.pr = 6 ∨ p.pr = 17
    · simp [h2]
    · by_cases h3 : p.fp = 0 <;> by_cases h4 : p.tp = 0 <;> simp [h2, h3, h4]
  · simp
theorem q_impl_PacketFault (k : Nat) (p : Pk) : impl_PacketFault.f (k + 2) p.fr p.to_ p.pr p.tl p.fp p.tp p.ld = some (pktF p) := by
  unfold impl_PacketFault.f impl_isAddress.f impl_isPort.f
  simp only [q_impl_in, q_impl_PacketFault_j0, Option.bind_some, decide_eq_true_eq]
  unfold pktF pktOk
  by_cases h1 : 0 ≤ p.fr ∧ p.fr ≤ 4294967295 <;> by_cases h2 : 0 ≤ p.to_ ∧ p.to_ ≤ 4294967295 <;> by_cases h3 : 1 ≤ p.pr ∧ p.pr ≤ 255 <;> by_cases h4 : 1 ≤ p.tl ∧ p.tl ≤ 255 <;> by_cases h5 : 0 ≤ p.fp ∧ p.fp ≤ 65535 <;> by_cases h6 : 0 ≤ p.tp ∧ p.tp ≤ 65535 <;> simp [h1, h2, h3, h4, h5, h6]
theorem ev_impl_PacketFault (p : Pk) : Ev (fun k => impl_PacketFault.f k p.fr p.to_ p.pr p.tl p.fp p.tp p.ld) (pktF p) := ev_succ2 (fun k => q_impl_PacketFault k p)

theorem q_szPacket (a b c d e f : Int) {l : List Int} (h : l.length ≤ 1048576) : laws_szPacket.f a b c d e f l 1048576 = some (1048576 - (l.length : Int)) := by
  unfold laws_szPacket.f laws_szByteS.f
  rw [w64 (by omega) (by omega), if_neg (by omega), Option.bind_some, if_neg (by omega)]
theorem q_szPacket_big (a b c d e f : Int) {l : List Int} (h : ¬ l.length ≤ 1048576) (hm : l.length ≤ maxLen) : laws_szPacket.f a b c d e f l 1048576 = some (-1) := by
  unfold laws_szPacket.f laws_szByteS.f
  unfold maxLen at hm
  rw [w64 (by omega) (by omega), if_pos (by omega), Option.bind_some, if_pos (by omega)]

theorem ev_toByteS_loop (a : List Int) (hn : a.length ≤ 140737488355328) : ∀ (d i : Nat) (b : List Int), i + d = a.length → b.length = a.length → b.take i = a.take i → Ev (fun k => laws_toByteS.l0 k a b i) a := by
  intro d
  induction d with
  | zero =>
    intro i b hi hl ht
    refine Ev.step (fun k => by rw [laws_toByteS.l0, if_neg (by omega)]) ?_
    obtain rfl : i = a.length := by omega
    rw [take_full hl ht]
    exact ev_some a
  | succ d ih =>
    intro i b hi hl ht
    refine Ev.step (fun k => by rw [laws_toByteS.l0, if_pos (by omega), if_pos (by omega), if_pos (by omega)]) ?_
    rw [w64 (by omega) (by omega), Int.toNat_natCast]
    exact ih (i + 1) _ (by omega) (by simpa using hl) (set_take (by omega) hl ht (rd_nat a i (by omega)))
theorem ev_toByteS {a : List Int} (hn : a.length ≤ 140737488355328) : Ev (fun k => laws_toByteS.f k a) a := by
  unfold laws_toByteS.f
  refine ev_pos (by omega) (ev_pos (by omega) ?_)
  exact ev_toByteS_loop a hn a.length 0 _ (by omega) (by simp) (by simp)

theorem ev_toPacket (a b c d e f : Int) {l : List Int} (h : l.length ≤ 1048576) : Ev (fun k => laws_toPacket.f k a b c d e f l) (a, b, c, d, e, f, l) := by
  unfold laws_toPacket.f
  exact Ev.bind (ev_toByteS (by omega)) (ev_some _)

theorem ev_eqByteS_loop (a b : List Int) (hn : a.length ≤ 140737488355328) (hl : b.length = a.length) : ∀ (d i : Nat), i + d = a.length → b.take i = a.take i → Ev (fun k => laws_eqByteS.l0 k a b i) (decide (a = b)) := by
  intro d
  induction d with
  | zero =>
    intro i hi ht
    refine Ev.step (fun k => by rw [laws_eqByteS.l0, if_neg (by omega)]) ?_
    obtain rfl : i = a.length := by omega
    rw [take_full hl ht]
    simpa using ev_some true
  | succ d ih =>
    intro i hi ht
    by_cases he : rd a i = rd b i
    · refine Ev.step (fun k => by rw [laws_eqByteS.l0, if_pos (by omega), if_pos (by omega), if_pos (by omega), if_pos he]) ?_
      rw [w64 (by omega) (by omega)]
      rw [rd_nat a i (by omega), rd_nat b i (by omega)] at he
      exact ih (i + 1) (by omega) (take_next (by omega) (by omega) ht he.symm)
    · refine Ev.step (fun k => by rw [laws_eqByteS.l0, if_pos (by omega), if_pos (by omega), if_pos (by omega), if_neg he]) ?_
      have : a ≠ b := fun h => he (by rw [h])
      simpa [this] using ev_some false
theorem ev_eqByteS {a b : List Int} (hn : a.length ≤ 140737488355328) : Ev (fun k => laws_eqByteS.f k a b) (decide (a = b)) := by
  unfold laws_eqByteS.f
  by_cases h : (a.length : Int) = b.length
  · exact ev_pos h (ev_eqByteS_loop a b hn (by omega) a.length 0 (by omega) (by simp))
  · refine ev_neg h ?_
    have : a ≠ b := fun h' => h (by rw [h'])
    simpa [this] using ev_some false
theorem ev_eqByteS_refl {a : List Int} (hn : a.length ≤ 140737488355328) : Ev (fun k => laws_eqByteS.f k a a) true := by
  simpa using ev_eqByteS (b := a) hn

theorem ev_eqPacket (a b c d e f : Int) {l : List Int} (h : l.length ≤ 1048576) : Ev (fun k => laws_eqPacket.f k a b c d e f l a b c d e f l) true := by
  unfold laws_eqPacket.f
  refine ev_pos rfl (ev_pos rfl (ev_pos rfl (ev_pos rfl (ev_pos rfl (ev_pos rfl ?_)))))
  exact Ev.bind (ev_eqByteS_refl (by omega)) (ev_pos rfl (ev_some _))

theorem ev_markByteS_loop : ∀ (d i : Nat) (b : List Int), i + d = b.length → b.length ≤ 4294967296 → (∀ j : Nat, j < i → b[j]? = some ((1 + (j : Int)) % 256)) →
    ∃ r, Ev (fun k => laws_markByteS.l0 k b (1 + (i : Int)) i) (1 + (b.length : Int), r) ∧ r.length = b.length ∧ ∀ j : Nat, j < b.length → r[j]? = some ((1 + (j : Int)) % 256) := by
  intro d
  induction d with
  | zero =>
    intro i b hi hl hj
    obtain rfl : i = b.length := by omega
    refine ⟨b, Ev.step (fun k => by rw [laws_markByteS.l0, if_neg (by omega)]) ?_, rfl, hj⟩
    exact ev_some _
  | succ d ih =>
    intro i b hi hl hj
    obtain ⟨r, hr, hrl, hrj⟩ := ih (i + 1) (b.set i ((1 + (i : Int)) % 256)) (by simp; omega) (by simpa using hl) (fun j h => by
      rw [List.getElem?_set]
      by_cases e : i = j
      · subst e
        rw [if_pos rfl, if_pos (by omega)]
      · rw [if_neg e]
        exact hj j (by omega))
    rw [List.length_set] at hr hrl hrj
    refine ⟨r, Ev.step (fun k => by rw [laws_markByteS.l0, if_pos (by omega), if_pos (by omega), Int.toNat_natCast, w64 (by omega) (by omega), w64 (by omega) (by omega)]) ?_, hrl, hrj⟩
    rw [show 1 + (i : Int) + 1 = 1 + ((i + 1 : Nat) : Int) from by omega]
    exact hr
theorem ev_heldByteS_loop (r : List Int) (hl : r.length ≤ 4294967296) (hj : ∀ j : Nat, j < r.length → r[j]? = some ((1 + (j : Int)) % 256)) : ∀ i, i ≤ r.length → Ev (fun k => laws_heldByteS.l0 k r (1 + (i : Int)) i) (1 + (r.length : Int)) := by
  refine down r.length ?_ ?_
  · refine Ev.step (fun k => by rw [laws_heldByteS.l0, if_neg (by omega)]) ?_
    exact ev_some _
  · intro i hi ih
    have h1 := hj i hi
    rw [List.getElem?_eq_getElem hi] at h1
    have h2 : rd r (i : Int) = (1 + (i : Int)) % 256 := by
      rw [rd_nat r i hi]
      exact Option.some.inj h1
    refine Ev.step (fun k => by rw [laws_heldByteS.l0, if_pos (by omega), if_pos (by omega), if_pos h2, w64 (by omega) (by omega), w64 (by omega) (by omega)]) ?_
    rw [show 1 + (i : Int) + 1 = 1 + ((i + 1 : Nat) : Int) from by omega]
    exact ih
/-- Marks laid into a row of bytes are found there again. -/
theorem ev_markheldByteS (l : List Int) (hl : l.length ≤ 4294967296) : ∃ r, Ev (fun k => laws_markByteS.f k l 1) (1 + (l.length : Int), r) ∧ Ev (fun k => laws_heldByteS.f k r 1) (1 + (l.length : Int)) := by
  obtain ⟨r, hr, hrl, hrj⟩ := ev_markByteS_loop l.length 0 l (by omega) hl (fun j h => by omega)
  have h := ev_heldByteS_loop r (by omega) (fun j h => hrj j (by omega)) 0 (by omega)
  rw [hrl] at h
  exact ⟨r, hr, h⟩

theorem ev_markheldBytesResult (c : Int) (l : List Int) (hl : l.length ≤ 4294967296) : ∃ r, Ev (fun k => laws_markBytesResult.f k c l 1) (1 + (l.length : Int), r) ∧ Ev (fun k => laws_heldBytesResult.f k c r 1) (1 + (l.length : Int)) := by
  obtain ⟨r, h1, h2⟩ := ev_markheldByteS l hl
  refine ⟨r, ?_, ?_⟩
  · unfold laws_markBytesResult.f
    exact Ev.bind h1 (ev_some _)
  · unfold laws_heldBytesResult.f
    exact Ev.bind h2 (ev_neg (by omega) (ev_some _))
theorem ev_eqBytesResult (c : Int) (l : List Int) (hl : l.length ≤ 4294967296) : Ev (fun k => laws_eqBytesResult.f k c l c l) true := by
  unfold laws_eqBytesResult.f
  exact ev_pos rfl (Ev.bind (ev_eqByteS_refl (by omega)) (ev_pos rfl (ev_some _)))

theorem ev_markPacket (a b c d e f : Int) (l : List Int) (hl : l.length ≤ 4294967296) : ∃ r, Ev (fun k => laws_markPacket.f k a b c d e f l 1) (1 + (l.length : Int), r) := by
  obtain ⟨r, h1, _⟩ := ev_markheldByteS l hl
  refine ⟨r, ?_⟩
  unfold laws_markPacket.f
  exact Ev.bind h1 (ev_some _)

theorem ev_spec_BuildPacket (p : Pk) : Ev (fun k => spec_BuildPacket.f k p.fr p.to_ p.pr p.tl p.fp p.tp p.ld) (bdF p) := by
  unfold spec_BuildPacket.f bdF
  exact Ev.bind (ev_spec_PacketFault p) (ev_cond (fun h => Ev.bind (ev_spec_l2Build p (pktF_ld h)) (ev_some _)) (fun _ => ev_some _))
theorem ev_impl_BuildPacket (p : Pk) : Ev (fun k => impl_BuildPacket.f k p.fr p.to_ p.pr p.tl p.fp p.tp p.ld) (bdF p) := by
  unfold impl_BuildPacket.f bdF
  exact Ev.bind (ev_impl_PacketFault p) (ev_cond (fun h => Ev.bind (ev_impl_build p (pktF_ld h)) (ev_some _)) (fun _ => ev_some _))
theorem FnExactBuildPacket : laws_FnExactBuildPacket.Pure := by
  intro a b c d e f l
  intro _ _ _ _ _ _ hm _
  apply Ev.rounds
  unfold laws_FnExactBuildPacket.f
  by_cases h : l.length ≤ 1048576
  · have hs := ev_spec_BuildPacket ⟨a, b, c, d, e, f, l⟩
    have hi := ev_impl_BuildPacket ⟨a, b, c, d, e, f, l⟩
    have hlen := bdF_len ⟨a, b, c, d, e, f, l⟩
    generalize bdF ⟨a, b, c, d, e, f, l⟩ = z at *
    obtain ⟨z1, z2⟩ := z
    replace hlen : z2.length ≤ 1000 := hlen
    obtain ⟨r1, m1⟩ := ev_markPacket a b c d e f l (by omega)
    obtain ⟨r, h1, h2⟩ := ev_markheldBytesResult z1 z2 (by omega)
    have heq := ev_eqBytesResult z1 z2 (by omega)
    refine ev_opt (q_szPacket a b c d e f h) (ev_neg (by omega) ?_)
    refine Ev.bind (ev_toPacket a b c d e f h) (Ev.bind hs (Ev.bind (ev_toPacket a b c d e f h) (Ev.bind hi ?_)))
    refine Ev.bind heq (ev_pos rfl (Ev.bind (ev_toPacket a b c d e f h) (Ev.bind (ev_eqPacket a b c d e f h) (ev_pos rfl ?_))))
    refine Ev.bind m1 (ev_neg (by simp only; omega) (Ev.bind heq ?_))
    refine Ev.step (fun k => by rw [laws_FnExactBuildPacket.j0, if_neg (by simp)]) ?_
    refine Ev.bind h1 (Ev.bind h2 (ev_neg (by omega) (ev_pos rfl ?_)))
    refine Ev.bind (ev_toPacket a b c d e f h) (Ev.bind hi (Ev.bind heq (ev_pos rfl ?_)))
    exact Ev.bind h2 (ev_neg (by omega) (ev_pos rfl (ev_some _)))
  · exact ev_opt (q_szPacket_big a b c d e f h hm) (ev_pos (by omega) (ev_some _))

end Go.Proofs.Ytodlogjkhnieoaa.Pure
