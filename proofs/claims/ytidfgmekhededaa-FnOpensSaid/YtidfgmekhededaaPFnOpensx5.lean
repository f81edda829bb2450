-- Written by wip/tools/myprint.py of this claim's session, over the kit's print, round texts of its own: own text.
import Derived.Test.YtidfgmekhededaaPFnOpensx0
import Derived.Test.YtidfgmekhededaaPFnOpensx2
import Derived.Test.YtidfgmekhededaaPFnOpensx3
import Derived.Test.YtidfgmekhededaaPFnOpensx4
namespace Go.Proofs.Ytidfgmekhededaa.PFnOpens
open Go.RowKit Go.Proofs.YtidfgmekhededaaW.PrintWords Go.Proofs.YtidfgmekhededaaW.PrintLast Go.Proofs.YtidfgmekhededaaW.PrintMore
attribute [local go_sem] max2_int min2_int max_two min_two max_three min_three max_four min_four   -- for this text's walks alone
set_option linter.unusedVariables false
set_option linter.unusedSimpArgs false

/-! ### impl_opened: function 47 (my own text) -/
def revFin (n : Nat) : List (Fin n) := List.ofFn (fun j : Fin n => (⟨n - 1 - j.1, by omega⟩ : Fin n))
theorem revFin_length (n : Nat) : (revFin n).length = n := by simp [revFin]
theorem revFin_get (n k : Nat) (h : k < (revFin n).length) : (revFin n)[k].1 = n - 1 - k := by simp [revFin]
def encT80 (l0 : List S50) (x : Fin l0.length) : Array Value := #[.int .i64 (x.1 : Int), .agg #[.int .i64 (rd_T50 l0 (x.1 : Int)).f0, .int .i64 (rd_T50 l0 (x.1 : Int)).f1, .int .i64 (rd_T50 l0 (x.1 : Int)).f2, .int .i64 (rd_T50 l0 (x.1 : Int)).f3]]
set_option maxRecDepth 100000 in
set_option maxHeartbeats 4000000 in
theorem back1_in (F : Fence) (n : Nat) (h80 : F.fn 80) (hro : F.round = none) (hn : 1 ≤ n) (l Bs : Nat) (A0 : Option Addr) (c0 : Nat) (l0 : List S50) (w0 : World) (hC : Kd.C k50 w0 A0 l0.length l0) (J Jx : List (Fin l0.length) → World → Prop)
    (hY : ∀ pre x W, J pre W → pre.length < l0.length → YieldAt F (n - 1) Try.prog l (encT80 l0 x) W fun e W' =>
      (e = .returned (.bool true) ∧ J (pre ++ [x]) W' ∧ KpS Bs w0.heap.size W W') ∨ (e = .returned (.bool false) ∧ Jx (pre ++ [x]) W'))
    (W : World) (hW : Below w0.heap.size w0 W) (hBs : W.heap[Bs]? = some (.cells #[.slice A0 l0.length c0] 25 (0, 0))) (h0 : J [] W) :
    CallsIn F n Try.prog 80 #[.func (.yield l) #[] #[], .pointer (some ⟨Bs, 0, none⟩)] W fun e W' => (∃ v, e = .returned v) ∧
      ((∃ ys, ys = revFin l0.length ∧ J ys W') ∨ (∃ pre, True ∧ Jx pre W')) := by
  have hmx : l0.length ≤ 9223372036854775807 := hC.2.1
  have HC := Aside0.mk hC
  clear hC
  have hu := Try.underlying50
  have hu2 := Try.underlying25
  have hcb : W.cell? ⟨Bs, 0, none⟩ = some (.slice A0 l0.length c0) := (blk_cell hBs 0).trans rfl
  have HW := Aside0.mk hW
  have HBs := Aside0.mk hBs
  clear hW hBs
  refine callsIn_of_wp Try.func80 rfl h80 ?_ hro
  simp only [Try.ntmps80, List.size_toArray, List.length_cons, List.length_nil, Nat.reduceAdd, Nat.reduceSub, Array.replicate_succ, Array.replicate_zero, List.push_toArray, List.append_toArray, List.nil_append, List.cons_append]
  gi_wp2
  gi_loopw [3] (fun i wr => ∃ (k : Nat) (z : Int), k ≤ l0.length ∧ z + 1 + (k : Int) = (l0.length : Int) ∧ i = .int .i64 z ∧ J ((revFin l0.length).take k) wr ∧ Below w0.heap.size w0 wr ∧ wr.heap[Bs]? = some (.cells #[.slice A0 l0.length c0] 25 (0, 0)))
    (fun i _ => (intOf i + 1).toNat)
  case atStart => exact ⟨0, (l0.length : Int) - 1, Nat.zero_le _, by omega, rfl, h0, HW.out, HBs.out⟩
  case round =>
    obtain ⟨k, z, hk, hz, rfl, hJs, hbl, hbs⟩ := hrel
    have hcs : wr.cell? ⟨Bs, 0, none⟩ = some (.slice A0 l0.length c0) := (blk_cell hbs 0).trans rfl
    by_cases hlt : k < l0.length
    · obtain ⟨j, hj⟩ : ∃ j : Nat, z = (j : Int) := ⟨z.toNat, by omega⟩
      subst hj
      have hjl : j < l0.length := by omega
      obtain ⟨ad, e, hx0, hx1, hx2, hx3⟩ := at_T50 (Kd.C_below HC.out hbl) (j : Int) (by omega) (by omega)
      cases e
      simp only [Int.toNat_natCast] at hx0 hx1 hx2 hx3
      obtain ⟨fn, tmps, assign, body, hy, hR⟩ := hY _ (⟨j, hjl⟩ : Fin l0.length) wr hJs (by rw [List.length_take, revFin_length]; omega)
      unfold encT80 at hy
      dsimp only at hy
      have hkr : k < (revFin l0.length).length := by rw [revFin_length]; exact hlt
      have hts : (revFin l0.length).take k ++ [(⟨j, hjl⟩ : Fin l0.length)] = (revFin l0.length).take (k + 1) := by
        rw [List.take_succ_eq_append_getElem hkr]
        refine congrArg (fun x => (revFin l0.length).take k ++ [x]) (Fin.ext ?_)
        rw [revFin_get]
        show j = _
        omega
      have HT := Aside0.mk hts
      have HJ := Aside0.mk hJs
      have hbl2 := Aside0.mk hbl
      have hbs2 := Aside0.mk hbs
      have p1 : (0 ≤ (j : Int)) = True := eq_true (by omega)
      have q1 : ((j : Int) < (l0.length : Int)) = True := eq_true (by omega)
      have hz0 : 0 ≤ (j : Int) := by omega
      clear hts hJs hbl hbs hkr
      gi_wp2
      refine hR.mono ?_
      rintro e W3 (⟨rfl, hJ3, hk3⟩ | ⟨rfl, hJx3⟩)
      · have hb3 := hk3.2 _ _ hbs2.out
        have hw3 := hbl2.out.trans hk3.1
        rw [HT.out] at hJ3
        gi_wp2
        go_roundw
        case rel => exact ⟨k + 1, (j : Int) - 1, by omega, by omega, by go_num, hJ3, hw3, hb3⟩
        case measure => (simp [intOf] <;> omega)
      · gi_wp2
        refine bodyPost_ret (results_none rfl _ _ _) rfl ?_
        exact ⟨⟨_, rfl⟩, .inr ⟨_, trivial, hJx3⟩⟩
    · obtain rfl : k = l0.length := by omega
      obtain rfl : z = -1 := by omega
      have HJ : Aside0 (J (revFin l0.length) wr) := ⟨by rw [List.take_of_length_le (by rw [revFin_length]; omega)] at hJs; exact hJs⟩
      clear hJs
      gi_wp2
      go_end0
      exact ⟨⟨_, rfl⟩, .inl ⟨_, rfl, HJ.out⟩⟩
theorem back_stops (F : Fence) (n : Nat) (h80 : F.fn 80) (hro : F.round = none) (hn : 1 ≤ n) (Bs : Nat) (A0 : Option Addr) (c0 : Nat) (l0 : List S50) (w0 w : World) (hC : Kd.C k50 w0 A0 l0.length l0) (hb : Below w0.heap.size w0 w) (hBs : w.heap[Bs]? = some (.cells #[.slice A0 l0.length c0] 25 (0, 0))) :
    SeqStopsK F n Try.prog 80 #[.pointer (some ⟨Bs, 0, none⟩)] (encT80 l0) (KpS Bs w0.heap.size) (fun ys => ys = revFin l0.length) (fun _ => True) l0.length w :=
  fun l J Jx W hW _ _ hY h0 => back1_in F n h80 hro hn l Bs A0 c0 l0 w0 hC J Jx hY W (below_step hb hW) (blk_below hBs hW) h0
set_option maxHeartbeats 1000000 in
theorem backward_calls (A0 : Option Addr) (c0 n : Nat) (w : World) :
    Calls Try.prog 68 #[.slice A0 n c0] w fun e w' => ∃ Bs, e = .returned (.func (.func 80) #[] #[.pointer (some ⟨Bs, 0, none⟩)]) ∧ w'.heap[Bs]? = some (.cells #[.slice A0 n c0] 25 (0, 0)) ∧ w.heap.size ≤ Bs ∧ Below w.heap.size w w' := by
  go_enter Try.func68, Try.ntmps68
  go_wp2
  go_ret
  exact ⟨w.heap.size, rfl, blk_new w _, Nat.le_refl _, below_alloc (Below.refl _ _) _⟩
theorem keeps_below {W W' : World} (h : Below W.heap.size W W') : KeepsOthers W W' := ⟨h.size, fun k o hk _ => (h.block k (Array.getElem?_eq_some_iff.1 hk).1).trans hk⟩
def impl_opened.stp (l : List S50) (can o : List Bool) (i : Nat) : List Bool :=
  if rdOf false o (i : Int) = true then (if (rd_T50 l (i : Int)).f0 = 3 then (o.set (rd_T50 l (i : Int)).f1.toNat true).set (rd_T50 l (i : Int)).f2.toNat true
    else if (rd_T50 l (i : Int)).f0 = 5 ∧ rdOf false can (rd_T50 l (i : Int)).f1 = true then o.set (rd_T50 l (i : Int)).f2.toNat true else o) else o
def impl_opened.pass (l : List S50) (can o : List Bool) : List Bool := (revFin l.length).foldl (fun o x => impl_opened.stp l can o x.1) o
def impl_opened.go (l : List S50) : Nat → List Bool → Option (List Bool)
  | 0, _ => none
  | k + 1, o => (slices_Clone_bool_bool.f o).bind fun cp => (impl_makeable.f l o).bind fun can => (slices_Equal_bool_bool.f k cp (impl_opened.pass l can o)).bind fun b => if b = true then some (impl_opened.pass l can o) else impl_opened.go l k (impl_opened.pass l can o)
def impl_opened.f (k : Nat) (l0 : List S50) (l1 : List Int) : Option (List Bool) := (impl_flags.f k l0 l1).bind fun o => impl_opened.go l0 k o
theorem impl_opened.mono_go (l : List S50) : ∀ k o, LeO (impl_opened.go l k o) (impl_opened.go l (k + 1) o)
  | 0, _ => LeO.none _
  | k + 1, o => by
    rw [impl_opened.go, impl_opened.go]
    exact LeO.bind (LeO.refl _) (fun _ => LeO.bind (LeO.refl _) (fun _ => LeO.bind (slices_Equal_bool_bool.mono _ _ _) (fun _ => LeO.ite (LeO.refl _) (impl_opened.mono_go l k _))))
theorem impl_opened.mono : ∀ a0 a1 k, LeO (impl_opened.f k a0 a1) (impl_opened.f (k + 1) a0 a1) := fun _ _ _ => LeO.bind (impl_flags.mono _ _ _) (fun _ => impl_opened.mono_go _ _ _)
theorem impl_opened_stp_len (l : List S50) (can o : List Bool) (i : Nat) : (impl_opened.stp l can o i).length = o.length := by
  unfold impl_opened.stp
  split
  · split
    · rw [List.length_set, List.length_set]
    · split
      · rw [List.length_set]
      · rfl
  · rfl
theorem impl_opened_fold_len (l : List S50) (can : List Bool) {n : Nat} : ∀ (p : List (Fin n)) (o : List Bool), (p.foldl (fun o x => impl_opened.stp l can o x.1) o).length = o.length
  | [], _ => rfl
  | x :: xs, o => (impl_opened_fold_len l can xs _).trans (impl_opened_stp_len l can o x.1)
theorem impl_opened_mk {l : List S50} {o can : List Bool} (h : impl_makeable.f l o = some can) : o.length = l.length ∧ can.length = l.length ∧ l.all (impl_makeable.okR l.length) = true := by
  unfold impl_makeable.f at h
  by_cases c : l.length ≤ 400 ∧ o.length = l.length ∧ l.all (impl_makeable.okR l.length) = true
  · rw [if_pos c] at h
    obtain rfl := Option.some.inj h
    exact ⟨c.2.1, impl_makeable_l0_len _ _ _ _, c.2.2⟩
  · rw [if_neg c] at h
    exact absurd h (by simp)
theorem impl_opened_go_len {l : List S50} {k : Nat} {o r : List Bool} (h : impl_opened.go l k o = some r) : o.length = l.length := by
  cases k with
  | zero => exact absurd h (by simp [impl_opened.go])
  | succ k =>
    rw [impl_opened.go] at h
    obtain ⟨_, _, h⟩ := Option.bind_eq_some_iff.mp h
    obtain ⟨_, hm, _⟩ := Option.bind_eq_some_iff.mp h
    exact (impl_opened_mk hm).1
structure impl_opened.Inv (w : World) (n b5 g5 g7 B : Nat) (A5 : Option Addr) (c5 : Nat) (v14 : Value) (cp : List Bool) (A6 : Option Addr) (c6 : Nat) (can : List Bool) (ds : List Deferred) (xs : List Bool) (W : World) : Prop where
  box5 : W.heap[g5]? = some (.cells #[.slice A5 n c5] 66 (0, 0))
  row : Kd.R Kd.bool 4 W w.heap.size (fun k_ => k_ < b5) (.slice A5 n c5) xs
  box7 : W.heap[g7]? = some (.cells #[.slice A6 can.length c6] 66 (0, 0))
  bef : Kd.R Kd.bool 4 W B (fun _ => True) v14 cp
  mkr : Kd.R Kd.bool 4 W B (fun _ => True) (.slice A6 can.length c6) can
  low : Below w.heap.size w W
  marks : MarksOk w.heap.size B W ds
theorem impl_opened.Inv.below {w : World} {n b5 g5 g7 B : Nat} {A5 : Option Addr} {c5 : Nat} {v14 : Value} {cp : List Bool} {A6 : Option Addr} {c6 : Nat} {can : List Bool} {ds : List Deferred} {xs : List Bool} {W W' : World} (h : impl_opened.Inv w n b5 g5 g7 B A5 c5 v14 cp A6 c6 can ds xs W) (hb : Below W.heap.size W W') : impl_opened.Inv w n b5 g5 g7 B A5 c5 v14 cp A6 c6 can ds xs W' :=
  ⟨blk_below h.box5 hb, Kd.R_below h.row hb, blk_below h.box7 hb, Kd.R_below h.bef hb, Kd.R_below h.mkr hb, below_step h.low hb, h.marks.below hb⟩
theorem impl_opened.Inv.own {β : Type} {w : World} {n b5 g5 g7 B B' : Nat} {A5 : Option Addr} {c5 : Nat} {v14 : Value} {cp : List Bool} {A6 : Option Addr} {c6 : Nat} {can : List Bool} {ds : List Deferred} (f : β → List Bool) (hB : B ≤ B') (hw : w.heap.size ≤ B') : OwnFrom B' (fun s W => impl_opened.Inv w n b5 g5 g7 B A5 c5 v14 cp A6 c6 can ds (f s) W) :=
  fun s W W' row hs hg hr => ⟨ownBlk s W W' row hs.box5 hg hr, ownR f s W W' row hs.row hg hr, ownBlk s W W' row hs.box7 hg hr, ownR (fun _ => cp) s W W' row hs.bef hg hr, ownR (fun _ => can) s W W' row hs.mkr hg hr, ownFrom_below (Nat.le_refl _) hw s W W' row hs.low hg hr, MarksOk.own w.heap.size B ds s W W' row hs.marks hg (fun r e => ⟨Nat.le_trans hB (hr r e).1, (hr r e).2⟩)⟩
theorem impl_opened.Inv.set {w : World} {n b5 g5 g7 B g0 : Nat} {c5 : Nat} {v14 : Value} {cp : List Bool} {A6 : Option Addr} {c6 : Nat} {can : List Bool} {ds : List Deferred} {xs : List Bool} {W : World} (h : impl_opened.Inv w n b5 g5 g7 B (some ⟨g0, 0, none⟩) c5 v14 cp A6 c6 can ds xs W) (hn : xs.length = n) (h5 : b5 ≤ g5) (h7 : B ≤ g7) (h5B : b5 ≤ B) (j : Int) (b : Bool) :
    impl_opened.Inv w n b5 g5 g7 B (some ⟨g0, 0, none⟩) c5 v14 cp A6 c6 can ds (xs.set j.toNat b) (W.setCell ⟨g0, j.toNat, none⟩ (.bool b)) ∧ w.heap.size ≤ g0 ∧ g0 < b5 ∧ ∃ cs, W.heap[g0]? = some (.cells cs 4 (0, 0)) := by
  have hg0 : g0 < b5 := h.row.1 g0 (by simp [Value.ownBlock])
  have hgw : w.heap.size ≤ g0 := Kd.R_base h.row g0 (by simp [Value.ownBlock])
  obtain ⟨inner, ho⟩ := Kd.R_own h.row
  obtain ⟨cs, hcs⟩ := own_typed ho g0 (by simp [Value.ownBlock])
  refine ⟨⟨blk_far h.box5 (by show g5 ≠ g0; omega) _, ?_, blk_far h.box7 (by show g7 ≠ g0; omega) _, ?_, ?_, below_set h.low hgw, h.marks.set (p := ⟨g0, j.toNat, none⟩) hcs _⟩, hgw, hg0, cs, hcs⟩
  · have hr := h.row
    subst hn
    have := (Kd.R_put hr j b).1
    exact this
  · exact Kd.R_mono (Kd.R_far (Kd.R_bound h.bef) (fun k hk => by show k ≠ g0; have := hk.2.1; omega) _) (fun _ _ => trivial)
  · exact Kd.R_mono (Kd.R_far (Kd.R_bound h.mkr) (fun k hk => by show k ≠ g0; have := hk.2.1; omega) _) (fun _ _ => trivial)
theorem plain_load (P : Program) (l : Nat) {o : Oper} {t : TypeId} {x : Operand} (h : o.op = .load t x) : PlainOp P l o := by
  have e : ∀ ρ : Operand → Value, Oper.semAt (some l) ρ o = execOp ρ o := fun ρ => Oper.semAt_some l ρ o (fun c => by rw [h]; simp)
  refine ⟨fun ρ w => ?_, e, fun ρ w => by simp [Oper.about, h]⟩
  rw [e]
  unfold execOp
  rw [h]
  exact plain_v _ (fun v => Next.value v) (fun _ => trivial) w
theorem plain_fieldAddr (P : Program) (l : Nat) {o : Oper} {t : TypeId} {x : Operand} {i : Nat} (h : o.op = .fieldAddr t x i) : PlainOp P l o := by
  have e : ∀ ρ : Operand → Value, Oper.semAt (some l) ρ o = execOp ρ o := fun ρ => Oper.semAt_some l ρ o (fun c => by rw [h]; simp)
  refine ⟨fun ρ w => ?_, e, fun ρ w => by simp [Oper.about, h]⟩
  rw [e]
  unfold execOp
  rw [h]
  exact plain_v _ (fun v => Next.value v) (fun _ => trivial) w
theorem plain_indexAddr (P : Program) (l : Nat) {o : Oper} {t : TypeId} {x y : Operand} (h : o.op = .indexAddr t x y) : PlainOp P l o := by
  have e : ∀ ρ : Operand → Value, Oper.semAt (some l) ρ o = execOp ρ o := fun ρ => Oper.semAt_some l ρ o (fun c => by rw [h]; simp)
  refine ⟨fun ρ w => ?_, e, fun ρ w => by simp [Oper.about, h]⟩
  rw [e]
  unfold execOp
  rw [h]
  exact plain_v _ (fun v => Next.value v) (fun _ => trivial) w
theorem plain_store (P : Program) (l : Nat) {o : Oper} {t : TypeId} {x y : Operand} (h : o.op = .store t x y) : PlainOp P l o := by
  have e : ∀ ρ : Operand → Value, Oper.semAt (some l) ρ o = execOp ρ o := fun ρ => Oper.semAt_some l ρ o (fun c => by rw [h]; simp)
  refine ⟨fun ρ w => ?_, e, fun ρ w => by simp [Oper.about, h]⟩
  rw [e]
  unfold execOp
  rw [h]
  exact plain_v _ (fun _ => Next.skip) (fun _ => trivial) w
theorem plain_all {P : Program} {l : Nat} {ops : List Oper} (h : ops.all (fun o => match o.op with | .load _ _ | .fieldAddr _ _ _ | .indexAddr _ _ _ | .store _ _ _ => true | _ => false) = true) : ∀ (i : Nat) (o : Oper), ops.toArray[i]? = some o → PlainOp P l o := by
  intro i o hi
  have hm : o ∈ ops := by
    rw [List.getElem?_toArray] at hi
    exact List.mem_of_getElem? hi
  have h2 := List.all_eq_true.1 h o hm
  cases ho : o.op <;> rw [ho] at h2 <;> first | exact plain_load P l ho | exact plain_fieldAddr P l ho | exact plain_indexAddr P l ho | exact plain_store P l ho | exact absurd h2 (by simp)
section
attribute [local go_sem] Oper.semAt_some
set_option maxHeartbeats 8000000 in
set_option maxRecDepth 100000 in
theorem impl_opened.calls (k : Nat) (A0 : Option Addr) (c0 : Nat) (l0 : List S50) (A1 : Option Addr) (c1 : Nat) (l1 : List Int) (r1 : List Bool) (w : World) (hr0 : Kd.C k50 w A0 l0.length l0) (hc0 : l0.length ≤ c0) (hr1 : Kd.C (Kd.int .i64) w A1 l1.length l1) (hc1 : l1.length ≤ c1) (h : impl_opened.f k l0 l1 = some r1) :
    Calls Try.prog 47 #[.slice A0 l0.length c0, .slice A1 l1.length c1] w fun e w' => ∃ v1_ : Value, e = .returned v1_ ∧ Kd.R Kd.bool 4 w' w.heap.size (fun _ => True) v1_ r1 ∧ Below w.heap.size w w' := by
  unfold impl_opened.f at h
  obtain ⟨o0, hf, h⟩ := Option.bind_eq_some_iff.mp h
  have hol := impl_opened_go_len h
  have HT := Aside0.mk hr0
  have HTC := Aside0.mk hc0
  have hmx : l0.length ≤ 9223372036854775807 := hr0.2.1
  have H := Aside0.mk h
  have HFL := Aside0.mk (impl_flags.calls k A0 c0 l0 A1 c1 l1 o0 w hr0 hc0 hr1 hc1 hf)
  have HOL := Aside0.mk hol
  clear hr0 hc0 hr1 hc1 h hf hol
  have hu := Try.underlying50
  have hu2 := Try.underlying66
  refine (callsIn_wide (n := 6)).1 ?_
  refine callsIn_of_wp_marks Try.func47 rfl trivial ?_ rfl
  simp only [Try.ntmps47, List.size_toArray, List.length_cons, List.length_nil, Nat.reduceAdd, Nat.reduceSub, Array.replicate_succ, Array.replicate_zero, List.push_toArray, List.append_toArray, List.nil_append, List.cons_append]
  refine wpIn_wide.2 ?_
  refine wp_mono (Q := calmQ _) ?_ calmQ.le
  go_wp2_with (first | (go_at_call 66; (with_reducible refine HFL.out.mono ?_); rintro e w1 ⟨v5, rfl, hv, hb⟩; obtain ⟨A5, c5, e5⟩ := Kd.R_slice hv; rw [HOL.out] at e5; subst e5; have HV5 := Aside0.mk (Kd.R_mono (Kd.R_bound hv) (fun k_ hk => hk.2.2.1)); have HB1 := Aside0.mk hb; have BX := Aside0.mk (Boxes.start w1); clear hv hb) | ((with_reducible refine gate_dst (N := 5) rfl ?_); refine box_event ?hg (N := 5) ?hd (cs := #[.slice none 0 0]) (t := 66) ?hr ?_; (case hd => rfl); (case hg => rfl); (case hr => first | (go_simp; done) | (go_simp; rfl)); intro g5 hg w5_ hbox hb; have BY := Aside0.mk (Boxes.new (w0 := w1) (bs := []) (by (with_reducible repeat (first | refine Boxes.drewN ?_ _ | refine Boxes.drew ?_ | refine Boxes.alloc ?_ _)); exact BX.out) hg hbox hb); clear BX hb hbox hg; have BX := BY; clear BY; have q5_0 : World.cell? _ ⟨g5, 0, none⟩ = some (.slice none 0 0) := BX.out.cell (i := 0) rfl (j := 0) rfl; have f5_0 : World.frozen? _ ⟨g5, 0, none⟩ = false := BX.out.frozen (i := 0) rfl 0) | ((with_reducible refine gate_store (t := 66) (p := 5) rfl ?_); refine boxes_store (w0 := w1) (bs := [(g5, #[(.slice A5 l0.length c5)], 66)]) (W1 := World.setCell w5_ ⟨g5, 0, none⟩ (.slice A5 l0.length c5)) rfl rfl rfl ?hr (Boxes.put (w0 := w1) (b1 := []) (b2 := []) BX.out 0 (.slice A5 l0.length c5)) ?_; (case hr => first | (go_simp; done) | (go_simp; rfl)); intro w6_ BY; have BY := Aside0.mk BY; clear BX; have BX := BY; clear BY; clear q5_0 f5_0) | fail)
  obtain ⟨b5, hb5⟩ : ∃ b, b = w1.heap.size := ⟨_, rfl⟩
  have HG5 : Aside0 (b5 ≤ g5) := ⟨by rw [hb5]; exact BX.out.ge (g5, #[(.slice A5 l0.length c5)], 66) (by simp)⟩
  have HV6 : Aside0 (Kd.R Kd.bool 4 w6_ w.heap.size (fun k_ => k_ < b5) (.slice A5 l0.length c5) o0) := ⟨by rw [hb5]; exact Kd.R_below HV5.out BX.out.low⟩
  have HB6 : Aside0 (Below w.heap.size w w6_) := ⟨below_step HB1.out BX.out.low⟩
  have HS6 : Aside0 (b5 ≤ w6_.heap.size) := ⟨by rw [hb5]; exact BX.out.low.size⟩
  have HBX6 : Aside0 (w6_.heap[g5]? = some (.cells #[(.slice A5 l0.length c5)] 66 (0, 0))) := ⟨BX.out.at_ (i := 0) rfl⟩
  clear BX HV5 HB1 hb5 HFL
  refine wp_loop_ghost_k (fun gg a W => ∃ (kf : Nat) (xs : List Bool) (ds : List Deferred) (y6 y7 y8 y9 y10 y11 y12 y13 y14 y15 y16 y17 y18 y19 y20 y21 y22 y23 y24 y25 y26 y27 y28 y29 y30 y31 y32 y33 y34 y35 y36 y37 y38 y39 y40 y41 y42 y43 y44 y45 y46 y47 y48 y49 y50 y51 y52 y53 y54 y55 y56 y57 : Value), a = { tmps := #[.slice A0 l0.length c0, .slice A1 l1.length c1, undef, undef, .slice none 0 0, .pointer (some ⟨g5, 0, none⟩), y6, y7, y8, y9, y10, y11, y12, y13, y14, y15, y16, y17, y18, y19, y20, y21, y22, y23, y24, y25, y26, y27, y28, y29, y30, y31, y32, y33, y34, y35, y36, y37, y38, y39, y40, y41, y42, y43, y44, y45, y46, y47, y48, y49, y50, y51, y52, y53, y54, y55, y56, y57], defers := ds } ∧ kf ≤ gg ∧ Aside0 (W.heap[g5]? = some (.cells #[.slice A5 l0.length c5] 66 (0, 0))) ∧ Aside0 (Kd.R Kd.bool 4 W w.heap.size (fun k_ => k_ < b5) (.slice A5 l0.length c5) xs) ∧ Aside0 (Below w.heap.size w W) ∧ Aside0 (MarksOk w.heap.size W.heap.size W ds) ∧ Aside0 (b5 ≤ W.heap.size) ∧ Aside0 (impl_opened.go l0 kf xs = some r1)) k ?start ?round
  case start => exact ⟨k, o0, [], _, _, _, _, _, _, _, _, _, _, _, _, _, _, _, _, _, _, _, _, _, _, _, _, _, _, _, _, _, _, _, _, _, _, _, _, _, _, _, _, _, _, _, _, _, _, _, _, _, _, _, _, rfl, Nat.le_refl _, HBX6, HV6, HB6, ⟨MarksOk.nil _ _ _⟩, HS6, H⟩
  case round =>
    clear HBX6 HV6 HB6 HS6 H HOL
    intro gg a wr hI J K hJ hK
    obtain ⟨kf, xs, ds, y6, y7, y8, y9, y10, y11, y12, y13, y14, y15, y16, y17, y18, y19, y20, y21, y22, y23, y24, y25, y26, y27, y28, y29, y30, y31, y32, y33, y34, y35, y36, y37, y38, y39, y40, y41, y42, y43, y44, y45, y46, y47, y48, y49, y50, y51, y52, y53, y54, y55, y56, y57, rfl, hkg, B5, R5, BW, MK, HS, H⟩ := hI
    cases kf with
    | zero => exact absurd H.out (by simp [impl_opened.go])
    | succ kf =>
      have hH := H.out
      rw [impl_opened.go] at hH
      obtain ⟨cp, hcl, hH⟩ := Option.bind_eq_some_iff.mp hH
      obtain ⟨can, hmk, hH⟩ := Option.bind_eq_some_iff.mp hH
      obtain ⟨b, heq, hH⟩ := Option.bind_eq_some_iff.mp hH
      have HE := Aside0.mk heq
      have HF := Aside0.mk hH
      obtain ⟨hxl, hcan, hok⟩ := impl_opened_mk hmk
      have HOK := Aside0.mk hok
      have hR5 := Kd.R_reads' R5.out
      have hc5 := hR5.2.1
      have C5 := Aside0.mk hR5.2.2
      have HCL : Aside0 (∀ (W' : World), Kd.C Kd.bool W' A5 xs.length xs → Calls Try.prog 67 #[.slice A5 l0.length c5] W' fun e w' => ∃ v1_ : Value, e = .returned v1_ ∧ Kd.R Kd.bool 4 w' W'.heap.size (fun _ => True) v1_ cp ∧ Below W'.heap.size W' w') := ⟨fun W' hC => by
        have := slices_Clone_bool_bool.calls A5 c5 xs cp W' hC (by rw [hxl]; exact hc5) hcl
        rwa [hxl] at this⟩
      have HMK : Aside0 (∀ (W' : World), Kd.C k50 W' A0 l0.length l0 → Kd.C Kd.bool W' A5 xs.length xs → Calls Try.prog 46 #[.slice A0 l0.length c0, .slice A5 l0.length c5] W' fun e w' => ∃ v1_ : Value, e = .returned v1_ ∧ Kd.R Kd.bool 4 w' W'.heap.size (fun _ => True) v1_ can ∧ Below W'.heap.size W' w') := ⟨fun W' hT hC => by
        have := impl_makeable.calls A0 c0 l0 A5 c5 xs can W' hT HTC.out hC (by rw [hxl]; exact hc5) hmk
        rwa [hxl] at this⟩
      have HXL := Aside0.mk hxl
      have HCAN := Aside0.mk hcan
      have BR := Aside0.mk (below_drew1 (Below.refl wr.heap.size wr))
      clear hH hcl hmk heq hxl hcan hok hR5 H hc5
      go_wp2
      refine start_ (n := 8) (S := fun w' => w'.cell? ⟨g5, 0, none⟩ = some (.slice A5 l0.length c5)) (ds := []) #[false, false, false, false, false, false, false, false] (by kernel_rfl) rfl rfl (((blk_cell (blk_below B5.out BR.out) 0).trans rfl)) (fun hHeld => ?_)
      refine pure_ (i := 2) (N := some 15) (v := ?_) (a' := ?_) #[false, false, true, false, false, false, false, false] rfl rfl (by kernel_rfl) (fun _ _ _ h => h) (Or.inl ⟨by rfl, ?_⟩) ?_ ?_
      rotate_left
      · intro w'
        go_simp
        with_reducible rfl
      rotate_left
      · simp only [Act.put, List.setIfInBounds_toArray, List.set_cons_zero, List.set_cons_succ, i64_w, i32_w]
        rfl
      refine take_ (i := 0) (N := some 13) (v := ?_) (a' := ?_) #[true, false, true, false, false, false, false, false] rfl rfl (by kernel_rfl) (fun _ _ _ h => h) (Or.inl ⟨by rfl, ?_⟩) hHeld ?_ ?_
      rotate_left
      · intro w' s0
        go_simp
        with_reducible rfl
      rotate_left
      · simp only [Act.put, List.setIfInBounds_toArray, List.set_cons_zero, List.set_cons_succ, i64_w, i32_w]
        rfl
      refine take_ (i := 3) (N := some 16) (v := ?_) (a' := ?_) #[true, false, true, true, false, false, false, false] rfl rfl (by kernel_rfl) (fun _ _ _ h => h) (Or.inl ⟨by rfl, ?_⟩) hHeld ?_ ?_
      rotate_left
      · intro w' s0
        go_simp
        with_reducible rfl
      rotate_left
      · simp only [Act.put, List.setIfInBounds_toArray, List.set_cons_zero, List.set_cons_succ, i64_w, i32_w]
        rfl
      refine join_ (σ := Value × Value × Nat) 2 #[true, true, true, true, true, true, false, false] (fun s => [(14, s.1), (17, s.2.1), (7, .pointer (some ⟨s.2.2, 0, none⟩))]) (fun s w' => Aside0 (Kd.R Kd.bool 4 w' wr.heap.size (fun _ => True) s.1 cp) ∧ Aside0 (Kd.R Kd.bool 4 w' wr.heap.size (fun _ => True) s.2.1 can) ∧ Aside0 (w'.heap[s.2.2]? = some (.cells #[.slice none 0 0] 66 (0, 0))) ∧ Aside0 (wr.heap.size ≤ s.2.2) ∧ Aside0 (Below wr.heap.size wr w')) ?_ ?_
      rotate_left
      · intro hCont
        refine two_ (i := 1) (j := 5) (Ni := some 14) (Nj := some 7) #[true, true, true, true, false, false, false, false] #[true, false, true, true, false, true, false, false] rfl rfl rfl rfl (by kernel_rfl) (by decide) (by decide) (fun K hK => ?_) (fun K hK => ?_)
        · skip
          refine goes_ Try.func67 (by kernel_rfl) rfl #[(.slice A5 l0.length c5)] (by rfl) rfl rfl (by simp only [List.map_toArray, List.map_cons, List.map_nil]; rfl) ?_
          with_reducible refine (HCL.out _ (Kd.C_below C5.out BR.out)).mono ?_
          rintro e w14 ⟨v14, rfl, hv, hb⟩
          refine ⟨_, rfl, ?_⟩
          have R14 := Aside0.mk (Kd.R_lower hv BR.out.size)
          have BR_ := Aside0.mk (below_step BR.out hb)
          clear BR
          have BR := BR_
          clear BR_
          clear hv hb
          refine hK.out _ _ (((blk_cell (blk_below B5.out BR.out) 0).trans rfl)) (fun hHeld => ?_)
          clear hK K
          refine norm_ (a' := ?_) ?_ ?_
          rotate_left
          · show Act.put _ (some 14) _ = _
            simp only [Act.put, List.setIfInBounds_toArray, List.set_cons_zero, List.set_cons_succ, i64_w, i32_w]
            rfl
          refine two_ (i := 4) (j := 5) (Ni := some 17) (Nj := some 7) #[true, true, true, true, true, false, false, false] #[true, true, true, true, false, true, false, false] rfl rfl rfl rfl (by kernel_rfl) (by decide) (by decide) (fun K hK => ?_) (fun K hK => ?_)
          · skip
            refine goes_ Try.func46 (by kernel_rfl) rfl #[.slice A0 l0.length c0, (.slice A5 l0.length c5)] (by rfl) rfl rfl (by simp only [List.map_toArray, List.map_cons, List.map_nil]; rfl) ?_
            with_reducible refine (HMK.out _ (Kd.C_below HT.out (below_step BW.out BR.out)) (Kd.C_below C5.out BR.out)).mono ?_
            rintro e w17 ⟨v17, rfl, hv, hb⟩
            refine ⟨_, rfl, ?_⟩
            have R17 := Aside0.mk (Kd.R_lower hv BR.out.size)
            have R14_ := Aside0.mk (Kd.R_below R14.out hb)
            clear R14
            have R14 := R14_
            clear R14_
            have BR_ := Aside0.mk (below_step BR.out hb)
            clear BR
            have BR := BR_
            clear BR_
            clear hv hb
            refine hK.out _ _ (((blk_cell (blk_below B5.out BR.out) 0).trans rfl)) (fun hHeld => ?_)
            clear hK K
            refine norm_ (a' := ?_) ?_ ?_
            rotate_left
            · show Act.put _ (some 17) _ = _
              simp only [Act.put, List.setIfInBounds_toArray, List.set_cons_zero, List.set_cons_succ, i64_w, i32_w]
              rfl
            refine one_ (i := 5) (N := some 7) #[true, true, true, true, true, true, false, false] rfl rfl (by kernel_rfl) (by decide) (fun K hK => ?_)
            refine box_step (by rfl) (N := 7) (cs := #[.slice none 0 0]) (t := 66) rfl ?hr ?_; (case hr => first | (go_simp; done) | (go_simp; rfl))
            intro g7 hg7 w7 hb7 hb
            have G7 : Aside0 (wr.heap.size ≤ g7) := ⟨by rw [hg7]; exact BR.out.size⟩
            have B7 := Aside0.mk hb7
            clear hg7 hb7
            have R14_ := Aside0.mk (Kd.R_below R14.out hb)
            clear R14
            have R14 := R14_
            clear R14_
            have R17_ := Aside0.mk (Kd.R_below R17.out hb)
            clear R17
            have R17 := R17_
            clear R17_
            have BR_ := Aside0.mk (below_step BR.out hb)
            clear BR
            have BR := BR_
            clear BR_
            clear hb
            refine hK.out _ _ (((blk_cell (blk_below B5.out BR.out) 0).trans rfl)) (fun hHeld => ?_)
            clear hK K
            refine norm_ (a' := ?_) ?_ ?_
            rotate_left
            · show Act.put _ (some 7) _ = _
              simp only [Act.put, List.setIfInBounds_toArray, List.set_cons_zero, List.set_cons_succ, i64_w, i32_w]
              rfl
            exact norm_ (by simp only [putAll, Act.put, List.setIfInBounds_toArray, List.set_cons_zero, List.set_cons_succ]) (hCont ⟨v14, v17, g7⟩ _ ⟨R14, R17, B7, G7, BR⟩)
          · skip
            refine box_step (by rfl) (N := 7) (cs := #[.slice none 0 0]) (t := 66) rfl ?hr ?_; (case hr => first | (go_simp; done) | (go_simp; rfl))
            intro g7 hg7 w7 hb7 hb
            have G7 : Aside0 (wr.heap.size ≤ g7) := ⟨by rw [hg7]; exact BR.out.size⟩
            have B7 := Aside0.mk hb7
            clear hg7 hb7
            have R14_ := Aside0.mk (Kd.R_below R14.out hb)
            clear R14
            have R14 := R14_
            clear R14_
            have BR_ := Aside0.mk (below_step BR.out hb)
            clear BR
            have BR := BR_
            clear BR_
            clear hb
            refine hK.out _ _ (((blk_cell (blk_below B5.out BR.out) 0).trans rfl)) (fun hHeld => ?_)
            clear hK K
            refine norm_ (a' := ?_) ?_ ?_
            rotate_left
            · show Act.put _ (some 7) _ = _
              simp only [Act.put, List.setIfInBounds_toArray, List.set_cons_zero, List.set_cons_succ, i64_w, i32_w]
              rfl
            refine one_ (i := 4) (N := some 17) #[true, true, true, true, true, true, false, false] rfl rfl (by kernel_rfl) (by decide) (fun K hK => ?_)
            refine goes_ Try.func46 (by kernel_rfl) rfl #[.slice A0 l0.length c0, (.slice A5 l0.length c5)] (by rfl) rfl rfl (by simp only [List.map_toArray, List.map_cons, List.map_nil]; rfl) ?_
            with_reducible refine (HMK.out _ (Kd.C_below HT.out (below_step BW.out BR.out)) (Kd.C_below C5.out BR.out)).mono ?_
            rintro e w17 ⟨v17, rfl, hv, hb⟩
            refine ⟨_, rfl, ?_⟩
            have R17 := Aside0.mk (Kd.R_lower hv BR.out.size)
            have R14_ := Aside0.mk (Kd.R_below R14.out hb)
            clear R14
            have R14 := R14_
            clear R14_
            have B7_ := Aside0.mk (blk_below B7.out hb)
            clear B7
            have B7 := B7_
            clear B7_
            have BR_ := Aside0.mk (below_step BR.out hb)
            clear BR
            have BR := BR_
            clear BR_
            clear hv hb
            refine hK.out _ _ (((blk_cell (blk_below B5.out BR.out) 0).trans rfl)) (fun hHeld => ?_)
            clear hK K
            refine norm_ (a' := ?_) ?_ ?_
            rotate_left
            · show Act.put _ (some 17) _ = _
              simp only [Act.put, List.setIfInBounds_toArray, List.set_cons_zero, List.set_cons_succ, i64_w, i32_w]
              rfl
            exact norm_ (by simp only [putAll, Act.put, List.setIfInBounds_toArray, List.set_cons_zero, List.set_cons_succ]) (hCont ⟨v14, v17, g7⟩ _ ⟨R14, R17, B7, G7, BR⟩)
        · skip
          refine box_step (by rfl) (N := 7) (cs := #[.slice none 0 0]) (t := 66) rfl ?hr ?_; (case hr => first | (go_simp; done) | (go_simp; rfl))
          intro g7 hg7 w7 hb7 hb
          have G7 : Aside0 (wr.heap.size ≤ g7) := ⟨by rw [hg7]; exact BR.out.size⟩
          have B7 := Aside0.mk hb7
          clear hg7 hb7
          have BR_ := Aside0.mk (below_step BR.out hb)
          clear BR
          have BR := BR_
          clear BR_
          clear hb
          refine hK.out _ _ (((blk_cell (blk_below B5.out BR.out) 0).trans rfl)) (fun hHeld => ?_)
          clear hK K
          refine norm_ (a' := ?_) ?_ ?_
          rotate_left
          · show Act.put _ (some 7) _ = _
            simp only [Act.put, List.setIfInBounds_toArray, List.set_cons_zero, List.set_cons_succ, i64_w, i32_w]
            rfl
          refine one_ (i := 1) (N := some 14) #[true, true, true, true, false, true, false, false] rfl rfl (by kernel_rfl) (by decide) (fun K hK => ?_)
          refine goes_ Try.func67 (by kernel_rfl) rfl #[(.slice A5 l0.length c5)] (by rfl) rfl rfl (by simp only [List.map_toArray, List.map_cons, List.map_nil]; rfl) ?_
          with_reducible refine (HCL.out _ (Kd.C_below C5.out BR.out)).mono ?_
          rintro e w14 ⟨v14, rfl, hv, hb⟩
          refine ⟨_, rfl, ?_⟩
          have R14 := Aside0.mk (Kd.R_lower hv BR.out.size)
          have B7_ := Aside0.mk (blk_below B7.out hb)
          clear B7
          have B7 := B7_
          clear B7_
          have BR_ := Aside0.mk (below_step BR.out hb)
          clear BR
          have BR := BR_
          clear BR_
          clear hv hb
          refine hK.out _ _ (((blk_cell (blk_below B5.out BR.out) 0).trans rfl)) (fun hHeld => ?_)
          clear hK K
          refine norm_ (a' := ?_) ?_ ?_
          rotate_left
          · show Act.put _ (some 14) _ = _
            simp only [Act.put, List.setIfInBounds_toArray, List.set_cons_zero, List.set_cons_succ, i64_w, i32_w]
            rfl
          refine one_ (i := 4) (N := some 17) #[true, true, true, true, true, true, false, false] rfl rfl (by kernel_rfl) (by decide) (fun K hK => ?_)
          refine goes_ Try.func46 (by kernel_rfl) rfl #[.slice A0 l0.length c0, (.slice A5 l0.length c5)] (by rfl) rfl rfl (by simp only [List.map_toArray, List.map_cons, List.map_nil]; rfl) ?_
          with_reducible refine (HMK.out _ (Kd.C_below HT.out (below_step BW.out BR.out)) (Kd.C_below C5.out BR.out)).mono ?_
          rintro e w17 ⟨v17, rfl, hv, hb⟩
          refine ⟨_, rfl, ?_⟩
          have R17 := Aside0.mk (Kd.R_lower hv BR.out.size)
          have R14_ := Aside0.mk (Kd.R_below R14.out hb)
          clear R14
          have R14 := R14_
          clear R14_
          have B7_ := Aside0.mk (blk_below B7.out hb)
          clear B7
          have B7 := B7_
          clear B7_
          have BR_ := Aside0.mk (below_step BR.out hb)
          clear BR
          have BR := BR_
          clear BR_
          clear hv hb
          refine hK.out _ _ (((blk_cell (blk_below B5.out BR.out) 0).trans rfl)) (fun hHeld => ?_)
          clear hK K
          refine norm_ (a' := ?_) ?_ ?_
          rotate_left
          · show Act.put _ (some 17) _ = _
            simp only [Act.put, List.setIfInBounds_toArray, List.set_cons_zero, List.set_cons_succ, i64_w, i32_w]
            rfl
          exact norm_ (by simp only [putAll, Act.put, List.setIfInBounds_toArray, List.set_cons_zero, List.set_cons_succ]) (hCont ⟨v14, v17, g7⟩ _ ⟨R14, R17, B7, G7, BR⟩)
      clear BR
      rintro ⟨v14, v17, g7⟩ w18 ⟨R14, R17, B7, G7, BR⟩
      dsimp only at R14 R17 B7 G7
      obtain ⟨A6, c6, e6⟩ := Kd.R_slice R17.out
      subst e6
      have hHeld := ((blk_cell (blk_below B5.out BR.out) 0).trans rfl)
      have h7c : World.cell? w18 ⟨g7, 0, none⟩ = some (.slice none 0 0) := (blk_cell B7.out 0).trans rfl
      have h7f : World.frozen? w18 ⟨g7, 0, none⟩ = false := blk_frozen B7.out 0
      refine norm_ (a' := ?_) ?_ ?_
      rotate_left
      · simp only [putAll, Act.put, List.setIfInBounds_toArray, List.set_cons_zero, List.set_cons_succ]
        rfl
      refine pure_ (i := 6) (N := some 6) (v := ?_) (a' := ?_) #[true, true, true, true, true, true, true, false] rfl rfl (by kernel_rfl) (fun _ _ _ h => h) (Or.inl ⟨by rfl, ?_⟩) ?_ ?_
      rotate_left
      · intro w'
        go_simp
        with_reducible rfl
      rotate_left
      · simp only [Act.put, List.setIfInBounds_toArray, List.set_cons_zero, List.set_cons_succ, i64_w, i32_w]
        rfl
      refine one_ (i := 7) (N := none) #[true, true, true, true, true, true, true, true] rfl rfl (by kernel_rfl) (by decide) (fun K hK => ?_)
      refine skip_ (w1 := ?_) (by rfl) rfl ?_ ?_
      rotate_left
      · go_simp
        rfl
      obtain ⟨w19, hw19⟩ : ∃ W1, W1 = World.setCell w18 ⟨g7, 0, none⟩ (.slice A6 can.length c6) := ⟨_, rfl⟩
      have B7b : w19.heap[g7]? = some (.cells #[.slice A6 can.length c6] 66 (0, 0)) := by rw [hw19]; exact (blk_set B7.out 0 _)
      have BR2 : Below wr.heap.size wr w19 := by rw [hw19]; exact below_set BR.out G7.out
      have R14b : Kd.R Kd.bool 4 w19 wr.heap.size (fun _ => True) v14 cp := by rw [hw19]; exact Kd.R_mono (Kd.R_far (Kd.R_types R14.out B7.out (by decide)) (fun k hk => hk.2) _) (fun _ h => trivial)
      have R17b : Kd.R Kd.bool 4 w19 wr.heap.size (fun _ => True) (.slice A6 can.length c6) can := by rw [hw19]; exact Kd.R_mono (Kd.R_far (Kd.R_types R17.out B7.out (by decide)) (fun k hk => hk.2) _) (fun _ h => trivial)
      rw [← hw19]
      clear R14 R17 BR B7 hw19 h7c h7f
      have R14 := Aside0.mk R14b
      have R17 := Aside0.mk R17b
      have BR := Aside0.mk BR2
      have B7 := Aside0.mk B7b
      clear R14b R17b BR2 B7b
      refine hK.out _ _ (((blk_cell (blk_below B5.out BR.out) 0).trans rfl)) (fun hHeld => ?_)
      clear hK K
      refine done_ (by kernel_rfl) ?_
      have B5n := Aside0.mk (blk_below B5.out BR.out)
      have R5n := Aside0.mk (Kd.R_below R5.out BR.out)
      have BWn := Aside0.mk (below_step BW.out BR.out)
      have MKn := Aside0.mk (MK.out.below BR.out)
      clear hHeld
      go_wp2_with (first | (go_at_call 68; (with_reducible refine (backward_calls A0 c0 l0.length _).mono ?_); rintro e w20 ⟨Bs, rfl, hBs, hBl, hb⟩; have HBs := Aside0.mk hBs; have HBl := Aside0.mk hBl; have HI : Aside0 (impl_opened.Inv w l0.length b5 g5 g7 wr.heap.size A5 c5 v14 cp A6 c6 can ds xs w20) := ⟨(impl_opened.Inv.mk B5n.out R5n.out B7.out R14.out R17.out BWn.out MKn.out).below hb⟩; have BR20 := Aside0.mk (below_step BR.out hb); clear hBs hBl hb) | fail)
      clear B5n R5n BWn MKn R14 R17 B7
      have hws : wr.heap.size ≤ w20.heap.size := BR20.out.size
      have hwb : w.heap.size ≤ w20.heap.size := HI.out.low.size
      have hbsb : b5 ≤ Bs := Nat.le_trans HS.out (Nat.le_trans BR.out.size HBl.out)
      have h5w : b5 ≤ wr.heap.size := HS.out
      have hg7 : wr.heap.size ≤ g7 := G7.out
      refine (wpIn_wide (n := 6)).1 ?_
      refine wpIn_rangeFunc_ownH (n := 6) rfl (by omega) (gf := 80) (lb := #[.pointer (some ⟨Bs, 0, none⟩)]) rfl trivial (enters_of Try.func80 (by kernel_rfl) rfl)
        (back_stops Fence.wide 5 trivial rfl (by omega) Bs A0 c0 l0 w w20 HT.out HI.out.low HBs.out) KpS.trans (KpS.put hwb) (Below.refl _ _) (fun _ => rfl)
        (fun (pre : List (Fin l0.length)) W => impl_opened.Inv w l0.length b5 g5 g7 wr.heap.size A5 c5 v14 cp A6 c6 can ds (pre.foldl (fun o x => impl_opened.stp l0 can o x.1) xs) W)
        (fun _ _ _ => False)
        (impl_opened.Inv.own (fun (pre : List (Fin l0.length)) => pre.foldl (fun o x => impl_opened.stp l0 can o x.1) xs) hws hwb)
        (fun _ _ _ _ _ hs _ _ => hs)
        HI.out
        (fun (x : Fin l0.length) a' W => ∃ gt, b5 ≤ gt ∧ W.heap[gt]? = some (.cells #[.int .i64 (rd_T50 l0 (x.1 : Int)).f0, .int .i64 (rd_T50 l0 (x.1 : Int)).f1, .int .i64 (rd_T50 l0 (x.1 : Int)).f2, .int .i64 (rd_T50 l0 (x.1 : Int)).f3] 50 (0, 0)) ∧ a' = { tmps := #[.slice A0 l0.length c0, .slice A1 l1.length c1, undef, undef, .slice none 0 0, .pointer (some ⟨g5, 0, none⟩), v14, .pointer (some ⟨g7, 0, none⟩), .int .i64 (x.1 : Int), .pointer (some ⟨gt, 0, none⟩), y10, y11, y12, .slice A5 l0.length c5, v14, .slice A0 l0.length c0, .slice A5 l0.length c5, .slice A6 can.length c6, .slice A0 l0.length c0, .func (.func 80) #[] #[.pointer (some ⟨Bs, 0, none⟩)], .int .i64 (x.1 : Int), .agg #[.int .i64 (rd_T50 l0 (x.1 : Int)).f0, .int .i64 (rd_T50 l0 (x.1 : Int)).f1, .int .i64 (rd_T50 l0 (x.1 : Int)).f2, .int .i64 (rd_T50 l0 (x.1 : Int)).f3], y22, y23, y24, y25, y26, y27, y28, y29, y30, y31, y32, y33, y34, y35, y36, y37, y38, y39, y40, y41, y42, y43, y44, y45, y46, y47, y48, y49, y50, y51, y52, y53, y54, y55, y56, y57], defers := [] })
        (fun x a' _ X Y row hs hg hr => by obtain ⟨gt, h1, h2, h3⟩ := hs; exact ⟨gt, h1, ownBlk () X Y row h2 hg hr, h3⟩)
        ?assign ?body ?done ?stop
      case assign =>
        rintro l pre x W K2 hI2 hK2
        simp only [encT80]
        gi_wp2
        exact hK2 _ _ ((KeepsOthers.alloc _ _).from _) (KpS.below (below_alloc (Below.refl _ _) _) hI2.low.size) (hI2.below (below_alloc (Below.refl _ _) _)) ⟨W.heap.size, Nat.le_trans HG5.out (Nat.le_of_lt (blk_lt hI2.box5)), blk_new W _, rfl⟩
      case body =>
        rintro l pre x a' W hl _ hI2 ⟨gt, hgt, hT, rfl⟩ hlt
        obtain ⟨i, hi⟩ := x
        dsimp only at hT ⊢
        obtain ⟨os, hos⟩ : ∃ o, o = pre.foldl (fun o x => impl_opened.stp l0 can o x.1) xs := ⟨_, rfl⟩
        rw [← hos] at hI2
        have hol : os.length = l0.length := by rw [hos, impl_opened_fold_len]; exact HXL.out
        have hfin : (pre ++ [(⟨i, hi⟩ : Fin l0.length)]).foldl (fun o x => impl_opened.stp l0 can o x.1) xs = impl_opened.stp l0 can os i := by rw [List.foldl_append, ← hos]; rfl
        obtain ⟨g0, cap, ev, _, _, _⟩ := Kd.R_form hI2.row (by omega)
        injection ev with e1 e2 e3
        subst e1
        have hrow := hI2.row
        have hg0 : g0 < b5 := hrow.1 g0 (by simp [Value.ownBlock])
        have hg0w : w.heap.size ≤ g0 := Kd.R_base hrow g0 (by simp [Value.ownBlock])
        rw [← hol] at hrow
        obtain ⟨hc, hfz⟩ := Kd.R_cell false hrow (i : Int) (by omega) (by omega)
        simp only [Int.toNat_natCast] at hc hfz
        obtain ⟨hA, hB⟩ := impl_makeable_ok HOK.out i hi
        have hne5 : g5 ≠ g0 := by have := HG5.out; omega
        have hneT : gt ≠ g0 := by omega
        have hneB : Bs ≠ g0 := by omega
        have hs0 : World.cell? W ⟨g5, 0, none⟩ = some (.slice (some ⟨g0, 0, none⟩) l0.length c5) := (blk_cell hI2.box5 0).trans rfl
        have hs7 : World.cell? W ⟨g7, 0, none⟩ = some (.slice A6 can.length c6) := (blk_cell hI2.box7 0).trans rfl
        have ht0 : World.cell? W ⟨gt, 0, none⟩ = some (.int .i64 (rd_T50 l0 (i : Int)).f0) := (blk_cell hT 0).trans rfl
        have hs1 : World.cell? W ⟨gt, 1, none⟩ = some (.int .i64 (rd_T50 l0 (i : Int)).f1) := (blk_cell hT 1).trans rfl
        have hs2 : World.cell? W ⟨gt, 2, none⟩ = some (.int .i64 (rd_T50 l0 (i : Int)).f2) := (blk_cell hT 2).trans rfl
        have p1 : (0 ≤ (i : Int)) = True := eq_true (by omega)
        have q1 : ((i : Int) < (l0.length : Int)) = True := eq_true (by omega)
        have q1n : (i < l0.length) = True := eq_true hi
        have HI2 := Aside0.mk hI2
        have HFIN := Aside0.mk hfin
        have HOLs := Aside0.mk hol
        have HTT := Aside0.mk hT
        clear hos hI2 hfin hol hT hrow e2 e3
        rcases Bool.eq_false_or_eq_true (rdOf false os (i : Int)) with hfl | hfl
        · by_cases h3 : (rd_T50 l0 (i : Int)).f0 = 3
          · have hst : impl_opened.stp l0 can os i = (os.set (rd_T50 l0 (i : Int)).f1.toNat true).set (rd_T50 l0 (i : Int)).f2.toNat true := by unfold impl_opened.stp; rw [if_pos hfl, if_pos h3]
            have HST := Aside0.mk hst
            obtain ⟨hA1, hA2⟩ := hA (by omega)
            obtain ⟨hB1, hB2⟩ := hB (by omega)
            have hq3 : ((rd_T50 l0 (i : Int)).f0 == 3) = true := by rw [h3]; rfl
            have ID := HI2.out.below (below_drew1 (Below.refl W.heap.size W))
            have I1 := (ID.set HOLs.out HG5.out hg7 h5w (rd_T50 l0 (i : Int)).f1 true).1
            have I2 := (I1.set (by rw [List.length_set]; exact HOLs.out) HG5.out hg7 h5w (rd_T50 l0 (i : Int)).f2 true).1
            have hrowd := HI2.out.row
            rw [← HOLs.out] at hrowd
            obtain ⟨hcA, hfA⟩ := Kd.R_cell false hrowd (rd_T50 l0 (i : Int)).f1 hA1 (by have := HOLs.out; omega)
            obtain ⟨_, hfB⟩ := Kd.R_cell false hrowd (rd_T50 l0 (i : Int)).f2 hB1 (by have := HOLs.out; omega)
            have hrow1 := (HI2.out.set HOLs.out HG5.out hg7 h5w (rd_T50 l0 (i : Int)).f1 true).1.row
            rw [← HOLs.out, ← List.length_set (i := (rd_T50 l0 (i : Int)).f1.toNat) (a := true)] at hrow1
            obtain ⟨hcB, _⟩ := Kd.R_cell false hrow1 (rd_T50 l0 (i : Int)).f2 hB1 (by rw [List.length_set]; have := HOLs.out; omega)
            have B5d := Aside0.mk ID.box5
            have BTd := Aside0.mk (blk_drew HTT.out)
            have II2 := Aside0.mk I2
            have pA := eq_true hA1
            have qA := eq_true hA2
            have pB := eq_true hB1
            have qB := eq_true hB2
            rw [hfl] at hc
            clear ID I1 I2 hrowd hrow1 hst hA hB hA1 hA2 hB1 hB2 h3
            gi_wp2
            refine start_in (n := 10) (S := fun w' => w'.cell? ⟨g5, 0, none⟩ = some (.slice (some ⟨g0, 0, none⟩) l0.length c5) ∧ w'.cell? ⟨gt, 1, none⟩ = some (.int .i64 (rd_T50 l0 (i : Int)).f1) ∧ w'.cell? ⟨gt, 2, none⟩ = some (.int .i64 (rd_T50 l0 (i : Int)).f2)) (ds := []) #[false, false, false, false, false, false, false, false, false, false] rfl (by rintro ⟨a_, w_, h_⟩; exact h_) (plain_all (by rfl)) (by kernel_rfl) rfl rfl ⟨hs0, hs1, hs2⟩ (fun hHeld => ?_)
            refine pure_ (i := 1) (N := some 32) (v := ?_) (a' := ?_) #[false, true, false, false, false, false, false, false, false, false] rfl rfl (by kernel_rfl) (fun _ _ _ h => h) (Or.inl ⟨by rfl, ?_⟩) ?_ ?_
            rotate_left
            · intro w'
              go_simp
              with_reducible rfl
            rotate_left
            · simp only [Act.put, List.setIfInBounds_toArray, List.set_cons_zero, List.set_cons_succ, i64_w, i32_w]
              rfl
            refine pure_ (i := 4) (N := some 35) (v := ?_) (a' := ?_) #[false, true, false, false, true, false, false, false, false, false] rfl rfl (by kernel_rfl) (fun _ _ _ h => h) (Or.inl ⟨by rfl, ?_⟩) ?_ ?_
            rotate_left
            · intro w'
              go_simp
              with_reducible rfl
            rotate_left
            · simp only [Act.put, List.setIfInBounds_toArray, List.set_cons_zero, List.set_cons_succ, i64_w, i32_w]
              rfl
            refine take_ (i := 0) (N := some 31) (v := ?_) (a' := ?_) #[true, true, false, false, true, false, false, false, false, false] rfl rfl (by kernel_rfl) (fun _ _ _ h => h) (Or.inl ⟨by rfl, ?_⟩) hHeld ?_ ?_
            rotate_left
            · rintro w' ⟨s0, s1, s2⟩
              go_simp
              with_reducible rfl
            rotate_left
            · simp only [Act.put, List.setIfInBounds_toArray, List.set_cons_zero, List.set_cons_succ, i64_w, i32_w]
              rfl
            refine take_ (i := 2) (N := some 33) (v := ?_) (a' := ?_) #[true, true, true, false, true, false, false, false, false, false] rfl rfl (by kernel_rfl) (fun _ _ _ h => h) (Or.inl ⟨by rfl, ?_⟩) hHeld ?_ ?_
            rotate_left
            · rintro w' ⟨s0, s1, s2⟩
              go_simp
              with_reducible rfl
            rotate_left
            · simp only [Act.put, List.setIfInBounds_toArray, List.set_cons_zero, List.set_cons_succ, i64_w, i32_w]
              rfl
            refine pure_ (i := 6) (N := some 37) (v := ?_) (a' := ?_) #[true, true, true, false, true, false, true, false, false, false] rfl rfl (by kernel_rfl) (fun _ _ _ h => h) (Or.inl ⟨by rfl, ?_⟩) ?_ ?_
            rotate_left
            · intro w'
              go_simp
              with_reducible rfl
            rotate_left
            · simp only [Act.put, List.setIfInBounds_toArray, List.set_cons_zero, List.set_cons_succ, i64_w, i32_w]
              rfl
            refine take_ (i := 3) (N := some 34) (v := ?_) (a' := ?_) #[true, true, true, true, true, false, true, false, false, false] rfl rfl (by kernel_rfl) (fun _ _ _ h => h) (Or.inl ⟨by rfl, ?_⟩) hHeld ?_ ?_
            rotate_left
            · rintro w' ⟨s0, s1, s2⟩
              go_simp
              with_reducible rfl
            rotate_left
            · simp only [Act.put, List.setIfInBounds_toArray, List.set_cons_zero, List.set_cons_succ, i64_w, i32_w]
              rfl
            refine take_ (i := 5) (N := some 36) (v := ?_) (a' := ?_) #[true, true, true, true, true, true, true, false, false, false] rfl rfl (by kernel_rfl) (fun _ _ _ h => h) (Or.inl ⟨by rfl, ?_⟩) hHeld ?_ ?_
            rotate_left
            · rintro w' ⟨s0, s1, s2⟩
              go_simp
              with_reducible rfl
            rotate_left
            · simp only [Act.put, List.setIfInBounds_toArray, List.set_cons_zero, List.set_cons_succ, i64_w, i32_w]
              rfl
            refine one_ (i := 7) (N := none) #[true, true, true, true, true, true, true, true, false, false] rfl rfl (by kernel_rfl) (by decide) (fun K hK => ?_)
            refine skip_ (w1 := ?_) (by rfl) rfl ?_ ?_
            rotate_left
            · go_simp
              rfl
            refine hK.out _ _ ⟨((blk_cell (blk_far B5d.out hne5 _) 0).trans rfl), ((blk_cell (blk_far BTd.out hneT _) 1).trans rfl), ((blk_cell (blk_far BTd.out hneT _) 2).trans rfl)⟩ (fun hHeld => ?_)
            clear hK K
            refine pure_ (i := 8) (N := some 38) (v := ?_) (a' := ?_) #[true, true, true, true, true, true, true, true, true, false] rfl rfl (by kernel_rfl) (fun _ _ _ h => h) (Or.inl ⟨by rfl, ?_⟩) ?_ ?_
            rotate_left
            · intro w'
              go_simp
              with_reducible rfl
            rotate_left
            · simp only [Act.put, List.setIfInBounds_toArray, List.set_cons_zero, List.set_cons_succ, i64_w, i32_w]
              rfl
            refine one_ (i := 9) (N := none) #[true, true, true, true, true, true, true, true, true, true] rfl rfl (by kernel_rfl) (by decide) (fun K hK => ?_)
            refine skip_ (w1 := ?_) (by rfl) rfl ?_ ?_
            rotate_left
            · go_simp
              rfl
            refine hK.out _ _ ⟨((blk_cell (blk_far (blk_far B5d.out hne5 _) hne5 _) 0).trans rfl), ((blk_cell (blk_far (blk_far BTd.out hneT _) hneT _) 1).trans rfl), ((blk_cell (blk_far (blk_far BTd.out hneT _) hneT _) 2).trans rfl)⟩ (fun hHeld => ?_)
            clear hK K
            refine done_ (by kernel_rfl) ?_
            gi_wp2
            exact ⟨(((KeepsOthers.drew _).trans (KeepsOthers.setCell _ _ _)).trans (KeepsOthers.setCell _ _ _)).from _, ((KpS.below (below_drew1 (Below.refl _ _)) HI2.out.low.size).trans (KpS.set hg0w hneB _)).trans (KpS.set hg0w hneB _), by show impl_opened.Inv w l0.length b5 g5 g7 wr.heap.size _ c5 _ cp _ c6 can ds _ _; rw [HFIN.out, HST.out]; exact II2.out⟩
          · have hq3 : ((rd_T50 l0 (i : Int)).f0 == 3) = false := by simpa using h3
            by_cases h5 : (rd_T50 l0 (i : Int)).f0 = 5
            · have hq5 : ((rd_T50 l0 (i : Int)).f0 == 5) = true := by rw [h5]; rfl
              obtain ⟨hA1, hA2⟩ := hA (by omega)
              obtain ⟨hB1, hB2⟩ := hB (by omega)
              obtain ⟨ad6, e6, hz0⟩ := Kd.at_bool (Kd.R_reads' HI2.out.mkr).2.2 (rd_T50 l0 (i : Int)).f1 hA1 (by rw [HCAN.out]; exact hA2)
              cases e6
              have pA := eq_true hA1
              have qA : ((rd_T50 l0 (i : Int)).f1 < (can.length : Int)) = True := eq_true (by rw [HCAN.out]; exact hA2)
              have pB := eq_true hB1
              have qB := eq_true hB2
              rw [hfl] at hc
              rcases Bool.eq_false_or_eq_true (rdOf false can (rd_T50 l0 (i : Int)).f1) with hz | hz
              · have HST : Aside0 (impl_opened.stp l0 can os i = os.set (rd_T50 l0 (i : Int)).f2.toNat true) := ⟨by unfold impl_opened.stp; rw [if_pos hfl, if_neg h3, if_pos ⟨h5, hz⟩]⟩
                have I1 := (HI2.out.set HOLs.out HG5.out hg7 h5w (rd_T50 l0 (i : Int)).f2 true).1
                have hrowd := HI2.out.row
                rw [← HOLs.out] at hrowd
                obtain ⟨hcB, hfB⟩ := Kd.R_cell false hrowd (rd_T50 l0 (i : Int)).f2 hB1 (by have := HOLs.out; omega)
                have II1 := Aside0.mk I1
                rw [hz] at hz0
                clear hrowd I1 hz hA hB hA1 hA2 hB1 hB2 h3 h5
                gi_wp2
                exact ⟨(KeepsOthers.setCell _ _ _).from _, KpS.set hg0w hneB _, by show impl_opened.Inv w l0.length b5 g5 g7 wr.heap.size _ c5 _ cp _ c6 can ds _ _; rw [HFIN.out, HST.out]; exact II1.out⟩
              · have HST : Aside0 (impl_opened.stp l0 can os i = os) := ⟨by unfold impl_opened.stp; rw [if_pos hfl, if_neg h3, if_neg (fun e => by rw [hz] at e; exact absurd e.2 (by simp))]⟩
                rw [hz] at hz0
                clear hz hA hB hA1 hA2 hB1 hB2 h3 h5
                gi_wp2
                exact ⟨KeepsFrom.refl _ _, KpS.below (Below.refl _ _) HI2.out.low.size, by show impl_opened.Inv w l0.length b5 g5 g7 wr.heap.size _ c5 _ cp _ c6 can ds _ _; rw [HFIN.out, HST.out]; exact HI2.out⟩
            · have hq5 : ((rd_T50 l0 (i : Int)).f0 == 5) = false := by simpa using h5
              have HST : Aside0 (impl_opened.stp l0 can os i = os) := ⟨by unfold impl_opened.stp; rw [if_pos hfl, if_neg h3, if_neg (fun e => h5 e.1)]⟩
              rw [hfl] at hc
              clear hA hB h3 h5
              gi_wp2
              exact ⟨KeepsFrom.refl _ _, KpS.below (Below.refl _ _) HI2.out.low.size, by show impl_opened.Inv w l0.length b5 g5 g7 wr.heap.size _ c5 _ cp _ c6 can ds _ _; rw [HFIN.out, HST.out]; exact HI2.out⟩
        · have HST : Aside0 (impl_opened.stp l0 can os i = os) := ⟨by unfold impl_opened.stp; rw [if_neg (by rw [hfl]; simp)]⟩
          rw [hfl] at hc
          clear hA hB
          gi_wp2
          exact ⟨KeepsFrom.refl _ _, KpS.below (Below.refl _ _) HI2.out.low.size, by show impl_opened.Inv w l0.length b5 g5 g7 wr.heap.size _ c5 _ cp _ c6 can ds _ _; rw [HFIN.out, HST.out]; exact HI2.out⟩
      case done =>
        rintro D ys W hD rfl hI2 hKD
        have q5 : World.cell? W ⟨g5, 0, none⟩ = some (.slice A5 l0.length c5) := (blk_cell hI2.box5 0).trans rfl
        obtain ⟨xs2, hxs2⟩ : ∃ o, o = (revFin l0.length).foldl (fun o x => impl_opened.stp l0 can o x.1) xs := ⟨_, rfl⟩
        rw [← hxs2] at hI2
        have hps : impl_opened.pass l0 can xs = xs2 := hxs2.symm
        have hx2l : xs2.length = l0.length := by rw [hxs2, impl_opened_fold_len]; exact HXL.out
        have hE := HE.out
        have hF := HF.out
        rw [hps] at hE hF
        obtain ⟨A14, c14, e14⟩ := Kd.R_slice hI2.bef
        subst e14
        have hbf := Kd.R_reads' hI2.bef
        have hrw := Kd.R_reads' hI2.row
        have HEQ : Aside0 (∀ W', Below W.heap.size W W' → Calls Try.prog 69 #[.slice A14 cp.length c14, .slice A5 l0.length c5] W' fun e w' => e = .returned (.bool b) ∧ Drawn0 W' w') := ⟨fun W' hb => by
          have := slices_Equal_bool_bool.calls kf A14 c14 cp A5 c5 xs2 b W' (Kd.C_below hbf.2.2 hb) hbf.2.1 (Kd.C_below hrw.2.2 hb) (by rw [hx2l]; exact hrw.2.1) hE
          rwa [hx2l] at this⟩
        have HI2 := Aside0.mk hI2
        have HF2 := Aside0.mk hF
        have HX2 := Aside0.mk hx2l
        have HKD := Aside0.mk hKD
        have HDD := Aside0.mk hD
        clear hI2 hF hxs2 hps hE hbf hrw hx2l hKD hD
        cases b with
        | true =>
          have HR := Aside0.mk (Option.some.inj ((if_pos rfl).symm.trans HF2.out))
          go_wp2_with (first | (go_at_call 69; (with_reducible refine (HEQ.out _ (by with_reducible repeat (first | exact Below.refl _ _ | refine below_drew ?_ | refine pw_below_drewN ?_ _))).mono ?_); rintro e w' ⟨rfl, ⟨nd, rfl⟩⟩) | fail)
          show LeavesInM Fence.wide 6 Try.prog _ _ _ _ .returning _
          exact leavesM (B := w.heap.size) (B' := W.heap.size) (v := .slice A5 l0.length c5) (fun W' => Kd.R Kd.bool 4 W' w.heap.size (fun k_ => k_ < b5) (.slice A5 l0.length c5) xs2 ∧ Below w.heap.size w W')
            (OwnFrom.and (ownR (fun _ => xs2)) (ownFrom_below (Nat.le_refl _) (Nat.le_refl _))) (fun w' hG => ⟨(results_tmp (fn := Try.f47) rfl _ _ _).trans rfl, _, rfl, by rw [← HR.out]; exact Kd.R_mono hG.1 (fun _ _ => trivial), hG.2⟩) _ _
            ((HI2.out.marks.cons (Nat.le_trans hws HDD.out) BW.out.size HKD.out).below (pw_below_drewN (Below.refl _ _) nd)) ⟨Kd.R_drewN HI2.out.row nd, pw_below_drewN HI2.out.low nd⟩
        | false =>
          have HR := Aside0.mk ((if_neg (by simp)).symm.trans HF2.out)
          go_wp2_with (first | (go_at_call 69; (with_reducible refine (HEQ.out _ (by with_reducible repeat (first | exact Below.refl _ _ | refine below_drew ?_ | refine pw_below_drewN ?_ _))).mono ?_); rintro e w' ⟨rfl, ⟨nd, rfl⟩⟩) | fail)
          have HI3 := HI2.out.below (pw_below_drewN (Below.refl W.heap.size W) nd)
          exact Handed.intro kf (by omega) (hJ _ _ _ ⟨kf, xs2, _, _, _, _, _, _, _, _, _, _, _, _, _, _, _, _, _, _, _, _, _, _, _, _, _, _, _, _, _, _, _, _, _, _, _, _, _, _, _, _, _, _, _, _, _, _, _, _, _, _, _, _, _, rfl, Nat.le_refl _, ⟨HI3.box5⟩, ⟨HI3.row⟩, ⟨HI3.low⟩, ⟨(HI2.out.marks.cons (Nat.le_trans hws HDD.out) BW.out.size HKD.out).below (pw_below_drewN (Below.refl _ _) nd)⟩, ⟨Nat.le_trans HG5.out (Nat.le_of_lt (blk_lt HI3.box5))⟩, HR⟩)
      case stop =>
        rintro D c pre W _ _ h _
        exact h.elim
end

/-! ### impl_Derives: function 17 -/
def impl_Derives.f (k : Nat) (l0 : List (S50)) (l1 : List Int) (a2 : Int) : Option (Bool) := (impl_KnownFault.f k l0 l1).bind fun t125 => (if t125 = 0 then ((impl_isPlace.f l0 a2).bind fun t126 => (if t126 = true then ((impl_opened.f k l0 l1).bind fun t127 => ((impl_makeable.f l0 t127).bind fun t130 => (if 0 ≤ a2 then (if a2 < (t130.length : Int) then (some (rdOf false t130 a2)) else (none)) else (none)))) else (some false))) else (some false))
theorem impl_Derives.mono : ∀ a0 a1 a2 k, LeO (impl_Derives.f k a0 a1 a2) (impl_Derives.f (k + 1) a0 a1 a2) := by
 intro a0 a1 a2 k; unfold impl_Derives.f; (repeat' first | (with_reducible first | exact impl_KnownFault.mono _ _ _ | exact impl_opened.mono _ _ _ | exact LeO.refl _ | exact LeO.none _ | refine LeO.ite ?_ ?_ | refine LeO.bind ?_ (fun _ => ?_)) | exact LeO.none _ | refine LeO.ite ?_ ?_ | refine LeO.bind ?_ (fun _ => ?_))
set_option maxHeartbeats 8000000 in
set_option maxRecDepth 100000 in
theorem impl_Derives.calls (k : Nat) (A0 : Option Addr) (c0 : Nat) (l0 : List (S50)) (A1 : Option Addr) (c1 : Nat) (l1 : List Int) (a2 : Int) (r : Bool) (w : World) (hr0 : Kd.C k50 w A0 l0.length l0) (hc0 : l0.length ≤ c0) (hr1 : Kd.C (Kd.int .i64) w A1 l1.length l1) (hc1 : l1.length ≤ c1) (h : impl_Derives.f k l0 l1 a2 = some r) :
  Calls Try.prog 17 #[.slice A0 l0.length c0, .slice A1 l1.length c1, .int .i64 a2] w fun e w' => e = .returned (.bool r) ∧ Below w.heap.size w w' := by
 have HR0 := A_ hr0; have HC0 := A_ hc0; clear hr0 hc0; have HR1 := A_ hr1; have HC1 := A_ hc1; clear hr1 hc1; have HB := A_ (Below.refl w.heap.size w); have H : ((impl_KnownFault.f k l0 l1).bind fun t125 => (if t125 = 0 then ((impl_isPlace.f l0 a2).bind fun t126 => (if t126 = true then ((impl_opened.f k l0 l1).bind fun t127 => ((impl_makeable.f l0 t127).bind fun t130 => (if 0 ≤ a2 then (if a2 < (t130.length : Int) then (some (rdOf false t130 a2)) else (none)) else (none)))) else (some false))) else (some false))) = some r := h; clear h; replace H := Option.bind_eq_some_iff.mp H; obtain ⟨t125, A40, H⟩ := H; (try dsimp only at H); have A4 := A_ A40; clear A40; by_cases c5 : t125 = 0
 ·
  rw [if_pos c5] at H; have c5b0 : (t125 == 0) = true := beq_iff_eq.mpr c5; have c5b1 : (t125 != 0) = false := bne_eq_false_iff_eq.mpr c5; clear c5; replace H := Option.bind_eq_some_iff.mp H; obtain ⟨t126, A60, H⟩ := H; (try dsimp only at H); have A6 := A_ A60; clear A60; by_cases c7 : t126 = true
  · subst c7; replace H := ifT H; replace H := Option.bind_eq_some_iff.mp H; obtain ⟨t127, A80, H⟩ := H; (try dsimp only at H); have A8 := A_ A80; clear A80; replace H := Option.bind_eq_some_iff.mp H; obtain ⟨t130, A90, H⟩ := H; (try dsimp only at H); have A9 := A_ A90; clear A90; have H1 := ifS H; clear H; obtain ⟨c10b0, H⟩ := H1; have H1 := ifS H; clear H; obtain ⟨c11b0, H⟩ := H1; obtain rfl := Option.some.inj H; go_enter Try.func17, Try.ntmps17; go_wp2_with (first | ((with_reducible refine gate_callee (f := 44) rfl ?_); refine gL_ (some 9) Try.func44 #[.slice A0 l0.length c0, .slice A1 l1.length c1] ?_; (with_reducible refine (impl_KnownFault.calls k _ _ l0 _ _ l1 t125 _ ?side1 ?side2 ?side3 ?side4 A4.out).mono ?_); (case side1 => exact cu HR0.out); (case side2 => exact HC0.out); (case side3 => exact cu HR1.out); (case side4 => exact HC1.out); rintro e w12 ⟨rfl, hb⟩; refine ⟨_, rfl, ?_⟩; have n0_ := A_ (below_step (lowU HB.out) hb); clear HB; have HB := n0_; clear n0_; (try clear hb); (try clear hb2); (try clear hk); (try clear hi)) | (go_at_call 45; (with_reducible refine (impl_isPlace.calls _ _ l0 a2 true _ ?side1 ?side2 A6.out).mono ?_); (case side1 => exact cU HR0.out HB.out); (case side2 => exact HC0.out); rintro e w' ⟨rfl, ⟨nd, rfl⟩⟩) | (go_at_call 47; (with_reducible refine (impl_opened.calls k _ _ l0 _ _ l1 t127 _ ?side1 ?side2 ?side3 ?side4 A8.out).mono ?_); (case side1 => repeat (first | exact (Kd.C_below HR0.out (lowU HB.out)) | (with_reducible refine Kd.C_alloc ?_ _) | (with_reducible refine Kd.C_drewN ?_ _) | (with_reducible refine Kd.C_drew ?_))); (case side2 => exact HC0.out); (case side3 => repeat (first | exact (Kd.C_below HR1.out (lowU HB.out)) | (with_reducible refine Kd.C_alloc ?_ _) | (with_reducible refine Kd.C_drewN ?_ _) | (with_reducible refine Kd.C_drew ?_))); (case side4 => exact HC1.out); rintro e w13 ⟨v128, rfl, ho0, hb⟩; have n0_ := A_ (Kd.R_lower ho0 (below_size (lowU HB.out))); have n1_ := A_ (below_step (lowU HB.out) hb); clear HB; have HO129 := n0_; have HB := n1_; clear n0_ n1_; (try clear hb); (try clear hb2); (try clear hk); (try clear hi); (try clear ho0); obtain ⟨Ao14, co14, eo14⟩ := Kd.R_slice HO129.out; subst eo14) | (go_at_call 46; (with_reducible refine (impl_makeable.calls _ _ l0 _ _ t127 t130 _ ?side1 ?side2 ?side3 ?side4 A9.out).mono ?_); (case side1 => exact cU HR0.out HB.out); (case side2 => exact HC0.out); (case side3 => exact cu (Kd.R_reads' HO129.out).2.2); (case side4 => exact (Kd.R_reads' HO129.out).2.1); rintro e w15 ⟨v131, rfl, ho0, hb⟩; have n0_ := A_ (Kd.R_elder' (rU HO129.out) (Kd.R_base ho0) hb); have n1_ := A_ (Kd.R_lower (Kd.R_new' ho0 (Kd.R_lt (rU HO129.out))) (below_size (lowU HB.out))); have n2_ := A_ (below_step (lowU HB.out) hb); clear HO129; clear HB; have HO129 := n0_; have HO132 := n1_; have HB := n2_; clear n0_ n1_ n2_; (try clear hb); (try clear hb2); (try clear hk); (try clear hi); (try clear ho0); obtain ⟨Ao16, co16, eo16⟩ := Kd.R_slice HO132.out; subst eo16; have p133 : 0 ≤ (a2 : Int) := dq; have q133 : a2 < (t130.length : Int) := dq; obtain ⟨ad133, e133, hx133_0⟩ := Kd.at_bool (Kd.R_reads' HO132.out).2.2 a2 p133 q133; cases e133; replace p133 := eq_true p133; replace q133 := eq_true q133)); go_ret; exact ⟨by first | rfl | (simp [errW_none, errW_some] <;> rfl) | (simp [*, errW_none, errW_some] <;> rfl), lowU HB.out⟩
  · replace c7 := Bool.eq_false_iff.mpr c7; subst c7; replace H := ifF H; obtain rfl := Option.some.inj H; go_enter Try.func17, Try.ntmps17; go_wp2_with (first | ((with_reducible refine gate_callee (f := 44) rfl ?_); refine gL_ (some 9) Try.func44 #[.slice A0 l0.length c0, .slice A1 l1.length c1] ?_; (with_reducible refine (impl_KnownFault.calls k _ _ l0 _ _ l1 t125 _ ?side1 ?side2 ?side3 ?side4 A4.out).mono ?_); (case side1 => exact cu HR0.out); (case side2 => exact HC0.out); (case side3 => exact cu HR1.out); (case side4 => exact HC1.out); rintro e w17 ⟨rfl, hb⟩; refine ⟨_, rfl, ?_⟩; have n0_ := A_ (below_step (lowU HB.out) hb); clear HB; have HB := n0_; clear n0_; (try clear hb); (try clear hb2); (try clear hk); (try clear hi)) | (go_at_call 45; (with_reducible refine (impl_isPlace.calls _ _ l0 a2 false _ ?side1 ?side2 A6.out).mono ?_); (case side1 => exact cU HR0.out HB.out); (case side2 => exact HC0.out); rintro e w' ⟨rfl, ⟨nd, rfl⟩⟩)); go_ret; exact ⟨by first | rfl | (simp [errW_none, errW_some] <;> rfl) | (simp [*, errW_none, errW_some] <;> rfl), lowU HB.out⟩
 · rw [if_neg c5] at H; have c5b0 : (t125 == 0) = false := beq_eq_false_iff_ne.mpr c5; have c5b1 : (t125 != 0) = true := bne_iff_ne.mpr c5; obtain rfl := Option.some.inj H; go_enter Try.func17, Try.ntmps17; go_wp2_with (first | ((with_reducible refine gate_callee (f := 44) rfl ?_); refine gL_ (some 9) Try.func44 #[.slice A0 l0.length c0, .slice A1 l1.length c1] ?_; (with_reducible refine (impl_KnownFault.calls k _ _ l0 _ _ l1 t125 _ ?side1 ?side2 ?side3 ?side4 A4.out).mono ?_); (case side1 => exact cu HR0.out); (case side2 => exact HC0.out); (case side3 => exact cu HR1.out); (case side4 => exact HC1.out); rintro e w18 ⟨rfl, hb⟩; refine ⟨_, rfl, ?_⟩; have n0_ := A_ (below_step (lowU HB.out) hb); clear HB; have HB := n0_; clear n0_; (try clear hb); (try clear hb2); (try clear hk); (try clear hi))); go_ret; exact ⟨by first | rfl | (simp [errW_none, errW_some] <;> rfl) | (simp [*, errW_none, errW_some] <;> rfl), lowU HB.out⟩

end Go.Proofs.Ytidfgmekhededaa.PFnOpens
