-- Written by wip/tools/myprint.py of this claim's session, over the kit's print, round texts of its own: own text.
import Derived.Test.YtbficbiignpnoaaDoorPFnExactPolicyTextx0
import Derived.Test.YtbficbiignpnoaaDoorPFnExactPolicyTextx8
namespace Go.Proofs.YtbficbiignpnoaaDoor.PFnExactPolicyText
open Go.RowKit Go.Proofs.YtbficbiignpnoaaDoorW.PrintWords Go.Proofs.YtbficbiignpnoaaDoorW.PrintLast Go.Proofs.YtbficbiignpnoaaDoorW.PrintMore
attribute [local go_sem] max2_int min2_int max_two min_two max_three min_three max_four min_four   -- for this text's walks alone
set_option linter.unusedVariables false
set_option linter.unusedSimpArgs false

/-! ### (my own text) catWords -/
-- two strings joined, where the sum of their lengths is an int
def cat (a b : ByteArray) : Option ByteArray := if a.size + b.size ≤ 9223372036854775807 then some (a ++ b) else none
section
variable {P : Program} {ops : Array Oper} {rest : List Oper} {o : Oper} {a : Act} {Q : Exit → Act → World → Prop} {W : World} {t u : TypeId} {x y : Operand} {s1 s2 r : ByteArray}
theorem run_cat (ho : o.op = .binOp .add t x y u) (ht : P.underlying t = some (.string)) (hx : a.eval x = .string s1) (hy : a.eval y = .string s2) (hc : cat s1 s2 = some r) (W : World) : (execOp a.eval o).run P W = .ok (.value (.string r)) W := by
  unfold cat at hc
  by_cases c : s1.size + s2.size ≤ 9223372036854775807
  · rw [if_pos c] at hc
    obtain rfl := Option.some.inj hc
    have c1 := eq_true c
    have c2 : (9223372036854775807 < s1.size + s2.size) = False := eq_false (Nat.not_lt.2 c)
    unfold execOp
    simp only [ho, hx, hy]
    go_simp
    first | done | rfl | (simp [*]; done)
  · rw [if_neg c] at hc
    cases hc
theorem gate_cat (_ho : o.op = .binOp .add t x y u) (h : wpList P ops Q (o :: rest) a W) : wpList P ops Q (o :: rest) a W := h
theorem ev_cat (h : wpList P ops Q rest (a.put o.dst (.string r)) W) (hgd : o.guard = none := by rfl) (ho : o.op = .binOp .add t x y u := by rfl) (ht : P.underlying t = some (.string) := by first | rfl | with_reducible assumption) (hx : a.eval x = .string s1 := by rfl) (hy : a.eval y = .string s2 := by rfl) (hc : Aside0 (cat s1 s2 = some r) := by with_reducible assumption) : wpList P ops Q (o :: rest) a W :=
  Kd.event_run hgd (run_cat ho ht hx hy hc.out W) h
/-- A call of a literal that holds what it captured. -/
theorem goesV_ {oi : Oper} {N : Option Tmp} {K : Act → World → Prop} {f : FuncId} {fn : Func} {z : Operand} {lb : Array Value} {az : Array Operand} {ts : Array TypeId} (hf : P.funcs[f]? = some fn) (hname : (fn.name == "runtime.NumGoroutine") = false) (hb : fn.body.isSome = true) (args : Array Value)
    (hw : Region.wanted oi (yielded ops a.tmps) = true) (hN : oi.dst = N) (hop : oi.op = .call { callee := .value z, args := az, argTypes := ts }) (hz : a.eval z = .func (.func f) #[] lb) (hargs : az.map a.eval = args)
    (h : Calls P f (args ++ lb) W fun e w' => ∃ v, e = .returned v ∧ K (a.put N v) w') : if Region.wanted oi (yielded ops a.tmps) = true then Oper.wp P oi a W K Q else K (a.put N undef) W := by
  refine call_ f (args ++ lb) hw hN ?_ h
  have he := enters_ hf hname hb (args ++ lb) W
  unfold execOp
  simp [hop, hz, resolve, Deferred.ofValue, invoke, hargs, he]
theorem goesW_ {oi : Oper} (N : Option Tmp) (hd : oi.dst = N) (hg : oi.guard = none) {f : FuncId} {fn : Func} {z : Operand} {lb : Array Value} {az : Array Operand} {ts : Array TypeId} (hf : P.funcs[f]? = some fn) (hname : (fn.name == "runtime.NumGoroutine") = false) (hb : fn.body.isSome = true) (args : Array Value)
    (hop : oi.op = .call { callee := .value z, args := az, argTypes := ts }) (hz : a.eval z = .func (.func f) #[] lb) (hargs : az.map a.eval = args)
    (h : Calls P f (args ++ lb) W fun e w' => ∃ v, e = .returned v ∧ wpList P ops Q rest (a.put N v) w') : wpList P ops Q (oi :: rest) a W := by
  refine wpList_plain hg fun K hK => ?_
  have he := enters_ hf hname hb (args ++ lb) W
  have hrun : (execOp a.eval oi).run P W = .ok (.enter f (args ++ lb)) W := by
    unfold execOp
    simp [hop, hz, resolve, Deferred.ofValue, invoke, hargs, he]
  unfold Oper.wp
  rw [hrun, Oper.upon_enter]
  refine h.mono fun e w'' hh => ?_
  obtain ⟨v, rfl, hk⟩ := hh
  subst hd
  exact hK _ _ hk
def One (b : Nat) (c : Array Value) (W : World) : Prop := ∀ j, W.cell? ⟨b, j, none⟩ = c[j]?
theorem wn_ {o : Oper} {y : Nat → Option Bool} (h : o.guard = none) : Region.wanted o y = true := by simp [Region.wanted, h]
end
section
variable {P : Program} {ops : Array Oper} {Q : Exit → Act → World → Prop} {md : Region.Mode} {S : World → Prop} {ds : List Nat} {w W : World} {G : World → Prop} {z : Option Nat} {bs : Bx} {rs : List Rw}
theorem CS.one (h : CS w G z bs rs W) (k : Nat) {b : Nat} {cs : Array Value} {t : TypeId} (hk : bs[k]? = some (b, cs, t)) : One b cs W := fun j => h.c k hk j
theorem CS.c0 (h : CS w G z bs rs W) (k : Nat) {b : Nat} {v : Value} {t : TypeId} (hk : bs[k]? = some (b, #[v], t)) : W.cell? ⟨b, 0, none⟩ = some v := h.c k hk 0
theorem gate_rg {id : Nat} {a : Act} (k : Nat) (_h : id = k) (h : (Code.region id ops true).wp P Q a W) : (Code.region id ops true).wp P Q a W := h
theorem CS.rg1 {id n : Nat} {a : Act} (i : Nat) (l : Array Bool) {b1 : Nat} {c1 : Array Value} {t1 : TypeId} (D : CS w G z bs rs W) (h1 : bs[i]? = some (b1, c1, t1)) (hn : ops.size = n) (hl : Array.replicate n false = l)
    (h : CS w G z bs rs W.drew → wpAnyLast P .any ops Q (One b1 c1) [] n l a W.drew) (hm : P.follows .mixedOrders = true := by kernel_rfl) : (Code.region id ops true).wp P Q a W :=
  start_ l hm hn hl (fun j => D.drew.c i h1 j) fun _ => h D.drew
theorem tk1 {fuel : Nat} {l : Array Bool} {a a' : Act} {oi : Oper} {v : Value} (i : Nat) (N : Option Tmp) (l' : Array Bool) (hS : S W) (h : wpAnyLast P md ops Q S ds fuel l' a' W) (hi : ops[i]? = some oi := by rfl) (hN : oi.dst = N := by rfl) (hc : takeB md ops ds l l' i = true := by kernel_rfl)
    (hQ : ∀ c a w, Q (.panic c) (a.put oi.dst v) w → Q (.panic c) a w := by exact fun _ _ _ h => h) (hy : YieldsIf P ops S oi v a := by exact Or.inl ⟨by rfl, by (intro w' s0; have s00 := s0 0; have s01 := s0 1; have s02 := s0 2; have s03 := s0 3; go_simp; with_reducible rfl)⟩) (ha : a.put N v = a' := by (simp only [Act.put, List.setIfInBounds_toArray, List.set_cons_zero, List.set_cons_succ, i64_w, i32_w]; rfl)) : wpAnyLast P md ops Q S ds (fuel + 1) l a W :=
  take_ l' hi hN hc hQ hy hS ha h
theorem pcat {fuel : Nat} {l : Array Bool} {a a' : Act} {oi : Oper} {t u : TypeId} {x y : Operand} {s1 s2 r : ByteArray} (i : Nat) (N : Option Tmp) (l' : Array Bool) (hcat : Aside0 (cat s1 s2 = some r)) (h : wpAnyLast P md ops Q S ds fuel l' a' W) (hi : ops[i]? = some oi := by rfl) (hN : oi.dst = N := by rfl) (hc : anyB md ops l l' i = true := by kernel_rfl)
    (hQ : ∀ c a w, Q (.panic c) (a.put oi.dst (.string r)) w → Q (.panic c) a w := by exact fun _ _ _ h => h) (hw : Region.wanted oi (yielded ops a.tmps) = true := by rfl) (ho : oi.op = .binOp .add t x y u := by rfl) (ht : P.underlying t = some (.string) := by first | rfl | with_reducible assumption) (hx : a.eval x = .string s1 := by rfl) (hy : a.eval y = .string s2 := by rfl)
    (ha : a.put N (.string r) = a' := by (simp only [Act.put, List.setIfInBounds_toArray, List.set_cons_zero, List.set_cons_succ, i64_w, i32_w]; rfl)) : wpAnyLast P md ops Q S ds (fuel + 1) l a W :=
  pure_ l' hi hN hc hQ (Or.inl ⟨hw, fun W' => run_cat ho ht hx hy hcat.out W'⟩) ha h
end

/-! ### (my own text) stWords -/
-- a whole element of the call's own row is written; a row is appended; two boxes change places
theorem CS.swap {w W : World} {G : World → Prop} {z : Option Nat} {x y : Nat × Array Value × TypeId} {bs : Bx} {rs : List Rw} (h : CS w G z (x :: y :: bs) rs W) : CS w G z (y :: x :: bs) rs W := by
  have h1 := List.pairwise_cons.1 h.ne
  have h2 := List.pairwise_cons.1 h1.2
  refine ⟨h.gc, h.g, fun u hu => h.blk u ?_, List.pairwise_cons.2 ⟨fun u hu => ?_, List.pairwise_cons.2 ⟨fun u hu => h1.1 u (List.mem_cons_of_mem _ hu), h2.2⟩⟩, fun φ hφ => ?_⟩
  · simp only [List.mem_cons] at hu ⊢
    rcases hu with h3 | h3 | h3
    · exact .inr (.inl h3)
    · exact .inl h3
    · exact .inr (.inr h3)
  · rcases List.mem_cons.1 hu with rfl | h3
    · exact (h1.1 y (List.mem_cons_self ..)).symm
    · exact h2.1 u h3
  · obtain ⟨S, h3, h4⟩ := h.rows φ hφ
    refine ⟨S, h3, fun k hk => ⟨(h4 k hk).1, (h4 k hk).2.1, (h4 k hk).2.2.1, fun u hu => (h4 k hk).2.2.2 u ?_⟩⟩
    simp only [List.mem_cons] at hu ⊢
    rcases hu with h5 | h5 | h5
    · exact .inr (.inl h5)
    · exact .inl h5
    · exact .inr (.inr h5)
theorem CS.form {w W : World} {G : World → Prop} {z : Option Nat} {bs : Bx} {α : Type} {d : Kd α} {e base : Nat} {A : Option Addr} {c : Nat} {xs : List α} (h : CS w G z bs [fun ok W' => d.R e W' base ok (.slice A xs.length c) xs] W) (hp : 0 < xs.length) : ∃ g, A = some ⟨g, 0, none⟩ := by
  obtain ⟨g, cap, hv, _⟩ := Kd.R_form (h.row 0 rfl) hp
  injection hv with h1
  exact ⟨g, h1⟩
theorem CS.regrown {w W w1 : World} {G : World → Prop} {z : Option Nat} {bs : Bx} {α : Type} {d : Kd α} {e : Nat} {v v1 : Value} {xs ys : List α} {S : Nat → Prop} (hD : CS w G z bs [fun ok W' => d.R e W' w.heap.size ok v xs] W) (h1 : d.R e W w.heap.size S v xs) (h2 : ∀ k, S k → w.heap.size ≤ k ∧ k < W.heap.size ∧ some k ≠ z ∧ ∀ x ∈ bs, x.1 ≠ k)
    (hR : d.R e w1 w.heap.size (fun k => S k ∨ W.heap.size ≤ k) v1 ys) (hg : W.grownBy w1 v.ownBlock) : CS w G z bs [fun ok W' => d.R e W' w.heap.size ok v1 ys] w1 := by
  refine ⟨hD.gc, hD.gc.gr _ _ _ hD.g hg fun k e => ⟨(h2 k (h1.1 k e)).1, (h2 k (h1.1 k e)).2.2.1⟩, fun y hy => ⟨?_, (hD.blk y hy).2⟩, hD.ne, fun φ hφ => ?_⟩
  · refine blk_grown (hD.blk y hy).1 hg fun e1 => ?_
    exact (h2 _ (h1.1 y.1 e1.symm)).2.2.2 y hy rfl
  · obtain rfl := List.mem_singleton.1 hφ
    refine ⟨fun k => (S k ∨ W.heap.size ≤ k) ∧ w.heap.size ≤ k ∧ k < w1.heap.size, ⟨stab_R _ _ _ _ _, Kd.R_mono (Kd.R_bound hR) fun k hk => ⟨hk.1, hk.2.1, hk.2.2.1⟩⟩, fun k hk => ⟨hk.2.1, hk.2.2, ?_, fun y hy => ?_⟩⟩
    · rcases hk.1 with h4 | h4
      · exact (h2 k h4).2.2.1
      · exact fun e => by have := hD.gc.zlt _ hD.g k e.symm; omega
    rcases hk.1 with h4 | h4
    · exact (h2 k h4).2.2.2 y hy
    · have := blk_lt (hD.blk y hy).1
      omega
theorem CS.rowst {P : Program} {o : Oper} {a : Act} {w W : World} {G : World → Prop} {z : Option Nat} {bs : Bx} {α : Type} (d : Kd α) {t e : TypeId} {p x : Operand} {gb cap : Nat} {xs : List α} (i : Int) (x' : α) (seg : List Value)
    (hD : CS w G z bs [fun ok W' => d.R e W' w.heap.size ok (.slice (some ⟨gb, 0, none⟩) xs.length cap) xs] W) (zd : α) (h0 : 0 ≤ i) (h1 : i < (xs.length : Int)) (hM : ∀ W, d.M W w.heap.size (fun _ => False) x' seg) (hsz : seg.length = d.sz) (hone : ∀ q ∈ seg, q.oneCell' = true)
    (ht : (P.info? t).map (·.size) = some seg.length) (ho : o.op = .store t p x) (haddr : a.eval p = .pointer (some ⟨gb, i.toNat * d.sz, none⟩)) (hx : a.eval x = .agg seg.toArray) :
    ∃ W1, (execOp a.eval o).run P W = .ok .skip W1 ∧ CS w G z bs [fun ok W' => d.R e W' w.heap.size ok (.slice (some ⟨gb, 0, none⟩) (xs.set i.toNat x').length cap) (xs.set i.toNat x')] W1 := by
  obtain ⟨S, hS, h2⟩ := hD.rows _ (List.mem_singleton.2 rfl)
  have hR := hS.2
  obtain ⟨c, hcl, _, hcc, _⟩ := Kd.R_elem hR zd i h0 h1
  have hseg : c.take 0 ++ seg ++ c.drop (0 + seg.length) = seg := by
    rw [List.take_zero, List.nil_append, Nat.zero_add, hsz, ← hcl, List.drop_length, List.append_nil]
  obtain ⟨hrow, hg⟩ := Kd.R_seg (okp := fun _ => False) (seg := seg) hR i h0 h1 hcl hcc (j := 0) (by omega) (by rw [hseg]; exact hM W) (fun _ hk => hk.elim)
  simp only [Nat.add_zero] at hrow hg
  have hrun : (Instr.storeAt t (.pointer (some ⟨gb, i.toNat * d.sz, none⟩)) (.agg seg.toArray)).run P W = .ok () (W.setCells gb (i.toNat * d.sz) seg) := by
    obtain ⟨_, inner, hown, hr⟩ := hR
    rcases hown.2 with ⟨hv, _⟩ | ⟨g', cap', cur, hv, hb, hh, hnc, hcm, hcs, _⟩
    · cases hv
    injection hv with ha _ hc
    injection ha with ha
    injection ha with hg'
    subst hg'; subst hc
    refine run_store_run t _ seg hh rfl ht ?_ hone
    have h3 : i.toNat * d.sz + d.sz ≤ xs.length * d.sz := by rw [← Nat.succ_mul]; exact Nat.mul_le_mul_right _ (by omega)
    have h4 : xs.length * d.sz ≤ cap * d.sz := Nat.mul_le_mul_right _ (by omega)
    omega
  refine ⟨W.setCells gb (i.toNat * d.sz) seg, ?_, ?_⟩
  · unfold execOp
    simp only [ho, haddr, hx, Sem.run_bind, Sem.run_pure, Result.andThen_ok, hrun]
  · rw [List.length_set]
    exact CS.regrown hD hR h2 (Kd.R_mono hrow fun _ h => .inl h) hg
theorem ev_rowst {P : Program} {ops : Array Oper} {rest : List Oper} {o : Oper} {a : Act} {Q : Exit → Act → World → Prop} {w W : World} {G : World → Prop} {z : Option Nat} {bs : Bx} {α : Type} (d : Kd α) {t e : TypeId} {p : Tmp} {x : Operand} {gb cap : Nat} {xs : List α} (i : Int) (x' : α) (seg : List Value) (zd : α)
    (h : ∀ w1, CS w G z bs [fun ok W' => d.R e W' w.heap.size ok (.slice (some ⟨gb, 0, none⟩) (xs.set i.toNat x').length cap) (xs.set i.toNat x')] w1 → wpList P ops Q rest a w1)
    (hD : CS w G z bs [fun ok W' => d.R e W' w.heap.size ok (.slice (some ⟨gb, 0, none⟩) xs.length cap) xs] W) (h0 : 0 ≤ i) (h1 : i < (xs.length : Int)) (hM : ∀ W, d.M W w.heap.size (fun _ => False) x' seg) (hone : ∀ q ∈ seg, q.oneCell' = true) (hsz : seg.length = d.sz := by rfl)
    (ht : (P.info? t).map (·.size) = some seg.length := by kernel_rfl) (hN : o.dst = none := by rfl) (hgd : o.guard = none := by rfl) (ho : o.op = .store t (.tmp p) x := by rfl) (haddr : a.eval (.tmp p) = .pointer (some ⟨gb, i.toNat * d.sz, none⟩) := by rfl) (hx : a.eval x = .agg seg.toArray := by rfl) : wpList P ops Q (o :: rest) a W := by
  obtain ⟨W1, hr, hW⟩ := CS.rowst d i x' seg hD zd h0 h1 hM hsz hone ht ho haddr hx
  refine store_event hgd ho hN hr ?_
  rintro w' rfl
  exact h _ hW
theorem ev_appends {P : Program} {ops : Array Oper} {rest : List Oper} {o : Oper} {a : Act} {Q : Exit → Act → World → Prop} {w W : World} {G : World → Prop} {z : Option Nat} {bs : Bx} {α : Type} (d : Kd α) (t e : TypeId) (zv : Value) (bytes : Nat) (s x : Operand) {A B : Option Addr} {c m c1 : Nat} {xs ys : List α}
    (h : ∀ A c w1, CS w G z bs [fun ok W' => d.R e W' w.heap.size ok (.slice A (xs ++ ys).length c) (xs ++ ys)] w1 → wpList P ops Q rest (a.put o.dst (.slice A (xs ++ ys).length c)) w1)
    (hl : (xs.length + m) * bytes ≤ 140737488355328) (hD : CS w G z bs [fun ok W' => d.R e W' w.heap.size ok (.slice A xs.length c) xs] W) (hr : ReadsRow (d.K W) d.sz W B m ys) (hKM : ∀ x cs, d.K W x cs → d.M W w.heap.size (fun _ => False) x cs)
    (hgd : o.guard = none := by rfl) (ho : o.op = .call { callee := .builtin .append, args := #[s, x], argTypes := #[t, t] } := by rfl) (hs : a.eval s = .slice A xs.length c := by rfl) (hx : a.eval x = .slice B m c1 := by rfl)
    (ht : P.underlying t = some (.slice e) := by rfl) (hinfo : (P.info? e).map (fun i => (i.zero, i.size, i.bytes)) = some (some zv, d.sz, bytes) := by kernel_rfl) (hz : zv.cells.size = d.sz := by rfl) (hs0 : 0 < d.sz := by decide) (hb0 : 0 < bytes := by decide) : wpList P ops Q (o :: rest) a W := by
  obtain ⟨S, h1, h2⟩ := hD.rows _ (List.mem_singleton.2 rfl)
  have hsz : w.heap.size ≤ W.heap.size := hD.gc.size _ hD.g
  refine Kd.R_append_rows d (w0 := W) w.heap.size hgd s x t e zv bytes ho ht hinfo hz hs0 hb0 _ xs ys B m c1 (fun k => S k ∨ W.heap.size ≤ k) (fun _ => False) hs hx (Kd.R_mono h1.2 fun _ hk => .inl hk) hr hKM (fun _ hk => hk.elim) (fun k hk => .inr hk) (Below.refl _ _) hsz hl ?_
  intro v1 w1 hR hb hg hat
  obtain ⟨A1, c2, rfl⟩ := Kd.R_slice hR
  exact h A1 c2 w1 (CS.regrown hD h1.2 h2 hR hg)

/-! ### (my own text) polWords -/
theorem bu_fresh {T e B b : Nat} {W : World} (hB : B ≤ b) (hb : W.heap[b]? = some (.cells #[.pointer none, .slice none 0 0] T (0, 0))) : Lib.IsBuilderF T e B b (Lib.byteCells []) W := .inl ⟨hB, .slice none 0 0, hb, World.ownsRowF_nil _ _ _ _, by simp [Value.ownBlock]⟩
theorem bu_below {T e B b : Nat} {l : List Value} {W W1 : World} (h : Lib.IsBuilderF T e B b l W) (hb : Below W.heap.size W W1) : Lib.IsBuilderF T e B b l W1 := by
  have key : ∀ p, Lib.BuilderAtF T e B b p l W → Lib.BuilderAtF T e B b p l W1 := fun p ⟨hB, v, hc, ho, hn⟩ =>
    ⟨hB, v, (hb.block b (blk_lt hc)).trans hc, ho.kept (grown_of_below hb none) (by cases v.ownBlock <;> simp), hn⟩
  exact h.elim (fun x => .inl (key _ x)) (fun x => .inr (key _ x))
theorem CS.norow {w W : World} {G : World → Prop} {z : Option Nat} {bs : Bx} {rs : List Rw} (h : CS w G z bs rs W) : CS w G z bs [] W := ⟨h.gc, h.g, h.blk, h.ne, by simp⟩
theorem CS.litS {w W : World} {G : World → Prop} {z : Option Nat} {bs : Bx} {rs : List Rw} {b : Nat} {cs : Array Value} {t : TypeId} (D : CS w G z ((b, cs, t) :: bs) rs W) (xs : List ByteArray) (hc : cs.toList = xs.map Value.string) (hm : xs.length ≤ 9223372036854775807) : Kd.C Kd.string W (some ⟨b, 0, none⟩) xs.length xs := by
  refine ⟨rfl, hm, fun _ => ⟨_, rfl, fun j p hj => ⟨[.string p], rfl, rfl, fun i u hi => ?_⟩⟩⟩
  obtain rfl : i = 0 := by
    have := (List.getElem?_eq_some_iff.1 hi).1
    simp at this
    omega
  obtain rfl : Value.string p = u := by simpa using hi
  have hq := D.c 0 rfl j
  have e1 : cs[j]? = some (Value.string p) := by
    rw [← Array.getElem?_toList, hc, List.getElem?_map, hj]
    rfl
  rw [e1] at hq
  rw [show (⟨b, 0, none⟩ : Addr).add (j * Kd.string.sz + 0) = ⟨b, j, none⟩ from by rw [show j * Kd.string.sz + 0 = j from Nat.mul_one j]; unfold Addr.add; split <;> simp_all]
  exact hq
section
variable {P : Program} {ops : Array Oper} {Q : Exit → Act → World → Prop} {md : Region.Mode} {S : World → Prop} {ds : List Nat} {w W : World} {G : World → Prop} {z : Option Nat} {bs : Bx} {rs : List Rw}
theorem CS.rgS {id n : Nat} {a : Act} (l : Array Bool) (D : CS w G z bs rs W) (hst : ∀ W', CS w G z bs [] W' → S W') (h : (∀ W', CS w G z bs [] W' → S W') → ∀ w1, CS w G z bs rs w1 → wpAnyLast P .any ops Q S [] n l a w1) (hn : ops.size = n := by rfl) (hl : Array.replicate n false = l := by rfl) (hm : P.follows .mixedOrders = true := by kernel_rfl) : (Code.region id ops true).wp P Q a W :=
  start_ l hm hn hl (hst _ D.drew.norow) fun _ => h hst _ D.drew
theorem tq {fuel : Nat} {l : Array Bool} {a a' : Act} {oi : Oper} {v : Value} (i : Nat) (N : Option Tmp) (l' : Array Bool) (hS : S W) (h : wpAnyLast P md ops Q S ds fuel l' a' W) (hi : ops[i]? = some oi := by rfl) (hN : oi.dst = N := by rfl) (hc : takeB md ops ds l l' i = true := by kernel_rfl)
    (hQ : ∀ c a w, Q (.panic c) (a.put oi.dst v) w → Q (.panic c) a w := by exact fun _ _ _ h => h) (hy : YieldsIf P ops S oi v a := by exact Or.inl ⟨by rfl, by (intro w' hs; (repeat (obtain ⟨_, hs⟩ := hs)); go_simp; with_reducible rfl)⟩) (ha : a.put N v = a' := by (simp only [Act.put, List.setIfInBounds_toArray, List.set_cons_zero, List.set_cons_succ, i64_w, i32_w]; rfl)) : wpAnyLast P md ops Q S ds (fuel + 1) l a W :=
  take_ l' hi hN hc hQ hy hS ha h
theorem litB {K : Act → World → Prop} {a : Act} {oi : Oper} {N : Option Tmp} {R : Result Next} {cs : Array Value} {t : TypeId} {m : Nat} (h : ∀ b w1, CS w G z ((b, cs, t) :: bs) rs w1 → K (a.put N (.slice (some ⟨b, 0, none⟩) m m)) w1) (hD : CS w G z bs rs W)
    (hw : Region.wanted oi (yielded ops a.tmps) = true := by exact wn_ rfl) (hN : oi.dst = N := by rfl) (hrun : (execOp a.eval oi).run P W = R := by (go_simp; first | done | rfl))
    (hR : R = .ok (.value (.slice (some ⟨W.heap.size, 0, none⟩) m m)) (W.alloc (.cells cs t (0, 0))) := by rfl) : if Region.wanted oi (yielded ops a.tmps) = true then Oper.wp P oi a W K Q else K (a.put N undef) W :=
  value_ hw hN (hrun.trans hR) (h _ _ (hD.box rfl (blk_new W _) (below_alloc (Below.refl _ _) _)))
theorem litR {K : Act → World → Prop} {a : Act} {oi : Oper} {N : Tmp} (e : TypeId) (xs : List ByteArray) (D : CS w G z bs [] W) (h : ∀ A c w1, CS w G z bs [fun ok W' => Kd.string.R e W' w.heap.size ok (.slice A xs.length c) xs] w1 → K (a.put (some N) (.slice A xs.length c)) w1)
    (hm : xs.length ≤ 9223372036854775807 := by simp) (hw : Region.wanted oi (yielded ops a.tmps) = true := by exact wn_ rfl) (hd : oi.dst = some N := by rfl) (hrun : (execOp a.eval oi).run P W = .ok (.value (.slice (some ⟨W.heap.size, 0, none⟩) xs.length xs.length)) (W.alloc (.cells (xs.map Value.string).toArray e)) := by (go_simp; first | done | rfl)) :
    if Region.wanted oi (yielded ops a.tmps) = true then Oper.wp P oi a W K Q else K (a.put (some N) undef) W := by
  rw [← hd]
  refine Kd.R_lit_step Kd.string (w0 := W) W.heap.size e hw hd (xs := xs) (inner := xs.map Value.string) (ok := fun _ => True) (okp := fun _ => True) hrun (Kd.reps_scalar (enc := Value.string) xs) (fun _ h => h) trivial (Below.refl _ _) (Nat.le_refl _) hm ?_
  intro v1 w1 hR hb _ _
  obtain ⟨A, c', rfl⟩ := Kd.R_slice hR
  rw [hd]
  exact h A c' w1 (CS.addrow D (D.gc.size _ D.g) (D.below hb) hR (Nat.le_refl _))
theorem apR {K : Act → World → Prop} {a : Act} {oi : Oper} {N : Tmp} (t e : TypeId) (zv : Value) (bytes : Nat) (s x : Operand) {A B : Option Addr} {c m c1 : Nat} {xs ys : List ByteArray} (D : CS w G z bs [fun ok W' => Kd.string.R e W' w.heap.size ok (.slice A xs.length c) xs] W) (hr : Kd.C Kd.string W B m ys)
    (h : ∀ A c w1, CS w G z bs [fun ok W' => Kd.string.R e W' w.heap.size ok (.slice A (xs ++ ys).length c) (xs ++ ys)] w1 → K (a.put (some N) (.slice A (xs ++ ys).length c)) w1) (hl : (xs.length + m) * bytes ≤ 140737488355328 := by simp)
    (hw : Region.wanted oi (yielded ops a.tmps) = true := by exact wn_ rfl) (hd : oi.dst = some N := by rfl) (ho : oi.op = .call { callee := .builtin .append, args := #[s, x], argTypes := #[t, t] } := by rfl) (hs : a.eval s = .slice A xs.length c := by rfl) (hx : a.eval x = .slice B m c1 := by rfl)
    (ht : P.underlying t = some (.slice e) := by rfl) (hinfo : (P.info? e).map (fun i => (i.zero, i.size, i.bytes)) = some (some zv, 1, bytes) := by kernel_rfl) (hz : zv.cells.size = 1 := by rfl) (hb0 : 0 < bytes := by decide) :
    if Region.wanted oi (yielded ops a.tmps) = true then Oper.wp P oi a W K Q else K (a.put (some N) undef) W := by
  obtain ⟨S0, h1, h2⟩ := D.rows _ (List.mem_singleton.2 rfl)
  have hsz : w.heap.size ≤ W.heap.size := D.gc.size _ D.g
  rw [← hd]
  refine Kd.R_append_rows_step Kd.string (w0 := W) w.heap.size hw s x t e zv bytes ho ht hinfo hz (by decide) hb0 _ xs ys B m c1 (fun k => S0 k ∨ W.heap.size ≤ k) (fun _ => False) hs hx (Kd.R_mono h1.2 fun _ hk => .inl hk) hr (fun _ _ h => h) (fun _ hk => hk.elim) (fun k hk => .inr hk) (Below.refl _ _) hsz hl ?_
  intro v1 w1 hR hb hg hat
  obtain ⟨A1, c2, rfl⟩ := Kd.R_slice hR
  rw [hd]
  exact h A1 c2 w1 (CS.regrown D h1.2 h2 hR hg)
end
theorem Tryd.Builder_WriteString_k (B b : Nat) (bs : List Value) (s : ByteArray) (w : World) (h : Lib.IsBuilderF 80 5 B b bs w) (hlen : bs.length + s.size ≤ 140737488355328) (hBw : B ≤ w.heap.size) :
    Calls Tryd.prog 48 #[.pointer (some ⟨b, 0, none⟩), .string s] w fun e w' => e = .returned (.tuple #[.int .i64 s.size, .nilIface]) ∧ (Lib.BuilderAtF 80 5 B b (.pointer (some ⟨b, 0, none⟩)) (bs ++ Lib.strCells s) w' ∧ Below B w w' ∧ Lib.OthersKept 5 (some b) w w') :=
  Any.Builder_WriteString_k (P := Tryd.prog) (ρ := Tryd.lays156_ren) { Tryd.lays156 with } Tryd.Builder_Extra_156 B b bs s w h hlen hBw

/-! ### impl_policyText: function 28 (my own text) -/
def impl_policyText.range (k : Nat) (a b : Int) : Option ByteArray := (impl_addressText.f k a).bind fun x => (cat x ⟨#[45]⟩).bind fun u => (impl_addressText.f k b).bind fun y => cat u y
def impl_policyText.word (a : Int) : Option ByteArray := if a = 1 then some ⟨#[100, 114, 111, 112]⟩ else if a = 2 then some ⟨#[112, 97, 115, 115]⟩ else if a = 3 then some ⟨#[115, 101, 97, 108]⟩ else none
def impl_policyText.fin (xs : List ByteArray) : Option ByteArray := (strings_Join.f xs ⟨#[32]⟩).bind fun j => cat j ⟨#[10]⟩
def impl_policyText.line (k : Nat) (e0 e1 e2 e3 e6 e7 e8 e9 e10 : Int) : Option ByteArray := (impl_policyText.word e9).bind fun wd => (impl_policyText.range k e0 e1).bind fun s1 => (impl_policyText.range k e2 e3).bind fun s2 => (impl_decimal.f e8).bind fun p => (impl_decimal.f e6).bind fun q => (cat q ⟨#[45]⟩).bind fun u => (impl_decimal.f e7).bind fun q2 => (cat u q2).bind fun s3 =>
  if e9 = 3 then (impl_decimal.f e10).bind fun pe => impl_policyText.fin ([wd, s1, s2] ++ [p, s3] ++ [pe]) else impl_policyText.fin ([wd, s1, s2] ++ [p, s3])
def impl_policyText.go (k : Nat) : List S50 → List UInt8 → Option ByteArray
  | [], l => some ⟨l.toArray⟩
  | x :: xs, l => (impl_policyText.line k x.f0.f0.f0 x.f0.f0.f1 x.f0.f1.f0 x.f0.f1.f1 x.f0.f3.f0 x.f0.f3.f1 x.f0.f4 x.f1 x.f2).bind fun s => if l.length + s.size ≤ 140737488355328 then impl_policyText.go k xs (l ++ s.data.toList) else none
def impl_policyText.f (k : Nat) (l0 : List S50) : Option ByteArray := impl_policyText.go k l0 []
theorem impl_policyText.range_mono (k : Nat) (a b : Int) : LeO (impl_policyText.range k a b) (impl_policyText.range (k + 1) a b) := LeO.bind (impl_addressText.mono _ k) fun _ => LeO.bind (LeO.refl _) fun _ => LeO.bind (impl_addressText.mono _ k) fun _ => LeO.refl _
theorem impl_policyText.line_mono (k : Nat) (e0 e1 e2 e3 e6 e7 e8 e9 e10 : Int) : LeO (impl_policyText.line k e0 e1 e2 e3 e6 e7 e8 e9 e10) (impl_policyText.line (k + 1) e0 e1 e2 e3 e6 e7 e8 e9 e10) := LeO.bind (LeO.refl _) fun _ => LeO.bind (impl_policyText.range_mono k _ _) fun _ => LeO.bind (impl_policyText.range_mono k _ _) fun _ => LeO.refl _
theorem impl_policyText.go_mono (k : Nat) : ∀ (xs : List S50) (l : List UInt8), LeO (impl_policyText.go k xs l) (impl_policyText.go (k + 1) xs l)
  | [], _ => LeO.refl _
  | _ :: xs, _ => LeO.bind (impl_policyText.line_mono k _ _ _ _ _ _ _ _ _) fun _ => LeO.ite (impl_policyText.go_mono k xs _) (LeO.refl _)
theorem impl_policyText.mono : ∀ (l0 : List S50) (k : Nat), LeO (impl_policyText.f k l0) (impl_policyText.f (k + 1) l0) := fun l0 k => impl_policyText.go_mono k l0 []
set_option maxHeartbeats 16000000 in
set_option maxRecDepth 100000 in
theorem impl_policyText.calls (k : Nat) (A0 : Option Addr) (c0 : Nat) (l0 : List S50) (r : ByteArray) (w : World) (hr0 : Kd.C k50 w A0 l0.length l0) (hc0 : l0.length ≤ c0) (h : impl_policyText.f k l0 = some r)
    (HT : Tb w := by exact Tb.on HT (by repeat (first | (with_reducible first | exact HB.out | apply below_alloc | apply pw_below_drewN | apply below_drew1 | refine below_set ?_ (Aside0.out (by with_reducible assumption))) | exact HB.out))) :
    Calls Tryd.prog 28 #[.slice A0 l0.length c0] w fun e w' => e = .returned (.string r) ∧ Below w.heap.size w w' := by
  have hs9 := Tryd.underlying9
  have hu1 := Tryd.underlying50
  have hu2 := Tryd.underlying48
  have hu3 := Tryd.underlying46
  have hu4 := Tryd.underlying80
  have hu5 := Tryd.underlying51
  have hm0 : l0.length ≤ 9223372036854775807 := hr0.2.1
  have HR := Aside0.mk hr0
  have HC := Aside0.mk hc0
  have D := Aside0.mk (CS.startB w)
  have H := Aside0.mk h
  clear h hr0 hc0
  go_enter Tryd.func28, Tryd.ntmps28
  go_wp2_with (first
    | ((with_reducible refine gate_lit rfl ?_); refine ev_lit (cs := #[.string ⟨#[]⟩, .string ⟨#[100, 114, 111, 112]⟩, .string ⟨#[112, 97, 115, 115]⟩, .string ⟨#[115, 101, 97, 108]⟩]) (t := 9) ?_; intro bw _ hD; clear D; have D := Aside0.mk hD; clear hD; (try clear q0 f0); (try clear q1 f1); (try (have q0 := D.out.c 0 rfl; have f0 := D.out.f 0 rfl)); (try (have q1 := D.out.c 1 rfl; have f1 := D.out.f 1 rfl)))
    | ((with_reducible refine gate_al rfl ?_); refine ev_box ?_; intro bo _ hD; clear D; have D := Aside0.mk hD; clear hD; (try clear q0 f0); (try clear q1 f1); (try (have q0 := D.out.c 0 rfl; have f0 := D.out.f 0 rfl)); (try (have q1 := D.out.c 1 rfl; have f1 := D.out.f 1 rfl)))
    | ((with_reducible refine gate_st rfl ?_); refine ev_store ?_; intro wq hD; clear D; simp only [List.set_cons_zero, List.set_cons_succ, List.setIfInBounds_toArray] at hD; have D := Aside0.mk hD; clear hD; (try clear q0 f0); (try clear q1 f1); (try (have q0 := D.out.c 0 rfl; have f0 := D.out.f 0 rfl)); (try (have q1 := D.out.c 1 rfl; have f1 := D.out.f 1 rfl))))
  have hB0 := D.out.bel
  have BU := bu_fresh (e := 5) (B := w.heap.size) (D.out.blk _ (List.mem_cons_self ..)).2.1 (D.out.at_ 0 rfl)
  have WDS := D.out.at_ 1 rfl
  have hne : Aside0 (bw ≠ bo) := ⟨((List.pairwise_cons.1 D.out.ne).1 _ (List.mem_cons_self ..)).symm⟩
  clear D q0 f0 q1 f1
  go_loopg [8, 13] l0.length (fun gg _ s13 wr => ∃ (kk : Nat) (l : List UInt8), kk ≤ l0.length ∧ l0.length - kk ≤ gg ∧ s13 = .int .i64 kk ∧ Aside0 (Below w.heap.size w wr) ∧ Aside0 (Lib.IsBuilderF 80 5 w.heap.size bo (Lib.byteCells l) wr) ∧ Aside0 (wr.heap[bw]? = some (.cells #[.string ⟨#[]⟩, .string ⟨#[100, 114, 111, 112]⟩, .string ⟨#[112, 97, 115, 115]⟩, .string ⟨#[115, 101, 97, 108]⟩] 9 (0, 0))) ∧ Aside0 (impl_policyText.go k (l0.drop kk) l = some r))
  case atStart => exact ⟨0, [], Nat.zero_le _, by omega, rfl, ⟨hB0⟩, ⟨BU⟩, ⟨WDS⟩, ⟨by rw [List.drop_zero]; exact H.out⟩⟩
  case round =>
    clear BU WDS H hB0
    obtain ⟨kk, l, hkk, hg, rfl, BW, BU, WDS, A⟩ := hrel
    by_cases hlt : kk < l0.length
    · have hltz : (kk : Int) < (l0.length : Int) := by omega
      have p0 : 0 ≤ (kk : Int) := by omega
      have HT1 := Aside0.mk (Tb.on HT BW.out)
      obtain ⟨ad, eA, hx0, hx1, hx2, hx3, hx4, hx5, hx6, hx7, hx8, hx9, hx10⟩ := at_T50 (Kd.C_below HR.out BW.out) (kk : Int) p0 hltz
      subst eA
      simp only [Int.toNat_natCast] at hx0 hx1 hx2 hx3 hx4 hx5 hx6 hx7 hx8 hx9 hx10
      have A2 := A.out
      rw [List.drop_eq_getElem_cons hlt, impl_policyText.go, ← getD_at l0 z50 kk hlt] at A2
      clear A
      change (impl_policyText.line k (rd_T50 l0 (kk : Int)).f0.f0.f0 (rd_T50 l0 (kk : Int)).f0.f0.f1 (rd_T50 l0 (kk : Int)).f0.f1.f0 (rd_T50 l0 (kk : Int)).f0.f1.f1 (rd_T50 l0 (kk : Int)).f0.f3.f0 (rd_T50 l0 (kk : Int)).f0.f3.f1 (rd_T50 l0 (kk : Int)).f0.f4 (rd_T50 l0 (kk : Int)).f1 (rd_T50 l0 (kk : Int)).f2).bind _ = some r at A2
      obtain ⟨s, hs, A2⟩ := Option.bind_eq_some_iff.mp A2
      obtain ⟨hlen, A2⟩ := (ifD A2).elim (fun h => (⟨of_decide_eq_true h.1, h.2⟩ : _ ∧ _)) (fun h => noneE h.2)
      have AN := Aside0.mk A2
      clear A2
      generalize (rd_T50 l0 (kk : Int)).f0.f0.f0 = e0 at hx0 hs
      generalize (rd_T50 l0 (kk : Int)).f0.f0.f1 = e1 at hx1 hs
      generalize (rd_T50 l0 (kk : Int)).f0.f1.f0 = e2 at hx2 hs
      generalize (rd_T50 l0 (kk : Int)).f0.f1.f1 = e3 at hx3 hs
      generalize (rd_T50 l0 (kk : Int)).f0.f2.f0 = e4 at hx4
      generalize (rd_T50 l0 (kk : Int)).f0.f2.f1 = e5 at hx5
      generalize (rd_T50 l0 (kk : Int)).f0.f3.f0 = e6 at hx6 hs
      generalize (rd_T50 l0 (kk : Int)).f0.f3.f1 = e7 at hx7 hs
      generalize (rd_T50 l0 (kk : Int)).f0.f4 = e8 at hx8 hs
      generalize (rd_T50 l0 (kk : Int)).f1 = e9 at hx9 hs
      generalize (rd_T50 l0 (kk : Int)).f2 = e10 at hx10 hs
      unfold impl_policyText.line impl_policyText.range at hs
      obtain ⟨wd, hw, hs⟩ := Option.bind_eq_some_iff.mp hs
      obtain ⟨s1, hs1, hs⟩ := Option.bind_eq_some_iff.mp hs
      obtain ⟨x1, g1, hs1⟩ := Option.bind_eq_some_iff.mp hs1
      obtain ⟨u1, g2, hs1⟩ := Option.bind_eq_some_iff.mp hs1
      obtain ⟨x2, g3, g4⟩ := Option.bind_eq_some_iff.mp hs1
      obtain ⟨s2, hs2, hs⟩ := Option.bind_eq_some_iff.mp hs
      obtain ⟨x3, g5, hs2⟩ := Option.bind_eq_some_iff.mp hs2
      obtain ⟨u2, g6, hs2⟩ := Option.bind_eq_some_iff.mp hs2
      obtain ⟨x4, g7, g8⟩ := Option.bind_eq_some_iff.mp hs2
      obtain ⟨p, g9, hs⟩ := Option.bind_eq_some_iff.mp hs
      obtain ⟨q, g10, hs⟩ := Option.bind_eq_some_iff.mp hs
      obtain ⟨u3, g11, hs⟩ := Option.bind_eq_some_iff.mp hs
      obtain ⟨q2, g12, hs⟩ := Option.bind_eq_some_iff.mp hs
      obtain ⟨s3, g13, hs⟩ := Option.bind_eq_some_iff.mp hs
      have X1 := Aside0.mk g1; have C1 := Aside0.mk g2; have X2 := Aside0.mk g3; have C2 := Aside0.mk g4
      have X3 := Aside0.mk g5; have C3 := Aside0.mk g6; have X4 := Aside0.mk g7; have C4 := Aside0.mk g8
      have X5 := Aside0.mk g9; have X6 := Aside0.mk g10; have C5 := Aside0.mk g11; have X7 := Aside0.mk g12; have C6 := Aside0.mk g13
      clear g1 g2 g3 g4 g5 g6 g7 g8 g9 g10 g11 g12 g13 hs1 hs2
      have gw1 := fun W' (h : Below wr.heap.size wr W') => (h.cell (World.block_lt_of_cell? wr ⟨bw, 1, none⟩ ((blk_cell WDS.out 1).trans rfl))).trans ((blk_cell WDS.out 1).trans rfl : wr.cell? ⟨bw, 1, none⟩ = some (.string ⟨#[100, 114, 111, 112]⟩))
      have gw2 := fun W' (h : Below wr.heap.size wr W') => (h.cell (World.block_lt_of_cell? wr ⟨bw, 2, none⟩ ((blk_cell WDS.out 2).trans rfl))).trans ((blk_cell WDS.out 2).trans rfl : wr.cell? ⟨bw, 2, none⟩ = some (.string ⟨#[112, 97, 115, 115]⟩))
      have gw3 := fun W' (h : Below wr.heap.size wr W') => (h.cell (World.block_lt_of_cell? wr ⟨bw, 3, none⟩ ((blk_cell WDS.out 3).trans rfl))).trans ((blk_cell WDS.out 3).trans rfl : wr.cell? ⟨bw, 3, none⟩ = some (.string ⟨#[115, 101, 97, 108]⟩))
      have gx0 := fun W' (h : Below wr.heap.size wr W') => (h.cell (World.block_lt_of_cell? wr _ hx0)).trans hx0
      have gx1 := fun W' (h : Below wr.heap.size wr W') => (h.cell (World.block_lt_of_cell? wr _ hx1)).trans hx1
      have gx2 := fun W' (h : Below wr.heap.size wr W') => (h.cell (World.block_lt_of_cell? wr _ hx2)).trans hx2
      have gx3 := fun W' (h : Below wr.heap.size wr W') => (h.cell (World.block_lt_of_cell? wr _ hx3)).trans hx3
      have gx4 := fun W' (h : Below wr.heap.size wr W') => (h.cell (World.block_lt_of_cell? wr _ hx4)).trans hx4
      have gx5 := fun W' (h : Below wr.heap.size wr W') => (h.cell (World.block_lt_of_cell? wr _ hx5)).trans hx5
      have gx6 := fun W' (h : Below wr.heap.size wr W') => (h.cell (World.block_lt_of_cell? wr _ hx6)).trans hx6
      have gx7 := fun W' (h : Below wr.heap.size wr W') => (h.cell (World.block_lt_of_cell? wr _ hx7)).trans hx7
      have gx8 := fun W' (h : Below wr.heap.size wr W') => (h.cell (World.block_lt_of_cell? wr _ hx8)).trans hx8
      have gx9 := fun W' (h : Below wr.heap.size wr W') => (h.cell (World.block_lt_of_cell? wr _ hx9)).trans hx9
      have gx10 := fun W' (h : Below wr.heap.size wr W') => (h.cell (World.block_lt_of_cell? wr _ hx10)).trans hx10
      have D := Aside0.mk (CS.startB wr)
      have y0 := hx0; have y1 := hx1; have y2 := hx2; have y3 := hx3; have y4 := hx4; have y5 := hx5; have y6 := hx6; have y7 := hx7; have y8 := hx8; have y9 := hx9; have y10 := hx10
      clear hx0 hx1 hx2 hx3 hx4 hx5 hx6 hx7 hx8 hx9 hx10
      have pt := eq_true p0
      have qt := eq_true hltz
      have qn : (kk < l0.length) = True := eq_true hlt
      unfold impl_policyText.word at hw
      rcases ifE hw with ⟨m1, _, hw⟩ | ⟨_, _, hw⟩
      case inl =>
        obtain rfl : e9 = 1 := eq_of_beq m1
        clear m1
        obtain rfl := Option.some.inj hw
        have gw := gw1
        clear gw1 gw2 gw3 hw
        rw [if_neg (by decide)] at hs
        unfold impl_policyText.fin at hs
        obtain ⟨jj, hj, hs⟩ := Option.bind_eq_some_iff.mp hs
        have XJ := Aside0.mk hj
        have CJ := Aside0.mk hs
        clear hj hs
        generalize hwd : (⟨#[100, 114, 111, 112]⟩ : ByteArray) = wd at gw XJ
        clear hwd
        go_wp2_with (first
          | ((with_reducible refine gate_al rfl ?_); refine ev_box ?_; intro _ _ hD; clear D; have D := Aside0.mk hD; clear hD; (try clear q0 f0); (try clear q1 f1); (try (have q0 := D.out.c 0 rfl; have f0 := D.out.f 0 rfl)); (try (have q1 := D.out.c 1 rfl; have f1 := D.out.f 1 rfl)); (try clear y0); (try have y0 := gx0 _ D.out.bel); (try clear y1); (try have y1 := gx1 _ D.out.bel); (try clear y2); (try have y2 := gx2 _ D.out.bel); (try clear y3); (try have y3 := gx3 _ D.out.bel); (try clear y4); (try have y4 := gx4 _ D.out.bel); (try clear y5); (try have y5 := gx5 _ D.out.bel); (try clear y6); (try have y6 := gx6 _ D.out.bel); (try clear y7); (try have y7 := gx7 _ D.out.bel); (try clear y8); (try have y8 := gx8 _ D.out.bel); (try clear y9); (try have y9 := gx9 _ D.out.bel); (try clear y10); (try have y10 := gx10 _ D.out.bel))
          | ((with_reducible refine gate_st rfl ?_); refine ev_store ?_; intro wq hD; clear D; simp only [List.set_cons_zero, List.set_cons_succ, List.setIfInBounds_toArray] at hD; have D := Aside0.mk hD; clear hD; (try clear q0 f0); (try clear q1 f1); (try (have q0 := D.out.c 0 rfl; have f0 := D.out.f 0 rfl)); (try (have q1 := D.out.c 1 rfl; have f1 := D.out.f 1 rfl)); (try clear y0); (try have y0 := gx0 _ D.out.bel); (try clear y1); (try have y1 := gx1 _ D.out.bel); (try clear y2); (try have y2 := gx2 _ D.out.bel); (try clear y3); (try have y3 := gx3 _ D.out.bel); (try clear y4); (try have y4 := gx4 _ D.out.bel); (try clear y5); (try have y5 := gx5 _ D.out.bel); (try clear y6); (try have y6 := gx6 _ D.out.bel); (try clear y7); (try have y7 := gx7 _ D.out.bel); (try clear y8); (try have y8 := gx8 _ D.out.bel); (try clear y9); (try have y9 := gx9 _ D.out.bel); (try clear y10); (try have y10 := gx10 _ D.out.bel)))
        clear y0 y1 y2 y3 y4 y5 y6 y7 y8 y9 y10 gx0 gx1 gx2 gx3 gx4 gx5 gx6 gx7 gx8 gx9 gx10
        refine CS.rgS (n := 27) #[false, false, false, false, false, false, false, false, false, false, false, false, false, false, false, false, false, false, false, false, false, false, false, false, false, false, false] D.out (fun W' h => And.intro (h.c 1 rfl 9) (And.intro (h.c 0 rfl 0) (And.intro (h.c 0 rfl 1) (And.intro (h.c 0 rfl 2) (And.intro (h.c 0 rfl 3) (gw W' h.bel)))))) ?_
        intro hs w6 hD
        clear D; have D := Aside0.mk hD; clear hD; (try clear q0 f0); (try clear q1 f1); (try (have q0 := D.out.c 0 rfl; have f0 := D.out.f 0 rfl)); (try (have q1 := D.out.c 1 rfl; have f1 := D.out.f 1 rfl))
        refine tq 0 (some 19) #[true, false, false, false, false, false, false, false, false, false, false, false, false, false, false, false, false, false, false, false, false, false, false, false, false, false, false] (hs _ D.out.norow) ?_
        refine tq 1 (some 20) #[true, true, false, false, false, false, false, false, false, false, false, false, false, false, false, false, false, false, false, false, false, false, false, false, false, false, false] (hs _ D.out.norow) ?_
        refine tq 2 (some 21) #[true, true, true, false, false, false, false, false, false, false, false, false, false, false, false, false, false, false, false, false, false, false, false, false, false, false, false] (hs _ D.out.norow) ?_
        refine tq 3 (some 22) #[true, true, true, true, false, false, false, false, false, false, false, false, false, false, false, false, false, false, false, false, false, false, false, false, false, false, false] (hs _ D.out.norow) ?_
        refine tq 4 (some 23) #[true, true, true, true, true, false, false, false, false, false, false, false, false, false, false, false, false, false, false, false, false, false, false, false, false, false, false] (hs _ D.out.norow) ?_
        refine tq 5 (some 24) #[true, true, true, true, true, true, false, false, false, false, false, false, false, false, false, false, false, false, false, false, false, false, false, false, false, false, false] (hs _ D.out.norow) ?_
        refine tq 6 (some 25) #[true, true, true, true, true, true, true, false, false, false, false, false, false, false, false, false, false, false, false, false, false, false, false, false, false, false, false] (hs _ D.out.norow) ?_
        refine tq 7 (some 26) #[true, true, true, true, true, true, true, true, false, false, false, false, false, false, false, false, false, false, false, false, false, false, false, false, false, false, false] (hs _ D.out.norow) ?_
        refine tq 10 (some 29) #[true, true, true, true, true, true, true, true, false, false, true, false, false, false, false, false, false, false, false, false, false, false, false, false, false, false, false] (hs _ D.out.norow) ?_
        refine tq 11 (some 30) #[true, true, true, true, true, true, true, true, false, false, true, true, false, false, false, false, false, false, false, false, false, false, false, false, false, false, false] (hs _ D.out.norow) ?_
        refine tq 12 (some 31) #[true, true, true, true, true, true, true, true, false, false, true, true, true, false, false, false, false, false, false, false, false, false, false, false, false, false, false] (hs _ D.out.norow) ?_
        refine tq 15 (some 34) #[true, true, true, true, true, true, true, true, false, false, true, true, true, false, false, true, false, false, false, false, false, false, false, false, false, false, false] (hs _ D.out.norow) ?_
        refine tq 16 (some 35) #[true, true, true, true, true, true, true, true, false, false, true, true, true, false, false, true, true, false, false, false, false, false, false, false, false, false, false] (hs _ D.out.norow) ?_
        refine tq 17 (some 36) #[true, true, true, true, true, true, true, true, false, false, true, true, true, false, false, true, true, true, false, false, false, false, false, false, false, false, false] (hs _ D.out.norow) ?_
        refine tq 20 (some 39) #[true, true, true, true, true, true, true, true, false, false, true, true, true, false, false, true, true, true, false, false, true, false, false, false, false, false, false] (hs _ D.out.norow) ?_
        refine tq 21 (some 40) #[true, true, true, true, true, true, true, true, false, false, true, true, true, false, false, true, true, true, false, false, true, true, false, false, false, false, false] (hs _ D.out.norow) ?_
        refine tq 22 (some 41) #[true, true, true, true, true, true, true, true, false, false, true, true, true, false, false, true, true, true, false, false, true, true, true, false, false, false, false] (hs _ D.out.norow) ?_
        refine one_ (i := 8) (N := some 27) #[true, true, true, true, true, true, true, true, true, false, true, true, true, false, false, true, true, true, false, false, true, true, true, false, false, false, false] rfl rfl (by kernel_rfl) (by decide) (fun K hK => ?_)
        refine goes_ Tryd.func23 (by kernel_rfl) rfl #[.int .i64 e0] (wn_ rfl) rfl rfl (by (try simp only [List.map_toArray, List.map_cons, List.map_nil]); first | done | (go_simp; done) | rfl | (go_simp; rfl)) ?_
        refine Calls.mono (CS.via D.out (impl_addressText.calls k _ _ _ X1.out (Tb.on HT1.out D.out.bel))) ?_
        rintro e wq ⟨rfl, hD⟩
        refine ⟨_, rfl, ?_⟩
        clear D; have D := Aside0.mk hD; clear hD; (try clear q0 f0); (try clear q1 f1); (try (have q0 := D.out.c 0 rfl; have f0 := D.out.f 0 rfl)); (try (have q1 := D.out.c 1 rfl; have f1 := D.out.f 1 rfl))
        refine hK.out _ _ (hs _ D.out.norow) (fun _ => ?_)
        clear hK K
        refine norm_ (by simp only [Act.put, List.setIfInBounds_toArray, List.set_cons_zero, List.set_cons_succ, i64_w, i32_w]; rfl) ?_
        refine pcat 9 (some 28) #[true, true, true, true, true, true, true, true, true, true, true, true, true, false, false, true, true, true, false, false, true, true, true, false, false, false, false] C1 ?_
        refine one_ (i := 13) (N := some 32) #[true, true, true, true, true, true, true, true, true, true, true, true, true, true, false, true, true, true, false, false, true, true, true, false, false, false, false] rfl rfl (by kernel_rfl) (by decide) (fun K hK => ?_)
        refine goes_ Tryd.func23 (by kernel_rfl) rfl #[.int .i64 e1] (wn_ rfl) rfl rfl (by (try simp only [List.map_toArray, List.map_cons, List.map_nil]); first | done | (go_simp; done) | rfl | (go_simp; rfl)) ?_
        refine Calls.mono (CS.via D.out (impl_addressText.calls k _ _ _ X2.out (Tb.on HT1.out D.out.bel))) ?_
        rintro e wq ⟨rfl, hD⟩
        refine ⟨_, rfl, ?_⟩
        clear D; have D := Aside0.mk hD; clear hD; (try clear q0 f0); (try clear q1 f1); (try (have q0 := D.out.c 0 rfl; have f0 := D.out.f 0 rfl)); (try (have q1 := D.out.c 1 rfl; have f1 := D.out.f 1 rfl))
        refine hK.out _ _ (hs _ D.out.norow) (fun _ => ?_)
        clear hK K
        refine norm_ (by simp only [Act.put, List.setIfInBounds_toArray, List.set_cons_zero, List.set_cons_succ, i64_w, i32_w]; rfl) ?_
        refine pcat 14 (some 33) #[true, true, true, true, true, true, true, true, true, true, true, true, true, true, true, true, true, true, false, false, true, true, true, false, false, false, false] C2 ?_
        refine one_ (i := 18) (N := some 37) #[true, true, true, true, true, true, true, true, true, true, true, true, true, true, true, true, true, true, true, false, true, true, true, false, false, false, false] rfl rfl (by kernel_rfl) (by decide) (fun K hK => ?_)
        refine goes_ Tryd.func23 (by kernel_rfl) rfl #[.int .i64 e2] (wn_ rfl) rfl rfl (by (try simp only [List.map_toArray, List.map_cons, List.map_nil]); first | done | (go_simp; done) | rfl | (go_simp; rfl)) ?_
        refine Calls.mono (CS.via D.out (impl_addressText.calls k _ _ _ X3.out (Tb.on HT1.out D.out.bel))) ?_
        rintro e wq ⟨rfl, hD⟩
        refine ⟨_, rfl, ?_⟩
        clear D; have D := Aside0.mk hD; clear hD; (try clear q0 f0); (try clear q1 f1); (try (have q0 := D.out.c 0 rfl; have f0 := D.out.f 0 rfl)); (try (have q1 := D.out.c 1 rfl; have f1 := D.out.f 1 rfl))
        refine hK.out _ _ (hs _ D.out.norow) (fun _ => ?_)
        clear hK K
        refine norm_ (by simp only [Act.put, List.setIfInBounds_toArray, List.set_cons_zero, List.set_cons_succ, i64_w, i32_w]; rfl) ?_
        refine pcat 19 (some 38) #[true, true, true, true, true, true, true, true, true, true, true, true, true, true, true, true, true, true, true, true, true, true, true, false, false, false, false] C3 ?_
        refine one_ (i := 23) (N := some 42) #[true, true, true, true, true, true, true, true, true, true, true, true, true, true, true, true, true, true, true, true, true, true, true, true, false, false, false] rfl rfl (by kernel_rfl) (by decide) (fun K hK => ?_)
        refine goes_ Tryd.func23 (by kernel_rfl) rfl #[.int .i64 e3] (wn_ rfl) rfl rfl (by (try simp only [List.map_toArray, List.map_cons, List.map_nil]); first | done | (go_simp; done) | rfl | (go_simp; rfl)) ?_
        refine Calls.mono (CS.via D.out (impl_addressText.calls k _ _ _ X4.out (Tb.on HT1.out D.out.bel))) ?_
        rintro e wq ⟨rfl, hD⟩
        refine ⟨_, rfl, ?_⟩
        clear D; have D := Aside0.mk hD; clear hD; (try clear q0 f0); (try clear q1 f1); (try (have q0 := D.out.c 0 rfl; have f0 := D.out.f 0 rfl)); (try (have q1 := D.out.c 1 rfl; have f1 := D.out.f 1 rfl))
        refine hK.out _ _ (hs _ D.out.norow) (fun _ => ?_)
        clear hK K
        refine norm_ (by simp only [Act.put, List.setIfInBounds_toArray, List.set_cons_zero, List.set_cons_succ, i64_w, i32_w]; rfl) ?_
        refine pcat 24 (some 43) #[true, true, true, true, true, true, true, true, true, true, true, true, true, true, true, true, true, true, true, true, true, true, true, true, true, false, false] C4 ?_
        refine one_ (i := 25) (N := some 44) #[true, true, true, true, true, true, true, true, true, true, true, true, true, true, true, true, true, true, true, true, true, true, true, true, true, true, false] rfl rfl (by kernel_rfl) (by decide) (fun K hK => ?_)
        refine litR 9 [wd, s1, s2] D.out ?_
        intro A1 c1 wq hD
        clear D; have D := Aside0.mk hD; clear hD; (try clear q0 f0); (try clear q1 f1); (try (have q0 := D.out.c 0 rfl; have f0 := D.out.f 0 rfl)); (try (have q1 := D.out.c 1 rfl; have f1 := D.out.f 1 rfl))
        refine hK.out _ _ (hs _ D.out.norow) (fun _ => ?_)
        clear hK K
        refine norm_ (by simp only [Act.put, List.setIfInBounds_toArray, List.set_cons_zero, List.set_cons_succ, i64_w, i32_w]; rfl) ?_
        refine tq 26 (some 8) #[true, true, true, true, true, true, true, true, true, true, true, true, true, true, true, true, true, true, true, true, true, true, true, true, true, true, true] (hs _ D.out.norow) ?_
        refine done_ (by kernel_rfl) ?_
        go_wp2
        refine CS.rgS (n := 17) #[false, false, false, false, false, false, false, false, false, false, false, false, false, false, false, false, false] D.out (fun W' h => And.intro (h.c 0 rfl 6) (And.intro (h.c 0 rfl 7) (h.c 0 rfl 8))) ?_
        intro hs w7 hD
        clear D; have D := Aside0.mk hD; clear hD; (try clear q0 f0); (try clear q1 f1); (try (have q0 := D.out.c 0 rfl; have f0 := D.out.f 0 rfl)); (try (have q1 := D.out.c 1 rfl; have f1 := D.out.f 1 rfl))
        refine tq 0 (some 45) #[true, false, false, false, false, false, false, false, false, false, false, false, false, false, false, false, false] (hs _ D.out.norow) ?_
        refine tq 1 (some 46) #[true, true, false, false, false, false, false, false, false, false, false, false, false, false, false, false, false] (hs _ D.out.norow) ?_
        refine tq 2 (some 47) #[true, true, true, false, false, false, false, false, false, false, false, false, false, false, false, false, false] (hs _ D.out.norow) ?_
        refine tq 4 (some 49) #[true, true, true, false, true, false, false, false, false, false, false, false, false, false, false, false, false] (hs _ D.out.norow) ?_
        refine tq 5 (some 50) #[true, true, true, false, true, true, false, false, false, false, false, false, false, false, false, false, false] (hs _ D.out.norow) ?_
        refine tq 6 (some 51) #[true, true, true, false, true, true, true, false, false, false, false, false, false, false, false, false, false] (hs _ D.out.norow) ?_
        refine tq 9 (some 54) #[true, true, true, false, true, true, true, false, false, true, false, false, false, false, false, false, false] (hs _ D.out.norow) ?_
        refine tq 10 (some 55) #[true, true, true, false, true, true, true, false, false, true, true, false, false, false, false, false, false] (hs _ D.out.norow) ?_
        refine tq 11 (some 56) #[true, true, true, false, true, true, true, false, false, true, true, true, false, false, false, false, false] (hs _ D.out.norow) ?_
        refine one_ (i := 3) (N := some 48) #[true, true, true, true, true, true, true, false, false, true, true, true, false, false, false, false, false] rfl rfl (by kernel_rfl) (by decide) (fun K hK => ?_)
        refine goes_ Tryd.func47 (by kernel_rfl) rfl #[.int .i64 e8] (wn_ rfl) rfl rfl (by (try simp only [List.map_toArray, List.map_cons, List.map_nil]); first | done | (go_simp; done) | rfl | (go_simp; rfl)) ?_
        refine Calls.mono (CS.via D.out (impl_decimal.calls _ _ _ X5.out (Tb.on HT1.out D.out.bel))) ?_
        rintro e wq ⟨rfl, hD⟩
        refine ⟨_, rfl, ?_⟩
        clear D; have D := Aside0.mk hD; clear hD; (try clear q0 f0); (try clear q1 f1); (try (have q0 := D.out.c 0 rfl; have f0 := D.out.f 0 rfl)); (try (have q1 := D.out.c 1 rfl; have f1 := D.out.f 1 rfl))
        refine hK.out _ _ (hs _ D.out.norow) (fun _ => ?_)
        clear hK K
        refine norm_ (by simp only [Act.put, List.setIfInBounds_toArray, List.set_cons_zero, List.set_cons_succ, i64_w, i32_w]; rfl) ?_
        refine one_ (i := 7) (N := some 52) #[true, true, true, true, true, true, true, true, false, true, true, true, false, false, false, false, false] rfl rfl (by kernel_rfl) (by decide) (fun K hK => ?_)
        refine goes_ Tryd.func47 (by kernel_rfl) rfl #[.int .i64 e6] (wn_ rfl) rfl rfl (by (try simp only [List.map_toArray, List.map_cons, List.map_nil]); first | done | (go_simp; done) | rfl | (go_simp; rfl)) ?_
        refine Calls.mono (CS.via D.out (impl_decimal.calls _ _ _ X6.out (Tb.on HT1.out D.out.bel))) ?_
        rintro e wq ⟨rfl, hD⟩
        refine ⟨_, rfl, ?_⟩
        clear D; have D := Aside0.mk hD; clear hD; (try clear q0 f0); (try clear q1 f1); (try (have q0 := D.out.c 0 rfl; have f0 := D.out.f 0 rfl)); (try (have q1 := D.out.c 1 rfl; have f1 := D.out.f 1 rfl))
        refine hK.out _ _ (hs _ D.out.norow) (fun _ => ?_)
        clear hK K
        refine norm_ (by simp only [Act.put, List.setIfInBounds_toArray, List.set_cons_zero, List.set_cons_succ, i64_w, i32_w]; rfl) ?_
        refine pcat 8 (some 53) #[true, true, true, true, true, true, true, true, true, true, true, true, false, false, false, false, false] C5 ?_
        refine one_ (i := 12) (N := some 57) #[true, true, true, true, true, true, true, true, true, true, true, true, true, false, false, false, false] rfl rfl (by kernel_rfl) (by decide) (fun K hK => ?_)
        refine goes_ Tryd.func47 (by kernel_rfl) rfl #[.int .i64 e7] (wn_ rfl) rfl rfl (by (try simp only [List.map_toArray, List.map_cons, List.map_nil]); first | done | (go_simp; done) | rfl | (go_simp; rfl)) ?_
        refine Calls.mono (CS.via D.out (impl_decimal.calls _ _ _ X7.out (Tb.on HT1.out D.out.bel))) ?_
        rintro e wq ⟨rfl, hD⟩
        refine ⟨_, rfl, ?_⟩
        clear D; have D := Aside0.mk hD; clear hD; (try clear q0 f0); (try clear q1 f1); (try (have q0 := D.out.c 0 rfl; have f0 := D.out.f 0 rfl)); (try (have q1 := D.out.c 1 rfl; have f1 := D.out.f 1 rfl))
        refine hK.out _ _ (hs _ D.out.norow) (fun _ => ?_)
        clear hK K
        refine norm_ (by simp only [Act.put, List.setIfInBounds_toArray, List.set_cons_zero, List.set_cons_succ, i64_w, i32_w]; rfl) ?_
        refine pcat 13 (some 58) #[true, true, true, true, true, true, true, true, true, true, true, true, true, true, false, false, false] C6 ?_
        refine one_ (i := 14) (N := some 59) #[true, true, true, true, true, true, true, true, true, true, true, true, true, true, true, false, false] rfl rfl (by kernel_rfl) (by decide) (fun K hK => ?_)
        refine litB (cs := #[.string p, .string s3]) (t := 9) ?_ D.out
        intro bq wq hD
        clear D; have D := Aside0.mk hD; clear hD; (try clear q0 f0); (try clear q1 f1); (try (have q0 := D.out.c 0 rfl; have f0 := D.out.f 0 rfl)); (try (have q1 := D.out.c 1 rfl; have f1 := D.out.f 1 rfl))
        refine hK.out _ _ (hs _ D.out.tail.norow) (fun _ => ?_)
        clear hK K
        refine norm_ (by simp only [Act.put, List.setIfInBounds_toArray, List.set_cons_zero, List.set_cons_succ, i64_w, i32_w]; rfl) ?_
        refine one_ (i := 15) (N := some 60) #[true, true, true, true, true, true, true, true, true, true, true, true, true, true, true, true, false] rfl rfl (by kernel_rfl) (by decide) (fun K hK => ?_)
        refine apR 51 9 (.string ⟨#[]⟩) 16 (xs := [wd, s1, s2]) (ys := [p, s3]) (.tmp 45) (.tmp 59) D.out (D.out.litS [p, s3] rfl (by simp)) ?_
        intro A2 c2 wq hD
        clear D; have D := Aside0.mk hD; clear hD; (try clear q0 f0); (try clear q1 f1); (try (have q0 := D.out.c 0 rfl; have f0 := D.out.f 0 rfl)); (try (have q1 := D.out.c 1 rfl; have f1 := D.out.f 1 rfl))
        refine hK.out _ _ (hs _ D.out.tail.norow) (fun _ => ?_)
        clear hK K
        refine norm_ (by simp only [Act.put, List.setIfInBounds_toArray, List.set_cons_zero, List.set_cons_succ, i64_w, i32_w]; rfl) ?_
        refine tq 16 (some 8) #[true, true, true, true, true, true, true, true, true, true, true, true, true, true, true, true, true] (hs _ D.out.tail.norow) ?_
        refine done_ (by kernel_rfl) ?_
        have hD := D.out.tail
        clear D; have D := Aside0.mk hD; clear hD; (try clear q0 f0); (try clear q1 f1); (try (have q0 := D.out.c 0 rfl; have f0 := D.out.f 0 rfl)); (try (have q1 := D.out.c 1 rfl; have f1 := D.out.f 1 rfl))
        go_wp2_with (first
          | ((with_reducible refine gate_lit rfl ?_); refine ev_lit (cs := #[.string pe]) (t := 9) ?_; intro _ _ hD; clear D; have D := Aside0.mk hD; clear hD; (try clear q0 f0); (try clear q1 f1); (try (have q0 := D.out.c 0 rfl; have f0 := D.out.f 0 rfl)); (try (have q1 := D.out.c 1 rfl; have f1 := D.out.f 1 rfl)))
          | ((with_reducible refine gate_cat rfl ?_); refine ev_cat ?_)
          | ((with_reducible refine gate_ap rfl ?_); refine ev_appends Kd.string 51 9 (.string ⟨#[]⟩) 16 (.tmp 64) (.tmp 68) (xs := [wd, s1, s2] ++ [p, s3]) (ys := [pe]) ?_ (by simp) D.out (D.out.litS [pe] rfl (by simp)) (fun _ _ h => h); intro A3 c3 wq hD; replace hD := hD.tail; clear D; have D := Aside0.mk hD; clear hD; (try clear q0 f0); (try clear q1 f1); (try (have q0 := D.out.c 0 rfl; have f0 := D.out.f 0 rfl)); (try (have q1 := D.out.c 1 rfl; have f1 := D.out.f 1 rfl)))
          | (go_at_call 47; refine Calls.mono (CS.via D.out (impl_decimal.calls _ _ _ X8.out (Tb.on HT1.out D.out.bel))) ?_; rintro e wq ⟨rfl, hD⟩; clear D; have D := Aside0.mk hD; clear hD; (try clear q0 f0); (try clear q1 f1); (try (have q0 := D.out.c 0 rfl; have f0 := D.out.f 0 rfl)); (try (have q1 := D.out.c 1 rfl; have f1 := D.out.f 1 rfl)))
          | (go_at_call 42; refine Calls.mono (CS.via D.out (strings_Join.calls _ _ ([wd, s1, s2] ++ [p, s3]) _ _ _ (Kd.R_reads' (D.out.row 0 rfl)).2.2 (Kd.R_reads' (D.out.row 0 rfl)).2.1 XJ.out (spot_of ⟨D.out.row 0 rfl⟩))) ?_; rintro e wq ⟨rfl, hD⟩; clear D; have D := Aside0.mk hD; clear hD; (try clear q0 f0); (try clear q1 f1); (try (have q0 := D.out.c 0 rfl; have f0 := D.out.f 0 rfl)); (try (have q1 := D.out.c 1 rfl; have f1 := D.out.f 1 rfl)))
          | (go_at_call 48; refine Calls.mono (Tryd.Builder_WriteString_k w.heap.size bo (Lib.byteCells l) s _ (bu_below BU.out D.out.bel) (by rw [Lib.byteCells_length]; exact hlen) (Nat.le_trans BW.out.size D.out.bel.size)) ?_; rintro e W2 ⟨rfl, hbu, hbl, hok⟩))
        have BW2 : Below w.heap.size w W2 := (below_then BW.out BW.out.size D.out.bel).trans hbl
        have WD2 : W2.heap[bw]? = some (.cells #[.string ⟨#[]⟩, .string ⟨#[100, 114, 111, 112]⟩, .string ⟨#[112, 97, 115, 115]⟩, .string ⟨#[115, 101, 97, 108]⟩] 9 (0, 0)) := hok _ _ ((D.out.bel.block bw (blk_lt WDS.out)).trans WDS.out) (fun e => hne.out (Option.some.inj e)) (by intro cc fz hh; cases hh)
        have BU2 : Lib.IsBuilderF 80 5 w.heap.size bo (Lib.byteCells (l ++ s.data.toList)) W2 := .inr (by rw [Lib.byteCells_append]; exact hbu)
        go_roundg (l0.length - (kk + 1))
        case measure => omega
        case rel => exact ⟨kk + 1, _, by omega, by omega, by go_num, ⟨BW2⟩, ⟨BU2⟩, ⟨WD2⟩, ⟨AN.out⟩⟩
      rcases ifE hw with ⟨m2, _, hw⟩ | ⟨_, _, hw⟩
      case inl =>
        obtain rfl : e9 = 2 := eq_of_beq m2
        clear m2
        obtain rfl := Option.some.inj hw
        have gw := gw2
        clear gw1 gw2 gw3 hw
        rw [if_neg (by decide)] at hs
        unfold impl_policyText.fin at hs
        obtain ⟨jj, hj, hs⟩ := Option.bind_eq_some_iff.mp hs
        have XJ := Aside0.mk hj
        have CJ := Aside0.mk hs
        clear hj hs
        generalize hwd : (⟨#[112, 97, 115, 115]⟩ : ByteArray) = wd at gw XJ
        clear hwd
        go_wp2_with (first
          | ((with_reducible refine gate_al rfl ?_); refine ev_box ?_; intro _ _ hD; clear D; have D := Aside0.mk hD; clear hD; (try clear q0 f0); (try clear q1 f1); (try (have q0 := D.out.c 0 rfl; have f0 := D.out.f 0 rfl)); (try (have q1 := D.out.c 1 rfl; have f1 := D.out.f 1 rfl)); (try clear y0); (try have y0 := gx0 _ D.out.bel); (try clear y1); (try have y1 := gx1 _ D.out.bel); (try clear y2); (try have y2 := gx2 _ D.out.bel); (try clear y3); (try have y3 := gx3 _ D.out.bel); (try clear y4); (try have y4 := gx4 _ D.out.bel); (try clear y5); (try have y5 := gx5 _ D.out.bel); (try clear y6); (try have y6 := gx6 _ D.out.bel); (try clear y7); (try have y7 := gx7 _ D.out.bel); (try clear y8); (try have y8 := gx8 _ D.out.bel); (try clear y9); (try have y9 := gx9 _ D.out.bel); (try clear y10); (try have y10 := gx10 _ D.out.bel))
          | ((with_reducible refine gate_st rfl ?_); refine ev_store ?_; intro wq hD; clear D; simp only [List.set_cons_zero, List.set_cons_succ, List.setIfInBounds_toArray] at hD; have D := Aside0.mk hD; clear hD; (try clear q0 f0); (try clear q1 f1); (try (have q0 := D.out.c 0 rfl; have f0 := D.out.f 0 rfl)); (try (have q1 := D.out.c 1 rfl; have f1 := D.out.f 1 rfl)); (try clear y0); (try have y0 := gx0 _ D.out.bel); (try clear y1); (try have y1 := gx1 _ D.out.bel); (try clear y2); (try have y2 := gx2 _ D.out.bel); (try clear y3); (try have y3 := gx3 _ D.out.bel); (try clear y4); (try have y4 := gx4 _ D.out.bel); (try clear y5); (try have y5 := gx5 _ D.out.bel); (try clear y6); (try have y6 := gx6 _ D.out.bel); (try clear y7); (try have y7 := gx7 _ D.out.bel); (try clear y8); (try have y8 := gx8 _ D.out.bel); (try clear y9); (try have y9 := gx9 _ D.out.bel); (try clear y10); (try have y10 := gx10 _ D.out.bel)))
        clear y0 y1 y2 y3 y4 y5 y6 y7 y8 y9 y10 gx0 gx1 gx2 gx3 gx4 gx5 gx6 gx7 gx8 gx9 gx10
        refine CS.rgS (n := 27) #[false, false, false, false, false, false, false, false, false, false, false, false, false, false, false, false, false, false, false, false, false, false, false, false, false, false, false] D.out (fun W' h => And.intro (h.c 1 rfl 9) (And.intro (h.c 0 rfl 0) (And.intro (h.c 0 rfl 1) (And.intro (h.c 0 rfl 2) (And.intro (h.c 0 rfl 3) (gw W' h.bel)))))) ?_
        intro hs w6 hD
        clear D; have D := Aside0.mk hD; clear hD; (try clear q0 f0); (try clear q1 f1); (try (have q0 := D.out.c 0 rfl; have f0 := D.out.f 0 rfl)); (try (have q1 := D.out.c 1 rfl; have f1 := D.out.f 1 rfl))
        refine tq 0 (some 19) #[true, false, false, false, false, false, false, false, false, false, false, false, false, false, false, false, false, false, false, false, false, false, false, false, false, false, false] (hs _ D.out.norow) ?_
        refine tq 1 (some 20) #[true, true, false, false, false, false, false, false, false, false, false, false, false, false, false, false, false, false, false, false, false, false, false, false, false, false, false] (hs _ D.out.norow) ?_
        refine tq 2 (some 21) #[true, true, true, false, false, false, false, false, false, false, false, false, false, false, false, false, false, false, false, false, false, false, false, false, false, false, false] (hs _ D.out.norow) ?_
        refine tq 3 (some 22) #[true, true, true, true, false, false, false, false, false, false, false, false, false, false, false, false, false, false, false, false, false, false, false, false, false, false, false] (hs _ D.out.norow) ?_
        refine tq 4 (some 23) #[true, true, true, true, true, false, false, false, false, false, false, false, false, false, false, false, false, false, false, false, false, false, false, false, false, false, false] (hs _ D.out.norow) ?_
        refine tq 5 (some 24) #[true, true, true, true, true, true, false, false, false, false, false, false, false, false, false, false, false, false, false, false, false, false, false, false, false, false, false] (hs _ D.out.norow) ?_
        refine tq 6 (some 25) #[true, true, true, true, true, true, true, false, false, false, false, false, false, false, false, false, false, false, false, false, false, false, false, false, false, false, false] (hs _ D.out.norow) ?_
        refine tq 7 (some 26) #[true, true, true, true, true, true, true, true, false, false, false, false, false, false, false, false, false, false, false, false, false, false, false, false, false, false, false] (hs _ D.out.norow) ?_
        refine tq 10 (some 29) #[true, true, true, true, true, true, true, true, false, false, true, false, false, false, false, false, false, false, false, false, false, false, false, false, false, false, false] (hs _ D.out.norow) ?_
        refine tq 11 (some 30) #[true, true, true, true, true, true, true, true, false, false, true, true, false, false, false, false, false, false, false, false, false, false, false, false, false, false, false] (hs _ D.out.norow) ?_
        refine tq 12 (some 31) #[true, true, true, true, true, true, true, true, false, false, true, true, true, false, false, false, false, false, false, false, false, false, false, false, false, false, false] (hs _ D.out.norow) ?_
        refine tq 15 (some 34) #[true, true, true, true, true, true, true, true, false, false, true, true, true, false, false, true, false, false, false, false, false, false, false, false, false, false, false] (hs _ D.out.norow) ?_
        refine tq 16 (some 35) #[true, true, true, true, true, true, true, true, false, false, true, true, true, false, false, true, true, false, false, false, false, false, false, false, false, false, false] (hs _ D.out.norow) ?_
        refine tq 17 (some 36) #[true, true, true, true, true, true, true, true, false, false, true, true, true, false, false, true, true, true, false, false, false, false, false, false, false, false, false] (hs _ D.out.norow) ?_
        refine tq 20 (some 39) #[true, true, true, true, true, true, true, true, false, false, true, true, true, false, false, true, true, true, false, false, true, false, false, false, false, false, false] (hs _ D.out.norow) ?_
        refine tq 21 (some 40) #[true, true, true, true, true, true, true, true, false, false, true, true, true, false, false, true, true, true, false, false, true, true, false, false, false, false, false] (hs _ D.out.norow) ?_
        refine tq 22 (some 41) #[true, true, true, true, true, true, true, true, false, false, true, true, true, false, false, true, true, true, false, false, true, true, true, false, false, false, false] (hs _ D.out.norow) ?_
        refine one_ (i := 8) (N := some 27) #[true, true, true, true, true, true, true, true, true, false, true, true, true, false, false, true, true, true, false, false, true, true, true, false, false, false, false] rfl rfl (by kernel_rfl) (by decide) (fun K hK => ?_)
        refine goes_ Tryd.func23 (by kernel_rfl) rfl #[.int .i64 e0] (wn_ rfl) rfl rfl (by (try simp only [List.map_toArray, List.map_cons, List.map_nil]); first | done | (go_simp; done) | rfl | (go_simp; rfl)) ?_
        refine Calls.mono (CS.via D.out (impl_addressText.calls k _ _ _ X1.out (Tb.on HT1.out D.out.bel))) ?_
        rintro e wq ⟨rfl, hD⟩
        refine ⟨_, rfl, ?_⟩
        clear D; have D := Aside0.mk hD; clear hD; (try clear q0 f0); (try clear q1 f1); (try (have q0 := D.out.c 0 rfl; have f0 := D.out.f 0 rfl)); (try (have q1 := D.out.c 1 rfl; have f1 := D.out.f 1 rfl))
        refine hK.out _ _ (hs _ D.out.norow) (fun _ => ?_)
        clear hK K
        refine norm_ (by simp only [Act.put, List.setIfInBounds_toArray, List.set_cons_zero, List.set_cons_succ, i64_w, i32_w]; rfl) ?_
        refine pcat 9 (some 28) #[true, true, true, true, true, true, true, true, true, true, true, true, true, false, false, true, true, true, false, false, true, true, true, false, false, false, false] C1 ?_
        refine one_ (i := 13) (N := some 32) #[true, true, true, true, true, true, true, true, true, true, true, true, true, true, false, true, true, true, false, false, true, true, true, false, false, false, false] rfl rfl (by kernel_rfl) (by decide) (fun K hK => ?_)
        refine goes_ Tryd.func23 (by kernel_rfl) rfl #[.int .i64 e1] (wn_ rfl) rfl rfl (by (try simp only [List.map_toArray, List.map_cons, List.map_nil]); first | done | (go_simp; done) | rfl | (go_simp; rfl)) ?_
        refine Calls.mono (CS.via D.out (impl_addressText.calls k _ _ _ X2.out (Tb.on HT1.out D.out.bel))) ?_
        rintro e wq ⟨rfl, hD⟩
        refine ⟨_, rfl, ?_⟩
        clear D; have D := Aside0.mk hD; clear hD; (try clear q0 f0); (try clear q1 f1); (try (have q0 := D.out.c 0 rfl; have f0 := D.out.f 0 rfl)); (try (have q1 := D.out.c 1 rfl; have f1 := D.out.f 1 rfl))
        refine hK.out _ _ (hs _ D.out.norow) (fun _ => ?_)
        clear hK K
        refine norm_ (by simp only [Act.put, List.setIfInBounds_toArray, List.set_cons_zero, List.set_cons_succ, i64_w, i32_w]; rfl) ?_
        refine pcat 14 (some 33) #[true, true, true, true, true, true, true, true, true, true, true, true, true, true, true, true, true, true, false, false, true, true, true, false, false, false, false] C2 ?_
        refine one_ (i := 18) (N := some 37) #[true, true, true, true, true, true, true, true, true, true, true, true, true, true, true, true, true, true, true, false, true, true, true, false, false, false, false] rfl rfl (by kernel_rfl) (by decide) (fun K hK => ?_)
        refine goes_ Tryd.func23 (by kernel_rfl) rfl #[.int .i64 e2] (wn_ rfl) rfl rfl (by (try simp only [List.map_toArray, List.map_cons, List.map_nil]); first | done | (go_simp; done) | rfl | (go_simp; rfl)) ?_
        refine Calls.mono (CS.via D.out (impl_addressText.calls k _ _ _ X3.out (Tb.on HT1.out D.out.bel))) ?_
        rintro e wq ⟨rfl, hD⟩
        refine ⟨_, rfl, ?_⟩
        clear D; have D := Aside0.mk hD; clear hD; (try clear q0 f0); (try clear q1 f1); (try (have q0 := D.out.c 0 rfl; have f0 := D.out.f 0 rfl)); (try (have q1 := D.out.c 1 rfl; have f1 := D.out.f 1 rfl))
        refine hK.out _ _ (hs _ D.out.norow) (fun _ => ?_)
        clear hK K
        refine norm_ (by simp only [Act.put, List.setIfInBounds_toArray, List.set_cons_zero, List.set_cons_succ, i64_w, i32_w]; rfl) ?_
        refine pcat 19 (some 38) #[true, true, true, true, true, true, true, true, true, true, true, true, true, true, true, true, true, true, true, true, true, true, true, false, false, false, false] C3 ?_
        refine one_ (i := 23) (N := some 42) #[true, true, true, true, true, true, true, true, true, true, true, true, true, true, true, true, true, true, true, true, true, true, true, true, false, false, false] rfl rfl (by kernel_rfl) (by decide) (fun K hK => ?_)
        refine goes_ Tryd.func23 (by kernel_rfl) rfl #[.int .i64 e3] (wn_ rfl) rfl rfl (by (try simp only [List.map_toArray, List.map_cons, List.map_nil]); first | done | (go_simp; done) | rfl | (go_simp; rfl)) ?_
        refine Calls.mono (CS.via D.out (impl_addressText.calls k _ _ _ X4.out (Tb.on HT1.out D.out.bel))) ?_
        rintro e wq ⟨rfl, hD⟩
        refine ⟨_, rfl, ?_⟩
        clear D; have D := Aside0.mk hD; clear hD; (try clear q0 f0); (try clear q1 f1); (try (have q0 := D.out.c 0 rfl; have f0 := D.out.f 0 rfl)); (try (have q1 := D.out.c 1 rfl; have f1 := D.out.f 1 rfl))
        refine hK.out _ _ (hs _ D.out.norow) (fun _ => ?_)
        clear hK K
        refine norm_ (by simp only [Act.put, List.setIfInBounds_toArray, List.set_cons_zero, List.set_cons_succ, i64_w, i32_w]; rfl) ?_
        refine pcat 24 (some 43) #[true, true, true, true, true, true, true, true, true, true, true, true, true, true, true, true, true, true, true, true, true, true, true, true, true, false, false] C4 ?_
        refine one_ (i := 25) (N := some 44) #[true, true, true, true, true, true, true, true, true, true, true, true, true, true, true, true, true, true, true, true, true, true, true, true, true, true, false] rfl rfl (by kernel_rfl) (by decide) (fun K hK => ?_)
        refine litR 9 [wd, s1, s2] D.out ?_
        intro A1 c1 wq hD
        clear D; have D := Aside0.mk hD; clear hD; (try clear q0 f0); (try clear q1 f1); (try (have q0 := D.out.c 0 rfl; have f0 := D.out.f 0 rfl)); (try (have q1 := D.out.c 1 rfl; have f1 := D.out.f 1 rfl))
        refine hK.out _ _ (hs _ D.out.norow) (fun _ => ?_)
        clear hK K
        refine norm_ (by simp only [Act.put, List.setIfInBounds_toArray, List.set_cons_zero, List.set_cons_succ, i64_w, i32_w]; rfl) ?_
        refine tq 26 (some 8) #[true, true, true, true, true, true, true, true, true, true, true, true, true, true, true, true, true, true, true, true, true, true, true, true, true, true, true] (hs _ D.out.norow) ?_
        refine done_ (by kernel_rfl) ?_
        go_wp2
        refine CS.rgS (n := 17) #[false, false, false, false, false, false, false, false, false, false, false, false, false, false, false, false, false] D.out (fun W' h => And.intro (h.c 0 rfl 6) (And.intro (h.c 0 rfl 7) (h.c 0 rfl 8))) ?_
        intro hs w7 hD
        clear D; have D := Aside0.mk hD; clear hD; (try clear q0 f0); (try clear q1 f1); (try (have q0 := D.out.c 0 rfl; have f0 := D.out.f 0 rfl)); (try (have q1 := D.out.c 1 rfl; have f1 := D.out.f 1 rfl))
        refine tq 0 (some 45) #[true, false, false, false, false, false, false, false, false, false, false, false, false, false, false, false, false] (hs _ D.out.norow) ?_
        refine tq 1 (some 46) #[true, true, false, false, false, false, false, false, false, false, false, false, false, false, false, false, false] (hs _ D.out.norow) ?_
        refine tq 2 (some 47) #[true, true, true, false, false, false, false, false, false, false, false, false, false, false, false, false, false] (hs _ D.out.norow) ?_
        refine tq 4 (some 49) #[true, true, true, false, true, false, false, false, false, false, false, false, false, false, false, false, false] (hs _ D.out.norow) ?_
        refine tq 5 (some 50) #[true, true, true, false, true, true, false, false, false, false, false, false, false, false, false, false, false] (hs _ D.out.norow) ?_
        refine tq 6 (some 51) #[true, true, true, false, true, true, true, false, false, false, false, false, false, false, false, false, false] (hs _ D.out.norow) ?_
        refine tq 9 (some 54) #[true, true, true, false, true, true, true, false, false, true, false, false, false, false, false, false, false] (hs _ D.out.norow) ?_
        refine tq 10 (some 55) #[true, true, true, false, true, true, true, false, false, true, true, false, false, false, false, false, false] (hs _ D.out.norow) ?_
        refine tq 11 (some 56) #[true, true, true, false, true, true, true, false, false, true, true, true, false, false, false, false, false] (hs _ D.out.norow) ?_
        refine one_ (i := 3) (N := some 48) #[true, true, true, true, true, true, true, false, false, true, true, true, false, false, false, false, false] rfl rfl (by kernel_rfl) (by decide) (fun K hK => ?_)
        refine goes_ Tryd.func47 (by kernel_rfl) rfl #[.int .i64 e8] (wn_ rfl) rfl rfl (by (try simp only [List.map_toArray, List.map_cons, List.map_nil]); first | done | (go_simp; done) | rfl | (go_simp; rfl)) ?_
        refine Calls.mono (CS.via D.out (impl_decimal.calls _ _ _ X5.out (Tb.on HT1.out D.out.bel))) ?_
        rintro e wq ⟨rfl, hD⟩
        refine ⟨_, rfl, ?_⟩
        clear D; have D := Aside0.mk hD; clear hD; (try clear q0 f0); (try clear q1 f1); (try (have q0 := D.out.c 0 rfl; have f0 := D.out.f 0 rfl)); (try (have q1 := D.out.c 1 rfl; have f1 := D.out.f 1 rfl))
        refine hK.out _ _ (hs _ D.out.norow) (fun _ => ?_)
        clear hK K
        refine norm_ (by simp only [Act.put, List.setIfInBounds_toArray, List.set_cons_zero, List.set_cons_succ, i64_w, i32_w]; rfl) ?_
        refine one_ (i := 7) (N := some 52) #[true, true, true, true, true, true, true, true, false, true, true, true, false, false, false, false, false] rfl rfl (by kernel_rfl) (by decide) (fun K hK => ?_)
        refine goes_ Tryd.func47 (by kernel_rfl) rfl #[.int .i64 e6] (wn_ rfl) rfl rfl (by (try simp only [List.map_toArray, List.map_cons, List.map_nil]); first | done | (go_simp; done) | rfl | (go_simp; rfl)) ?_
        refine Calls.mono (CS.via D.out (impl_decimal.calls _ _ _ X6.out (Tb.on HT1.out D.out.bel))) ?_
        rintro e wq ⟨rfl, hD⟩
        refine ⟨_, rfl, ?_⟩
        clear D; have D := Aside0.mk hD; clear hD; (try clear q0 f0); (try clear q1 f1); (try (have q0 := D.out.c 0 rfl; have f0 := D.out.f 0 rfl)); (try (have q1 := D.out.c 1 rfl; have f1 := D.out.f 1 rfl))
        refine hK.out _ _ (hs _ D.out.norow) (fun _ => ?_)
        clear hK K
        refine norm_ (by simp only [Act.put, List.setIfInBounds_toArray, List.set_cons_zero, List.set_cons_succ, i64_w, i32_w]; rfl) ?_
        refine pcat 8 (some 53) #[true, true, true, true, true, true, true, true, true, true, true, true, false, false, false, false, false] C5 ?_
        refine one_ (i := 12) (N := some 57) #[true, true, true, true, true, true, true, true, true, true, true, true, true, false, false, false, false] rfl rfl (by kernel_rfl) (by decide) (fun K hK => ?_)
        refine goes_ Tryd.func47 (by kernel_rfl) rfl #[.int .i64 e7] (wn_ rfl) rfl rfl (by (try simp only [List.map_toArray, List.map_cons, List.map_nil]); first | done | (go_simp; done) | rfl | (go_simp; rfl)) ?_
        refine Calls.mono (CS.via D.out (impl_decimal.calls _ _ _ X7.out (Tb.on HT1.out D.out.bel))) ?_
        rintro e wq ⟨rfl, hD⟩
        refine ⟨_, rfl, ?_⟩
        clear D; have D := Aside0.mk hD; clear hD; (try clear q0 f0); (try clear q1 f1); (try (have q0 := D.out.c 0 rfl; have f0 := D.out.f 0 rfl)); (try (have q1 := D.out.c 1 rfl; have f1 := D.out.f 1 rfl))
        refine hK.out _ _ (hs _ D.out.norow) (fun _ => ?_)
        clear hK K
        refine norm_ (by simp only [Act.put, List.setIfInBounds_toArray, List.set_cons_zero, List.set_cons_succ, i64_w, i32_w]; rfl) ?_
        refine pcat 13 (some 58) #[true, true, true, true, true, true, true, true, true, true, true, true, true, true, false, false, false] C6 ?_
        refine one_ (i := 14) (N := some 59) #[true, true, true, true, true, true, true, true, true, true, true, true, true, true, true, false, false] rfl rfl (by kernel_rfl) (by decide) (fun K hK => ?_)
        refine litB (cs := #[.string p, .string s3]) (t := 9) ?_ D.out
        intro bq wq hD
        clear D; have D := Aside0.mk hD; clear hD; (try clear q0 f0); (try clear q1 f1); (try (have q0 := D.out.c 0 rfl; have f0 := D.out.f 0 rfl)); (try (have q1 := D.out.c 1 rfl; have f1 := D.out.f 1 rfl))
        refine hK.out _ _ (hs _ D.out.tail.norow) (fun _ => ?_)
        clear hK K
        refine norm_ (by simp only [Act.put, List.setIfInBounds_toArray, List.set_cons_zero, List.set_cons_succ, i64_w, i32_w]; rfl) ?_
        refine one_ (i := 15) (N := some 60) #[true, true, true, true, true, true, true, true, true, true, true, true, true, true, true, true, false] rfl rfl (by kernel_rfl) (by decide) (fun K hK => ?_)
        refine apR 51 9 (.string ⟨#[]⟩) 16 (xs := [wd, s1, s2]) (ys := [p, s3]) (.tmp 45) (.tmp 59) D.out (D.out.litS [p, s3] rfl (by simp)) ?_
        intro A2 c2 wq hD
        clear D; have D := Aside0.mk hD; clear hD; (try clear q0 f0); (try clear q1 f1); (try (have q0 := D.out.c 0 rfl; have f0 := D.out.f 0 rfl)); (try (have q1 := D.out.c 1 rfl; have f1 := D.out.f 1 rfl))
        refine hK.out _ _ (hs _ D.out.tail.norow) (fun _ => ?_)
        clear hK K
        refine norm_ (by simp only [Act.put, List.setIfInBounds_toArray, List.set_cons_zero, List.set_cons_succ, i64_w, i32_w]; rfl) ?_
        refine tq 16 (some 8) #[true, true, true, true, true, true, true, true, true, true, true, true, true, true, true, true, true] (hs _ D.out.tail.norow) ?_
        refine done_ (by kernel_rfl) ?_
        have hD := D.out.tail
        clear D; have D := Aside0.mk hD; clear hD; (try clear q0 f0); (try clear q1 f1); (try (have q0 := D.out.c 0 rfl; have f0 := D.out.f 0 rfl)); (try (have q1 := D.out.c 1 rfl; have f1 := D.out.f 1 rfl))
        go_wp2_with (first
          | ((with_reducible refine gate_lit rfl ?_); refine ev_lit (cs := #[.string pe]) (t := 9) ?_; intro _ _ hD; clear D; have D := Aside0.mk hD; clear hD; (try clear q0 f0); (try clear q1 f1); (try (have q0 := D.out.c 0 rfl; have f0 := D.out.f 0 rfl)); (try (have q1 := D.out.c 1 rfl; have f1 := D.out.f 1 rfl)))
          | ((with_reducible refine gate_cat rfl ?_); refine ev_cat ?_)
          | ((with_reducible refine gate_ap rfl ?_); refine ev_appends Kd.string 51 9 (.string ⟨#[]⟩) 16 (.tmp 64) (.tmp 68) (xs := [wd, s1, s2] ++ [p, s3]) (ys := [pe]) ?_ (by simp) D.out (D.out.litS [pe] rfl (by simp)) (fun _ _ h => h); intro A3 c3 wq hD; replace hD := hD.tail; clear D; have D := Aside0.mk hD; clear hD; (try clear q0 f0); (try clear q1 f1); (try (have q0 := D.out.c 0 rfl; have f0 := D.out.f 0 rfl)); (try (have q1 := D.out.c 1 rfl; have f1 := D.out.f 1 rfl)))
          | (go_at_call 47; refine Calls.mono (CS.via D.out (impl_decimal.calls _ _ _ X8.out (Tb.on HT1.out D.out.bel))) ?_; rintro e wq ⟨rfl, hD⟩; clear D; have D := Aside0.mk hD; clear hD; (try clear q0 f0); (try clear q1 f1); (try (have q0 := D.out.c 0 rfl; have f0 := D.out.f 0 rfl)); (try (have q1 := D.out.c 1 rfl; have f1 := D.out.f 1 rfl)))
          | (go_at_call 42; refine Calls.mono (CS.via D.out (strings_Join.calls _ _ ([wd, s1, s2] ++ [p, s3]) _ _ _ (Kd.R_reads' (D.out.row 0 rfl)).2.2 (Kd.R_reads' (D.out.row 0 rfl)).2.1 XJ.out (spot_of ⟨D.out.row 0 rfl⟩))) ?_; rintro e wq ⟨rfl, hD⟩; clear D; have D := Aside0.mk hD; clear hD; (try clear q0 f0); (try clear q1 f1); (try (have q0 := D.out.c 0 rfl; have f0 := D.out.f 0 rfl)); (try (have q1 := D.out.c 1 rfl; have f1 := D.out.f 1 rfl)))
          | (go_at_call 48; refine Calls.mono (Tryd.Builder_WriteString_k w.heap.size bo (Lib.byteCells l) s _ (bu_below BU.out D.out.bel) (by rw [Lib.byteCells_length]; exact hlen) (Nat.le_trans BW.out.size D.out.bel.size)) ?_; rintro e W2 ⟨rfl, hbu, hbl, hok⟩))
        have BW2 : Below w.heap.size w W2 := (below_then BW.out BW.out.size D.out.bel).trans hbl
        have WD2 : W2.heap[bw]? = some (.cells #[.string ⟨#[]⟩, .string ⟨#[100, 114, 111, 112]⟩, .string ⟨#[112, 97, 115, 115]⟩, .string ⟨#[115, 101, 97, 108]⟩] 9 (0, 0)) := hok _ _ ((D.out.bel.block bw (blk_lt WDS.out)).trans WDS.out) (fun e => hne.out (Option.some.inj e)) (by intro cc fz hh; cases hh)
        have BU2 : Lib.IsBuilderF 80 5 w.heap.size bo (Lib.byteCells (l ++ s.data.toList)) W2 := .inr (by rw [Lib.byteCells_append]; exact hbu)
        go_roundg (l0.length - (kk + 1))
        case measure => omega
        case rel => exact ⟨kk + 1, _, by omega, by omega, by go_num, ⟨BW2⟩, ⟨BU2⟩, ⟨WD2⟩, ⟨AN.out⟩⟩
      rcases ifE hw with ⟨m3, _, hw⟩ | ⟨_, _, hw⟩
      case inr => exact noneE hw
      obtain rfl : e9 = 3 := eq_of_beq m3
      clear m3
      obtain rfl := Option.some.inj hw
      have gw := gw3
      clear gw1 gw2 gw3 hw
      rw [if_pos rfl] at hs
      obtain ⟨pe, g14, hs⟩ := Option.bind_eq_some_iff.mp hs
      have X8 := Aside0.mk g14
      clear g14
      unfold impl_policyText.fin at hs
      obtain ⟨jj, hj, hs⟩ := Option.bind_eq_some_iff.mp hs
      have XJ := Aside0.mk hj
      have CJ := Aside0.mk hs
      clear hj hs
      generalize hwd : (⟨#[115, 101, 97, 108]⟩ : ByteArray) = wd at gw XJ
      clear hwd
      go_wp2_with (first
        | ((with_reducible refine gate_al rfl ?_); refine ev_box ?_; intro _ _ hD; clear D; have D := Aside0.mk hD; clear hD; (try clear q0 f0); (try clear q1 f1); (try (have q0 := D.out.c 0 rfl; have f0 := D.out.f 0 rfl)); (try (have q1 := D.out.c 1 rfl; have f1 := D.out.f 1 rfl)); (try clear y0); (try have y0 := gx0 _ D.out.bel); (try clear y1); (try have y1 := gx1 _ D.out.bel); (try clear y2); (try have y2 := gx2 _ D.out.bel); (try clear y3); (try have y3 := gx3 _ D.out.bel); (try clear y4); (try have y4 := gx4 _ D.out.bel); (try clear y5); (try have y5 := gx5 _ D.out.bel); (try clear y6); (try have y6 := gx6 _ D.out.bel); (try clear y7); (try have y7 := gx7 _ D.out.bel); (try clear y8); (try have y8 := gx8 _ D.out.bel); (try clear y9); (try have y9 := gx9 _ D.out.bel); (try clear y10); (try have y10 := gx10 _ D.out.bel))
        | ((with_reducible refine gate_st rfl ?_); refine ev_store ?_; intro wq hD; clear D; simp only [List.set_cons_zero, List.set_cons_succ, List.setIfInBounds_toArray] at hD; have D := Aside0.mk hD; clear hD; (try clear q0 f0); (try clear q1 f1); (try (have q0 := D.out.c 0 rfl; have f0 := D.out.f 0 rfl)); (try (have q1 := D.out.c 1 rfl; have f1 := D.out.f 1 rfl)); (try clear y0); (try have y0 := gx0 _ D.out.bel); (try clear y1); (try have y1 := gx1 _ D.out.bel); (try clear y2); (try have y2 := gx2 _ D.out.bel); (try clear y3); (try have y3 := gx3 _ D.out.bel); (try clear y4); (try have y4 := gx4 _ D.out.bel); (try clear y5); (try have y5 := gx5 _ D.out.bel); (try clear y6); (try have y6 := gx6 _ D.out.bel); (try clear y7); (try have y7 := gx7 _ D.out.bel); (try clear y8); (try have y8 := gx8 _ D.out.bel); (try clear y9); (try have y9 := gx9 _ D.out.bel); (try clear y10); (try have y10 := gx10 _ D.out.bel)))
      clear y0 y1 y2 y3 y4 y5 y6 y7 y8 y9 y10 gx0 gx1 gx2 gx3 gx4 gx5 gx6 gx7 gx8 gx9 gx10
      refine CS.rgS (n := 27) #[false, false, false, false, false, false, false, false, false, false, false, false, false, false, false, false, false, false, false, false, false, false, false, false, false, false, false] D.out (fun W' h => And.intro (h.c 1 rfl 9) (And.intro (h.c 0 rfl 0) (And.intro (h.c 0 rfl 1) (And.intro (h.c 0 rfl 2) (And.intro (h.c 0 rfl 3) (gw W' h.bel)))))) ?_
      intro hs w6 hD
      clear D; have D := Aside0.mk hD; clear hD; (try clear q0 f0); (try clear q1 f1); (try (have q0 := D.out.c 0 rfl; have f0 := D.out.f 0 rfl)); (try (have q1 := D.out.c 1 rfl; have f1 := D.out.f 1 rfl))
      refine tq 0 (some 19) #[true, false, false, false, false, false, false, false, false, false, false, false, false, false, false, false, false, false, false, false, false, false, false, false, false, false, false] (hs _ D.out.norow) ?_
      refine tq 1 (some 20) #[true, true, false, false, false, false, false, false, false, false, false, false, false, false, false, false, false, false, false, false, false, false, false, false, false, false, false] (hs _ D.out.norow) ?_
      refine tq 2 (some 21) #[true, true, true, false, false, false, false, false, false, false, false, false, false, false, false, false, false, false, false, false, false, false, false, false, false, false, false] (hs _ D.out.norow) ?_
      refine tq 3 (some 22) #[true, true, true, true, false, false, false, false, false, false, false, false, false, false, false, false, false, false, false, false, false, false, false, false, false, false, false] (hs _ D.out.norow) ?_
      refine tq 4 (some 23) #[true, true, true, true, true, false, false, false, false, false, false, false, false, false, false, false, false, false, false, false, false, false, false, false, false, false, false] (hs _ D.out.norow) ?_
      refine tq 5 (some 24) #[true, true, true, true, true, true, false, false, false, false, false, false, false, false, false, false, false, false, false, false, false, false, false, false, false, false, false] (hs _ D.out.norow) ?_
      refine tq 6 (some 25) #[true, true, true, true, true, true, true, false, false, false, false, false, false, false, false, false, false, false, false, false, false, false, false, false, false, false, false] (hs _ D.out.norow) ?_
      refine tq 7 (some 26) #[true, true, true, true, true, true, true, true, false, false, false, false, false, false, false, false, false, false, false, false, false, false, false, false, false, false, false] (hs _ D.out.norow) ?_
      refine tq 10 (some 29) #[true, true, true, true, true, true, true, true, false, false, true, false, false, false, false, false, false, false, false, false, false, false, false, false, false, false, false] (hs _ D.out.norow) ?_
      refine tq 11 (some 30) #[true, true, true, true, true, true, true, true, false, false, true, true, false, false, false, false, false, false, false, false, false, false, false, false, false, false, false] (hs _ D.out.norow) ?_
      refine tq 12 (some 31) #[true, true, true, true, true, true, true, true, false, false, true, true, true, false, false, false, false, false, false, false, false, false, false, false, false, false, false] (hs _ D.out.norow) ?_
      refine tq 15 (some 34) #[true, true, true, true, true, true, true, true, false, false, true, true, true, false, false, true, false, false, false, false, false, false, false, false, false, false, false] (hs _ D.out.norow) ?_
      refine tq 16 (some 35) #[true, true, true, true, true, true, true, true, false, false, true, true, true, false, false, true, true, false, false, false, false, false, false, false, false, false, false] (hs _ D.out.norow) ?_
      refine tq 17 (some 36) #[true, true, true, true, true, true, true, true, false, false, true, true, true, false, false, true, true, true, false, false, false, false, false, false, false, false, false] (hs _ D.out.norow) ?_
      refine tq 20 (some 39) #[true, true, true, true, true, true, true, true, false, false, true, true, true, false, false, true, true, true, false, false, true, false, false, false, false, false, false] (hs _ D.out.norow) ?_
      refine tq 21 (some 40) #[true, true, true, true, true, true, true, true, false, false, true, true, true, false, false, true, true, true, false, false, true, true, false, false, false, false, false] (hs _ D.out.norow) ?_
      refine tq 22 (some 41) #[true, true, true, true, true, true, true, true, false, false, true, true, true, false, false, true, true, true, false, false, true, true, true, false, false, false, false] (hs _ D.out.norow) ?_
      refine one_ (i := 8) (N := some 27) #[true, true, true, true, true, true, true, true, true, false, true, true, true, false, false, true, true, true, false, false, true, true, true, false, false, false, false] rfl rfl (by kernel_rfl) (by decide) (fun K hK => ?_)
      refine goes_ Tryd.func23 (by kernel_rfl) rfl #[.int .i64 e0] (wn_ rfl) rfl rfl (by (try simp only [List.map_toArray, List.map_cons, List.map_nil]); first | done | (go_simp; done) | rfl | (go_simp; rfl)) ?_
      refine Calls.mono (CS.via D.out (impl_addressText.calls k _ _ _ X1.out (Tb.on HT1.out D.out.bel))) ?_
      rintro e wq ⟨rfl, hD⟩
      refine ⟨_, rfl, ?_⟩
      clear D; have D := Aside0.mk hD; clear hD; (try clear q0 f0); (try clear q1 f1); (try (have q0 := D.out.c 0 rfl; have f0 := D.out.f 0 rfl)); (try (have q1 := D.out.c 1 rfl; have f1 := D.out.f 1 rfl))
      refine hK.out _ _ (hs _ D.out.norow) (fun _ => ?_)
      clear hK K
      refine norm_ (by simp only [Act.put, List.setIfInBounds_toArray, List.set_cons_zero, List.set_cons_succ, i64_w, i32_w]; rfl) ?_
      refine pcat 9 (some 28) #[true, true, true, true, true, true, true, true, true, true, true, true, true, false, false, true, true, true, false, false, true, true, true, false, false, false, false] C1 ?_
      refine one_ (i := 13) (N := some 32) #[true, true, true, true, true, true, true, true, true, true, true, true, true, true, false, true, true, true, false, false, true, true, true, false, false, false, false] rfl rfl (by kernel_rfl) (by decide) (fun K hK => ?_)
      refine goes_ Tryd.func23 (by kernel_rfl) rfl #[.int .i64 e1] (wn_ rfl) rfl rfl (by (try simp only [List.map_toArray, List.map_cons, List.map_nil]); first | done | (go_simp; done) | rfl | (go_simp; rfl)) ?_
      refine Calls.mono (CS.via D.out (impl_addressText.calls k _ _ _ X2.out (Tb.on HT1.out D.out.bel))) ?_
      rintro e wq ⟨rfl, hD⟩
      refine ⟨_, rfl, ?_⟩
      clear D; have D := Aside0.mk hD; clear hD; (try clear q0 f0); (try clear q1 f1); (try (have q0 := D.out.c 0 rfl; have f0 := D.out.f 0 rfl)); (try (have q1 := D.out.c 1 rfl; have f1 := D.out.f 1 rfl))
      refine hK.out _ _ (hs _ D.out.norow) (fun _ => ?_)
      clear hK K
      refine norm_ (by simp only [Act.put, List.setIfInBounds_toArray, List.set_cons_zero, List.set_cons_succ, i64_w, i32_w]; rfl) ?_
      refine pcat 14 (some 33) #[true, true, true, true, true, true, true, true, true, true, true, true, true, true, true, true, true, true, false, false, true, true, true, false, false, false, false] C2 ?_
      refine one_ (i := 18) (N := some 37) #[true, true, true, true, true, true, true, true, true, true, true, true, true, true, true, true, true, true, true, false, true, true, true, false, false, false, false] rfl rfl (by kernel_rfl) (by decide) (fun K hK => ?_)
      refine goes_ Tryd.func23 (by kernel_rfl) rfl #[.int .i64 e2] (wn_ rfl) rfl rfl (by (try simp only [List.map_toArray, List.map_cons, List.map_nil]); first | done | (go_simp; done) | rfl | (go_simp; rfl)) ?_
      refine Calls.mono (CS.via D.out (impl_addressText.calls k _ _ _ X3.out (Tb.on HT1.out D.out.bel))) ?_
      rintro e wq ⟨rfl, hD⟩
      refine ⟨_, rfl, ?_⟩
      clear D; have D := Aside0.mk hD; clear hD; (try clear q0 f0); (try clear q1 f1); (try (have q0 := D.out.c 0 rfl; have f0 := D.out.f 0 rfl)); (try (have q1 := D.out.c 1 rfl; have f1 := D.out.f 1 rfl))
      refine hK.out _ _ (hs _ D.out.norow) (fun _ => ?_)
      clear hK K
      refine norm_ (by simp only [Act.put, List.setIfInBounds_toArray, List.set_cons_zero, List.set_cons_succ, i64_w, i32_w]; rfl) ?_
      refine pcat 19 (some 38) #[true, true, true, true, true, true, true, true, true, true, true, true, true, true, true, true, true, true, true, true, true, true, true, false, false, false, false] C3 ?_
      refine one_ (i := 23) (N := some 42) #[true, true, true, true, true, true, true, true, true, true, true, true, true, true, true, true, true, true, true, true, true, true, true, true, false, false, false] rfl rfl (by kernel_rfl) (by decide) (fun K hK => ?_)
      refine goes_ Tryd.func23 (by kernel_rfl) rfl #[.int .i64 e3] (wn_ rfl) rfl rfl (by (try simp only [List.map_toArray, List.map_cons, List.map_nil]); first | done | (go_simp; done) | rfl | (go_simp; rfl)) ?_
      refine Calls.mono (CS.via D.out (impl_addressText.calls k _ _ _ X4.out (Tb.on HT1.out D.out.bel))) ?_
      rintro e wq ⟨rfl, hD⟩
      refine ⟨_, rfl, ?_⟩
      clear D; have D := Aside0.mk hD; clear hD; (try clear q0 f0); (try clear q1 f1); (try (have q0 := D.out.c 0 rfl; have f0 := D.out.f 0 rfl)); (try (have q1 := D.out.c 1 rfl; have f1 := D.out.f 1 rfl))
      refine hK.out _ _ (hs _ D.out.norow) (fun _ => ?_)
      clear hK K
      refine norm_ (by simp only [Act.put, List.setIfInBounds_toArray, List.set_cons_zero, List.set_cons_succ, i64_w, i32_w]; rfl) ?_
      refine pcat 24 (some 43) #[true, true, true, true, true, true, true, true, true, true, true, true, true, true, true, true, true, true, true, true, true, true, true, true, true, false, false] C4 ?_
      refine one_ (i := 25) (N := some 44) #[true, true, true, true, true, true, true, true, true, true, true, true, true, true, true, true, true, true, true, true, true, true, true, true, true, true, false] rfl rfl (by kernel_rfl) (by decide) (fun K hK => ?_)
      refine litR 9 [wd, s1, s2] D.out ?_
      intro A1 c1 wq hD
      clear D; have D := Aside0.mk hD; clear hD; (try clear q0 f0); (try clear q1 f1); (try (have q0 := D.out.c 0 rfl; have f0 := D.out.f 0 rfl)); (try (have q1 := D.out.c 1 rfl; have f1 := D.out.f 1 rfl))
      refine hK.out _ _ (hs _ D.out.norow) (fun _ => ?_)
      clear hK K
      refine norm_ (by simp only [Act.put, List.setIfInBounds_toArray, List.set_cons_zero, List.set_cons_succ, i64_w, i32_w]; rfl) ?_
      refine tq 26 (some 8) #[true, true, true, true, true, true, true, true, true, true, true, true, true, true, true, true, true, true, true, true, true, true, true, true, true, true, true] (hs _ D.out.norow) ?_
      refine done_ (by kernel_rfl) ?_
      go_wp2
      refine CS.rgS (n := 17) #[false, false, false, false, false, false, false, false, false, false, false, false, false, false, false, false, false] D.out (fun W' h => And.intro (h.c 0 rfl 6) (And.intro (h.c 0 rfl 7) (h.c 0 rfl 8))) ?_
      intro hs w7 hD
      clear D; have D := Aside0.mk hD; clear hD; (try clear q0 f0); (try clear q1 f1); (try (have q0 := D.out.c 0 rfl; have f0 := D.out.f 0 rfl)); (try (have q1 := D.out.c 1 rfl; have f1 := D.out.f 1 rfl))
      refine tq 0 (some 45) #[true, false, false, false, false, false, false, false, false, false, false, false, false, false, false, false, false] (hs _ D.out.norow) ?_
      refine tq 1 (some 46) #[true, true, false, false, false, false, false, false, false, false, false, false, false, false, false, false, false] (hs _ D.out.norow) ?_
      refine tq 2 (some 47) #[true, true, true, false, false, false, false, false, false, false, false, false, false, false, false, false, false] (hs _ D.out.norow) ?_
      refine tq 4 (some 49) #[true, true, true, false, true, false, false, false, false, false, false, false, false, false, false, false, false] (hs _ D.out.norow) ?_
      refine tq 5 (some 50) #[true, true, true, false, true, true, false, false, false, false, false, false, false, false, false, false, false] (hs _ D.out.norow) ?_
      refine tq 6 (some 51) #[true, true, true, false, true, true, true, false, false, false, false, false, false, false, false, false, false] (hs _ D.out.norow) ?_
      refine tq 9 (some 54) #[true, true, true, false, true, true, true, false, false, true, false, false, false, false, false, false, false] (hs _ D.out.norow) ?_
      refine tq 10 (some 55) #[true, true, true, false, true, true, true, false, false, true, true, false, false, false, false, false, false] (hs _ D.out.norow) ?_
      refine tq 11 (some 56) #[true, true, true, false, true, true, true, false, false, true, true, true, false, false, false, false, false] (hs _ D.out.norow) ?_
      refine one_ (i := 3) (N := some 48) #[true, true, true, true, true, true, true, false, false, true, true, true, false, false, false, false, false] rfl rfl (by kernel_rfl) (by decide) (fun K hK => ?_)
      refine goes_ Tryd.func47 (by kernel_rfl) rfl #[.int .i64 e8] (wn_ rfl) rfl rfl (by (try simp only [List.map_toArray, List.map_cons, List.map_nil]); first | done | (go_simp; done) | rfl | (go_simp; rfl)) ?_
      refine Calls.mono (CS.via D.out (impl_decimal.calls _ _ _ X5.out (Tb.on HT1.out D.out.bel))) ?_
      rintro e wq ⟨rfl, hD⟩
      refine ⟨_, rfl, ?_⟩
      clear D; have D := Aside0.mk hD; clear hD; (try clear q0 f0); (try clear q1 f1); (try (have q0 := D.out.c 0 rfl; have f0 := D.out.f 0 rfl)); (try (have q1 := D.out.c 1 rfl; have f1 := D.out.f 1 rfl))
      refine hK.out _ _ (hs _ D.out.norow) (fun _ => ?_)
      clear hK K
      refine norm_ (by simp only [Act.put, List.setIfInBounds_toArray, List.set_cons_zero, List.set_cons_succ, i64_w, i32_w]; rfl) ?_
      refine one_ (i := 7) (N := some 52) #[true, true, true, true, true, true, true, true, false, true, true, true, false, false, false, false, false] rfl rfl (by kernel_rfl) (by decide) (fun K hK => ?_)
      refine goes_ Tryd.func47 (by kernel_rfl) rfl #[.int .i64 e6] (wn_ rfl) rfl rfl (by (try simp only [List.map_toArray, List.map_cons, List.map_nil]); first | done | (go_simp; done) | rfl | (go_simp; rfl)) ?_
      refine Calls.mono (CS.via D.out (impl_decimal.calls _ _ _ X6.out (Tb.on HT1.out D.out.bel))) ?_
      rintro e wq ⟨rfl, hD⟩
      refine ⟨_, rfl, ?_⟩
      clear D; have D := Aside0.mk hD; clear hD; (try clear q0 f0); (try clear q1 f1); (try (have q0 := D.out.c 0 rfl; have f0 := D.out.f 0 rfl)); (try (have q1 := D.out.c 1 rfl; have f1 := D.out.f 1 rfl))
      refine hK.out _ _ (hs _ D.out.norow) (fun _ => ?_)
      clear hK K
      refine norm_ (by simp only [Act.put, List.setIfInBounds_toArray, List.set_cons_zero, List.set_cons_succ, i64_w, i32_w]; rfl) ?_
      refine pcat 8 (some 53) #[true, true, true, true, true, true, true, true, true, true, true, true, false, false, false, false, false] C5 ?_
      refine one_ (i := 12) (N := some 57) #[true, true, true, true, true, true, true, true, true, true, true, true, true, false, false, false, false] rfl rfl (by kernel_rfl) (by decide) (fun K hK => ?_)
      refine goes_ Tryd.func47 (by kernel_rfl) rfl #[.int .i64 e7] (wn_ rfl) rfl rfl (by (try simp only [List.map_toArray, List.map_cons, List.map_nil]); first | done | (go_simp; done) | rfl | (go_simp; rfl)) ?_
      refine Calls.mono (CS.via D.out (impl_decimal.calls _ _ _ X7.out (Tb.on HT1.out D.out.bel))) ?_
      rintro e wq ⟨rfl, hD⟩
      refine ⟨_, rfl, ?_⟩
      clear D; have D := Aside0.mk hD; clear hD; (try clear q0 f0); (try clear q1 f1); (try (have q0 := D.out.c 0 rfl; have f0 := D.out.f 0 rfl)); (try (have q1 := D.out.c 1 rfl; have f1 := D.out.f 1 rfl))
      refine hK.out _ _ (hs _ D.out.norow) (fun _ => ?_)
      clear hK K
      refine norm_ (by simp only [Act.put, List.setIfInBounds_toArray, List.set_cons_zero, List.set_cons_succ, i64_w, i32_w]; rfl) ?_
      refine pcat 13 (some 58) #[true, true, true, true, true, true, true, true, true, true, true, true, true, true, false, false, false] C6 ?_
      refine one_ (i := 14) (N := some 59) #[true, true, true, true, true, true, true, true, true, true, true, true, true, true, true, false, false] rfl rfl (by kernel_rfl) (by decide) (fun K hK => ?_)
      refine litB (cs := #[.string p, .string s3]) (t := 9) ?_ D.out
      intro bq wq hD
      clear D; have D := Aside0.mk hD; clear hD; (try clear q0 f0); (try clear q1 f1); (try (have q0 := D.out.c 0 rfl; have f0 := D.out.f 0 rfl)); (try (have q1 := D.out.c 1 rfl; have f1 := D.out.f 1 rfl))
      refine hK.out _ _ (hs _ D.out.tail.norow) (fun _ => ?_)
      clear hK K
      refine norm_ (by simp only [Act.put, List.setIfInBounds_toArray, List.set_cons_zero, List.set_cons_succ, i64_w, i32_w]; rfl) ?_
      refine one_ (i := 15) (N := some 60) #[true, true, true, true, true, true, true, true, true, true, true, true, true, true, true, true, false] rfl rfl (by kernel_rfl) (by decide) (fun K hK => ?_)
      refine apR 51 9 (.string ⟨#[]⟩) 16 (xs := [wd, s1, s2]) (ys := [p, s3]) (.tmp 45) (.tmp 59) D.out (D.out.litS [p, s3] rfl (by simp)) ?_
      intro A2 c2 wq hD
      clear D; have D := Aside0.mk hD; clear hD; (try clear q0 f0); (try clear q1 f1); (try (have q0 := D.out.c 0 rfl; have f0 := D.out.f 0 rfl)); (try (have q1 := D.out.c 1 rfl; have f1 := D.out.f 1 rfl))
      refine hK.out _ _ (hs _ D.out.tail.norow) (fun _ => ?_)
      clear hK K
      refine norm_ (by simp only [Act.put, List.setIfInBounds_toArray, List.set_cons_zero, List.set_cons_succ, i64_w, i32_w]; rfl) ?_
      refine tq 16 (some 8) #[true, true, true, true, true, true, true, true, true, true, true, true, true, true, true, true, true] (hs _ D.out.tail.norow) ?_
      refine done_ (by kernel_rfl) ?_
      have hD := D.out.tail
      clear D; have D := Aside0.mk hD; clear hD; (try clear q0 f0); (try clear q1 f1); (try (have q0 := D.out.c 0 rfl; have f0 := D.out.f 0 rfl)); (try (have q1 := D.out.c 1 rfl; have f1 := D.out.f 1 rfl))
      go_wp2_with (first
        | ((with_reducible refine gate_lit rfl ?_); refine ev_lit (cs := #[.string pe]) (t := 9) ?_; intro _ _ hD; clear D; have D := Aside0.mk hD; clear hD; (try clear q0 f0); (try clear q1 f1); (try (have q0 := D.out.c 0 rfl; have f0 := D.out.f 0 rfl)); (try (have q1 := D.out.c 1 rfl; have f1 := D.out.f 1 rfl)))
        | ((with_reducible refine gate_cat rfl ?_); refine ev_cat ?_)
        | ((with_reducible refine gate_ap rfl ?_); refine ev_appends Kd.string 51 9 (.string ⟨#[]⟩) 16 (.tmp 64) (.tmp 68) (xs := [wd, s1, s2] ++ [p, s3]) (ys := [pe]) ?_ (by simp) D.out (D.out.litS [pe] rfl (by simp)) (fun _ _ h => h); intro A3 c3 wq hD; replace hD := hD.tail; clear D; have D := Aside0.mk hD; clear hD; (try clear q0 f0); (try clear q1 f1); (try (have q0 := D.out.c 0 rfl; have f0 := D.out.f 0 rfl)); (try (have q1 := D.out.c 1 rfl; have f1 := D.out.f 1 rfl)))
        | (go_at_call 47; refine Calls.mono (CS.via D.out (impl_decimal.calls _ _ _ X8.out (Tb.on HT1.out D.out.bel))) ?_; rintro e wq ⟨rfl, hD⟩; clear D; have D := Aside0.mk hD; clear hD; (try clear q0 f0); (try clear q1 f1); (try (have q0 := D.out.c 0 rfl; have f0 := D.out.f 0 rfl)); (try (have q1 := D.out.c 1 rfl; have f1 := D.out.f 1 rfl)))
        | (go_at_call 42; refine Calls.mono (CS.via D.out (strings_Join.calls _ _ ([wd, s1, s2] ++ [p, s3] ++ [pe]) _ _ _ (Kd.R_reads' (D.out.row 0 rfl)).2.2 (Kd.R_reads' (D.out.row 0 rfl)).2.1 XJ.out (spot_of ⟨D.out.row 0 rfl⟩))) ?_; rintro e wq ⟨rfl, hD⟩; clear D; have D := Aside0.mk hD; clear hD; (try clear q0 f0); (try clear q1 f1); (try (have q0 := D.out.c 0 rfl; have f0 := D.out.f 0 rfl)); (try (have q1 := D.out.c 1 rfl; have f1 := D.out.f 1 rfl)))
        | (go_at_call 48; refine Calls.mono (Tryd.Builder_WriteString_k w.heap.size bo (Lib.byteCells l) s _ (bu_below BU.out D.out.bel) (by rw [Lib.byteCells_length]; exact hlen) (Nat.le_trans BW.out.size D.out.bel.size)) ?_; rintro e W2 ⟨rfl, hbu, hbl, hok⟩))
      have BW2 : Below w.heap.size w W2 := (below_then BW.out BW.out.size D.out.bel).trans hbl
      have WD2 : W2.heap[bw]? = some (.cells #[.string ⟨#[]⟩, .string ⟨#[100, 114, 111, 112]⟩, .string ⟨#[112, 97, 115, 115]⟩, .string ⟨#[115, 101, 97, 108]⟩] 9 (0, 0)) := hok _ _ ((D.out.bel.block bw (blk_lt WDS.out)).trans WDS.out) (fun e => hne.out (Option.some.inj e)) (by intro cc fz hh; cases hh)
      have BU2 : Lib.IsBuilderF 80 5 w.heap.size bo (Lib.byteCells (l ++ s.data.toList)) W2 := .inr (by rw [Lib.byteCells_append]; exact hbu)
      go_roundg (l0.length - (kk + 1))
      case measure => omega
      case rel => exact ⟨kk + 1, _, by omega, by omega, by go_num, ⟨BW2⟩, ⟨BU2⟩, ⟨WD2⟩, ⟨AN.out⟩⟩
    · have hke : kk = l0.length := by omega
      subst hke
      have A2 := A.out
      rw [List.drop_length, impl_policyText.go] at A2
      have A3 := Aside0.mk (Option.some.inj A2)
      clear A A2
      have qn : (l0.length < l0.length) = False := eq_false (Nat.lt_irrefl _)
      go_wp2_with (go_at_call 49; refine Calls.mono (Tryd.Builder_String_any_k w.heap.size bo l _ BU.out BW.out.size) ?_; rintro e W2 ⟨rfl, hbu, hbl, hok⟩)
      go_ret
      exact ⟨congrArg (fun z => Ending.returned (Value.string z)) A3.out, BW.out.trans hbl⟩

end Go.Proofs.YtbficbiignpnoaaDoor.PFnExactPolicyText
