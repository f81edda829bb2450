-- Written by wip/tools/myprint.py of this claim's session, over the kit's print, round texts of its own: own text.
import Derived.Test.YtofaojdkpbheoaaPFnExactSameTermsx0
import Derived.Test.YtofaojdkpbheoaaPFnExactSameTermsx9
namespace Go.Proofs.Ytofaojdkpbheoaa.PFnExactSameTerms
open Go.RowKit Go.Proofs.YtofaojdkpbheoaaW.PrintWords Go.Proofs.YtofaojdkpbheoaaW.PrintLast Go.Proofs.YtofaojdkpbheoaaW.PrintMore
attribute [local go_sem] max2_int min2_int max_two min_two max_three min_three max_four min_four   -- for this text's walks alone
set_option linter.unusedVariables false
set_option linter.unusedSimpArgs false

/-! ### (my own text) smWords -/
-- a map of bools keyed by pairs of ints that a call has made: what it tells of each pair (a list of entries, the last one first)
abbrev Mm := List ((Int × Int) × Bool)
def encP (p : Int × Int) : Value := .agg #[.int .i64 p.1, .int .i64 p.2]
theorem encP_inj (p q : Int × Int) (h : encP p = encP q) : p = q := by
  cases p
  cases q
  simpa [encP] using h
def okI2 (x : Int) : Prop := -9223372036854775808 ≤ x ∧ x ≤ 9223372036854775807
theorem okI2_wf {x : Int} (h : okI2 x) : (Lit.int .i64 x).wf = true := by
  unfold okI2 at h
  simp [Lit.wf, IntKind.min, IntKind.max, IntKind.signed, IntKind.bits]
  omega
theorem laidOutP : laidOutB Try.prog = true := by kernel_rfl
theorem rowP : 55 < Try.prog.types.size := by decide +kernel
theorem wideP : (match Try.prog.underlying 55 with | some (.array _ _) | some (.struct _) => true | _ => false) = true := by kernel_rfl
theorem keyTP : Try.prog.keyTypeAt 2 55 = true := by kernel_rfl
set_option maxRecDepth 100000 in
theorem keyTP' : Try.prog.keyType 55 = true := by kernel_rfl
set_option maxRecDepth 100000 in
theorem keyedP : Go.Maps.Keyed Try.prog 55 := Go.Maps.Keyed.of_law (deep_law_laid laidOutP (m := 2) (by omega) rowP keyTP wideP)
theorem keyOfP (p : Int × Int) (h0 : okI2 p.1) (h1 : okI2 p.2) : ∃ kl, keyOf Try.prog 55 (encP p) = some kl := by
  have w0 := okI2_wf h0
  have w1 := okI2_wf h1
  have hk := keyTP'
  have hu := Try.underlying55
  have hu2 := Try.underlying2
  have hc : Try.prog.cellsOf 55 = 2 := by kernel_rfl
  have hc2 : Try.prog.cellsOf 2 = 1 := by kernel_rfl
  obtain ⟨m, hm⟩ : ∃ m, Try.prog.types.size + 1 = m + 2 := ⟨Try.prog.types.size - 1, by have := rowP; omega⟩
  have one : ∀ a : Int, (Lit.int .i64 a).wf = true → Try.prog.keyLits (m + 1) 2 [.int .i64 a] = some [.int .i64 a] := by
    intro a ha
    unfold Program.keyLits
    rw [hu2]
    simp [ha]
  have hl : Try.prog.keyLits (m + 2) 55 [.int .i64 p.1, .int .i64 p.2] = some [.int .i64 p.1, .int .i64 p.2] := by
    unfold Program.keyLits
    rw [hu]
    dsimp only
    rw [if_pos (by rw [hc]; rfl)]
    simp [hc2, List.range, List.range.loop, List.mapM_cons, one _ w0, one _ w1]
  unfold keyOf
  simp only [hu]
  rw [if_pos (by simp [hk, Value.formed, hu, hc, encP]), hm]
  have he : (encP p).cells.toList = [.int .i64 p.1, .int .i64 p.2] := rfl
  rw [he, hl]
  exact ⟨_, rfl⟩
def MapIs (w : World) (mb : Nat) (M : Mm) : Prop := ∃ D : DataW Unit, w.ownsMap Try.prog 55 (plainElem Try.prog 4) mb M.length D ∧ Go.Maps.IsMap D ∧
  ∀ p kl, keyOf Try.prog 55 (encP p) = some kl → Go.Maps.has D kl = (M.lookup p).isSome ∧ D.atKey kl (.lit (.bool false)) = .lit (.bool ((M.lookup p).getD false))
theorem MapIs.made (w : World) : MapIs (w.alloc (.map #[] 0)) w.heap.size [] := ⟨.map [], World.ownsMap_made w Try.prog 55 _, ⟨[], rfl⟩, fun _ _ _ => ⟨rfl, rfl⟩⟩
theorem MapIs.lt {w : World} {mb : Nat} {M : Mm} (h : MapIs w mb M) : mb < w.heap.size := by
  obtain ⟨D, h1, _⟩ := h
  exact h1.lt
theorem MapIs.grown {w w' : World} {mb : Nat} {M : Mm} {row : Option Nat} (h : MapIs w mb M) (hg : w.grownBy w' row) (hne : some mb ≠ row) : MapIs w' mb M := by
  obtain ⟨D, h1, h2⟩ := h
  exact ⟨D, h1.kept hg hne, h2⟩
theorem MapIs.below {w w' : World} {mb : Nat} {M : Mm} (h : MapIs w mb M) (hb : Below w.heap.size w w') : MapIs w' mb M := h.grown (grown_of_below hb none) (by simp)
theorem MapIs.far {w : World} {mb b : Nat} {M : Mm} (h : MapIs w mb M) (hne : b ≠ mb) (i : Nat) (u : Value) : MapIs (w.setCell ⟨b, i, none⟩ u) mb M :=
  h.grown (row := some b) ⟨rfl, rfl, rfl, by simp [World.setCell], fun k hk hn => Below.heap_setCell w _ u k (fun e => hn (by rw [e]))⟩ (fun e => hne (Option.some.inj e).symm)
theorem MapIs.look {w : World} {mb : Nat} {M : Mm} (h : MapIs w mb M) (p : Int × Int) (h0 : okI2 p.1) (h1 : okI2 p.2) :
    (Instr.lookup 39 (.map (some mb)) (encP p) true).run Try.prog w = .ok (.tuple #[.bool ((M.lookup p).getD false), .bool (M.lookup p).isSome]) w := by
  obtain ⟨kl, hk⟩ := keyOfP p h0 h1
  obtain ⟨D, g1, _, g3⟩ := h
  obtain ⟨v, ps, hrun, hv⟩ := g1.look_ok keyedP Try.underlying39 (z := .bool false) (Try.zeroValue4 w) (plainElem_bool Try.underlying4 false) hk
  obtain ⟨y, rfl, hy⟩ := plainElem_bool_inv Try.underlying4 hv
  obtain ⟨e1, e2⟩ := g3 p kl hk
  rw [e2] at hy
  simp only [Prod.mk.injEq, DataW.lit.injEq, Lit.bool.injEq] at hy
  rw [hrun, hy.1, e1]
theorem lookup_cons (p q : Int × Int) (v : Bool) (M : Mm) : List.lookup q ((p, v) :: M) = if q = p then some v else List.lookup q M := by
  rw [List.lookup_cons]
  by_cases h : q = p
  · rw [if_pos h, beq_iff_eq.mpr h]
  · rw [if_neg h, beq_eq_false_iff_ne.mpr h]
theorem MapIs.put {w : World} {mb : Nat} {M : Mm} (h : MapIs w mb M) (p : Int × Int) (v : Bool) (h0 : okI2 p.1) (h1 : okI2 p.2) (hn : M.length < maxLen) :
    ∃ w', (Instr.mapUpdate 39 (.map (some mb)) (encP p) (.bool v)).run Try.prog w = .ok () w' ∧ MapIs w' mb ((p, v) :: M) ∧ w.grownBy w' (some mb) := by
  obtain ⟨kl, hk⟩ := keyOfP p h0 h1
  obtain ⟨D, g1, g2, g3⟩ := h
  obtain ⟨w', hrun, r1, r2⟩ := g1.update keyedP Try.underlying39 hn hk (plainElem_bool Try.underlying4 v)
  refine ⟨w', hrun, ⟨_, r1, ?_, fun q kx hx => ?_⟩, r2⟩
  · obtain ⟨es, rfl⟩ := g2
    exact ⟨_, rfl⟩
  · rw [lookup_cons]
    by_cases e : kx = kl
    · subst e
      have := encP_inj _ _ (keyedP.inj hx hk)
      subst this
      rw [if_pos rfl, Go.Maps.has_put_same g2 (keyedP.key hk), Go.Maps.atKey_put_same g2 (keyedP.key hk)]
      exact ⟨rfl, rfl⟩
    · have hne : q ≠ p := fun e1 => e (by rw [e1, hk] at hx; exact (Option.some.inj hx).symm)
      rw [if_neg hne, Go.Maps.has_put_other e, Go.Maps.atKey_put_other e]
      exact g3 q kx hx
-- what a call stands on: all elder blocks but the map's are as they were
def Gm (mb : Nat) (M : Mm) (w W : World) : Prop := w.grownBy W (some mb) ∧ MapIs W mb M ∧ mb < w.heap.size
theorem grown_below {w W W1 : World} {row : Option Nat} (h : w.grownBy W row) (hb : Below W.heap.size W W1) : w.grownBy W1 row :=
  ⟨hb.os.trans h.os, hb.tape.trans h.tape, hb.output.trans h.output, Nat.le_trans h.size hb.size, fun k hk hn => (hb.block k (Nat.lt_of_lt_of_le hk h.size)).trans (h.block k hk hn)⟩
instance gc_m (mb : Nat) (M : Mm) (w : World) : Gc w (Gm mb M w) none :=
  ⟨fun W h => h.1.size, fun W W1 h hb => ⟨grown_below h.1 hb, h.2.1.below hb, h.2.2⟩,
   fun W b i u h hb _ => ⟨⟨h.1.os, h.1.tape, h.1.output, by have := h.1.size; simpa [World.setCell] using this, fun k hk hn => (Below.heap_setCell W _ u k (by simp only; omega)).trans (h.1.block k hk hn)⟩, h.2.1.far (by have := h.2.2; omega) i u, h.2.2⟩,
   fun _ _ _ h => (nomatch h),
   fun W W1 row h hg hr => ⟨⟨hg.os.trans h.1.os, hg.tape.trans h.1.tape, hg.output.trans h.1.output, Nat.le_trans h.1.size hg.size, fun k hk hn => (hg.block k (Nat.lt_of_lt_of_le hk h.1.size) (fun e => by have := (hr k e.symm).1; omega)).trans (h.1.block k hk hn)⟩,
     h.2.1.grown hg (fun e => by have := (hr mb e.symm).1; have := h.2.2; omega), h.2.2⟩⟩
section
variable {P : Program} {f : FuncId} {args : Array Value} {w W W1 : World} {mb : Nat} {M M' : Mm} {bs : Bx} {rs : List Rw} {φ : Ending → Prop}
theorem CS.startM (h : MapIs w mb M) : CS w (Gm mb M w) none [] [] w := CS.start ⟨⟨rfl, rfl, rfl, Nat.le_refl _, fun _ _ _ => rfl⟩, h, h.lt⟩
theorem CS.turn (D : CS w (Gm mb M w) none bs rs W) (hm : MapIs W1 mb M') (hg : W.grownBy W1 (some mb)) : CS w (Gm mb M' w) none bs rs W1 :=
  CS.move (c := gc_m mb M' w) D ⟨D.g.1.trans hg, hm, D.g.2.2⟩ hg.size fun k hk hl _ => hg.block k hl (fun e => by have := Option.some.inj e; have := D.g.2.2; omega)
theorem CS.viaM (D : CS w (Gm mb M w) none bs rs W) (h : Calls P f args W fun e w' => φ e ∧ MapIs w' mb M' ∧ W.grownBy w' (some mb)) : Calls P f args W fun e w' => φ e ∧ CS w (Gm mb M' w) none bs rs w' := h.mono fun _ _ ⟨h1, h2, h3⟩ => ⟨h1, D.turn h2 h3⟩
theorem CS.gm (D : CS w (Gm mb M w) none bs rs W) : w.grownBy W (some mb) := D.g.1
theorem CS.mp (D : CS w (Gm mb M w) none bs rs W) : MapIs W mb M := D.g.2.1
end
-- cells that were there stay: the map's block holds no cells
theorem map_nocell {w : World} {mb : Nat} {M : Mm} (h : MapIs w mb M) {a : Addr} {v : Value} (hc : w.cell? a = some v) : a.block ≠ mb := by
  obtain ⟨D, ⟨es, clock, hb, _⟩, _⟩ := h
  rintro rfl
  unfold World.cell? at hc
  rw [hb] at hc
  simp at hc
theorem cM {w W : World} {mb : Nat} {M : Mm} (hm : MapIs w mb M) (hg : w.grownBy W (some mb)) {a : Addr} {v : Value} (hc : w.cell? a = some v) : W.cell? a = some v :=
  (World.cell?_of_block (hg.block _ (World.block_lt_of_cell? w _ hc) (fun e => map_nocell hm hc (Option.some.inj e)))).trans hc
theorem rdM {w W : World} {mb : Nat} {M : Mm} (hm : MapIs w mb M) (hg : w.grownBy W (some mb)) {A : Option Addr} {n : Nat} {xs : List S34} (h : Kd.C k34 w A n xs) : Kd.C k34 W A n xs := by
  refine ⟨h.1, h.2.1, fun hp => ?_⟩
  obtain ⟨ad, e, hc⟩ := h.2.2 hp
  refine ⟨ad, e, fun j p hj => ?_⟩
  obtain ⟨c, h1, h2, h3⟩ := hc j p hj
  have h4 := k34_open h2
  subst h4
  exact ⟨_, h1, k34_mk W p, fun i u hi => cM hm hg (h3 i u hi)⟩
section
variable {ops : Array Oper} {rest : List Oper} {o : Oper} {a : Act} {Q : Exit → Act → World → Prop} {w W : World} {mb : Nat} {M : Mm} {bs : Bx} {rs : List Rw}
theorem gate_lk {t : TypeId} {x y : Operand} (_ho : o.op = .lookup t x y true) (h : wpList Try.prog ops Q (o :: rest) a W) : wpList Try.prog ops Q (o :: rest) a W := h
theorem gate_mu {t : TypeId} {x y v : Operand} (_ho : o.op = .mapUpdate t x y v) (h : wpList Try.prog ops Q (o :: rest) a W) : wpList Try.prog ops Q (o :: rest) a W := h
theorem ev_look {x y : Operand} (p0 p1 : Int) (hm : MapIs W mb M) (h0 : okI2 p0) (h1 : okI2 p1) (h : wpList Try.prog ops Q rest (a.put o.dst (.tuple #[.bool ((M.lookup (p0, p1)).getD false), .bool (M.lookup (p0, p1)).isSome])) W)
    (hgd : o.guard = none := by rfl) (ho : o.op = .lookup 39 x y true := by rfl) (hx : a.eval x = .map (some mb) := by rfl) (hy : a.eval y = .agg #[.int .i64 p0, .int .i64 p1] := by rfl) : wpList Try.prog ops Q (o :: rest) a W := by
  refine wpList_plain hgd fun K' hK' => ?_
  have hrun := hm.look (p0, p1) h0 h1
  have hy' : a.eval y = encP (p0, p1) := hy
  unfold Oper.wp
  simp [execOp, ho, hx, hy', hrun, Result.andThen]
  exact hK' _ _ h
theorem ev_upd {x y z : Operand} (p0 p1 : Int) (v : Bool) (D : CS w (Gm mb M w) none bs rs W) (h0 : okI2 p0) (h1 : okI2 p1) (hn : M.length < maxLen) (h : ∀ w1, CS w (Gm mb (((p0, p1), v) :: M) w) none bs rs w1 → wpList Try.prog ops Q rest (a.put o.dst undef) w1)
    (hgd : o.guard = none := by rfl) (ho : o.op = .mapUpdate 39 x y z := by rfl) (hx : a.eval x = .map (some mb) := by rfl) (hy : a.eval y = .agg #[.int .i64 p0, .int .i64 p1] := by rfl) (hz : a.eval z = .bool v := by rfl) : wpList Try.prog ops Q (o :: rest) a W := by
  refine wpList_plain hgd fun K' hK' => ?_
  obtain ⟨w', hrun, r1, r2⟩ := D.mp.put (p0, p1) v h0 h1 hn
  have hy' : a.eval y = encP (p0, p1) := hy
  unfold Oper.wp
  simp [execOp, ho, hx, hy', hz, hrun, Result.andThen]
  exact hK' _ _ (h w' (D.turn r1 r2))
end
section
variable {P : Program} {ops : Array Oper} {Q : Exit → Act → World → Prop} {S : World → Prop} {w W : World} {mb : Nat} {M : Mm} {bs : Bx} {rs : List Rw}
theorem wn_ {o : Oper} {y : Nat → Option Bool} (h : o.guard = none) : Region.wanted o y = true := by simp [Region.wanted, h]
theorem CS.rgM {id n : Nat} {a : Act} (l : Array Bool) (D : CS w (Gm mb M w) none bs rs W) (hst : ∀ M W', CS w (Gm mb M w) none bs rs W' → S W') (h : (∀ M W', CS w (Gm mb M w) none bs rs W' → S W') → ∀ w1, CS w (Gm mb M w) none bs rs w1 → wpAnyLast P .any ops Q S [] n l a w1) (hn : ops.size = n := by rfl) (hl : Array.replicate n false = l := by rfl) (hm : P.follows .mixedOrders = true := by kernel_rfl) : (Code.region id ops true).wp P Q a W :=
  start_ l hm hn hl (hst _ _ D.drew) fun _ => h hst _ D.drew
theorem tG {md : Region.Mode} {ds : List Nat} {fuel : Nat} {l : Array Bool} {a a' : Act} {oi : Oper} {v : Value} (i : Nat) (N : Option Tmp) (l' : Array Bool) (hS : S W) (h : wpAnyLast P md ops Q S ds fuel l' a' W) (hi : ops[i]? = some oi := by rfl) (hN : oi.dst = N := by rfl) (hc : takeB md ops ds l l' i = true := by kernel_rfl)
    (hQ : ∀ c a w, Q (.panic c) (a.put oi.dst v) w → Q (.panic c) a w := by exact fun _ _ _ h => h) (hy : YieldsIf P ops S oi v a := by exact Or.inl ⟨by rfl, by (intro w' hs; (repeat (obtain ⟨_, hs⟩ := hs)); go_simp; with_reducible rfl)⟩) (ha : a.put N v = a' := by (simp only [Act.put, List.setIfInBounds_toArray, List.set_cons_zero, List.set_cons_succ, i64_w, i32_w]; rfl)) : wpAnyLast P md ops Q S ds (fuel + 1) l a W :=
  take_ l' hi hN hc hQ hy hS ha h
theorem uG {md : Region.Mode} {ds : List Nat} {fuel : Nat} {l : Array Bool} {a a' : Act} {oi : Oper} (i : Nat) (N : Option Tmp) (l' : Array Bool) (h : wpAnyLast P md ops Q S ds fuel l' a' W) (hi : ops[i]? = some oi := by rfl) (hN : oi.dst = N := by rfl) (hc : anyB md ops l l' i = true := by kernel_rfl)
    (hQ : ∀ c a w, Q (.panic c) (a.put oi.dst undef) w → Q (.panic c) a w := by exact fun _ _ _ h => h) (hy : Yields P ops oi undef a := by exact Or.inr ⟨by rfl, rfl⟩) (ha : a.put N undef = a' := by (simp only [Act.put, List.setIfInBounds_toArray, List.set_cons_zero, List.set_cons_succ, i64_w, i32_w]; rfl)) : wpAnyLast P md ops Q S ds (fuel + 1) l a W :=
  pure_ l' hi hN hc hQ hy ha h
theorem row_at {d : World} {A : Option Addr} {c base : Nat} {ok : Nat → Prop} {xs : List Int} (h : Kd.R (Kd.int .i64) 2 d base ok (.slice A xs.length c) xs) (j : Nat) (hj : j < xs.length) : ∃ ad, A = some ad ∧ d.cell? (ad.add j) = some (.int .i64 xs[j]) := by
  obtain ⟨_, _, hC⟩ := Kd.R_reads' h
  obtain ⟨ad, e, hc⟩ := Kd.at_int hC (j : Int) (by omega) (by omega)
  exact ⟨ad, e, by rw [Int.toNat_natCast] at hc; rw [hc, rd, Int.toNat_natCast, List.getD_eq_getElem?_getD, List.getElem?_eq_getElem hj]; rfl⟩
theorem row_cell {d : World} {ad : Addr} {c base : Nat} {ok : Nat → Prop} {xs : List Int} (h : Kd.R (Kd.int .i64) 2 d base ok (.slice (some ad) xs.length c) xs) (j : Nat) (hj : j < xs.length) : d.cell? (ad.add j) = some (.int .i64 xs[j]) := by
  obtain ⟨a, e, hc⟩ := row_at h j hj
  cases e
  exact hc
theorem row2a {d : World} {ad : Addr} {c base : Nat} {ok : Nat → Prop} {p0 p1 : Int} (h : Kd.R (Kd.int .i64) 2 d base ok (.slice (some ad) [p0, p1].length c) [p0, p1]) : d.cell? ad = some (.int .i64 p0) := by
  have := row_cell h 0 (by simp)
  rwa [Addr.add_zero'] at this
theorem row2b {d : World} {ad : Addr} {c base : Nat} {ok : Nat → Prop} {p0 p1 : Int} (h : Kd.R (Kd.int .i64) 2 d base ok (.slice (some ad) [p0, p1].length c) [p0, p1]) : d.cell? ⟨ad.block, ad.off + 1, none⟩ = some (.int .i64 p1) := row_cell h 1 (by simp)
end
section
variable {P : Program} {ops : Array Oper} {Q : Exit → Act → World → Prop} {w W : World} {G : World → Prop} {z : Option Nat} {bs bs' : Bx} {rs : List Rw}
theorem alM {K : Act → World → Prop} {a : Act} {oi : Oper} {N : Option Tmp} {R : Result Next} {cs : Array Value} {t : TypeId} (h : ∀ b w1, CS w G z ((b, cs, t) :: bs) rs w1 → K (a.put N (.pointer (some ⟨b, 0, none⟩))) w1) (hD : CS w G z bs rs W)
    (hw : Region.wanted oi (yielded ops a.tmps) = true := by rfl) (hN : oi.dst = N := by rfl) (hrun : (execOp a.eval oi).run P W = R := by (go_simp; first | done | rfl))
    (hR : R = .ok (.value (.pointer (some ⟨W.heap.size, 0, none⟩))) (W.alloc (.cells cs t (0, 0))) := by rfl) : if Region.wanted oi (yielded ops a.tmps) = true then Oper.wp P oi a W K Q else K (a.put N undef) W :=
  value_ hw hN (hrun.trans hR) (h _ _ (hD.box rfl (blk_new W _) (below_alloc (Below.refl _ _) _)))
theorem skM {K : Act → World → Prop} {a : Act} {oi : Oper} {R : Result Next} {W1 : World} (h : ∀ w1, CS w G z bs' rs w1 → K a w1) (hw : Region.wanted oi (yielded ops a.tmps) = true := by rfl) (hN : oi.dst = none := by rfl) (hrun : (execOp a.eval oi).run P W = R := by (go_simp; first | done | rfl)) (hR : R = .ok .skip W1 := by rfl)
    (hD : CS w G z bs' rs W1 := by first | ((repeat (first | (with_reducible exact D.out) | apply CS.put 0)); all_goals rfl) | ((repeat (first | (with_reducible exact D.out) | apply CS.put 1)); all_goals rfl)) : if Region.wanted oi (yielded ops a.tmps) = true then Oper.wp P oi a W K Q else K (a.put none undef) W :=
  skip_ hw hN (hrun.trans hR) (h _ hD)
theorem join2M {w0 : World} {S : World → Prop} {md : Region.Mode} {ds : List Nat} {fuel : Nat} {l : Array Bool} {a : Act} (_D : CS w0 G z bs rs W) (fuel' : Nat) (l' : Array Bool) (ns : Nat × Nat → List (Tmp × Value)) (c1 c2 : Array Value) (t1 t2 : TypeId)
    (hc : ∀ (s : Nat × Nat) w', CS w0 G z ((s.2, c2, t2) :: (s.1, c1, t1) :: bs) rs w' → wpAnyLast P md ops Q S ds fuel' l' (putAll a (ns s)) w')
    (h : (∀ (s : Nat × Nat) w', CS w0 G z ((s.2, c2, t2) :: (s.1, c1, t1) :: bs) rs w' → wpAnyLast P md ops Q S ds fuel' l' (putAll a (ns s)) w') → wpAnyLast P md ops Q S ds fuel l a W) : wpAnyLast P md ops Q S ds fuel l a W := h hc
theorem swapM {x y : Nat × Array Value × TypeId} (h : CS w G z (x :: y :: bs) rs W) : CS w G z (y :: x :: bs) rs W := by
  have h1 := List.pairwise_cons.1 h.ne
  have h2 := List.pairwise_cons.1 h1.2
  have hp : ∀ u, u ∈ y :: x :: bs → u ∈ x :: y :: bs := fun u hu => by
    simp only [List.mem_cons] at hu ⊢
    rcases hu with h3 | h3 | h3
    · exact .inr (.inl h3)
    · exact .inl h3
    · exact .inr (.inr h3)
  refine ⟨h.gc, h.g, fun u hu => h.blk u (hp u hu), List.pairwise_cons.2 ⟨fun u hu => ?_, List.pairwise_cons.2 ⟨fun u hu => h1.1 u (List.mem_cons_of_mem _ hu), h2.2⟩⟩, fun φ hφ => ?_⟩
  · rcases List.mem_cons.1 hu with rfl | h3
    · exact (h1.1 y (List.mem_cons_self ..)).symm
    · exact h2.1 u h3
  · obtain ⟨S, h3, h4⟩ := h.rows φ hφ
    exact ⟨S, h3, fun k hk => ⟨(h4 k hk).1, (h4 k hk).2.1, (h4 k hk).2.2.1, fun u hu => (h4 k hk).2.2.2 u (hp u hu)⟩⟩
end
theorem blk_new2 (W : World) (o1 o2 : Obj) : ((W.alloc o1).alloc o2).heap[W.heap.size + 1]? = some o2 := by
  have h := blk_new (W.alloc o1) o2
  rwa [show (W.alloc o1).heap.size = W.heap.size + 1 by simp] at h
def Hd (p : Prop) : Prop := p
theorem Hd.out {p : Prop} (h : Hd p) : p := h
theorem hd_ {p : Prop} (h : p) : Hd p := h
theorem CS.nor {w W : World} {G : World → Prop} {z : Option Nat} {bs : Bx} {rs : List Rw} (h : CS w G z bs rs W) : CS w G z bs [] W := ⟨h.gc, h.g, h.blk, h.ne, by simp⟩

end Go.Proofs.Ytofaojdkpbheoaa.PFnExactSameTerms
