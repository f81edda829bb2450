-- Written by wip/tools/myprint.py of this claim's session, over the kit's print, round texts of its own: own text.
import Derived.Test.YtbficbiignpnoaaDoorPFnExactTermTextx0
import Derived.Test.YtbficbiignpnoaaDoorPFnExactTermTextx2
import Derived.Test.YtbficbiignpnoaaDoorPFnExactTermTextx8
namespace Go.Proofs.YtbficbiignpnoaaDoor.PFnExactTermText
open Go.RowKit Go.Proofs.YtbficbiignpnoaaDoorW.PrintWords Go.Proofs.YtbficbiignpnoaaDoorW.PrintLast Go.Proofs.YtbficbiignpnoaaDoorW.PrintMore
attribute [local go_sem] max2_int min2_int max_two min_two max_three min_three max_four min_four   -- for this text's walks alone
set_option linter.unusedVariables false
set_option linter.unusedSimpArgs false

/-! ### (my own text) catWords -/
-- two strings joined, where the sum of their lengths is an int
def cat (a b : ByteArray) : Option ByteArray := if a.size + b.size ≤ 9223372036854775807 then some (a ++ b) else none
section
variable {P : Program} {ops : Array Oper} {rest : List Oper} {o : Oper} {a : Act} {Q : Exit → Act → World → Prop} {W : World} {t u : TypeId} {x y : Operand} {s1 s2 r : ByteArray}
theorem run_cat (ho : o.op = .binOp .add t x y u) (ht : P.underlying t = some (.string)) (hx : a.eval x = .string s1) (hy : a.eval y = .string s2) (hc : cat s1 s2 = some r) (W : World) : (execOp a.eval o).run P W = .ok (.value (.string r)) W := by
  unfold cat at hc
  by_cases c : s1.size + s2.size ≤ 9223372036854775807
  · rw [if_pos c] at hc
    obtain rfl := Option.some.inj hc
    have c1 := eq_true c
    have c2 : (9223372036854775807 < s1.size + s2.size) = False := eq_false (Nat.not_lt.2 c)
    unfold execOp
    simp only [ho, hx, hy]
    go_simp
    first | done | rfl | (simp [*]; done)
  · rw [if_neg c] at hc
    cases hc
theorem gate_cat (_ho : o.op = .binOp .add t x y u) (h : wpList P ops Q (o :: rest) a W) : wpList P ops Q (o :: rest) a W := h
theorem ev_cat (h : wpList P ops Q rest (a.put o.dst (.string r)) W) (hgd : o.guard = none := by rfl) (ho : o.op = .binOp .add t x y u := by rfl) (ht : P.underlying t = some (.string) := by first | rfl | with_reducible assumption) (hx : a.eval x = .string s1 := by rfl) (hy : a.eval y = .string s2 := by rfl) (hc : Aside0 (cat s1 s2 = some r) := by with_reducible assumption) : wpList P ops Q (o :: rest) a W :=
  Kd.event_run hgd (run_cat ho ht hx hy hc.out W) h
/-- A call of a literal that holds what it captured. -/
theorem goesV_ {oi : Oper} {N : Option Tmp} {K : Act → World → Prop} {f : FuncId} {fn : Func} {z : Operand} {lb : Array Value} {az : Array Operand} {ts : Array TypeId} (hf : P.funcs[f]? = some fn) (hname : (fn.name == "runtime.NumGoroutine") = false) (hb : fn.body.isSome = true) (args : Array Value)
    (hw : Region.wanted oi (yielded ops a.tmps) = true) (hN : oi.dst = N) (hop : oi.op = .call { callee := .value z, args := az, argTypes := ts }) (hz : a.eval z = .func (.func f) #[] lb) (hargs : az.map a.eval = args)
    (h : Calls P f (args ++ lb) W fun e w' => ∃ v, e = .returned v ∧ K (a.put N v) w') : if Region.wanted oi (yielded ops a.tmps) = true then Oper.wp P oi a W K Q else K (a.put N undef) W := by
  refine call_ f (args ++ lb) hw hN ?_ h
  have he := enters_ hf hname hb (args ++ lb) W
  unfold execOp
  simp [hop, hz, resolve, Deferred.ofValue, invoke, hargs, he]
theorem goesW_ {oi : Oper} (N : Option Tmp) (hd : oi.dst = N) (hg : oi.guard = none) {f : FuncId} {fn : Func} {z : Operand} {lb : Array Value} {az : Array Operand} {ts : Array TypeId} (hf : P.funcs[f]? = some fn) (hname : (fn.name == "runtime.NumGoroutine") = false) (hb : fn.body.isSome = true) (args : Array Value)
    (hop : oi.op = .call { callee := .value z, args := az, argTypes := ts }) (hz : a.eval z = .func (.func f) #[] lb) (hargs : az.map a.eval = args)
    (h : Calls P f (args ++ lb) W fun e w' => ∃ v, e = .returned v ∧ wpList P ops Q rest (a.put N v) w') : wpList P ops Q (oi :: rest) a W := by
  refine wpList_plain hg fun K hK => ?_
  have he := enters_ hf hname hb (args ++ lb) W
  have hrun : (execOp a.eval oi).run P W = .ok (.enter f (args ++ lb)) W := by
    unfold execOp
    simp [hop, hz, resolve, Deferred.ofValue, invoke, hargs, he]
  unfold Oper.wp
  rw [hrun, Oper.upon_enter]
  refine h.mono fun e w'' hh => ?_
  obtain ⟨v, rfl, hk⟩ := hh
  subst hd
  exact hK _ _ hk
def One (b : Nat) (c : Array Value) (W : World) : Prop := ∀ j, W.cell? ⟨b, j, none⟩ = c[j]?
theorem wn_ {o : Oper} {y : Nat → Option Bool} (h : o.guard = none) : Region.wanted o y = true := by simp [Region.wanted, h]
end
section
variable {P : Program} {ops : Array Oper} {Q : Exit → Act → World → Prop} {md : Region.Mode} {S : World → Prop} {ds : List Nat} {w W : World} {G : World → Prop} {z : Option Nat} {bs : Bx} {rs : List Rw}
theorem CS.one (h : CS w G z bs rs W) (k : Nat) {b : Nat} {cs : Array Value} {t : TypeId} (hk : bs[k]? = some (b, cs, t)) : One b cs W := fun j => h.c k hk j
theorem CS.c0 (h : CS w G z bs rs W) (k : Nat) {b : Nat} {v : Value} {t : TypeId} (hk : bs[k]? = some (b, #[v], t)) : W.cell? ⟨b, 0, none⟩ = some v := h.c k hk 0
theorem gate_rg {id : Nat} {a : Act} (k : Nat) (_h : id = k) (h : (Code.region id ops true).wp P Q a W) : (Code.region id ops true).wp P Q a W := h
theorem CS.rg1 {id n : Nat} {a : Act} (i : Nat) (l : Array Bool) {b1 : Nat} {c1 : Array Value} {t1 : TypeId} (D : CS w G z bs rs W) (h1 : bs[i]? = some (b1, c1, t1)) (hn : ops.size = n) (hl : Array.replicate n false = l)
    (h : CS w G z bs rs W.drew → wpAnyLast P .any ops Q (One b1 c1) [] n l a W.drew) (hm : P.follows .mixedOrders = true := by kernel_rfl) : (Code.region id ops true).wp P Q a W :=
  start_ l hm hn hl (fun j => D.drew.c i h1 j) fun _ => h D.drew
theorem tk1 {fuel : Nat} {l : Array Bool} {a a' : Act} {oi : Oper} {v : Value} (i : Nat) (N : Option Tmp) (l' : Array Bool) (hS : S W) (h : wpAnyLast P md ops Q S ds fuel l' a' W) (hi : ops[i]? = some oi := by rfl) (hN : oi.dst = N := by rfl) (hc : takeB md ops ds l l' i = true := by kernel_rfl)
    (hQ : ∀ c a w, Q (.panic c) (a.put oi.dst v) w → Q (.panic c) a w := by exact fun _ _ _ h => h) (hy : YieldsIf P ops S oi v a := by exact Or.inl ⟨by rfl, by (intro w' s0; have s00 := s0 0; have s01 := s0 1; have s02 := s0 2; have s03 := s0 3; go_simp; with_reducible rfl)⟩) (ha : a.put N v = a' := by (simp only [Act.put, List.setIfInBounds_toArray, List.set_cons_zero, List.set_cons_succ, i64_w, i32_w]; rfl)) : wpAnyLast P md ops Q S ds (fuel + 1) l a W :=
  take_ l' hi hN hc hQ hy hS ha h
theorem pcat {fuel : Nat} {l : Array Bool} {a a' : Act} {oi : Oper} {t u : TypeId} {x y : Operand} {s1 s2 r : ByteArray} (i : Nat) (N : Option Tmp) (l' : Array Bool) (hcat : Aside0 (cat s1 s2 = some r)) (h : wpAnyLast P md ops Q S ds fuel l' a' W) (hi : ops[i]? = some oi := by rfl) (hN : oi.dst = N := by rfl) (hc : anyB md ops l l' i = true := by kernel_rfl)
    (hQ : ∀ c a w, Q (.panic c) (a.put oi.dst (.string r)) w → Q (.panic c) a w := by exact fun _ _ _ h => h) (hw : Region.wanted oi (yielded ops a.tmps) = true := by rfl) (ho : oi.op = .binOp .add t x y u := by rfl) (ht : P.underlying t = some (.string) := by first | rfl | with_reducible assumption) (hx : a.eval x = .string s1 := by rfl) (hy : a.eval y = .string s2 := by rfl)
    (ha : a.put N (.string r) = a' := by (simp only [Act.put, List.setIfInBounds_toArray, List.set_cons_zero, List.set_cons_succ, i64_w, i32_w]; rfl)) : wpAnyLast P md ops Q S ds (fuel + 1) l a W :=
  pure_ l' hi hN hc hQ (Or.inl ⟨hw, fun W' => run_cat ho ht hx hy hcat.out W'⟩) ha h
end

/-! ### impl_termText: function 36 (my own text) -/
def impl_termText.two (g : Int → Option ByteArray) (p m e : ByteArray) (x y : Int) : Option ByteArray := (g x).bind fun s => (cat p s).bind fun u => (cat u m).bind fun u2 => (g y).bind fun s2 => (cat u2 s2).bind fun v => cat v e
def impl_termText.sl (g : Int → Option ByteArray) (x y : Int) : Option ByteArray := (g x).bind fun s => (cat ⟨#[123]⟩ s).bind fun u => (cat u ⟨#[125]⟩).bind fun u2 => (g y).bind fun s2 => cat u2 s2
def impl_termText.one (g : Int → Option ByteArray) (x : Int) : Option ByteArray := (g x).bind fun s => (cat ⟨#[103, 40]⟩ s).bind fun u => cat u ⟨#[41]⟩
def impl_termText.s (l0 : List S66) (g : Int → Option ByteArray) (t0 t1 t2 t3 : Int) : Option ByteArray :=
  if t0 = 1 then (impl_decimal.f t3).bind fun s => cat ⟨#[110]⟩ s else if t0 = 2 then (impl_decimal.f t3).bind fun s => cat ⟨#[115]⟩ s
  else if t0 = 3 then impl_termText.two g ⟨#[40]⟩ ⟨#[44]⟩ ⟨#[41]⟩ t1 t2 else if t0 = 4 then impl_termText.two g ⟨#[102, 40]⟩ ⟨#[44]⟩ ⟨#[41]⟩ t1 t2
  else if t0 = 5 then impl_termText.sl g t2 t1 else if t0 = 6 then impl_termText.one g t1
  else (impl_ordered.f l0 t0 t1 t2 t3).bind fun z => impl_termText.two g ⟨#[103, 40]⟩ ⟨#[44]⟩ ⟨#[41]⟩ z.1 z.2
def impl_termText.f : Nat → List S66 → Int → Option ByteArray
  | 0, _, _ => none
  | k + 1, l0, a1 => if 0 ≤ a1 then (if a1 < (l0.length : Int) then impl_termText.s l0 (impl_termText.f k l0) (rd_T66 l0 a1).f0 (rd_T66 l0 a1).f1 (rd_T66 l0 a1).f2 (rd_T66 l0 a1).f3 else none) else none
theorem impl_termText.two_mono {g g' : Int → Option ByteArray} (h : ∀ x, LeO (g x) (g' x)) (p m e : ByteArray) (x y : Int) : LeO (impl_termText.two g p m e x y) (impl_termText.two g' p m e x y) := LeO.bind (h _) fun _ => LeO.bind (LeO.refl _) fun _ => LeO.bind (LeO.refl _) fun _ => LeO.bind (h _) fun _ => LeO.refl _
theorem impl_termText.sl_mono {g g' : Int → Option ByteArray} (h : ∀ x, LeO (g x) (g' x)) (x y : Int) : LeO (impl_termText.sl g x y) (impl_termText.sl g' x y) := LeO.bind (h _) fun _ => LeO.bind (LeO.refl _) fun _ => LeO.bind (LeO.refl _) fun _ => LeO.bind (h _) fun _ => LeO.refl _
theorem impl_termText.s_mono (l0 : List S66) {g g' : Int → Option ByteArray} (h : ∀ x, LeO (g x) (g' x)) (t0 t1 t2 t3 : Int) : LeO (impl_termText.s l0 g t0 t1 t2 t3) (impl_termText.s l0 g' t0 t1 t2 t3) :=
  LeO.ite (LeO.refl _) (LeO.ite (LeO.refl _) (LeO.ite (impl_termText.two_mono h _ _ _ _ _) (LeO.ite (impl_termText.two_mono h _ _ _ _ _) (LeO.ite (impl_termText.sl_mono h _ _) (LeO.ite (LeO.bind (h _) fun _ => LeO.refl _) (LeO.bind (LeO.refl _) fun _ => impl_termText.two_mono h _ _ _ _ _))))))
theorem impl_termText.mono : ∀ (l0 : List S66) (a1 : Int) (k : Nat), LeO (impl_termText.f k l0 a1) (impl_termText.f (k + 1) l0 a1) := fun l0 a1 k => by
  induction k generalizing a1 with
  | zero => exact LeO.none _
  | succ k ih => exact LeO.ite (LeO.ite (impl_termText.s_mono l0 ih _ _ _ _) (LeO.refl _)) (LeO.refl _)
set_option maxHeartbeats 4000000 in
set_option maxRecDepth 100000 in
theorem impl_termText.lit {A0 : Option Addr} {n c0 : Nat} (b : Nat) (a1 : Int) (r : ByteArray) (w : World) (hc : w.cell? ⟨b, 0, none⟩ = some (.slice A0 n c0))
    (h : Calls Tryd.prog 36 #[.slice A0 n c0, .int .i64 a1] w fun e w' => e = .returned (.string r) ∧ Below w.heap.size w w') :
    Calls Tryd.prog 60 #[.int .i64 a1, .pointer (some ⟨b, 0, none⟩)] w fun e w' => e = .returned (.string r) ∧ Below w.heap.size w w' := by
  have H := Aside0.mk h
  clear h
  go_enter Tryd.func60, Tryd.ntmps60
  go_wp2_with (go_at_call 36; with_reducible refine H.out.mono ?_; rintro e w' ⟨rfl, hb⟩)
  go_ret
  exact ⟨rfl, hb⟩
set_option maxHeartbeats 16000000 in
set_option maxRecDepth 100000 in
theorem impl_termText.calls (k : Nat) : ∀ (A0 : Option Addr) (c0 : Nat) (l0 : List S66) (a1 : Int) (r : ByteArray) (w : World) (hr0 : Kd.C k66 w A0 l0.length l0) (hc0 : l0.length ≤ c0) (h : impl_termText.f k l0 a1 = some r)
    (HT : Tb w := by exact Tb.on HT (by repeat (first | (with_reducible first | exact HB.out | apply below_alloc | apply pw_below_drewN | apply below_drew1 | refine below_set ?_ (Aside0.out (by with_reducible assumption))) | exact HB.out))),
    Calls Tryd.prog 36 #[.slice A0 l0.length c0, .int .i64 a1] w fun e w' => e = .returned (.string r) ∧ Below w.heap.size w w' := by
  induction k with
  | zero =>
    intro A0 c0 l0 a1 r w hr0 hc0 h HT
    exact absurd h (by simp [impl_termText.f])
  | succ k ih =>
    intro A0 c0 l0 a1 r w hr0 hc0 h HT
    have hs9 := Tryd.underlying9
    have hu66 := Tryd.underlying66
    have hm0 : l0.length ≤ 9223372036854775807 := hr0.2.1
    have HR := Aside0.mk hr0
    have HC := Aside0.mk hc0
    have D := Aside0.mk (CS.startB w)
    have IH : Aside0 (∀ (b : Nat) (a : Int) (s : ByteArray) (W : World), impl_termText.f k l0 a = some s → Below w.heap.size w W → W.cell? ⟨b, 0, none⟩ = some (.slice A0 l0.length c0) →
        Calls Tryd.prog 60 #[.int .i64 a, .pointer (some ⟨b, 0, none⟩)] W fun e w' => e = .returned (.string s) ∧ Below W.heap.size W w') := ⟨fun b a s W hf hB hc => impl_termText.lit b a s W hc (ih A0 c0 l0 a s W (Kd.C_below HR.out hB) HC.out hf (Tb.on HT hB))⟩
    have H := h
    clear h hr0 hc0 ih
    rw [impl_termText.f] at H
    by_cases p : 0 ≤ a1
    case neg => rw [if_neg p] at H; exact noneE H
    by_cases q : a1 < (l0.length : Int)
    case neg => rw [if_pos p, if_neg q] at H; exact noneE H
    rw [if_pos p, if_pos q] at H
    obtain ⟨ad, eA, hx0, hx1, hx2, hx3⟩ := at_T66 HR.out a1 p q
    subst eA
    replace p := eq_true p
    replace q := eq_true q
    generalize (rd_T66 l0 a1).f0 = t0 at H hx0
    generalize (rd_T66 l0 a1).f1 = t1 at H hx1
    generalize (rd_T66 l0 a1).f2 = t2 at H hx2
    generalize (rd_T66 l0 a1).f3 = t3 at H hx3
    have gx0 := fun W' (h : Below w.heap.size w W') => (h.cell (World.block_lt_of_cell? w _ hx0)).trans hx0
    have gx1 := fun W' (h : Below w.heap.size w W') => (h.cell (World.block_lt_of_cell? w _ hx1)).trans hx1
    have gx2 := fun W' (h : Below w.heap.size w W') => (h.cell (World.block_lt_of_cell? w _ hx2)).trans hx2
    have gx3 := fun W' (h : Below w.heap.size w W') => (h.cell (World.block_lt_of_cell? w _ hx3)).trans hx3
    clear hx0 hx1 hx2 hx3
    unfold impl_termText.s at H
    rcases ifE H with ⟨m0, n0, H⟩ | ⟨m0, n0, H⟩
    case inl =>
      obtain ⟨x, hx, H⟩ := Option.bind_eq_some_iff.mp H
      have HX := Aside0.mk hx
      have C1 := Aside0.mk H
      clear hx H
      go_enter Tryd.func36, Tryd.ntmps36
      go_wp2_with (first
      | ((with_reducible refine gate_bx rfl ?_); refine ev_box ?_; intro _ _ hD; clear D; have D := Aside0.mk hD; clear hD; (try clear q0 f0); (try clear q1 f1); (try (have q0 := D.out.c 0 rfl; have f0 := D.out.f 0 rfl)); (try (have q1 := D.out.c 1 rfl; have f1 := D.out.f 1 rfl)); (try clear z1); (try have z1 := CS.c0 D.out 1 rfl); (try clear y0); (try have y0 := gx0 _ D.out.bel); (try clear y1); (try have y1 := gx1 _ D.out.bel); (try clear y2); (try have y2 := gx2 _ D.out.bel); (try clear y3); (try have y3 := gx3 _ D.out.bel))
      | ((with_reducible refine gate_al rfl ?_); refine ev_box ?_; intro _ _ hD; clear D; have D := Aside0.mk hD; clear hD; (try clear q0 f0); (try clear q1 f1); (try (have q0 := D.out.c 0 rfl; have f0 := D.out.f 0 rfl)); (try (have q1 := D.out.c 1 rfl; have f1 := D.out.f 1 rfl)); (try clear z1); (try have z1 := CS.c0 D.out 1 rfl); (try clear y0); (try have y0 := gx0 _ D.out.bel); (try clear y1); (try have y1 := gx1 _ D.out.bel); (try clear y2); (try have y2 := gx2 _ D.out.bel); (try clear y3); (try have y3 := gx3 _ D.out.bel))
      | ((with_reducible refine gate_st rfl ?_); refine ev_store ?_; intro wq hD; clear D; simp only [List.set_cons_zero, List.set_cons_succ, List.setIfInBounds_toArray] at hD; have D := Aside0.mk hD; clear hD; (try clear q0 f0); (try clear q1 f1); (try (have q0 := D.out.c 0 rfl; have f0 := D.out.f 0 rfl)); (try (have q1 := D.out.c 1 rfl; have f1 := D.out.f 1 rfl)); (try clear z1); (try have z1 := CS.c0 D.out 1 rfl); (try clear y0); (try have y0 := gx0 _ D.out.bel); (try clear y1); (try have y1 := gx1 _ D.out.bel); (try clear y2); (try have y2 := gx2 _ D.out.bel); (try clear y3); (try have y3 := gx3 _ D.out.bel))
      | ((with_reducible refine gate_cat rfl ?_); refine ev_cat ?_)
      | (go_at_call 47; with_reducible refine Calls.mono (CS.via D.out (impl_decimal.calls _ _ _ (Aside0.out (by with_reducible assumption)) (Tb.on HT D.out.bel))) ?_; rintro e wq ⟨rfl, hD⟩; clear D; have D := Aside0.mk hD; clear hD; (try clear q0 f0); (try clear q1 f1); (try (have q0 := D.out.c 0 rfl; have f0 := D.out.f 0 rfl)); (try (have q1 := D.out.c 1 rfl; have f1 := D.out.f 1 rfl)); (try clear z1); (try have z1 := CS.c0 D.out 1 rfl); (try clear y0); (try have y0 := gx0 _ D.out.bel); (try clear y1); (try have y1 := gx1 _ D.out.bel); (try clear y2); (try have y2 := gx2 _ D.out.bel); (try clear y3); (try have y3 := gx3 _ D.out.bel))
      | (go_at_call 61; with_reducible refine Calls.mono (CS.via D.out (impl_ordered.calls _ _ l0 _ _ _ _ _ _ _ (Kd.C_below HR.out D.out.bel) HC.out (Aside0.out (by with_reducible assumption)))) ?_; rintro e wq ⟨rfl, hD⟩; clear D; have D := Aside0.mk hD; clear hD; (try clear q0 f0); (try clear q1 f1); (try (have q0 := D.out.c 0 rfl; have f0 := D.out.f 0 rfl)); (try (have q1 := D.out.c 1 rfl; have f1 := D.out.f 1 rfl)); (try clear z1); (try have z1 := CS.c0 D.out 1 rfl); (try clear y0); (try have y0 := gx0 _ D.out.bel); (try clear y1); (try have y1 := gx1 _ D.out.bel); (try clear y2); (try have y2 := gx2 _ D.out.bel); (try clear y3); (try have y3 := gx3 _ D.out.bel))
      | (go_at_call 60; with_reducible refine Calls.mono (CS.via D.out (IH.out _ _ _ _ HX.out D.out.bel z1)) ?_; rintro e wq ⟨rfl, hD⟩; clear D; have D := Aside0.mk hD; clear hD; (try clear q0 f0); (try clear q1 f1); (try (have q0 := D.out.c 0 rfl; have f0 := D.out.f 0 rfl)); (try (have q1 := D.out.c 1 rfl; have f1 := D.out.f 1 rfl)); (try clear z1); (try have z1 := CS.c0 D.out 1 rfl); (try clear y0); (try have y0 := gx0 _ D.out.bel); (try clear y1); (try have y1 := gx1 _ D.out.bel); (try clear y2); (try have y2 := gx2 _ D.out.bel); (try clear y3); (try have y3 := gx3 _ D.out.bel))
      | (go_at_call 60; with_reducible refine Calls.mono (CS.via D.out (IH.out _ _ _ _ HY.out D.out.bel z1)) ?_; rintro e wq ⟨rfl, hD⟩; clear D; have D := Aside0.mk hD; clear hD; (try clear q0 f0); (try clear q1 f1); (try (have q0 := D.out.c 0 rfl; have f0 := D.out.f 0 rfl)); (try (have q1 := D.out.c 1 rfl; have f1 := D.out.f 1 rfl)); (try clear z1); (try have z1 := CS.c0 D.out 1 rfl); (try clear y0); (try have y0 := gx0 _ D.out.bel); (try clear y1); (try have y1 := gx1 _ D.out.bel); (try clear y2); (try have y2 := gx2 _ D.out.bel); (try clear y3); (try have y3 := gx3 _ D.out.bel)))
      go_ret
      exact ⟨rfl, D.out.bel⟩
    rcases ifE H with ⟨m1, n1, H⟩ | ⟨m1, n1, H⟩
    case inl =>
      obtain ⟨x, hx, H⟩ := Option.bind_eq_some_iff.mp H
      have HX := Aside0.mk hx
      have C1 := Aside0.mk H
      clear hx H
      go_enter Tryd.func36, Tryd.ntmps36
      go_wp2_with (first
      | ((with_reducible refine gate_bx rfl ?_); refine ev_box ?_; intro _ _ hD; clear D; have D := Aside0.mk hD; clear hD; (try clear q0 f0); (try clear q1 f1); (try (have q0 := D.out.c 0 rfl; have f0 := D.out.f 0 rfl)); (try (have q1 := D.out.c 1 rfl; have f1 := D.out.f 1 rfl)); (try clear z1); (try have z1 := CS.c0 D.out 1 rfl); (try clear y0); (try have y0 := gx0 _ D.out.bel); (try clear y1); (try have y1 := gx1 _ D.out.bel); (try clear y2); (try have y2 := gx2 _ D.out.bel); (try clear y3); (try have y3 := gx3 _ D.out.bel))
      | ((with_reducible refine gate_al rfl ?_); refine ev_box ?_; intro _ _ hD; clear D; have D := Aside0.mk hD; clear hD; (try clear q0 f0); (try clear q1 f1); (try (have q0 := D.out.c 0 rfl; have f0 := D.out.f 0 rfl)); (try (have q1 := D.out.c 1 rfl; have f1 := D.out.f 1 rfl)); (try clear z1); (try have z1 := CS.c0 D.out 1 rfl); (try clear y0); (try have y0 := gx0 _ D.out.bel); (try clear y1); (try have y1 := gx1 _ D.out.bel); (try clear y2); (try have y2 := gx2 _ D.out.bel); (try clear y3); (try have y3 := gx3 _ D.out.bel))
      | ((with_reducible refine gate_st rfl ?_); refine ev_store ?_; intro wq hD; clear D; simp only [List.set_cons_zero, List.set_cons_succ, List.setIfInBounds_toArray] at hD; have D := Aside0.mk hD; clear hD; (try clear q0 f0); (try clear q1 f1); (try (have q0 := D.out.c 0 rfl; have f0 := D.out.f 0 rfl)); (try (have q1 := D.out.c 1 rfl; have f1 := D.out.f 1 rfl)); (try clear z1); (try have z1 := CS.c0 D.out 1 rfl); (try clear y0); (try have y0 := gx0 _ D.out.bel); (try clear y1); (try have y1 := gx1 _ D.out.bel); (try clear y2); (try have y2 := gx2 _ D.out.bel); (try clear y3); (try have y3 := gx3 _ D.out.bel))
      | ((with_reducible refine gate_cat rfl ?_); refine ev_cat ?_)
      | (go_at_call 47; with_reducible refine Calls.mono (CS.via D.out (impl_decimal.calls _ _ _ (Aside0.out (by with_reducible assumption)) (Tb.on HT D.out.bel))) ?_; rintro e wq ⟨rfl, hD⟩; clear D; have D := Aside0.mk hD; clear hD; (try clear q0 f0); (try clear q1 f1); (try (have q0 := D.out.c 0 rfl; have f0 := D.out.f 0 rfl)); (try (have q1 := D.out.c 1 rfl; have f1 := D.out.f 1 rfl)); (try clear z1); (try have z1 := CS.c0 D.out 1 rfl); (try clear y0); (try have y0 := gx0 _ D.out.bel); (try clear y1); (try have y1 := gx1 _ D.out.bel); (try clear y2); (try have y2 := gx2 _ D.out.bel); (try clear y3); (try have y3 := gx3 _ D.out.bel))
      | (go_at_call 61; with_reducible refine Calls.mono (CS.via D.out (impl_ordered.calls _ _ l0 _ _ _ _ _ _ _ (Kd.C_below HR.out D.out.bel) HC.out (Aside0.out (by with_reducible assumption)))) ?_; rintro e wq ⟨rfl, hD⟩; clear D; have D := Aside0.mk hD; clear hD; (try clear q0 f0); (try clear q1 f1); (try (have q0 := D.out.c 0 rfl; have f0 := D.out.f 0 rfl)); (try (have q1 := D.out.c 1 rfl; have f1 := D.out.f 1 rfl)); (try clear z1); (try have z1 := CS.c0 D.out 1 rfl); (try clear y0); (try have y0 := gx0 _ D.out.bel); (try clear y1); (try have y1 := gx1 _ D.out.bel); (try clear y2); (try have y2 := gx2 _ D.out.bel); (try clear y3); (try have y3 := gx3 _ D.out.bel))
      | (go_at_call 60; with_reducible refine Calls.mono (CS.via D.out (IH.out _ _ _ _ HX.out D.out.bel z1)) ?_; rintro e wq ⟨rfl, hD⟩; clear D; have D := Aside0.mk hD; clear hD; (try clear q0 f0); (try clear q1 f1); (try (have q0 := D.out.c 0 rfl; have f0 := D.out.f 0 rfl)); (try (have q1 := D.out.c 1 rfl; have f1 := D.out.f 1 rfl)); (try clear z1); (try have z1 := CS.c0 D.out 1 rfl); (try clear y0); (try have y0 := gx0 _ D.out.bel); (try clear y1); (try have y1 := gx1 _ D.out.bel); (try clear y2); (try have y2 := gx2 _ D.out.bel); (try clear y3); (try have y3 := gx3 _ D.out.bel))
      | (go_at_call 60; with_reducible refine Calls.mono (CS.via D.out (IH.out _ _ _ _ HY.out D.out.bel z1)) ?_; rintro e wq ⟨rfl, hD⟩; clear D; have D := Aside0.mk hD; clear hD; (try clear q0 f0); (try clear q1 f1); (try (have q0 := D.out.c 0 rfl; have f0 := D.out.f 0 rfl)); (try (have q1 := D.out.c 1 rfl; have f1 := D.out.f 1 rfl)); (try clear z1); (try have z1 := CS.c0 D.out 1 rfl); (try clear y0); (try have y0 := gx0 _ D.out.bel); (try clear y1); (try have y1 := gx1 _ D.out.bel); (try clear y2); (try have y2 := gx2 _ D.out.bel); (try clear y3); (try have y3 := gx3 _ D.out.bel)))
      go_ret
      exact ⟨rfl, D.out.bel⟩
    rcases ifE H with ⟨m2, n2, H⟩ | ⟨m2, n2, H⟩
    case inl =>
      unfold impl_termText.two at H
      obtain ⟨x, hx, H⟩ := Option.bind_eq_some_iff.mp H
      obtain ⟨u1, h1, H⟩ := Option.bind_eq_some_iff.mp H
      obtain ⟨u2, h2, H⟩ := Option.bind_eq_some_iff.mp H
      obtain ⟨y, hy, H⟩ := Option.bind_eq_some_iff.mp H
      obtain ⟨u3, h3, H⟩ := Option.bind_eq_some_iff.mp H
      have HX := Aside0.mk hx
      have HY := Aside0.mk hy
      have C1 := Aside0.mk h1
      have C2 := Aside0.mk h2
      have C3 := Aside0.mk h3
      have C4 := Aside0.mk H
      clear hx hy h1 h2 h3 H
      go_enter Tryd.func36, Tryd.ntmps36
      go_wp2_with (first
      | ((with_reducible refine gate_bx rfl ?_); refine ev_box ?_; intro _ _ hD; clear D; have D := Aside0.mk hD; clear hD; (try clear q0 f0); (try clear q1 f1); (try (have q0 := D.out.c 0 rfl; have f0 := D.out.f 0 rfl)); (try (have q1 := D.out.c 1 rfl; have f1 := D.out.f 1 rfl)); (try clear z1); (try have z1 := CS.c0 D.out 1 rfl); (try clear y0); (try have y0 := gx0 _ D.out.bel); (try clear y1); (try have y1 := gx1 _ D.out.bel); (try clear y2); (try have y2 := gx2 _ D.out.bel); (try clear y3); (try have y3 := gx3 _ D.out.bel))
      | ((with_reducible refine gate_al rfl ?_); refine ev_box ?_; intro _ _ hD; clear D; have D := Aside0.mk hD; clear hD; (try clear q0 f0); (try clear q1 f1); (try (have q0 := D.out.c 0 rfl; have f0 := D.out.f 0 rfl)); (try (have q1 := D.out.c 1 rfl; have f1 := D.out.f 1 rfl)); (try clear z1); (try have z1 := CS.c0 D.out 1 rfl); (try clear y0); (try have y0 := gx0 _ D.out.bel); (try clear y1); (try have y1 := gx1 _ D.out.bel); (try clear y2); (try have y2 := gx2 _ D.out.bel); (try clear y3); (try have y3 := gx3 _ D.out.bel))
      | ((with_reducible refine gate_st rfl ?_); refine ev_store ?_; intro wq hD; clear D; simp only [List.set_cons_zero, List.set_cons_succ, List.setIfInBounds_toArray] at hD; have D := Aside0.mk hD; clear hD; (try clear q0 f0); (try clear q1 f1); (try (have q0 := D.out.c 0 rfl; have f0 := D.out.f 0 rfl)); (try (have q1 := D.out.c 1 rfl; have f1 := D.out.f 1 rfl)); (try clear z1); (try have z1 := CS.c0 D.out 1 rfl); (try clear y0); (try have y0 := gx0 _ D.out.bel); (try clear y1); (try have y1 := gx1 _ D.out.bel); (try clear y2); (try have y2 := gx2 _ D.out.bel); (try clear y3); (try have y3 := gx3 _ D.out.bel))
      | ((with_reducible refine gate_cat rfl ?_); refine ev_cat ?_)
      | (go_at_call 47; with_reducible refine Calls.mono (CS.via D.out (impl_decimal.calls _ _ _ (Aside0.out (by with_reducible assumption)) (Tb.on HT D.out.bel))) ?_; rintro e wq ⟨rfl, hD⟩; clear D; have D := Aside0.mk hD; clear hD; (try clear q0 f0); (try clear q1 f1); (try (have q0 := D.out.c 0 rfl; have f0 := D.out.f 0 rfl)); (try (have q1 := D.out.c 1 rfl; have f1 := D.out.f 1 rfl)); (try clear z1); (try have z1 := CS.c0 D.out 1 rfl); (try clear y0); (try have y0 := gx0 _ D.out.bel); (try clear y1); (try have y1 := gx1 _ D.out.bel); (try clear y2); (try have y2 := gx2 _ D.out.bel); (try clear y3); (try have y3 := gx3 _ D.out.bel))
      | (go_at_call 61; with_reducible refine Calls.mono (CS.via D.out (impl_ordered.calls _ _ l0 _ _ _ _ _ _ _ (Kd.C_below HR.out D.out.bel) HC.out (Aside0.out (by with_reducible assumption)))) ?_; rintro e wq ⟨rfl, hD⟩; clear D; have D := Aside0.mk hD; clear hD; (try clear q0 f0); (try clear q1 f1); (try (have q0 := D.out.c 0 rfl; have f0 := D.out.f 0 rfl)); (try (have q1 := D.out.c 1 rfl; have f1 := D.out.f 1 rfl)); (try clear z1); (try have z1 := CS.c0 D.out 1 rfl); (try clear y0); (try have y0 := gx0 _ D.out.bel); (try clear y1); (try have y1 := gx1 _ D.out.bel); (try clear y2); (try have y2 := gx2 _ D.out.bel); (try clear y3); (try have y3 := gx3 _ D.out.bel))
      | (go_at_call 60; with_reducible refine Calls.mono (CS.via D.out (IH.out _ _ _ _ HX.out D.out.bel z1)) ?_; rintro e wq ⟨rfl, hD⟩; clear D; have D := Aside0.mk hD; clear hD; (try clear q0 f0); (try clear q1 f1); (try (have q0 := D.out.c 0 rfl; have f0 := D.out.f 0 rfl)); (try (have q1 := D.out.c 1 rfl; have f1 := D.out.f 1 rfl)); (try clear z1); (try have z1 := CS.c0 D.out 1 rfl); (try clear y0); (try have y0 := gx0 _ D.out.bel); (try clear y1); (try have y1 := gx1 _ D.out.bel); (try clear y2); (try have y2 := gx2 _ D.out.bel); (try clear y3); (try have y3 := gx3 _ D.out.bel))
      | (go_at_call 60; with_reducible refine Calls.mono (CS.via D.out (IH.out _ _ _ _ HY.out D.out.bel z1)) ?_; rintro e wq ⟨rfl, hD⟩; clear D; have D := Aside0.mk hD; clear hD; (try clear q0 f0); (try clear q1 f1); (try (have q0 := D.out.c 0 rfl; have f0 := D.out.f 0 rfl)); (try (have q1 := D.out.c 1 rfl; have f1 := D.out.f 1 rfl)); (try clear z1); (try have z1 := CS.c0 D.out 1 rfl); (try clear y0); (try have y0 := gx0 _ D.out.bel); (try clear y1); (try have y1 := gx1 _ D.out.bel); (try clear y2); (try have y2 := gx2 _ D.out.bel); (try clear y3); (try have y3 := gx3 _ D.out.bel)))
      refine CS.rg1 (n := 13) 0 #[false, false, false, false, false, false, false, false, false, false, false, false, false] D.out rfl rfl rfl ?_
      intro hD
      clear D; have D := Aside0.mk hD; clear hD; (try clear q0 f0); (try clear q1 f1); (try (have q0 := D.out.c 0 rfl; have f0 := D.out.f 0 rfl)); (try (have q1 := D.out.c 1 rfl; have f1 := D.out.f 1 rfl)); (try clear z1); (try have z1 := CS.c0 D.out 1 rfl); (try clear y0); (try have y0 := gx0 _ D.out.bel); (try clear y1); (try have y1 := gx1 _ D.out.bel); (try clear y2); (try have y2 := gx2 _ D.out.bel); (try clear y3); (try have y3 := gx3 _ D.out.bel)
      refine tk1 0 (some 30) #[true, false, false, false, false, false, false, false, false, false, false, false, false] (D.out.one 0 rfl) ?_
      refine tk1 6 (some 36) #[true, false, false, false, false, false, true, false, false, false, false, false, false] (D.out.one 0 rfl) ?_
      refine tk1 1 (some 31) #[true, true, false, false, false, false, true, false, false, false, false, false, false] (D.out.one 0 rfl) ?_
      refine tk1 7 (some 37) #[true, true, false, false, false, false, true, true, false, false, false, false, false] (D.out.one 0 rfl) ?_
      refine tk1 2 (some 32) #[true, true, true, false, false, false, true, true, false, false, false, false, false] (D.out.one 0 rfl) ?_
      refine tk1 8 (some 38) #[true, true, true, false, false, false, true, true, true, false, false, false, false] (D.out.one 0 rfl) ?_
      refine one_ (i := 3) (N := some 33) #[true, true, true, true, false, false, true, true, true, false, false, false, false] rfl rfl (by kernel_rfl) (by decide) (fun K hK => ?_)
      refine goesV_ (f := 60) (lb := #[.pointer (some ⟨_, 0, none⟩)]) Tryd.func60 (by kernel_rfl) rfl #[.int .i64 t1] (wn_ rfl) rfl rfl rfl (by (try simp only [List.map_toArray, List.map_cons, List.map_nil]); first | done | (go_simp; done) | rfl | (go_simp; rfl)) ?_
      refine Calls.mono (CS.via D.out (IH.out _ _ _ _ HX.out D.out.bel z1)) ?_
      rintro e wq ⟨rfl, hD⟩
      refine ⟨_, rfl, ?_⟩
      clear D; have D := Aside0.mk hD; clear hD; (try clear q0 f0); (try clear q1 f1); (try (have q0 := D.out.c 0 rfl; have f0 := D.out.f 0 rfl)); (try (have q1 := D.out.c 1 rfl; have f1 := D.out.f 1 rfl)); (try clear z1); (try have z1 := CS.c0 D.out 1 rfl); (try clear y0); (try have y0 := gx0 _ D.out.bel); (try clear y1); (try have y1 := gx1 _ D.out.bel); (try clear y2); (try have y2 := gx2 _ D.out.bel); (try clear y3); (try have y3 := gx3 _ D.out.bel)
      refine hK.out _ _ (D.out.one 0 rfl) (fun _ => ?_)
      clear hK K
      refine norm_ (by simp only [Act.put, List.setIfInBounds_toArray, List.set_cons_zero, List.set_cons_succ, i64_w, i32_w]; rfl) ?_
      refine pcat 4 (some 34) #[true, true, true, true, true, false, true, true, true, false, false, false, false] C1 ?_
      refine pcat 5 (some 35) #[true, true, true, true, true, true, true, true, true, false, false, false, false] C2 ?_
      refine one_ (i := 9) (N := some 39) #[true, true, true, true, true, true, true, true, true, true, false, false, false] rfl rfl (by kernel_rfl) (by decide) (fun K hK => ?_)
      refine goesV_ (f := 60) (lb := #[.pointer (some ⟨_, 0, none⟩)]) Tryd.func60 (by kernel_rfl) rfl #[.int .i64 t2] (wn_ rfl) rfl rfl rfl (by (try simp only [List.map_toArray, List.map_cons, List.map_nil]); first | done | (go_simp; done) | rfl | (go_simp; rfl)) ?_
      refine Calls.mono (CS.via D.out (IH.out _ _ _ _ HY.out D.out.bel z1)) ?_
      rintro e wq ⟨rfl, hD⟩
      refine ⟨_, rfl, ?_⟩
      clear D; have D := Aside0.mk hD; clear hD; (try clear q0 f0); (try clear q1 f1); (try (have q0 := D.out.c 0 rfl; have f0 := D.out.f 0 rfl)); (try (have q1 := D.out.c 1 rfl; have f1 := D.out.f 1 rfl)); (try clear z1); (try have z1 := CS.c0 D.out 1 rfl); (try clear y0); (try have y0 := gx0 _ D.out.bel); (try clear y1); (try have y1 := gx1 _ D.out.bel); (try clear y2); (try have y2 := gx2 _ D.out.bel); (try clear y3); (try have y3 := gx3 _ D.out.bel)
      refine hK.out _ _ (D.out.one 0 rfl) (fun _ => ?_)
      clear hK K
      refine norm_ (by simp only [Act.put, List.setIfInBounds_toArray, List.set_cons_zero, List.set_cons_succ, i64_w, i32_w]; rfl) ?_
      refine pcat 10 (some 40) #[true, true, true, true, true, true, true, true, true, true, true, false, false] C3 ?_
      refine pcat 11 (some 41) #[true, true, true, true, true, true, true, true, true, true, true, true, false] C4 ?_
      refine tk1 12 (some 4) #[true, true, true, true, true, true, true, true, true, true, true, true, true] (D.out.one 0 rfl) ?_
      refine done_ (by kernel_rfl) ?_
      go_wp2
      go_ret
      exact ⟨rfl, D.out.bel⟩
    rcases ifE H with ⟨m3, n3, H⟩ | ⟨m3, n3, H⟩
    case inl =>
      unfold impl_termText.two at H
      obtain ⟨x, hx, H⟩ := Option.bind_eq_some_iff.mp H
      obtain ⟨u1, h1, H⟩ := Option.bind_eq_some_iff.mp H
      obtain ⟨u2, h2, H⟩ := Option.bind_eq_some_iff.mp H
      obtain ⟨y, hy, H⟩ := Option.bind_eq_some_iff.mp H
      obtain ⟨u3, h3, H⟩ := Option.bind_eq_some_iff.mp H
      have HX := Aside0.mk hx
      have HY := Aside0.mk hy
      have C1 := Aside0.mk h1
      have C2 := Aside0.mk h2
      have C3 := Aside0.mk h3
      have C4 := Aside0.mk H
      clear hx hy h1 h2 h3 H
      go_enter Tryd.func36, Tryd.ntmps36
      go_wp2_with (first
      | ((with_reducible refine gate_bx rfl ?_); refine ev_box ?_; intro _ _ hD; clear D; have D := Aside0.mk hD; clear hD; (try clear q0 f0); (try clear q1 f1); (try (have q0 := D.out.c 0 rfl; have f0 := D.out.f 0 rfl)); (try (have q1 := D.out.c 1 rfl; have f1 := D.out.f 1 rfl)); (try clear z1); (try have z1 := CS.c0 D.out 1 rfl); (try clear y0); (try have y0 := gx0 _ D.out.bel); (try clear y1); (try have y1 := gx1 _ D.out.bel); (try clear y2); (try have y2 := gx2 _ D.out.bel); (try clear y3); (try have y3 := gx3 _ D.out.bel))
      | ((with_reducible refine gate_al rfl ?_); refine ev_box ?_; intro _ _ hD; clear D; have D := Aside0.mk hD; clear hD; (try clear q0 f0); (try clear q1 f1); (try (have q0 := D.out.c 0 rfl; have f0 := D.out.f 0 rfl)); (try (have q1 := D.out.c 1 rfl; have f1 := D.out.f 1 rfl)); (try clear z1); (try have z1 := CS.c0 D.out 1 rfl); (try clear y0); (try have y0 := gx0 _ D.out.bel); (try clear y1); (try have y1 := gx1 _ D.out.bel); (try clear y2); (try have y2 := gx2 _ D.out.bel); (try clear y3); (try have y3 := gx3 _ D.out.bel))
      | ((with_reducible refine gate_st rfl ?_); refine ev_store ?_; intro wq hD; clear D; simp only [List.set_cons_zero, List.set_cons_succ, List.setIfInBounds_toArray] at hD; have D := Aside0.mk hD; clear hD; (try clear q0 f0); (try clear q1 f1); (try (have q0 := D.out.c 0 rfl; have f0 := D.out.f 0 rfl)); (try (have q1 := D.out.c 1 rfl; have f1 := D.out.f 1 rfl)); (try clear z1); (try have z1 := CS.c0 D.out 1 rfl); (try clear y0); (try have y0 := gx0 _ D.out.bel); (try clear y1); (try have y1 := gx1 _ D.out.bel); (try clear y2); (try have y2 := gx2 _ D.out.bel); (try clear y3); (try have y3 := gx3 _ D.out.bel))
      | ((with_reducible refine gate_cat rfl ?_); refine ev_cat ?_)
      | (go_at_call 47; with_reducible refine Calls.mono (CS.via D.out (impl_decimal.calls _ _ _ (Aside0.out (by with_reducible assumption)) (Tb.on HT D.out.bel))) ?_; rintro e wq ⟨rfl, hD⟩; clear D; have D := Aside0.mk hD; clear hD; (try clear q0 f0); (try clear q1 f1); (try (have q0 := D.out.c 0 rfl; have f0 := D.out.f 0 rfl)); (try (have q1 := D.out.c 1 rfl; have f1 := D.out.f 1 rfl)); (try clear z1); (try have z1 := CS.c0 D.out 1 rfl); (try clear y0); (try have y0 := gx0 _ D.out.bel); (try clear y1); (try have y1 := gx1 _ D.out.bel); (try clear y2); (try have y2 := gx2 _ D.out.bel); (try clear y3); (try have y3 := gx3 _ D.out.bel))
      | (go_at_call 61; with_reducible refine Calls.mono (CS.via D.out (impl_ordered.calls _ _ l0 _ _ _ _ _ _ _ (Kd.C_below HR.out D.out.bel) HC.out (Aside0.out (by with_reducible assumption)))) ?_; rintro e wq ⟨rfl, hD⟩; clear D; have D := Aside0.mk hD; clear hD; (try clear q0 f0); (try clear q1 f1); (try (have q0 := D.out.c 0 rfl; have f0 := D.out.f 0 rfl)); (try (have q1 := D.out.c 1 rfl; have f1 := D.out.f 1 rfl)); (try clear z1); (try have z1 := CS.c0 D.out 1 rfl); (try clear y0); (try have y0 := gx0 _ D.out.bel); (try clear y1); (try have y1 := gx1 _ D.out.bel); (try clear y2); (try have y2 := gx2 _ D.out.bel); (try clear y3); (try have y3 := gx3 _ D.out.bel))
      | (go_at_call 60; with_reducible refine Calls.mono (CS.via D.out (IH.out _ _ _ _ HX.out D.out.bel z1)) ?_; rintro e wq ⟨rfl, hD⟩; clear D; have D := Aside0.mk hD; clear hD; (try clear q0 f0); (try clear q1 f1); (try (have q0 := D.out.c 0 rfl; have f0 := D.out.f 0 rfl)); (try (have q1 := D.out.c 1 rfl; have f1 := D.out.f 1 rfl)); (try clear z1); (try have z1 := CS.c0 D.out 1 rfl); (try clear y0); (try have y0 := gx0 _ D.out.bel); (try clear y1); (try have y1 := gx1 _ D.out.bel); (try clear y2); (try have y2 := gx2 _ D.out.bel); (try clear y3); (try have y3 := gx3 _ D.out.bel))
      | (go_at_call 60; with_reducible refine Calls.mono (CS.via D.out (IH.out _ _ _ _ HY.out D.out.bel z1)) ?_; rintro e wq ⟨rfl, hD⟩; clear D; have D := Aside0.mk hD; clear hD; (try clear q0 f0); (try clear q1 f1); (try (have q0 := D.out.c 0 rfl; have f0 := D.out.f 0 rfl)); (try (have q1 := D.out.c 1 rfl; have f1 := D.out.f 1 rfl)); (try clear z1); (try have z1 := CS.c0 D.out 1 rfl); (try clear y0); (try have y0 := gx0 _ D.out.bel); (try clear y1); (try have y1 := gx1 _ D.out.bel); (try clear y2); (try have y2 := gx2 _ D.out.bel); (try clear y3); (try have y3 := gx3 _ D.out.bel)))
      refine CS.rg1 (n := 13) 0 #[false, false, false, false, false, false, false, false, false, false, false, false, false] D.out rfl rfl rfl ?_
      intro hD
      clear D; have D := Aside0.mk hD; clear hD; (try clear q0 f0); (try clear q1 f1); (try (have q0 := D.out.c 0 rfl; have f0 := D.out.f 0 rfl)); (try (have q1 := D.out.c 1 rfl; have f1 := D.out.f 1 rfl)); (try clear z1); (try have z1 := CS.c0 D.out 1 rfl); (try clear y0); (try have y0 := gx0 _ D.out.bel); (try clear y1); (try have y1 := gx1 _ D.out.bel); (try clear y2); (try have y2 := gx2 _ D.out.bel); (try clear y3); (try have y3 := gx3 _ D.out.bel)
      refine tk1 0 (some 44) #[true, false, false, false, false, false, false, false, false, false, false, false, false] (D.out.one 0 rfl) ?_
      refine tk1 6 (some 50) #[true, false, false, false, false, false, true, false, false, false, false, false, false] (D.out.one 0 rfl) ?_
      refine tk1 1 (some 45) #[true, true, false, false, false, false, true, false, false, false, false, false, false] (D.out.one 0 rfl) ?_
      refine tk1 7 (some 51) #[true, true, false, false, false, false, true, true, false, false, false, false, false] (D.out.one 0 rfl) ?_
      refine tk1 2 (some 46) #[true, true, true, false, false, false, true, true, false, false, false, false, false] (D.out.one 0 rfl) ?_
      refine tk1 8 (some 52) #[true, true, true, false, false, false, true, true, true, false, false, false, false] (D.out.one 0 rfl) ?_
      refine one_ (i := 3) (N := some 47) #[true, true, true, true, false, false, true, true, true, false, false, false, false] rfl rfl (by kernel_rfl) (by decide) (fun K hK => ?_)
      refine goesV_ (f := 60) (lb := #[.pointer (some ⟨_, 0, none⟩)]) Tryd.func60 (by kernel_rfl) rfl #[.int .i64 t1] (wn_ rfl) rfl rfl rfl (by (try simp only [List.map_toArray, List.map_cons, List.map_nil]); first | done | (go_simp; done) | rfl | (go_simp; rfl)) ?_
      refine Calls.mono (CS.via D.out (IH.out _ _ _ _ HX.out D.out.bel z1)) ?_
      rintro e wq ⟨rfl, hD⟩
      refine ⟨_, rfl, ?_⟩
      clear D; have D := Aside0.mk hD; clear hD; (try clear q0 f0); (try clear q1 f1); (try (have q0 := D.out.c 0 rfl; have f0 := D.out.f 0 rfl)); (try (have q1 := D.out.c 1 rfl; have f1 := D.out.f 1 rfl)); (try clear z1); (try have z1 := CS.c0 D.out 1 rfl); (try clear y0); (try have y0 := gx0 _ D.out.bel); (try clear y1); (try have y1 := gx1 _ D.out.bel); (try clear y2); (try have y2 := gx2 _ D.out.bel); (try clear y3); (try have y3 := gx3 _ D.out.bel)
      refine hK.out _ _ (D.out.one 0 rfl) (fun _ => ?_)
      clear hK K
      refine norm_ (by simp only [Act.put, List.setIfInBounds_toArray, List.set_cons_zero, List.set_cons_succ, i64_w, i32_w]; rfl) ?_
      refine pcat 4 (some 48) #[true, true, true, true, true, false, true, true, true, false, false, false, false] C1 ?_
      refine pcat 5 (some 49) #[true, true, true, true, true, true, true, true, true, false, false, false, false] C2 ?_
      refine one_ (i := 9) (N := some 53) #[true, true, true, true, true, true, true, true, true, true, false, false, false] rfl rfl (by kernel_rfl) (by decide) (fun K hK => ?_)
      refine goesV_ (f := 60) (lb := #[.pointer (some ⟨_, 0, none⟩)]) Tryd.func60 (by kernel_rfl) rfl #[.int .i64 t2] (wn_ rfl) rfl rfl rfl (by (try simp only [List.map_toArray, List.map_cons, List.map_nil]); first | done | (go_simp; done) | rfl | (go_simp; rfl)) ?_
      refine Calls.mono (CS.via D.out (IH.out _ _ _ _ HY.out D.out.bel z1)) ?_
      rintro e wq ⟨rfl, hD⟩
      refine ⟨_, rfl, ?_⟩
      clear D; have D := Aside0.mk hD; clear hD; (try clear q0 f0); (try clear q1 f1); (try (have q0 := D.out.c 0 rfl; have f0 := D.out.f 0 rfl)); (try (have q1 := D.out.c 1 rfl; have f1 := D.out.f 1 rfl)); (try clear z1); (try have z1 := CS.c0 D.out 1 rfl); (try clear y0); (try have y0 := gx0 _ D.out.bel); (try clear y1); (try have y1 := gx1 _ D.out.bel); (try clear y2); (try have y2 := gx2 _ D.out.bel); (try clear y3); (try have y3 := gx3 _ D.out.bel)
      refine hK.out _ _ (D.out.one 0 rfl) (fun _ => ?_)
      clear hK K
      refine norm_ (by simp only [Act.put, List.setIfInBounds_toArray, List.set_cons_zero, List.set_cons_succ, i64_w, i32_w]; rfl) ?_
      refine pcat 10 (some 54) #[true, true, true, true, true, true, true, true, true, true, true, false, false] C3 ?_
      refine pcat 11 (some 55) #[true, true, true, true, true, true, true, true, true, true, true, true, false] C4 ?_
      refine tk1 12 (some 4) #[true, true, true, true, true, true, true, true, true, true, true, true, true] (D.out.one 0 rfl) ?_
      refine done_ (by kernel_rfl) ?_
      go_wp2
      go_ret
      exact ⟨rfl, D.out.bel⟩
    rcases ifE H with ⟨m4, n4, H⟩ | ⟨m4, n4, H⟩
    case inl =>
      unfold impl_termText.sl at H
      obtain ⟨x, hx, H⟩ := Option.bind_eq_some_iff.mp H
      obtain ⟨u1, h1, H⟩ := Option.bind_eq_some_iff.mp H
      obtain ⟨u2, h2, H⟩ := Option.bind_eq_some_iff.mp H
      obtain ⟨y, hy, H⟩ := Option.bind_eq_some_iff.mp H
      have HX := Aside0.mk hx
      have HY := Aside0.mk hy
      have C1 := Aside0.mk h1
      have C2 := Aside0.mk h2
      have C3 := Aside0.mk H
      clear hx hy h1 h2 H
      go_enter Tryd.func36, Tryd.ntmps36
      go_wp2_with (first
      | ((with_reducible refine gate_bx rfl ?_); refine ev_box ?_; intro _ _ hD; clear D; have D := Aside0.mk hD; clear hD; (try clear q0 f0); (try clear q1 f1); (try (have q0 := D.out.c 0 rfl; have f0 := D.out.f 0 rfl)); (try (have q1 := D.out.c 1 rfl; have f1 := D.out.f 1 rfl)); (try clear z1); (try have z1 := CS.c0 D.out 1 rfl); (try clear y0); (try have y0 := gx0 _ D.out.bel); (try clear y1); (try have y1 := gx1 _ D.out.bel); (try clear y2); (try have y2 := gx2 _ D.out.bel); (try clear y3); (try have y3 := gx3 _ D.out.bel))
      | ((with_reducible refine gate_al rfl ?_); refine ev_box ?_; intro _ _ hD; clear D; have D := Aside0.mk hD; clear hD; (try clear q0 f0); (try clear q1 f1); (try (have q0 := D.out.c 0 rfl; have f0 := D.out.f 0 rfl)); (try (have q1 := D.out.c 1 rfl; have f1 := D.out.f 1 rfl)); (try clear z1); (try have z1 := CS.c0 D.out 1 rfl); (try clear y0); (try have y0 := gx0 _ D.out.bel); (try clear y1); (try have y1 := gx1 _ D.out.bel); (try clear y2); (try have y2 := gx2 _ D.out.bel); (try clear y3); (try have y3 := gx3 _ D.out.bel))
      | ((with_reducible refine gate_st rfl ?_); refine ev_store ?_; intro wq hD; clear D; simp only [List.set_cons_zero, List.set_cons_succ, List.setIfInBounds_toArray] at hD; have D := Aside0.mk hD; clear hD; (try clear q0 f0); (try clear q1 f1); (try (have q0 := D.out.c 0 rfl; have f0 := D.out.f 0 rfl)); (try (have q1 := D.out.c 1 rfl; have f1 := D.out.f 1 rfl)); (try clear z1); (try have z1 := CS.c0 D.out 1 rfl); (try clear y0); (try have y0 := gx0 _ D.out.bel); (try clear y1); (try have y1 := gx1 _ D.out.bel); (try clear y2); (try have y2 := gx2 _ D.out.bel); (try clear y3); (try have y3 := gx3 _ D.out.bel))
      | ((with_reducible refine gate_cat rfl ?_); refine ev_cat ?_)
      | (go_at_call 47; with_reducible refine Calls.mono (CS.via D.out (impl_decimal.calls _ _ _ (Aside0.out (by with_reducible assumption)) (Tb.on HT D.out.bel))) ?_; rintro e wq ⟨rfl, hD⟩; clear D; have D := Aside0.mk hD; clear hD; (try clear q0 f0); (try clear q1 f1); (try (have q0 := D.out.c 0 rfl; have f0 := D.out.f 0 rfl)); (try (have q1 := D.out.c 1 rfl; have f1 := D.out.f 1 rfl)); (try clear z1); (try have z1 := CS.c0 D.out 1 rfl); (try clear y0); (try have y0 := gx0 _ D.out.bel); (try clear y1); (try have y1 := gx1 _ D.out.bel); (try clear y2); (try have y2 := gx2 _ D.out.bel); (try clear y3); (try have y3 := gx3 _ D.out.bel))
      | (go_at_call 61; with_reducible refine Calls.mono (CS.via D.out (impl_ordered.calls _ _ l0 _ _ _ _ _ _ _ (Kd.C_below HR.out D.out.bel) HC.out (Aside0.out (by with_reducible assumption)))) ?_; rintro e wq ⟨rfl, hD⟩; clear D; have D := Aside0.mk hD; clear hD; (try clear q0 f0); (try clear q1 f1); (try (have q0 := D.out.c 0 rfl; have f0 := D.out.f 0 rfl)); (try (have q1 := D.out.c 1 rfl; have f1 := D.out.f 1 rfl)); (try clear z1); (try have z1 := CS.c0 D.out 1 rfl); (try clear y0); (try have y0 := gx0 _ D.out.bel); (try clear y1); (try have y1 := gx1 _ D.out.bel); (try clear y2); (try have y2 := gx2 _ D.out.bel); (try clear y3); (try have y3 := gx3 _ D.out.bel))
      | (go_at_call 60; with_reducible refine Calls.mono (CS.via D.out (IH.out _ _ _ _ HX.out D.out.bel z1)) ?_; rintro e wq ⟨rfl, hD⟩; clear D; have D := Aside0.mk hD; clear hD; (try clear q0 f0); (try clear q1 f1); (try (have q0 := D.out.c 0 rfl; have f0 := D.out.f 0 rfl)); (try (have q1 := D.out.c 1 rfl; have f1 := D.out.f 1 rfl)); (try clear z1); (try have z1 := CS.c0 D.out 1 rfl); (try clear y0); (try have y0 := gx0 _ D.out.bel); (try clear y1); (try have y1 := gx1 _ D.out.bel); (try clear y2); (try have y2 := gx2 _ D.out.bel); (try clear y3); (try have y3 := gx3 _ D.out.bel))
      | (go_at_call 60; with_reducible refine Calls.mono (CS.via D.out (IH.out _ _ _ _ HY.out D.out.bel z1)) ?_; rintro e wq ⟨rfl, hD⟩; clear D; have D := Aside0.mk hD; clear hD; (try clear q0 f0); (try clear q1 f1); (try (have q0 := D.out.c 0 rfl; have f0 := D.out.f 0 rfl)); (try (have q1 := D.out.c 1 rfl; have f1 := D.out.f 1 rfl)); (try clear z1); (try have z1 := CS.c0 D.out 1 rfl); (try clear y0); (try have y0 := gx0 _ D.out.bel); (try clear y1); (try have y1 := gx1 _ D.out.bel); (try clear y2); (try have y2 := gx2 _ D.out.bel); (try clear y3); (try have y3 := gx3 _ D.out.bel)))
      refine CS.rg1 (n := 12) 0 #[false, false, false, false, false, false, false, false, false, false, false, false] D.out rfl rfl rfl ?_
      intro hD
      clear D; have D := Aside0.mk hD; clear hD; (try clear q0 f0); (try clear q1 f1); (try (have q0 := D.out.c 0 rfl; have f0 := D.out.f 0 rfl)); (try (have q1 := D.out.c 1 rfl; have f1 := D.out.f 1 rfl)); (try clear z1); (try have z1 := CS.c0 D.out 1 rfl); (try clear y0); (try have y0 := gx0 _ D.out.bel); (try clear y1); (try have y1 := gx1 _ D.out.bel); (try clear y2); (try have y2 := gx2 _ D.out.bel); (try clear y3); (try have y3 := gx3 _ D.out.bel)
      refine tk1 0 (some 58) #[true, false, false, false, false, false, false, false, false, false, false, false] (D.out.one 0 rfl) ?_
      refine tk1 6 (some 64) #[true, false, false, false, false, false, true, false, false, false, false, false] (D.out.one 0 rfl) ?_
      refine tk1 1 (some 59) #[true, true, false, false, false, false, true, false, false, false, false, false] (D.out.one 0 rfl) ?_
      refine tk1 7 (some 65) #[true, true, false, false, false, false, true, true, false, false, false, false] (D.out.one 0 rfl) ?_
      refine tk1 2 (some 60) #[true, true, true, false, false, false, true, true, false, false, false, false] (D.out.one 0 rfl) ?_
      refine tk1 8 (some 66) #[true, true, true, false, false, false, true, true, true, false, false, false] (D.out.one 0 rfl) ?_
      refine one_ (i := 3) (N := some 61) #[true, true, true, true, false, false, true, true, true, false, false, false] rfl rfl (by kernel_rfl) (by decide) (fun K hK => ?_)
      refine goesV_ (f := 60) (lb := #[.pointer (some ⟨_, 0, none⟩)]) Tryd.func60 (by kernel_rfl) rfl #[.int .i64 t2] (wn_ rfl) rfl rfl rfl (by (try simp only [List.map_toArray, List.map_cons, List.map_nil]); first | done | (go_simp; done) | rfl | (go_simp; rfl)) ?_
      refine Calls.mono (CS.via D.out (IH.out _ _ _ _ HX.out D.out.bel z1)) ?_
      rintro e wq ⟨rfl, hD⟩
      refine ⟨_, rfl, ?_⟩
      clear D; have D := Aside0.mk hD; clear hD; (try clear q0 f0); (try clear q1 f1); (try (have q0 := D.out.c 0 rfl; have f0 := D.out.f 0 rfl)); (try (have q1 := D.out.c 1 rfl; have f1 := D.out.f 1 rfl)); (try clear z1); (try have z1 := CS.c0 D.out 1 rfl); (try clear y0); (try have y0 := gx0 _ D.out.bel); (try clear y1); (try have y1 := gx1 _ D.out.bel); (try clear y2); (try have y2 := gx2 _ D.out.bel); (try clear y3); (try have y3 := gx3 _ D.out.bel)
      refine hK.out _ _ (D.out.one 0 rfl) (fun _ => ?_)
      clear hK K
      refine norm_ (by simp only [Act.put, List.setIfInBounds_toArray, List.set_cons_zero, List.set_cons_succ, i64_w, i32_w]; rfl) ?_
      refine pcat 4 (some 62) #[true, true, true, true, true, false, true, true, true, false, false, false] C1 ?_
      refine pcat 5 (some 63) #[true, true, true, true, true, true, true, true, true, false, false, false] C2 ?_
      refine one_ (i := 9) (N := some 67) #[true, true, true, true, true, true, true, true, true, true, false, false] rfl rfl (by kernel_rfl) (by decide) (fun K hK => ?_)
      refine goesV_ (f := 60) (lb := #[.pointer (some ⟨_, 0, none⟩)]) Tryd.func60 (by kernel_rfl) rfl #[.int .i64 t1] (wn_ rfl) rfl rfl rfl (by (try simp only [List.map_toArray, List.map_cons, List.map_nil]); first | done | (go_simp; done) | rfl | (go_simp; rfl)) ?_
      refine Calls.mono (CS.via D.out (IH.out _ _ _ _ HY.out D.out.bel z1)) ?_
      rintro e wq ⟨rfl, hD⟩
      refine ⟨_, rfl, ?_⟩
      clear D; have D := Aside0.mk hD; clear hD; (try clear q0 f0); (try clear q1 f1); (try (have q0 := D.out.c 0 rfl; have f0 := D.out.f 0 rfl)); (try (have q1 := D.out.c 1 rfl; have f1 := D.out.f 1 rfl)); (try clear z1); (try have z1 := CS.c0 D.out 1 rfl); (try clear y0); (try have y0 := gx0 _ D.out.bel); (try clear y1); (try have y1 := gx1 _ D.out.bel); (try clear y2); (try have y2 := gx2 _ D.out.bel); (try clear y3); (try have y3 := gx3 _ D.out.bel)
      refine hK.out _ _ (D.out.one 0 rfl) (fun _ => ?_)
      clear hK K
      refine norm_ (by simp only [Act.put, List.setIfInBounds_toArray, List.set_cons_zero, List.set_cons_succ, i64_w, i32_w]; rfl) ?_
      refine pcat 10 (some 68) #[true, true, true, true, true, true, true, true, true, true, true, false] C3 ?_
      refine tk1 11 (some 4) #[true, true, true, true, true, true, true, true, true, true, true, true] (D.out.one 0 rfl) ?_
      refine done_ (by kernel_rfl) ?_
      go_wp2
      go_ret
      exact ⟨rfl, D.out.bel⟩
    rcases ifE H with ⟨m5, n5, H⟩ | ⟨m5, n5, H⟩
    case inl =>
      unfold impl_termText.one at H
      obtain ⟨x, hx, H⟩ := Option.bind_eq_some_iff.mp H
      obtain ⟨u1, h1, H⟩ := Option.bind_eq_some_iff.mp H
      have HX := Aside0.mk hx
      have C1 := Aside0.mk h1
      have C2 := Aside0.mk H
      clear hx h1 H
      go_enter Tryd.func36, Tryd.ntmps36
      go_wp2_with (first
      | ((with_reducible refine gate_bx rfl ?_); refine ev_box ?_; intro _ _ hD; clear D; have D := Aside0.mk hD; clear hD; (try clear q0 f0); (try clear q1 f1); (try (have q0 := D.out.c 0 rfl; have f0 := D.out.f 0 rfl)); (try (have q1 := D.out.c 1 rfl; have f1 := D.out.f 1 rfl)); (try clear z1); (try have z1 := CS.c0 D.out 1 rfl); (try clear y0); (try have y0 := gx0 _ D.out.bel); (try clear y1); (try have y1 := gx1 _ D.out.bel); (try clear y2); (try have y2 := gx2 _ D.out.bel); (try clear y3); (try have y3 := gx3 _ D.out.bel))
      | ((with_reducible refine gate_al rfl ?_); refine ev_box ?_; intro _ _ hD; clear D; have D := Aside0.mk hD; clear hD; (try clear q0 f0); (try clear q1 f1); (try (have q0 := D.out.c 0 rfl; have f0 := D.out.f 0 rfl)); (try (have q1 := D.out.c 1 rfl; have f1 := D.out.f 1 rfl)); (try clear z1); (try have z1 := CS.c0 D.out 1 rfl); (try clear y0); (try have y0 := gx0 _ D.out.bel); (try clear y1); (try have y1 := gx1 _ D.out.bel); (try clear y2); (try have y2 := gx2 _ D.out.bel); (try clear y3); (try have y3 := gx3 _ D.out.bel))
      | ((with_reducible refine gate_st rfl ?_); refine ev_store ?_; intro wq hD; clear D; simp only [List.set_cons_zero, List.set_cons_succ, List.setIfInBounds_toArray] at hD; have D := Aside0.mk hD; clear hD; (try clear q0 f0); (try clear q1 f1); (try (have q0 := D.out.c 0 rfl; have f0 := D.out.f 0 rfl)); (try (have q1 := D.out.c 1 rfl; have f1 := D.out.f 1 rfl)); (try clear z1); (try have z1 := CS.c0 D.out 1 rfl); (try clear y0); (try have y0 := gx0 _ D.out.bel); (try clear y1); (try have y1 := gx1 _ D.out.bel); (try clear y2); (try have y2 := gx2 _ D.out.bel); (try clear y3); (try have y3 := gx3 _ D.out.bel))
      | ((with_reducible refine gate_cat rfl ?_); refine ev_cat ?_)
      | (go_at_call 47; with_reducible refine Calls.mono (CS.via D.out (impl_decimal.calls _ _ _ (Aside0.out (by with_reducible assumption)) (Tb.on HT D.out.bel))) ?_; rintro e wq ⟨rfl, hD⟩; clear D; have D := Aside0.mk hD; clear hD; (try clear q0 f0); (try clear q1 f1); (try (have q0 := D.out.c 0 rfl; have f0 := D.out.f 0 rfl)); (try (have q1 := D.out.c 1 rfl; have f1 := D.out.f 1 rfl)); (try clear z1); (try have z1 := CS.c0 D.out 1 rfl); (try clear y0); (try have y0 := gx0 _ D.out.bel); (try clear y1); (try have y1 := gx1 _ D.out.bel); (try clear y2); (try have y2 := gx2 _ D.out.bel); (try clear y3); (try have y3 := gx3 _ D.out.bel))
      | (go_at_call 61; with_reducible refine Calls.mono (CS.via D.out (impl_ordered.calls _ _ l0 _ _ _ _ _ _ _ (Kd.C_below HR.out D.out.bel) HC.out (Aside0.out (by with_reducible assumption)))) ?_; rintro e wq ⟨rfl, hD⟩; clear D; have D := Aside0.mk hD; clear hD; (try clear q0 f0); (try clear q1 f1); (try (have q0 := D.out.c 0 rfl; have f0 := D.out.f 0 rfl)); (try (have q1 := D.out.c 1 rfl; have f1 := D.out.f 1 rfl)); (try clear z1); (try have z1 := CS.c0 D.out 1 rfl); (try clear y0); (try have y0 := gx0 _ D.out.bel); (try clear y1); (try have y1 := gx1 _ D.out.bel); (try clear y2); (try have y2 := gx2 _ D.out.bel); (try clear y3); (try have y3 := gx3 _ D.out.bel))
      | (go_at_call 60; with_reducible refine Calls.mono (CS.via D.out (IH.out _ _ _ _ HX.out D.out.bel z1)) ?_; rintro e wq ⟨rfl, hD⟩; clear D; have D := Aside0.mk hD; clear hD; (try clear q0 f0); (try clear q1 f1); (try (have q0 := D.out.c 0 rfl; have f0 := D.out.f 0 rfl)); (try (have q1 := D.out.c 1 rfl; have f1 := D.out.f 1 rfl)); (try clear z1); (try have z1 := CS.c0 D.out 1 rfl); (try clear y0); (try have y0 := gx0 _ D.out.bel); (try clear y1); (try have y1 := gx1 _ D.out.bel); (try clear y2); (try have y2 := gx2 _ D.out.bel); (try clear y3); (try have y3 := gx3 _ D.out.bel))
      | (go_at_call 60; with_reducible refine Calls.mono (CS.via D.out (IH.out _ _ _ _ HY.out D.out.bel z1)) ?_; rintro e wq ⟨rfl, hD⟩; clear D; have D := Aside0.mk hD; clear hD; (try clear q0 f0); (try clear q1 f1); (try (have q0 := D.out.c 0 rfl; have f0 := D.out.f 0 rfl)); (try (have q1 := D.out.c 1 rfl; have f1 := D.out.f 1 rfl)); (try clear z1); (try have z1 := CS.c0 D.out 1 rfl); (try clear y0); (try have y0 := gx0 _ D.out.bel); (try clear y1); (try have y1 := gx1 _ D.out.bel); (try clear y2); (try have y2 := gx2 _ D.out.bel); (try clear y3); (try have y3 := gx3 _ D.out.bel)))
      go_ret
      exact ⟨rfl, D.out.bel⟩
    obtain ⟨⟨za, zb⟩, hz, H⟩ := Option.bind_eq_some_iff.mp H
    have HZ := Aside0.mk hz
    clear hz
    try dsimp only at H
    unfold impl_termText.two at H
    obtain ⟨x, hx, H⟩ := Option.bind_eq_some_iff.mp H
    obtain ⟨u1, h1, H⟩ := Option.bind_eq_some_iff.mp H
    obtain ⟨u2, h2, H⟩ := Option.bind_eq_some_iff.mp H
    obtain ⟨y, hy, H⟩ := Option.bind_eq_some_iff.mp H
    obtain ⟨u3, h3, H⟩ := Option.bind_eq_some_iff.mp H
    have HX := Aside0.mk hx
    have HY := Aside0.mk hy
    have C1 := Aside0.mk h1
    have C2 := Aside0.mk h2
    have C3 := Aside0.mk h3
    have C4 := Aside0.mk H
    clear hx hy h1 h2 h3 H
    go_enter Tryd.func36, Tryd.ntmps36
    go_wp2_with (first
    | ((with_reducible refine gate_bx rfl ?_); refine ev_box ?_; intro _ _ hD; clear D; have D := Aside0.mk hD; clear hD; (try clear q0 f0); (try clear q1 f1); (try (have q0 := D.out.c 0 rfl; have f0 := D.out.f 0 rfl)); (try (have q1 := D.out.c 1 rfl; have f1 := D.out.f 1 rfl)); (try clear z1); (try have z1 := CS.c0 D.out 1 rfl); (try clear y0); (try have y0 := gx0 _ D.out.bel); (try clear y1); (try have y1 := gx1 _ D.out.bel); (try clear y2); (try have y2 := gx2 _ D.out.bel); (try clear y3); (try have y3 := gx3 _ D.out.bel))
    | ((with_reducible refine gate_al rfl ?_); refine ev_box ?_; intro _ _ hD; clear D; have D := Aside0.mk hD; clear hD; (try clear q0 f0); (try clear q1 f1); (try (have q0 := D.out.c 0 rfl; have f0 := D.out.f 0 rfl)); (try (have q1 := D.out.c 1 rfl; have f1 := D.out.f 1 rfl)); (try clear z1); (try have z1 := CS.c0 D.out 1 rfl); (try clear y0); (try have y0 := gx0 _ D.out.bel); (try clear y1); (try have y1 := gx1 _ D.out.bel); (try clear y2); (try have y2 := gx2 _ D.out.bel); (try clear y3); (try have y3 := gx3 _ D.out.bel))
    | ((with_reducible refine gate_st rfl ?_); refine ev_store ?_; intro wq hD; clear D; simp only [List.set_cons_zero, List.set_cons_succ, List.setIfInBounds_toArray] at hD; have D := Aside0.mk hD; clear hD; (try clear q0 f0); (try clear q1 f1); (try (have q0 := D.out.c 0 rfl; have f0 := D.out.f 0 rfl)); (try (have q1 := D.out.c 1 rfl; have f1 := D.out.f 1 rfl)); (try clear z1); (try have z1 := CS.c0 D.out 1 rfl); (try clear y0); (try have y0 := gx0 _ D.out.bel); (try clear y1); (try have y1 := gx1 _ D.out.bel); (try clear y2); (try have y2 := gx2 _ D.out.bel); (try clear y3); (try have y3 := gx3 _ D.out.bel))
    | ((with_reducible refine gate_cat rfl ?_); refine ev_cat ?_)
    | (go_at_call 47; with_reducible refine Calls.mono (CS.via D.out (impl_decimal.calls _ _ _ (Aside0.out (by with_reducible assumption)) (Tb.on HT D.out.bel))) ?_; rintro e wq ⟨rfl, hD⟩; clear D; have D := Aside0.mk hD; clear hD; (try clear q0 f0); (try clear q1 f1); (try (have q0 := D.out.c 0 rfl; have f0 := D.out.f 0 rfl)); (try (have q1 := D.out.c 1 rfl; have f1 := D.out.f 1 rfl)); (try clear z1); (try have z1 := CS.c0 D.out 1 rfl); (try clear y0); (try have y0 := gx0 _ D.out.bel); (try clear y1); (try have y1 := gx1 _ D.out.bel); (try clear y2); (try have y2 := gx2 _ D.out.bel); (try clear y3); (try have y3 := gx3 _ D.out.bel))
    | (go_at_call 61; with_reducible refine Calls.mono (CS.via D.out (impl_ordered.calls _ _ l0 _ _ _ _ _ _ _ (Kd.C_below HR.out D.out.bel) HC.out (Aside0.out (by with_reducible assumption)))) ?_; rintro e wq ⟨rfl, hD⟩; clear D; have D := Aside0.mk hD; clear hD; (try clear q0 f0); (try clear q1 f1); (try (have q0 := D.out.c 0 rfl; have f0 := D.out.f 0 rfl)); (try (have q1 := D.out.c 1 rfl; have f1 := D.out.f 1 rfl)); (try clear z1); (try have z1 := CS.c0 D.out 1 rfl); (try clear y0); (try have y0 := gx0 _ D.out.bel); (try clear y1); (try have y1 := gx1 _ D.out.bel); (try clear y2); (try have y2 := gx2 _ D.out.bel); (try clear y3); (try have y3 := gx3 _ D.out.bel))
    | (go_at_call 60; with_reducible refine Calls.mono (CS.via D.out (IH.out _ _ _ _ HX.out D.out.bel z1)) ?_; rintro e wq ⟨rfl, hD⟩; clear D; have D := Aside0.mk hD; clear hD; (try clear q0 f0); (try clear q1 f1); (try (have q0 := D.out.c 0 rfl; have f0 := D.out.f 0 rfl)); (try (have q1 := D.out.c 1 rfl; have f1 := D.out.f 1 rfl)); (try clear z1); (try have z1 := CS.c0 D.out 1 rfl); (try clear y0); (try have y0 := gx0 _ D.out.bel); (try clear y1); (try have y1 := gx1 _ D.out.bel); (try clear y2); (try have y2 := gx2 _ D.out.bel); (try clear y3); (try have y3 := gx3 _ D.out.bel))
    | (go_at_call 60; with_reducible refine Calls.mono (CS.via D.out (IH.out _ _ _ _ HY.out D.out.bel z1)) ?_; rintro e wq ⟨rfl, hD⟩; clear D; have D := Aside0.mk hD; clear hD; (try clear q0 f0); (try clear q1 f1); (try (have q0 := D.out.c 0 rfl; have f0 := D.out.f 0 rfl)); (try (have q1 := D.out.c 1 rfl; have f1 := D.out.f 1 rfl)); (try clear z1); (try have z1 := CS.c0 D.out 1 rfl); (try clear y0); (try have y0 := gx0 _ D.out.bel); (try clear y1); (try have y1 := gx1 _ D.out.bel); (try clear y2); (try have y2 := gx2 _ D.out.bel); (try clear y3); (try have y3 := gx3 _ D.out.bel)))
    go_ret
    exact ⟨rfl, D.out.bel⟩

/-! ### impl_TermText: function 17 -/
def impl_TermText.f (k : Nat) (l0 : List (S66)) (a1 : Int) : Option (Int × ByteArray) := (impl_placesFault.f l0 (([a1] : List Int))).bind fun t217 => (if t217 = 0 then ((impl_sizes.f k l0).bind fun t218 => (if 0 ≤ a1 then (if a1 < (t218.length : Int) then (if (rd t218 a1) > 200 then (some (2, (⟨#[]⟩ : ByteArray))) else ((impl_termText.f k l0 a1).bind fun t222 => (some (0, t222)))) else (none)) else (none))) else (some (t217, (⟨#[]⟩ : ByteArray))))
theorem impl_TermText.mono : ∀ a0 a1 k, LeO (impl_TermText.f k a0 a1) (impl_TermText.f (k + 1) a0 a1) := by
 intro a0 a1 k
 unfold impl_TermText.f
 repeat' first
   | (with_reducible exact impl_sizes.mono _ _)
   | (with_reducible exact impl_termText.mono _ _ _)
   | (with_reducible exact LeO.refl _)
   | (with_reducible exact LeO.none _)
   | (with_reducible refine LeO.ite ?_ ?_)
   | (with_reducible refine LeO.bind ?_ (fun _ => ?_))
   | exact impl_sizes.mono _ _
   | exact impl_termText.mono _ _ _
   | exact LeO.none _
   | refine LeO.ite ?_ ?_
   | refine LeO.bind ?_ (fun _ => ?_)
set_option maxHeartbeats 8000000 in
set_option maxRecDepth 100000 in
theorem impl_TermText.calls (k : Nat) (A0 : Option Addr) (c0 : Nat) (l0 : List (S66)) (a1 : Int) (r1 : Int) (r2 : ByteArray) (w : World) (hr0 : Kd.C k66 w A0 l0.length l0) (hc0 : l0.length ≤ c0) (h : impl_TermText.f k l0 a1 = some (r1, r2)) (HT : Tb w := by exact Tb.on HT (by repeat (first | (with_reducible first | exact HB.out | apply below_alloc | apply pw_below_drewN | apply below_drew1 | refine below_set ?_ (Aside0.out (by with_reducible assumption))) | exact HB.out))) :
  Calls Tryd.prog 17 #[.slice A0 l0.length c0, .int .i64 a1] w fun e w' => e = .returned (.agg #[.int .i64 r1, .string r2]) ∧ Below w.heap.size w w' := by
 have hu23 := Tryd.underlying23
 have HR0 := Aside0.mk hr0
 have HC0 := Aside0.mk hc0
 clear hr0 hc0
 have HB := Aside0.mk (Below.refl w.heap.size w)
 have H : ((impl_placesFault.f l0 (([a1] : List Int))).bind fun t217 => (if t217 = 0 then ((impl_sizes.f k l0).bind fun t218 => (if 0 ≤ a1 then (if a1 < (t218.length : Int) then (if (rd t218 a1) > 200 then (some (2, (⟨#[]⟩ : ByteArray))) else ((impl_termText.f k l0 a1).bind fun t222 => (some (0, t222)))) else (none)) else (none))) else (some (t217, (⟨#[]⟩ : ByteArray))))) = some (r1, r2) := h
 clear h
 obtain ⟨y214, hy214⟩ : ∃ y_ : List Int, y_ = (([a1] : List Int)) := ⟨_, rfl⟩
 replace H : ((impl_placesFault.f l0 y214).bind fun t217 => (if t217 = 0 then ((impl_sizes.f k l0).bind fun t218 => (if 0 ≤ a1 then (if a1 < (t218.length : Int) then (if (rd t218 a1) > 200 then (some (2, (⟨#[]⟩ : ByteArray))) else ((impl_termText.f k l0 a1).bind fun t222 => (some (0, t222)))) else (none)) else (none))) else (some (t217, (⟨#[]⟩ : ByteArray))))) = some (r1, r2) := by first | (rw [hy214]; with_reducible exact H) | (have H2_ := (Option.bind_some _ _).symm.trans H; rw [hy214]; with_reducible exact H2_) | (have H2_ := (Option.bind_some _ _).symm.trans H; with_reducible exact H2_) | with_reducible exact H | (rw [hy214]; exact H) | exact H
 have Ny214 := Aside0.mk hy214
 clear hy214
 replace H := Option.bind_eq_some_iff.mp H
 obtain ⟨t217, A30, H⟩ := H
 replace H : (if t217 = 0 then ((impl_sizes.f k l0).bind fun t218 => (if 0 ≤ a1 then (if a1 < (t218.length : Int) then (if (rd t218 a1) > 200 then (some (2, (⟨#[]⟩ : ByteArray))) else ((impl_termText.f k l0 a1).bind fun t222 => (some (0, t222)))) else (none)) else (none))) else (some (t217, (⟨#[]⟩ : ByteArray)))) = some (r1, r2) := H
 have A3 := Aside0.mk A30
 clear A30
 by_cases c4 : t217 = 0
 ·
  rw [if_pos c4] at H
  have c4b0 : (t217 == 0) = true := beq_iff_eq.mpr c4
  have c4b1 : (t217 != 0) = false := bne_eq_false_iff_eq.mpr c4
  clear c4
  replace H := Option.bind_eq_some_iff.mp H
  obtain ⟨t218, A50, H⟩ := H
  replace H : (if 0 ≤ a1 then (if a1 < (t218.length : Int) then (if (rd t218 a1) > 200 then (some (2, (⟨#[]⟩ : ByteArray))) else ((impl_termText.f k l0 a1).bind fun t222 => (some (0, t222)))) else (none)) else (none)) = some (r1, r2) := H
  have A5 := Aside0.mk A50
  clear A50
  by_cases c6 : 0 ≤ a1
  ·
   rw [if_pos c6] at H
   have c6b0 : decide (0 ≤ a1) = true := decide_eq_true c6
   clear c6
   by_cases c7 : a1 < (t218.length : Int)
   ·
    rw [if_pos c7] at H
    have c7b0 : decide (a1 < (t218.length : Int)) = true := decide_eq_true c7
    clear c7
    by_cases c8 : (rd t218 a1) > 200
    ·
     rw [if_pos c8] at H
     have c8b0 : decide (200 < (rd t218 a1)) = true := decide_eq_true c8
     clear c8
     simp only [Option.some.injEq, Prod.mk.injEq] at H
     obtain ⟨rfl, rfl⟩ := H
     go_enter Tryd.func17, Tryd.ntmps17
     go_wp2_with (first | ((with_reducible refine gate_dst (N := 4) rfl ?_); refine box_event ?hg (N := 4) ?hd (cs := #[.int .i64 0, .string (⟨#[]⟩ : ByteArray)]) (t := 23) ?hr ?_; (case hd => rfl); (case hg => rfl); (case hr => first | (go_simp; done) | (go_simp; rfl)); intro gb213 hg w9 hbox hb; have n0_ := Aside0.mk (below_step (by repeat (first | (with_reducible first | exact HB.out | apply below_alloc | apply pw_below_drewN | apply below_drew1) | exact HB.out)) hb); have n1_ := Aside0.mk (hbox); have n2_ := Aside0.mk ((by rw [hg]; exact (below_size (by repeat (first | (with_reducible first | exact HB.out | apply below_alloc | apply pw_below_drewN | apply below_drew1) | exact HB.out))) : w.heap.size ≤ gb213)); have n3_ := Aside0.mk ((by rw [hg]; exact (below_size (by repeat (first | (with_reducible first | exact HB.out | apply below_alloc | apply pw_below_drewN | apply below_drew1) | exact HB.out))) : w.heap.size ≤ gb213)); clear HB; have HB := n0_; have BK213 := n1_; have GW213 := n2_; have GE213 := n3_; clear n0_ n1_ n2_ n3_; clear hb hbox hg) | ((with_reducible refine gate_dst (N := 8) rfl ?_); refine Kd.R_lit (Kd.int .i64) _ 2 ?hg (N := 8) ?hd (xs := ([a1] : List Int)) (inner := [.int .i64 a1]) (ok := fun _ => True) (okp := fun _ => True) ?hr ?hp (fun _ hk => hk) trivial (Below.refl _ _) (Nat.le_refl _) (by simp) ?_; (case hd => rfl); (case hg => rfl); (case hr => first | (go_simp; done) | (go_simp; rfl)); (case hp => exact (Reps.one (show Kd.M (Kd.int .i64) _ _ _ a1 [.int .i64 a1] from rfl) (Reps.none _ _))); intro v215 w10 ho11 hb hg_ hnew_; clear hg_ hnew_; (first | rw [← Ny214.out] at ho11 | (simp only [Int.reduceToNat] at ho11; rw [← Ny214.out] at ho11)); have n0_ := Aside0.mk (Kd.R_lower ho11 (below_size (by repeat (first | (with_reducible first | exact HB.out | apply below_alloc | apply pw_below_drewN | apply below_drew1 | refine below_set ?_ GE213.out) | exact HB.out)))); have n1_ := Aside0.mk (blk_below (g := gb213) (o := .cells #[.int .i64 0, .string (⟨#[]⟩ : ByteArray)] 23 (0, 0)) (by (with_reducible repeat (first | refine blk_drewN ?_ _ | refine blk_drew ?_ | refine blk_alloc ?_ _)); exact BK213.out) hb); have n2_ := Aside0.mk (below_step (by repeat (first | (with_reducible first | exact HB.out | apply below_alloc | apply pw_below_drewN | apply below_drew1 | refine below_set ?_ GE213.out) | exact HB.out)) hb); clear BK213; clear HB; have HO216 := n0_; have BK213 := n1_; have HB := n2_; clear n0_ n1_ n2_; clear hb ho11; obtain ⟨Ao12, co12, eo12⟩ := Kd.R_slice HO216.out; subst eo12) | ((with_reducible refine gate_callee (f := 34) rfl ?_); refine goesL_ (some 9) rfl rfl Tryd.func34 (by kernel_rfl) rfl #[.slice A0 l0.length c0, .slice Ao12 y214.length co12] rfl (by (try simp only [List.map_toArray, List.map_cons, List.map_nil]); first | done | rfl | (simp only [List.length_drop, List.length_take]; rfl)) ?_; (with_reducible refine (impl_placesFault.calls _ _ l0 _ _ y214 t217 _ ?side1 ?side2 ?side3 ?side4 A3.out).mono ?_); (case side1 => repeat (first | exact (Kd.C_below HR0.out HB.out) | (with_reducible refine Kd.C_alloc ?_ _) | (with_reducible refine Kd.C_drewN ?_ _) | (with_reducible refine Kd.C_drew ?_))); (case side2 => exact HC0.out); (case side3 => repeat (first | exact (Kd.R_reads' HO216.out).2.2 | (with_reducible refine Kd.C_alloc ?_ _) | (with_reducible refine Kd.C_drewN ?_ _) | (with_reducible refine Kd.C_drew ?_))); (case side4 => exact (Kd.R_reads' HO216.out).2.1); rintro e w13 ⟨rfl, hb⟩; refine ⟨_, rfl, ?_⟩; have n0_ := Aside0.mk (Kd.R_below (by (with_reducible repeat (first | apply Kd.R_alloc | apply Kd.R_drewN | apply Kd.R_drew)); exact HO216.out) hb); have n1_ := Aside0.mk (blk_below (g := gb213) (o := .cells #[.int .i64 0, .string (⟨#[]⟩ : ByteArray)] 23 (0, 0)) (by (with_reducible repeat (first | refine blk_drewN ?_ _ | refine blk_drew ?_ | refine blk_alloc ?_ _)); exact BK213.out) hb); have n2_ := Aside0.mk (below_step (by repeat (first | (with_reducible first | exact HB.out | apply below_alloc | apply pw_below_drewN | apply below_drew1 | refine below_set ?_ GE213.out) | exact HB.out)) hb); clear HO216; clear BK213; clear HB; have HO216 := n0_; have BK213 := n1_; have HB := n2_; clear n0_ n1_ n2_; (try clear hb); (try clear hb2); (try clear hk); (try clear hi)) | ((with_reducible refine gate_callee (f := 35) rfl ?_); refine goesL_ (some 15) rfl rfl Tryd.func35 (by kernel_rfl) rfl #[.slice A0 l0.length c0] rfl (by (try simp only [List.map_toArray, List.map_cons, List.map_nil]); first | done | rfl | (simp only [List.length_drop, List.length_take]; rfl)) ?_; (with_reducible refine (impl_sizes.calls k _ _ l0 t218 _ ?side1 ?side2 A5.out).mono ?_); (case side1 => repeat (first | exact (Kd.C_below HR0.out HB.out) | (with_reducible refine Kd.C_alloc ?_ _) | (with_reducible refine Kd.C_drewN ?_ _) | (with_reducible refine Kd.C_drew ?_))); (case side2 => exact HC0.out); rintro e w14 ⟨v219, rfl, ho0, hb⟩; refine ⟨_, rfl, ?_⟩; have n0_ := Aside0.mk (Kd.R_elder' (by (with_reducible repeat (first | apply Kd.R_alloc | apply Kd.R_drewN | apply Kd.R_drew)); exact HO216.out) (Kd.R_base ho0) hb); have n1_ := Aside0.mk (Kd.R_lower (Kd.R_new' ho0 (Kd.R_lt (by (with_reducible repeat (first | apply Kd.R_alloc | apply Kd.R_drewN | apply Kd.R_drew)); exact HO216.out))) (below_size (by repeat (first | (with_reducible first | exact HB.out | apply below_alloc | apply pw_below_drewN | apply below_drew1 | refine below_set ?_ GE213.out) | exact HB.out)))); have n2_ := Aside0.mk (blk_below (g := gb213) (o := .cells #[.int .i64 0, .string (⟨#[]⟩ : ByteArray)] 23 (0, 0)) (by (with_reducible repeat (first | refine blk_drewN ?_ _ | refine blk_drew ?_ | refine blk_alloc ?_ _)); exact BK213.out) hb); have n3_ := Aside0.mk (below_step (by repeat (first | (with_reducible first | exact HB.out | apply below_alloc | apply pw_below_drewN | apply below_drew1 | refine below_set ?_ GE213.out) | exact HB.out)) hb); clear HO216; clear BK213; clear HB; have HO216 := n0_; have HO220 := n1_; have BK213 := n2_; have HB := n3_; clear n0_ n1_ n2_ n3_; (try clear hb); (try clear hb2); (try clear hk); (try clear hi); (try clear ho0); obtain ⟨Ao15, co15, eo15⟩ := Kd.R_slice HO220.out; subst eo15; have p221 : 0 ≤ (a1 : Int) := of_decide_eq_true (by first | (with_reducible assumption) | assumption); have q221 : a1 < (t218.length : Int) := of_decide_eq_true (by first | (with_reducible assumption) | assumption); obtain ⟨ad221, e221, hx221_0⟩ := Kd.at_int (Kd.R_reads' HO220.out).2.2 a1 p221 q221; cases e221; replace p221 := eq_true p221; replace q221 := eq_true q221; have hcz16_0 : w14.cell? ⟨gb213, 0, none⟩ = some (.int .i64 0) := (blk_cell BK213.out 0).trans rfl; have hcz16_1 : w14.cell? ⟨gb213, 1, none⟩ = some (.string (⟨#[]⟩ : ByteArray)) := (blk_cell BK213.out 1).trans rfl; have hfz16_0 := blk_frozen BK213.out 0; have hfz16_1 := blk_frozen BK213.out 1))
     refine bodyPost_ret (results_cell_row rfl _ _ gb213 23 #[.int .i64 2, .string (⟨#[]⟩ : ByteArray)] (0, 0) _ rfl (by (with_reducible repeat (first | refine blk_drewN ?_ _ | refine blk_drew ?_ | refine blk_alloc ?_ _)); refine blk_put (cs := #[.int .i64 2, .string (⟨#[]⟩ : ByteArray)]) ?_ 1 _ rfl; (with_reducible repeat (first | refine blk_drewN ?_ _ | refine blk_drew ?_ | refine blk_alloc ?_ _)); refine blk_put (cs := #[.int .i64 0, .string (⟨#[]⟩ : ByteArray)]) ?_ 0 _ rfl; (with_reducible repeat (first | refine blk_drewN ?_ _ | refine blk_drew ?_ | refine blk_alloc ?_ _)); exact BK213.out) Tryd.underlying23 rfl (by kernel_rfl)) rfl ?_
     exact ⟨by first | rfl | (simp [errW_none, errW_some] <;> rfl) | (simp [*, errW_none, errW_some] <;> rfl), by repeat (first | (with_reducible first | exact HB.out | apply below_alloc | apply pw_below_drewN | apply below_drew1 | refine below_set ?_ GE213.out) | exact HB.out)⟩
    ·
     rw [if_neg c8] at H
     have c8b0 : decide (200 < (rd t218 a1)) = false := decide_eq_false c8
     clear c8
     replace H := Option.bind_eq_some_iff.mp H
     obtain ⟨t222, A170, H⟩ := H
     replace H : (some (0, t222)) = some (r1, r2) := H
     have A17 := Aside0.mk A170
     clear A170
     simp only [Option.some.injEq, Prod.mk.injEq] at H
     obtain ⟨rfl, rfl⟩ := H
     go_enter Tryd.func17, Tryd.ntmps17
     go_wp2_with (first | ((with_reducible refine gate_dst (N := 4) rfl ?_); refine box_event ?hg (N := 4) ?hd (cs := #[.int .i64 0, .string (⟨#[]⟩ : ByteArray)]) (t := 23) ?hr ?_; (case hd => rfl); (case hg => rfl); (case hr => first | (go_simp; done) | (go_simp; rfl)); intro gb213 hg w18 hbox hb; have n0_ := Aside0.mk (below_step (by repeat (first | (with_reducible first | exact HB.out | apply below_alloc | apply pw_below_drewN | apply below_drew1) | exact HB.out)) hb); have n1_ := Aside0.mk (hbox); have n2_ := Aside0.mk ((by rw [hg]; exact (below_size (by repeat (first | (with_reducible first | exact HB.out | apply below_alloc | apply pw_below_drewN | apply below_drew1) | exact HB.out))) : w.heap.size ≤ gb213)); have n3_ := Aside0.mk ((by rw [hg]; exact (below_size (by repeat (first | (with_reducible first | exact HB.out | apply below_alloc | apply pw_below_drewN | apply below_drew1) | exact HB.out))) : w.heap.size ≤ gb213)); clear HB; have HB := n0_; have BK213 := n1_; have GW213 := n2_; have GE213 := n3_; clear n0_ n1_ n2_ n3_; clear hb hbox hg) | ((with_reducible refine gate_dst (N := 8) rfl ?_); refine Kd.R_lit (Kd.int .i64) _ 2 ?hg (N := 8) ?hd (xs := ([a1] : List Int)) (inner := [.int .i64 a1]) (ok := fun _ => True) (okp := fun _ => True) ?hr ?hp (fun _ hk => hk) trivial (Below.refl _ _) (Nat.le_refl _) (by simp) ?_; (case hd => rfl); (case hg => rfl); (case hr => first | (go_simp; done) | (go_simp; rfl)); (case hp => exact (Reps.one (show Kd.M (Kd.int .i64) _ _ _ a1 [.int .i64 a1] from rfl) (Reps.none _ _))); intro v215 w19 ho20 hb hg_ hnew_; clear hg_ hnew_; (first | rw [← Ny214.out] at ho20 | (simp only [Int.reduceToNat] at ho20; rw [← Ny214.out] at ho20)); have n0_ := Aside0.mk (Kd.R_lower ho20 (below_size (by repeat (first | (with_reducible first | exact HB.out | apply below_alloc | apply pw_below_drewN | apply below_drew1 | refine below_set ?_ GE213.out) | exact HB.out)))); have n1_ := Aside0.mk (blk_below (g := gb213) (o := .cells #[.int .i64 0, .string (⟨#[]⟩ : ByteArray)] 23 (0, 0)) (by (with_reducible repeat (first | refine blk_drewN ?_ _ | refine blk_drew ?_ | refine blk_alloc ?_ _)); exact BK213.out) hb); have n2_ := Aside0.mk (below_step (by repeat (first | (with_reducible first | exact HB.out | apply below_alloc | apply pw_below_drewN | apply below_drew1 | refine below_set ?_ GE213.out) | exact HB.out)) hb); clear BK213; clear HB; have HO216 := n0_; have BK213 := n1_; have HB := n2_; clear n0_ n1_ n2_; clear hb ho20; obtain ⟨Ao21, co21, eo21⟩ := Kd.R_slice HO216.out; subst eo21) | ((with_reducible refine gate_callee (f := 34) rfl ?_); refine goesL_ (some 9) rfl rfl Tryd.func34 (by kernel_rfl) rfl #[.slice A0 l0.length c0, .slice Ao21 y214.length co21] rfl (by (try simp only [List.map_toArray, List.map_cons, List.map_nil]); first | done | rfl | (simp only [List.length_drop, List.length_take]; rfl)) ?_; (with_reducible refine (impl_placesFault.calls _ _ l0 _ _ y214 t217 _ ?side1 ?side2 ?side3 ?side4 A3.out).mono ?_); (case side1 => repeat (first | exact (Kd.C_below HR0.out HB.out) | (with_reducible refine Kd.C_alloc ?_ _) | (with_reducible refine Kd.C_drewN ?_ _) | (with_reducible refine Kd.C_drew ?_))); (case side2 => exact HC0.out); (case side3 => repeat (first | exact (Kd.R_reads' HO216.out).2.2 | (with_reducible refine Kd.C_alloc ?_ _) | (with_reducible refine Kd.C_drewN ?_ _) | (with_reducible refine Kd.C_drew ?_))); (case side4 => exact (Kd.R_reads' HO216.out).2.1); rintro e w22 ⟨rfl, hb⟩; refine ⟨_, rfl, ?_⟩; have n0_ := Aside0.mk (Kd.R_below (by (with_reducible repeat (first | apply Kd.R_alloc | apply Kd.R_drewN | apply Kd.R_drew)); exact HO216.out) hb); have n1_ := Aside0.mk (blk_below (g := gb213) (o := .cells #[.int .i64 0, .string (⟨#[]⟩ : ByteArray)] 23 (0, 0)) (by (with_reducible repeat (first | refine blk_drewN ?_ _ | refine blk_drew ?_ | refine blk_alloc ?_ _)); exact BK213.out) hb); have n2_ := Aside0.mk (below_step (by repeat (first | (with_reducible first | exact HB.out | apply below_alloc | apply pw_below_drewN | apply below_drew1 | refine below_set ?_ GE213.out) | exact HB.out)) hb); clear HO216; clear BK213; clear HB; have HO216 := n0_; have BK213 := n1_; have HB := n2_; clear n0_ n1_ n2_; (try clear hb); (try clear hb2); (try clear hk); (try clear hi)) | ((with_reducible refine gate_callee (f := 35) rfl ?_); refine goesL_ (some 15) rfl rfl Tryd.func35 (by kernel_rfl) rfl #[.slice A0 l0.length c0] rfl (by (try simp only [List.map_toArray, List.map_cons, List.map_nil]); first | done | rfl | (simp only [List.length_drop, List.length_take]; rfl)) ?_; (with_reducible refine (impl_sizes.calls k _ _ l0 t218 _ ?side1 ?side2 A5.out).mono ?_); (case side1 => repeat (first | exact (Kd.C_below HR0.out HB.out) | (with_reducible refine Kd.C_alloc ?_ _) | (with_reducible refine Kd.C_drewN ?_ _) | (with_reducible refine Kd.C_drew ?_))); (case side2 => exact HC0.out); rintro e w23 ⟨v219, rfl, ho0, hb⟩; refine ⟨_, rfl, ?_⟩; have n0_ := Aside0.mk (Kd.R_elder' (by (with_reducible repeat (first | apply Kd.R_alloc | apply Kd.R_drewN | apply Kd.R_drew)); exact HO216.out) (Kd.R_base ho0) hb); have n1_ := Aside0.mk (Kd.R_lower (Kd.R_new' ho0 (Kd.R_lt (by (with_reducible repeat (first | apply Kd.R_alloc | apply Kd.R_drewN | apply Kd.R_drew)); exact HO216.out))) (below_size (by repeat (first | (with_reducible first | exact HB.out | apply below_alloc | apply pw_below_drewN | apply below_drew1 | refine below_set ?_ GE213.out) | exact HB.out)))); have n2_ := Aside0.mk (blk_below (g := gb213) (o := .cells #[.int .i64 0, .string (⟨#[]⟩ : ByteArray)] 23 (0, 0)) (by (with_reducible repeat (first | refine blk_drewN ?_ _ | refine blk_drew ?_ | refine blk_alloc ?_ _)); exact BK213.out) hb); have n3_ := Aside0.mk (below_step (by repeat (first | (with_reducible first | exact HB.out | apply below_alloc | apply pw_below_drewN | apply below_drew1 | refine below_set ?_ GE213.out) | exact HB.out)) hb); clear HO216; clear BK213; clear HB; have HO216 := n0_; have HO220 := n1_; have BK213 := n2_; have HB := n3_; clear n0_ n1_ n2_ n3_; (try clear hb); (try clear hb2); (try clear hk); (try clear hi); (try clear ho0); obtain ⟨Ao24, co24, eo24⟩ := Kd.R_slice HO220.out; subst eo24; have p221 : 0 ≤ (a1 : Int) := of_decide_eq_true (by first | (with_reducible assumption) | assumption); have q221 : a1 < (t218.length : Int) := of_decide_eq_true (by first | (with_reducible assumption) | assumption); obtain ⟨ad221, e221, hx221_0⟩ := Kd.at_int (Kd.R_reads' HO220.out).2.2 a1 p221 q221; cases e221; replace p221 := eq_true p221; replace q221 := eq_true q221) | ((with_reducible refine gate_callee (f := 36) rfl ?_); refine goesL_ (some 23) rfl rfl Tryd.func36 (by kernel_rfl) rfl #[.slice A0 l0.length c0, .int .i64 a1] rfl (by (try simp only [List.map_toArray, List.map_cons, List.map_nil]); first | done | rfl | (simp only [List.length_drop, List.length_take]; rfl)) ?_; (with_reducible refine (impl_termText.calls k _ _ l0 a1 t222 _ ?side1 ?side2 A17.out).mono ?_); (case side1 => repeat (first | exact (Kd.C_below HR0.out HB.out) | (with_reducible refine Kd.C_alloc ?_ _) | (with_reducible refine Kd.C_drewN ?_ _) | (with_reducible refine Kd.C_drew ?_))); (case side2 => exact HC0.out); rintro e w25 ⟨rfl, hb⟩; refine ⟨_, rfl, ?_⟩; have n0_ := Aside0.mk (Kd.R_below (by (with_reducible repeat (first | apply Kd.R_alloc | apply Kd.R_drewN | apply Kd.R_drew)); exact HO216.out) hb); have n1_ := Aside0.mk (Kd.R_below (by (with_reducible repeat (first | apply Kd.R_alloc | apply Kd.R_drewN | apply Kd.R_drew)); exact HO220.out) hb); have n2_ := Aside0.mk (blk_below (g := gb213) (o := .cells #[.int .i64 0, .string (⟨#[]⟩ : ByteArray)] 23 (0, 0)) (by (with_reducible repeat (first | refine blk_drewN ?_ _ | refine blk_drew ?_ | refine blk_alloc ?_ _)); exact BK213.out) hb); have n3_ := Aside0.mk (below_step (by repeat (first | (with_reducible first | exact HB.out | apply below_alloc | apply pw_below_drewN | apply below_drew1 | refine below_set ?_ GE213.out) | exact HB.out)) hb); clear HO216; clear HO220; clear BK213; clear HB; have HO216 := n0_; have HO220 := n1_; have BK213 := n2_; have HB := n3_; clear n0_ n1_ n2_ n3_; (try clear hb); (try clear hb2); (try clear hk); (try clear hi); have hcz26_0 : w25.cell? ⟨gb213, 0, none⟩ = some (.int .i64 0) := (blk_cell BK213.out 0).trans rfl; have hcz26_1 : w25.cell? ⟨gb213, 1, none⟩ = some (.string (⟨#[]⟩ : ByteArray)) := (blk_cell BK213.out 1).trans rfl; have hfz26_0 := blk_frozen BK213.out 0; have hfz26_1 := blk_frozen BK213.out 1))
     refine bodyPost_ret (results_cell_row rfl _ _ gb213 23 #[.int .i64 0, .string t222] (0, 0) _ rfl (by (with_reducible repeat (first | refine blk_drewN ?_ _ | refine blk_drew ?_ | refine blk_alloc ?_ _)); refine blk_put (cs := #[.int .i64 0, .string (⟨#[]⟩ : ByteArray)]) ?_ 1 _ rfl; (with_reducible repeat (first | refine blk_drewN ?_ _ | refine blk_drew ?_ | refine blk_alloc ?_ _)); refine blk_put (cs := #[.int .i64 0, .string (⟨#[]⟩ : ByteArray)]) ?_ 0 _ rfl; (with_reducible repeat (first | refine blk_drewN ?_ _ | refine blk_drew ?_ | refine blk_alloc ?_ _)); exact BK213.out) Tryd.underlying23 rfl (by kernel_rfl)) rfl ?_
     exact ⟨by first | rfl | (simp [errW_none, errW_some] <;> rfl) | (simp [*, errW_none, errW_some] <;> rfl), by repeat (first | (with_reducible first | exact HB.out | apply below_alloc | apply pw_below_drewN | apply below_drew1 | refine below_set ?_ GE213.out) | exact HB.out)⟩
   ·
    rw [if_neg c7] at H
    exact absurd H (by simp)
  ·
   rw [if_neg c6] at H
   exact absurd H (by simp)
 ·
  rw [if_neg c4] at H
  have c4b0 : (t217 == 0) = false := beq_eq_false_iff_ne.mpr c4
  have c4b1 : (t217 != 0) = true := bne_iff_ne.mpr c4
  simp only [Option.some.injEq, Prod.mk.injEq] at H
  obtain ⟨rfl, rfl⟩ := H
  go_enter Tryd.func17, Tryd.ntmps17
  go_wp2_with (first | ((with_reducible refine gate_dst (N := 4) rfl ?_); refine box_event ?hg (N := 4) ?hd (cs := #[.int .i64 0, .string (⟨#[]⟩ : ByteArray)]) (t := 23) ?hr ?_; (case hd => rfl); (case hg => rfl); (case hr => first | (go_simp; done) | (go_simp; rfl)); intro gb213 hg w27 hbox hb; have n0_ := Aside0.mk (below_step (by repeat (first | (with_reducible first | exact HB.out | apply below_alloc | apply pw_below_drewN | apply below_drew1) | exact HB.out)) hb); have n1_ := Aside0.mk (hbox); have n2_ := Aside0.mk ((by rw [hg]; exact (below_size (by repeat (first | (with_reducible first | exact HB.out | apply below_alloc | apply pw_below_drewN | apply below_drew1) | exact HB.out))) : w.heap.size ≤ gb213)); have n3_ := Aside0.mk ((by rw [hg]; exact (below_size (by repeat (first | (with_reducible first | exact HB.out | apply below_alloc | apply pw_below_drewN | apply below_drew1) | exact HB.out))) : w.heap.size ≤ gb213)); clear HB; have HB := n0_; have BK213 := n1_; have GW213 := n2_; have GE213 := n3_; clear n0_ n1_ n2_ n3_; clear hb hbox hg) | ((with_reducible refine gate_dst (N := 8) rfl ?_); refine Kd.R_lit (Kd.int .i64) _ 2 ?hg (N := 8) ?hd (xs := ([a1] : List Int)) (inner := [.int .i64 a1]) (ok := fun _ => True) (okp := fun _ => True) ?hr ?hp (fun _ hk => hk) trivial (Below.refl _ _) (Nat.le_refl _) (by simp) ?_; (case hd => rfl); (case hg => rfl); (case hr => first | (go_simp; done) | (go_simp; rfl)); (case hp => exact (Reps.one (show Kd.M (Kd.int .i64) _ _ _ a1 [.int .i64 a1] from rfl) (Reps.none _ _))); intro v215 w28 ho29 hb hg_ hnew_; clear hg_ hnew_; (first | rw [← Ny214.out] at ho29 | (simp only [Int.reduceToNat] at ho29; rw [← Ny214.out] at ho29)); have n0_ := Aside0.mk (Kd.R_lower ho29 (below_size (by repeat (first | (with_reducible first | exact HB.out | apply below_alloc | apply pw_below_drewN | apply below_drew1 | refine below_set ?_ GE213.out) | exact HB.out)))); have n1_ := Aside0.mk (blk_below (g := gb213) (o := .cells #[.int .i64 0, .string (⟨#[]⟩ : ByteArray)] 23 (0, 0)) (by (with_reducible repeat (first | refine blk_drewN ?_ _ | refine blk_drew ?_ | refine blk_alloc ?_ _)); exact BK213.out) hb); have n2_ := Aside0.mk (below_step (by repeat (first | (with_reducible first | exact HB.out | apply below_alloc | apply pw_below_drewN | apply below_drew1 | refine below_set ?_ GE213.out) | exact HB.out)) hb); clear BK213; clear HB; have HO216 := n0_; have BK213 := n1_; have HB := n2_; clear n0_ n1_ n2_; clear hb ho29; obtain ⟨Ao30, co30, eo30⟩ := Kd.R_slice HO216.out; subst eo30) | ((with_reducible refine gate_callee (f := 34) rfl ?_); refine goesL_ (some 9) rfl rfl Tryd.func34 (by kernel_rfl) rfl #[.slice A0 l0.length c0, .slice Ao30 y214.length co30] rfl (by (try simp only [List.map_toArray, List.map_cons, List.map_nil]); first | done | rfl | (simp only [List.length_drop, List.length_take]; rfl)) ?_; (with_reducible refine (impl_placesFault.calls _ _ l0 _ _ y214 t217 _ ?side1 ?side2 ?side3 ?side4 A3.out).mono ?_); (case side1 => repeat (first | exact (Kd.C_below HR0.out HB.out) | (with_reducible refine Kd.C_alloc ?_ _) | (with_reducible refine Kd.C_drewN ?_ _) | (with_reducible refine Kd.C_drew ?_))); (case side2 => exact HC0.out); (case side3 => repeat (first | exact (Kd.R_reads' HO216.out).2.2 | (with_reducible refine Kd.C_alloc ?_ _) | (with_reducible refine Kd.C_drewN ?_ _) | (with_reducible refine Kd.C_drew ?_))); (case side4 => exact (Kd.R_reads' HO216.out).2.1); rintro e w31 ⟨rfl, hb⟩; refine ⟨_, rfl, ?_⟩; have n0_ := Aside0.mk (Kd.R_below (by (with_reducible repeat (first | apply Kd.R_alloc | apply Kd.R_drewN | apply Kd.R_drew)); exact HO216.out) hb); have n1_ := Aside0.mk (blk_below (g := gb213) (o := .cells #[.int .i64 0, .string (⟨#[]⟩ : ByteArray)] 23 (0, 0)) (by (with_reducible repeat (first | refine blk_drewN ?_ _ | refine blk_drew ?_ | refine blk_alloc ?_ _)); exact BK213.out) hb); have n2_ := Aside0.mk (below_step (by repeat (first | (with_reducible first | exact HB.out | apply below_alloc | apply pw_below_drewN | apply below_drew1 | refine below_set ?_ GE213.out) | exact HB.out)) hb); clear HO216; clear BK213; clear HB; have HO216 := n0_; have BK213 := n1_; have HB := n2_; clear n0_ n1_ n2_; (try clear hb); (try clear hb2); (try clear hk); (try clear hi); have hcz32_0 : w31.cell? ⟨gb213, 0, none⟩ = some (.int .i64 0) := (blk_cell BK213.out 0).trans rfl; have hcz32_1 : w31.cell? ⟨gb213, 1, none⟩ = some (.string (⟨#[]⟩ : ByteArray)) := (blk_cell BK213.out 1).trans rfl; have hfz32_0 := blk_frozen BK213.out 0; have hfz32_1 := blk_frozen BK213.out 1))
  refine bodyPost_ret (results_cell_row rfl _ _ gb213 23 #[.int .i64 t217, .string (⟨#[]⟩ : ByteArray)] (0, 0) _ rfl (by (with_reducible repeat (first | refine blk_drewN ?_ _ | refine blk_drew ?_ | refine blk_alloc ?_ _)); refine blk_put (cs := #[.int .i64 t217, .string (⟨#[]⟩ : ByteArray)]) ?_ 1 _ rfl; (with_reducible repeat (first | refine blk_drewN ?_ _ | refine blk_drew ?_ | refine blk_alloc ?_ _)); refine blk_put (cs := #[.int .i64 0, .string (⟨#[]⟩ : ByteArray)]) ?_ 0 _ rfl; (with_reducible repeat (first | refine blk_drewN ?_ _ | refine blk_drew ?_ | refine blk_alloc ?_ _)); exact BK213.out) Tryd.underlying23 rfl (by kernel_rfl)) rfl ?_
  exact ⟨by first | rfl | (simp [errW_none, errW_some] <;> rfl) | (simp [*, errW_none, errW_some] <;> rfl), by repeat (first | (with_reducible first | exact HB.out | apply below_alloc | apply pw_below_drewN | apply below_drew1 | refine below_set ?_ GE213.out) | exact HB.out)⟩

/-! ### laws_eqTerm: function 37 -/
def laws_eqTerm.f (a0_0 : Int) (a0_1 : Int) (a0_2 : Int) (a0_3 : Int) (a1_0 : Int) (a1_1 : Int) (a1_2 : Int) (a1_3 : Int) : Option (Bool) := if a0_0 = a1_0 then (if a0_1 = a1_1 then (if a0_2 = a1_2 then (if a0_3 = a1_3 then (some true) else (some false)) else (some false)) else (some false)) else (some false)
set_option maxHeartbeats 8000000 in
set_option maxRecDepth 100000 in
theorem laws_eqTerm.calls (a0_0 : Int) (a0_1 : Int) (a0_2 : Int) (a0_3 : Int) (a1_0 : Int) (a1_1 : Int) (a1_2 : Int) (a1_3 : Int) (r : Bool) (w : World) (h : laws_eqTerm.f a0_0 a0_1 a0_2 a0_3 a1_0 a1_1 a1_2 a1_3 = some r) :
  Calls Tryd.prog 37 #[.agg #[.int .i64 a0_0, .int .i64 a0_1, .int .i64 a0_2, .int .i64 a0_3], .agg #[.int .i64 a1_0, .int .i64 a1_1, .int .i64 a1_2, .int .i64 a1_3]] w fun e w' => e = .returned (.bool r) ∧ Below w.heap.size w w' := by
 have hu66 := Tryd.underlying66
 have HB := Aside0.mk (Below.refl w.heap.size w)
 have H : (if a0_0 = a1_0 then (if a0_1 = a1_1 then (if a0_2 = a1_2 then (if a0_3 = a1_3 then (some true) else (some false)) else (some false)) else (some false)) else (some false)) = some r := h
 clear h
 by_cases c3 : a0_0 = a1_0
 ·
  rw [if_pos c3] at H
  have c3b0 : (a0_0 == a1_0) = true := beq_iff_eq.mpr c3
  have c3b1 : (a0_0 != a1_0) = false := bne_eq_false_iff_eq.mpr c3
  clear c3
  by_cases c4 : a0_1 = a1_1
  ·
   rw [if_pos c4] at H
   have c4b0 : (a0_1 == a1_1) = true := beq_iff_eq.mpr c4
   have c4b1 : (a0_1 != a1_1) = false := bne_eq_false_iff_eq.mpr c4
   clear c4
   by_cases c5 : a0_2 = a1_2
   ·
    rw [if_pos c5] at H
    have c5b0 : (a0_2 == a1_2) = true := beq_iff_eq.mpr c5
    have c5b1 : (a0_2 != a1_2) = false := bne_eq_false_iff_eq.mpr c5
    clear c5
    by_cases c6 : a0_3 = a1_3
    ·
     rw [if_pos c6] at H
     have c6b0 : (a0_3 == a1_3) = true := beq_iff_eq.mpr c6
     have c6b1 : (a0_3 != a1_3) = false := bne_eq_false_iff_eq.mpr c6
     clear c6
     obtain rfl := Option.some.inj H
     go_enter Tryd.func37, Tryd.ntmps37
     go_wp2_with (first | ((with_reducible refine gate_dst (N := 2) rfl ?_); refine box_event ?hg (N := 2) ?hd (cs := #[.int .i64 a0_0, .int .i64 a0_1, .int .i64 a0_2, .int .i64 a0_3]) (t := 66) ?hr ?_; (case hd => rfl); (case hg => rfl); (case hr => first | (go_simp; done) | (go_simp; rfl)); intro gb223 hg w7 hbox hb; have n0_ := Aside0.mk (below_step (by repeat (first | (with_reducible first | exact HB.out | apply below_alloc | apply pw_below_drewN | apply below_drew1) | exact HB.out)) hb); have n1_ := Aside0.mk (hbox); have n2_ := Aside0.mk ((by rw [hg]; exact (below_size (by repeat (first | (with_reducible first | exact HB.out | apply below_alloc | apply pw_below_drewN | apply below_drew1) | exact HB.out))) : w.heap.size ≤ gb223)); have n3_ := Aside0.mk ((by rw [hg]; exact (below_size (by repeat (first | (with_reducible first | exact HB.out | apply below_alloc | apply pw_below_drewN | apply below_drew1) | exact HB.out))) : w.heap.size ≤ gb223)); clear HB; have HB := n0_; have BK223 := n1_; have GW223 := n2_; have GE223 := n3_; clear n0_ n1_ n2_ n3_; clear hb hbox hg) | ((with_reducible refine gate_dst (N := 3) rfl ?_); refine box_event ?hg (N := 3) ?hd (cs := #[.int .i64 a1_0, .int .i64 a1_1, .int .i64 a1_2, .int .i64 a1_3]) (t := 66) ?hr ?_; (case hd => rfl); (case hg => rfl); (case hr => first | (go_simp; done) | (go_simp; rfl)); intro gb224 hg w8 hbox hb; have n0_ := Aside0.mk (blk_below_u BK223.out hb); have n1_ := Aside0.mk (below_step (by repeat (first | (with_reducible first | exact HB.out | apply below_alloc | apply pw_below_drewN | apply below_drew1 | refine below_set ?_ GE223.out) | exact HB.out)) hb); have n2_ := Aside0.mk (hbox); have n3_ := Aside0.mk ((by rw [hg]; exact (below_size (by repeat (first | (with_reducible first | exact HB.out | apply below_alloc | apply pw_below_drewN | apply below_drew1 | refine below_set ?_ GE223.out) | exact HB.out))) : w.heap.size ≤ gb224)); have n4_ := Aside0.mk ((by rw [hg]; exact (below_size (by repeat (first | (with_reducible first | exact HB.out | apply below_alloc | apply pw_below_drewN | apply below_drew1 | refine below_set ?_ GE223.out) | exact HB.out))) : w.heap.size ≤ gb224)); have n5_ := Aside0.mk ((by rw [hg]; exact Nat.ne_of_lt (blk_lt_u BK223.out) : gb223 ≠ gb224)); have n6_ := Aside0.mk ((by rw [hg]; exact Nat.ne_of_gt (blk_lt_u BK223.out) : gb224 ≠ gb223)); clear BK223; clear HB; have BK223 := n0_; have HB := n1_; have BK224 := n2_; have GW224 := n3_; have GE224 := n4_; have NB223_224 := n5_; have NB224_223 := n6_; clear n0_ n1_ n2_ n3_ n4_ n5_ n6_; clear hb hbox hg; have hnb9 := NB223_224.out; have hnc9 := NB224_223.out; obtain ⟨hcz10_0, hcz10_1, hcz10_2, hcz10_3⟩ := blk_c4 BK223.out; obtain ⟨hfz10_0, hfz10_1, hfz10_2, hfz10_3⟩ := blk_f4 BK223.out; obtain ⟨hcz11_0, hcz11_1, hcz11_2, hcz11_3⟩ := blk_c4 BK224.out; obtain ⟨hfz11_0, hfz11_1, hfz11_2, hfz11_3⟩ := blk_f4 BK224.out))
     go_ret
     exact ⟨by first | rfl | (simp [errW_none, errW_some] <;> rfl) | (simp [*, errW_none, errW_some] <;> rfl), by repeat (first | (with_reducible first | exact HB.out | apply below_alloc | apply pw_below_drewN | apply below_drew1 | refine below_set ?_ GE223.out | refine below_set ?_ GE224.out) | exact HB.out)⟩
    ·
     rw [if_neg c6] at H
     have c6b0 : (a0_3 == a1_3) = false := beq_eq_false_iff_ne.mpr c6
     have c6b1 : (a0_3 != a1_3) = true := bne_iff_ne.mpr c6
     obtain rfl := Option.some.inj H
     go_enter Tryd.func37, Tryd.ntmps37
     go_wp2_with (first | ((with_reducible refine gate_dst (N := 2) rfl ?_); refine box_event ?hg (N := 2) ?hd (cs := #[.int .i64 a0_0, .int .i64 a0_1, .int .i64 a0_2, .int .i64 a0_3]) (t := 66) ?hr ?_; (case hd => rfl); (case hg => rfl); (case hr => first | (go_simp; done) | (go_simp; rfl)); intro gb223 hg w12 hbox hb; have n0_ := Aside0.mk (below_step (by repeat (first | (with_reducible first | exact HB.out | apply below_alloc | apply pw_below_drewN | apply below_drew1) | exact HB.out)) hb); have n1_ := Aside0.mk (hbox); have n2_ := Aside0.mk ((by rw [hg]; exact (below_size (by repeat (first | (with_reducible first | exact HB.out | apply below_alloc | apply pw_below_drewN | apply below_drew1) | exact HB.out))) : w.heap.size ≤ gb223)); have n3_ := Aside0.mk ((by rw [hg]; exact (below_size (by repeat (first | (with_reducible first | exact HB.out | apply below_alloc | apply pw_below_drewN | apply below_drew1) | exact HB.out))) : w.heap.size ≤ gb223)); clear HB; have HB := n0_; have BK223 := n1_; have GW223 := n2_; have GE223 := n3_; clear n0_ n1_ n2_ n3_; clear hb hbox hg) | ((with_reducible refine gate_dst (N := 3) rfl ?_); refine box_event ?hg (N := 3) ?hd (cs := #[.int .i64 a1_0, .int .i64 a1_1, .int .i64 a1_2, .int .i64 a1_3]) (t := 66) ?hr ?_; (case hd => rfl); (case hg => rfl); (case hr => first | (go_simp; done) | (go_simp; rfl)); intro gb224 hg w13 hbox hb; have n0_ := Aside0.mk (blk_below_u BK223.out hb); have n1_ := Aside0.mk (below_step (by repeat (first | (with_reducible first | exact HB.out | apply below_alloc | apply pw_below_drewN | apply below_drew1 | refine below_set ?_ GE223.out) | exact HB.out)) hb); have n2_ := Aside0.mk (hbox); have n3_ := Aside0.mk ((by rw [hg]; exact (below_size (by repeat (first | (with_reducible first | exact HB.out | apply below_alloc | apply pw_below_drewN | apply below_drew1 | refine below_set ?_ GE223.out) | exact HB.out))) : w.heap.size ≤ gb224)); have n4_ := Aside0.mk ((by rw [hg]; exact (below_size (by repeat (first | (with_reducible first | exact HB.out | apply below_alloc | apply pw_below_drewN | apply below_drew1 | refine below_set ?_ GE223.out) | exact HB.out))) : w.heap.size ≤ gb224)); have n5_ := Aside0.mk ((by rw [hg]; exact Nat.ne_of_lt (blk_lt_u BK223.out) : gb223 ≠ gb224)); have n6_ := Aside0.mk ((by rw [hg]; exact Nat.ne_of_gt (blk_lt_u BK223.out) : gb224 ≠ gb223)); clear BK223; clear HB; have BK223 := n0_; have HB := n1_; have BK224 := n2_; have GW224 := n3_; have GE224 := n4_; have NB223_224 := n5_; have NB224_223 := n6_; clear n0_ n1_ n2_ n3_ n4_ n5_ n6_; clear hb hbox hg; have hnb14 := NB223_224.out; have hnc14 := NB224_223.out; obtain ⟨hcz15_0, hcz15_1, hcz15_2, hcz15_3⟩ := blk_c4 BK223.out; obtain ⟨hfz15_0, hfz15_1, hfz15_2, hfz15_3⟩ := blk_f4 BK223.out; obtain ⟨hcz16_0, hcz16_1, hcz16_2, hcz16_3⟩ := blk_c4 BK224.out; obtain ⟨hfz16_0, hfz16_1, hfz16_2, hfz16_3⟩ := blk_f4 BK224.out))
     go_ret
     exact ⟨by first | rfl | (simp [errW_none, errW_some] <;> rfl) | (simp [*, errW_none, errW_some] <;> rfl), by repeat (first | (with_reducible first | exact HB.out | apply below_alloc | apply pw_below_drewN | apply below_drew1 | refine below_set ?_ GE223.out | refine below_set ?_ GE224.out) | exact HB.out)⟩
   ·
    rw [if_neg c5] at H
    have c5b0 : (a0_2 == a1_2) = false := beq_eq_false_iff_ne.mpr c5
    have c5b1 : (a0_2 != a1_2) = true := bne_iff_ne.mpr c5
    obtain rfl := Option.some.inj H
    go_enter Tryd.func37, Tryd.ntmps37
    go_wp2_with (first | ((with_reducible refine gate_dst (N := 2) rfl ?_); refine box_event ?hg (N := 2) ?hd (cs := #[.int .i64 a0_0, .int .i64 a0_1, .int .i64 a0_2, .int .i64 a0_3]) (t := 66) ?hr ?_; (case hd => rfl); (case hg => rfl); (case hr => first | (go_simp; done) | (go_simp; rfl)); intro gb223 hg w17 hbox hb; have n0_ := Aside0.mk (below_step (by repeat (first | (with_reducible first | exact HB.out | apply below_alloc | apply pw_below_drewN | apply below_drew1) | exact HB.out)) hb); have n1_ := Aside0.mk (hbox); have n2_ := Aside0.mk ((by rw [hg]; exact (below_size (by repeat (first | (with_reducible first | exact HB.out | apply below_alloc | apply pw_below_drewN | apply below_drew1) | exact HB.out))) : w.heap.size ≤ gb223)); have n3_ := Aside0.mk ((by rw [hg]; exact (below_size (by repeat (first | (with_reducible first | exact HB.out | apply below_alloc | apply pw_below_drewN | apply below_drew1) | exact HB.out))) : w.heap.size ≤ gb223)); clear HB; have HB := n0_; have BK223 := n1_; have GW223 := n2_; have GE223 := n3_; clear n0_ n1_ n2_ n3_; clear hb hbox hg) | ((with_reducible refine gate_dst (N := 3) rfl ?_); refine box_event ?hg (N := 3) ?hd (cs := #[.int .i64 a1_0, .int .i64 a1_1, .int .i64 a1_2, .int .i64 a1_3]) (t := 66) ?hr ?_; (case hd => rfl); (case hg => rfl); (case hr => first | (go_simp; done) | (go_simp; rfl)); intro gb224 hg w18 hbox hb; have n0_ := Aside0.mk (blk_below_u BK223.out hb); have n1_ := Aside0.mk (below_step (by repeat (first | (with_reducible first | exact HB.out | apply below_alloc | apply pw_below_drewN | apply below_drew1 | refine below_set ?_ GE223.out) | exact HB.out)) hb); have n2_ := Aside0.mk (hbox); have n3_ := Aside0.mk ((by rw [hg]; exact (below_size (by repeat (first | (with_reducible first | exact HB.out | apply below_alloc | apply pw_below_drewN | apply below_drew1 | refine below_set ?_ GE223.out) | exact HB.out))) : w.heap.size ≤ gb224)); have n4_ := Aside0.mk ((by rw [hg]; exact (below_size (by repeat (first | (with_reducible first | exact HB.out | apply below_alloc | apply pw_below_drewN | apply below_drew1 | refine below_set ?_ GE223.out) | exact HB.out))) : w.heap.size ≤ gb224)); have n5_ := Aside0.mk ((by rw [hg]; exact Nat.ne_of_lt (blk_lt_u BK223.out) : gb223 ≠ gb224)); have n6_ := Aside0.mk ((by rw [hg]; exact Nat.ne_of_gt (blk_lt_u BK223.out) : gb224 ≠ gb223)); clear BK223; clear HB; have BK223 := n0_; have HB := n1_; have BK224 := n2_; have GW224 := n3_; have GE224 := n4_; have NB223_224 := n5_; have NB224_223 := n6_; clear n0_ n1_ n2_ n3_ n4_ n5_ n6_; clear hb hbox hg; have hnb19 := NB223_224.out; have hnc19 := NB224_223.out; obtain ⟨hcz20_0, hcz20_1, hcz20_2, hcz20_3⟩ := blk_c4 BK223.out; obtain ⟨hfz20_0, hfz20_1, hfz20_2, hfz20_3⟩ := blk_f4 BK223.out; obtain ⟨hcz21_0, hcz21_1, hcz21_2, hcz21_3⟩ := blk_c4 BK224.out; obtain ⟨hfz21_0, hfz21_1, hfz21_2, hfz21_3⟩ := blk_f4 BK224.out))
    go_ret
    exact ⟨by first | rfl | (simp [errW_none, errW_some] <;> rfl) | (simp [*, errW_none, errW_some] <;> rfl), by repeat (first | (with_reducible first | exact HB.out | apply below_alloc | apply pw_below_drewN | apply below_drew1 | refine below_set ?_ GE223.out | refine below_set ?_ GE224.out) | exact HB.out)⟩
  ·
   rw [if_neg c4] at H
   have c4b0 : (a0_1 == a1_1) = false := beq_eq_false_iff_ne.mpr c4
   have c4b1 : (a0_1 != a1_1) = true := bne_iff_ne.mpr c4
   obtain rfl := Option.some.inj H
   go_enter Tryd.func37, Tryd.ntmps37
   go_wp2_with (first | ((with_reducible refine gate_dst (N := 2) rfl ?_); refine box_event ?hg (N := 2) ?hd (cs := #[.int .i64 a0_0, .int .i64 a0_1, .int .i64 a0_2, .int .i64 a0_3]) (t := 66) ?hr ?_; (case hd => rfl); (case hg => rfl); (case hr => first | (go_simp; done) | (go_simp; rfl)); intro gb223 hg w22 hbox hb; have n0_ := Aside0.mk (below_step (by repeat (first | (with_reducible first | exact HB.out | apply below_alloc | apply pw_below_drewN | apply below_drew1) | exact HB.out)) hb); have n1_ := Aside0.mk (hbox); have n2_ := Aside0.mk ((by rw [hg]; exact (below_size (by repeat (first | (with_reducible first | exact HB.out | apply below_alloc | apply pw_below_drewN | apply below_drew1) | exact HB.out))) : w.heap.size ≤ gb223)); have n3_ := Aside0.mk ((by rw [hg]; exact (below_size (by repeat (first | (with_reducible first | exact HB.out | apply below_alloc | apply pw_below_drewN | apply below_drew1) | exact HB.out))) : w.heap.size ≤ gb223)); clear HB; have HB := n0_; have BK223 := n1_; have GW223 := n2_; have GE223 := n3_; clear n0_ n1_ n2_ n3_; clear hb hbox hg) | ((with_reducible refine gate_dst (N := 3) rfl ?_); refine box_event ?hg (N := 3) ?hd (cs := #[.int .i64 a1_0, .int .i64 a1_1, .int .i64 a1_2, .int .i64 a1_3]) (t := 66) ?hr ?_; (case hd => rfl); (case hg => rfl); (case hr => first | (go_simp; done) | (go_simp; rfl)); intro gb224 hg w23 hbox hb; have n0_ := Aside0.mk (blk_below_u BK223.out hb); have n1_ := Aside0.mk (below_step (by repeat (first | (with_reducible first | exact HB.out | apply below_alloc | apply pw_below_drewN | apply below_drew1 | refine below_set ?_ GE223.out) | exact HB.out)) hb); have n2_ := Aside0.mk (hbox); have n3_ := Aside0.mk ((by rw [hg]; exact (below_size (by repeat (first | (with_reducible first | exact HB.out | apply below_alloc | apply pw_below_drewN | apply below_drew1 | refine below_set ?_ GE223.out) | exact HB.out))) : w.heap.size ≤ gb224)); have n4_ := Aside0.mk ((by rw [hg]; exact (below_size (by repeat (first | (with_reducible first | exact HB.out | apply below_alloc | apply pw_below_drewN | apply below_drew1 | refine below_set ?_ GE223.out) | exact HB.out))) : w.heap.size ≤ gb224)); have n5_ := Aside0.mk ((by rw [hg]; exact Nat.ne_of_lt (blk_lt_u BK223.out) : gb223 ≠ gb224)); have n6_ := Aside0.mk ((by rw [hg]; exact Nat.ne_of_gt (blk_lt_u BK223.out) : gb224 ≠ gb223)); clear BK223; clear HB; have BK223 := n0_; have HB := n1_; have BK224 := n2_; have GW224 := n3_; have GE224 := n4_; have NB223_224 := n5_; have NB224_223 := n6_; clear n0_ n1_ n2_ n3_ n4_ n5_ n6_; clear hb hbox hg; have hnb24 := NB223_224.out; have hnc24 := NB224_223.out; obtain ⟨hcz25_0, hcz25_1, hcz25_2, hcz25_3⟩ := blk_c4 BK223.out; obtain ⟨hfz25_0, hfz25_1, hfz25_2, hfz25_3⟩ := blk_f4 BK223.out; obtain ⟨hcz26_0, hcz26_1, hcz26_2, hcz26_3⟩ := blk_c4 BK224.out; obtain ⟨hfz26_0, hfz26_1, hfz26_2, hfz26_3⟩ := blk_f4 BK224.out))
   go_ret
   exact ⟨by first | rfl | (simp [errW_none, errW_some] <;> rfl) | (simp [*, errW_none, errW_some] <;> rfl), by repeat (first | (with_reducible first | exact HB.out | apply below_alloc | apply pw_below_drewN | apply below_drew1 | refine below_set ?_ GE223.out | refine below_set ?_ GE224.out) | exact HB.out)⟩
 ·
  rw [if_neg c3] at H
  have c3b0 : (a0_0 == a1_0) = false := beq_eq_false_iff_ne.mpr c3
  have c3b1 : (a0_0 != a1_0) = true := bne_iff_ne.mpr c3
  obtain rfl := Option.some.inj H
  go_enter Tryd.func37, Tryd.ntmps37
  go_wp2_with (first | ((with_reducible refine gate_dst (N := 2) rfl ?_); refine box_event ?hg (N := 2) ?hd (cs := #[.int .i64 a0_0, .int .i64 a0_1, .int .i64 a0_2, .int .i64 a0_3]) (t := 66) ?hr ?_; (case hd => rfl); (case hg => rfl); (case hr => first | (go_simp; done) | (go_simp; rfl)); intro gb223 hg w27 hbox hb; have n0_ := Aside0.mk (below_step (by repeat (first | (with_reducible first | exact HB.out | apply below_alloc | apply pw_below_drewN | apply below_drew1) | exact HB.out)) hb); have n1_ := Aside0.mk (hbox); have n2_ := Aside0.mk ((by rw [hg]; exact (below_size (by repeat (first | (with_reducible first | exact HB.out | apply below_alloc | apply pw_below_drewN | apply below_drew1) | exact HB.out))) : w.heap.size ≤ gb223)); have n3_ := Aside0.mk ((by rw [hg]; exact (below_size (by repeat (first | (with_reducible first | exact HB.out | apply below_alloc | apply pw_below_drewN | apply below_drew1) | exact HB.out))) : w.heap.size ≤ gb223)); clear HB; have HB := n0_; have BK223 := n1_; have GW223 := n2_; have GE223 := n3_; clear n0_ n1_ n2_ n3_; clear hb hbox hg) | ((with_reducible refine gate_dst (N := 3) rfl ?_); refine box_event ?hg (N := 3) ?hd (cs := #[.int .i64 a1_0, .int .i64 a1_1, .int .i64 a1_2, .int .i64 a1_3]) (t := 66) ?hr ?_; (case hd => rfl); (case hg => rfl); (case hr => first | (go_simp; done) | (go_simp; rfl)); intro gb224 hg w28 hbox hb; have n0_ := Aside0.mk (blk_below_u BK223.out hb); have n1_ := Aside0.mk (below_step (by repeat (first | (with_reducible first | exact HB.out | apply below_alloc | apply pw_below_drewN | apply below_drew1 | refine below_set ?_ GE223.out) | exact HB.out)) hb); have n2_ := Aside0.mk (hbox); have n3_ := Aside0.mk ((by rw [hg]; exact (below_size (by repeat (first | (with_reducible first | exact HB.out | apply below_alloc | apply pw_below_drewN | apply below_drew1 | refine below_set ?_ GE223.out) | exact HB.out))) : w.heap.size ≤ gb224)); have n4_ := Aside0.mk ((by rw [hg]; exact (below_size (by repeat (first | (with_reducible first | exact HB.out | apply below_alloc | apply pw_below_drewN | apply below_drew1 | refine below_set ?_ GE223.out) | exact HB.out))) : w.heap.size ≤ gb224)); have n5_ := Aside0.mk ((by rw [hg]; exact Nat.ne_of_lt (blk_lt_u BK223.out) : gb223 ≠ gb224)); have n6_ := Aside0.mk ((by rw [hg]; exact Nat.ne_of_gt (blk_lt_u BK223.out) : gb224 ≠ gb223)); clear BK223; clear HB; have BK223 := n0_; have HB := n1_; have BK224 := n2_; have GW224 := n3_; have GE224 := n4_; have NB223_224 := n5_; have NB224_223 := n6_; clear n0_ n1_ n2_ n3_ n4_ n5_ n6_; clear hb hbox hg; have hnb29 := NB223_224.out; have hnc29 := NB224_223.out; obtain ⟨hcz30_0, hcz30_1, hcz30_2, hcz30_3⟩ := blk_c4 BK223.out; obtain ⟨hfz30_0, hfz30_1, hfz30_2, hfz30_3⟩ := blk_f4 BK223.out; obtain ⟨hcz31_0, hcz31_1, hcz31_2, hcz31_3⟩ := blk_c4 BK224.out; obtain ⟨hfz31_0, hfz31_1, hfz31_2, hfz31_3⟩ := blk_f4 BK224.out))
  go_ret
  exact ⟨by first | rfl | (simp [errW_none, errW_some] <;> rfl) | (simp [*, errW_none, errW_some] <;> rfl), by repeat (first | (with_reducible first | exact HB.out | apply below_alloc | apply pw_below_drewN | apply below_drew1 | refine below_set ?_ GE223.out | refine below_set ?_ GE224.out) | exact HB.out)⟩

end Go.Proofs.YtbficbiignpnoaaDoor.PFnExactTermText
