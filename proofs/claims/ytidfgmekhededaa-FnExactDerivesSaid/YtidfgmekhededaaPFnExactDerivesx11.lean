-- Written by wip/tools/myprint.py of this claim's session, over the kit's print, round texts of its own: own text.
import Derived.Test.YtidfgmekhededaaPFnExactDerivesx0
import Derived.Test.YtidfgmekhededaaPFnExactDerivesx10
namespace Go.Proofs.Ytidfgmekhededaa.PFnExactDerives
open Go.RowKit Go.Proofs.YtidfgmekhededaaW.PrintWords Go.Proofs.YtidfgmekhededaaW.PrintLast Go.Proofs.YtidfgmekhededaaW.PrintMore
attribute [local go_sem] max2_int min2_int max_two min_two max_three min_three max_four min_four   -- for this text's walks alone
set_option linter.unusedVariables false
set_option linter.unusedSimpArgs false

/-! ### (my own text) objWords -/
-- blocks of a world that are known by what they hold: the call's own (from base's size on)
structure Objs (w0 W : World) (bs : List (Nat × Obj)) : Prop where
  low : Below w0.heap.size w0 W
  blk : ∀ x ∈ bs, W.heap[x.1]? = some x.2
  ge : ∀ x ∈ bs, w0.heap.size ≤ x.1
  ne : bs.Pairwise (fun x y => x.1 ≠ y.1)
theorem Objs.start {w0 W : World} (h : Below w0.heap.size w0 W) : Objs w0 W [] := ⟨h, by simp, by simp, List.Pairwise.nil⟩
theorem Objs.add {w0 W : World} {bs : List (Nat × Obj)} (h : Objs w0 W bs) {g : Nat} {o : Obj} (hb : W.heap[g]? = some o) (hg : w0.heap.size ≤ g) (hne : ∀ x ∈ bs, g ≠ x.1) : Objs w0 W ((g, o) :: bs) := by
  refine ⟨h.low, fun x hx => ?_, fun x hx => ?_, List.pairwise_cons.2 ⟨hne, h.ne⟩⟩
  · rcases List.mem_cons.1 hx with rfl | hx
    · exact hb
    · exact h.blk x hx
  · rcases List.mem_cons.1 hx with rfl | hx
    · exact hg
    · exact h.ge x hx
theorem Objs.drewN {w0 W : World} {bs : List (Nat × Obj)} (h : Objs w0 W bs) (n : Nat) : Objs w0 (W.drewN n) bs := ⟨pw_below_drewN h.low n, h.blk, h.ge, h.ne⟩
theorem Objs.drew {w0 W : World} {bs : List (Nat × Obj)} (h : Objs w0 W bs) : Objs w0 W.drew bs := ⟨below_drew1 h.low, h.blk, h.ge, h.ne⟩
theorem Objs.below {w0 W W1 : World} {bs : List (Nat × Obj)} (h : Objs w0 W bs) (hb : Below W.heap.size W W1) : Objs w0 W1 bs :=
  ⟨below_step h.low hb, fun x hx => blk_below (h.blk x hx) hb, h.ge, h.ne⟩
theorem Objs.alloc {w0 W : World} {bs : List (Nat × Obj)} (h : Objs w0 W bs) (o : Obj) : Objs w0 (W.alloc o) bs := h.below (below_alloc (Below.refl _ _) o)
theorem Objs.new {w0 W W1 : World} {bs : List (Nat × Obj)} (h : Objs w0 W bs) {g : Nat} {o : Obj} (hg : g = W.heap.size) (hbox : W1.heap[g]? = some o) (hb : Below W.heap.size W W1) : Objs w0 W1 ((g, o) :: bs) :=
  (h.below hb).add hbox (by rw [hg]; exact h.low.size) (fun x hx => by rw [hg]; exact Nat.ne_of_gt (blk_lt (h.blk x hx)))
theorem Objs.at_ {w0 W : World} {bs : List (Nat × Obj)} (h : Objs w0 W bs) {i g : Nat} {o : Obj} (hi : bs[i]? = some (g, o)) : W.heap[g]? = some o := h.blk (g, o) (List.mem_of_getElem? hi)
theorem Objs.ge_ {w0 W : World} {bs : List (Nat × Obj)} (h : Objs w0 W bs) {i g : Nat} {o : Obj} (hi : bs[i]? = some (g, o)) : w0.heap.size ≤ g := h.ge (g, o) (List.mem_of_getElem? hi)
theorem Objs.cell {w0 W : World} {bs : List (Nat × Obj)} (h : Objs w0 W bs) {i g : Nat} {cs : Array Value} {t : TypeId} (hi : bs[i]? = some (g, .cells cs t (0, 0))) {j : Nat} {v : Value} (hj : cs[j]? = some v) : W.cell? ⟨g, j, none⟩ = some v := (blk_cell (h.at_ hi) j).trans hj
theorem Objs.frozen {w0 W : World} {bs : List (Nat × Obj)} (h : Objs w0 W bs) {i g : Nat} {cs : Array Value} {t : TypeId} (hi : bs[i]? = some (g, .cells cs t (0, 0))) (j : Nat) : W.frozen? ⟨g, j, none⟩ = false := blk_frozen (h.at_ hi) j
theorem Objs.lt {w0 W : World} {bs : List (Nat × Obj)} (h : Objs w0 W bs) {i g : Nat} {o : Obj} (hi : bs[i]? = some (g, o)) : g < W.heap.size := blk_lt (h.at_ hi)
theorem Objs.mid {w0 W W1 : World} {b1 b2 : List (Nat × Obj)} {g : Nat} {o o1 : Obj} (h : Objs w0 W (b1 ++ (g, o) :: b2)) (hl : Below w0.heap.size w0 W1) (hg : W1.heap[g]? = some o1) (hk : ∀ i x, i ≠ g → W.heap[i]? = some x → W1.heap[i]? = some x) :
    Objs w0 W1 (b1 ++ (g, o1) :: b2) := by
  have hne : ∀ x, x ∈ b1 ∨ x ∈ b2 → x.1 ≠ g := by
    intro x hx
    have h1 := List.pairwise_append.1 h.ne
    rcases hx with hx | hx
    · exact h1.2.2 x hx (g, o) (by simp)
    · exact ((List.pairwise_cons.1 h1.2.1).1 x hx).symm
  refine ⟨hl, fun x hx => ?_, fun x hx => ?_, ?_⟩
  · rw [List.mem_append, List.mem_cons] at hx
    rcases hx with hx | rfl | hx
    · exact hk _ _ (hne x (.inl hx)) (h.blk x (by simp [hx]))
    · exact hg
    · exact hk _ _ (hne x (.inr hx)) (h.blk x (by simp [hx]))
  · rw [List.mem_append, List.mem_cons] at hx
    rcases hx with hx | rfl | hx
    · exact h.ge x (by simp [hx])
    · exact h.ge (g, o) (by simp)
    · exact h.ge x (by simp [hx])
  · have h1 := h.ne
    rw [List.pairwise_append, List.pairwise_cons] at h1 ⊢
    refine ⟨h1.1, ⟨h1.2.1.1, h1.2.1.2⟩, fun a ha b hb => ?_⟩
    rcases List.mem_cons.1 hb with rfl | hb
    · exact hne a (.inl ha)
    · exact h1.2.2 a ha b (by simp [hb])
theorem Objs.put {w0 W : World} {b1 b2 : List (Nat × Obj)} {g : Nat} {cs cs1 : Array Value} {t : TypeId} (h : Objs w0 W (b1 ++ (g, .cells cs t (0, 0)) :: b2)) (i : Nat) (u : Value) (e : cs.setIfInBounds i u = cs1) :
    Objs w0 (W.setCell ⟨g, i, none⟩ u) (b1 ++ (g, .cells cs1 t (0, 0)) :: b2) := by
  have hg : w0.heap.size ≤ g := h.ge (g, .cells cs t (0, 0)) (by simp)
  subst e
  exact h.mid (below_set h.low hg) (blk_set (h.blk (g, .cells cs t (0, 0)) (by simp)) i u) (fun k x hk hx => (Below.heap_setCell W ⟨g, i, none⟩ u k hk).trans hx)
theorem Objs.grown {w0 W W1 : World} {b1 b2 : List (Nat × Obj)} {g : Nat} {o o1 : Obj} (h : Objs w0 W (b1 ++ (g, o) :: b2)) (hg : W.grownBy W1 (some g)) (hb : W1.heap[g]? = some o1) : Objs w0 W1 (b1 ++ (g, o1) :: b2) :=
  h.mid (pw_below_grown h.low _ h.low.size hg (fun k hk => by cases hk; exact h.ge (g, o) (by simp))) hb (fun k x hk hx => (hg.block k (blk_lt hx) (fun e => hk (Option.some.inj e))).trans hx)
theorem objs_store {P : Program} {ops : Array Oper} {rest : List Oper} {o : Oper} {a : Act} {Q : Exit → Act → World → Prop} {w0 W W1 : World} {bs : List (Nat × Obj)} {t : TypeId} {p : Tmp} {v : Operand} (hgd : o.guard = none) (ho : o.op = .store t (.tmp p) v) (hN : o.dst = none)
    (hr : (execOp a.eval o).run P W = .ok .skip W1) (hB : Objs w0 W1 bs) (h : ∀ w', Objs w0 w' bs → wpList P ops Q rest a w') : wpList P ops Q (o :: rest) a W := by
  refine store_event hgd ho hN hr ?_
  rintro w' rfl
  exact h _ hB

/-! ### (my own text) rawWords -/
def rawB (xs : List Bool) (sp : List Value) : Array Value := (xs.map Value.bool ++ sp).toArray
theorem rawB_get (xs : List Bool) (sp : List Value) (i : Nat) (h : i < xs.length) : (rawB xs sp)[i]? = some (.bool (rdOf false xs (i : Int))) := by
  unfold rawB rdOf
  simp [List.getElem?_append_left, h, List.getD_eq_getElem?_getD]
theorem rawB_get' (xs : List Bool) (sp : List Value) (i : Int) (h0 : 0 ≤ i) (h : i < xs.length) : (rawB xs sp)[i.toNat]? = some (.bool (rdOf false xs i)) := by
  obtain ⟨n, rfl⟩ := Int.eq_ofNat_of_zero_le h0
  rw [Int.toNat_natCast]
  exact rawB_get xs sp n (by omega)
theorem rawB_set (xs : List Bool) (sp : List Value) (i : Nat) (h : i < xs.length) (b : Bool) : (rawB xs sp).setIfInBounds i (.bool b) = rawB (xs.set i b) sp := by
  unfold rawB
  rw [List.setIfInBounds_toArray, List.set_append_left _ _ (by simpa using h), List.map_set]
theorem raw_of_R {e : Nat} {w : World} {base : Nat} {ok : Nat → Prop} {v : Value} {xs : List Bool} (h : Kd.R Kd.bool e w base ok v xs) (hp : 0 < xs.length) :
    ∃ g cap sp, v = .slice (some ⟨g, 0, none⟩) xs.length cap ∧ base ≤ g ∧ w.heap[g]? = some (.cells (rawB xs sp) e (0, 0)) ∧ xs.length + sp.length = cap ∧ cap ≤ maxLen := by
  have ho := Kd.own_of_R (enc := Value.bool) (h1 := fun _ => rfl) h
  obtain ⟨h1, h2⟩ := ho
  rcases h2 with ⟨_, h0⟩ | ⟨g, cap, cur, he, hb, hh, hnc, hcm, hcs, ht⟩
  · omega
  · refine ⟨g, cap, cur.toList.drop xs.length, he, hb, ?_, ?_, hcm⟩
    · rw [hh, rawB]
      refine congrArg some ?_
      have e1 : xs.map Value.bool = cur.toList.take xs.length := by
        rw [Nat.mul_one] at ht
        exact ht.symm
      rw [e1, List.take_append_drop]
    · have e2 : cur.toList.length = cap := by rw [Array.length_toList, hcs]; omega
      rw [List.length_drop, e2]
      omega
theorem R_of_raw {e : Nat} {w : World} {base g cap : Nat} {sp : List Value} {xs : List Bool} (hb : base ≤ g) (hh : w.heap[g]? = some (.cells (rawB xs sp) e (0, 0))) (hc : xs.length + sp.length = cap) (hm : cap ≤ maxLen) :
    Kd.R Kd.bool e w base (fun _ => True) (.slice (some ⟨g, 0, none⟩) xs.length cap) xs := by
  refine Kd.R_of_own (enc := Value.bool) (h1 := fun _ => rfl) ⟨by simp [encs], .inr ⟨g, cap, rawB xs sp, rfl, hb, hh, by omega, hm, by simp [rawB]; omega, ?_⟩⟩ (fun _ _ => trivial)
  simp [rawB, encs]

/-! ### impl_makeable: function 46 (my own text) -/
def impl_makeable.okR (n : Int) (t : S50) : Bool := decide ((t.f0 = 3 ∨ t.f0 = 4 ∨ t.f0 = 5 ∨ t.f0 = 6 ∨ t.f0 = 7 → 0 ≤ t.f1 ∧ t.f1 < n) ∧ (t.f0 = 3 ∨ t.f0 = 4 ∨ t.f0 = 5 ∨ t.f0 = 7 → 0 ≤ t.f2 ∧ t.f2 < n))
def impl_makeable.s0 (l0 : List S50) (l1 : List Bool) : Nat → List Int
  | 0 => []
  | k + 1 => if (rd_T50 l0 (k : Int)).f0 = 6 ∧ rdOf false l1 (k : Int) = true then impl_makeable.s0 l0 l1 k ++ [(rd_T50 l0 (k : Int)).f1] else impl_makeable.s0 l0 l1 k
def impl_makeable.r (S : List Int) (o : List Bool) (k : Int) (t : S50) : Bool :=
  cond (t.f0 == 1) true (cond (t.f0 == 3 || (t.f0 == 4 || t.f0 == 5)) (rdOf false o t.f1 && rdOf false o t.f2) (cond (t.f0 == 6) (rdOf false o t.f1) (cond (t.f0 == 7) ((rdOf false o t.f1 && (rdOf false o t.f2 || decide (t.f2 ∈ S))) || (rdOf false o t.f2 && decide (t.f1 ∈ S))) (rdOf false o k))))
def impl_makeable.l0 (l0 : List S50) (l1 : List Bool) (S : List Int) : Nat → List Bool
  | 0 => List.replicate l0.length false
  | k + 1 => (impl_makeable.l0 l0 l1 S k).set k (impl_makeable.r S (impl_makeable.l0 l0 l1 S k) (k : Int) (rd_T50 l0 (k : Int)) || rdOf false l1 (k : Int))
def impl_makeable.f (l0 : List S50) (l1 : List Bool) : Option (List Bool) := if l0.length ≤ 400 ∧ l1.length = l0.length ∧ l0.all (impl_makeable.okR l0.length) = true then some (impl_makeable.l0 l0 l1 (impl_makeable.s0 l0 l1 l0.length) l0.length) else none
theorem impl_makeable_l0_len (l0 : List S50) (l1 : List Bool) (S : List Int) : ∀ k, (impl_makeable.l0 l0 l1 S k).length = l0.length
  | 0 => by simp [impl_makeable.l0]
  | k + 1 => by rw [impl_makeable.l0, List.length_set, impl_makeable_l0_len l0 l1 S k]
theorem impl_makeable_ok {l0 : List S50} (h : l0.all (impl_makeable.okR l0.length) = true) (kk : Nat) (hk : kk < l0.length) : ((rd_T50 l0 (kk : Int)).f0 = 3 ∨ (rd_T50 l0 (kk : Int)).f0 = 4 ∨ (rd_T50 l0 (kk : Int)).f0 = 5 ∨ (rd_T50 l0 (kk : Int)).f0 = 6 ∨ (rd_T50 l0 (kk : Int)).f0 = 7 → 0 ≤ (rd_T50 l0 (kk : Int)).f1 ∧ (rd_T50 l0 (kk : Int)).f1 < l0.length) ∧
    ((rd_T50 l0 (kk : Int)).f0 = 3 ∨ (rd_T50 l0 (kk : Int)).f0 = 4 ∨ (rd_T50 l0 (kk : Int)).f0 = 5 ∨ (rd_T50 l0 (kk : Int)).f0 = 7 → 0 ≤ (rd_T50 l0 (kk : Int)).f2 ∧ (rd_T50 l0 (kk : Int)).f2 < l0.length) := by
  have hm : rd_T50 l0 (kk : Int) ∈ l0 := by
    have : rd_T50 l0 (kk : Int) = l0[kk] := by
      show l0.getD (kk : Int).toNat z50 = _
      simp [List.getD_eq_getElem?_getD, hk]
    rw [this]
    exact List.getElem_mem hk
  have := (List.all_eq_true.mp h) _ hm
  exact of_decide_eq_true this
theorem keyedI_ : Go.Maps.Keyed Try.prog 2 := Go.Maps.int_keyed Try.underlying2
theorem zeroBm_ (w : World) : (zeroValue 4).run Try.prog w = .ok (.bool false) w := by kernel_rfl
theorem keyI_ {x : Int} (h : 0 ≤ x ∧ x < 400) : keyOf Try.prog 2 (.int .i64 x) = some (.int .i64 x) := by
  refine Go.Maps.keyOf_int_mk Try.underlying2 ?_
  simp [Lit.wf, IntKind.min, IntKind.max, IntKind.signed, IntKind.bits]
  omega
theorem ownsSet.same {α : Type} {P : Program} {w w' : World} {k e : TypeId} {enc : α → Value} {b n : Nat} {S : α → Bool} (h : ownsSet P w k e enc b n S) (he : w'.heap[b]? = w.heap[b]?) : ownsSet P w' k e enc b n S := by
  obtain ⟨D, ⟨es, clock, h1, h2⟩, h3⟩ := h
  exact ⟨D, ⟨es, clock, he.trans h1, h2⟩, h3⟩
theorem ownsSet.obj {α : Type} {P : Program} {w : World} {k e : TypeId} {enc : α → Value} {b n : Nat} {S : α → Bool} (h : ownsSet P w k e enc b n S) : ∃ es clock, w.heap[b]? = some (.map es clock) := by
  obtain ⟨D, ⟨es, clock, h1, h2⟩, h3⟩ := h
  exact ⟨_, _, h1⟩
theorem ownsSet.looks {α : Type} {P : Program} {w : World} {t k e : TypeId} {enc : α → Value} {b n : Nat} {S : α → Bool} (h : ownsSet P w k e enc b n S) (K : Go.Maps.Keyed P k) (ht : P.underlying t = some (.map k e)) (he : P.underlying e = some .bool)
    (hz : (zeroValue e).run P w = .ok (.bool false) w) {x : α} {kl : Lit} (hkey : keyOf P k (enc x) = some kl) {s : Bool} (hS : S x = s) : (Instr.lookup t (.map (some b)) (enc x) false).run P w = .ok (.bool s) w := by
  rw [← hS]
  exact h.look K ht he hz hkey
theorem rawB_at (xs : List Bool) (sp : List Value) (i : Nat) (h : i < xs.length) (b : Bool) : (rawB (xs.set i b) sp)[i]? = some (.bool b) := by
  rw [rawB_get _ _ _ (by rw [List.length_set]; exact h)]
  simp [rdOf, List.getD_eq_getElem?_getD, h]
theorem ownsSet.imp {α : Type} {P : Program} {w : World} {k e : TypeId} {enc : α → Value} {b n : Nat} {S S' : α → Bool} (h : ownsSet P w k e enc b n S) (hs : ∀ x, S x = S' x) {n' : Nat} (hn : n ≤ n') : ownsSet P w k e enc b n' S' := by
  obtain ⟨D, h1, h2, h3⟩ := h
  exact ⟨D, h1.mono hn, h2, fun x kl hx => by rw [← hs x]; exact h3 x kl hx⟩
set_option maxHeartbeats 40000000 in
set_option maxRecDepth 100000 in
theorem impl_makeable.calls (A0 : Option Addr) (c0 : Nat) (l0 : List S50) (A1 : Option Addr) (c1 : Nat) (l1 : List Bool) (r : List Bool) (w : World) (hr0 : Kd.C k50 w A0 l0.length l0) (hc0 : l0.length ≤ c0) (hr1 : Kd.C Kd.bool w A1 l1.length l1) (hc1 : l1.length ≤ c1) (h : impl_makeable.f l0 l1 = some r) :
    Calls Try.prog 46 #[.slice A0 l0.length c0, .slice A1 l1.length c1] w fun e w' => ∃ v1_ : Value, e = .returned v1_ ∧ Kd.R Kd.bool 4 w' w.heap.size (fun _ => True) v1_ r ∧ Below w.heap.size w w' := by
  unfold impl_makeable.f at h
  by_cases hg_ : l0.length ≤ 400 ∧ l1.length = l0.length ∧ l0.all (impl_makeable.okR l0.length) = true
  · rw [if_pos hg_] at h
    obtain ⟨h400, hl1, hall⟩ := hg_
    have HV := Aside0.mk (Option.some.inj h)
    have HR0 := Aside0.mk hr0
    have HR1 := Aside0.mk hr1
    have HC := Aside0.mk hall
    have HB := Aside0.mk (Below.refl w.heap.size w)
    clear hr0 hr1 h hall
    have hmm := @run_makeMap Try.prog
    go_enter Try.func46, Try.ntmps46
    go_wp2_with (first | ((with_reducible refine gate_dst (N := 13) rfl ?_); refine Kd.R_make Kd.bool _ 4 rfl (N := 13) rfl 66 _ _ rfl (l0.length : Int) rfl rfl Try.underlying66 (.bool false) 1 info4 rfl (by decide) (by omega) false (ok := fun _ => True) (okp := fun _ => True) rfl (fun _ hk => hk) trivial (by omega) (by omega) (Below.refl _ _) (Nat.le_refl _) ?_; intro v5_ w5 ho6 hb hg_ hnew_; clear hnew_ hg_; rw [Int.toNat_natCast] at ho6; have HO := Aside0.mk (Kd.R_lower ho6 HB.out.size); have HB5 := Aside0.mk (below_step HB.out hb); clear hb ho6) | fail)
    clear hmm HB
    have hb5 : w.heap.size ≤ w5.heap.size := HB5.out.size
    go_loopg [17] l0.length (fun gg s17 wr => ∃ kk : Nat, kk ≤ l0.length ∧ l0.length - kk ≤ gg ∧ s17 = .int .i64 kk ∧ Aside0 (Below w.heap.size w wr) ∧ Aside0 (ownsSet Try.prog wr 2 4 (Value.int .i64) w5.heap.size kk (fun x => decide (x ∈ impl_makeable.s0 l0 l1 kk))) ∧ Aside0 (Kd.R Kd.bool 4 wr w.heap.size (fun _ => True) v5_ (List.replicate l0.length false)))
    case atStart => exact ⟨0, Nat.zero_le _, by omega, rfl, ⟨HB5.out.alloc HB5.out.size _⟩, ⟨by simpa [impl_makeable.s0] using ownsSet_made Try.prog w5 2 4 (Value.int .i64)⟩, ⟨Kd.R_alloc HO.out _⟩⟩
    case round =>
      obtain ⟨kk, hkk, hg, rfl, BW, HS, HR⟩ := hrel
      clear HB5 HO
      by_cases hlt : kk < l0.length
      · clear HV
        have hltz : (kk : Int) < (l0.length : Int) := by omega
        obtain ⟨os_, hos_⟩ : ∃ o, o = List.replicate l0.length false := ⟨_, rfl⟩
        have hol : os_.length = l0.length := by rw [hos_]; simp
        have hr_ := HR.out
        rw [← hos_] at hr_
        obtain ⟨go, co, sp_, ev_, hgo, hraw, hsp, hco⟩ := raw_of_R hr_ (by omega)
        rw [hol] at ev_ hsp
        subst ev_
        obtain ⟨es_, ck_, hom_⟩ := HS.out.obj
        have HM := Aside0.mk hom_
        have BX := Aside0.mk (((Objs.start BW.out).add hraw hgo (fun x hx => absurd hx (by simp))).add hom_ hb5 (fun x hx => by
          rw [List.mem_singleton] at hx
          subst hx
          intro e
          rw [e, hraw] at hom_
          cases hom_))
        clear hr_ hom_ hraw HR
        obtain ⟨ad, e, hx0, hx1, hx2, hx3⟩ := at_T50 HR0.out (kk : Int) (by omega) hltz
        cases e
        obtain ⟨ad1, e1, hk0⟩ := Kd.at_bool HR1.out (kk : Int) (by omega) (by omega)
        cases e1
        obtain ⟨K_, hK_⟩ : ∃ b, b = rdOf false l1 (kk : Int) := ⟨_, rfl⟩
        rw [← hK_] at hk0
        simp only [Int.toNat_natCast] at hk0
        have HK := Aside0.mk hk0
        have HKE := Aside0.mk hK_
        have HOS := Aside0.mk hos_
        have HSP := Aside0.mk hsp
        clear hk0 hK_ hos_ hsp
        replace hx0 := (BW.out.cell (World.block_lt_of_cell? w _ hx0)).trans hx0
        replace hx1 := (BW.out.cell (World.block_lt_of_cell? w _ hx1)).trans hx1
        replace hx2 := (BW.out.cell (World.block_lt_of_cell? w _ hx2)).trans hx2
        replace hx3 := (BW.out.cell (World.block_lt_of_cell? w _ hx3)).trans hx3
        simp only [Int.toNat_natCast] at hx0 hx1 hx2 hx3
        have p1 : (0 ≤ (kk : Int)) = True := eq_true (by omega)
        have q1 : ((kk : Int) < (l0.length : Int)) = True := eq_true hltz
        have hu1 := Try.underlying50
        have hu2 := Try.underlying25
        have hu3 := Try.underlying66
        have hbo := impl_makeable_ok HC.out kk hlt
        by_cases h6 : (rd_T50 l0 (kk : Int)).f0 = 6
        · have e6 : ((rd_T50 l0 (kk : Int)).f0 == 6) = true := by simp [h6]
          have hk6 : 0 ≤ (rd_T50 l0 (kk : Int)).f1 ∧ (rd_T50 l0 (kk : Int)).f1 < 400 := by
            have := hbo.1 (by omega)
            omega
          rcases Bool.eq_false_or_eq_true K_ with eK | eK
          · have hs0 : impl_makeable.s0 l0 l1 (kk + 1) = impl_makeable.s0 l0 l1 kk ++ [(rd_T50 l0 (kk : Int)).f1] := by rw [impl_makeable.s0, if_pos ⟨h6, HKE.out.symm.trans eK⟩]
            clear h6 hbo
            go_wp2_with (first | ((with_reducible refine gate_dst (N := 8) rfl ?_); refine box_event ?hg (N := 8) ?hd (cs := #[.int .i64 0, .int .i64 0, .int .i64 0, .int .i64 0]) (t := 50) ?hr ?_; (case hd => rfl); (case hg => rfl); (case hr => first | (go_simp; done) | (go_simp; rfl)); intro g8 hg w8_ hbox hb; have BY := Aside0.mk (Objs.new (w0 := w) (bs := [(w5.heap.size, .map es_ ck_), (go, .cells (rawB os_ sp_) 4 (0, 0))]) (by (with_reducible repeat (first | refine Objs.drewN ?_ _ | refine Objs.drew ?_ | refine Objs.alloc ?_ _)); exact BX.out) hg hbox hb); clear BX hb hbox hg; have BX := BY; clear BY; have qg8_0 : World.cell? _ ⟨g8, 0, none⟩ = some (.int .i64 0) := BX.out.cell (i := 0) rfl (j := 0) rfl; have fqg8_0 : World.frozen? _ ⟨g8, 0, none⟩ = false := BX.out.frozen (i := 0) rfl 0; have qg8_1 : World.cell? _ ⟨g8, 1, none⟩ = some (.int .i64 0) := BX.out.cell (i := 0) rfl (j := 1) rfl; have fqg8_1 : World.frozen? _ ⟨g8, 1, none⟩ = false := BX.out.frozen (i := 0) rfl 1; have qg8_2 : World.cell? _ ⟨g8, 2, none⟩ = some (.int .i64 0) := BX.out.cell (i := 0) rfl (j := 2) rfl; have fqg8_2 : World.frozen? _ ⟨g8, 2, none⟩ = false := BX.out.frozen (i := 0) rfl 2; have qg8_3 : World.cell? _ ⟨g8, 3, none⟩ = some (.int .i64 0) := BX.out.cell (i := 0) rfl (j := 3) rfl; have fqg8_3 : World.frozen? _ ⟨g8, 3, none⟩ = false := BX.out.frozen (i := 0) rfl 3) | ((with_reducible refine gate_store (t := 50) (p := 8) rfl ?_); refine objs_store (w0 := w) (bs := [(g8, .cells #[.int .i64 (rd_T50 l0 (kk : Int)).f0, .int .i64 (rd_T50 l0 (kk : Int)).f1, .int .i64 (rd_T50 l0 (kk : Int)).f2, .int .i64 (rd_T50 l0 (kk : Int)).f3] 50 (0, 0)), (w5.heap.size, .map es_ ck_), (go, .cells (rawB os_ sp_) 4 (0, 0))]) (W1 := (((World.setCell w8_ ⟨g8, 0, none⟩ (.int .i64 (rd_T50 l0 (kk : Int)).f0)).setCell ⟨g8, 1, none⟩ (.int .i64 (rd_T50 l0 (kk : Int)).f1)).setCell ⟨g8, 2, none⟩ (.int .i64 (rd_T50 l0 (kk : Int)).f2)).setCell ⟨g8, 3, none⟩ (.int .i64 (rd_T50 l0 (kk : Int)).f3)) rfl rfl rfl ?hr ((((Objs.put (w0 := w) (b1 := []) (b2 := [(w5.heap.size, .map es_ ck_), (go, .cells (rawB os_ sp_) 4 (0, 0))]) BX.out 0 (.int .i64 (rd_T50 l0 (kk : Int)).f0) rfl).put (b1 := []) 1 (.int .i64 (rd_T50 l0 (kk : Int)).f1) rfl).put (b1 := []) 2 (.int .i64 (rd_T50 l0 (kk : Int)).f2) rfl).put (b1 := []) 3 (.int .i64 (rd_T50 l0 (kk : Int)).f3) rfl) ?_; (case hr => first | (go_simp; done) | (go_simp; rfl)); intro w9_ BY; have BY := Aside0.mk BY; clear BX; have BX := BY; clear BY; clear qg8_0 fqg8_0 qg8_1 fqg8_1 qg8_2 fqg8_2 qg8_3 fqg8_3; have qg8_0 : World.cell? _ ⟨g8, 0, none⟩ = some (.int .i64 (rd_T50 l0 (kk : Int)).f0) := BX.out.cell (i := 0) rfl (j := 0) rfl; have fqg8_0 : World.frozen? _ ⟨g8, 0, none⟩ = false := BX.out.frozen (i := 0) rfl 0; have qg8_1 : World.cell? _ ⟨g8, 1, none⟩ = some (.int .i64 (rd_T50 l0 (kk : Int)).f1) := BX.out.cell (i := 0) rfl (j := 1) rfl; have fqg8_1 : World.frozen? _ ⟨g8, 1, none⟩ = false := BX.out.frozen (i := 0) rfl 1; have qg8_2 : World.cell? _ ⟨g8, 2, none⟩ = some (.int .i64 (rd_T50 l0 (kk : Int)).f2) := BX.out.cell (i := 0) rfl (j := 2) rfl; have fqg8_2 : World.frozen? _ ⟨g8, 2, none⟩ = false := BX.out.frozen (i := 0) rfl 2; have qg8_3 : World.cell? _ ⟨g8, 3, none⟩ = some (.int .i64 (rd_T50 l0 (kk : Int)).f3) := BX.out.cell (i := 0) rfl (j := 3) rfl; have fqg8_3 : World.frozen? _ ⟨g8, 3, none⟩ = false := BX.out.frozen (i := 0) rfl 3; have hk : World.cell? _ (ad1.add kk) = some (.bool K_) := (BX.out.low.cell (World.block_lt_of_cell? w _ HK.out)).trans HK.out) | (at_mapUpdate; refine wpList_update_set rfl _ _ _ 83 rfl 2 4 keyedI_ Try.underlying83 Try.underlying4 (fun x y e => by injection e) (HS.out.same ((BX.out.at_ (i := 1) rfl).trans HM.out.symm)) (by unfold maxLen; omega) rfl (rd_T50 l0 (kk : Int)).f1 rfl rfl (keyI_ hk6) ?_; intro w10_ hown_ hgr_; obtain ⟨es2_, ck2_, hom2_⟩ := hown_.obj; have HS8 := Aside0.mk hown_; have BY := Aside0.mk (Objs.grown (w0 := w) (b1 := [(g8, .cells #[.int .i64 (rd_T50 l0 (kk : Int)).f0, .int .i64 (rd_T50 l0 (kk : Int)).f1, .int .i64 (rd_T50 l0 (kk : Int)).f2, .int .i64 (rd_T50 l0 (kk : Int)).f3] 50 (0, 0))]) (b2 := [(go, .cells (rawB os_ sp_) 4 (0, 0))]) (o1 := .map es2_ ck2_) BX.out hgr_ hom2_); clear hown_ hgr_ hom2_ BX; have BX := BY; clear BY) | fail)
            go_roundg (l0.length - (kk + 1))
            case measure => omega
            case rel => exact ⟨kk + 1, by omega, by omega, by go_num, ⟨BX.out.low⟩, ⟨HS8.out.imp (fun x => by rw [hs0]; simp [Bool.decide_or]) (by omega)⟩, ⟨by have hR_ := R_of_raw hgo (BX.out.at_ (i := 2) rfl) (by rw [hol]; exact HSP.out) hco; rw [hol] at hR_; rw [← HOS.out]; exact hR_⟩⟩
          · have hs0 : impl_makeable.s0 l0 l1 (kk + 1) = impl_makeable.s0 l0 l1 kk := by rw [impl_makeable.s0, if_neg (fun e => by have h_ := HKE.out.trans e.2; rw [eK] at h_; cases h_)]
            clear h6 hbo
            go_wp2_with (first | ((with_reducible refine gate_dst (N := 8) rfl ?_); refine box_event ?hg (N := 8) ?hd (cs := #[.int .i64 0, .int .i64 0, .int .i64 0, .int .i64 0]) (t := 50) ?hr ?_; (case hd => rfl); (case hg => rfl); (case hr => first | (go_simp; done) | (go_simp; rfl)); intro g8 hg w8_ hbox hb; have BY := Aside0.mk (Objs.new (w0 := w) (bs := [(w5.heap.size, .map es_ ck_), (go, .cells (rawB os_ sp_) 4 (0, 0))]) (by (with_reducible repeat (first | refine Objs.drewN ?_ _ | refine Objs.drew ?_ | refine Objs.alloc ?_ _)); exact BX.out) hg hbox hb); clear BX hb hbox hg; have BX := BY; clear BY; have qg8_0 : World.cell? _ ⟨g8, 0, none⟩ = some (.int .i64 0) := BX.out.cell (i := 0) rfl (j := 0) rfl; have fqg8_0 : World.frozen? _ ⟨g8, 0, none⟩ = false := BX.out.frozen (i := 0) rfl 0; have qg8_1 : World.cell? _ ⟨g8, 1, none⟩ = some (.int .i64 0) := BX.out.cell (i := 0) rfl (j := 1) rfl; have fqg8_1 : World.frozen? _ ⟨g8, 1, none⟩ = false := BX.out.frozen (i := 0) rfl 1; have qg8_2 : World.cell? _ ⟨g8, 2, none⟩ = some (.int .i64 0) := BX.out.cell (i := 0) rfl (j := 2) rfl; have fqg8_2 : World.frozen? _ ⟨g8, 2, none⟩ = false := BX.out.frozen (i := 0) rfl 2; have qg8_3 : World.cell? _ ⟨g8, 3, none⟩ = some (.int .i64 0) := BX.out.cell (i := 0) rfl (j := 3) rfl; have fqg8_3 : World.frozen? _ ⟨g8, 3, none⟩ = false := BX.out.frozen (i := 0) rfl 3) | ((with_reducible refine gate_store (t := 50) (p := 8) rfl ?_); refine objs_store (w0 := w) (bs := [(g8, .cells #[.int .i64 (rd_T50 l0 (kk : Int)).f0, .int .i64 (rd_T50 l0 (kk : Int)).f1, .int .i64 (rd_T50 l0 (kk : Int)).f2, .int .i64 (rd_T50 l0 (kk : Int)).f3] 50 (0, 0)), (w5.heap.size, .map es_ ck_), (go, .cells (rawB os_ sp_) 4 (0, 0))]) (W1 := (((World.setCell w8_ ⟨g8, 0, none⟩ (.int .i64 (rd_T50 l0 (kk : Int)).f0)).setCell ⟨g8, 1, none⟩ (.int .i64 (rd_T50 l0 (kk : Int)).f1)).setCell ⟨g8, 2, none⟩ (.int .i64 (rd_T50 l0 (kk : Int)).f2)).setCell ⟨g8, 3, none⟩ (.int .i64 (rd_T50 l0 (kk : Int)).f3)) rfl rfl rfl ?hr ((((Objs.put (w0 := w) (b1 := []) (b2 := [(w5.heap.size, .map es_ ck_), (go, .cells (rawB os_ sp_) 4 (0, 0))]) BX.out 0 (.int .i64 (rd_T50 l0 (kk : Int)).f0) rfl).put (b1 := []) 1 (.int .i64 (rd_T50 l0 (kk : Int)).f1) rfl).put (b1 := []) 2 (.int .i64 (rd_T50 l0 (kk : Int)).f2) rfl).put (b1 := []) 3 (.int .i64 (rd_T50 l0 (kk : Int)).f3) rfl) ?_; (case hr => first | (go_simp; done) | (go_simp; rfl)); intro w9_ BY; have BY := Aside0.mk BY; clear BX; have BX := BY; clear BY; clear qg8_0 fqg8_0 qg8_1 fqg8_1 qg8_2 fqg8_2 qg8_3 fqg8_3; have qg8_0 : World.cell? _ ⟨g8, 0, none⟩ = some (.int .i64 (rd_T50 l0 (kk : Int)).f0) := BX.out.cell (i := 0) rfl (j := 0) rfl; have fqg8_0 : World.frozen? _ ⟨g8, 0, none⟩ = false := BX.out.frozen (i := 0) rfl 0; have qg8_1 : World.cell? _ ⟨g8, 1, none⟩ = some (.int .i64 (rd_T50 l0 (kk : Int)).f1) := BX.out.cell (i := 0) rfl (j := 1) rfl; have fqg8_1 : World.frozen? _ ⟨g8, 1, none⟩ = false := BX.out.frozen (i := 0) rfl 1; have qg8_2 : World.cell? _ ⟨g8, 2, none⟩ = some (.int .i64 (rd_T50 l0 (kk : Int)).f2) := BX.out.cell (i := 0) rfl (j := 2) rfl; have fqg8_2 : World.frozen? _ ⟨g8, 2, none⟩ = false := BX.out.frozen (i := 0) rfl 2; have qg8_3 : World.cell? _ ⟨g8, 3, none⟩ = some (.int .i64 (rd_T50 l0 (kk : Int)).f3) := BX.out.cell (i := 0) rfl (j := 3) rfl; have fqg8_3 : World.frozen? _ ⟨g8, 3, none⟩ = false := BX.out.frozen (i := 0) rfl 3; have hk : World.cell? _ (ad1.add kk) = some (.bool K_) := (BX.out.low.cell (World.block_lt_of_cell? w _ HK.out)).trans HK.out) | fail)
            go_roundg (l0.length - (kk + 1))
            case measure => omega
            case rel => exact ⟨kk + 1, by omega, by omega, by go_num, ⟨BX.out.low⟩, ⟨(HS.out.same ((BX.out.at_ (i := 1) rfl).trans HM.out.symm)).imp (fun x => by rw [hs0]) (by omega)⟩, ⟨by have hR_ := R_of_raw hgo (BX.out.at_ (i := 2) rfl) (by rw [hol]; exact HSP.out) hco; rw [hol] at hR_; rw [← HOS.out]; exact hR_⟩⟩
        · have e6 : ((rd_T50 l0 (kk : Int)).f0 == 6) = false := by simp [h6]
          have hs0 : impl_makeable.s0 l0 l1 (kk + 1) = impl_makeable.s0 l0 l1 kk := by rw [impl_makeable.s0, if_neg (fun e => h6 e.1)]
          clear h6 hbo
          go_wp2_with (first | ((with_reducible refine gate_dst (N := 8) rfl ?_); refine box_event ?hg (N := 8) ?hd (cs := #[.int .i64 0, .int .i64 0, .int .i64 0, .int .i64 0]) (t := 50) ?hr ?_; (case hd => rfl); (case hg => rfl); (case hr => first | (go_simp; done) | (go_simp; rfl)); intro g8 hg w8_ hbox hb; have BY := Aside0.mk (Objs.new (w0 := w) (bs := [(w5.heap.size, .map es_ ck_), (go, .cells (rawB os_ sp_) 4 (0, 0))]) (by (with_reducible repeat (first | refine Objs.drewN ?_ _ | refine Objs.drew ?_ | refine Objs.alloc ?_ _)); exact BX.out) hg hbox hb); clear BX hb hbox hg; have BX := BY; clear BY; have qg8_0 : World.cell? _ ⟨g8, 0, none⟩ = some (.int .i64 0) := BX.out.cell (i := 0) rfl (j := 0) rfl; have fqg8_0 : World.frozen? _ ⟨g8, 0, none⟩ = false := BX.out.frozen (i := 0) rfl 0; have qg8_1 : World.cell? _ ⟨g8, 1, none⟩ = some (.int .i64 0) := BX.out.cell (i := 0) rfl (j := 1) rfl; have fqg8_1 : World.frozen? _ ⟨g8, 1, none⟩ = false := BX.out.frozen (i := 0) rfl 1; have qg8_2 : World.cell? _ ⟨g8, 2, none⟩ = some (.int .i64 0) := BX.out.cell (i := 0) rfl (j := 2) rfl; have fqg8_2 : World.frozen? _ ⟨g8, 2, none⟩ = false := BX.out.frozen (i := 0) rfl 2; have qg8_3 : World.cell? _ ⟨g8, 3, none⟩ = some (.int .i64 0) := BX.out.cell (i := 0) rfl (j := 3) rfl; have fqg8_3 : World.frozen? _ ⟨g8, 3, none⟩ = false := BX.out.frozen (i := 0) rfl 3) | ((with_reducible refine gate_store (t := 50) (p := 8) rfl ?_); refine objs_store (w0 := w) (bs := [(g8, .cells #[.int .i64 (rd_T50 l0 (kk : Int)).f0, .int .i64 (rd_T50 l0 (kk : Int)).f1, .int .i64 (rd_T50 l0 (kk : Int)).f2, .int .i64 (rd_T50 l0 (kk : Int)).f3] 50 (0, 0)), (w5.heap.size, .map es_ ck_), (go, .cells (rawB os_ sp_) 4 (0, 0))]) (W1 := (((World.setCell w8_ ⟨g8, 0, none⟩ (.int .i64 (rd_T50 l0 (kk : Int)).f0)).setCell ⟨g8, 1, none⟩ (.int .i64 (rd_T50 l0 (kk : Int)).f1)).setCell ⟨g8, 2, none⟩ (.int .i64 (rd_T50 l0 (kk : Int)).f2)).setCell ⟨g8, 3, none⟩ (.int .i64 (rd_T50 l0 (kk : Int)).f3)) rfl rfl rfl ?hr ((((Objs.put (w0 := w) (b1 := []) (b2 := [(w5.heap.size, .map es_ ck_), (go, .cells (rawB os_ sp_) 4 (0, 0))]) BX.out 0 (.int .i64 (rd_T50 l0 (kk : Int)).f0) rfl).put (b1 := []) 1 (.int .i64 (rd_T50 l0 (kk : Int)).f1) rfl).put (b1 := []) 2 (.int .i64 (rd_T50 l0 (kk : Int)).f2) rfl).put (b1 := []) 3 (.int .i64 (rd_T50 l0 (kk : Int)).f3) rfl) ?_; (case hr => first | (go_simp; done) | (go_simp; rfl)); intro w9_ BY; have BY := Aside0.mk BY; clear BX; have BX := BY; clear BY; clear qg8_0 fqg8_0 qg8_1 fqg8_1 qg8_2 fqg8_2 qg8_3 fqg8_3; have qg8_0 : World.cell? _ ⟨g8, 0, none⟩ = some (.int .i64 (rd_T50 l0 (kk : Int)).f0) := BX.out.cell (i := 0) rfl (j := 0) rfl; have fqg8_0 : World.frozen? _ ⟨g8, 0, none⟩ = false := BX.out.frozen (i := 0) rfl 0; have qg8_1 : World.cell? _ ⟨g8, 1, none⟩ = some (.int .i64 (rd_T50 l0 (kk : Int)).f1) := BX.out.cell (i := 0) rfl (j := 1) rfl; have fqg8_1 : World.frozen? _ ⟨g8, 1, none⟩ = false := BX.out.frozen (i := 0) rfl 1; have qg8_2 : World.cell? _ ⟨g8, 2, none⟩ = some (.int .i64 (rd_T50 l0 (kk : Int)).f2) := BX.out.cell (i := 0) rfl (j := 2) rfl; have fqg8_2 : World.frozen? _ ⟨g8, 2, none⟩ = false := BX.out.frozen (i := 0) rfl 2; have qg8_3 : World.cell? _ ⟨g8, 3, none⟩ = some (.int .i64 (rd_T50 l0 (kk : Int)).f3) := BX.out.cell (i := 0) rfl (j := 3) rfl; have fqg8_3 : World.frozen? _ ⟨g8, 3, none⟩ = false := BX.out.frozen (i := 0) rfl 3; have hk : World.cell? _ (ad1.add kk) = some (.bool K_) := (BX.out.low.cell (World.block_lt_of_cell? w _ HK.out)).trans HK.out) | fail)
          go_roundg (l0.length - (kk + 1))
          case measure => omega
          case rel => exact ⟨kk + 1, by omega, by omega, by go_num, ⟨BX.out.low⟩, ⟨(HS.out.same ((BX.out.at_ (i := 1) rfl).trans HM.out.symm)).imp (fun x => by rw [hs0]) (by omega)⟩, ⟨by have hR_ := R_of_raw hgo (BX.out.at_ (i := 2) rfl) (by rw [hol]; exact HSP.out) hco; rw [hol] at hR_; rw [← HOS.out]; exact hR_⟩⟩
      · have hltz : ¬ (kk : Int) < (l0.length : Int) := by omega
        have hke : kk = l0.length := by omega
        clear hltz hlt hkk hg
        subst hke
        go_wp2
        go_loopg [37] l0.length (fun gg s37 wr => ∃ kk : Nat, kk ≤ l0.length ∧ l0.length - kk ≤ gg ∧ s37 = .int .i64 kk ∧ Aside0 (Below w.heap.size w wr) ∧ Aside0 (ownsSet Try.prog wr 2 4 (Value.int .i64) w5.heap.size l0.length (fun x => decide (x ∈ impl_makeable.s0 l0 l1 l0.length))) ∧ Aside0 (Kd.R Kd.bool 4 wr w.heap.size (fun _ => True) v5_ (impl_makeable.l0 l0 l1 (impl_makeable.s0 l0 l1 l0.length) kk)))
        case atStart => exact ⟨0, Nat.zero_le _, by omega, rfl, ⟨BW.out⟩, ⟨HS.out⟩, ⟨by rw [impl_makeable.l0]; exact HR.out⟩⟩
        case round =>
          clear BW HS HR
          obtain ⟨kk, hkk, hg, rfl, BW, HS, HR⟩ := hrel
          by_cases hlt : kk < l0.length
          · clear HV
            have hltz : (kk : Int) < (l0.length : Int) := by omega
            obtain ⟨os_, hos_⟩ : ∃ o, o = impl_makeable.l0 l0 l1 (impl_makeable.s0 l0 l1 l0.length) kk := ⟨_, rfl⟩
            have hol : os_.length = l0.length := by rw [hos_]; exact impl_makeable_l0_len l0 l1 _ kk
            have hr_ := HR.out
            rw [← hos_] at hr_
            obtain ⟨go, co, sp_, ev_, hgo, hraw, hsp, hco⟩ := raw_of_R hr_ (by omega)
            rw [hol] at ev_ hsp
            subst ev_
            obtain ⟨es_, ck_, hom_⟩ := HS.out.obj
            have HM := Aside0.mk hom_
            have BX := Aside0.mk (((Objs.start BW.out).add hraw hgo (fun x hx => absurd hx (by simp))).add hom_ hb5 (fun x hx => by
              rw [List.mem_singleton] at hx
              subst hx
              intro e
              rw [e, hraw] at hom_
              cases hom_))
            clear hr_ hom_ hraw HR
            obtain ⟨ad, e, hx0, hx1, hx2, hx3⟩ := at_T50 HR0.out (kk : Int) (by omega) hltz
            cases e
            obtain ⟨ad1, e1, hk0⟩ := Kd.at_bool HR1.out (kk : Int) (by omega) (by omega)
            cases e1
            obtain ⟨K_, hK_⟩ : ∃ b, b = rdOf false l1 (kk : Int) := ⟨_, rfl⟩
            rw [← hK_] at hk0
            simp only [Int.toNat_natCast] at hk0
            have HK := Aside0.mk hk0
            have HKE := Aside0.mk hK_
            have HOS := Aside0.mk hos_
            have HSP := Aside0.mk hsp
            clear hk0 hK_ hos_ hsp
            replace hx0 := (BW.out.cell (World.block_lt_of_cell? w _ hx0)).trans hx0
            replace hx1 := (BW.out.cell (World.block_lt_of_cell? w _ hx1)).trans hx1
            replace hx2 := (BW.out.cell (World.block_lt_of_cell? w _ hx2)).trans hx2
            replace hx3 := (BW.out.cell (World.block_lt_of_cell? w _ hx3)).trans hx3
            simp only [Int.toNat_natCast] at hx0 hx1 hx2 hx3
            have p1 : (0 ≤ (kk : Int)) = True := eq_true (by omega)
            have q1 : ((kk : Int) < (l0.length : Int)) = True := eq_true hltz
            have hu1 := Try.underlying50
            have hu2 := Try.underlying25
            have hu3 := Try.underlying66
            have hbo := impl_makeable_ok HC.out kk hlt
            by_cases h1 : (rd_T50 l0 (kk : Int)).f0 = 1
            · have e1 : ((rd_T50 l0 (kk : Int)).f0 == 1) = true := by simp; omega
              obtain ⟨V_, hV_⟩ : ∃ b, b = true := ⟨_, rfl⟩
              have HVE : Aside0 (V_ = impl_makeable.r (impl_makeable.s0 l0 l1 l0.length) os_ (kk : Int) (rd_T50 l0 (kk : Int))) := ⟨by rw [hV_, impl_makeable.r]; simp only [e1, cond_true]⟩
              clear hbo
              have hp : (K_ = true) ∨ (K_ = false) := by
                rcases Bool.eq_false_or_eq_true (K_) with kn | kn
                · exact .inl kn
                · exact .inr kn
              rcases hp with kn | kn
              all_goals (
                go_wp2_with (first | ((with_reducible refine gate_dst (N := 10) rfl ?_); refine box_event ?hg (N := 10) ?hd (cs := #[.int .i64 0, .int .i64 0, .int .i64 0, .int .i64 0]) (t := 50) ?hr ?_; (case hd => rfl); (case hg => rfl); (case hr => first | (go_simp; done) | (go_simp; rfl)); intro g10 hg w10_ hbox hb; have BY := Aside0.mk (Objs.new (w0 := w) (bs := [(w5.heap.size, .map es_ ck_), (go, .cells (rawB os_ sp_) 4 (0, 0))]) (by (with_reducible repeat (first | refine Objs.drewN ?_ _ | refine Objs.drew ?_ | refine Objs.alloc ?_ _)); exact BX.out) hg hbox hb); clear BX hb hbox hg; have BX := BY; clear BY; have qg10_0 : World.cell? _ ⟨g10, 0, none⟩ = some (.int .i64 0) := BX.out.cell (i := 0) rfl (j := 0) rfl; have fqg10_0 : World.frozen? _ ⟨g10, 0, none⟩ = false := BX.out.frozen (i := 0) rfl 0; have qg10_1 : World.cell? _ ⟨g10, 1, none⟩ = some (.int .i64 0) := BX.out.cell (i := 0) rfl (j := 1) rfl; have fqg10_1 : World.frozen? _ ⟨g10, 1, none⟩ = false := BX.out.frozen (i := 0) rfl 1; have qg10_2 : World.cell? _ ⟨g10, 2, none⟩ = some (.int .i64 0) := BX.out.cell (i := 0) rfl (j := 2) rfl; have fqg10_2 : World.frozen? _ ⟨g10, 2, none⟩ = false := BX.out.frozen (i := 0) rfl 2; have qg10_3 : World.cell? _ ⟨g10, 3, none⟩ = some (.int .i64 0) := BX.out.cell (i := 0) rfl (j := 3) rfl; have fqg10_3 : World.frozen? _ ⟨g10, 3, none⟩ = false := BX.out.frozen (i := 0) rfl 3) | ((with_reducible refine gate_store (t := 50) (p := 10) rfl ?_); refine objs_store (w0 := w) (bs := [(g10, .cells #[.int .i64 (rd_T50 l0 (kk : Int)).f0, .int .i64 (rd_T50 l0 (kk : Int)).f1, .int .i64 (rd_T50 l0 (kk : Int)).f2, .int .i64 (rd_T50 l0 (kk : Int)).f3] 50 (0, 0)), (w5.heap.size, .map es_ ck_), (go, .cells (rawB os_ sp_) 4 (0, 0))]) (W1 := (((World.setCell w10_ ⟨g10, 0, none⟩ (.int .i64 (rd_T50 l0 (kk : Int)).f0)).setCell ⟨g10, 1, none⟩ (.int .i64 (rd_T50 l0 (kk : Int)).f1)).setCell ⟨g10, 2, none⟩ (.int .i64 (rd_T50 l0 (kk : Int)).f2)).setCell ⟨g10, 3, none⟩ (.int .i64 (rd_T50 l0 (kk : Int)).f3)) rfl rfl rfl ?hr ((((Objs.put (w0 := w) (b1 := []) (b2 := [(w5.heap.size, .map es_ ck_), (go, .cells (rawB os_ sp_) 4 (0, 0))]) BX.out 0 (.int .i64 (rd_T50 l0 (kk : Int)).f0) rfl).put (b1 := []) 1 (.int .i64 (rd_T50 l0 (kk : Int)).f1) rfl).put (b1 := []) 2 (.int .i64 (rd_T50 l0 (kk : Int)).f2) rfl).put (b1 := []) 3 (.int .i64 (rd_T50 l0 (kk : Int)).f3) rfl) ?_; (case hr => first | (go_simp; done) | (go_simp; rfl)); intro w11_ BY; have BY := Aside0.mk BY; clear BX; have BX := BY; clear BY; clear qg10_0 fqg10_0 qg10_1 fqg10_1 qg10_2 fqg10_2 qg10_3 fqg10_3; have qg10_0 : World.cell? _ ⟨g10, 0, none⟩ = some (.int .i64 (rd_T50 l0 (kk : Int)).f0) := BX.out.cell (i := 0) rfl (j := 0) rfl; have fqg10_0 : World.frozen? _ ⟨g10, 0, none⟩ = false := BX.out.frozen (i := 0) rfl 0; have qg10_1 : World.cell? _ ⟨g10, 1, none⟩ = some (.int .i64 (rd_T50 l0 (kk : Int)).f1) := BX.out.cell (i := 0) rfl (j := 1) rfl; have fqg10_1 : World.frozen? _ ⟨g10, 1, none⟩ = false := BX.out.frozen (i := 0) rfl 1; have qg10_2 : World.cell? _ ⟨g10, 2, none⟩ = some (.int .i64 (rd_T50 l0 (kk : Int)).f2) := BX.out.cell (i := 0) rfl (j := 2) rfl; have fqg10_2 : World.frozen? _ ⟨g10, 2, none⟩ = false := BX.out.frozen (i := 0) rfl 2; have qg10_3 : World.cell? _ ⟨g10, 3, none⟩ = some (.int .i64 (rd_T50 l0 (kk : Int)).f3) := BX.out.cell (i := 0) rfl (j := 3) rfl; have fqg10_3 : World.frozen? _ ⟨g10, 3, none⟩ = false := BX.out.frozen (i := 0) rfl 3; have hk : World.cell? _ (ad1.add kk) = some (.bool K_) := (BX.out.low.cell (World.block_lt_of_cell? w _ HK.out)).trans HK.out; have hN : World.cell? _ ⟨go, kk, none⟩ = some (.bool (rdOf false os_ (kk : Int))) := BX.out.cell (i := 2) rfl (rawB_get os_ sp_ kk (by omega)); have fgo : World.frozen? _ ⟨go, kk, none⟩ = false := BX.out.frozen (i := 2) rfl kk) | ((with_reducible refine gate_store (t := 4) (p := 48) rfl ?_); refine objs_store (w0 := w) (bs := [(g10, .cells #[.int .i64 (rd_T50 l0 (kk : Int)).f0, .int .i64 (rd_T50 l0 (kk : Int)).f1, .int .i64 (rd_T50 l0 (kk : Int)).f2, .int .i64 (rd_T50 l0 (kk : Int)).f3] 50 (0, 0)), (w5.heap.size, .map es_ ck_), (go, .cells (rawB (os_.set kk V_) sp_) 4 (0, 0))]) (W1 := World.setCell w11_ ⟨go, kk, none⟩ (.bool V_)) rfl rfl rfl ?hr (Objs.put (w0 := w) (b1 := [(g10, .cells #[.int .i64 (rd_T50 l0 (kk : Int)).f0, .int .i64 (rd_T50 l0 (kk : Int)).f1, .int .i64 (rd_T50 l0 (kk : Int)).f2, .int .i64 (rd_T50 l0 (kk : Int)).f3] 50 (0, 0)), (w5.heap.size, .map es_ ck_)]) (b2 := []) BX.out (kk) (.bool V_) (rawB_set os_ sp_ kk (by omega) V_)) ?_; (case hr => first | (go_simp; done) | (go_simp; rfl)); intro w12_ BY; have BY := Aside0.mk BY; clear BX; have BX := BY; clear BY; clear qg10_0 fqg10_0 qg10_1 fqg10_1 qg10_2 fqg10_2 qg10_3 fqg10_3 hk hN fgo; have qg10_0 : World.cell? _ ⟨g10, 0, none⟩ = some (.int .i64 (rd_T50 l0 (kk : Int)).f0) := BX.out.cell (i := 0) rfl (j := 0) rfl; have fqg10_0 : World.frozen? _ ⟨g10, 0, none⟩ = false := BX.out.frozen (i := 0) rfl 0; have qg10_1 : World.cell? _ ⟨g10, 1, none⟩ = some (.int .i64 (rd_T50 l0 (kk : Int)).f1) := BX.out.cell (i := 0) rfl (j := 1) rfl; have fqg10_1 : World.frozen? _ ⟨g10, 1, none⟩ = false := BX.out.frozen (i := 0) rfl 1; have qg10_2 : World.cell? _ ⟨g10, 2, none⟩ = some (.int .i64 (rd_T50 l0 (kk : Int)).f2) := BX.out.cell (i := 0) rfl (j := 2) rfl; have fqg10_2 : World.frozen? _ ⟨g10, 2, none⟩ = false := BX.out.frozen (i := 0) rfl 2; have qg10_3 : World.cell? _ ⟨g10, 3, none⟩ = some (.int .i64 (rd_T50 l0 (kk : Int)).f3) := BX.out.cell (i := 0) rfl (j := 3) rfl; have fqg10_3 : World.frozen? _ ⟨g10, 3, none⟩ = false := BX.out.frozen (i := 0) rfl 3; have hk : World.cell? _ (ad1.add kk) = some (.bool K_) := (BX.out.low.cell (World.block_lt_of_cell? w _ HK.out)).trans HK.out; have hN : World.cell? _ ⟨go, kk, none⟩ = some (.bool V_) := BX.out.cell (i := 2) rfl (rawB_at os_ sp_ kk (by omega) V_); have fgo : World.frozen? _ ⟨go, kk, none⟩ = false := BX.out.frozen (i := 2) rfl kk) | ((with_reducible refine gate_store (t := 4) (p := 126) rfl ?_); refine objs_store (w0 := w) (bs := [(g10, .cells #[.int .i64 (rd_T50 l0 (kk : Int)).f0, .int .i64 (rd_T50 l0 (kk : Int)).f1, .int .i64 (rd_T50 l0 (kk : Int)).f2, .int .i64 (rd_T50 l0 (kk : Int)).f3] 50 (0, 0)), (w5.heap.size, .map es_ ck_), (go, .cells (rawB ((os_.set kk V_).set kk (V_ || K_)) sp_) 4 (0, 0))]) (W1 := World.setCell w12_ ⟨go, kk, none⟩ (.bool (V_ || K_))) rfl rfl rfl ?hr (Objs.put (w0 := w) (b1 := [(g10, .cells #[.int .i64 (rd_T50 l0 (kk : Int)).f0, .int .i64 (rd_T50 l0 (kk : Int)).f1, .int .i64 (rd_T50 l0 (kk : Int)).f2, .int .i64 (rd_T50 l0 (kk : Int)).f3] 50 (0, 0)), (w5.heap.size, .map es_ ck_)]) (b2 := []) BX.out (kk) (.bool (V_ || K_)) (rawB_set (os_.set kk V_) sp_ kk (by rw [List.length_set]; omega) (V_ || K_))) ?_; (case hr => first | (go_simp; done) | (go_simp; rfl)); intro w13_ BY; have BY := Aside0.mk BY; clear BX; have BX := BY; clear BY; clear qg10_0 fqg10_0 qg10_1 fqg10_1 qg10_2 fqg10_2 qg10_3 fqg10_3 hk hN fgo; have qg10_0 : World.cell? _ ⟨g10, 0, none⟩ = some (.int .i64 (rd_T50 l0 (kk : Int)).f0) := BX.out.cell (i := 0) rfl (j := 0) rfl; have fqg10_0 : World.frozen? _ ⟨g10, 0, none⟩ = false := BX.out.frozen (i := 0) rfl 0; have qg10_1 : World.cell? _ ⟨g10, 1, none⟩ = some (.int .i64 (rd_T50 l0 (kk : Int)).f1) := BX.out.cell (i := 0) rfl (j := 1) rfl; have fqg10_1 : World.frozen? _ ⟨g10, 1, none⟩ = false := BX.out.frozen (i := 0) rfl 1; have qg10_2 : World.cell? _ ⟨g10, 2, none⟩ = some (.int .i64 (rd_T50 l0 (kk : Int)).f2) := BX.out.cell (i := 0) rfl (j := 2) rfl; have fqg10_2 : World.frozen? _ ⟨g10, 2, none⟩ = false := BX.out.frozen (i := 0) rfl 2; have qg10_3 : World.cell? _ ⟨g10, 3, none⟩ = some (.int .i64 (rd_T50 l0 (kk : Int)).f3) := BX.out.cell (i := 0) rfl (j := 3) rfl; have fqg10_3 : World.frozen? _ ⟨g10, 3, none⟩ = false := BX.out.frozen (i := 0) rfl 3) | fail)
                go_roundg (l0.length - (kk + 1))
                case measure => omega
                case rel => exact ⟨kk + 1, by omega, by omega, by go_num, ⟨BX.out.low⟩, ⟨(HS.out.same ((BX.out.at_ (i := 1) rfl).trans HM.out.symm)).imp (fun _ => rfl) (Nat.le_refl _)⟩, ⟨by rw [impl_makeable.l0, ← HOS.out, ← HVE.out, ← HKE.out]; have hR_ := R_of_raw hgo (BX.out.at_ (i := 2) rfl) (by simpa [hol] using HSP.out) hco; simpa [hol] using hR_⟩⟩)
            by_cases h3 : (rd_T50 l0 (kk : Int)).f0 = 3 ∨ (rd_T50 l0 (kk : Int)).f0 = 4 ∨ (rd_T50 l0 (kk : Int)).f0 = 5
            · have e1 : ((rd_T50 l0 (kk : Int)).f0 == 1) = false := by simp; omega
              have e6 : ((rd_T50 l0 (kk : Int)).f0 == 6) = false := by simp; omega
              have h345 : (((rd_T50 l0 (kk : Int)).f0 == 3) || (((rd_T50 l0 (kk : Int)).f0 == 4) || ((rd_T50 l0 (kk : Int)).f0 == 5))) = true := by simp; omega
              have e5 : ((rd_T50 l0 (kk : Int)).f0 == 3) = false → ((rd_T50 l0 (kk : Int)).f0 == 4) = false → ((rd_T50 l0 (kk : Int)).f0 == 5) = true := by simp; omega
              have hA_ := hbo.1 (by omega)
              have hB_ := hbo.2 (by omega)
              obtain ⟨a_, hav⟩ : ∃ b, rdOf false os_ (rd_T50 l0 (kk : Int)).f1 = b := ⟨_, rfl⟩
              have pA : (0 ≤ (rd_T50 l0 (kk : Int)).f1) = True := eq_true hA_.1
              have qA : ((rd_T50 l0 (kk : Int)).f1 < (l0.length : Int)) = True := eq_true hA_.2
              obtain ⟨b_, hbv⟩ : ∃ b, rdOf false os_ (rd_T50 l0 (kk : Int)).f2 = b := ⟨_, rfl⟩
              have pB : (0 ≤ (rd_T50 l0 (kk : Int)).f2) = True := eq_true hB_.1
              have qB : ((rd_T50 l0 (kk : Int)).f2 < (l0.length : Int)) = True := eq_true hB_.2
              obtain ⟨V_, hV_⟩ : ∃ b, b = (a_ && b_) := ⟨_, rfl⟩
              have HVE : Aside0 (V_ = impl_makeable.r (impl_makeable.s0 l0 l1 l0.length) os_ (kk : Int) (rd_T50 l0 (kk : Int))) := ⟨by rw [hV_, impl_makeable.r]; simp only [e1, h345, cond_true, cond_false, hav, hbv]; try rfl⟩
              clear hbo
              have hp : (((rd_T50 l0 (kk : Int)).f0 == 3) = true ∧ a_ = true ∧ b_ = true) ∨ (((rd_T50 l0 (kk : Int)).f0 == 3) = true ∧ a_ = true ∧ b_ = false ∧ K_ = true) ∨ (((rd_T50 l0 (kk : Int)).f0 == 3) = true ∧ a_ = true ∧ b_ = false ∧ K_ = false) ∨ (((rd_T50 l0 (kk : Int)).f0 == 3) = true ∧ a_ = false ∧ K_ = true) ∨ (((rd_T50 l0 (kk : Int)).f0 == 3) = true ∧ a_ = false ∧ K_ = false) ∨ (((rd_T50 l0 (kk : Int)).f0 == 3) = false ∧ ((rd_T50 l0 (kk : Int)).f0 == 4) = true ∧ a_ = true ∧ b_ = true) ∨ (((rd_T50 l0 (kk : Int)).f0 == 3) = false ∧ ((rd_T50 l0 (kk : Int)).f0 == 4) = true ∧ a_ = true ∧ b_ = false ∧ K_ = true) ∨ (((rd_T50 l0 (kk : Int)).f0 == 3) = false ∧ ((rd_T50 l0 (kk : Int)).f0 == 4) = true ∧ a_ = true ∧ b_ = false ∧ K_ = false) ∨ (((rd_T50 l0 (kk : Int)).f0 == 3) = false ∧ ((rd_T50 l0 (kk : Int)).f0 == 4) = true ∧ a_ = false ∧ K_ = true) ∨ (((rd_T50 l0 (kk : Int)).f0 == 3) = false ∧ ((rd_T50 l0 (kk : Int)).f0 == 4) = true ∧ a_ = false ∧ K_ = false) ∨ (((rd_T50 l0 (kk : Int)).f0 == 3) = false ∧ ((rd_T50 l0 (kk : Int)).f0 == 4) = false ∧ a_ = true ∧ b_ = true) ∨ (((rd_T50 l0 (kk : Int)).f0 == 3) = false ∧ ((rd_T50 l0 (kk : Int)).f0 == 4) = false ∧ a_ = true ∧ b_ = false ∧ K_ = true) ∨ (((rd_T50 l0 (kk : Int)).f0 == 3) = false ∧ ((rd_T50 l0 (kk : Int)).f0 == 4) = false ∧ a_ = true ∧ b_ = false ∧ K_ = false) ∨ (((rd_T50 l0 (kk : Int)).f0 == 3) = false ∧ ((rd_T50 l0 (kk : Int)).f0 == 4) = false ∧ a_ = false ∧ K_ = true) ∨ (((rd_T50 l0 (kk : Int)).f0 == 3) = false ∧ ((rd_T50 l0 (kk : Int)).f0 == 4) = false ∧ a_ = false ∧ K_ = false) := by
                rcases Bool.eq_false_or_eq_true (((rd_T50 l0 (kk : Int)).f0 == 3)) with e3 | e3
                · rcases Bool.eq_false_or_eq_true (a_) with av | av
                  · rcases Bool.eq_false_or_eq_true (b_) with bv | bv
                    · exact .inl ⟨e3, av, bv⟩
                    · rcases Bool.eq_false_or_eq_true (K_) with kn | kn
                      · exact .inr (.inl ⟨e3, av, bv, kn⟩)
                      · exact .inr (.inr (.inl ⟨e3, av, bv, kn⟩))
                  · rcases Bool.eq_false_or_eq_true (K_) with kn | kn
                    · exact .inr (.inr (.inr (.inl ⟨e3, av, kn⟩)))
                    · exact .inr (.inr (.inr (.inr (.inl ⟨e3, av, kn⟩))))
                · rcases Bool.eq_false_or_eq_true (((rd_T50 l0 (kk : Int)).f0 == 4)) with e4 | e4
                  · rcases Bool.eq_false_or_eq_true (a_) with av | av
                    · rcases Bool.eq_false_or_eq_true (b_) with bv | bv
                      · exact .inr (.inr (.inr (.inr (.inr (.inl ⟨e3, e4, av, bv⟩)))))
                      · rcases Bool.eq_false_or_eq_true (K_) with kn | kn
                        · exact .inr (.inr (.inr (.inr (.inr (.inr (.inl ⟨e3, e4, av, bv, kn⟩))))))
                        · exact .inr (.inr (.inr (.inr (.inr (.inr (.inr (.inl ⟨e3, e4, av, bv, kn⟩)))))))
                    · rcases Bool.eq_false_or_eq_true (K_) with kn | kn
                      · exact .inr (.inr (.inr (.inr (.inr (.inr (.inr (.inr (.inl ⟨e3, e4, av, kn⟩))))))))
                      · exact .inr (.inr (.inr (.inr (.inr (.inr (.inr (.inr (.inr (.inl ⟨e3, e4, av, kn⟩)))))))))
                  · rcases Bool.eq_false_or_eq_true (a_) with av | av
                    · rcases Bool.eq_false_or_eq_true (b_) with bv | bv
                      · exact .inr (.inr (.inr (.inr (.inr (.inr (.inr (.inr (.inr (.inr (.inl ⟨e3, e4, av, bv⟩))))))))))
                      · rcases Bool.eq_false_or_eq_true (K_) with kn | kn
                        · exact .inr (.inr (.inr (.inr (.inr (.inr (.inr (.inr (.inr (.inr (.inr (.inl ⟨e3, e4, av, bv, kn⟩)))))))))))
                        · exact .inr (.inr (.inr (.inr (.inr (.inr (.inr (.inr (.inr (.inr (.inr (.inr (.inl ⟨e3, e4, av, bv, kn⟩))))))))))))
                    · rcases Bool.eq_false_or_eq_true (K_) with kn | kn
                      · exact .inr (.inr (.inr (.inr (.inr (.inr (.inr (.inr (.inr (.inr (.inr (.inr (.inr (.inl ⟨e3, e4, av, kn⟩)))))))))))))
                      · exact .inr (.inr (.inr (.inr (.inr (.inr (.inr (.inr (.inr (.inr (.inr (.inr (.inr (.inr ⟨e3, e4, av, kn⟩)))))))))))))
              rcases hp with ⟨e3, av, bv⟩ | ⟨e3, av, bv, kn⟩ | ⟨e3, av, bv, kn⟩ | ⟨e3, av, kn⟩ | ⟨e3, av, kn⟩ | ⟨e3, e4, av, bv⟩ | ⟨e3, e4, av, bv, kn⟩ | ⟨e3, e4, av, bv, kn⟩ | ⟨e3, e4, av, kn⟩ | ⟨e3, e4, av, kn⟩ | ⟨e3, e4, av, bv⟩ | ⟨e3, e4, av, bv, kn⟩ | ⟨e3, e4, av, bv, kn⟩ | ⟨e3, e4, av, kn⟩ | ⟨e3, e4, av, kn⟩
              all_goals (
                go_wp2_with (first | ((with_reducible refine gate_dst (N := 10) rfl ?_); refine box_event ?hg (N := 10) ?hd (cs := #[.int .i64 0, .int .i64 0, .int .i64 0, .int .i64 0]) (t := 50) ?hr ?_; (case hd => rfl); (case hg => rfl); (case hr => first | (go_simp; done) | (go_simp; rfl)); intro g10 hg w10_ hbox hb; have BY := Aside0.mk (Objs.new (w0 := w) (bs := [(w5.heap.size, .map es_ ck_), (go, .cells (rawB os_ sp_) 4 (0, 0))]) (by (with_reducible repeat (first | refine Objs.drewN ?_ _ | refine Objs.drew ?_ | refine Objs.alloc ?_ _)); exact BX.out) hg hbox hb); clear BX hb hbox hg; have BX := BY; clear BY; have qg10_0 : World.cell? _ ⟨g10, 0, none⟩ = some (.int .i64 0) := BX.out.cell (i := 0) rfl (j := 0) rfl; have fqg10_0 : World.frozen? _ ⟨g10, 0, none⟩ = false := BX.out.frozen (i := 0) rfl 0; have qg10_1 : World.cell? _ ⟨g10, 1, none⟩ = some (.int .i64 0) := BX.out.cell (i := 0) rfl (j := 1) rfl; have fqg10_1 : World.frozen? _ ⟨g10, 1, none⟩ = false := BX.out.frozen (i := 0) rfl 1; have qg10_2 : World.cell? _ ⟨g10, 2, none⟩ = some (.int .i64 0) := BX.out.cell (i := 0) rfl (j := 2) rfl; have fqg10_2 : World.frozen? _ ⟨g10, 2, none⟩ = false := BX.out.frozen (i := 0) rfl 2; have qg10_3 : World.cell? _ ⟨g10, 3, none⟩ = some (.int .i64 0) := BX.out.cell (i := 0) rfl (j := 3) rfl; have fqg10_3 : World.frozen? _ ⟨g10, 3, none⟩ = false := BX.out.frozen (i := 0) rfl 3) | ((with_reducible refine gate_store (t := 50) (p := 10) rfl ?_); refine objs_store (w0 := w) (bs := [(g10, .cells #[.int .i64 (rd_T50 l0 (kk : Int)).f0, .int .i64 (rd_T50 l0 (kk : Int)).f1, .int .i64 (rd_T50 l0 (kk : Int)).f2, .int .i64 (rd_T50 l0 (kk : Int)).f3] 50 (0, 0)), (w5.heap.size, .map es_ ck_), (go, .cells (rawB os_ sp_) 4 (0, 0))]) (W1 := (((World.setCell w10_ ⟨g10, 0, none⟩ (.int .i64 (rd_T50 l0 (kk : Int)).f0)).setCell ⟨g10, 1, none⟩ (.int .i64 (rd_T50 l0 (kk : Int)).f1)).setCell ⟨g10, 2, none⟩ (.int .i64 (rd_T50 l0 (kk : Int)).f2)).setCell ⟨g10, 3, none⟩ (.int .i64 (rd_T50 l0 (kk : Int)).f3)) rfl rfl rfl ?hr ((((Objs.put (w0 := w) (b1 := []) (b2 := [(w5.heap.size, .map es_ ck_), (go, .cells (rawB os_ sp_) 4 (0, 0))]) BX.out 0 (.int .i64 (rd_T50 l0 (kk : Int)).f0) rfl).put (b1 := []) 1 (.int .i64 (rd_T50 l0 (kk : Int)).f1) rfl).put (b1 := []) 2 (.int .i64 (rd_T50 l0 (kk : Int)).f2) rfl).put (b1 := []) 3 (.int .i64 (rd_T50 l0 (kk : Int)).f3) rfl) ?_; (case hr => first | (go_simp; done) | (go_simp; rfl)); intro w11_ BY; have BY := Aside0.mk BY; clear BX; have BX := BY; clear BY; clear qg10_0 fqg10_0 qg10_1 fqg10_1 qg10_2 fqg10_2 qg10_3 fqg10_3; have qg10_0 : World.cell? _ ⟨g10, 0, none⟩ = some (.int .i64 (rd_T50 l0 (kk : Int)).f0) := BX.out.cell (i := 0) rfl (j := 0) rfl; have fqg10_0 : World.frozen? _ ⟨g10, 0, none⟩ = false := BX.out.frozen (i := 0) rfl 0; have qg10_1 : World.cell? _ ⟨g10, 1, none⟩ = some (.int .i64 (rd_T50 l0 (kk : Int)).f1) := BX.out.cell (i := 0) rfl (j := 1) rfl; have fqg10_1 : World.frozen? _ ⟨g10, 1, none⟩ = false := BX.out.frozen (i := 0) rfl 1; have qg10_2 : World.cell? _ ⟨g10, 2, none⟩ = some (.int .i64 (rd_T50 l0 (kk : Int)).f2) := BX.out.cell (i := 0) rfl (j := 2) rfl; have fqg10_2 : World.frozen? _ ⟨g10, 2, none⟩ = false := BX.out.frozen (i := 0) rfl 2; have qg10_3 : World.cell? _ ⟨g10, 3, none⟩ = some (.int .i64 (rd_T50 l0 (kk : Int)).f3) := BX.out.cell (i := 0) rfl (j := 3) rfl; have fqg10_3 : World.frozen? _ ⟨g10, 3, none⟩ = false := BX.out.frozen (i := 0) rfl 3; have hk : World.cell? _ (ad1.add kk) = some (.bool K_) := (BX.out.low.cell (World.block_lt_of_cell? w _ HK.out)).trans HK.out; have hA : World.cell? _ ⟨go, ((rd_T50 l0 (kk : Int)).f1).toNat, none⟩ = some (.bool a_) := BX.out.cell (i := 2) rfl ((rawB_get' os_ sp_ (rd_T50 l0 (kk : Int)).f1 hA_.1 (by omega)).trans (by rw [hav])); have hB : World.cell? _ ⟨go, ((rd_T50 l0 (kk : Int)).f2).toNat, none⟩ = some (.bool b_) := BX.out.cell (i := 2) rfl ((rawB_get' os_ sp_ (rd_T50 l0 (kk : Int)).f2 hB_.1 (by omega)).trans (by rw [hbv])); have hN : World.cell? _ ⟨go, kk, none⟩ = some (.bool (rdOf false os_ (kk : Int))) := BX.out.cell (i := 2) rfl (rawB_get os_ sp_ kk (by omega)); have fgo : World.frozen? _ ⟨go, kk, none⟩ = false := BX.out.frozen (i := 2) rfl kk) | ((with_reducible refine gate_store (t := 4) (p := 67) rfl ?_); refine objs_store (w0 := w) (bs := [(g10, .cells #[.int .i64 (rd_T50 l0 (kk : Int)).f0, .int .i64 (rd_T50 l0 (kk : Int)).f1, .int .i64 (rd_T50 l0 (kk : Int)).f2, .int .i64 (rd_T50 l0 (kk : Int)).f3] 50 (0, 0)), (w5.heap.size, .map es_ ck_), (go, .cells (rawB (os_.set kk V_) sp_) 4 (0, 0))]) (W1 := World.setCell w11_ ⟨go, kk, none⟩ (.bool V_)) rfl rfl rfl ?hr (Objs.put (w0 := w) (b1 := [(g10, .cells #[.int .i64 (rd_T50 l0 (kk : Int)).f0, .int .i64 (rd_T50 l0 (kk : Int)).f1, .int .i64 (rd_T50 l0 (kk : Int)).f2, .int .i64 (rd_T50 l0 (kk : Int)).f3] 50 (0, 0)), (w5.heap.size, .map es_ ck_)]) (b2 := []) BX.out (kk) (.bool V_) (rawB_set os_ sp_ kk (by omega) V_)) ?_; (case hr => first | (go_simp; done) | (go_simp; rfl)); intro w12_ BY; have BY := Aside0.mk BY; clear BX; have BX := BY; clear BY; clear qg10_0 fqg10_0 qg10_1 fqg10_1 qg10_2 fqg10_2 qg10_3 fqg10_3 hk hA hB hN fgo; have qg10_0 : World.cell? _ ⟨g10, 0, none⟩ = some (.int .i64 (rd_T50 l0 (kk : Int)).f0) := BX.out.cell (i := 0) rfl (j := 0) rfl; have fqg10_0 : World.frozen? _ ⟨g10, 0, none⟩ = false := BX.out.frozen (i := 0) rfl 0; have qg10_1 : World.cell? _ ⟨g10, 1, none⟩ = some (.int .i64 (rd_T50 l0 (kk : Int)).f1) := BX.out.cell (i := 0) rfl (j := 1) rfl; have fqg10_1 : World.frozen? _ ⟨g10, 1, none⟩ = false := BX.out.frozen (i := 0) rfl 1; have qg10_2 : World.cell? _ ⟨g10, 2, none⟩ = some (.int .i64 (rd_T50 l0 (kk : Int)).f2) := BX.out.cell (i := 0) rfl (j := 2) rfl; have fqg10_2 : World.frozen? _ ⟨g10, 2, none⟩ = false := BX.out.frozen (i := 0) rfl 2; have qg10_3 : World.cell? _ ⟨g10, 3, none⟩ = some (.int .i64 (rd_T50 l0 (kk : Int)).f3) := BX.out.cell (i := 0) rfl (j := 3) rfl; have fqg10_3 : World.frozen? _ ⟨g10, 3, none⟩ = false := BX.out.frozen (i := 0) rfl 3; have hk : World.cell? _ (ad1.add kk) = some (.bool K_) := (BX.out.low.cell (World.block_lt_of_cell? w _ HK.out)).trans HK.out; have hN : World.cell? _ ⟨go, kk, none⟩ = some (.bool V_) := BX.out.cell (i := 2) rfl (rawB_at os_ sp_ kk (by omega) V_); have fgo : World.frozen? _ ⟨go, kk, none⟩ = false := BX.out.frozen (i := 2) rfl kk) | ((with_reducible refine gate_store (t := 4) (p := 126) rfl ?_); refine objs_store (w0 := w) (bs := [(g10, .cells #[.int .i64 (rd_T50 l0 (kk : Int)).f0, .int .i64 (rd_T50 l0 (kk : Int)).f1, .int .i64 (rd_T50 l0 (kk : Int)).f2, .int .i64 (rd_T50 l0 (kk : Int)).f3] 50 (0, 0)), (w5.heap.size, .map es_ ck_), (go, .cells (rawB ((os_.set kk V_).set kk (V_ || K_)) sp_) 4 (0, 0))]) (W1 := World.setCell w12_ ⟨go, kk, none⟩ (.bool (V_ || K_))) rfl rfl rfl ?hr (Objs.put (w0 := w) (b1 := [(g10, .cells #[.int .i64 (rd_T50 l0 (kk : Int)).f0, .int .i64 (rd_T50 l0 (kk : Int)).f1, .int .i64 (rd_T50 l0 (kk : Int)).f2, .int .i64 (rd_T50 l0 (kk : Int)).f3] 50 (0, 0)), (w5.heap.size, .map es_ ck_)]) (b2 := []) BX.out (kk) (.bool (V_ || K_)) (rawB_set (os_.set kk V_) sp_ kk (by rw [List.length_set]; omega) (V_ || K_))) ?_; (case hr => first | (go_simp; done) | (go_simp; rfl)); intro w13_ BY; have BY := Aside0.mk BY; clear BX; have BX := BY; clear BY; clear qg10_0 fqg10_0 qg10_1 fqg10_1 qg10_2 fqg10_2 qg10_3 fqg10_3 hk hN fgo; have qg10_0 : World.cell? _ ⟨g10, 0, none⟩ = some (.int .i64 (rd_T50 l0 (kk : Int)).f0) := BX.out.cell (i := 0) rfl (j := 0) rfl; have fqg10_0 : World.frozen? _ ⟨g10, 0, none⟩ = false := BX.out.frozen (i := 0) rfl 0; have qg10_1 : World.cell? _ ⟨g10, 1, none⟩ = some (.int .i64 (rd_T50 l0 (kk : Int)).f1) := BX.out.cell (i := 0) rfl (j := 1) rfl; have fqg10_1 : World.frozen? _ ⟨g10, 1, none⟩ = false := BX.out.frozen (i := 0) rfl 1; have qg10_2 : World.cell? _ ⟨g10, 2, none⟩ = some (.int .i64 (rd_T50 l0 (kk : Int)).f2) := BX.out.cell (i := 0) rfl (j := 2) rfl; have fqg10_2 : World.frozen? _ ⟨g10, 2, none⟩ = false := BX.out.frozen (i := 0) rfl 2; have qg10_3 : World.cell? _ ⟨g10, 3, none⟩ = some (.int .i64 (rd_T50 l0 (kk : Int)).f3) := BX.out.cell (i := 0) rfl (j := 3) rfl; have fqg10_3 : World.frozen? _ ⟨g10, 3, none⟩ = false := BX.out.frozen (i := 0) rfl 3) | fail)
                go_roundg (l0.length - (kk + 1))
                case measure => omega
                case rel => exact ⟨kk + 1, by omega, by omega, by go_num, ⟨BX.out.low⟩, ⟨(HS.out.same ((BX.out.at_ (i := 1) rfl).trans HM.out.symm)).imp (fun _ => rfl) (Nat.le_refl _)⟩, ⟨by rw [impl_makeable.l0, ← HOS.out, ← HVE.out, ← HKE.out]; have hR_ := R_of_raw hgo (BX.out.at_ (i := 2) rfl) (by simpa [hol] using HSP.out) hco; simpa [hol] using hR_⟩⟩)
            by_cases h6 : (rd_T50 l0 (kk : Int)).f0 = 6
            · have e1 : ((rd_T50 l0 (kk : Int)).f0 == 1) = false := by simp; omega
              have e3 : ((rd_T50 l0 (kk : Int)).f0 == 3) = false := by simp; omega
              have e4 : ((rd_T50 l0 (kk : Int)).f0 == 4) = false := by simp; omega
              have e5 : ((rd_T50 l0 (kk : Int)).f0 == 5) = false := by simp; omega
              have e6 : ((rd_T50 l0 (kk : Int)).f0 == 6) = true := by simp; omega
              have hA_ := hbo.1 (by omega)
              obtain ⟨a_, hav⟩ : ∃ b, rdOf false os_ (rd_T50 l0 (kk : Int)).f1 = b := ⟨_, rfl⟩
              have pA : (0 ≤ (rd_T50 l0 (kk : Int)).f1) = True := eq_true hA_.1
              have qA : ((rd_T50 l0 (kk : Int)).f1 < (l0.length : Int)) = True := eq_true hA_.2
              obtain ⟨V_, hV_⟩ : ∃ b, b = a_ := ⟨_, rfl⟩
              have HVE : Aside0 (V_ = impl_makeable.r (impl_makeable.s0 l0 l1 l0.length) os_ (kk : Int) (rd_T50 l0 (kk : Int))) := ⟨by rw [hV_, impl_makeable.r]; simp only [e1, e3, e4, e5, e6, cond_true, cond_false, Bool.or_false, Bool.false_or, hav]; try rfl⟩
              clear hbo
              have hp : (a_ = true) ∨ (a_ = false ∧ K_ = true) ∨ (a_ = false ∧ K_ = false) := by
                rcases Bool.eq_false_or_eq_true (a_) with av | av
                · exact .inl av
                · rcases Bool.eq_false_or_eq_true (K_) with kn | kn
                  · exact .inr (.inl ⟨av, kn⟩)
                  · exact .inr (.inr ⟨av, kn⟩)
              rcases hp with av | ⟨av, kn⟩ | ⟨av, kn⟩
              all_goals (
                go_wp2_with (first | ((with_reducible refine gate_dst (N := 10) rfl ?_); refine box_event ?hg (N := 10) ?hd (cs := #[.int .i64 0, .int .i64 0, .int .i64 0, .int .i64 0]) (t := 50) ?hr ?_; (case hd => rfl); (case hg => rfl); (case hr => first | (go_simp; done) | (go_simp; rfl)); intro g10 hg w10_ hbox hb; have BY := Aside0.mk (Objs.new (w0 := w) (bs := [(w5.heap.size, .map es_ ck_), (go, .cells (rawB os_ sp_) 4 (0, 0))]) (by (with_reducible repeat (first | refine Objs.drewN ?_ _ | refine Objs.drew ?_ | refine Objs.alloc ?_ _)); exact BX.out) hg hbox hb); clear BX hb hbox hg; have BX := BY; clear BY; have qg10_0 : World.cell? _ ⟨g10, 0, none⟩ = some (.int .i64 0) := BX.out.cell (i := 0) rfl (j := 0) rfl; have fqg10_0 : World.frozen? _ ⟨g10, 0, none⟩ = false := BX.out.frozen (i := 0) rfl 0; have qg10_1 : World.cell? _ ⟨g10, 1, none⟩ = some (.int .i64 0) := BX.out.cell (i := 0) rfl (j := 1) rfl; have fqg10_1 : World.frozen? _ ⟨g10, 1, none⟩ = false := BX.out.frozen (i := 0) rfl 1; have qg10_2 : World.cell? _ ⟨g10, 2, none⟩ = some (.int .i64 0) := BX.out.cell (i := 0) rfl (j := 2) rfl; have fqg10_2 : World.frozen? _ ⟨g10, 2, none⟩ = false := BX.out.frozen (i := 0) rfl 2; have qg10_3 : World.cell? _ ⟨g10, 3, none⟩ = some (.int .i64 0) := BX.out.cell (i := 0) rfl (j := 3) rfl; have fqg10_3 : World.frozen? _ ⟨g10, 3, none⟩ = false := BX.out.frozen (i := 0) rfl 3) | ((with_reducible refine gate_store (t := 50) (p := 10) rfl ?_); refine objs_store (w0 := w) (bs := [(g10, .cells #[.int .i64 (rd_T50 l0 (kk : Int)).f0, .int .i64 (rd_T50 l0 (kk : Int)).f1, .int .i64 (rd_T50 l0 (kk : Int)).f2, .int .i64 (rd_T50 l0 (kk : Int)).f3] 50 (0, 0)), (w5.heap.size, .map es_ ck_), (go, .cells (rawB os_ sp_) 4 (0, 0))]) (W1 := (((World.setCell w10_ ⟨g10, 0, none⟩ (.int .i64 (rd_T50 l0 (kk : Int)).f0)).setCell ⟨g10, 1, none⟩ (.int .i64 (rd_T50 l0 (kk : Int)).f1)).setCell ⟨g10, 2, none⟩ (.int .i64 (rd_T50 l0 (kk : Int)).f2)).setCell ⟨g10, 3, none⟩ (.int .i64 (rd_T50 l0 (kk : Int)).f3)) rfl rfl rfl ?hr ((((Objs.put (w0 := w) (b1 := []) (b2 := [(w5.heap.size, .map es_ ck_), (go, .cells (rawB os_ sp_) 4 (0, 0))]) BX.out 0 (.int .i64 (rd_T50 l0 (kk : Int)).f0) rfl).put (b1 := []) 1 (.int .i64 (rd_T50 l0 (kk : Int)).f1) rfl).put (b1 := []) 2 (.int .i64 (rd_T50 l0 (kk : Int)).f2) rfl).put (b1 := []) 3 (.int .i64 (rd_T50 l0 (kk : Int)).f3) rfl) ?_; (case hr => first | (go_simp; done) | (go_simp; rfl)); intro w11_ BY; have BY := Aside0.mk BY; clear BX; have BX := BY; clear BY; clear qg10_0 fqg10_0 qg10_1 fqg10_1 qg10_2 fqg10_2 qg10_3 fqg10_3; have qg10_0 : World.cell? _ ⟨g10, 0, none⟩ = some (.int .i64 (rd_T50 l0 (kk : Int)).f0) := BX.out.cell (i := 0) rfl (j := 0) rfl; have fqg10_0 : World.frozen? _ ⟨g10, 0, none⟩ = false := BX.out.frozen (i := 0) rfl 0; have qg10_1 : World.cell? _ ⟨g10, 1, none⟩ = some (.int .i64 (rd_T50 l0 (kk : Int)).f1) := BX.out.cell (i := 0) rfl (j := 1) rfl; have fqg10_1 : World.frozen? _ ⟨g10, 1, none⟩ = false := BX.out.frozen (i := 0) rfl 1; have qg10_2 : World.cell? _ ⟨g10, 2, none⟩ = some (.int .i64 (rd_T50 l0 (kk : Int)).f2) := BX.out.cell (i := 0) rfl (j := 2) rfl; have fqg10_2 : World.frozen? _ ⟨g10, 2, none⟩ = false := BX.out.frozen (i := 0) rfl 2; have qg10_3 : World.cell? _ ⟨g10, 3, none⟩ = some (.int .i64 (rd_T50 l0 (kk : Int)).f3) := BX.out.cell (i := 0) rfl (j := 3) rfl; have fqg10_3 : World.frozen? _ ⟨g10, 3, none⟩ = false := BX.out.frozen (i := 0) rfl 3; have hk : World.cell? _ (ad1.add kk) = some (.bool K_) := (BX.out.low.cell (World.block_lt_of_cell? w _ HK.out)).trans HK.out; have hA : World.cell? _ ⟨go, ((rd_T50 l0 (kk : Int)).f1).toNat, none⟩ = some (.bool a_) := BX.out.cell (i := 2) rfl ((rawB_get' os_ sp_ (rd_T50 l0 (kk : Int)).f1 hA_.1 (by omega)).trans (by rw [hav])); have hN : World.cell? _ ⟨go, kk, none⟩ = some (.bool (rdOf false os_ (kk : Int))) := BX.out.cell (i := 2) rfl (rawB_get os_ sp_ kk (by omega)); have fgo : World.frozen? _ ⟨go, kk, none⟩ = false := BX.out.frozen (i := 2) rfl kk) | ((with_reducible refine gate_store (t := 4) (p := 77) rfl ?_); refine objs_store (w0 := w) (bs := [(g10, .cells #[.int .i64 (rd_T50 l0 (kk : Int)).f0, .int .i64 (rd_T50 l0 (kk : Int)).f1, .int .i64 (rd_T50 l0 (kk : Int)).f2, .int .i64 (rd_T50 l0 (kk : Int)).f3] 50 (0, 0)), (w5.heap.size, .map es_ ck_), (go, .cells (rawB (os_.set kk V_) sp_) 4 (0, 0))]) (W1 := World.setCell w11_ ⟨go, kk, none⟩ (.bool V_)) rfl rfl rfl ?hr (Objs.put (w0 := w) (b1 := [(g10, .cells #[.int .i64 (rd_T50 l0 (kk : Int)).f0, .int .i64 (rd_T50 l0 (kk : Int)).f1, .int .i64 (rd_T50 l0 (kk : Int)).f2, .int .i64 (rd_T50 l0 (kk : Int)).f3] 50 (0, 0)), (w5.heap.size, .map es_ ck_)]) (b2 := []) BX.out (kk) (.bool V_) (rawB_set os_ sp_ kk (by omega) V_)) ?_; (case hr => first | (go_simp; done) | (go_simp; rfl)); intro w12_ BY; have BY := Aside0.mk BY; clear BX; have BX := BY; clear BY; clear qg10_0 fqg10_0 qg10_1 fqg10_1 qg10_2 fqg10_2 qg10_3 fqg10_3 hk hA hN fgo; have qg10_0 : World.cell? _ ⟨g10, 0, none⟩ = some (.int .i64 (rd_T50 l0 (kk : Int)).f0) := BX.out.cell (i := 0) rfl (j := 0) rfl; have fqg10_0 : World.frozen? _ ⟨g10, 0, none⟩ = false := BX.out.frozen (i := 0) rfl 0; have qg10_1 : World.cell? _ ⟨g10, 1, none⟩ = some (.int .i64 (rd_T50 l0 (kk : Int)).f1) := BX.out.cell (i := 0) rfl (j := 1) rfl; have fqg10_1 : World.frozen? _ ⟨g10, 1, none⟩ = false := BX.out.frozen (i := 0) rfl 1; have qg10_2 : World.cell? _ ⟨g10, 2, none⟩ = some (.int .i64 (rd_T50 l0 (kk : Int)).f2) := BX.out.cell (i := 0) rfl (j := 2) rfl; have fqg10_2 : World.frozen? _ ⟨g10, 2, none⟩ = false := BX.out.frozen (i := 0) rfl 2; have qg10_3 : World.cell? _ ⟨g10, 3, none⟩ = some (.int .i64 (rd_T50 l0 (kk : Int)).f3) := BX.out.cell (i := 0) rfl (j := 3) rfl; have fqg10_3 : World.frozen? _ ⟨g10, 3, none⟩ = false := BX.out.frozen (i := 0) rfl 3; have hk : World.cell? _ (ad1.add kk) = some (.bool K_) := (BX.out.low.cell (World.block_lt_of_cell? w _ HK.out)).trans HK.out; have hN : World.cell? _ ⟨go, kk, none⟩ = some (.bool V_) := BX.out.cell (i := 2) rfl (rawB_at os_ sp_ kk (by omega) V_); have fgo : World.frozen? _ ⟨go, kk, none⟩ = false := BX.out.frozen (i := 2) rfl kk) | ((with_reducible refine gate_store (t := 4) (p := 126) rfl ?_); refine objs_store (w0 := w) (bs := [(g10, .cells #[.int .i64 (rd_T50 l0 (kk : Int)).f0, .int .i64 (rd_T50 l0 (kk : Int)).f1, .int .i64 (rd_T50 l0 (kk : Int)).f2, .int .i64 (rd_T50 l0 (kk : Int)).f3] 50 (0, 0)), (w5.heap.size, .map es_ ck_), (go, .cells (rawB ((os_.set kk V_).set kk (V_ || K_)) sp_) 4 (0, 0))]) (W1 := World.setCell w12_ ⟨go, kk, none⟩ (.bool (V_ || K_))) rfl rfl rfl ?hr (Objs.put (w0 := w) (b1 := [(g10, .cells #[.int .i64 (rd_T50 l0 (kk : Int)).f0, .int .i64 (rd_T50 l0 (kk : Int)).f1, .int .i64 (rd_T50 l0 (kk : Int)).f2, .int .i64 (rd_T50 l0 (kk : Int)).f3] 50 (0, 0)), (w5.heap.size, .map es_ ck_)]) (b2 := []) BX.out (kk) (.bool (V_ || K_)) (rawB_set (os_.set kk V_) sp_ kk (by rw [List.length_set]; omega) (V_ || K_))) ?_; (case hr => first | (go_simp; done) | (go_simp; rfl)); intro w13_ BY; have BY := Aside0.mk BY; clear BX; have BX := BY; clear BY; clear qg10_0 fqg10_0 qg10_1 fqg10_1 qg10_2 fqg10_2 qg10_3 fqg10_3 hk hN fgo; have qg10_0 : World.cell? _ ⟨g10, 0, none⟩ = some (.int .i64 (rd_T50 l0 (kk : Int)).f0) := BX.out.cell (i := 0) rfl (j := 0) rfl; have fqg10_0 : World.frozen? _ ⟨g10, 0, none⟩ = false := BX.out.frozen (i := 0) rfl 0; have qg10_1 : World.cell? _ ⟨g10, 1, none⟩ = some (.int .i64 (rd_T50 l0 (kk : Int)).f1) := BX.out.cell (i := 0) rfl (j := 1) rfl; have fqg10_1 : World.frozen? _ ⟨g10, 1, none⟩ = false := BX.out.frozen (i := 0) rfl 1; have qg10_2 : World.cell? _ ⟨g10, 2, none⟩ = some (.int .i64 (rd_T50 l0 (kk : Int)).f2) := BX.out.cell (i := 0) rfl (j := 2) rfl; have fqg10_2 : World.frozen? _ ⟨g10, 2, none⟩ = false := BX.out.frozen (i := 0) rfl 2; have qg10_3 : World.cell? _ ⟨g10, 3, none⟩ = some (.int .i64 (rd_T50 l0 (kk : Int)).f3) := BX.out.cell (i := 0) rfl (j := 3) rfl; have fqg10_3 : World.frozen? _ ⟨g10, 3, none⟩ = false := BX.out.frozen (i := 0) rfl 3) | fail)
                go_roundg (l0.length - (kk + 1))
                case measure => omega
                case rel => exact ⟨kk + 1, by omega, by omega, by go_num, ⟨BX.out.low⟩, ⟨(HS.out.same ((BX.out.at_ (i := 1) rfl).trans HM.out.symm)).imp (fun _ => rfl) (Nat.le_refl _)⟩, ⟨by rw [impl_makeable.l0, ← HOS.out, ← HVE.out, ← HKE.out]; have hR_ := R_of_raw hgo (BX.out.at_ (i := 2) rfl) (by simpa [hol] using HSP.out) hco; simpa [hol] using hR_⟩⟩)
            by_cases h7 : (rd_T50 l0 (kk : Int)).f0 = 7
            · have e1 : ((rd_T50 l0 (kk : Int)).f0 == 1) = false := by simp; omega
              have e3 : ((rd_T50 l0 (kk : Int)).f0 == 3) = false := by simp; omega
              have e4 : ((rd_T50 l0 (kk : Int)).f0 == 4) = false := by simp; omega
              have e5 : ((rd_T50 l0 (kk : Int)).f0 == 5) = false := by simp; omega
              have e6 : ((rd_T50 l0 (kk : Int)).f0 == 6) = false := by simp; omega
              have e7 : ((rd_T50 l0 (kk : Int)).f0 == 7) = true := by simp; omega
              have hA_ := hbo.1 (by omega)
              have hB_ := hbo.2 (by omega)
              obtain ⟨a_, hav⟩ : ∃ b, rdOf false os_ (rd_T50 l0 (kk : Int)).f1 = b := ⟨_, rfl⟩
              have pA : (0 ≤ (rd_T50 l0 (kk : Int)).f1) = True := eq_true hA_.1
              have qA : ((rd_T50 l0 (kk : Int)).f1 < (l0.length : Int)) = True := eq_true hA_.2
              obtain ⟨b_, hbv⟩ : ∃ b, rdOf false os_ (rd_T50 l0 (kk : Int)).f2 = b := ⟨_, rfl⟩
              have pB : (0 ≤ (rd_T50 l0 (kk : Int)).f2) = True := eq_true hB_.1
              have qB : ((rd_T50 l0 (kk : Int)).f2 < (l0.length : Int)) = True := eq_true hB_.2
              obtain ⟨sA_, hsa⟩ : ∃ b, decide ((rd_T50 l0 (kk : Int)).f1 ∈ impl_makeable.s0 l0 l1 l0.length) = b := ⟨_, rfl⟩
              obtain ⟨sB_, hsb⟩ : ∃ b, decide ((rd_T50 l0 (kk : Int)).f2 ∈ impl_makeable.s0 l0 l1 l0.length) = b := ⟨_, rfl⟩
              have hka : 0 ≤ (rd_T50 l0 (kk : Int)).f1 ∧ (rd_T50 l0 (kk : Int)).f1 < 400 := ⟨hA_.1, by omega⟩
              have hkb : 0 ≤ (rd_T50 l0 (kk : Int)).f2 ∧ (rd_T50 l0 (kk : Int)).f2 < 400 := ⟨hB_.1, by omega⟩
              obtain ⟨V_, hV_⟩ : ∃ b, b = ((a_ && (b_ || sB_)) || (b_ && sA_)) := ⟨_, rfl⟩
              have HVE : Aside0 (V_ = impl_makeable.r (impl_makeable.s0 l0 l1 l0.length) os_ (kk : Int) (rd_T50 l0 (kk : Int))) := ⟨by rw [hV_, impl_makeable.r]; simp only [e1, e3, e4, e5, e6, e7, cond_true, cond_false, Bool.or_false, Bool.false_or, hav, hbv, hsa, hsb]; try rfl⟩
              clear hbo
              have hp : (a_ = true ∧ b_ = true) ∨ (a_ = true ∧ b_ = false ∧ sB_ = true) ∨ (a_ = true ∧ b_ = false ∧ sB_ = false ∧ K_ = true) ∨ (a_ = true ∧ b_ = false ∧ sB_ = false ∧ K_ = false) ∨ (a_ = false ∧ b_ = true ∧ sA_ = true) ∨ (a_ = false ∧ b_ = true ∧ sA_ = false ∧ K_ = true) ∨ (a_ = false ∧ b_ = true ∧ sA_ = false ∧ K_ = false) ∨ (a_ = false ∧ b_ = false ∧ K_ = true) ∨ (a_ = false ∧ b_ = false ∧ K_ = false) := by
                rcases Bool.eq_false_or_eq_true (a_) with av | av
                · rcases Bool.eq_false_or_eq_true (b_) with bv | bv
                  · exact .inl ⟨av, bv⟩
                  · rcases Bool.eq_false_or_eq_true (sB_) with sbv | sbv
                    · exact .inr (.inl ⟨av, bv, sbv⟩)
                    · rcases Bool.eq_false_or_eq_true (K_) with kn | kn
                      · exact .inr (.inr (.inl ⟨av, bv, sbv, kn⟩))
                      · exact .inr (.inr (.inr (.inl ⟨av, bv, sbv, kn⟩)))
                · rcases Bool.eq_false_or_eq_true (b_) with bv | bv
                  · rcases Bool.eq_false_or_eq_true (sA_) with sav | sav
                    · exact .inr (.inr (.inr (.inr (.inl ⟨av, bv, sav⟩))))
                    · rcases Bool.eq_false_or_eq_true (K_) with kn | kn
                      · exact .inr (.inr (.inr (.inr (.inr (.inl ⟨av, bv, sav, kn⟩)))))
                      · exact .inr (.inr (.inr (.inr (.inr (.inr (.inl ⟨av, bv, sav, kn⟩))))))
                  · rcases Bool.eq_false_or_eq_true (K_) with kn | kn
                    · exact .inr (.inr (.inr (.inr (.inr (.inr (.inr (.inl ⟨av, bv, kn⟩)))))))
                    · exact .inr (.inr (.inr (.inr (.inr (.inr (.inr (.inr ⟨av, bv, kn⟩)))))))
              rcases hp with ⟨av, bv⟩ | ⟨av, bv, sbv⟩ | ⟨av, bv, sbv, kn⟩ | ⟨av, bv, sbv, kn⟩ | ⟨av, bv, sav⟩ | ⟨av, bv, sav, kn⟩ | ⟨av, bv, sav, kn⟩ | ⟨av, bv, kn⟩ | ⟨av, bv, kn⟩
              all_goals (
                go_wp2_with (first | ((with_reducible refine gate_dst (N := 10) rfl ?_); refine box_event ?hg (N := 10) ?hd (cs := #[.int .i64 0, .int .i64 0, .int .i64 0, .int .i64 0]) (t := 50) ?hr ?_; (case hd => rfl); (case hg => rfl); (case hr => first | (go_simp; done) | (go_simp; rfl)); intro g10 hg w10_ hbox hb; have BY := Aside0.mk (Objs.new (w0 := w) (bs := [(w5.heap.size, .map es_ ck_), (go, .cells (rawB os_ sp_) 4 (0, 0))]) (by (with_reducible repeat (first | refine Objs.drewN ?_ _ | refine Objs.drew ?_ | refine Objs.alloc ?_ _)); exact BX.out) hg hbox hb); clear BX hb hbox hg; have BX := BY; clear BY; have qg10_0 : World.cell? _ ⟨g10, 0, none⟩ = some (.int .i64 0) := BX.out.cell (i := 0) rfl (j := 0) rfl; have fqg10_0 : World.frozen? _ ⟨g10, 0, none⟩ = false := BX.out.frozen (i := 0) rfl 0; have qg10_1 : World.cell? _ ⟨g10, 1, none⟩ = some (.int .i64 0) := BX.out.cell (i := 0) rfl (j := 1) rfl; have fqg10_1 : World.frozen? _ ⟨g10, 1, none⟩ = false := BX.out.frozen (i := 0) rfl 1; have qg10_2 : World.cell? _ ⟨g10, 2, none⟩ = some (.int .i64 0) := BX.out.cell (i := 0) rfl (j := 2) rfl; have fqg10_2 : World.frozen? _ ⟨g10, 2, none⟩ = false := BX.out.frozen (i := 0) rfl 2; have qg10_3 : World.cell? _ ⟨g10, 3, none⟩ = some (.int .i64 0) := BX.out.cell (i := 0) rfl (j := 3) rfl; have fqg10_3 : World.frozen? _ ⟨g10, 3, none⟩ = false := BX.out.frozen (i := 0) rfl 3) | ((with_reducible refine gate_store (t := 50) (p := 10) rfl ?_); refine objs_store (w0 := w) (bs := [(g10, .cells #[.int .i64 (rd_T50 l0 (kk : Int)).f0, .int .i64 (rd_T50 l0 (kk : Int)).f1, .int .i64 (rd_T50 l0 (kk : Int)).f2, .int .i64 (rd_T50 l0 (kk : Int)).f3] 50 (0, 0)), (w5.heap.size, .map es_ ck_), (go, .cells (rawB os_ sp_) 4 (0, 0))]) (W1 := (((World.setCell w10_ ⟨g10, 0, none⟩ (.int .i64 (rd_T50 l0 (kk : Int)).f0)).setCell ⟨g10, 1, none⟩ (.int .i64 (rd_T50 l0 (kk : Int)).f1)).setCell ⟨g10, 2, none⟩ (.int .i64 (rd_T50 l0 (kk : Int)).f2)).setCell ⟨g10, 3, none⟩ (.int .i64 (rd_T50 l0 (kk : Int)).f3)) rfl rfl rfl ?hr ((((Objs.put (w0 := w) (b1 := []) (b2 := [(w5.heap.size, .map es_ ck_), (go, .cells (rawB os_ sp_) 4 (0, 0))]) BX.out 0 (.int .i64 (rd_T50 l0 (kk : Int)).f0) rfl).put (b1 := []) 1 (.int .i64 (rd_T50 l0 (kk : Int)).f1) rfl).put (b1 := []) 2 (.int .i64 (rd_T50 l0 (kk : Int)).f2) rfl).put (b1 := []) 3 (.int .i64 (rd_T50 l0 (kk : Int)).f3) rfl) ?_; (case hr => first | (go_simp; done) | (go_simp; rfl)); intro w11_ BY; have BY := Aside0.mk BY; clear BX; have BX := BY; clear BY; clear qg10_0 fqg10_0 qg10_1 fqg10_1 qg10_2 fqg10_2 qg10_3 fqg10_3; have qg10_0 : World.cell? _ ⟨g10, 0, none⟩ = some (.int .i64 (rd_T50 l0 (kk : Int)).f0) := BX.out.cell (i := 0) rfl (j := 0) rfl; have fqg10_0 : World.frozen? _ ⟨g10, 0, none⟩ = false := BX.out.frozen (i := 0) rfl 0; have qg10_1 : World.cell? _ ⟨g10, 1, none⟩ = some (.int .i64 (rd_T50 l0 (kk : Int)).f1) := BX.out.cell (i := 0) rfl (j := 1) rfl; have fqg10_1 : World.frozen? _ ⟨g10, 1, none⟩ = false := BX.out.frozen (i := 0) rfl 1; have qg10_2 : World.cell? _ ⟨g10, 2, none⟩ = some (.int .i64 (rd_T50 l0 (kk : Int)).f2) := BX.out.cell (i := 0) rfl (j := 2) rfl; have fqg10_2 : World.frozen? _ ⟨g10, 2, none⟩ = false := BX.out.frozen (i := 0) rfl 2; have qg10_3 : World.cell? _ ⟨g10, 3, none⟩ = some (.int .i64 (rd_T50 l0 (kk : Int)).f3) := BX.out.cell (i := 0) rfl (j := 3) rfl; have fqg10_3 : World.frozen? _ ⟨g10, 3, none⟩ = false := BX.out.frozen (i := 0) rfl 3; have hk : World.cell? _ (ad1.add kk) = some (.bool K_) := (BX.out.low.cell (World.block_lt_of_cell? w _ HK.out)).trans HK.out; have hA : World.cell? _ ⟨go, ((rd_T50 l0 (kk : Int)).f1).toNat, none⟩ = some (.bool a_) := BX.out.cell (i := 2) rfl ((rawB_get' os_ sp_ (rd_T50 l0 (kk : Int)).f1 hA_.1 (by omega)).trans (by rw [hav])); have hB : World.cell? _ ⟨go, ((rd_T50 l0 (kk : Int)).f2).toNat, none⟩ = some (.bool b_) := BX.out.cell (i := 2) rfl ((rawB_get' os_ sp_ (rd_T50 l0 (kk : Int)).f2 hB_.1 (by omega)).trans (by rw [hbv])); have hN : World.cell? _ ⟨go, kk, none⟩ = some (.bool (rdOf false os_ (kk : Int))) := BX.out.cell (i := 2) rfl (rawB_get os_ sp_ kk (by omega)); have fgo : World.frozen? _ ⟨go, kk, none⟩ = false := BX.out.frozen (i := 2) rfl kk; have hlB : (Instr.lookup 83 (.map (some w5.heap.size)) (.int .i64 (rd_T50 l0 (kk : Int)).f2) false).run Try.prog w11_ = .ok (.bool sB_) w11_ := (HS.out.same ((BX.out.at_ (i := 1) rfl).trans HM.out.symm)).looks keyedI_ Try.underlying83 Try.underlying4 (zeroBm_ _) (keyI_ hkb) hsb; have hlA : (Instr.lookup 83 (.map (some w5.heap.size)) (.int .i64 (rd_T50 l0 (kk : Int)).f1) false).run Try.prog w11_ = .ok (.bool sA_) w11_ := (HS.out.same ((BX.out.at_ (i := 1) rfl).trans HM.out.symm)).looks keyedI_ Try.underlying83 Try.underlying4 (zeroBm_ _) (keyI_ hka) hsa) | ((with_reducible refine gate_store (t := 4) (p := 113) rfl ?_); refine objs_store (w0 := w) (bs := [(g10, .cells #[.int .i64 (rd_T50 l0 (kk : Int)).f0, .int .i64 (rd_T50 l0 (kk : Int)).f1, .int .i64 (rd_T50 l0 (kk : Int)).f2, .int .i64 (rd_T50 l0 (kk : Int)).f3] 50 (0, 0)), (w5.heap.size, .map es_ ck_), (go, .cells (rawB (os_.set kk V_) sp_) 4 (0, 0))]) (W1 := World.setCell w11_ ⟨go, kk, none⟩ (.bool V_)) rfl rfl rfl ?hr (Objs.put (w0 := w) (b1 := [(g10, .cells #[.int .i64 (rd_T50 l0 (kk : Int)).f0, .int .i64 (rd_T50 l0 (kk : Int)).f1, .int .i64 (rd_T50 l0 (kk : Int)).f2, .int .i64 (rd_T50 l0 (kk : Int)).f3] 50 (0, 0)), (w5.heap.size, .map es_ ck_)]) (b2 := []) BX.out (kk) (.bool V_) (rawB_set os_ sp_ kk (by omega) V_)) ?_; (case hr => first | (go_simp; done) | (go_simp; rfl)); intro w12_ BY; have BY := Aside0.mk BY; clear BX; have BX := BY; clear BY; clear qg10_0 fqg10_0 qg10_1 fqg10_1 qg10_2 fqg10_2 qg10_3 fqg10_3 hk hA hB hN fgo hlB hlA; have qg10_0 : World.cell? _ ⟨g10, 0, none⟩ = some (.int .i64 (rd_T50 l0 (kk : Int)).f0) := BX.out.cell (i := 0) rfl (j := 0) rfl; have fqg10_0 : World.frozen? _ ⟨g10, 0, none⟩ = false := BX.out.frozen (i := 0) rfl 0; have qg10_1 : World.cell? _ ⟨g10, 1, none⟩ = some (.int .i64 (rd_T50 l0 (kk : Int)).f1) := BX.out.cell (i := 0) rfl (j := 1) rfl; have fqg10_1 : World.frozen? _ ⟨g10, 1, none⟩ = false := BX.out.frozen (i := 0) rfl 1; have qg10_2 : World.cell? _ ⟨g10, 2, none⟩ = some (.int .i64 (rd_T50 l0 (kk : Int)).f2) := BX.out.cell (i := 0) rfl (j := 2) rfl; have fqg10_2 : World.frozen? _ ⟨g10, 2, none⟩ = false := BX.out.frozen (i := 0) rfl 2; have qg10_3 : World.cell? _ ⟨g10, 3, none⟩ = some (.int .i64 (rd_T50 l0 (kk : Int)).f3) := BX.out.cell (i := 0) rfl (j := 3) rfl; have fqg10_3 : World.frozen? _ ⟨g10, 3, none⟩ = false := BX.out.frozen (i := 0) rfl 3; have hk : World.cell? _ (ad1.add kk) = some (.bool K_) := (BX.out.low.cell (World.block_lt_of_cell? w _ HK.out)).trans HK.out; have hN : World.cell? _ ⟨go, kk, none⟩ = some (.bool V_) := BX.out.cell (i := 2) rfl (rawB_at os_ sp_ kk (by omega) V_); have fgo : World.frozen? _ ⟨go, kk, none⟩ = false := BX.out.frozen (i := 2) rfl kk) | ((with_reducible refine gate_store (t := 4) (p := 126) rfl ?_); refine objs_store (w0 := w) (bs := [(g10, .cells #[.int .i64 (rd_T50 l0 (kk : Int)).f0, .int .i64 (rd_T50 l0 (kk : Int)).f1, .int .i64 (rd_T50 l0 (kk : Int)).f2, .int .i64 (rd_T50 l0 (kk : Int)).f3] 50 (0, 0)), (w5.heap.size, .map es_ ck_), (go, .cells (rawB ((os_.set kk V_).set kk (V_ || K_)) sp_) 4 (0, 0))]) (W1 := World.setCell w12_ ⟨go, kk, none⟩ (.bool (V_ || K_))) rfl rfl rfl ?hr (Objs.put (w0 := w) (b1 := [(g10, .cells #[.int .i64 (rd_T50 l0 (kk : Int)).f0, .int .i64 (rd_T50 l0 (kk : Int)).f1, .int .i64 (rd_T50 l0 (kk : Int)).f2, .int .i64 (rd_T50 l0 (kk : Int)).f3] 50 (0, 0)), (w5.heap.size, .map es_ ck_)]) (b2 := []) BX.out (kk) (.bool (V_ || K_)) (rawB_set (os_.set kk V_) sp_ kk (by rw [List.length_set]; omega) (V_ || K_))) ?_; (case hr => first | (go_simp; done) | (go_simp; rfl)); intro w13_ BY; have BY := Aside0.mk BY; clear BX; have BX := BY; clear BY; clear qg10_0 fqg10_0 qg10_1 fqg10_1 qg10_2 fqg10_2 qg10_3 fqg10_3 hk hN fgo; have qg10_0 : World.cell? _ ⟨g10, 0, none⟩ = some (.int .i64 (rd_T50 l0 (kk : Int)).f0) := BX.out.cell (i := 0) rfl (j := 0) rfl; have fqg10_0 : World.frozen? _ ⟨g10, 0, none⟩ = false := BX.out.frozen (i := 0) rfl 0; have qg10_1 : World.cell? _ ⟨g10, 1, none⟩ = some (.int .i64 (rd_T50 l0 (kk : Int)).f1) := BX.out.cell (i := 0) rfl (j := 1) rfl; have fqg10_1 : World.frozen? _ ⟨g10, 1, none⟩ = false := BX.out.frozen (i := 0) rfl 1; have qg10_2 : World.cell? _ ⟨g10, 2, none⟩ = some (.int .i64 (rd_T50 l0 (kk : Int)).f2) := BX.out.cell (i := 0) rfl (j := 2) rfl; have fqg10_2 : World.frozen? _ ⟨g10, 2, none⟩ = false := BX.out.frozen (i := 0) rfl 2; have qg10_3 : World.cell? _ ⟨g10, 3, none⟩ = some (.int .i64 (rd_T50 l0 (kk : Int)).f3) := BX.out.cell (i := 0) rfl (j := 3) rfl; have fqg10_3 : World.frozen? _ ⟨g10, 3, none⟩ = false := BX.out.frozen (i := 0) rfl 3) | fail)
                go_roundg (l0.length - (kk + 1))
                case measure => omega
                case rel => exact ⟨kk + 1, by omega, by omega, by go_num, ⟨BX.out.low⟩, ⟨(HS.out.same ((BX.out.at_ (i := 1) rfl).trans HM.out.symm)).imp (fun _ => rfl) (Nat.le_refl _)⟩, ⟨by rw [impl_makeable.l0, ← HOS.out, ← HVE.out, ← HKE.out]; have hR_ := R_of_raw hgo (BX.out.at_ (i := 2) rfl) (by simpa [hol] using HSP.out) hco; simpa [hol] using hR_⟩⟩)
            · have e1 : ((rd_T50 l0 (kk : Int)).f0 == 1) = false := by simp; omega
              have e3 : ((rd_T50 l0 (kk : Int)).f0 == 3) = false := by simp; omega
              have e4 : ((rd_T50 l0 (kk : Int)).f0 == 4) = false := by simp; omega
              have e5 : ((rd_T50 l0 (kk : Int)).f0 == 5) = false := by simp; omega
              have e6 : ((rd_T50 l0 (kk : Int)).f0 == 6) = false := by simp; omega
              have e7 : ((rd_T50 l0 (kk : Int)).f0 == 7) = false := by simp; omega
              obtain ⟨o_, hov⟩ : ∃ b, rdOf false os_ (kk : Int) = b := ⟨_, rfl⟩
              obtain ⟨V_, hV_⟩ : ∃ b, b = o_ := ⟨_, rfl⟩
              have HVE : Aside0 (V_ = impl_makeable.r (impl_makeable.s0 l0 l1 l0.length) os_ (kk : Int) (rd_T50 l0 (kk : Int))) := ⟨by rw [hV_, impl_makeable.r]; simp only [e1, e3, e4, e5, e6, e7, cond_true, cond_false, Bool.or_false, Bool.false_or, hov]; try rfl⟩
              clear hbo
              have hp : (o_ = true) ∨ (o_ = false ∧ K_ = true) ∨ (o_ = false ∧ K_ = false) := by
                rcases Bool.eq_false_or_eq_true (o_) with ov | ov
                · exact .inl ov
                · rcases Bool.eq_false_or_eq_true (K_) with kn | kn
                  · exact .inr (.inl ⟨ov, kn⟩)
                  · exact .inr (.inr ⟨ov, kn⟩)
              rcases hp with ov | ⟨ov, kn⟩ | ⟨ov, kn⟩
              all_goals (
                go_wp2_with (first | ((with_reducible refine gate_dst (N := 10) rfl ?_); refine box_event ?hg (N := 10) ?hd (cs := #[.int .i64 0, .int .i64 0, .int .i64 0, .int .i64 0]) (t := 50) ?hr ?_; (case hd => rfl); (case hg => rfl); (case hr => first | (go_simp; done) | (go_simp; rfl)); intro g10 hg w10_ hbox hb; have BY := Aside0.mk (Objs.new (w0 := w) (bs := [(w5.heap.size, .map es_ ck_), (go, .cells (rawB os_ sp_) 4 (0, 0))]) (by (with_reducible repeat (first | refine Objs.drewN ?_ _ | refine Objs.drew ?_ | refine Objs.alloc ?_ _)); exact BX.out) hg hbox hb); clear BX hb hbox hg; have BX := BY; clear BY; have qg10_0 : World.cell? _ ⟨g10, 0, none⟩ = some (.int .i64 0) := BX.out.cell (i := 0) rfl (j := 0) rfl; have fqg10_0 : World.frozen? _ ⟨g10, 0, none⟩ = false := BX.out.frozen (i := 0) rfl 0; have qg10_1 : World.cell? _ ⟨g10, 1, none⟩ = some (.int .i64 0) := BX.out.cell (i := 0) rfl (j := 1) rfl; have fqg10_1 : World.frozen? _ ⟨g10, 1, none⟩ = false := BX.out.frozen (i := 0) rfl 1; have qg10_2 : World.cell? _ ⟨g10, 2, none⟩ = some (.int .i64 0) := BX.out.cell (i := 0) rfl (j := 2) rfl; have fqg10_2 : World.frozen? _ ⟨g10, 2, none⟩ = false := BX.out.frozen (i := 0) rfl 2; have qg10_3 : World.cell? _ ⟨g10, 3, none⟩ = some (.int .i64 0) := BX.out.cell (i := 0) rfl (j := 3) rfl; have fqg10_3 : World.frozen? _ ⟨g10, 3, none⟩ = false := BX.out.frozen (i := 0) rfl 3) | ((with_reducible refine gate_store (t := 50) (p := 10) rfl ?_); refine objs_store (w0 := w) (bs := [(g10, .cells #[.int .i64 (rd_T50 l0 (kk : Int)).f0, .int .i64 (rd_T50 l0 (kk : Int)).f1, .int .i64 (rd_T50 l0 (kk : Int)).f2, .int .i64 (rd_T50 l0 (kk : Int)).f3] 50 (0, 0)), (w5.heap.size, .map es_ ck_), (go, .cells (rawB os_ sp_) 4 (0, 0))]) (W1 := (((World.setCell w10_ ⟨g10, 0, none⟩ (.int .i64 (rd_T50 l0 (kk : Int)).f0)).setCell ⟨g10, 1, none⟩ (.int .i64 (rd_T50 l0 (kk : Int)).f1)).setCell ⟨g10, 2, none⟩ (.int .i64 (rd_T50 l0 (kk : Int)).f2)).setCell ⟨g10, 3, none⟩ (.int .i64 (rd_T50 l0 (kk : Int)).f3)) rfl rfl rfl ?hr ((((Objs.put (w0 := w) (b1 := []) (b2 := [(w5.heap.size, .map es_ ck_), (go, .cells (rawB os_ sp_) 4 (0, 0))]) BX.out 0 (.int .i64 (rd_T50 l0 (kk : Int)).f0) rfl).put (b1 := []) 1 (.int .i64 (rd_T50 l0 (kk : Int)).f1) rfl).put (b1 := []) 2 (.int .i64 (rd_T50 l0 (kk : Int)).f2) rfl).put (b1 := []) 3 (.int .i64 (rd_T50 l0 (kk : Int)).f3) rfl) ?_; (case hr => first | (go_simp; done) | (go_simp; rfl)); intro w11_ BY; have BY := Aside0.mk BY; clear BX; have BX := BY; clear BY; clear qg10_0 fqg10_0 qg10_1 fqg10_1 qg10_2 fqg10_2 qg10_3 fqg10_3; have qg10_0 : World.cell? _ ⟨g10, 0, none⟩ = some (.int .i64 (rd_T50 l0 (kk : Int)).f0) := BX.out.cell (i := 0) rfl (j := 0) rfl; have fqg10_0 : World.frozen? _ ⟨g10, 0, none⟩ = false := BX.out.frozen (i := 0) rfl 0; have qg10_1 : World.cell? _ ⟨g10, 1, none⟩ = some (.int .i64 (rd_T50 l0 (kk : Int)).f1) := BX.out.cell (i := 0) rfl (j := 1) rfl; have fqg10_1 : World.frozen? _ ⟨g10, 1, none⟩ = false := BX.out.frozen (i := 0) rfl 1; have qg10_2 : World.cell? _ ⟨g10, 2, none⟩ = some (.int .i64 (rd_T50 l0 (kk : Int)).f2) := BX.out.cell (i := 0) rfl (j := 2) rfl; have fqg10_2 : World.frozen? _ ⟨g10, 2, none⟩ = false := BX.out.frozen (i := 0) rfl 2; have qg10_3 : World.cell? _ ⟨g10, 3, none⟩ = some (.int .i64 (rd_T50 l0 (kk : Int)).f3) := BX.out.cell (i := 0) rfl (j := 3) rfl; have fqg10_3 : World.frozen? _ ⟨g10, 3, none⟩ = false := BX.out.frozen (i := 0) rfl 3; have hk : World.cell? _ (ad1.add kk) = some (.bool K_) := (BX.out.low.cell (World.block_lt_of_cell? w _ HK.out)).trans HK.out; have hN : World.cell? _ ⟨go, kk, none⟩ = some (.bool o_) := BX.out.cell (i := 2) rfl ((rawB_get os_ sp_ kk (by omega)).trans (by rw [hov])); have fgo : World.frozen? _ ⟨go, kk, none⟩ = false := BX.out.frozen (i := 2) rfl kk) | ((with_reducible refine gate_store (t := 4) (p := 126) rfl ?_); refine objs_store (w0 := w) (bs := [(g10, .cells #[.int .i64 (rd_T50 l0 (kk : Int)).f0, .int .i64 (rd_T50 l0 (kk : Int)).f1, .int .i64 (rd_T50 l0 (kk : Int)).f2, .int .i64 (rd_T50 l0 (kk : Int)).f3] 50 (0, 0)), (w5.heap.size, .map es_ ck_), (go, .cells (rawB (os_.set kk (V_ || K_)) sp_) 4 (0, 0))]) (W1 := World.setCell w11_ ⟨go, kk, none⟩ (.bool (V_ || K_))) rfl rfl rfl ?hr (Objs.put (w0 := w) (b1 := [(g10, .cells #[.int .i64 (rd_T50 l0 (kk : Int)).f0, .int .i64 (rd_T50 l0 (kk : Int)).f1, .int .i64 (rd_T50 l0 (kk : Int)).f2, .int .i64 (rd_T50 l0 (kk : Int)).f3] 50 (0, 0)), (w5.heap.size, .map es_ ck_)]) (b2 := []) BX.out (kk) (.bool (V_ || K_)) (rawB_set os_ sp_ kk (by omega) (V_ || K_))) ?_; (case hr => first | (go_simp; done) | (go_simp; rfl)); intro w13_ BY; have BY := Aside0.mk BY; clear BX; have BX := BY; clear BY; clear qg10_0 fqg10_0 qg10_1 fqg10_1 qg10_2 fqg10_2 qg10_3 fqg10_3 hk hN fgo; have qg10_0 : World.cell? _ ⟨g10, 0, none⟩ = some (.int .i64 (rd_T50 l0 (kk : Int)).f0) := BX.out.cell (i := 0) rfl (j := 0) rfl; have fqg10_0 : World.frozen? _ ⟨g10, 0, none⟩ = false := BX.out.frozen (i := 0) rfl 0; have qg10_1 : World.cell? _ ⟨g10, 1, none⟩ = some (.int .i64 (rd_T50 l0 (kk : Int)).f1) := BX.out.cell (i := 0) rfl (j := 1) rfl; have fqg10_1 : World.frozen? _ ⟨g10, 1, none⟩ = false := BX.out.frozen (i := 0) rfl 1; have qg10_2 : World.cell? _ ⟨g10, 2, none⟩ = some (.int .i64 (rd_T50 l0 (kk : Int)).f2) := BX.out.cell (i := 0) rfl (j := 2) rfl; have fqg10_2 : World.frozen? _ ⟨g10, 2, none⟩ = false := BX.out.frozen (i := 0) rfl 2; have qg10_3 : World.cell? _ ⟨g10, 3, none⟩ = some (.int .i64 (rd_T50 l0 (kk : Int)).f3) := BX.out.cell (i := 0) rfl (j := 3) rfl; have fqg10_3 : World.frozen? _ ⟨g10, 3, none⟩ = false := BX.out.frozen (i := 0) rfl 3) | fail)
                go_roundg (l0.length - (kk + 1))
                case measure => omega
                case rel => exact ⟨kk + 1, by omega, by omega, by go_num, ⟨BX.out.low⟩, ⟨(HS.out.same ((BX.out.at_ (i := 1) rfl).trans HM.out.symm)).imp (fun _ => rfl) (Nat.le_refl _)⟩, ⟨by rw [impl_makeable.l0, ← HOS.out, ← HVE.out, ← HKE.out]; have hR_ := R_of_raw hgo (BX.out.at_ (i := 2) rfl) (by simpa [hol] using HSP.out) hco; simpa [hol] using hR_⟩⟩)
          · have hltz : ¬ (kk : Int) < (l0.length : Int) := by omega
            have hke : kk = l0.length := by omega
            subst hke
            clear HS
            go_wp2
            go_ret
            exact ⟨_, rfl, by rw [← HV.out]; exact HR.out, BW.out⟩
  · rw [if_neg hg_] at h
    exact absurd h (by simp)

/-! ### impl_flags: function 66 -/
def impl_flags.l0 : Nat → List Bool → List Int → Int → Int → Option (List Bool)
 | 0, _, _, _, _ => none
 | k + 1, x5, x11, x12, x13 => if x13 < x12 then (if 0 ≤ x13 then (if x13 < (x11.length : Int) then (if 0 ≤ (rd x11 x13) then (if (rd x11 x13) < (x5.length : Int) then (impl_flags.l0 k (x5.set ((rd x11 x13) : Int).toNat true) x11 x12 (wrap64 (x13 + 1))) else (none)) else (none)) else (none)) else (none)) else (some x5)
def impl_flags.f (k : Nat) (l0 : List (S50)) (l1 : List Int) : Option (List Bool) := if 0 ≤ (l0.length : Int) then (if ((l0.length : Int) : Int).toNat ≤ 281474976710656 then (impl_flags.l0 k (List.replicate ((l0.length : Int) : Int).toNat false) l1 (l1.length : Int) 0) else (none)) else (none)
theorem impl_flags.mono_l : ∀ k, (∀ y0 y1 y2 y3, LeO (impl_flags.l0 k y0 y1 y2 y3) (impl_flags.l0 (k + 1) y0 y1 y2 y3))
 | 0 => fun _ _ _ _ r h => by simp [impl_flags.l0] at h
 | k + 1 => by
  have ih0 := impl_flags.mono_l k
  ·
   intro y0 y1 y2 y3
   unfold impl_flags.l0
   repeat' first
   | (with_reducible exact ih0 _ _ _ _)
   | (with_reducible exact LeO.refl _)
   | (with_reducible exact LeO.none _)
   | (with_reducible refine LeO.ite ?_ ?_)
   | (with_reducible refine LeO.bind ?_ (fun _ => ?_))
   | exact ih0 _ _ _ _
   | exact LeO.none _
   | refine LeO.ite ?_ ?_
   | refine LeO.bind ?_ (fun _ => ?_)
theorem impl_flags.mono : ∀ a0 a1 k, LeO (impl_flags.f k a0 a1) (impl_flags.f (k + 1) a0 a1) := by
 intro a0 a1 k
 have ih0 := impl_flags.mono_l k
 unfold impl_flags.f
 repeat' first
   | (with_reducible exact ih0 _ _ _ _)
   | (with_reducible exact LeO.refl _)
   | (with_reducible exact LeO.none _)
   | (with_reducible refine LeO.ite ?_ ?_)
   | (with_reducible refine LeO.bind ?_ (fun _ => ?_))
   | exact ih0 _ _ _ _
   | exact LeO.none _
   | refine LeO.ite ?_ ?_
   | refine LeO.bind ?_ (fun _ => ?_)
set_option maxHeartbeats 8000000 in
set_option maxRecDepth 100000 in
theorem impl_flags.calls (k : Nat) (A0 : Option Addr) (c0 : Nat) (l0 : List (S50)) (A1 : Option Addr) (c1 : Nat) (l1 : List Int) (r : List Bool) (w : World) (hr0 : Kd.C k50 w A0 l0.length l0) (hc0 : l0.length ≤ c0) (hr1 : Kd.C (Kd.int .i64) w A1 l1.length l1) (hc1 : l1.length ≤ c1) (h : impl_flags.f k l0 l1 = some r) :
  Calls Try.prog 66 #[.slice A0 l0.length c0, .slice A1 l1.length c1] w fun e w' => ∃ v0_ : Value, e = .returned (v0_) ∧ Kd.R Kd.bool 4 w' w.heap.size (fun _ => True) v0_ r ∧ Below w.heap.size w w' := by
 have HR0 := Aside0.mk hr0
 have HC0 := Aside0.mk hc0
 clear hr0 hc0
 have HR1 := Aside0.mk hr1
 have HC1 := Aside0.mk hc1
 clear hr1 hc1
 have HB := Aside0.mk (Below.refl w.heap.size w)
 have H : (if 0 ≤ (l0.length : Int) then (if ((l0.length : Int) : Int).toNat ≤ 281474976710656 then (impl_flags.l0 k (List.replicate ((l0.length : Int) : Int).toNat false) l1 (l1.length : Int) 0) else (none)) else (none)) = some r := h
 clear h
 by_cases c3 : 0 ≤ (l0.length : Int)
 ·
  rw [if_pos c3] at H
  have c3b0 := eq_true c3
  have c3b1 : decide (0 ≤ (l0.length : Int)) = true := decide_eq_true c3
  clear c3
  by_cases c4 : ((l0.length : Int) : Int).toNat ≤ 281474976710656
  ·
   rw [if_pos c4] at H
   have c4b0 := eq_true c4
   have c4b1 : decide (((l0.length : Int) : Int).toNat ≤ 281474976710656) = true := decide_eq_true c4
   clear c4
   obtain ⟨y217, hy217⟩ : ∃ y_ : List Bool, y_ = (List.replicate ((l0.length : Int) : Int).toNat false) := ⟨_, rfl⟩
   replace H : (impl_flags.l0 k y217 l1 (l1.length : Int) 0) = some r := by first | (rw [hy217]; with_reducible exact H) | (have H2_ := (Option.bind_some _ _).symm.trans H; rw [hy217]; with_reducible exact H2_) | (have H2_ := (Option.bind_some _ _).symm.trans H; with_reducible exact H2_) | with_reducible exact H | (rw [hy217]; exact H) | exact H
   have Ny217 := Aside0.mk hy217
   clear hy217
   have H' := Aside0.mk H
   clear H
   go_enter Try.func66, Try.ntmps66
   go_wp2_with (first | ((with_reducible refine gate_dst (N := 10) rfl ?_); refine Kd.R_make Kd.bool _ 4 rfl (N := 10) rfl 66 _ _ rfl (l0.length : Int) rfl rfl Try.underlying66 (.bool false) 1 info4 rfl (by decide) (by omega) false (ok := fun _ => True) (okp := fun _ => True) rfl (fun _ hk => hk) trivial (of_decide_eq_true (by first | (with_reducible assumption) | assumption)) (Nat.le_trans (Nat.mul_le_mul_right _ (of_decide_eq_true (by first | (with_reducible assumption) | assumption) : (l0.length : Int).toNat ≤ 281474976710656)) (by omega)) (Below.refl _ _) (Nat.le_refl _) ?_; intro v218 w5 ho6 hb hg_ hnew_; clear hg_ hnew_; (first | rw [← Ny217.out] at ho6 | (simp only [Int.reduceToNat] at ho6; rw [← Ny217.out] at ho6)); have n0_ := Aside0.mk (Kd.R_lower ho6 (below_size (by repeat (first | (with_reducible first | exact HB.out | apply below_alloc | apply pw_below_drewN | apply below_drew1) | exact HB.out)))); have n1_ := Aside0.mk (below_step (by repeat (first | (with_reducible first | exact HB.out | apply below_alloc | apply pw_below_drewN | apply below_drew1) | exact HB.out)) hb); clear HB; have HO219 := n0_; have HB := n1_; clear n0_ n1_; clear hb ho6))
   go_loopg [13] k (fun kq v13 w' => ∃ (x5_1 : List Bool) (x13_1 : Int), v13 = .int .i64 x13_1 ∧ Aside0 (impl_flags.l0 kq x5_1 l1 (l1.length : Int) x13_1 = some r) ∧ Aside0 (kq ≤ k) ∧ Aside0 (Kd.R Kd.bool 4 w' w.heap.size (fun _ => True) v218 x5_1) ∧ Aside0 (Below w.heap.size w w'))
   case atStart => exact ⟨(y217), (0), (by first | rfl | (simp; done) | (simp [*]; done)), H', ⟨Nat.le_refl _⟩, ⟨by (with_reducible repeat (first | apply Kd.R_alloc | apply Kd.R_drewN | apply Kd.R_drew)); exact HO219.out⟩, ⟨by repeat (first | (with_reducible first | exact HB.out | apply below_alloc | apply pw_below_drewN | apply below_drew1) | exact HB.out)⟩⟩
   case round =>
    clear H'
    try clear c1; try clear p2; try clear c3; try clear c3b0; try clear c3b1; try clear c4; try clear c4b0; try clear c4b1; try clear c6
    obtain ⟨x5_1, x13_1, rfl, HA, HK1, HO_5, HB⟩ := hrel
    cases gk with
    | zero => exact absurd HA.out (by simp [impl_flags.l0])
    | succ k1 =>
     have H := HA.out
     clear HA
     simp only [impl_flags.l0] at H
     by_cases c7 : x13_1 < (l1.length : Int)
     ·
      rw [if_pos c7] at H
      have c7b0 : decide (x13_1 < (l1.length : Int)) = true := decide_eq_true c7
      clear c7
      by_cases c8 : 0 ≤ x13_1
      ·
       rw [if_pos c8] at H
       have c8b0 : decide (0 ≤ x13_1) = true := decide_eq_true c8
       clear c8
       by_cases c9 : x13_1 < (l1.length : Int)
       ·
        rw [if_pos c9] at H
        have c9b0 : decide (x13_1 < (l1.length : Int)) = true := decide_eq_true c9
        clear c9
        by_cases c10 : 0 ≤ (rd l1 x13_1)
        ·
         rw [if_pos c10] at H
         have c10b0 : decide (0 ≤ (rd l1 x13_1)) = true := decide_eq_true c10
         clear c10
         by_cases c11 : (rd l1 x13_1) < (x5_1.length : Int)
         ·
          rw [if_pos c11] at H
          have c11b0 : decide ((rd l1 x13_1) < (x5_1.length : Int)) = true := decide_eq_true c11
          clear c11
          obtain ⟨y221, hy221⟩ : ∃ y_ : List Bool, y_ = (x5_1.set ((rd l1 x13_1) : Int).toNat true) := ⟨_, rfl⟩
          replace H : (impl_flags.l0 k1 y221 l1 (l1.length : Int) (wrap64 (x13_1 + 1))) = some r := by first | (rw [hy221]; with_reducible exact H) | (have H2_ := (Option.bind_some _ _).symm.trans H; rw [hy221]; with_reducible exact H2_) | (have H2_ := (Option.bind_some _ _).symm.trans H; with_reducible exact H2_) | with_reducible exact H | (rw [hy221]; exact H) | exact H
          have Ny221 := Aside0.mk hy221
          clear hy221
          have H' := Aside0.mk H
          clear H
          have p220 : 0 ≤ (x13_1 : Int) := of_decide_eq_true (by first | (with_reducible assumption) | assumption)
          have q220 : x13_1 < (l1.length : Int) := of_decide_eq_true (by first | (with_reducible assumption) | assumption)
          obtain ⟨ad220, e220, hx220_0⟩ := Kd.at_int HR1.out x13_1 p220 q220
          cases e220
          replace hx220_0 := (HB.out.cell (World.block_lt_of_cell? w _ hx220_0)).trans hx220_0
          replace p220 := eq_true p220
          replace q220 := eq_true q220
          have p12 : 0 ≤ ((rd l1 x13_1) : Int) := of_decide_eq_true (by first | (with_reducible assumption) | assumption)
          have q12 : ((rd l1 x13_1) : Int) < ((x5_1.length : Int) : Int) := of_decide_eq_true (by first | (with_reducible assumption) | assumption)
          obtain ⟨go12, co12, eo12, gb12, gl12, cl12, HG12⟩ := Kd.R_form HO_5.out (by omega)
          (first | cases eo12 | (injection eo12 with ea_ en_ ec_; (first | subst ea_ | (injection ea_ with ea_; subst ea_)); subst ec_; clear en_))
          have GB12 := Aside0.mk gb12
          have GG12 := Aside0.mk HG12
          clear gb12 gl12 HG12
          obtain ⟨hx12_0, hf12_0⟩ := Kd.R_celln false HO_5.out ((rd l1 x13_1) : Int) p12 q12
          replace p12 := eq_true p12
          replace q12 := eq_true q12
          have HP13 := Kd.R_putg HO_5.out ((rd l1 x13_1) : Int) true
          go_wp2_with (first | ((with_reducible refine gate_store (t := 4) (p := 19) rfl ?_); refine store_event (t := 4) (p := 19) (v := ?vo_w14) (w1 := (wr.setCell ⟨go12, ((rd l1 x13_1) : Int).toNat, none⟩ (.bool true))) ?hg ?ho ?hn ?hr ?_; (case ho => rfl); (case hg => rfl); (case hn => rfl); (case hr => first | (go_simp; done) | (go_simp; rfl)); intro w14 hw; have hg : wr.grownBy w14 (some go12) := (by rw [hw]; exact HP13.2); have hp_ : Kd.R Kd.bool 4 w14 w.heap.size (fun _ => True) (.slice (some ⟨go12, 0, none⟩) x5_1.length co12) y221 := (by rw [hw, Ny221.out]; exact HP13.1); clear HP13; have n0_ := Aside0.mk (hp_); have n1_ := Aside0.mk ((by rw [hw]; exact below_set (HB.out) GB12.out : Below w.heap.size w w14)); clear HO_5; clear HB; have HO_5 := n0_; have HB := n1_; clear n0_ n1_; clear hg hw hp_))
          go_roundg k1
          case measure => have := HK1.out; omega
          case rel => exact ⟨(y221), (wrap64 (x13_1 + 1)), (by first | rfl | (simp; done) | (simp [*]; done)), H', ⟨by have := HK1.out; omega⟩, ⟨by (with_reducible repeat (first | apply Kd.R_alloc | apply Kd.R_drewN | apply Kd.R_drew)); exact HO_5.out⟩, ⟨by repeat (first | (with_reducible first | exact HB.out | apply below_alloc | apply pw_below_drewN | apply below_drew1) | exact HB.out)⟩⟩
         ·
          rw [if_neg c11] at H
          exact absurd H (by simp)
        ·
         rw [if_neg c10] at H
         exact absurd H (by simp)
       ·
        rw [if_neg c9] at H
        exact absurd H (by simp)
      ·
       rw [if_neg c8] at H
       exact absurd H (by simp)
     ·
      rw [if_neg c7] at H
      have c7b0 : decide (x13_1 < (l1.length : Int)) = false := decide_eq_false c7
      clear c7
      obtain rfl := Option.some.inj H
      go_wp2
      go_ret
      exact ⟨_, by first | rfl | (simp [errW_none, errW_some] <;> rfl) | (simp [*, errW_none, errW_some] <;> rfl), by (with_reducible repeat (first | apply Kd.R_alloc | apply Kd.R_drewN | apply Kd.R_drew)); exact HO_5.out, by repeat (first | (with_reducible first | exact HB.out | apply below_alloc | apply pw_below_drewN | apply below_drew1) | exact HB.out)⟩
  ·
   rw [if_neg c4] at H
   exact absurd H (by simp)
 ·
  rw [if_neg c3] at H
  exact absurd H (by simp)

/-! ### (my own text) eqlNil -/
theorem eql_slice_nil {P : Program} {t e : TypeId} (a : Option Addr) (l c : Nat) (h : P.underlying t = some (.slice e)) (w : World) : (binOp .eql t (.slice a l c) (.slice none 0 0)).run P w = .ok (.bool a.isNone) w := by
  have h1 : ∀ d, (Op.equalIn (d + 1) t (.slice a l c) (.slice none 0 0)).run P w = .ok a.isNone w := by
    intro d
    cases a <;> simp [Op.equalIn, run_underlying h]
  have h2 : (Op.equal t (.slice a l c) (.slice none 0 0)).run P w = .ok a.isNone w := h1 9999
  simp only [binOp]
  simp [h2]

/-! ### slices_Clone_bool_bool: function 67 (my own text) -/
def slices_Clone_bool_bool.f (l0 : List Bool) : Option (List Bool) := if l0.length ≤ 140737488355328 then some l0 else none
set_option maxHeartbeats 4000000 in
set_option maxRecDepth 100000 in
theorem slices_Clone_bool_bool.calls (A0 : Option Addr) (c0 : Nat) (l0 : List Bool) (r1 : List Bool) (w : World) (hr0 : Kd.C Kd.bool w A0 l0.length l0) (hc0 : l0.length ≤ c0) (h : slices_Clone_bool_bool.f l0 = some r1) :
    Calls Try.prog 67 #[.slice A0 l0.length c0] w fun e w' => ∃ v1_ : Value, e = .returned v1_ ∧ Kd.R Kd.bool 4 w' w.heap.size (fun _ => True) v1_ r1 ∧ Below w.heap.size w w' := by
  unfold slices_Clone_bool_bool.f at h
  by_cases hL : l0.length ≤ 140737488355328
  · rw [if_pos hL] at h
    obtain rfl := Option.some.inj h
    cases A0 with
    | none =>
      have h0 : l0 = [] := by
        cases l0 with
        | nil => rfl
        | cons x xs =>
          obtain ⟨ad, e, _⟩ := hr0.2.2 (by simp)
          cases e
      subst h0
      clear hr0 h
      have hq := eql_slice_nil (none : Option Addr) 0 c0 Try.underlying66
      go_enter Try.func67, Try.ntmps67
      go_wp2
      go_ret
      exact ⟨_, rfl, Kd.R_nil _ _ _ _ _, Below.refl _ _⟩
    | some ad =>
      have HR0 := Aside0.mk hr0
      have HB := Aside0.mk (Below.refl w.heap.size w)
      clear hr0 h
      have hu := Try.underlying66
      have hq := eql_slice_nil (some ad) l0.length c0 Try.underlying66
      go_enter Try.func67, Try.ntmps67
      go_wp2_with (first | ((with_reducible refine gate_dst (N := 5) rfl ?_); refine Kd.R_lit Kd.bool _ 4 ?hg (N := 5) ?hd (xs := ([] : List Bool)) (inner := []) (ok := fun _ => True) (okp := fun _ => True) ?hr ?hp (fun _ hk => hk) trivial (Below.refl _ _) (Nat.le_refl _) (by simp) ?_; (case hd => rfl); (case hg => rfl); (case hr => first | (go_simp; done) | (go_simp; rfl)); (case hp => exact (Reps.none _ _)); intro v5 w5 ho5 hb hg_ hnew_; clear hg_ hnew_; have HO5 := Aside0.mk (Kd.R_lower ho5 (Nat.le_refl _)); have n1_ := Aside0.mk hb; clear HB; have HB := n1_; clear n1_ hb ho5) | ((with_reducible refine gate_builtin (b := .append) (xs := #[.tmp 5, .tmp 6]) rfl ?_); at_builtin; refine Kd.R_append_rows Kd.bool (w0 := w) w.heap.size rfl (.tmp 5) (.tmp 6) 66 4 (.bool false) 1 rfl Try.underlying66 info4 rfl (by decide) (by omega) v5 [] l0 _ _ _ (fun _ => True) (fun _ => False) rfl rfl ?aO ?aR (fun _ _ h => h) (fun _ h => h.elim) ?aF ?aB ?aS ?aL ?_; (case aR => exact (Kd.C_below HR0.out HB.out)); (case aB => exact HB.out); (case aF => exact (fun k_ hk => trivial)); (case aO => exact HO5.out); (case aS => exact HB.out.size); (case aL => simp; omega); intro v7 w7 ho hb hg hat; have HO7 := Aside0.mk ho; have HB7 := Aside0.mk hb; clear ho hb hg hat))
      go_ret
      exact ⟨_, rfl, by simpa using HO7.out, HB7.out⟩
  · rw [if_neg hL] at h
    exact absurd h (by simp)

/-! ### slices_Equal_bool_bool: function 69 -/
def slices_Equal_bool_bool.l0 : Nat → List Bool → List Bool → Int → Int → Option (Bool)
 | 0, _, _, _, _ => none
 | k + 1, x0, x1, x12, x13 => if x13 < x12 then (if 0 ≤ x13 then (if x13 < (x0.length : Int) then (if x13 < (x1.length : Int) then (if ((rdOf false x0 x13) != (rdOf false x1 x13)) = true then (some false) else (slices_Equal_bool_bool.l0 k x0 x1 x12 (wrap64 (x13 + 1)))) else (none)) else (none)) else (none)) else (some true)
def slices_Equal_bool_bool.f (k : Nat) (l0 : List Bool) (l1 : List Bool) : Option (Bool) := if (l0.length : Int) = (l1.length : Int) then (slices_Equal_bool_bool.l0 k l0 l1 (l0.length : Int) 0) else (some false)
theorem slices_Equal_bool_bool.mono_l : ∀ k, (∀ y0 y1 y2 y3, LeO (slices_Equal_bool_bool.l0 k y0 y1 y2 y3) (slices_Equal_bool_bool.l0 (k + 1) y0 y1 y2 y3))
 | 0 => fun _ _ _ _ r h => by simp [slices_Equal_bool_bool.l0] at h
 | k + 1 => by
  have ih0 := slices_Equal_bool_bool.mono_l k
  ·
   intro y0 y1 y2 y3
   unfold slices_Equal_bool_bool.l0
   repeat' first
   | (with_reducible exact ih0 _ _ _ _)
   | (with_reducible exact LeO.refl _)
   | (with_reducible exact LeO.none _)
   | (with_reducible refine LeO.ite ?_ ?_)
   | (with_reducible refine LeO.bind ?_ (fun _ => ?_))
   | exact ih0 _ _ _ _
   | exact LeO.none _
   | refine LeO.ite ?_ ?_
   | refine LeO.bind ?_ (fun _ => ?_)
theorem slices_Equal_bool_bool.mono : ∀ a0 a1 k, LeO (slices_Equal_bool_bool.f k a0 a1) (slices_Equal_bool_bool.f (k + 1) a0 a1) := by
 intro a0 a1 k
 have ih0 := slices_Equal_bool_bool.mono_l k
 unfold slices_Equal_bool_bool.f
 repeat' first
   | (with_reducible exact ih0 _ _ _ _)
   | (with_reducible exact LeO.refl _)
   | (with_reducible exact LeO.none _)
   | (with_reducible refine LeO.ite ?_ ?_)
   | (with_reducible refine LeO.bind ?_ (fun _ => ?_))
   | exact ih0 _ _ _ _
   | exact LeO.none _
   | refine LeO.ite ?_ ?_
   | refine LeO.bind ?_ (fun _ => ?_)
set_option maxHeartbeats 8000000 in
set_option maxRecDepth 100000 in
theorem slices_Equal_bool_bool.calls (k : Nat) (A0 : Option Addr) (c0 : Nat) (l0 : List Bool) (A1 : Option Addr) (c1 : Nat) (l1 : List Bool) (r : Bool) (w : World) (hr0 : Kd.C Kd.bool w A0 l0.length l0) (hc0 : l0.length ≤ c0) (hr1 : Kd.C Kd.bool w A1 l1.length l1) (hc1 : l1.length ≤ c1) (h : slices_Equal_bool_bool.f k l0 l1 = some r) :
  Calls Try.prog 69 #[.slice A0 l0.length c0, .slice A1 l1.length c1] w fun e w' => e = .returned (.bool r) ∧ Drawn0 w w' := by
 have HR0 := Aside0.mk hr0
 have HC0 := Aside0.mk hc0
 clear hr0 hc0
 have HR1 := Aside0.mk hr1
 have HC1 := Aside0.mk hc1
 clear hr1 hc1
 have H : (if (l0.length : Int) = (l1.length : Int) then (slices_Equal_bool_bool.l0 k l0 l1 (l0.length : Int) 0) else (some false)) = some r := h
 clear h
 by_cases c3 : (l0.length : Int) = (l1.length : Int)
 ·
  rw [if_pos c3] at H
  have c3b0 : ((l0.length : Int) == (l1.length : Int)) = true := beq_iff_eq.mpr c3
  have c3b1 : ((l0.length : Int) != (l1.length : Int)) = false := bne_eq_false_iff_eq.mpr c3
  have c3b2 : (l0.length == l1.length) = true := by first | simpa using c3 | (simp at c3 ⊢; omega)
  clear c3
  have H' := Aside0.mk H
  clear H
  go_enter Try.func69, Try.ntmps69
  go_wp2
  repeat (go_quiet (fail); try go_wp2)
  go_loopg [13] k (fun kq v13 w' => ∃ (x13_1 : Int), v13 = .int .i64 x13_1 ∧ Aside0 (slices_Equal_bool_bool.l0 kq l0 l1 (l0.length : Int) x13_1 = some r) ∧ Aside0 (kq ≤ k) ∧ Drawn0 w w')
  case atStart => exact ⟨(0), (by first | rfl | (simp; done) | (simp [*]; done)), H', ⟨Nat.le_refl _⟩, by repeat (first | exact Drawn0.refl _ | apply Drawn0.step)⟩
  case round =>
   clear H'
   try clear c1; try clear p2; try clear c3; try clear c3b0; try clear c3b1; try clear c3b2
   obtain ⟨x13_1, rfl, HA, HK1, ⟨m1, rfl⟩⟩ := hrel
   cases gk with
   | zero => exact absurd HA.out (by simp [slices_Equal_bool_bool.l0])
   | succ k1 =>
    have H := HA.out
    clear HA
    simp only [slices_Equal_bool_bool.l0] at H
    by_cases c4 : x13_1 < (l0.length : Int)
    ·
     rw [if_pos c4] at H
     have c4b0 : decide (x13_1 < (l0.length : Int)) = true := decide_eq_true c4
     clear c4
     by_cases c5 : 0 ≤ x13_1
     ·
      rw [if_pos c5] at H
      have c5b0 : decide (0 ≤ x13_1) = true := decide_eq_true c5
      clear c5
      by_cases c6 : x13_1 < (l0.length : Int)
      ·
       rw [if_pos c6] at H
       have c6b0 : decide (x13_1 < (l0.length : Int)) = true := decide_eq_true c6
       clear c6
       by_cases c7 : x13_1 < (l1.length : Int)
       ·
        rw [if_pos c7] at H
        have c7b0 : decide (x13_1 < (l1.length : Int)) = true := decide_eq_true c7
        clear c7
        by_cases c8 : ((rdOf false l0 x13_1) != (rdOf false l1 x13_1)) = true
        ·
         rw [if_pos c8] at H
         have c8b0 : ((rdOf false l0 x13_1) != (rdOf false l1 x13_1)) = true := c8
         (try (have c8b1 : decide ((rdOf false l0 x13_1) = (rdOf false l1 x13_1)) = false := by simpa using c8))
         (try (have c8b2 : ((rdOf false l0 x13_1) == (rdOf false l1 x13_1)) = false := by simpa using c8))
         (try (have c8b3 : ¬ ((rdOf false l0 x13_1) = (rdOf false l1 x13_1)) := by simpa using c8))
         clear c8
         obtain rfl := Option.some.inj H
         have p222 : 0 ≤ (x13_1 : Int) := of_decide_eq_true (by first | (with_reducible assumption) | assumption)
         have q222 : x13_1 < (l0.length : Int) := of_decide_eq_true (by first | (with_reducible assumption) | assumption)
         obtain ⟨ad222, e222, hx222_0⟩ := Kd.at_bool HR0.out x13_1 p222 q222
         cases e222
         replace p222 := eq_true p222
         replace q222 := eq_true q222
         have p223 : 0 ≤ (x13_1 : Int) := of_decide_eq_true (by first | (with_reducible assumption) | assumption)
         have q223 : x13_1 < (l1.length : Int) := of_decide_eq_true (by first | (with_reducible assumption) | assumption)
         obtain ⟨ad223, e223, hx223_0⟩ := Kd.at_bool HR1.out x13_1 p223 q223
         cases e223
         replace p223 := eq_true p223
         replace q223 := eq_true q223
         go_wp2
         repeat (go_quiet (fail); try go_wp2)
         go_ret
         exact ⟨by first | rfl | (simp; done) | (simp [*]; done), by repeat (first | exact Drawn0.refl _ | apply Drawn0.step)⟩
        ·
         rw [if_neg c8] at H
         have c8b0 : ((rdOf false l0 x13_1) != (rdOf false l1 x13_1)) = false := by simpa using c8
         (try (have c8b1 : decide ((rdOf false l0 x13_1) = (rdOf false l1 x13_1)) = true := by simpa using c8))
         (try (have c8b2 : ((rdOf false l0 x13_1) == (rdOf false l1 x13_1)) = true := by simpa using c8))
         clear c8
         have H' := Aside0.mk H
         clear H
         have p222 : 0 ≤ (x13_1 : Int) := of_decide_eq_true (by first | (with_reducible assumption) | assumption)
         have q222 : x13_1 < (l0.length : Int) := of_decide_eq_true (by first | (with_reducible assumption) | assumption)
         obtain ⟨ad222, e222, hx222_0⟩ := Kd.at_bool HR0.out x13_1 p222 q222
         cases e222
         replace p222 := eq_true p222
         replace q222 := eq_true q222
         have p223 : 0 ≤ (x13_1 : Int) := of_decide_eq_true (by first | (with_reducible assumption) | assumption)
         have q223 : x13_1 < (l1.length : Int) := of_decide_eq_true (by first | (with_reducible assumption) | assumption)
         obtain ⟨ad223, e223, hx223_0⟩ := Kd.at_bool HR1.out x13_1 p223 q223
         cases e223
         replace p223 := eq_true p223
         replace q223 := eq_true q223
         go_wp2
         repeat (go_quiet (fail); try go_wp2)
         go_roundg k1
         case measure => have := HK1.out; omega
         case rel => exact ⟨(wrap64 (x13_1 + 1)), (by first | rfl | (simp; done) | (simp [*]; done)), H', ⟨by have := HK1.out; omega⟩, by repeat (first | exact Drawn0.refl _ | apply Drawn0.step)⟩
       ·
        rw [if_neg c7] at H
        exact absurd H (by simp)
      ·
       rw [if_neg c6] at H
       exact absurd H (by simp)
     ·
      rw [if_neg c5] at H
      exact absurd H (by simp)
    ·
     rw [if_neg c4] at H
     have c4b0 : decide (x13_1 < (l0.length : Int)) = false := decide_eq_false c4
     clear c4
     obtain rfl := Option.some.inj H
     go_wp2
     repeat (go_quiet (fail); try go_wp2)
     go_ret
     exact ⟨by first | rfl | (simp; done) | (simp [*]; done), by repeat (first | exact Drawn0.refl _ | apply Drawn0.step)⟩
 ·
  rw [if_neg c3] at H
  have c3b0 : ((l0.length : Int) == (l1.length : Int)) = false := beq_eq_false_iff_ne.mpr c3
  have c3b1 : ((l0.length : Int) != (l1.length : Int)) = true := bne_iff_ne.mpr c3
  have c3b2 : (l0.length == l1.length) = false := by first | simpa using c3 | (simp at c3 ⊢; omega)
  obtain rfl := Option.some.inj H
  go_enter Try.func69, Try.ntmps69
  go_wp2
  repeat (go_quiet (fail); try go_wp2)
  go_ret
  exact ⟨by first | rfl | (simp; done) | (simp [*]; done), by repeat (first | exact Drawn0.refl _ | apply Drawn0.step)⟩

end Go.Proofs.Ytidfgmekhededaa.PFnExactDerives
