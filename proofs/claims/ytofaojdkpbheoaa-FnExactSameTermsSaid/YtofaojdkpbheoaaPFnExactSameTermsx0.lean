-- Written by wip/tools/myprint.py of this claim's session, over the kit's print, round texts of its own: own text.
import Derived.Test.YtofaojdkpbheoaaProg
import Derived.Shelf.Abstract
import Derived.Below
import Derived.Deep.Draws
import Derived.Deep.AppendLies
import Derived.Maps.AppendAt
import Derived.OwnWalk
import Derived.Laws.BytesArg
import Derived.Laws.MakeOwn
import Derived.Laws.OwnMore
import Derived.Deep.OwnRows
import Derived.Tactics
import Derived.Lib.ConvBytes
import Derived.Laws.Slices
import Derived.WalkKit
import Derived.KernelRfl
import Derived.RowKit3
import Derived.Deep.LoopGhost
import Derived.Deep.QuietTactic
import Derived.BigQuiet
import Derived.WideLaws
import Derived.Deep.DeepCutAuto
import Derived.Deep.CutBlock
import Derived.Deep.RegionHeld3
import Derived.Laws.Rows
import Derived.Lib.AppendStr
import Derived.ArgAppend
import Derived.Laws.IdiomCopy
import Derived.OrdersHeld
import Derived.Laws.BitsLemmas
import Derived.RowKit
import Derived.Maps.OwnOps
import Derived.Maps.Views
import Derived.DeepKeys4
import Derived.Maps.OwnSet
import Derived.Carry
import Derived.Test.YtofaojdkpbheoaaVFnExactSameTerms
namespace Go.Proofs.Ytofaojdkpbheoaa.PFnExactSameTerms
open Go.RowKit Go.Proofs.YtofaojdkpbheoaaW.PrintWords Go.Proofs.YtofaojdkpbheoaaW.PrintLast Go.Proofs.YtofaojdkpbheoaaW.PrintMore
attribute [local go_sem] max2_int min2_int max_two min_two max_three min_three max_four min_four   -- for this text's walks alone
set_option linter.unusedVariables false
set_option linter.unusedSimpArgs false



def errW : Option Int → Value
  | none => .nilIface
  | some c => .iface 0 (.int .i64 c)
theorem errW_none : errW none = .nilIface := rfl
theorem errW_some (c : Int) : errW (some c) = .iface 0 (.int .i64 c) := rfl

theorem info2 : (Try.prog.info? 2).map (fun i => (i.zero, i.size, i.bytes)) = some (some (.int .i64 0), 1, 8) := by kernel_rfl
theorem info4 : (Try.prog.info? 4).map (fun i => (i.zero, i.size, i.bytes)) = some (some (.bool false), 1, 1) := by kernel_rfl
theorem info34 : (Try.prog.info? 34).map (fun i => (i.zero, i.size, i.bytes)) = some (some (.agg #[(.int .i64 0), (.int .i64 0), (.int .i64 0), (.int .i64 0)]), 4, 32) := by kernel_rfl
-- the values' own types
/-! #### struct type 36 -/
structure S36 where
  f0 : Int
  f1 : Int
  f2 : Int
  f3 : Int
def z36 : S36 := ⟨(0 : Int), (0 : Int), (0 : Int), (0 : Int)⟩
def k36 : Kd S36 := Kd.iso (Kd.pair (Kd.int .i64) (Kd.pair (Kd.int .i64) (Kd.pair (Kd.int .i64) (Kd.int .i64)))) (fun x : S36 => (x.f0, x.f1, x.f2, x.f3))
theorem k36_open {w : World} {x : S36} {cs : List Value} (h : k36.K w x cs) : cs = [.int .i64 x.f0, .int .i64 x.f1, .int .i64 x.f2, .int .i64 x.f3] := by
  obtain ⟨_, _, rfl, rfl, ⟨_, _, rfl, rfl, ⟨_, _, rfl, rfl, rfl⟩⟩⟩ := h
  exact rfl
theorem k36_openM {w : World} {base : Nat} {ok : Nat → Prop} {x : S36} {cs : List Value} (h : k36.M w base ok x cs) : cs = [.int .i64 x.f0, .int .i64 x.f1, .int .i64 x.f2, .int .i64 x.f3] := by
  obtain ⟨_, _, rfl, rfl, ⟨_, _, rfl, rfl, ⟨_, _, rfl, rfl, rfl⟩⟩⟩ := h
  exact rfl
theorem k36_mk (w : World) (x : S36)  : k36.K w x [.int .i64 x.f0, .int .i64 x.f1, .int .i64 x.f2, .int .i64 x.f3] := ⟨[.int .i64 x.f0], [.int .i64 x.f1, .int .i64 x.f2, .int .i64 x.f3], rfl, rfl, ⟨[.int .i64 x.f1], [.int .i64 x.f2, .int .i64 x.f3], rfl, rfl, ⟨[.int .i64 x.f2], [.int .i64 x.f3], rfl, rfl, rfl⟩⟩⟩
theorem k36_mkM (w : World) (base : Nat) (ok : Nat → Prop) (x : S36)  : k36.M w base ok x [.int .i64 x.f0, .int .i64 x.f1, .int .i64 x.f2, .int .i64 x.f3] := ⟨[.int .i64 x.f0], [.int .i64 x.f1, .int .i64 x.f2, .int .i64 x.f3], rfl, rfl, ⟨[.int .i64 x.f1], [.int .i64 x.f2, .int .i64 x.f3], rfl, rfl, ⟨[.int .i64 x.f2], [.int .i64 x.f3], rfl, rfl, rfl⟩⟩⟩
def rd_T36 (xs : List S36) (i : Int) : S36 := xs.getD i.toNat z36
theorem at_T36 {w : World} {A : Option Addr} {n : Nat} {xs : List S36} (h : Kd.C k36 w A n xs) (i : Int) (h0 : 0 ≤ i) (h1 : i < n) : ∃ ad , A = some ad ∧ w.cell? (ad.add (i.toNat * 4)) = some (.int .i64 (rd_T36 xs i).f0) ∧ w.cell? ⟨(ad.add (i.toNat * 4)).block, (ad.add (i.toNat * 4)).off + 1, none⟩ = some (.int .i64 (rd_T36 xs i).f1) ∧ w.cell? ⟨(ad.add (i.toNat * 4)).block, (ad.add (i.toNat * 4)).off + 2, none⟩ = some (.int .i64 (rd_T36 xs i).f2) ∧ w.cell? ⟨(ad.add (i.toNat * 4)).block, (ad.add (i.toNat * 4)).off + 3, none⟩ = some (.int .i64 (rd_T36 xs i).f3) := by
  obtain ⟨ad, c, e, _, hK, hc0⟩ := Kd.C_get h z36 i h0 h1
  have hc : ∀ j u, c[j]? = some u → w.cell? (ad.add (i.toNat * 4 + j)) = some u := hc0
  obtain rfl := k36_open hK
  exact ⟨ad, e, hc 0 _ rfl, by rw [← add_field _ _ 1 (by omega)]; exact hc 1 _ rfl, by rw [← add_field _ _ 2 (by omega)]; exact hc 2 _ rfl, by rw [← add_field _ _ 3 (by omega)]; exact hc 3 _ rfl⟩

/-! #### struct type 34 -/
structure S34 where
  f0 : Int
  f1 : Int
  f2 : Int
  f3 : Int
def z34 : S34 := ⟨(0 : Int), (0 : Int), (0 : Int), (0 : Int)⟩
def k34 : Kd S34 := Kd.iso (Kd.pair (Kd.int .i64) (Kd.pair (Kd.int .i64) (Kd.pair (Kd.int .i64) (Kd.int .i64)))) (fun x : S34 => (x.f0, x.f1, x.f2, x.f3))
theorem k34_open {w : World} {x : S34} {cs : List Value} (h : k34.K w x cs) : cs = [.int .i64 x.f0, .int .i64 x.f1, .int .i64 x.f2, .int .i64 x.f3] := by
  obtain ⟨_, _, rfl, rfl, ⟨_, _, rfl, rfl, ⟨_, _, rfl, rfl, rfl⟩⟩⟩ := h
  exact rfl
theorem k34_openM {w : World} {base : Nat} {ok : Nat → Prop} {x : S34} {cs : List Value} (h : k34.M w base ok x cs) : cs = [.int .i64 x.f0, .int .i64 x.f1, .int .i64 x.f2, .int .i64 x.f3] := by
  obtain ⟨_, _, rfl, rfl, ⟨_, _, rfl, rfl, ⟨_, _, rfl, rfl, rfl⟩⟩⟩ := h
  exact rfl
theorem k34_mk (w : World) (x : S34)  : k34.K w x [.int .i64 x.f0, .int .i64 x.f1, .int .i64 x.f2, .int .i64 x.f3] := ⟨[.int .i64 x.f0], [.int .i64 x.f1, .int .i64 x.f2, .int .i64 x.f3], rfl, rfl, ⟨[.int .i64 x.f1], [.int .i64 x.f2, .int .i64 x.f3], rfl, rfl, ⟨[.int .i64 x.f2], [.int .i64 x.f3], rfl, rfl, rfl⟩⟩⟩
theorem k34_mkM (w : World) (base : Nat) (ok : Nat → Prop) (x : S34)  : k34.M w base ok x [.int .i64 x.f0, .int .i64 x.f1, .int .i64 x.f2, .int .i64 x.f3] := ⟨[.int .i64 x.f0], [.int .i64 x.f1, .int .i64 x.f2, .int .i64 x.f3], rfl, rfl, ⟨[.int .i64 x.f1], [.int .i64 x.f2, .int .i64 x.f3], rfl, rfl, ⟨[.int .i64 x.f2], [.int .i64 x.f3], rfl, rfl, rfl⟩⟩⟩
def rd_T34 (xs : List S34) (i : Int) : S34 := xs.getD i.toNat z34
theorem at_T34 {w : World} {A : Option Addr} {n : Nat} {xs : List S34} (h : Kd.C k34 w A n xs) (i : Int) (h0 : 0 ≤ i) (h1 : i < n) : ∃ ad , A = some ad ∧ w.cell? (ad.add (i.toNat * 4)) = some (.int .i64 (rd_T34 xs i).f0) ∧ w.cell? ⟨(ad.add (i.toNat * 4)).block, (ad.add (i.toNat * 4)).off + 1, none⟩ = some (.int .i64 (rd_T34 xs i).f1) ∧ w.cell? ⟨(ad.add (i.toNat * 4)).block, (ad.add (i.toNat * 4)).off + 2, none⟩ = some (.int .i64 (rd_T34 xs i).f2) ∧ w.cell? ⟨(ad.add (i.toNat * 4)).block, (ad.add (i.toNat * 4)).off + 3, none⟩ = some (.int .i64 (rd_T34 xs i).f3) := by
  obtain ⟨ad, c, e, _, hK, hc0⟩ := Kd.C_get h z34 i h0 h1
  have hc : ∀ j u, c[j]? = some u → w.cell? (ad.add (i.toNat * 4 + j)) = some u := hc0
  obtain rfl := k34_open hK
  exact ⟨ad, e, hc 0 _ rfl, by rw [← add_field _ _ 1 (by omega)]; exact hc 1 _ rfl, by rw [← add_field _ _ 2 (by omega)]; exact hc 2 _ rfl, by rw [← add_field _ _ 3 (by omega)]; exact hc 3 _ rfl⟩

def rd_L4 (xs : List (List S34)) (i : Int) : (List S34) := xs.getD i.toNat ([] : List S34)
theorem at_L4 {w : World} {A : Option Addr} {n : Nat} {xs : List (List S34)} (h : Kd.C (Kd.slice 34 k34) w A n xs) (i : Int) (h0 : 0 ≤ i) (h1 : i < n) : ∃ ad A0 c0, A = some ad ∧ w.cell? (ad.add i.toNat) = some (.slice A0 (rd_L4 xs i).length c0) ∧ (rd_L4 xs i).length ≤ c0 ∧ k34.C w A0 (rd_L4 xs i).length (rd_L4 xs i) := by
  obtain ⟨ad, c, e, _, hK, hc0⟩ := Kd.C_get h ([] : List S34) i h0 h1
  have hc : ∀ j u, c[j]? = some u → w.cell? (ad.add (i.toNat * 1 + j)) = some u := hc0
  obtain ⟨A0, c0, rfl, l0, g0⟩ := hK
  exact ⟨ad, A0, c0, e, by have hq := hc 0 _ rfl; rwa [Nat.mul_one, Nat.add_zero] at hq, l0, g0⟩

def rd_L5 (xs : List (List Int)) (i : Int) : (List Int) := xs.getD i.toNat ([] : List Int)
theorem at_L5 {w : World} {A : Option Addr} {n : Nat} {xs : List (List Int)} (h : Kd.C (Kd.slice 2 (Kd.int .i64)) w A n xs) (i : Int) (h0 : 0 ≤ i) (h1 : i < n) : ∃ ad A0 c0, A = some ad ∧ w.cell? (ad.add i.toNat) = some (.slice A0 (rd_L5 xs i).length c0) ∧ (rd_L5 xs i).length ≤ c0 ∧ (Kd.int .i64).C w A0 (rd_L5 xs i).length (rd_L5 xs i) := by
  obtain ⟨ad, c, e, _, hK, hc0⟩ := Kd.C_get h ([] : List Int) i h0 h1
  have hc : ∀ j u, c[j]? = some u → w.cell? (ad.add (i.toNat * 1 + j)) = some u := hc0
  obtain ⟨A0, c0, rfl, l0, g0⟩ := hK
  exact ⟨ad, A0, c0, e, by have hq := hc 0 _ rfl; rwa [Nat.mul_one, Nat.add_zero] at hq, l0, g0⟩

/-! ### (my own text) csWords -/
-- one hypothesis for what a call has made (boxes, rows) and what it stands on (G): the walk's events tell it anew
theorem ifE {α : Type} {a b : Int} {i : Decidable (a = b)} {x y : Option α} {r : α} (h : (@ite (Option α) (a = b) i x y) = some r) : ((a == b) = true ∧ (a != b) = false ∧ x = some r) ∨ ((a == b) = false ∧ (a != b) = true ∧ y = some r) := by
  by_cases c : a = b
  · exact .inl ⟨beq_iff_eq.mpr c, bne_eq_false_iff_eq.mpr c, (if_pos c).symm.trans h⟩
  · exact .inr ⟨beq_eq_false_iff_ne.mpr c, bne_iff_ne.mpr c, (if_neg c).symm.trans h⟩
theorem ifB {α : Type} {b : Bool} {i : Decidable (b = true)} {x y : Option α} {r : α} (h : (@ite (Option α) (b = true) i x y) = some r) : (b = true ∧ x = some r) ∨ (b = false ∧ y = some r) := by
  by_cases c : b = true
  · exact .inl ⟨c, (if_pos c).symm.trans h⟩
  · exact .inr ⟨by simpa using c, (if_neg c).symm.trans h⟩
theorem ifD {α : Type} {p : Prop} {i : Decidable p} {x y : Option α} {r : α} (h : (@ite (Option α) p i x y) = some r) : (@decide p i = true ∧ x = some r) ∨ (@decide p i = false ∧ y = some r) := by
  by_cases c : p
  · exact .inl ⟨decide_eq_true c, (if_pos c).symm.trans h⟩
  · exact .inr ⟨decide_eq_false c, (if_neg c).symm.trans h⟩
theorem bindS {α β : Type} {x : Option α} {f : α → Option β} {r : β} (h : x.bind f = some r) : ∃ y, Aside0 (x = some y) ∧ f y = some r := by
  obtain ⟨y, h1, h2⟩ := Option.bind_eq_some_iff.mp h
  exact ⟨y, ⟨h1⟩, h2⟩
theorem someB {α : Type} {b : Bool} {x y r : α} (h : some (if b = true then x else y) = some r) : (b = true ∧ some x = some r) ∨ (b = false ∧ some y = some r) := by
  cases b
  · exact .inr ⟨rfl, h⟩
  · exact .inl ⟨rfl, h⟩
theorem noneE {α : Type} {r : α} {p : Prop} (h : (none : Option α) = some r) : p := nomatch h
class Gc (w : World) (G : World → Prop) (z : Option Nat) : Prop where
  size : ∀ W, G W → w.heap.size ≤ W.heap.size
  grow : ∀ W W1, G W → Below W.heap.size W W1 → G W1
  put : ∀ W b i u, G W → w.heap.size ≤ b → some b ≠ z → G (W.setCell ⟨b, i, none⟩ u)
  zlt : ∀ W, G W → ∀ k, z = some k → k < W.heap.size
  gr : ∀ W W1 row, G W → W.grownBy W1 row → (∀ k, row = some k → w.heap.size ≤ k ∧ some k ≠ z) → G W1
def Gb (w W : World) : Prop := Below w.heap.size w W
instance gc_b (w : World) : Gc w (Gb w) none := ⟨fun _ h => h.size, fun _ _ h hb => below_then h h.size hb, fun _ _ _ _ h hg _ => below_set h hg, fun _ _ _ h => (nomatch h), fun _ _ _ h hg hr => Below.grown h hg h.size fun k e => (hr k e).1⟩
abbrev Bx := List (Nat × Array Value × TypeId)
abbrev Rw := (Nat → Prop) → World → Prop
def Stab (φ : Rw) : Prop := ∀ S V V', φ S V → (∀ k, S k → V'.heap[k]? = V.heap[k]?) → φ S V'
theorem stab_R {α : Type} (d : Kd α) (e base : Nat) (v : Value) (xs : List α) : Stab (fun ok W' => d.R e W' base ok v xs) := fun _ _ _ h hk => Kd.R_move h hk
structure CS (w : World) (G : World → Prop) (z : Option Nat) (bs : Bx) (rs : List Rw) (W : World) : Prop where
  gc : Gc w G z
  g : G W
  blk : ∀ x ∈ bs, W.heap[x.1]? = some (.cells x.2.1 x.2.2 (0, 0)) ∧ w.heap.size ≤ x.1 ∧ some x.1 ≠ z
  ne : bs.Pairwise (fun x y => x.1 ≠ y.1)
  rows : ∀ φ ∈ rs, ∃ S : Nat → Prop, (Stab φ ∧ φ S W) ∧ ∀ k, S k → w.heap.size ≤ k ∧ k < W.heap.size ∧ some k ≠ z ∧ ∀ x ∈ bs, x.1 ≠ k
namespace CS
variable {w W W1 : World} {G G1 : World → Prop} {z : Option Nat} {bs : Bx} {rs : List Rw}
theorem start [c : Gc w G z] (h : G w) : CS w G z [] [] w := ⟨c, h, by simp, List.Pairwise.nil, by simp⟩
theorem startB (w : World) : CS w (Gb w) none [] [] w := start (Below.refl _ _)
theorem move [c : Gc w G1 z] (h : CS w G z bs rs W) (hg : G1 W1) (hs : W.heap.size ≤ W1.heap.size) (hk : ∀ k, w.heap.size ≤ k → k < W.heap.size → some k ≠ z → W1.heap[k]? = W.heap[k]?) : CS w G1 z bs rs W1 :=
  ⟨c, hg, fun x hx => ⟨(hk _ (h.blk x hx).2.1 (blk_lt (h.blk x hx).1) (h.blk x hx).2.2).trans (h.blk x hx).1, (h.blk x hx).2⟩, h.ne, fun φ hφ => by
    obtain ⟨S, h1, h2⟩ := h.rows φ hφ
    exact ⟨S, ⟨h1.1, h1.1 S _ _ h1.2 fun k hS => hk k (h2 k hS).1 (h2 k hS).2.1 (h2 k hS).2.2.1⟩, fun k hS => ⟨(h2 k hS).1, Nat.lt_of_lt_of_le (h2 k hS).2.1 hs, (h2 k hS).2.2⟩⟩⟩
theorem below (h : CS w G z bs rs W) (hb : Below W.heap.size W W1) : CS w G z bs rs W1 := h.move (c := h.gc) (h.gc.grow _ _ h.g hb) hb.size fun k _ hk _ => hb.block k hk
theorem drewN (h : CS w G z bs rs W) (m : Nat) : CS w G z bs rs (W.drewN m) := h.below (pw_below_drewN (Below.refl _ _) m)
theorem drew (h : CS w G z bs rs W) : CS w G z bs rs W.drew := h.below (below_drew (Below.refl _ _))
theorem box (h : CS w G z bs rs W) {b : Nat} {cs : Array Value} {t : TypeId} (hg : b = W.heap.size) (hbox : W1.heap[b]? = some (.cells cs t (0, 0))) (hb : Below W.heap.size W W1) : CS w G z ((b, cs, t) :: bs) rs W1 := by
  have h1 := h.below hb
  refine ⟨h.gc, h1.g, fun x hx => ?_, List.pairwise_cons.2 ⟨fun y hy => ?_, h.ne⟩, fun φ hφ => ?_⟩
  · rcases List.mem_cons.1 hx with rfl | hx
    · exact ⟨hbox, by rw [hg]; exact h.gc.size _ h.g, fun e => by have := h.gc.zlt _ h.g b e.symm; omega⟩
    · exact h1.blk x hx
  · rw [hg]
    exact Nat.ne_of_gt (blk_lt (h.blk y hy).1)
  · obtain ⟨S, h2, h3⟩ := h.rows φ hφ
    refine ⟨S, ⟨h2.1, h2.1 S _ _ h2.2 fun k hS => hb.block k (h3 k hS).2.1⟩, fun k hS => ⟨(h3 k hS).1, Nat.lt_of_lt_of_le (h3 k hS).2.1 hb.size, (h3 k hS).2.2.1, fun x hx => ?_⟩⟩
    rcases List.mem_cons.1 hx with rfl | hx
    · rw [hg]
      exact Nat.ne_of_gt (h3 k hS).2.1
    · exact (h3 k hS).2.2.2 x hx
theorem put (k : Nat) (h : CS w G z bs rs W) {b : Nat} {cs : Array Value} {t : TypeId} (hk : bs[k]? = some (b, cs, t)) (i : Nat) (u : Value) : CS w G z (bs.set k (b, cs.setIfInBounds i u, t)) rs (W.setCell ⟨b, i, none⟩ u) := by
  obtain ⟨hlt, he⟩ := List.getElem?_eq_some_iff.1 hk
  have hm := List.mem_of_getElem? hk
  have hb := h.blk _ hm
  have hmap : (bs.set k (b, cs.setIfInBounds i u, t)).map (·.1) = bs.map (·.1) := by
    rw [List.map_set]
    refine List.ext_getElem? fun j => ?_
    rw [List.getElem?_set]
    by_cases e : k = j
    · subst e
      simp [he, hlt]
    · rw [if_neg e]
  refine ⟨h.gc, h.gc.put _ _ _ _ h.g hb.2.1 hb.2.2, fun x hx => ?_, ?_, fun φ hφ => ?_⟩
  · obtain ⟨j, hj, rfl⟩ := List.mem_iff_getElem.1 hx
    rw [List.length_set] at hj
    rw [List.getElem_set]
    by_cases e : k = j
    · rw [if_pos e]
      exact ⟨blk_set hb.1 i u, hb.2⟩
    · rw [if_neg e]
      have hx2 := h.blk _ (List.getElem_mem hj)
      have hp := List.pairwise_iff_getElem.1 h.ne
      have hne : bs[j].1 ≠ b := by
        have he1 : (bs[k]).1 = b := by rw [he]
        rcases Nat.lt_or_gt_of_ne e with hl | hl
        · exact fun h0 => hp k j hlt hj hl (he1.trans h0.symm)
        · exact fun h0 => hp j k hj hlt hl (h0.trans he1.symm)
      exact ⟨blk_far hx2.1 hne u, hx2.2⟩
  · have h2 := (List.pairwise_map (R := fun a b : Nat => a ≠ b) (f := fun x : Nat × Array Value × TypeId => x.1) (l := bs)).2 h.ne
    rw [← hmap] at h2
    exact List.pairwise_map.1 h2
  · obtain ⟨S, h2, h3⟩ := h.rows φ hφ
    refine ⟨S, ⟨h2.1, h2.1 S _ _ h2.2 fun k hS => Below.heap_setCell W _ u k (fun e => (h3 k hS).2.2.2 _ hm e.symm)⟩, fun k hS => ⟨(h3 k hS).1, by have := (h3 k hS).2.1; simpa [World.setCell] using this, (h3 k hS).2.2.1, fun x hx => ?_⟩⟩
    have : x.1 ∈ bs.map (·.1) := hmap ▸ List.mem_map_of_mem hx
    obtain ⟨y, hy, e⟩ := List.mem_map.1 this
    exact fun e2 => (h3 k hS).2.2.2 y hy (e.trans e2)
theorem addrow {α : Type} {d : Kd α} {e base : Nat} {ok : Nat → Prop} {v : Value} {xs : List α} (h : CS w G z bs rs W) (hw : w.heap.size ≤ W.heap.size) (h1 : CS w G1 z bs rs W1) (hR : d.R e W1 base ok v xs) (hb : W.heap.size ≤ base) : CS w G1 z bs ((fun ok W' => d.R e W' w.heap.size ok v xs) :: rs) W1 := by
  refine ⟨h1.gc, h1.g, h1.blk, h1.ne, fun φ hφ => ?_⟩
  rcases List.mem_cons.1 hφ with rfl | hφ
  · refine ⟨fun k => base ≤ k ∧ k < W1.heap.size, ⟨stab_R _ _ _ _ _, Kd.R_lower (Kd.R_mono (Kd.R_bound hR) fun k hk => ⟨hk.2.1, hk.2.2.1⟩) (Nat.le_trans hw hb)⟩, fun k hk => ⟨Nat.le_trans (Nat.le_trans hw hb) hk.1, hk.2, fun e => by have := h.gc.zlt _ h.g k e.symm; omega, fun x hx => ?_⟩⟩
    have := blk_lt (h.blk x hx).1
    omega
  · exact h1.rows φ hφ
theorem row (h : CS w G z bs rs W) (k : Nat) {α : Type} {d : Kd α} {e base : Nat} {v : Value} {xs : List α} (hk : rs[k]? = some (fun ok W' => d.R e W' base ok v xs)) : d.R e W base (fun _ => True) v xs := by
  obtain ⟨S, h1, _⟩ := h.rows _ (List.mem_of_getElem? hk)
  exact Kd.R_mono h1.2 fun _ _ => trivial
theorem tail {x : Nat × Array Value × TypeId} (h : CS w G z (x :: bs) rs W) : CS w G z bs rs W := ⟨h.gc, h.g, fun y hy => h.blk y (List.mem_cons_of_mem _ hy), (List.pairwise_cons.1 h.ne).2, fun φ hφ => by
  obtain ⟨S, h1, h2⟩ := h.rows φ hφ
  exact ⟨S, h1, fun k hS => ⟨(h2 k hS).1, (h2 k hS).2.1, (h2 k hS).2.2.1, fun y hy => (h2 k hS).2.2.2 y (List.mem_cons_of_mem _ hy)⟩⟩⟩
theorem c (h : CS w G z bs rs W) (k : Nat) {b : Nat} {cs : Array Value} {t : TypeId} (hk : bs[k]? = some (b, cs, t)) (j : Nat) : W.cell? ⟨b, j, none⟩ = cs[j]? := blk_cell (h.blk _ (List.mem_of_getElem? hk)).1 j
theorem f (h : CS w G z bs rs W) (k : Nat) {b : Nat} {cs : Array Value} {t : TypeId} (hk : bs[k]? = some (b, cs, t)) (j : Nat) : W.frozen? ⟨b, j, none⟩ = false := blk_frozen (h.blk _ (List.mem_of_getElem? hk)).1 j
theorem at_ (h : CS w G z bs rs W) (k : Nat) {b : Nat} {cs : Array Value} {t : TypeId} (hk : bs[k]? = some (b, cs, t)) : W.heap[b]? = some (.cells cs t (0, 0)) := (h.blk _ (List.mem_of_getElem? hk)).1
end CS
section
variable {P : Program} {ops : Array Oper} {rest : List Oper} {o : Oper} {a : Act} {Q : Exit → Act → World → Prop} {w W : World} {G : World → Prop} {z : Option Nat} {bs bs' : Bx} {rs : List Rw}
theorem gate_lit {t : TypeId} {m : Nat} {ps : Array (Nat × Operand)} (_ho : o.op = .buildSlice t m ps) (h : wpList P ops Q (o :: rest) a W) : wpList P ops Q (o :: rest) a W := h
theorem gate_st {t : TypeId} {p : Tmp} {v : Operand} (_ho : o.op = .store t (.tmp p) v) (h : wpList P ops Q (o :: rest) a W) : wpList P ops Q (o :: rest) a W := h
theorem gate_al {t : TypeId} (_ho : o.op = .alloc t) (h : wpList P ops Q (o :: rest) a W) : wpList P ops Q (o :: rest) a W := h
theorem gate_bx {t : TypeId} {x : Operand} (_ho : o.op = .box t x) (h : wpList P ops Q (o :: rest) a W) : wpList P ops Q (o :: rest) a W := h
theorem gate_mk {t : TypeId} {x y : Operand} (_ho : o.op = .makeSlice t x y) (h : wpList P ops Q (o :: rest) a W) : wpList P ops Q (o :: rest) a W := h
theorem ev_box {R : Result Next} {cs : Array Value} {t : TypeId} (h : ∀ b w1, CS w G z ((b, cs, t) :: bs) rs w1 → wpList P ops Q rest (a.put o.dst (.pointer (some ⟨b, 0, none⟩))) w1)
    (hgd : o.guard = none := by rfl) (hrun : (execOp a.eval o).run P W = R := by (go_simp; first | done | rfl))
    (hR : R = .ok (.value (.pointer (some ⟨W.heap.size, 0, none⟩))) (W.alloc (.cells cs t (0, 0))) := by rfl) (hD : CS w G z bs rs W := by with_reducible first | exact D.out | exact D.out.drewN _) : wpList P ops Q (o :: rest) a W :=
  Kd.event_run hgd (hrun.trans hR) (h _ _ (hD.box rfl (blk_new W _) (below_alloc (Below.refl _ _) _)))
theorem ev_lit {R : Result Next} {cs : Array Value} {t : TypeId} {m : Nat} (h : ∀ b w1, CS w G z ((b, cs, t) :: bs) rs w1 → wpList P ops Q rest (a.put o.dst (.slice (some ⟨b, 0, none⟩) m m)) w1)
    (hgd : o.guard = none := by rfl) (hrun : (execOp a.eval o).run P W = R := by (go_simp; first | done | rfl))
    (hR : R = .ok (.value (.slice (some ⟨W.heap.size, 0, none⟩) m m)) (W.alloc (.cells cs t (0, 0))) := by rfl) (hD : CS w G z bs rs W := by with_reducible first | exact D.out | exact D.out.drewN _) : wpList P ops Q (o :: rest) a W :=
  Kd.event_run hgd (hrun.trans hR) (h _ _ (hD.box rfl (blk_new W _) (below_alloc (Below.refl _ _) _)))
theorem ev_store {R : Result Next} {W1 : World} {t : TypeId} {p : Tmp} {v : Operand} (h : ∀ w1, CS w G z bs' rs w1 → wpList P ops Q rest a w1)
    (hgd : o.guard = none := by rfl) (ho : o.op = .store t (.tmp p) v := by rfl) (hN : o.dst = none := by rfl) (hrun : (execOp a.eval o).run P W = R := by (go_simp; first | done | rfl))
    (hR : R = .ok .skip W1 := by rfl) (hD : CS w G z bs' rs W1 := by first | ((repeat (first | (with_reducible first | exact D.out | exact D.out.drewN _) | apply CS.put 0)); all_goals rfl) | ((repeat (first | (with_reducible first | exact D.out | exact D.out.drewN _) | apply CS.put 1)); all_goals rfl) | ((repeat (first | (with_reducible first | exact D.out | exact D.out.drewN _) | apply CS.put 2)); all_goals rfl) | ((repeat (first | (with_reducible first | exact D.out | exact D.out.drewN _) | apply CS.put 3)); all_goals rfl) | ((repeat (first | (with_reducible first | exact D.out | exact D.out.drewN _) | apply CS.put 4)); all_goals rfl)) : wpList P ops Q (o :: rest) a W := by
  refine store_event hgd ho hN (hrun.trans hR) ?_
  rintro w' rfl
  exact h _ hD
theorem ev_make {x y : Operand} (d : Kd Int) (n : Int) (t e bytes : Nat) (zv : Value) (h : ∀ A c w1, CS w G z bs ((fun ok W' => d.R e W' w.heap.size ok (.slice A n.toNat c) (List.replicate n.toNat (0 : Int))) :: rs) w1 → wpList P ops Q rest (a.put o.dst (.slice A n.toNat c)) w1)
    (h0 : 0 ≤ n) (hl : n.toNat * bytes ≤ 281474976710656) (hgd : o.guard = none := by rfl) {N : Tmp} (hd : o.dst = some N := by rfl) (ho : o.op = .makeSlice t x y := by rfl) (hx : a.eval x = .int .i64 n := by rfl) (hy : a.eval y = .int .i64 n := by rfl)
    (ht : P.underlying t = some (.slice e) := by rfl) (hinfo : (P.info? e).map (fun i => (i.zero, i.size, i.bytes)) = some (some zv, d.sz, bytes) := by kernel_rfl) (hz : zv.cells.size = d.sz := by rfl) (hs0 : 0 < d.sz := by decide) (hb0 : 0 < bytes := by decide) (hzero : d.M W W.heap.size (fun _ => True) 0 zv.cells.toList := by rfl)
    (hD : CS w G z bs rs W := by with_reducible first | exact D.out | exact D.out.drewN _) : wpList P ops Q (o :: rest) a W := by
  refine Kd.R_make d (w0 := W) W.heap.size e hgd hd t x y ho n hx hy ht zv bytes hinfo hz hs0 hb0 0 (ok := fun _ => True) hzero (fun _ h => h) trivial h0 hl (Below.refl _ _) (Nat.le_refl _) ?_
  intro v1 w1 hR hb _ _
  obtain ⟨A, c', rfl⟩ := Kd.R_slice hR
  rw [List.length_replicate] at hR ⊢
  exact h A c' w1 (CS.addrow hD (hD.gc.size _ hD.g) (hD.below hb) hR (Nat.le_refl _))
end
section
variable {P : Program} {f : FuncId} {args : Array Value} {w W : World} {G : World → Prop} {z : Option Nat} {bs : Bx} {rs : List Rw} {φ : Ending → Prop}
theorem CS.via (D : CS w G z bs rs W) (h : Calls P f args W fun e w' => φ e ∧ Below W.heap.size W w') : Calls P f args W fun e w' => φ e ∧ CS w G z bs rs w' := h.mono fun _ _ ⟨h1, h2⟩ => ⟨h1, D.below h2⟩
theorem CS.viaE (D : CS w G z bs rs W) (h : Calls P f args W fun e w' => φ e ∧ w' = W) : Calls P f args W fun e w' => φ e ∧ CS w G z bs rs w' := h.mono fun _ _ ⟨h1, h2⟩ => ⟨h1, h2 ▸ D⟩
theorem CS.viaQ (D : CS w G z bs rs W) (h : Calls P f args W fun e w' => φ e ∧ Drawn0 W w') : Calls P f args W fun e w' => φ e ∧ CS w G z bs rs w' := h.mono fun _ _ ⟨h1, m, h2⟩ => ⟨h1, h2 ▸ D.drewN m⟩
theorem CS.viaR {α : Type} {d : Kd α} {e1 : Nat} {xs : List α} {F : Value → Value} (D : CS w G z bs rs W) (h : Calls P f args W fun e w' => ∃ v, e = .returned (F v) ∧ d.R e1 w' W.heap.size (fun _ => True) v xs ∧ Below W.heap.size W w') :
    Calls P f args W fun e w' => ∃ A c, e = .returned (F (.slice A xs.length c)) ∧ CS w G z bs ((fun ok W' => d.R e1 W' w.heap.size ok (.slice A xs.length c) xs) :: rs) w' := h.mono fun _ _ ⟨v, h1, h2, h3⟩ => by
  obtain ⟨A, c', rfl⟩ := Kd.R_slice h2
  exact ⟨A, c', h1, CS.addrow D (D.gc.size _ D.g) (D.below h3) h2 (Nat.le_refl _)⟩
end
theorem CS.bel {w W : World} {bs : Bx} {rs : List Rw} (D : CS w (Gb w) none bs rs W) : Below w.heap.size w W := D.g
/-! ### (my own text) apWords -/
theorem CS.litC {w W : World} {G : World → Prop} {z : Option Nat} {bs : Bx} {rs : List Rw} {b : Nat} {cs : Array Value} {t : TypeId} (D : CS w G z ((b, cs, t) :: bs) rs W) {xs : List Int} (hc : cs.toList = xs.map (Value.int .i64)) (hm : xs.length ≤ 9223372036854775807) : Kd.C (Kd.int .i64) W (some ⟨b, 0, none⟩) xs.length xs := by
  refine ⟨rfl, hm, fun _ => ⟨_, rfl, fun j p hj => ⟨[.int .i64 p], rfl, rfl, fun i u hi => ?_⟩⟩⟩
  obtain rfl : i = 0 := by
    have := (List.getElem?_eq_some_iff.1 hi).1
    simp at this
    omega
  obtain rfl : Value.int .i64 p = u := by simpa using hi
  have hq := D.c 0 rfl j
  have e1 : cs[j]? = some (Value.int .i64 p) := by
    rw [← Array.getElem?_toList, hc, List.getElem?_map, hj]
    rfl
  rw [e1] at hq
  rw [show (⟨b, 0, none⟩ : Addr).add (j * (Kd.int IntKind.i64).sz + 0) = ⟨b, j, none⟩ from by rw [show j * (Kd.int IntKind.i64).sz + 0 = j from Nat.mul_one j]; unfold Addr.add; split <;> simp_all]
  exact hq
theorem ev_row0 {P : Program} {ops : Array Oper} {rest : List Oper} {o : Oper} {a : Act} {Q : Exit → Act → World → Prop} {w W : World} {G : World → Prop} {z : Option Nat} {bs : Bx} {rs : List Rw} {α : Type} (d : Kd α) (e : Nat) {N : Tmp}
    (h : ∀ A c w1, CS w G z bs ((fun ok W' => d.R e W' w.heap.size ok (.slice A ([] : List α).length c) []) :: rs) w1 → wpList P ops Q rest (a.put o.dst (.slice A ([] : List α).length c)) w1) (hD : CS w G z bs rs W)
    (hgd : o.guard = none := by rfl) (hd : o.dst = some N := by rfl) (hrun : (execOp a.eval o).run P W = .ok (.value (.slice (some ⟨W.heap.size, 0, none⟩) ([] : List α).length ([] : List α).length)) (W.alloc (.cells ([] : List Value).toArray e)) := by (go_simp; first | done | rfl)) : wpList P ops Q (o :: rest) a W := by
  refine Kd.R_lit d (w0 := W) W.heap.size e hgd hd (xs := []) (inner := []) (ok := fun _ => True) (okp := fun _ => True) hrun (Reps.none _ _) (fun _ h => h) trivial (Below.refl _ _) (Nat.le_refl _) (by simp) ?_
  intro v1 w1 hR hb _ _
  obtain ⟨A, c', rfl⟩ := Kd.R_slice hR
  exact h A c' w1 (CS.addrow hD (hD.gc.size _ hD.g) (hD.below hb) hR (Nat.le_refl _))
theorem gate_ap {P : Program} {ops : Array Oper} {rest : List Oper} {o : Oper} {a : Act} {Q : Exit → Act → World → Prop} {W : World} {x y : Operand} {ts : Array TypeId} (_ho : o.op = .call { callee := .builtin .append, args := #[x, y], argTypes := ts }) (h : wpList P ops Q (o :: rest) a W) : wpList P ops Q (o :: rest) a W := h
theorem ev_append {P : Program} {ops : Array Oper} {rest : List Oper} {o : Oper} {a : Act} {Q : Exit → Act → World → Prop} {w W : World} {G : World → Prop} {z : Option Nat} {bs : Bx} {α : Type} (d : Kd α) (t e : TypeId) (zv : Value) (bytes : Nat) (s x : Operand) {A : Option Addr} {c : Nat} {xs : List α} (p : α) (cs : List Value)
    (h : ∀ A c w1, CS w G z bs [fun ok W' => d.R e W' w.heap.size ok (.slice A (xs ++ [p]).length c) (xs ++ [p])] w1 → wpList P ops Q rest (a.put o.dst (.slice A (xs ++ [p]).length c)) w1)
    (hl : (xs.length + 1) * bytes ≤ 140737488355328) (hD : CS w G z bs [fun ok W' => d.R e W' w.heap.size ok (.slice A xs.length c) xs] W) (hp : d.M W w.heap.size (fun _ => False) p cs)
    (hgd : o.guard = none := by rfl) (ho : o.op = .call { callee := .builtin .append, args := #[s, x], argTypes := #[t, t] } := by rfl) (hs : a.eval s = .slice A xs.length c := by rfl) (hx : a.eval x = .slice (some ⟨W.heap.size, 0, none⟩) 1 1 := by rfl)
    (ht : P.underlying t = some (.slice e) := by rfl) (hinfo : (P.info? e).map (fun i => (i.zero, i.size, i.bytes)) = some (some zv, d.sz, bytes) := by kernel_rfl) (hz : zv.cells.size = d.sz := by rfl) (hs0 : 0 < d.sz := by decide) (hb0 : 0 < bytes := by decide) : wpList P ops Q (o :: rest) a (W.alloc (.cells cs.toArray e)) := by
  obtain ⟨S, h1, h2⟩ := hD.rows _ (List.mem_singleton.2 rfl)
  have hsz : w.heap.size ≤ W.heap.size := hD.gc.size _ hD.g
  refine Kd.R_append d (w0 := W) w.heap.size hgd s x t e zv bytes ho ht hinfo hz hs0 hb0 _ xs p cs (fun k => S k ∨ W.heap.size ≤ k) (fun _ => False) hs hx hp (fun _ hk => hk.elim) (fun k hk => .inr hk) (Kd.R_mono h1.2 fun _ hk => .inl hk) (Below.refl _ _) hsz hl ?_
  intro v1 w1 hR hb hg hat
  obtain ⟨A1, c1, rfl⟩ := Kd.R_slice hR
  refine h A1 c1 w1 ⟨hD.gc, hD.gc.gr _ _ _ hD.g hg fun k e => ⟨(h2 k (h1.2.1 k e)).1, (h2 k (h1.2.1 k e)).2.2.1⟩, fun y hy => ⟨?_, (hD.blk y hy).2⟩, hD.ne, fun φ hφ => ?_⟩
  · refine blk_grown (hD.blk y hy).1 hg fun e1 => ?_
    have h3 := h1.2.1 y.1 e1.symm
    exact (h2 _ h3).2.2.2 y hy rfl
  · obtain rfl := List.mem_singleton.1 hφ
    refine ⟨fun k => (S k ∨ W.heap.size ≤ k) ∧ w.heap.size ≤ k ∧ k < w1.heap.size, ⟨stab_R _ _ _ _ _, Kd.R_mono (Kd.R_bound hR) fun k hk => ⟨hk.1, hk.2.1, hk.2.2.1⟩⟩, fun k hk => ⟨hk.2.1, hk.2.2, ?_, fun y hy => ?_⟩⟩
    · rcases hk.1 with h4 | h4
      · exact (h2 k h4).2.2.1
      · exact fun e => by have := hD.gc.zlt _ hD.g k e.symm; omega
    rcases hk.1 with h4 | h4
    · exact (h2 k h4).2.2.2 y hy
    · have := blk_lt (hD.blk y hy).1
      omega

end Go.Proofs.Ytofaojdkpbheoaa.PFnExactSameTerms
