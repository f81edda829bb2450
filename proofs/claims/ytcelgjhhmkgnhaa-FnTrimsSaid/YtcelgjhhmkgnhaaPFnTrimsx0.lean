-- Written by wip/tools/myprint.py of this claim's session, over the kit's print, round texts of its own: own text.
import Derived.Test.YtcelgjhhmkgnhaaProg
import Derived.Shelf.Abstract
import Derived.Below
import Derived.Deep.Draws
import Derived.Deep.AppendLies
import Derived.Maps.AppendAt
import Derived.OwnWalk
import Derived.Laws.BytesArg
import Derived.Laws.MakeOwn
import Derived.Laws.OwnMore
import Derived.Deep.OwnRows
import Derived.Tactics
import Derived.Lib.ConvBytes
import Derived.Laws.Slices
import Derived.WalkKit
import Derived.KernelRfl
import Derived.RowKit3
import Derived.Deep.LoopGhost
import Derived.Deep.QuietTactic
import Derived.BigQuiet
import Derived.WideLaws
import Derived.Deep.DeepCutAuto
import Derived.Deep.CutBlock
import Derived.Deep.RegionHeld3
import Derived.Laws.Rows
import Derived.Lib.AppendStr
import Derived.ArgAppend
import Derived.Laws.IdiomCopy
import Derived.OrdersHeld
import Derived.Laws.BitsLemmas
import Derived.RowKit
import Derived.Test.YtcelgjhhmkgnhaaVFnTrims
namespace Go.Proofs.Ytcelgjhhmkgnhaa.PFnTrims
open Go.RowKit Go.Proofs.YtcelgjhhmkgnhaaW.PrintWords Go.Proofs.YtcelgjhhmkgnhaaW.PrintLast Go.Proofs.YtcelgjhhmkgnhaaW.PrintMore
attribute [local go_sem] max2_int min2_int max_two min_two max_three min_three max_four min_four   -- for this text's walks alone
set_option linter.unusedVariables false
set_option linter.unusedSimpArgs false



def errW : Option Int → Value
  | none => .nilIface
  | some c => .iface 0 (.int .i64 c)
theorem errW_none : errW none = .nilIface := rfl
theorem errW_some (c : Int) : errW (some c) = .iface 0 (.int .i64 c) := rfl

theorem info2 : (Try.prog.info? 2).map (fun i => (i.zero, i.size, i.bytes)) = some (some (.int .i64 0), 1, 8) := by kernel_rfl
theorem info5 : (Try.prog.info? 5).map (fun i => (i.zero, i.size, i.bytes)) = some (some (.int .u8 0), 1, 1) := by kernel_rfl
theorem info63 : (Try.prog.info? 63).map (fun i => (i.zero, i.size, i.bytes)) = some (some (.agg #[(.int .i64 0), (.int .i64 0)]), 2, 16) := by kernel_rfl
theorem info87 : (Try.prog.info? 87).map (fun i => (i.zero, i.size, i.bytes)) = some (some (.agg #[(.int .i64 0), (.int .i64 0), (.int .i64 0), (.int .i64 0), (.int .i64 0), (.int .i64 0), (.int .i64 0), (.int .i64 0), (.int .i64 0), (.int .i64 0), (.int .i64 0)]), 11, 88) := by kernel_rfl
-- the values' own types
/-! #### struct type 63 -/
structure S63 where
  f0 : Int
  f1 : Int
def z63 : S63 := ⟨(0 : Int), (0 : Int)⟩
def k63 : Kd S63 := Kd.iso (Kd.pair (Kd.int .i64) (Kd.int .i64)) (fun x : S63 => (x.f0, x.f1))
theorem k63_open {w : World} {x : S63} {cs : List Value} (h : k63.K w x cs) : cs = [.int .i64 x.f0, .int .i64 x.f1] := by
  obtain ⟨_, _, rfl, rfl, rfl⟩ := h
  exact rfl
theorem k63_openM {w : World} {base : Nat} {ok : Nat → Prop} {x : S63} {cs : List Value} (h : k63.M w base ok x cs) : cs = [.int .i64 x.f0, .int .i64 x.f1] := by
  obtain ⟨_, _, rfl, rfl, rfl⟩ := h
  exact rfl
theorem k63_mk (w : World) (x : S63)  : k63.K w x [.int .i64 x.f0, .int .i64 x.f1] := ⟨[.int .i64 x.f0], [.int .i64 x.f1], rfl, rfl, rfl⟩
theorem k63_mkM (w : World) (base : Nat) (ok : Nat → Prop) (x : S63)  : k63.M w base ok x [.int .i64 x.f0, .int .i64 x.f1] := ⟨[.int .i64 x.f0], [.int .i64 x.f1], rfl, rfl, rfl⟩
def rd_T63 (xs : List S63) (i : Int) : S63 := xs.getD i.toNat z63
theorem at_T63 {w : World} {A : Option Addr} {n : Nat} {xs : List S63} (h : Kd.C k63 w A n xs) (i : Int) (h0 : 0 ≤ i) (h1 : i < n) : ∃ ad , A = some ad ∧ w.cell? (ad.add (i.toNat * 2)) = some (.int .i64 (rd_T63 xs i).f0) ∧ w.cell? ⟨(ad.add (i.toNat * 2)).block, (ad.add (i.toNat * 2)).off + 1, none⟩ = some (.int .i64 (rd_T63 xs i).f1) := by
  obtain ⟨ad, c, e, _, hK, hc0⟩ := Kd.C_get h z63 i h0 h1
  have hc : ∀ j u, c[j]? = some u → w.cell? (ad.add (i.toNat * 2 + j)) = some u := hc0
  obtain rfl := k63_open hK
  exact ⟨ad, e, hc 0 _ rfl, by rw [← add_field _ _ 1 (by omega)]; exact hc 1 _ rfl⟩

/-! #### struct type 65 -/
structure S65 where
  f0 : S63
  f1 : S63
  f2 : S63
  f3 : S63
  f4 : Int
def z65 : S65 := ⟨z63, z63, z63, z63, (0 : Int)⟩
def k65 : Kd S65 := Kd.iso (Kd.pair k63 (Kd.pair k63 (Kd.pair k63 (Kd.pair k63 (Kd.int .i64))))) (fun x : S65 => (x.f0, x.f1, x.f2, x.f3, x.f4))
theorem k65_open {w : World} {x : S65} {cs : List Value} (h : k65.K w x cs) : cs = [.int .i64 x.f0.f0, .int .i64 x.f0.f1, .int .i64 x.f1.f0, .int .i64 x.f1.f1, .int .i64 x.f2.f0, .int .i64 x.f2.f1, .int .i64 x.f3.f0, .int .i64 x.f3.f1, .int .i64 x.f4] := by
  obtain ⟨_, _, rfl, s0, ⟨_, _, rfl, s2, ⟨_, _, rfl, s4, ⟨_, _, rfl, s6, rfl⟩⟩⟩⟩ := h
  obtain rfl := k63_open s0
  obtain rfl := k63_open s2
  obtain rfl := k63_open s4
  obtain rfl := k63_open s6
  exact rfl
theorem k65_openM {w : World} {base : Nat} {ok : Nat → Prop} {x : S65} {cs : List Value} (h : k65.M w base ok x cs) : cs = [.int .i64 x.f0.f0, .int .i64 x.f0.f1, .int .i64 x.f1.f0, .int .i64 x.f1.f1, .int .i64 x.f2.f0, .int .i64 x.f2.f1, .int .i64 x.f3.f0, .int .i64 x.f3.f1, .int .i64 x.f4] := by
  obtain ⟨_, _, rfl, s0, ⟨_, _, rfl, s2, ⟨_, _, rfl, s4, ⟨_, _, rfl, s6, rfl⟩⟩⟩⟩ := h
  obtain rfl := k63_openM s0
  obtain rfl := k63_openM s2
  obtain rfl := k63_openM s4
  obtain rfl := k63_openM s6
  exact rfl
theorem k65_mk (w : World) (x : S65)  : k65.K w x [.int .i64 x.f0.f0, .int .i64 x.f0.f1, .int .i64 x.f1.f0, .int .i64 x.f1.f1, .int .i64 x.f2.f0, .int .i64 x.f2.f1, .int .i64 x.f3.f0, .int .i64 x.f3.f1, .int .i64 x.f4] := ⟨[.int .i64 x.f0.f0, .int .i64 x.f0.f1], [.int .i64 x.f1.f0, .int .i64 x.f1.f1, .int .i64 x.f2.f0, .int .i64 x.f2.f1, .int .i64 x.f3.f0, .int .i64 x.f3.f1, .int .i64 x.f4], rfl, (k63_mk w x.f0 ), ⟨[.int .i64 x.f1.f0, .int .i64 x.f1.f1], [.int .i64 x.f2.f0, .int .i64 x.f2.f1, .int .i64 x.f3.f0, .int .i64 x.f3.f1, .int .i64 x.f4], rfl, (k63_mk w x.f1 ), ⟨[.int .i64 x.f2.f0, .int .i64 x.f2.f1], [.int .i64 x.f3.f0, .int .i64 x.f3.f1, .int .i64 x.f4], rfl, (k63_mk w x.f2 ), ⟨[.int .i64 x.f3.f0, .int .i64 x.f3.f1], [.int .i64 x.f4], rfl, (k63_mk w x.f3 ), rfl⟩⟩⟩⟩
theorem k65_mkM (w : World) (base : Nat) (ok : Nat → Prop) (x : S65)  : k65.M w base ok x [.int .i64 x.f0.f0, .int .i64 x.f0.f1, .int .i64 x.f1.f0, .int .i64 x.f1.f1, .int .i64 x.f2.f0, .int .i64 x.f2.f1, .int .i64 x.f3.f0, .int .i64 x.f3.f1, .int .i64 x.f4] := ⟨[.int .i64 x.f0.f0, .int .i64 x.f0.f1], [.int .i64 x.f1.f0, .int .i64 x.f1.f1, .int .i64 x.f2.f0, .int .i64 x.f2.f1, .int .i64 x.f3.f0, .int .i64 x.f3.f1, .int .i64 x.f4], rfl, (k63_mkM w base ok x.f0 ), ⟨[.int .i64 x.f1.f0, .int .i64 x.f1.f1], [.int .i64 x.f2.f0, .int .i64 x.f2.f1, .int .i64 x.f3.f0, .int .i64 x.f3.f1, .int .i64 x.f4], rfl, (k63_mkM w base ok x.f1 ), ⟨[.int .i64 x.f2.f0, .int .i64 x.f2.f1], [.int .i64 x.f3.f0, .int .i64 x.f3.f1, .int .i64 x.f4], rfl, (k63_mkM w base ok x.f2 ), ⟨[.int .i64 x.f3.f0, .int .i64 x.f3.f1], [.int .i64 x.f4], rfl, (k63_mkM w base ok x.f3 ), rfl⟩⟩⟩⟩
def rd_T65 (xs : List S65) (i : Int) : S65 := xs.getD i.toNat z65
theorem at_T65 {w : World} {A : Option Addr} {n : Nat} {xs : List S65} (h : Kd.C k65 w A n xs) (i : Int) (h0 : 0 ≤ i) (h1 : i < n) : ∃ ad , A = some ad ∧ w.cell? (ad.add (i.toNat * 9)) = some (.int .i64 (rd_T65 xs i).f0.f0) ∧ w.cell? ⟨(ad.add (i.toNat * 9)).block, (ad.add (i.toNat * 9)).off + 1, none⟩ = some (.int .i64 (rd_T65 xs i).f0.f1) ∧ w.cell? ⟨(ad.add (i.toNat * 9)).block, (ad.add (i.toNat * 9)).off + 2, none⟩ = some (.int .i64 (rd_T65 xs i).f1.f0) ∧ w.cell? ⟨(ad.add (i.toNat * 9)).block, (ad.add (i.toNat * 9)).off + 3, none⟩ = some (.int .i64 (rd_T65 xs i).f1.f1) ∧ w.cell? ⟨(ad.add (i.toNat * 9)).block, (ad.add (i.toNat * 9)).off + 4, none⟩ = some (.int .i64 (rd_T65 xs i).f2.f0) ∧ w.cell? ⟨(ad.add (i.toNat * 9)).block, (ad.add (i.toNat * 9)).off + 5, none⟩ = some (.int .i64 (rd_T65 xs i).f2.f1) ∧ w.cell? ⟨(ad.add (i.toNat * 9)).block, (ad.add (i.toNat * 9)).off + 6, none⟩ = some (.int .i64 (rd_T65 xs i).f3.f0) ∧ w.cell? ⟨(ad.add (i.toNat * 9)).block, (ad.add (i.toNat * 9)).off + 7, none⟩ = some (.int .i64 (rd_T65 xs i).f3.f1) ∧ w.cell? ⟨(ad.add (i.toNat * 9)).block, (ad.add (i.toNat * 9)).off + 8, none⟩ = some (.int .i64 (rd_T65 xs i).f4) := by
  obtain ⟨ad, c, e, _, hK, hc0⟩ := Kd.C_get h z65 i h0 h1
  have hc : ∀ j u, c[j]? = some u → w.cell? (ad.add (i.toNat * 9 + j)) = some u := hc0
  obtain rfl := k65_open hK
  exact ⟨ad, e, hc 0 _ rfl, by rw [← add_field _ _ 1 (by omega)]; exact hc 1 _ rfl, by rw [← add_field _ _ 2 (by omega)]; exact hc 2 _ rfl, by rw [← add_field _ _ 3 (by omega)]; exact hc 3 _ rfl, by rw [← add_field _ _ 4 (by omega)]; exact hc 4 _ rfl, by rw [← add_field _ _ 5 (by omega)]; exact hc 5 _ rfl, by rw [← add_field _ _ 6 (by omega)]; exact hc 6 _ rfl, by rw [← add_field _ _ 7 (by omega)]; exact hc 7 _ rfl, by rw [← add_field _ _ 8 (by omega)]; exact hc 8 _ rfl⟩

/-! #### struct type 87 -/
structure S87 where
  f0 : S65
  f1 : Int
  f2 : Int
def z87 : S87 := ⟨z65, (0 : Int), (0 : Int)⟩
def k87 : Kd S87 := Kd.iso (Kd.pair k65 (Kd.pair (Kd.int .i64) (Kd.int .i64))) (fun x : S87 => (x.f0, x.f1, x.f2))
theorem k87_open {w : World} {x : S87} {cs : List Value} (h : k87.K w x cs) : cs = [.int .i64 x.f0.f0.f0, .int .i64 x.f0.f0.f1, .int .i64 x.f0.f1.f0, .int .i64 x.f0.f1.f1, .int .i64 x.f0.f2.f0, .int .i64 x.f0.f2.f1, .int .i64 x.f0.f3.f0, .int .i64 x.f0.f3.f1, .int .i64 x.f0.f4, .int .i64 x.f1, .int .i64 x.f2] := by
  obtain ⟨_, _, rfl, s0, ⟨_, _, rfl, rfl, rfl⟩⟩ := h
  obtain rfl := k65_open s0
  exact rfl
theorem k87_openM {w : World} {base : Nat} {ok : Nat → Prop} {x : S87} {cs : List Value} (h : k87.M w base ok x cs) : cs = [.int .i64 x.f0.f0.f0, .int .i64 x.f0.f0.f1, .int .i64 x.f0.f1.f0, .int .i64 x.f0.f1.f1, .int .i64 x.f0.f2.f0, .int .i64 x.f0.f2.f1, .int .i64 x.f0.f3.f0, .int .i64 x.f0.f3.f1, .int .i64 x.f0.f4, .int .i64 x.f1, .int .i64 x.f2] := by
  obtain ⟨_, _, rfl, s0, ⟨_, _, rfl, rfl, rfl⟩⟩ := h
  obtain rfl := k65_openM s0
  exact rfl
theorem k87_mk (w : World) (x : S87)  : k87.K w x [.int .i64 x.f0.f0.f0, .int .i64 x.f0.f0.f1, .int .i64 x.f0.f1.f0, .int .i64 x.f0.f1.f1, .int .i64 x.f0.f2.f0, .int .i64 x.f0.f2.f1, .int .i64 x.f0.f3.f0, .int .i64 x.f0.f3.f1, .int .i64 x.f0.f4, .int .i64 x.f1, .int .i64 x.f2] := ⟨[.int .i64 x.f0.f0.f0, .int .i64 x.f0.f0.f1, .int .i64 x.f0.f1.f0, .int .i64 x.f0.f1.f1, .int .i64 x.f0.f2.f0, .int .i64 x.f0.f2.f1, .int .i64 x.f0.f3.f0, .int .i64 x.f0.f3.f1, .int .i64 x.f0.f4], [.int .i64 x.f1, .int .i64 x.f2], rfl, (k65_mk w x.f0 ), ⟨[.int .i64 x.f1], [.int .i64 x.f2], rfl, rfl, rfl⟩⟩
theorem k87_mkM (w : World) (base : Nat) (ok : Nat → Prop) (x : S87)  : k87.M w base ok x [.int .i64 x.f0.f0.f0, .int .i64 x.f0.f0.f1, .int .i64 x.f0.f1.f0, .int .i64 x.f0.f1.f1, .int .i64 x.f0.f2.f0, .int .i64 x.f0.f2.f1, .int .i64 x.f0.f3.f0, .int .i64 x.f0.f3.f1, .int .i64 x.f0.f4, .int .i64 x.f1, .int .i64 x.f2] := ⟨[.int .i64 x.f0.f0.f0, .int .i64 x.f0.f0.f1, .int .i64 x.f0.f1.f0, .int .i64 x.f0.f1.f1, .int .i64 x.f0.f2.f0, .int .i64 x.f0.f2.f1, .int .i64 x.f0.f3.f0, .int .i64 x.f0.f3.f1, .int .i64 x.f0.f4], [.int .i64 x.f1, .int .i64 x.f2], rfl, (k65_mkM w base ok x.f0 ), ⟨[.int .i64 x.f1], [.int .i64 x.f2], rfl, rfl, rfl⟩⟩
def rd_T87 (xs : List S87) (i : Int) : S87 := xs.getD i.toNat z87
theorem at_T87 {w : World} {A : Option Addr} {n : Nat} {xs : List S87} (h : Kd.C k87 w A n xs) (i : Int) (h0 : 0 ≤ i) (h1 : i < n) : ∃ ad , A = some ad ∧ w.cell? (ad.add (i.toNat * 11)) = some (.int .i64 (rd_T87 xs i).f0.f0.f0) ∧ w.cell? ⟨(ad.add (i.toNat * 11)).block, (ad.add (i.toNat * 11)).off + 1, none⟩ = some (.int .i64 (rd_T87 xs i).f0.f0.f1) ∧ w.cell? ⟨(ad.add (i.toNat * 11)).block, (ad.add (i.toNat * 11)).off + 2, none⟩ = some (.int .i64 (rd_T87 xs i).f0.f1.f0) ∧ w.cell? ⟨(ad.add (i.toNat * 11)).block, (ad.add (i.toNat * 11)).off + 3, none⟩ = some (.int .i64 (rd_T87 xs i).f0.f1.f1) ∧ w.cell? ⟨(ad.add (i.toNat * 11)).block, (ad.add (i.toNat * 11)).off + 4, none⟩ = some (.int .i64 (rd_T87 xs i).f0.f2.f0) ∧ w.cell? ⟨(ad.add (i.toNat * 11)).block, (ad.add (i.toNat * 11)).off + 5, none⟩ = some (.int .i64 (rd_T87 xs i).f0.f2.f1) ∧ w.cell? ⟨(ad.add (i.toNat * 11)).block, (ad.add (i.toNat * 11)).off + 6, none⟩ = some (.int .i64 (rd_T87 xs i).f0.f3.f0) ∧ w.cell? ⟨(ad.add (i.toNat * 11)).block, (ad.add (i.toNat * 11)).off + 7, none⟩ = some (.int .i64 (rd_T87 xs i).f0.f3.f1) ∧ w.cell? ⟨(ad.add (i.toNat * 11)).block, (ad.add (i.toNat * 11)).off + 8, none⟩ = some (.int .i64 (rd_T87 xs i).f0.f4) ∧ w.cell? ⟨(ad.add (i.toNat * 11)).block, (ad.add (i.toNat * 11)).off + 9, none⟩ = some (.int .i64 (rd_T87 xs i).f1) ∧ w.cell? ⟨(ad.add (i.toNat * 11)).block, (ad.add (i.toNat * 11)).off + 10, none⟩ = some (.int .i64 (rd_T87 xs i).f2) := by
  obtain ⟨ad, c, e, _, hK, hc0⟩ := Kd.C_get h z87 i h0 h1
  have hc : ∀ j u, c[j]? = some u → w.cell? (ad.add (i.toNat * 11 + j)) = some u := hc0
  obtain rfl := k87_open hK
  exact ⟨ad, e, hc 0 _ rfl, by rw [← add_field _ _ 1 (by omega)]; exact hc 1 _ rfl, by rw [← add_field _ _ 2 (by omega)]; exact hc 2 _ rfl, by rw [← add_field _ _ 3 (by omega)]; exact hc 3 _ rfl, by rw [← add_field _ _ 4 (by omega)]; exact hc 4 _ rfl, by rw [← add_field _ _ 5 (by omega)]; exact hc 5 _ rfl, by rw [← add_field _ _ 6 (by omega)]; exact hc 6 _ rfl, by rw [← add_field _ _ 7 (by omega)]; exact hc 7 _ rfl, by rw [← add_field _ _ 8 (by omega)]; exact hc 8 _ rfl, by rw [← add_field _ _ 9 (by omega)]; exact hc 9 _ rfl, by rw [← add_field _ _ 10 (by omega)]; exact hc 10 _ rfl⟩

def rd_L5 (xs : List (List S87)) (i : Int) : (List S87) := xs.getD i.toNat ([] : List S87)
theorem at_L5 {w : World} {A : Option Addr} {n : Nat} {xs : List (List S87)} (h : Kd.C (Kd.slice 87 k87) w A n xs) (i : Int) (h0 : 0 ≤ i) (h1 : i < n) : ∃ ad A0 c0, A = some ad ∧ w.cell? (ad.add i.toNat) = some (.slice A0 (rd_L5 xs i).length c0) ∧ (rd_L5 xs i).length ≤ c0 ∧ k87.C w A0 (rd_L5 xs i).length (rd_L5 xs i) := by
  obtain ⟨ad, c, e, _, hK, hc0⟩ := Kd.C_get h ([] : List S87) i h0 h1
  have hc : ∀ j u, c[j]? = some u → w.cell? (ad.add (i.toNat * 1 + j)) = some u := hc0
  obtain ⟨A0, c0, rfl, l0, g0⟩ := hK
  exact ⟨ad, A0, c0, e, by have hq := hc 0 _ rfl; rwa [Nat.mul_one, Nat.add_zero] at hq, l0, g0⟩

/-! #### struct type 54 -/
structure S54 where
  f0 : Int
  f1 : (List S87)
def z54 : S54 := ⟨(0 : Int), ([] : List S87)⟩
def k54 : Kd S54 := Kd.iso (Kd.pair (Kd.int .i64) (Kd.slice 87 k87)) (fun x : S54 => (x.f0, x.f1))
theorem k54_open {w : World} {x : S54} {cs : List Value} (h : k54.K w x cs) : ∃ A1 c1, cs = [.int .i64 x.f0, .slice A1 x.f1.length c1] ∧ x.f1.length ≤ c1 ∧ k87.C w A1 x.f1.length x.f1 := by
  obtain ⟨_, _, rfl, rfl, ⟨A1, c1, rfl, l1, g1⟩⟩ := h
  exact ⟨A1, c1, rfl, l1, g1⟩
theorem k54_openM {w : World} {base : Nat} {ok : Nat → Prop} {x : S54} {cs : List Value} (h : k54.M w base ok x cs) : ∃ v1, cs = [.int .i64 x.f0, v1] ∧ k87.R 87 w base ok v1 x.f1 := by
  obtain ⟨_, _, rfl, rfl, ⟨v1, rfl, g1⟩⟩ := h
  exact ⟨v1, rfl, g1⟩
theorem k54_mk (w : World) (x : S54) {A1 : Option Addr} {c1 : Nat} (l1 : x.f1.length ≤ c1) (g1 : k87.C w A1 x.f1.length x.f1) : k54.K w x [.int .i64 x.f0, .slice A1 x.f1.length c1] := ⟨[.int .i64 x.f0], [.slice A1 x.f1.length c1], rfl, rfl, ⟨A1, c1, rfl, l1, g1⟩⟩
theorem k54_mkM (w : World) (base : Nat) (ok : Nat → Prop) (x : S54) {v1 : Value} (g1 : k87.R 87 w base ok v1 x.f1) : k54.M w base ok x [.int .i64 x.f0, v1] := ⟨[.int .i64 x.f0], [v1], rfl, rfl, ⟨v1, rfl, g1⟩⟩
def rd_T54 (xs : List S54) (i : Int) : S54 := xs.getD i.toNat z54
theorem at_T54 {w : World} {A : Option Addr} {n : Nat} {xs : List S54} (h : Kd.C k54 w A n xs) (i : Int) (h0 : 0 ≤ i) (h1 : i < n) : ∃ ad A1 c1, A = some ad ∧ w.cell? (ad.add (i.toNat * 2)) = some (.int .i64 (rd_T54 xs i).f0) ∧ w.cell? ⟨(ad.add (i.toNat * 2)).block, (ad.add (i.toNat * 2)).off + 1, none⟩ = some (.slice A1 (rd_T54 xs i).f1.length c1) ∧ (rd_T54 xs i).f1.length ≤ c1 ∧ k87.C w A1 (rd_T54 xs i).f1.length (rd_T54 xs i).f1 := by
  obtain ⟨ad, c, e, _, hK, hc0⟩ := Kd.C_get h z54 i h0 h1
  have hc : ∀ j u, c[j]? = some u → w.cell? (ad.add (i.toNat * 2 + j)) = some u := hc0
  obtain ⟨A1, c1, rfl, l1, g1⟩ := k54_open hK
  exact ⟨ad, A1, c1, e, hc 0 _ rfl, by rw [← add_field _ _ 1 (by omega)]; exact hc 1 _ rfl, l1, g1⟩

def rd_L7 (xs : List (List Int)) (i : Int) : (List Int) := xs.getD i.toNat ([] : List Int)
theorem at_L7 {w : World} {A : Option Addr} {n : Nat} {xs : List (List Int)} (h : Kd.C (Kd.slice 5 (Kd.int .u8)) w A n xs) (i : Int) (h0 : 0 ≤ i) (h1 : i < n) : ∃ ad A0 c0, A = some ad ∧ w.cell? (ad.add i.toNat) = some (.slice A0 (rd_L7 xs i).length c0) ∧ (rd_L7 xs i).length ≤ c0 ∧ (Kd.int .u8).C w A0 (rd_L7 xs i).length (rd_L7 xs i) := by
  obtain ⟨ad, c, e, _, hK, hc0⟩ := Kd.C_get h ([] : List Int) i h0 h1
  have hc : ∀ j u, c[j]? = some u → w.cell? (ad.add (i.toNat * 1 + j)) = some u := hc0
  obtain ⟨A0, c0, rfl, l0, g0⟩ := hK
  exact ⟨ad, A0, c0, e, by have hq := hc 0 _ rfl; rwa [Nat.mul_one, Nat.add_zero] at hq, l0, g0⟩

/-! #### struct type 71 -/
structure S71 where
  f0 : Int
  f1 : Int
  f2 : Int
  f3 : Int
  f4 : Int
  f5 : Int
  f6 : (List Int)
def z71 : S71 := ⟨(0 : Int), (0 : Int), (0 : Int), (0 : Int), (0 : Int), (0 : Int), ([] : List Int)⟩
def k71 : Kd S71 := Kd.iso (Kd.pair (Kd.int .i64) (Kd.pair (Kd.int .i64) (Kd.pair (Kd.int .i64) (Kd.pair (Kd.int .i64) (Kd.pair (Kd.int .i64) (Kd.pair (Kd.int .i64) (Kd.slice 5 (Kd.int .u8)))))))) (fun x : S71 => (x.f0, x.f1, x.f2, x.f3, x.f4, x.f5, x.f6))
theorem k71_open {w : World} {x : S71} {cs : List Value} (h : k71.K w x cs) : ∃ A6 c6, cs = [.int .i64 x.f0, .int .i64 x.f1, .int .i64 x.f2, .int .i64 x.f3, .int .i64 x.f4, .int .i64 x.f5, .slice A6 x.f6.length c6] ∧ x.f6.length ≤ c6 ∧ (Kd.int .u8).C w A6 x.f6.length x.f6 := by
  obtain ⟨_, _, rfl, rfl, ⟨_, _, rfl, rfl, ⟨_, _, rfl, rfl, ⟨_, _, rfl, rfl, ⟨_, _, rfl, rfl, ⟨_, _, rfl, rfl, ⟨A6, c6, rfl, l6, g6⟩⟩⟩⟩⟩⟩⟩ := h
  exact ⟨A6, c6, rfl, l6, g6⟩
theorem k71_openM {w : World} {base : Nat} {ok : Nat → Prop} {x : S71} {cs : List Value} (h : k71.M w base ok x cs) : ∃ v6, cs = [.int .i64 x.f0, .int .i64 x.f1, .int .i64 x.f2, .int .i64 x.f3, .int .i64 x.f4, .int .i64 x.f5, v6] ∧ (Kd.int .u8).R 5 w base ok v6 x.f6 := by
  obtain ⟨_, _, rfl, rfl, ⟨_, _, rfl, rfl, ⟨_, _, rfl, rfl, ⟨_, _, rfl, rfl, ⟨_, _, rfl, rfl, ⟨_, _, rfl, rfl, ⟨v6, rfl, g6⟩⟩⟩⟩⟩⟩⟩ := h
  exact ⟨v6, rfl, g6⟩
theorem k71_mk (w : World) (x : S71) {A6 : Option Addr} {c6 : Nat} (l6 : x.f6.length ≤ c6) (g6 : (Kd.int .u8).C w A6 x.f6.length x.f6) : k71.K w x [.int .i64 x.f0, .int .i64 x.f1, .int .i64 x.f2, .int .i64 x.f3, .int .i64 x.f4, .int .i64 x.f5, .slice A6 x.f6.length c6] := ⟨[.int .i64 x.f0], [.int .i64 x.f1, .int .i64 x.f2, .int .i64 x.f3, .int .i64 x.f4, .int .i64 x.f5, .slice A6 x.f6.length c6], rfl, rfl, ⟨[.int .i64 x.f1], [.int .i64 x.f2, .int .i64 x.f3, .int .i64 x.f4, .int .i64 x.f5, .slice A6 x.f6.length c6], rfl, rfl, ⟨[.int .i64 x.f2], [.int .i64 x.f3, .int .i64 x.f4, .int .i64 x.f5, .slice A6 x.f6.length c6], rfl, rfl, ⟨[.int .i64 x.f3], [.int .i64 x.f4, .int .i64 x.f5, .slice A6 x.f6.length c6], rfl, rfl, ⟨[.int .i64 x.f4], [.int .i64 x.f5, .slice A6 x.f6.length c6], rfl, rfl, ⟨[.int .i64 x.f5], [.slice A6 x.f6.length c6], rfl, rfl, ⟨A6, c6, rfl, l6, g6⟩⟩⟩⟩⟩⟩⟩
theorem k71_mkM (w : World) (base : Nat) (ok : Nat → Prop) (x : S71) {v6 : Value} (g6 : (Kd.int .u8).R 5 w base ok v6 x.f6) : k71.M w base ok x [.int .i64 x.f0, .int .i64 x.f1, .int .i64 x.f2, .int .i64 x.f3, .int .i64 x.f4, .int .i64 x.f5, v6] := ⟨[.int .i64 x.f0], [.int .i64 x.f1, .int .i64 x.f2, .int .i64 x.f3, .int .i64 x.f4, .int .i64 x.f5, v6], rfl, rfl, ⟨[.int .i64 x.f1], [.int .i64 x.f2, .int .i64 x.f3, .int .i64 x.f4, .int .i64 x.f5, v6], rfl, rfl, ⟨[.int .i64 x.f2], [.int .i64 x.f3, .int .i64 x.f4, .int .i64 x.f5, v6], rfl, rfl, ⟨[.int .i64 x.f3], [.int .i64 x.f4, .int .i64 x.f5, v6], rfl, rfl, ⟨[.int .i64 x.f4], [.int .i64 x.f5, v6], rfl, rfl, ⟨[.int .i64 x.f5], [v6], rfl, rfl, ⟨v6, rfl, g6⟩⟩⟩⟩⟩⟩⟩
def rd_T71 (xs : List S71) (i : Int) : S71 := xs.getD i.toNat z71
theorem at_T71 {w : World} {A : Option Addr} {n : Nat} {xs : List S71} (h : Kd.C k71 w A n xs) (i : Int) (h0 : 0 ≤ i) (h1 : i < n) : ∃ ad A6 c6, A = some ad ∧ w.cell? (ad.add (i.toNat * 7)) = some (.int .i64 (rd_T71 xs i).f0) ∧ w.cell? ⟨(ad.add (i.toNat * 7)).block, (ad.add (i.toNat * 7)).off + 1, none⟩ = some (.int .i64 (rd_T71 xs i).f1) ∧ w.cell? ⟨(ad.add (i.toNat * 7)).block, (ad.add (i.toNat * 7)).off + 2, none⟩ = some (.int .i64 (rd_T71 xs i).f2) ∧ w.cell? ⟨(ad.add (i.toNat * 7)).block, (ad.add (i.toNat * 7)).off + 3, none⟩ = some (.int .i64 (rd_T71 xs i).f3) ∧ w.cell? ⟨(ad.add (i.toNat * 7)).block, (ad.add (i.toNat * 7)).off + 4, none⟩ = some (.int .i64 (rd_T71 xs i).f4) ∧ w.cell? ⟨(ad.add (i.toNat * 7)).block, (ad.add (i.toNat * 7)).off + 5, none⟩ = some (.int .i64 (rd_T71 xs i).f5) ∧ w.cell? ⟨(ad.add (i.toNat * 7)).block, (ad.add (i.toNat * 7)).off + 6, none⟩ = some (.slice A6 (rd_T71 xs i).f6.length c6) ∧ (rd_T71 xs i).f6.length ≤ c6 ∧ (Kd.int .u8).C w A6 (rd_T71 xs i).f6.length (rd_T71 xs i).f6 := by
  obtain ⟨ad, c, e, _, hK, hc0⟩ := Kd.C_get h z71 i h0 h1
  have hc : ∀ j u, c[j]? = some u → w.cell? (ad.add (i.toNat * 7 + j)) = some u := hc0
  obtain ⟨A6, c6, rfl, l6, g6⟩ := k71_open hK
  exact ⟨ad, A6, c6, e, hc 0 _ rfl, by rw [← add_field _ _ 1 (by omega)]; exact hc 1 _ rfl, by rw [← add_field _ _ 2 (by omega)]; exact hc 2 _ rfl, by rw [← add_field _ _ 3 (by omega)]; exact hc 3 _ rfl, by rw [← add_field _ _ 4 (by omega)]; exact hc 4 _ rfl, by rw [← add_field _ _ 5 (by omega)]; exact hc 5 _ rfl, by rw [← add_field _ _ 6 (by omega)]; exact hc 6 _ rfl, l6, g6⟩

/-! #### struct type 79 -/
structure S79 where
  f0 : Int
  f1 : S71
def z79 : S79 := ⟨(0 : Int), z71⟩
def k79 : Kd S79 := Kd.iso (Kd.pair (Kd.int .i64) k71) (fun x : S79 => (x.f0, x.f1))
theorem k79_open {w : World} {x : S79} {cs : List Value} (h : k79.K w x cs) : ∃ A7 c7, cs = [.int .i64 x.f0, .int .i64 x.f1.f0, .int .i64 x.f1.f1, .int .i64 x.f1.f2, .int .i64 x.f1.f3, .int .i64 x.f1.f4, .int .i64 x.f1.f5, .slice A7 x.f1.f6.length c7] ∧ x.f1.f6.length ≤ c7 ∧ (Kd.int .u8).C w A7 x.f1.f6.length x.f1.f6 := by
  obtain ⟨_, _, rfl, rfl, s1⟩ := h
  obtain ⟨A7, c7, rfl, l7, g7⟩ := k71_open s1
  exact ⟨A7, c7, rfl, l7, g7⟩
theorem k79_openM {w : World} {base : Nat} {ok : Nat → Prop} {x : S79} {cs : List Value} (h : k79.M w base ok x cs) : ∃ v7, cs = [.int .i64 x.f0, .int .i64 x.f1.f0, .int .i64 x.f1.f1, .int .i64 x.f1.f2, .int .i64 x.f1.f3, .int .i64 x.f1.f4, .int .i64 x.f1.f5, v7] ∧ (Kd.int .u8).R 5 w base ok v7 x.f1.f6 := by
  obtain ⟨_, _, rfl, rfl, s1⟩ := h
  obtain ⟨v7, rfl, g7⟩ := k71_openM s1
  exact ⟨v7, rfl, g7⟩
theorem k79_mk (w : World) (x : S79) {A7 : Option Addr} {c7 : Nat} (l7 : x.f1.f6.length ≤ c7) (g7 : (Kd.int .u8).C w A7 x.f1.f6.length x.f1.f6) : k79.K w x [.int .i64 x.f0, .int .i64 x.f1.f0, .int .i64 x.f1.f1, .int .i64 x.f1.f2, .int .i64 x.f1.f3, .int .i64 x.f1.f4, .int .i64 x.f1.f5, .slice A7 x.f1.f6.length c7] := ⟨[.int .i64 x.f0], [.int .i64 x.f1.f0, .int .i64 x.f1.f1, .int .i64 x.f1.f2, .int .i64 x.f1.f3, .int .i64 x.f1.f4, .int .i64 x.f1.f5, .slice A7 x.f1.f6.length c7], rfl, rfl, (k71_mk w x.f1 l7 g7)⟩
theorem k79_mkM (w : World) (base : Nat) (ok : Nat → Prop) (x : S79) {v7 : Value} (g7 : (Kd.int .u8).R 5 w base ok v7 x.f1.f6) : k79.M w base ok x [.int .i64 x.f0, .int .i64 x.f1.f0, .int .i64 x.f1.f1, .int .i64 x.f1.f2, .int .i64 x.f1.f3, .int .i64 x.f1.f4, .int .i64 x.f1.f5, v7] := ⟨[.int .i64 x.f0], [.int .i64 x.f1.f0, .int .i64 x.f1.f1, .int .i64 x.f1.f2, .int .i64 x.f1.f3, .int .i64 x.f1.f4, .int .i64 x.f1.f5, v7], rfl, rfl, (k71_mkM w base ok x.f1 g7)⟩
def rd_T79 (xs : List S79) (i : Int) : S79 := xs.getD i.toNat z79
theorem at_T79 {w : World} {A : Option Addr} {n : Nat} {xs : List S79} (h : Kd.C k79 w A n xs) (i : Int) (h0 : 0 ≤ i) (h1 : i < n) : ∃ ad A7 c7, A = some ad ∧ w.cell? (ad.add (i.toNat * 8)) = some (.int .i64 (rd_T79 xs i).f0) ∧ w.cell? ⟨(ad.add (i.toNat * 8)).block, (ad.add (i.toNat * 8)).off + 1, none⟩ = some (.int .i64 (rd_T79 xs i).f1.f0) ∧ w.cell? ⟨(ad.add (i.toNat * 8)).block, (ad.add (i.toNat * 8)).off + 2, none⟩ = some (.int .i64 (rd_T79 xs i).f1.f1) ∧ w.cell? ⟨(ad.add (i.toNat * 8)).block, (ad.add (i.toNat * 8)).off + 3, none⟩ = some (.int .i64 (rd_T79 xs i).f1.f2) ∧ w.cell? ⟨(ad.add (i.toNat * 8)).block, (ad.add (i.toNat * 8)).off + 4, none⟩ = some (.int .i64 (rd_T79 xs i).f1.f3) ∧ w.cell? ⟨(ad.add (i.toNat * 8)).block, (ad.add (i.toNat * 8)).off + 5, none⟩ = some (.int .i64 (rd_T79 xs i).f1.f4) ∧ w.cell? ⟨(ad.add (i.toNat * 8)).block, (ad.add (i.toNat * 8)).off + 6, none⟩ = some (.int .i64 (rd_T79 xs i).f1.f5) ∧ w.cell? ⟨(ad.add (i.toNat * 8)).block, (ad.add (i.toNat * 8)).off + 7, none⟩ = some (.slice A7 (rd_T79 xs i).f1.f6.length c7) ∧ (rd_T79 xs i).f1.f6.length ≤ c7 ∧ (Kd.int .u8).C w A7 (rd_T79 xs i).f1.f6.length (rd_T79 xs i).f1.f6 := by
  obtain ⟨ad, c, e, _, hK, hc0⟩ := Kd.C_get h z79 i h0 h1
  have hc : ∀ j u, c[j]? = some u → w.cell? (ad.add (i.toNat * 8 + j)) = some u := hc0
  obtain ⟨A7, c7, rfl, l7, g7⟩ := k79_open hK
  exact ⟨ad, A7, c7, e, hc 0 _ rfl, by rw [← add_field _ _ 1 (by omega)]; exact hc 1 _ rfl, by rw [← add_field _ _ 2 (by omega)]; exact hc 2 _ rfl, by rw [← add_field _ _ 3 (by omega)]; exact hc 3 _ rfl, by rw [← add_field _ _ 4 (by omega)]; exact hc 4 _ rfl, by rw [← add_field _ _ 5 (by omega)]; exact hc 5 _ rfl, by rw [← add_field _ _ 6 (by omega)]; exact hc 6 _ rfl, by rw [← add_field _ _ 7 (by omega)]; exact hc 7 _ rfl, l7, g7⟩

/-! ### (my own text) csWords -/
-- one hypothesis for what a call has made (boxes, rows) and what it stands on (G): the walk's events tell it anew
theorem ifE {α : Type} {a b : Int} {i : Decidable (a = b)} {x y : Option α} {r : α} (h : (@ite (Option α) (a = b) i x y) = some r) : ((a == b) = true ∧ (a != b) = false ∧ x = some r) ∨ ((a == b) = false ∧ (a != b) = true ∧ y = some r) := by
  by_cases c : a = b
  · exact .inl ⟨beq_iff_eq.mpr c, bne_eq_false_iff_eq.mpr c, (if_pos c).symm.trans h⟩
  · exact .inr ⟨beq_eq_false_iff_ne.mpr c, bne_iff_ne.mpr c, (if_neg c).symm.trans h⟩
theorem ifB {α : Type} {b : Bool} {i : Decidable (b = true)} {x y : Option α} {r : α} (h : (@ite (Option α) (b = true) i x y) = some r) : (b = true ∧ x = some r) ∨ (b = false ∧ y = some r) := by
  by_cases c : b = true
  · exact .inl ⟨c, (if_pos c).symm.trans h⟩
  · exact .inr ⟨by simpa using c, (if_neg c).symm.trans h⟩
theorem ifD {α : Type} {p : Prop} {i : Decidable p} {x y : Option α} {r : α} (h : (@ite (Option α) p i x y) = some r) : (@decide p i = true ∧ x = some r) ∨ (@decide p i = false ∧ y = some r) := by
  by_cases c : p
  · exact .inl ⟨decide_eq_true c, (if_pos c).symm.trans h⟩
  · exact .inr ⟨decide_eq_false c, (if_neg c).symm.trans h⟩
theorem bindS {α β : Type} {x : Option α} {f : α → Option β} {r : β} (h : x.bind f = some r) : ∃ y, Aside0 (x = some y) ∧ f y = some r := by
  obtain ⟨y, h1, h2⟩ := Option.bind_eq_some_iff.mp h
  exact ⟨y, ⟨h1⟩, h2⟩
theorem someB {α : Type} {b : Bool} {x y r : α} (h : some (if b = true then x else y) = some r) : (b = true ∧ some x = some r) ∨ (b = false ∧ some y = some r) := by
  cases b
  · exact .inr ⟨rfl, h⟩
  · exact .inl ⟨rfl, h⟩
theorem noneE {α : Type} {r : α} {p : Prop} (h : (none : Option α) = some r) : p := nomatch h
class Gc (w : World) (G : World → Prop) (z : Option Nat) : Prop where
  size : ∀ W, G W → w.heap.size ≤ W.heap.size
  grow : ∀ W W1, G W → Below W.heap.size W W1 → G W1
  put : ∀ W b i u, G W → w.heap.size ≤ b → some b ≠ z → G (W.setCell ⟨b, i, none⟩ u)
  zlt : ∀ W, G W → ∀ k, z = some k → k < W.heap.size
  gr : ∀ W W1 row, G W → W.grownBy W1 row → (∀ k, row = some k → w.heap.size ≤ k ∧ some k ≠ z) → G W1
def Gb (w W : World) : Prop := Below w.heap.size w W
instance gc_b (w : World) : Gc w (Gb w) none := ⟨fun _ h => h.size, fun _ _ h hb => below_then h h.size hb, fun _ _ _ _ h hg _ => below_set h hg, fun _ _ _ h => (nomatch h), fun _ _ _ h hg hr => Below.grown h hg h.size fun k e => (hr k e).1⟩
abbrev Bx := List (Nat × Array Value × TypeId)
abbrev Rw := (Nat → Prop) → World → Prop
def Stab (φ : Rw) : Prop := ∀ S V V', φ S V → (∀ k, S k → V'.heap[k]? = V.heap[k]?) → φ S V'
theorem stab_R {α : Type} (d : Kd α) (e base : Nat) (v : Value) (xs : List α) : Stab (fun ok W' => d.R e W' base ok v xs) := fun _ _ _ h hk => Kd.R_move h hk
structure CS (w : World) (G : World → Prop) (z : Option Nat) (bs : Bx) (rs : List Rw) (W : World) : Prop where
  gc : Gc w G z
  g : G W
  blk : ∀ x ∈ bs, W.heap[x.1]? = some (.cells x.2.1 x.2.2 (0, 0)) ∧ w.heap.size ≤ x.1 ∧ some x.1 ≠ z
  ne : bs.Pairwise (fun x y => x.1 ≠ y.1)
  rows : ∀ φ ∈ rs, ∃ S : Nat → Prop, (Stab φ ∧ φ S W) ∧ ∀ k, S k → w.heap.size ≤ k ∧ k < W.heap.size ∧ some k ≠ z ∧ ∀ x ∈ bs, x.1 ≠ k
namespace CS
variable {w W W1 : World} {G G1 : World → Prop} {z : Option Nat} {bs : Bx} {rs : List Rw}
theorem start [c : Gc w G z] (h : G w) : CS w G z [] [] w := ⟨c, h, by simp, List.Pairwise.nil, by simp⟩
theorem startB (w : World) : CS w (Gb w) none [] [] w := start (Below.refl _ _)
theorem move [c : Gc w G1 z] (h : CS w G z bs rs W) (hg : G1 W1) (hs : W.heap.size ≤ W1.heap.size) (hk : ∀ k, w.heap.size ≤ k → k < W.heap.size → some k ≠ z → W1.heap[k]? = W.heap[k]?) : CS w G1 z bs rs W1 :=
  ⟨c, hg, fun x hx => ⟨(hk _ (h.blk x hx).2.1 (blk_lt (h.blk x hx).1) (h.blk x hx).2.2).trans (h.blk x hx).1, (h.blk x hx).2⟩, h.ne, fun φ hφ => by
    obtain ⟨S, h1, h2⟩ := h.rows φ hφ
    exact ⟨S, ⟨h1.1, h1.1 S _ _ h1.2 fun k hS => hk k (h2 k hS).1 (h2 k hS).2.1 (h2 k hS).2.2.1⟩, fun k hS => ⟨(h2 k hS).1, Nat.lt_of_lt_of_le (h2 k hS).2.1 hs, (h2 k hS).2.2⟩⟩⟩
theorem below (h : CS w G z bs rs W) (hb : Below W.heap.size W W1) : CS w G z bs rs W1 := h.move (c := h.gc) (h.gc.grow _ _ h.g hb) hb.size fun k _ hk _ => hb.block k hk
theorem drewN (h : CS w G z bs rs W) (m : Nat) : CS w G z bs rs (W.drewN m) := h.below (pw_below_drewN (Below.refl _ _) m)
theorem drew (h : CS w G z bs rs W) : CS w G z bs rs W.drew := h.below (below_drew (Below.refl _ _))
theorem box (h : CS w G z bs rs W) {b : Nat} {cs : Array Value} {t : TypeId} (hg : b = W.heap.size) (hbox : W1.heap[b]? = some (.cells cs t (0, 0))) (hb : Below W.heap.size W W1) : CS w G z ((b, cs, t) :: bs) rs W1 := by
  have h1 := h.below hb
  refine ⟨h.gc, h1.g, fun x hx => ?_, List.pairwise_cons.2 ⟨fun y hy => ?_, h.ne⟩, fun φ hφ => ?_⟩
  · rcases List.mem_cons.1 hx with rfl | hx
    · exact ⟨hbox, by rw [hg]; exact h.gc.size _ h.g, fun e => by have := h.gc.zlt _ h.g b e.symm; omega⟩
    · exact h1.blk x hx
  · rw [hg]
    exact Nat.ne_of_gt (blk_lt (h.blk y hy).1)
  · obtain ⟨S, h2, h3⟩ := h.rows φ hφ
    refine ⟨S, ⟨h2.1, h2.1 S _ _ h2.2 fun k hS => hb.block k (h3 k hS).2.1⟩, fun k hS => ⟨(h3 k hS).1, Nat.lt_of_lt_of_le (h3 k hS).2.1 hb.size, (h3 k hS).2.2.1, fun x hx => ?_⟩⟩
    rcases List.mem_cons.1 hx with rfl | hx
    · rw [hg]
      exact Nat.ne_of_gt (h3 k hS).2.1
    · exact (h3 k hS).2.2.2 x hx
theorem put (k : Nat) (h : CS w G z bs rs W) {b : Nat} {cs : Array Value} {t : TypeId} (hk : bs[k]? = some (b, cs, t)) (i : Nat) (u : Value) : CS w G z (bs.set k (b, cs.setIfInBounds i u, t)) rs (W.setCell ⟨b, i, none⟩ u) := by
  obtain ⟨hlt, he⟩ := List.getElem?_eq_some_iff.1 hk
  have hm := List.mem_of_getElem? hk
  have hb := h.blk _ hm
  have hmap : (bs.set k (b, cs.setIfInBounds i u, t)).map (·.1) = bs.map (·.1) := by
    rw [List.map_set]
    refine List.ext_getElem? fun j => ?_
    rw [List.getElem?_set]
    by_cases e : k = j
    · subst e
      simp [he, hlt]
    · rw [if_neg e]
  refine ⟨h.gc, h.gc.put _ _ _ _ h.g hb.2.1 hb.2.2, fun x hx => ?_, ?_, fun φ hφ => ?_⟩
  · obtain ⟨j, hj, rfl⟩ := List.mem_iff_getElem.1 hx
    rw [List.length_set] at hj
    rw [List.getElem_set]
    by_cases e : k = j
    · rw [if_pos e]
      exact ⟨blk_set hb.1 i u, hb.2⟩
    · rw [if_neg e]
      have hx2 := h.blk _ (List.getElem_mem hj)
      have hp := List.pairwise_iff_getElem.1 h.ne
      have hne : bs[j].1 ≠ b := by
        have he1 : (bs[k]).1 = b := by rw [he]
        rcases Nat.lt_or_gt_of_ne e with hl | hl
        · exact fun h0 => hp k j hlt hj hl (he1.trans h0.symm)
        · exact fun h0 => hp j k hj hlt hl (h0.trans he1.symm)
      exact ⟨blk_far hx2.1 hne u, hx2.2⟩
  · have h2 := (List.pairwise_map (R := fun a b : Nat => a ≠ b) (f := fun x : Nat × Array Value × TypeId => x.1) (l := bs)).2 h.ne
    rw [← hmap] at h2
    exact List.pairwise_map.1 h2
  · obtain ⟨S, h2, h3⟩ := h.rows φ hφ
    refine ⟨S, ⟨h2.1, h2.1 S _ _ h2.2 fun k hS => Below.heap_setCell W _ u k (fun e => (h3 k hS).2.2.2 _ hm e.symm)⟩, fun k hS => ⟨(h3 k hS).1, by have := (h3 k hS).2.1; simpa [World.setCell] using this, (h3 k hS).2.2.1, fun x hx => ?_⟩⟩
    have : x.1 ∈ bs.map (·.1) := hmap ▸ List.mem_map_of_mem hx
    obtain ⟨y, hy, e⟩ := List.mem_map.1 this
    exact fun e2 => (h3 k hS).2.2.2 y hy (e.trans e2)
theorem addrow {α : Type} {d : Kd α} {e base : Nat} {ok : Nat → Prop} {v : Value} {xs : List α} (h : CS w G z bs rs W) (hw : w.heap.size ≤ W.heap.size) (h1 : CS w G1 z bs rs W1) (hR : d.R e W1 base ok v xs) (hb : W.heap.size ≤ base) : CS w G1 z bs ((fun ok W' => d.R e W' w.heap.size ok v xs) :: rs) W1 := by
  refine ⟨h1.gc, h1.g, h1.blk, h1.ne, fun φ hφ => ?_⟩
  rcases List.mem_cons.1 hφ with rfl | hφ
  · refine ⟨fun k => base ≤ k ∧ k < W1.heap.size, ⟨stab_R _ _ _ _ _, Kd.R_lower (Kd.R_mono (Kd.R_bound hR) fun k hk => ⟨hk.2.1, hk.2.2.1⟩) (Nat.le_trans hw hb)⟩, fun k hk => ⟨Nat.le_trans (Nat.le_trans hw hb) hk.1, hk.2, fun e => by have := h.gc.zlt _ h.g k e.symm; omega, fun x hx => ?_⟩⟩
    have := blk_lt (h.blk x hx).1
    omega
  · exact h1.rows φ hφ
theorem row (h : CS w G z bs rs W) (k : Nat) {α : Type} {d : Kd α} {e base : Nat} {v : Value} {xs : List α} (hk : rs[k]? = some (fun ok W' => d.R e W' base ok v xs)) : d.R e W base (fun _ => True) v xs := by
  obtain ⟨S, h1, _⟩ := h.rows _ (List.mem_of_getElem? hk)
  exact Kd.R_mono h1.2 fun _ _ => trivial
theorem tail {x : Nat × Array Value × TypeId} (h : CS w G z (x :: bs) rs W) : CS w G z bs rs W := ⟨h.gc, h.g, fun y hy => h.blk y (List.mem_cons_of_mem _ hy), (List.pairwise_cons.1 h.ne).2, fun φ hφ => by
  obtain ⟨S, h1, h2⟩ := h.rows φ hφ
  exact ⟨S, h1, fun k hS => ⟨(h2 k hS).1, (h2 k hS).2.1, (h2 k hS).2.2.1, fun y hy => (h2 k hS).2.2.2 y (List.mem_cons_of_mem _ hy)⟩⟩⟩
theorem c (h : CS w G z bs rs W) (k : Nat) {b : Nat} {cs : Array Value} {t : TypeId} (hk : bs[k]? = some (b, cs, t)) (j : Nat) : W.cell? ⟨b, j, none⟩ = cs[j]? := blk_cell (h.blk _ (List.mem_of_getElem? hk)).1 j
theorem f (h : CS w G z bs rs W) (k : Nat) {b : Nat} {cs : Array Value} {t : TypeId} (hk : bs[k]? = some (b, cs, t)) (j : Nat) : W.frozen? ⟨b, j, none⟩ = false := blk_frozen (h.blk _ (List.mem_of_getElem? hk)).1 j
theorem at_ (h : CS w G z bs rs W) (k : Nat) {b : Nat} {cs : Array Value} {t : TypeId} (hk : bs[k]? = some (b, cs, t)) : W.heap[b]? = some (.cells cs t (0, 0)) := (h.blk _ (List.mem_of_getElem? hk)).1
end CS
section
variable {P : Program} {ops : Array Oper} {rest : List Oper} {o : Oper} {a : Act} {Q : Exit → Act → World → Prop} {w W : World} {G : World → Prop} {z : Option Nat} {bs bs' : Bx} {rs : List Rw}
theorem gate_lit {t : TypeId} {m : Nat} {ps : Array (Nat × Operand)} (_ho : o.op = .buildSlice t m ps) (h : wpList P ops Q (o :: rest) a W) : wpList P ops Q (o :: rest) a W := h
theorem gate_st {t : TypeId} {p : Tmp} {v : Operand} (_ho : o.op = .store t (.tmp p) v) (h : wpList P ops Q (o :: rest) a W) : wpList P ops Q (o :: rest) a W := h
theorem gate_al {t : TypeId} (_ho : o.op = .alloc t) (h : wpList P ops Q (o :: rest) a W) : wpList P ops Q (o :: rest) a W := h
theorem gate_bx {t : TypeId} {x : Operand} (_ho : o.op = .box t x) (h : wpList P ops Q (o :: rest) a W) : wpList P ops Q (o :: rest) a W := h
theorem gate_mk {t : TypeId} {x y : Operand} (_ho : o.op = .makeSlice t x y) (h : wpList P ops Q (o :: rest) a W) : wpList P ops Q (o :: rest) a W := h
theorem ev_box {R : Result Next} {cs : Array Value} {t : TypeId} (h : ∀ b w1, CS w G z ((b, cs, t) :: bs) rs w1 → wpList P ops Q rest (a.put o.dst (.pointer (some ⟨b, 0, none⟩))) w1)
    (hgd : o.guard = none := by rfl) (hrun : (execOp a.eval o).run P W = R := by (go_simp; first | done | rfl))
    (hR : R = .ok (.value (.pointer (some ⟨W.heap.size, 0, none⟩))) (W.alloc (.cells cs t (0, 0))) := by rfl) (hD : CS w G z bs rs W := by with_reducible first | exact D.out | exact D.out.drewN _) : wpList P ops Q (o :: rest) a W :=
  Kd.event_run hgd (hrun.trans hR) (h _ _ (hD.box rfl (blk_new W _) (below_alloc (Below.refl _ _) _)))
theorem ev_lit {R : Result Next} {cs : Array Value} {t : TypeId} {m : Nat} (h : ∀ b w1, CS w G z ((b, cs, t) :: bs) rs w1 → wpList P ops Q rest (a.put o.dst (.slice (some ⟨b, 0, none⟩) m m)) w1)
    (hgd : o.guard = none := by rfl) (hrun : (execOp a.eval o).run P W = R := by (go_simp; first | done | rfl))
    (hR : R = .ok (.value (.slice (some ⟨W.heap.size, 0, none⟩) m m)) (W.alloc (.cells cs t (0, 0))) := by rfl) (hD : CS w G z bs rs W := by with_reducible first | exact D.out | exact D.out.drewN _) : wpList P ops Q (o :: rest) a W :=
  Kd.event_run hgd (hrun.trans hR) (h _ _ (hD.box rfl (blk_new W _) (below_alloc (Below.refl _ _) _)))
theorem ev_store {R : Result Next} {W1 : World} {t : TypeId} {p : Tmp} {v : Operand} (h : ∀ w1, CS w G z bs' rs w1 → wpList P ops Q rest a w1)
    (hgd : o.guard = none := by rfl) (ho : o.op = .store t (.tmp p) v := by rfl) (hN : o.dst = none := by rfl) (hrun : (execOp a.eval o).run P W = R := by (go_simp; first | done | rfl))
    (hR : R = .ok .skip W1 := by rfl) (hD : CS w G z bs' rs W1 := by first | ((repeat (first | (with_reducible first | exact D.out | exact D.out.drewN _) | apply CS.put 0)); all_goals rfl) | ((repeat (first | (with_reducible first | exact D.out | exact D.out.drewN _) | apply CS.put 1)); all_goals rfl) | ((repeat (first | (with_reducible first | exact D.out | exact D.out.drewN _) | apply CS.put 2)); all_goals rfl) | ((repeat (first | (with_reducible first | exact D.out | exact D.out.drewN _) | apply CS.put 3)); all_goals rfl) | ((repeat (first | (with_reducible first | exact D.out | exact D.out.drewN _) | apply CS.put 4)); all_goals rfl)) : wpList P ops Q (o :: rest) a W := by
  refine store_event hgd ho hN (hrun.trans hR) ?_
  rintro w' rfl
  exact h _ hD
theorem ev_make {x y : Operand} (d : Kd Int) (n : Int) (t e bytes : Nat) (zv : Value) (h : ∀ A c w1, CS w G z bs ((fun ok W' => d.R e W' w.heap.size ok (.slice A n.toNat c) (List.replicate n.toNat (0 : Int))) :: rs) w1 → wpList P ops Q rest (a.put o.dst (.slice A n.toNat c)) w1)
    (h0 : 0 ≤ n) (hl : n.toNat * bytes ≤ 281474976710656) (hgd : o.guard = none := by rfl) {N : Tmp} (hd : o.dst = some N := by rfl) (ho : o.op = .makeSlice t x y := by rfl) (hx : a.eval x = .int .i64 n := by rfl) (hy : a.eval y = .int .i64 n := by rfl)
    (ht : P.underlying t = some (.slice e) := by rfl) (hinfo : (P.info? e).map (fun i => (i.zero, i.size, i.bytes)) = some (some zv, d.sz, bytes) := by kernel_rfl) (hz : zv.cells.size = d.sz := by rfl) (hs0 : 0 < d.sz := by decide) (hb0 : 0 < bytes := by decide) (hzero : d.M W W.heap.size (fun _ => True) 0 zv.cells.toList := by rfl)
    (hD : CS w G z bs rs W := by with_reducible first | exact D.out | exact D.out.drewN _) : wpList P ops Q (o :: rest) a W := by
  refine Kd.R_make d (w0 := W) W.heap.size e hgd hd t x y ho n hx hy ht zv bytes hinfo hz hs0 hb0 0 (ok := fun _ => True) hzero (fun _ h => h) trivial h0 hl (Below.refl _ _) (Nat.le_refl _) ?_
  intro v1 w1 hR hb _ _
  obtain ⟨A, c', rfl⟩ := Kd.R_slice hR
  rw [List.length_replicate] at hR ⊢
  exact h A c' w1 (CS.addrow hD (hD.gc.size _ hD.g) (hD.below hb) hR (Nat.le_refl _))
end
section
variable {P : Program} {f : FuncId} {args : Array Value} {w W : World} {G : World → Prop} {z : Option Nat} {bs : Bx} {rs : List Rw} {φ : Ending → Prop}
theorem CS.via (D : CS w G z bs rs W) (h : Calls P f args W fun e w' => φ e ∧ Below W.heap.size W w') : Calls P f args W fun e w' => φ e ∧ CS w G z bs rs w' := h.mono fun _ _ ⟨h1, h2⟩ => ⟨h1, D.below h2⟩
theorem CS.viaE (D : CS w G z bs rs W) (h : Calls P f args W fun e w' => φ e ∧ w' = W) : Calls P f args W fun e w' => φ e ∧ CS w G z bs rs w' := h.mono fun _ _ ⟨h1, h2⟩ => ⟨h1, h2 ▸ D⟩
theorem CS.viaQ (D : CS w G z bs rs W) (h : Calls P f args W fun e w' => φ e ∧ Drawn0 W w') : Calls P f args W fun e w' => φ e ∧ CS w G z bs rs w' := h.mono fun _ _ ⟨h1, m, h2⟩ => ⟨h1, h2 ▸ D.drewN m⟩
theorem CS.viaR {α : Type} {d : Kd α} {e1 : Nat} {xs : List α} {F : Value → Value} (D : CS w G z bs rs W) (h : Calls P f args W fun e w' => ∃ v, e = .returned (F v) ∧ d.R e1 w' W.heap.size (fun _ => True) v xs ∧ Below W.heap.size W w') :
    Calls P f args W fun e w' => ∃ A c, e = .returned (F (.slice A xs.length c)) ∧ CS w G z bs ((fun ok W' => d.R e1 W' w.heap.size ok (.slice A xs.length c) xs) :: rs) w' := h.mono fun _ _ ⟨v, h1, h2, h3⟩ => by
  obtain ⟨A, c', rfl⟩ := Kd.R_slice h2
  exact ⟨A, c', h1, CS.addrow D (D.gc.size _ D.g) (D.below h3) h2 (Nat.le_refl _)⟩
end
theorem CS.bel {w W : World} {bs : Bx} {rs : List Rw} (D : CS w (Gb w) none bs rs W) : Below w.heap.size w W := D.g
theorem CS.litC {w W : World} {G : World → Prop} {z : Option Nat} {bs : Bx} {rs : List Rw} {b : Nat} {cs : Array Value} {t : TypeId} (D : CS w G z ((b, cs, t) :: bs) rs W) {xs : List Int} (hc : cs.toList = xs.map (Value.int .i64)) (hm : xs.length ≤ 9223372036854775807) : Kd.C (Kd.int .i64) W (some ⟨b, 0, none⟩) xs.length xs := by
  refine ⟨rfl, hm, fun _ => ⟨_, rfl, fun j p hj => ⟨[.int .i64 p], rfl, rfl, fun i u hi => ?_⟩⟩⟩
  obtain rfl : i = 0 := by
    have := (List.getElem?_eq_some_iff.1 hi).1
    simp at this
    omega
  obtain rfl : Value.int .i64 p = u := by simpa using hi
  have hq := D.c 0 rfl j
  have e1 : cs[j]? = some (Value.int .i64 p) := by
    rw [← Array.getElem?_toList, hc, List.getElem?_map, hj]
    rfl
  rw [e1] at hq
  rw [show (⟨b, 0, none⟩ : Addr).add (j * (Kd.int IntKind.i64).sz + 0) = ⟨b, j, none⟩ from by rw [show j * (Kd.int IntKind.i64).sz + 0 = j from Nat.mul_one j]; unfold Addr.add; split <;> simp_all]
  exact hq
theorem ev_row0 {P : Program} {ops : Array Oper} {rest : List Oper} {o : Oper} {a : Act} {Q : Exit → Act → World → Prop} {w W : World} {G : World → Prop} {z : Option Nat} {bs : Bx} {rs : List Rw} {α : Type} (d : Kd α) (e : Nat) {N : Tmp}
    (h : ∀ A c w1, CS w G z bs ((fun ok W' => d.R e W' w.heap.size ok (.slice A ([] : List α).length c) []) :: rs) w1 → wpList P ops Q rest (a.put o.dst (.slice A ([] : List α).length c)) w1) (hD : CS w G z bs rs W)
    (hgd : o.guard = none := by rfl) (hd : o.dst = some N := by rfl) (hrun : (execOp a.eval o).run P W = .ok (.value (.slice (some ⟨W.heap.size, 0, none⟩) ([] : List α).length ([] : List α).length)) (W.alloc (.cells ([] : List Value).toArray e)) := by (go_simp; first | done | rfl)) : wpList P ops Q (o :: rest) a W := by
  refine Kd.R_lit d (w0 := W) W.heap.size e hgd hd (xs := []) (inner := []) (ok := fun _ => True) (okp := fun _ => True) hrun (Reps.none _ _) (fun _ h => h) trivial (Below.refl _ _) (Nat.le_refl _) (by simp) ?_
  intro v1 w1 hR hb _ _
  obtain ⟨A, c', rfl⟩ := Kd.R_slice hR
  exact h A c' w1 (CS.addrow hD (hD.gc.size _ hD.g) (hD.below hb) hR (Nat.le_refl _))
theorem gate_ap {P : Program} {ops : Array Oper} {rest : List Oper} {o : Oper} {a : Act} {Q : Exit → Act → World → Prop} {W : World} {x y : Operand} {ts : Array TypeId} (_ho : o.op = .call { callee := .builtin .append, args := #[x, y], argTypes := ts }) (h : wpList P ops Q (o :: rest) a W) : wpList P ops Q (o :: rest) a W := h
theorem ev_append {P : Program} {ops : Array Oper} {rest : List Oper} {o : Oper} {a : Act} {Q : Exit → Act → World → Prop} {w W : World} {G : World → Prop} {z : Option Nat} {bs : Bx} {α : Type} (d : Kd α) (t e : TypeId) (zv : Value) (bytes : Nat) (s x : Operand) {A : Option Addr} {c : Nat} {xs : List α} (p : α) (cs : List Value)
    (h : ∀ A c w1, CS w G z bs [fun ok W' => d.R e W' w.heap.size ok (.slice A (xs ++ [p]).length c) (xs ++ [p])] w1 → wpList P ops Q rest (a.put o.dst (.slice A (xs ++ [p]).length c)) w1)
    (hl : (xs.length + 1) * bytes ≤ 140737488355328) (hD : CS w G z bs [fun ok W' => d.R e W' w.heap.size ok (.slice A xs.length c) xs] W) (hp : d.M W w.heap.size (fun _ => False) p cs)
    (hgd : o.guard = none := by rfl) (ho : o.op = .call { callee := .builtin .append, args := #[s, x], argTypes := #[t, t] } := by rfl) (hs : a.eval s = .slice A xs.length c := by rfl) (hx : a.eval x = .slice (some ⟨W.heap.size, 0, none⟩) 1 1 := by rfl)
    (ht : P.underlying t = some (.slice e) := by rfl) (hinfo : (P.info? e).map (fun i => (i.zero, i.size, i.bytes)) = some (some zv, d.sz, bytes) := by kernel_rfl) (hz : zv.cells.size = d.sz := by rfl) (hs0 : 0 < d.sz := by decide) (hb0 : 0 < bytes := by decide) : wpList P ops Q (o :: rest) a (W.alloc (.cells cs.toArray e)) := by
  obtain ⟨S, h1, h2⟩ := hD.rows _ (List.mem_singleton.2 rfl)
  have hsz : w.heap.size ≤ W.heap.size := hD.gc.size _ hD.g
  refine Kd.R_append d (w0 := W) w.heap.size hgd s x t e zv bytes ho ht hinfo hz hs0 hb0 _ xs p cs (fun k => S k ∨ W.heap.size ≤ k) (fun _ => False) hs hx hp (fun _ hk => hk.elim) (fun k hk => .inr hk) (Kd.R_mono h1.2 fun _ hk => .inl hk) (Below.refl _ _) hsz hl ?_
  intro v1 w1 hR hb hg hat
  obtain ⟨A1, c1, rfl⟩ := Kd.R_slice hR
  refine h A1 c1 w1 ⟨hD.gc, hD.gc.gr _ _ _ hD.g hg fun k e => ⟨(h2 k (h1.2.1 k e)).1, (h2 k (h1.2.1 k e)).2.2.1⟩, fun y hy => ⟨?_, (hD.blk y hy).2⟩, hD.ne, fun φ hφ => ?_⟩
  · refine blk_grown (hD.blk y hy).1 hg fun e1 => ?_
    have h3 := h1.2.1 y.1 e1.symm
    exact (h2 _ h3).2.2.2 y hy rfl
  · obtain rfl := List.mem_singleton.1 hφ
    refine ⟨fun k => (S k ∨ W.heap.size ≤ k) ∧ w.heap.size ≤ k ∧ k < w1.heap.size, ⟨stab_R _ _ _ _ _, Kd.R_mono (Kd.R_bound hR) fun k hk => ⟨hk.1, hk.2.1, hk.2.2.1⟩⟩, fun k hk => ⟨hk.2.1, hk.2.2, ?_, fun y hy => ?_⟩⟩
    · rcases hk.1 with h4 | h4
      · exact (h2 k h4).2.2.1
      · exact fun e => by have := hD.gc.zlt _ hD.g k e.symm; omega
    rcases hk.1 with h4 | h4
    · exact (h2 k h4).2.2.2 y hy
    · have := blk_lt (hD.blk y hy).1
      omega
-- a region that draws its order: two boxes' cells are known throughout
def Two (b1 : Nat) (c1 : Array Value) (b2 : Nat) (c2 : Array Value) (W : World) : Prop := (∀ j, W.cell? ⟨b1, j, none⟩ = c1[j]?) ∧ ∀ j, W.cell? ⟨b2, j, none⟩ = c2[j]?
section
variable {P : Program} {ops : Array Oper} {Q : Exit → Act → World → Prop} {md : Region.Mode} {S : World → Prop} {ds : List Nat} {w W : World} {G : World → Prop} {z : Option Nat} {bs bs' : Bx} {rs : List Rw}
theorem CS.rg {id n : Nat} {a : Act} (i j : Nat) (l : Array Bool) {b1 b2 : Nat} {c1 c2 : Array Value} {t1 t2 : TypeId} (D : CS w G z bs rs W) (h1 : bs[i]? = some (b1, c1, t1)) (h2 : bs[j]? = some (b2, c2, t2)) (hn : ops.size = n) (hl : Array.replicate n false = l)
    (h : ∀ w1, CS w G z bs rs w1 → wpAnyLast P .any ops Q (Two b1 c1 b2 c2) [] n l a w1) (hm : P.follows .mixedOrders = true := by kernel_rfl) : (Code.region id ops true).wp P Q a W :=
  start_ l hm hn hl ⟨D.drew.c i h1, D.drew.c j h2⟩ fun _ => h _ D.drew
theorem tk {fuel : Nat} {l : Array Bool} {a a' : Act} {oi : Oper} {v : Value} (i : Nat) (N : Option Tmp) (l' : Array Bool) (hS : S W) (h : wpAnyLast P md ops Q S ds fuel l' a' W) (hi : ops[i]? = some oi := by rfl) (hN : oi.dst = N := by rfl) (hc : takeB md ops ds l l' i = true := by kernel_rfl)
    (hQ : ∀ c a w, Q (.panic c) (a.put oi.dst v) w → Q (.panic c) a w := by exact fun _ _ _ h => h) (hy : YieldsIf P ops S oi v a := by exact Or.inl ⟨by rfl, by (rintro w' ⟨s0, s1⟩; go_simp; with_reducible rfl)⟩) (ha : a.put N v = a' := by (simp only [Act.put, List.setIfInBounds_toArray, List.set_cons_zero, List.set_cons_succ, i64_w, i32_w]; rfl)) : wpAnyLast P md ops Q S ds (fuel + 1) l a W :=
  take_ l' hi hN hc hQ hy hS ha h
theorem skC {K : Act → World → Prop} {a : Act} {oi : Oper} {R : Result Next} {W1 : World} (h : ∀ w1, CS w G z bs' rs w1 → K a w1) (hw : Region.wanted oi (yielded ops a.tmps) = true := by rfl) (hN : oi.dst = none := by rfl) (hrun : (execOp a.eval oi).run P W = R := by (go_simp; first | done | rfl)) (hR : R = .ok .skip W1 := by rfl)
    (hD : CS w G z bs' rs W1 := by first | ((repeat (first | (with_reducible exact D.out) | apply CS.put 0)); all_goals rfl) | ((repeat (first | (with_reducible exact D.out) | apply CS.put 1)); all_goals rfl) | ((repeat (first | (with_reducible exact D.out) | apply CS.put 2)); all_goals rfl) | ((repeat (first | (with_reducible exact D.out) | apply CS.put 3)); all_goals rfl) | ((repeat (first | (with_reducible exact D.out) | apply CS.put 4)); all_goals rfl)) : if Region.wanted oi (yielded ops a.tmps) = true then Oper.wp P oi a W K Q else K (a.put none undef) W :=
  skip_ hw hN (hrun.trans hR) (h _ hD)
end
-- a whole element of the call's own row is written; a row is appended; two boxes change places
theorem CS.swap {w W : World} {G : World → Prop} {z : Option Nat} {x y : Nat × Array Value × TypeId} {bs : Bx} {rs : List Rw} (h : CS w G z (x :: y :: bs) rs W) : CS w G z (y :: x :: bs) rs W := by
  have h1 := List.pairwise_cons.1 h.ne
  have h2 := List.pairwise_cons.1 h1.2
  refine ⟨h.gc, h.g, fun u hu => h.blk u ?_, List.pairwise_cons.2 ⟨fun u hu => ?_, List.pairwise_cons.2 ⟨fun u hu => h1.1 u (List.mem_cons_of_mem _ hu), h2.2⟩⟩, fun φ hφ => ?_⟩
  · simp only [List.mem_cons] at hu ⊢
    rcases hu with h3 | h3 | h3
    · exact .inr (.inl h3)
    · exact .inl h3
    · exact .inr (.inr h3)
  · rcases List.mem_cons.1 hu with rfl | h3
    · exact (h1.1 y (List.mem_cons_self ..)).symm
    · exact h2.1 u h3
  · obtain ⟨S, h3, h4⟩ := h.rows φ hφ
    refine ⟨S, h3, fun k hk => ⟨(h4 k hk).1, (h4 k hk).2.1, (h4 k hk).2.2.1, fun u hu => (h4 k hk).2.2.2 u ?_⟩⟩
    simp only [List.mem_cons] at hu ⊢
    rcases hu with h5 | h5 | h5
    · exact .inr (.inl h5)
    · exact .inl h5
    · exact .inr (.inr h5)
theorem CS.form {w W : World} {G : World → Prop} {z : Option Nat} {bs : Bx} {α : Type} {d : Kd α} {e base : Nat} {A : Option Addr} {c : Nat} {xs : List α} (h : CS w G z bs [fun ok W' => d.R e W' base ok (.slice A xs.length c) xs] W) (hp : 0 < xs.length) : ∃ g, A = some ⟨g, 0, none⟩ := by
  obtain ⟨g, cap, hv, _⟩ := Kd.R_form (h.row 0 rfl) hp
  injection hv with h1
  exact ⟨g, h1⟩
theorem CS.regrown {w W w1 : World} {G : World → Prop} {z : Option Nat} {bs : Bx} {α : Type} {d : Kd α} {e : Nat} {v v1 : Value} {xs ys : List α} {S : Nat → Prop} (hD : CS w G z bs [fun ok W' => d.R e W' w.heap.size ok v xs] W) (h1 : d.R e W w.heap.size S v xs) (h2 : ∀ k, S k → w.heap.size ≤ k ∧ k < W.heap.size ∧ some k ≠ z ∧ ∀ x ∈ bs, x.1 ≠ k)
    (hR : d.R e w1 w.heap.size (fun k => S k ∨ W.heap.size ≤ k) v1 ys) (hg : W.grownBy w1 v.ownBlock) : CS w G z bs [fun ok W' => d.R e W' w.heap.size ok v1 ys] w1 := by
  refine ⟨hD.gc, hD.gc.gr _ _ _ hD.g hg fun k e => ⟨(h2 k (h1.1 k e)).1, (h2 k (h1.1 k e)).2.2.1⟩, fun y hy => ⟨?_, (hD.blk y hy).2⟩, hD.ne, fun φ hφ => ?_⟩
  · refine blk_grown (hD.blk y hy).1 hg fun e1 => ?_
    exact (h2 _ (h1.1 y.1 e1.symm)).2.2.2 y hy rfl
  · obtain rfl := List.mem_singleton.1 hφ
    refine ⟨fun k => (S k ∨ W.heap.size ≤ k) ∧ w.heap.size ≤ k ∧ k < w1.heap.size, ⟨stab_R _ _ _ _ _, Kd.R_mono (Kd.R_bound hR) fun k hk => ⟨hk.1, hk.2.1, hk.2.2.1⟩⟩, fun k hk => ⟨hk.2.1, hk.2.2, ?_, fun y hy => ?_⟩⟩
    · rcases hk.1 with h4 | h4
      · exact (h2 k h4).2.2.1
      · exact fun e => by have := hD.gc.zlt _ hD.g k e.symm; omega
    rcases hk.1 with h4 | h4
    · exact (h2 k h4).2.2.2 y hy
    · have := blk_lt (hD.blk y hy).1
      omega
theorem CS.rowst {P : Program} {o : Oper} {a : Act} {w W : World} {G : World → Prop} {z : Option Nat} {bs : Bx} {α : Type} (d : Kd α) {t e : TypeId} {p x : Operand} {gb cap : Nat} {xs : List α} (i : Int) (x' : α) (seg : List Value)
    (hD : CS w G z bs [fun ok W' => d.R e W' w.heap.size ok (.slice (some ⟨gb, 0, none⟩) xs.length cap) xs] W) (zd : α) (h0 : 0 ≤ i) (h1 : i < (xs.length : Int)) (hM : ∀ W, d.M W w.heap.size (fun _ => False) x' seg) (hsz : seg.length = d.sz) (hone : ∀ q ∈ seg, q.oneCell' = true)
    (ht : (P.info? t).map (·.size) = some seg.length) (ho : o.op = .store t p x) (haddr : a.eval p = .pointer (some ⟨gb, i.toNat * d.sz, none⟩)) (hx : a.eval x = .agg seg.toArray) :
    ∃ W1, (execOp a.eval o).run P W = .ok .skip W1 ∧ CS w G z bs [fun ok W' => d.R e W' w.heap.size ok (.slice (some ⟨gb, 0, none⟩) (xs.set i.toNat x').length cap) (xs.set i.toNat x')] W1 := by
  obtain ⟨S, hS, h2⟩ := hD.rows _ (List.mem_singleton.2 rfl)
  have hR := hS.2
  obtain ⟨c, hcl, _, hcc, _⟩ := Kd.R_elem hR zd i h0 h1
  have hseg : c.take 0 ++ seg ++ c.drop (0 + seg.length) = seg := by
    rw [List.take_zero, List.nil_append, Nat.zero_add, hsz, ← hcl, List.drop_length, List.append_nil]
  obtain ⟨hrow, hg⟩ := Kd.R_seg (okp := fun _ => False) (seg := seg) hR i h0 h1 hcl hcc (j := 0) (by omega) (by rw [hseg]; exact hM W) (fun _ hk => hk.elim)
  simp only [Nat.add_zero] at hrow hg
  have hrun : (Instr.storeAt t (.pointer (some ⟨gb, i.toNat * d.sz, none⟩)) (.agg seg.toArray)).run P W = .ok () (W.setCells gb (i.toNat * d.sz) seg) := by
    obtain ⟨_, inner, hown, hr⟩ := hR
    rcases hown.2 with ⟨hv, _⟩ | ⟨g', cap', cur, hv, hb, hh, hnc, hcm, hcs, _⟩
    · cases hv
    injection hv with ha _ hc
    injection ha with ha
    injection ha with hg'
    subst hg'; subst hc
    refine run_store_run t _ seg hh rfl ht ?_ hone
    have h3 : i.toNat * d.sz + d.sz ≤ xs.length * d.sz := by rw [← Nat.succ_mul]; exact Nat.mul_le_mul_right _ (by omega)
    have h4 : xs.length * d.sz ≤ cap * d.sz := Nat.mul_le_mul_right _ (by omega)
    omega
  refine ⟨W.setCells gb (i.toNat * d.sz) seg, ?_, ?_⟩
  · unfold execOp
    simp only [ho, haddr, hx, Sem.run_bind, Sem.run_pure, Result.andThen_ok, hrun]
  · rw [List.length_set]
    exact CS.regrown hD hR h2 (Kd.R_mono hrow fun _ h => .inl h) hg
theorem ev_rowst {P : Program} {ops : Array Oper} {rest : List Oper} {o : Oper} {a : Act} {Q : Exit → Act → World → Prop} {w W : World} {G : World → Prop} {z : Option Nat} {bs : Bx} {α : Type} (d : Kd α) {t e : TypeId} {p : Tmp} {x : Operand} {gb cap : Nat} {xs : List α} (i : Int) (x' : α) (seg : List Value) (zd : α)
    (h : ∀ w1, CS w G z bs [fun ok W' => d.R e W' w.heap.size ok (.slice (some ⟨gb, 0, none⟩) (xs.set i.toNat x').length cap) (xs.set i.toNat x')] w1 → wpList P ops Q rest a w1)
    (hD : CS w G z bs [fun ok W' => d.R e W' w.heap.size ok (.slice (some ⟨gb, 0, none⟩) xs.length cap) xs] W) (h0 : 0 ≤ i) (h1 : i < (xs.length : Int)) (hM : ∀ W, d.M W w.heap.size (fun _ => False) x' seg) (hone : ∀ q ∈ seg, q.oneCell' = true) (hsz : seg.length = d.sz := by rfl)
    (ht : (P.info? t).map (·.size) = some seg.length := by kernel_rfl) (hN : o.dst = none := by rfl) (hgd : o.guard = none := by rfl) (ho : o.op = .store t (.tmp p) x := by rfl) (haddr : a.eval (.tmp p) = .pointer (some ⟨gb, i.toNat * d.sz, none⟩) := by rfl) (hx : a.eval x = .agg seg.toArray := by rfl) : wpList P ops Q (o :: rest) a W := by
  obtain ⟨W1, hr, hW⟩ := CS.rowst d i x' seg hD zd h0 h1 hM hsz hone ht ho haddr hx
  refine store_event hgd ho hN hr ?_
  rintro w' rfl
  exact h _ hW
theorem ev_appends {P : Program} {ops : Array Oper} {rest : List Oper} {o : Oper} {a : Act} {Q : Exit → Act → World → Prop} {w W : World} {G : World → Prop} {z : Option Nat} {bs : Bx} {α : Type} (d : Kd α) (t e : TypeId) (zv : Value) (bytes : Nat) (s x : Operand) {A B : Option Addr} {c m c1 : Nat} {xs ys : List α}
    (h : ∀ A c w1, CS w G z bs [fun ok W' => d.R e W' w.heap.size ok (.slice A (xs ++ ys).length c) (xs ++ ys)] w1 → wpList P ops Q rest (a.put o.dst (.slice A (xs ++ ys).length c)) w1)
    (hl : (xs.length + m) * bytes ≤ 140737488355328) (hD : CS w G z bs [fun ok W' => d.R e W' w.heap.size ok (.slice A xs.length c) xs] W) (hr : ReadsRow (d.K W) d.sz W B m ys) (hKM : ∀ x cs, d.K W x cs → d.M W w.heap.size (fun _ => False) x cs)
    (hgd : o.guard = none := by rfl) (ho : o.op = .call { callee := .builtin .append, args := #[s, x], argTypes := #[t, t] } := by rfl) (hs : a.eval s = .slice A xs.length c := by rfl) (hx : a.eval x = .slice B m c1 := by rfl)
    (ht : P.underlying t = some (.slice e) := by rfl) (hinfo : (P.info? e).map (fun i => (i.zero, i.size, i.bytes)) = some (some zv, d.sz, bytes) := by kernel_rfl) (hz : zv.cells.size = d.sz := by rfl) (hs0 : 0 < d.sz := by decide) (hb0 : 0 < bytes := by decide) : wpList P ops Q (o :: rest) a W := by
  obtain ⟨S, h1, h2⟩ := hD.rows _ (List.mem_singleton.2 rfl)
  have hsz : w.heap.size ≤ W.heap.size := hD.gc.size _ hD.g
  refine Kd.R_append_rows d (w0 := W) w.heap.size hgd s x t e zv bytes ho ht hinfo hz hs0 hb0 _ xs ys B m c1 (fun k => S k ∨ W.heap.size ≤ k) (fun _ => False) hs hx (Kd.R_mono h1.2 fun _ hk => .inl hk) hr hKM (fun _ hk => hk.elim) (fun k hk => .inr hk) (Below.refl _ _) hsz hl ?_
  intro v1 w1 hR hb hg hat
  obtain ⟨A1, c2, rfl⟩ := Kd.R_slice hR
  exact h A1 c2 w1 (CS.regrown hD h1.2 h2 hR hg)
section
variable {P : Program} {ops : Array Oper} {Q : Exit → Act → World → Prop} {ds : List Nat} {w W : World} {G : World → Prop} {z : Option Nat} {bs : Bx} {rs : List Rw}
theorem gate_rg {id : Nat} {a : Act} (k : Nat) (_h : id = k) (h : (Code.region id ops true).wp P Q a W) : (Code.region id ops true).wp P Q a W := h
theorem CS.rgB {id n : Nat} {a : Act} (l : Array Bool) (D : CS w (Gb w) none bs rs W) (hn : ops.size = n) (hl : Array.replicate n false = l)
    (h : ∀ w1, CS w (Gb w) none bs rs w1 → wpAnyLast P .any ops Q (fun W' => Below w.heap.size w W') [] n l a w1) (hm : P.follows .mixedOrders = true := by kernel_rfl) : (Code.region id ops true).wp P Q a W :=
  start_ l hm hn hl D.drew.g fun _ => h _ D.drew
theorem alX {K : Act → World → Prop} {a : Act} {oi : Oper} {N : Option Tmp} {R : Result Next} {cs : Array Value} {t : TypeId} (h : ∀ b w1, CS w G z ((b, cs, t) :: bs) rs w1 → K (a.put N (.pointer (some ⟨b, 0, none⟩))) w1) (hD : CS w G z bs rs W)
    (hw : Region.wanted oi (yielded ops a.tmps) = true := by rfl) (hN : oi.dst = N := by rfl) (hrun : (execOp a.eval oi).run P W = R := by (go_simp; first | done | rfl))
    (hR : R = .ok (.value (.pointer (some ⟨W.heap.size, 0, none⟩))) (W.alloc (.cells cs t (0, 0))) := by rfl) : if Region.wanted oi (yielded ops a.tmps) = true then Oper.wp P oi a W K Q else K (a.put N undef) W :=
  value_ hw hN (hrun.trans hR) (h _ _ (hD.box rfl (blk_new W _) (below_alloc (Below.refl _ _) _)))
theorem alS {K : Act → World → Prop} {a : Act} {oi : Oper} {N : Option Tmp} {R : Result Next} {cs : Array Value} {t : TypeId} {m : Nat} (h : ∀ b w1, CS w G z ((b, cs, t) :: bs) rs w1 → K (a.put N (.slice (some ⟨b, 0, none⟩) m m)) w1) (hD : CS w G z bs rs W)
    (hw : Region.wanted oi (yielded ops a.tmps) = true := by rfl) (hN : oi.dst = N := by rfl) (hrun : (execOp a.eval oi).run P W = R := by (go_simp; first | done | rfl))
    (hR : R = .ok (.value (.slice (some ⟨W.heap.size, 0, none⟩) m m)) (W.alloc (.cells cs t (0, 0))) := by rfl) : if Region.wanted oi (yielded ops a.tmps) = true then Oper.wp P oi a W K Q else K (a.put N undef) W :=
  value_ hw hN (hrun.trans hR) (h _ _ (hD.box rfl (blk_new W _) (below_alloc (Below.refl _ _) _)))
theorem CS.join2 {w0 : World} {S : World → Prop} {md : Region.Mode} {fuel : Nat} {l : Array Bool} {a : Act} (_D : CS w0 G z bs rs W) (fuel' : Nat) (l' : Array Bool) (ns : Nat × Nat → List (Tmp × Value)) (c1 c2 : Array Value) (t1 t2 : TypeId)
    (hc : ∀ (s : Nat × Nat) w', CS w0 G z ((s.2, c2, t2) :: (s.1, c1, t1) :: bs) rs w' → wpAnyLast P md ops Q S ds fuel' l' (putAll a (ns s)) w')
    (h : (∀ (s : Nat × Nat) w', CS w0 G z ((s.2, c2, t2) :: (s.1, c1, t1) :: bs) rs w' → wpAnyLast P md ops Q S ds fuel' l' (putAll a (ns s)) w') → wpAnyLast P md ops Q S ds fuel l a W) : wpAnyLast P md ops Q S ds fuel l a W := h hc
theorem skR {K : Act → World → Prop} {a : Act} {oi : Oper} {α : Type} (d : Kd α) {t e : TypeId} {p x : Operand} {gb cap : Nat} {xs : List α} (i : Int) (x' : α) (seg : List Value)
    (h : ∀ w1, CS w G z bs [fun ok W' => d.R e W' w.heap.size ok (.slice (some ⟨gb, 0, none⟩) (xs.set i.toNat x').length cap) (xs.set i.toNat x')] w1 → K a w1)
    (hD : CS w G z bs [fun ok W' => d.R e W' w.heap.size ok (.slice (some ⟨gb, 0, none⟩) xs.length cap) xs] W) (zd : α) (h0 : 0 ≤ i) (h1 : i < (xs.length : Int)) (hM : ∀ W, d.M W w.heap.size (fun _ => False) x' seg)
    (hsz : seg.length = d.sz := by rfl) (hone : ∀ q ∈ seg, q.oneCell' = true := by (intro q hq; simp only [List.mem_cons, List.not_mem_nil, or_false] at hq; (repeat' rcases hq with rfl | hq) <;> first | rfl | (subst hq; rfl)))
    (hw : Region.wanted oi (yielded ops a.tmps) = true := by rfl) (hN : oi.dst = none := by rfl) (ht : (P.info? t).map (·.size) = some seg.length := by kernel_rfl) (ho : oi.op = .store t p x := by rfl)
    (haddr : a.eval p = .pointer (some ⟨gb, i.toNat * d.sz, none⟩) := by rfl) (hx : a.eval x = .agg seg.toArray := by rfl) : if Region.wanted oi (yielded ops a.tmps) = true then Oper.wp P oi a W K Q else K (a.put none undef) W := by
  obtain ⟨W1, hr, hW⟩ := CS.rowst d i x' seg hD zd h0 h1 hM hsz hone ht ho haddr hx
  exact skip_ hw hN hr (h _ hW)
end
/-! ### (my own text) lemmas of the squeezed texts -/
theorem blk_c7 {w : World} {g : Nat} {t : TypeId} {v0 v1 v2 v3 v4 v5 v6 : Value} (h : w.heap[g]? = some (.cells #[v0, v1, v2, v3, v4, v5, v6] t (0, 0))) : w.cell? ⟨g, 0, none⟩ = some v0 ∧ w.cell? ⟨g, 1, none⟩ = some v1 ∧ w.cell? ⟨g, 2, none⟩ = some v2 ∧ w.cell? ⟨g, 3, none⟩ = some v3 ∧ w.cell? ⟨g, 4, none⟩ = some v4 ∧ w.cell? ⟨g, 5, none⟩ = some v5 ∧ w.cell? ⟨g, 6, none⟩ = some v6 := ⟨blk_cell h 0, blk_cell h 1, blk_cell h 2, blk_cell h 3, blk_cell h 4, blk_cell h 5, blk_cell h 6⟩
theorem blk_c8 {w : World} {g : Nat} {t : TypeId} {v0 v1 v2 v3 v4 v5 v6 v7 : Value} (h : w.heap[g]? = some (.cells #[v0, v1, v2, v3, v4, v5, v6, v7] t (0, 0))) : w.cell? ⟨g, 0, none⟩ = some v0 ∧ w.cell? ⟨g, 1, none⟩ = some v1 ∧ w.cell? ⟨g, 2, none⟩ = some v2 ∧ w.cell? ⟨g, 3, none⟩ = some v3 ∧ w.cell? ⟨g, 4, none⟩ = some v4 ∧ w.cell? ⟨g, 5, none⟩ = some v5 ∧ w.cell? ⟨g, 6, none⟩ = some v6 ∧ w.cell? ⟨g, 7, none⟩ = some v7 := ⟨blk_cell h 0, blk_cell h 1, blk_cell h 2, blk_cell h 3, blk_cell h 4, blk_cell h 5, blk_cell h 6, blk_cell h 7⟩
theorem blk_c9 {w : World} {g : Nat} {t : TypeId} {v0 v1 v2 v3 v4 v5 v6 v7 v8 : Value} (h : w.heap[g]? = some (.cells #[v0, v1, v2, v3, v4, v5, v6, v7, v8] t (0, 0))) : w.cell? ⟨g, 0, none⟩ = some v0 ∧ w.cell? ⟨g, 1, none⟩ = some v1 ∧ w.cell? ⟨g, 2, none⟩ = some v2 ∧ w.cell? ⟨g, 3, none⟩ = some v3 ∧ w.cell? ⟨g, 4, none⟩ = some v4 ∧ w.cell? ⟨g, 5, none⟩ = some v5 ∧ w.cell? ⟨g, 6, none⟩ = some v6 ∧ w.cell? ⟨g, 7, none⟩ = some v7 ∧ w.cell? ⟨g, 8, none⟩ = some v8 := ⟨blk_cell h 0, blk_cell h 1, blk_cell h 2, blk_cell h 3, blk_cell h 4, blk_cell h 5, blk_cell h 6, blk_cell h 7, blk_cell h 8⟩
theorem blk_c10 {w : World} {g : Nat} {t : TypeId} {v0 v1 v2 v3 v4 v5 v6 v7 v8 v9 : Value} (h : w.heap[g]? = some (.cells #[v0, v1, v2, v3, v4, v5, v6, v7, v8, v9] t (0, 0))) : w.cell? ⟨g, 0, none⟩ = some v0 ∧ w.cell? ⟨g, 1, none⟩ = some v1 ∧ w.cell? ⟨g, 2, none⟩ = some v2 ∧ w.cell? ⟨g, 3, none⟩ = some v3 ∧ w.cell? ⟨g, 4, none⟩ = some v4 ∧ w.cell? ⟨g, 5, none⟩ = some v5 ∧ w.cell? ⟨g, 6, none⟩ = some v6 ∧ w.cell? ⟨g, 7, none⟩ = some v7 ∧ w.cell? ⟨g, 8, none⟩ = some v8 ∧ w.cell? ⟨g, 9, none⟩ = some v9 := ⟨blk_cell h 0, blk_cell h 1, blk_cell h 2, blk_cell h 3, blk_cell h 4, blk_cell h 5, blk_cell h 6, blk_cell h 7, blk_cell h 8, blk_cell h 9⟩
theorem blk_c11 {w : World} {g : Nat} {t : TypeId} {v0 v1 v2 v3 v4 v5 v6 v7 v8 v9 v10 : Value} (h : w.heap[g]? = some (.cells #[v0, v1, v2, v3, v4, v5, v6, v7, v8, v9, v10] t (0, 0))) : w.cell? ⟨g, 0, none⟩ = some v0 ∧ w.cell? ⟨g, 1, none⟩ = some v1 ∧ w.cell? ⟨g, 2, none⟩ = some v2 ∧ w.cell? ⟨g, 3, none⟩ = some v3 ∧ w.cell? ⟨g, 4, none⟩ = some v4 ∧ w.cell? ⟨g, 5, none⟩ = some v5 ∧ w.cell? ⟨g, 6, none⟩ = some v6 ∧ w.cell? ⟨g, 7, none⟩ = some v7 ∧ w.cell? ⟨g, 8, none⟩ = some v8 ∧ w.cell? ⟨g, 9, none⟩ = some v9 ∧ w.cell? ⟨g, 10, none⟩ = some v10 := ⟨blk_cell h 0, blk_cell h 1, blk_cell h 2, blk_cell h 3, blk_cell h 4, blk_cell h 5, blk_cell h 6, blk_cell h 7, blk_cell h 8, blk_cell h 9, blk_cell h 10⟩
theorem blk_c13 {w : World} {g : Nat} {t : TypeId} {v0 v1 v2 v3 v4 v5 v6 v7 v8 v9 v10 v11 v12 : Value} (h : w.heap[g]? = some (.cells #[v0, v1, v2, v3, v4, v5, v6, v7, v8, v9, v10, v11, v12] t (0, 0))) : w.cell? ⟨g, 0, none⟩ = some v0 ∧ w.cell? ⟨g, 1, none⟩ = some v1 ∧ w.cell? ⟨g, 2, none⟩ = some v2 ∧ w.cell? ⟨g, 3, none⟩ = some v3 ∧ w.cell? ⟨g, 4, none⟩ = some v4 ∧ w.cell? ⟨g, 5, none⟩ = some v5 ∧ w.cell? ⟨g, 6, none⟩ = some v6 ∧ w.cell? ⟨g, 7, none⟩ = some v7 ∧ w.cell? ⟨g, 8, none⟩ = some v8 ∧ w.cell? ⟨g, 9, none⟩ = some v9 ∧ w.cell? ⟨g, 10, none⟩ = some v10 ∧ w.cell? ⟨g, 11, none⟩ = some v11 ∧ w.cell? ⟨g, 12, none⟩ = some v12 := ⟨blk_cell h 0, blk_cell h 1, blk_cell h 2, blk_cell h 3, blk_cell h 4, blk_cell h 5, blk_cell h 6, blk_cell h 7, blk_cell h 8, blk_cell h 9, blk_cell h 10, blk_cell h 11, blk_cell h 12⟩
theorem blk_f7 {w : World} {g : Nat} {t : TypeId} {cs : Array Value} (h : w.heap[g]? = some (.cells cs t (0, 0))) : w.frozen? ⟨g, 0, none⟩ = false ∧ w.frozen? ⟨g, 1, none⟩ = false ∧ w.frozen? ⟨g, 2, none⟩ = false ∧ w.frozen? ⟨g, 3, none⟩ = false ∧ w.frozen? ⟨g, 4, none⟩ = false ∧ w.frozen? ⟨g, 5, none⟩ = false ∧ w.frozen? ⟨g, 6, none⟩ = false := ⟨blk_frozen h 0, blk_frozen h 1, blk_frozen h 2, blk_frozen h 3, blk_frozen h 4, blk_frozen h 5, blk_frozen h 6⟩
theorem blk_f8 {w : World} {g : Nat} {t : TypeId} {cs : Array Value} (h : w.heap[g]? = some (.cells cs t (0, 0))) : w.frozen? ⟨g, 0, none⟩ = false ∧ w.frozen? ⟨g, 1, none⟩ = false ∧ w.frozen? ⟨g, 2, none⟩ = false ∧ w.frozen? ⟨g, 3, none⟩ = false ∧ w.frozen? ⟨g, 4, none⟩ = false ∧ w.frozen? ⟨g, 5, none⟩ = false ∧ w.frozen? ⟨g, 6, none⟩ = false ∧ w.frozen? ⟨g, 7, none⟩ = false := ⟨blk_frozen h 0, blk_frozen h 1, blk_frozen h 2, blk_frozen h 3, blk_frozen h 4, blk_frozen h 5, blk_frozen h 6, blk_frozen h 7⟩
theorem blk_f9 {w : World} {g : Nat} {t : TypeId} {cs : Array Value} (h : w.heap[g]? = some (.cells cs t (0, 0))) : w.frozen? ⟨g, 0, none⟩ = false ∧ w.frozen? ⟨g, 1, none⟩ = false ∧ w.frozen? ⟨g, 2, none⟩ = false ∧ w.frozen? ⟨g, 3, none⟩ = false ∧ w.frozen? ⟨g, 4, none⟩ = false ∧ w.frozen? ⟨g, 5, none⟩ = false ∧ w.frozen? ⟨g, 6, none⟩ = false ∧ w.frozen? ⟨g, 7, none⟩ = false ∧ w.frozen? ⟨g, 8, none⟩ = false := ⟨blk_frozen h 0, blk_frozen h 1, blk_frozen h 2, blk_frozen h 3, blk_frozen h 4, blk_frozen h 5, blk_frozen h 6, blk_frozen h 7, blk_frozen h 8⟩
theorem blk_f10 {w : World} {g : Nat} {t : TypeId} {cs : Array Value} (h : w.heap[g]? = some (.cells cs t (0, 0))) : w.frozen? ⟨g, 0, none⟩ = false ∧ w.frozen? ⟨g, 1, none⟩ = false ∧ w.frozen? ⟨g, 2, none⟩ = false ∧ w.frozen? ⟨g, 3, none⟩ = false ∧ w.frozen? ⟨g, 4, none⟩ = false ∧ w.frozen? ⟨g, 5, none⟩ = false ∧ w.frozen? ⟨g, 6, none⟩ = false ∧ w.frozen? ⟨g, 7, none⟩ = false ∧ w.frozen? ⟨g, 8, none⟩ = false ∧ w.frozen? ⟨g, 9, none⟩ = false := ⟨blk_frozen h 0, blk_frozen h 1, blk_frozen h 2, blk_frozen h 3, blk_frozen h 4, blk_frozen h 5, blk_frozen h 6, blk_frozen h 7, blk_frozen h 8, blk_frozen h 9⟩
theorem blk_f11 {w : World} {g : Nat} {t : TypeId} {cs : Array Value} (h : w.heap[g]? = some (.cells cs t (0, 0))) : w.frozen? ⟨g, 0, none⟩ = false ∧ w.frozen? ⟨g, 1, none⟩ = false ∧ w.frozen? ⟨g, 2, none⟩ = false ∧ w.frozen? ⟨g, 3, none⟩ = false ∧ w.frozen? ⟨g, 4, none⟩ = false ∧ w.frozen? ⟨g, 5, none⟩ = false ∧ w.frozen? ⟨g, 6, none⟩ = false ∧ w.frozen? ⟨g, 7, none⟩ = false ∧ w.frozen? ⟨g, 8, none⟩ = false ∧ w.frozen? ⟨g, 9, none⟩ = false ∧ w.frozen? ⟨g, 10, none⟩ = false := ⟨blk_frozen h 0, blk_frozen h 1, blk_frozen h 2, blk_frozen h 3, blk_frozen h 4, blk_frozen h 5, blk_frozen h 6, blk_frozen h 7, blk_frozen h 8, blk_frozen h 9, blk_frozen h 10⟩
theorem blk_f13 {w : World} {g : Nat} {t : TypeId} {cs : Array Value} (h : w.heap[g]? = some (.cells cs t (0, 0))) : w.frozen? ⟨g, 0, none⟩ = false ∧ w.frozen? ⟨g, 1, none⟩ = false ∧ w.frozen? ⟨g, 2, none⟩ = false ∧ w.frozen? ⟨g, 3, none⟩ = false ∧ w.frozen? ⟨g, 4, none⟩ = false ∧ w.frozen? ⟨g, 5, none⟩ = false ∧ w.frozen? ⟨g, 6, none⟩ = false ∧ w.frozen? ⟨g, 7, none⟩ = false ∧ w.frozen? ⟨g, 8, none⟩ = false ∧ w.frozen? ⟨g, 9, none⟩ = false ∧ w.frozen? ⟨g, 10, none⟩ = false ∧ w.frozen? ⟨g, 11, none⟩ = false ∧ w.frozen? ⟨g, 12, none⟩ = false := ⟨blk_frozen h 0, blk_frozen h 1, blk_frozen h 2, blk_frozen h 3, blk_frozen h 4, blk_frozen h 5, blk_frozen h 6, blk_frozen h 7, blk_frozen h 8, blk_frozen h 9, blk_frozen h 10, blk_frozen h 11, blk_frozen h 12⟩
class Up_ (w W : World) : Prop where
  up : ∀ (g : Nat) (o : Obj), w.heap[g]? = some o → W.heap[g]? = some o
instance up_refl (w : World) : Up_ w w := ⟨fun _ _ h => h⟩
instance up_drewN (w W : World) (n : Nat) [Up_ w W] : Up_ w (W.drewN n) := ⟨fun g o h => blk_drewN (Up_.up g o h) n⟩
instance up_drew (w W : World) [Up_ w W] : Up_ w W.drew := ⟨fun g o h => blk_drew (Up_.up g o h)⟩
instance up_alloc (w W : World) (o' : Obj) [Up_ w W] : Up_ w (W.alloc o') := ⟨fun g o h => blk_alloc (Up_.up g o h) o'⟩
theorem blk_below_u {w0 w w1 : World} {g : Nat} {o : Obj} (h : w0.heap[g]? = some o) [Up_ w0 w] (hb : Below w.heap.size w w1) : w1.heap[g]? = some o := blk_below (Up_.up g o h) hb
theorem blk_lt_u {w0 w : World} {g : Nat} {o : Obj} (h : w0.heap[g]? = some o) [Up_ w0 w] : g < w.heap.size := blk_lt (Up_.up g o h)
theorem bup {w W : World} {g : Nat} {o : Obj} [Up_ w W] (h : w.heap[g]? = some o) : W.heap[g]? = some o := Up_.up g o h


/-! ### (my own text) lemmas of the shortened texts -/
class Dw_ (w W : World) : Prop where
  low : Below w.heap.size w W
instance dw_refl (w : World) : Dw_ w w := ⟨Below.refl _ _⟩
instance dw_drewN (w W : World) (n : Nat) [Dw_ w W] : Dw_ w (W.drewN n) := ⟨pw_below_drewN Dw_.low n⟩
instance dw_drew (w W : World) [Dw_ w W] : Dw_ w W.drew := ⟨below_drew Dw_.low⟩
instance dw_alloc (w W : World) (o' : Obj) [Dw_ w W] : Dw_ w (W.alloc o') := ⟨below_alloc Dw_.low o'⟩
theorem lowU {w W0 W : World} (h : Below w.heap.size w W0) [Dw_ W0 W] : Below w.heap.size w W := below_then h h.size Dw_.low
theorem rU {α : Type} {d : Kd α} {e : Nat} {w W : World} {base : Nat} {ok : Nat → Prop} {v : Value} {xs : List α} (h : d.R e w base ok v xs) [Dw_ w W] : d.R e W base ok v xs := Kd.R_below h Dw_.low
theorem cU {α : Type} {d : Kd α} {w w1 W : World} {A : Option Addr} {n : Nat} {xs : List α} (h : d.C w A n xs) (hb : Below w.heap.size w w1) [Dw_ w1 W] : d.C W A n xs := Kd.C_below (Kd.C_below h hb) Dw_.low
theorem cu {α : Type} {d : Kd α} {w W : World} {A : Option Addr} {n : Nat} {xs : List α} (h : d.C w A n xs) [Dw_ w W] : d.C W A n xs := Kd.C_below h Dw_.low
theorem keU {w W W' : World} {g : Nat} {row : Option Nat} (h : KeepBut w W g row) [Dw_ W W'] : KeepBut w W' g row := KeepBut.trans h (KeepBut.of_below Dw_.low g row) (.inl rfl)
theorem litI {k : IntKind} {w : World} {b : Nat} {ok : Nat → Prop} (xs : List Int) : Reps (Kd.M (Kd.int k) w b ok) 1 xs (xs.map fun x => .int k x) := by
  induction xs with
  | nil => exact Reps.none _ _
  | cons x xs h => exact Reps.one rfl h
def bv (n m : Nat) : Array Bool := ⟨(List.range n).map m.testBit⟩
theorem dq {p : Prop} [Decidable p] (h : decide p = true := by with_reducible assumption) : p := of_decide_eq_true h
theorem A_ {p : Prop} (h : p) : Aside0 p := ⟨h⟩
theorem gL_ {P : Program} {ops : Array Oper} {Q : Exit → Act → World → Prop} {rest : List Oper} {oi : Oper} {a : Act} {w : World} (N : Option Tmp) {f : FuncId} {fn : Func} {ar : Array Operand} {ts : Array TypeId} (hf : P.funcs[f]? = some fn) (args : Array Value) (h : Calls P f args w fun e w' => ∃ v, e = .returned v ∧ wpList P ops Q rest (a.put N v) w') (hd : oi.dst = N := by rfl) (hg : oi.guard = none := by rfl) (hname : (fn.name == "runtime.NumGoroutine") = false := by kernel_rfl) (hb : fn.body.isSome = true := by rfl) (hop : oi.op = .call { callee := .value (.func f), args := ar, argTypes := ts } := by rfl) (hargs : ar.map a.eval = args := by (try simp only [List.map_toArray, List.map_cons, List.map_nil]); try rfl) : wpList P ops Q (oi :: rest) a w := goesL_ N hd hg hf hname hb args hop hargs h
theorem cellB {w W : World} {a : Addr} {v : Value} (hB : Below w.heap.size w W) (h : w.cell? a = some v) : W.cell? a = some v := (hB.cell (World.block_lt_of_cell? w _ h)).trans h
theorem p_1 {α : Type} (l : List α) (i : Nat) (a : α) : l.toArray.setIfInBounds i a = (l.set i a).toArray := List.setIfInBounds_toArray ..
theorem p_2 {α : Type} (x : α) (xs : List α) (a : α) : (x :: xs).set 0 a = a :: xs := List.set_cons_zero
theorem p_3 {α : Type} (x : α) (xs : List α) (i : Nat) (a : α) : (x :: xs).set (i + 1) a = x :: xs.set i a := List.set_cons_succ
theorem b_a {w W : World} (h : Below w.heap.size w W) (o : Obj) : Below w.heap.size w (W.alloc o) := below_alloc h o
theorem b_n {B : Nat} {w W : World} (h : Below B w W) (n : Nat) : Below B w (W.drewN n) := pw_below_drewN h n
theorem b_d {B : Nat} {w W : World} (h : Below B w W) : Below B w W.drew := below_drew1 h
theorem b_s {w W : World} {g j : Nat} {v : Value} (h : Below w.heap.size w W) (hg : w.heap.size ≤ g) : Below w.heap.size w (W.setCell ⟨g, j, none⟩ v) := below_set h hg
theorem ifF {α : Type} {a b r : α} {i : Decidable (false = true)} (h : (@ite α (false = true) i a b) = r) : b = r := (if_neg Bool.false_ne_true).symm.trans h
theorem ifT {α : Type} {a b r : α} {i : Decidable (true = true)} (h : (@ite α (true = true) i a b) = r) : a = r := (if_pos rfl).symm.trans h
theorem ifS {α : Type} {p : Prop} {i : Decidable p} {a : Option α} {r : α} (h : (@ite (Option α) p i a none) = some r) : @decide p i = true ∧ a = some r := by
  by_cases c : p
  · exact ⟨decide_eq_true c, (if_pos c).symm.trans h⟩
  · rw [if_neg c] at h; exact absurd h (by simp)
theorem ifP {α : Type} {p : Prop} {i : Decidable p} {a : Option α} {r : α} (h : (@ite (Option α) p i a none) = some r) : p ∧ a = some r := by
  by_cases c : p
  · exact ⟨c, (if_pos c).symm.trans h⟩
  · rw [if_neg c] at h; exact absurd h (by simp)
section
variable {P : Program} {ops : Array Oper} {Q : Exit → Act → World → Prop} {md : Region.Mode} {S : World → Prop} {ds : List Nat}
theorem pk_ {fuel : Nat} {l : Array Bool} {a a' : Act} {oi : Oper} {v : Value} {W : World} (i : Nat) (N : Option Tmp) (l' : Array Bool) (hc : anyB md ops l l' i = true) (h : wpAnyLast P md ops Q S ds fuel l' a' W) (hi : ops[i]? = some oi := by rfl) (hN : oi.dst = N := by rfl)
    (hQ : ∀ c a w, Q (.panic c) (a.put oi.dst v) w → Q (.panic c) a w := by exact fun _ _ _ h => h) (hy : Yields P ops oi v a := by exact Or.inl ⟨by rfl, by (intro w'; go_simp; with_reducible rfl)⟩) (ha : a.put N v = a' := by (simp only [Act.put, List.setIfInBounds_toArray, List.set_cons_zero, List.set_cons_succ, i64_w, i32_w]; rfl)) : wpAnyLast P md ops Q S ds (fuel + 1) l a W :=
  pure_ l' hi hN hc hQ hy ha h
theorem pn_ {fuel : Nat} {l : Array Bool} {a a' : Act} {oi : Oper} {W : World} (i : Nat) (N : Option Tmp) (l' : Array Bool) (hc : anyB md ops l l' i = true) (h : wpAnyLast P md ops Q S ds fuel l' a' W) (hi : ops[i]? = some oi := by rfl) (hN : oi.dst = N := by rfl)
    (hQ : ∀ c a w, Q (.panic c) (a.put oi.dst undef) w → Q (.panic c) a w := by exact fun _ _ _ h => h) (hy : Yields P ops oi undef a := by exact Or.inr ⟨by rfl, rfl⟩) (ha : a.put N undef = a' := by (simp only [Act.put, List.setIfInBounds_toArray, List.set_cons_zero, List.set_cons_succ, i64_w, i32_w]; rfl)) : wpAnyLast P md ops Q S ds (fuel + 1) l a W :=
  pure_ l' hi hN hc hQ hy ha h
theorem tk_ {fuel : Nat} {l : Array Bool} {a a' : Act} {oi : Oper} {v : Value} {W : World} (i : Nat) (N : Option Tmp) (l' : Array Bool) (hc : takeB md ops ds l l' i = true) (hS : S W) (h : wpAnyLast P md ops Q S ds fuel l' a' W) (hi : ops[i]? = some oi := by rfl) (hN : oi.dst = N := by rfl)
    (hQ : ∀ c a w, Q (.panic c) (a.put oi.dst v) w → Q (.panic c) a w := by exact fun _ _ _ h => h) (hy : YieldsIf P ops S oi v a := by exact Or.inl ⟨by rfl, by (intro w' hs; (repeat (obtain ⟨_, hs⟩ := hs)); go_simp; with_reducible rfl)⟩) (ha : a.put N v = a' := by (simp only [Act.put, List.setIfInBounds_toArray, List.set_cons_zero, List.set_cons_succ, i64_w, i32_w]; rfl)) : wpAnyLast P md ops Q S ds (fuel + 1) l a W :=
  take_ l' hi hN hc hQ hy hS ha h
end
theorem bq {w W : World} (h : Below w.heap.size w W := by repeat (first | (with_reducible first | exact HB.out | apply b_a | apply b_n | apply b_d | refine b_s ?_ (Aside0.out (by with_reducible assumption))) | exact HB.out)) : Below w.heap.size w W := h
theorem eW {p : Prop} (h : p := by first | rfl | (simp [errW_none, errW_some] <;> rfl) | (simp [*, errW_none, errW_some] <;> rfl)) : p := h
theorem nW {α : Type} {a b : α} (h : a = b := by first | (simp only [putAll, Act.put, List.setIfInBounds_toArray, List.set_cons_zero, List.set_cons_succ]; done) | (simp only [putAll, Act.put, List.setIfInBounds_toArray, List.set_cons_zero, List.set_cons_succ]; rfl)) : a = b := h
theorem bf {W : World} {b : Nat} {o' : Option Obj} (h : W.heap[b]? = o' := by repeat (with_reducible first | exact Aside0.out (by assumption) | refine blk_drewN ?_ _ | refine blk_drew ?_ | refine blk_alloc ?_ _ | refine blk_far ?_ (Aside0.out (by assumption)) _)) : W.heap[b]? = o' := h
theorem blk_to {W : World} {g : Nat} {t : TypeId} {cs cs' : Array Value} (h : W.heap[g]? = some (.cells cs t (0, 0))) (e : cs = cs') : W.heap[g]? = some (.cells cs' t (0, 0)) := e ▸ h
theorem bT {P : Prop} (h : P := by (apply blk_to; (· (repeat (first | (with_reducible exact hB.out) | (with_reducible refine blk_drewN ?_ _) | (with_reducible refine blk_drew ?_) | (with_reducible refine blk_alloc ?_ _) | (with_reducible apply blk_set) | (with_reducible refine blk_far ?_ (Aside0.out (by with_reducible assumption)) _) | (exact bup hB.out)))); (first | (simp only [List.setIfInBounds_toArray, List.set_cons_zero, List.set_cons_succ]; done) | rfl))) : P := h
end Go.Proofs.Ytcelgjhhmkgnhaa.PFnTrims
