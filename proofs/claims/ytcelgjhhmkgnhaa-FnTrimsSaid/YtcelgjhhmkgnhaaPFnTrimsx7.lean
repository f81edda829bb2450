-- Written by wip/tools/myprint.py of this claim's session, over the kit's print, round texts of its own: own text.
import Derived.Test.YtcelgjhhmkgnhaaPFnTrimsx0
import Derived.Test.YtcelgjhhmkgnhaaPFnTrimsx2
import Derived.Test.YtcelgjhhmkgnhaaPFnTrimsx6
namespace Go.Proofs.Ytcelgjhhmkgnhaa.PFnTrims
open Go.RowKit Go.Proofs.YtcelgjhhmkgnhaaW.PrintWords Go.Proofs.YtcelgjhhmkgnhaaW.PrintLast Go.Proofs.YtcelgjhhmkgnhaaW.PrintMore
attribute [local go_sem] max2_int min2_int max_two min_two max_three min_three max_four min_four   -- for this text's walks alone
set_option linter.unusedVariables false
set_option linter.unusedSimpArgs false

/-! ### spec_SwapRules: function 35 -/
def spec_SwapRules.f (k : Nat) (l0 : List (S87)) (a1 : Int) : Option (Int × (List (S87))) := (spec_PolicyFault.f k l0).bind fun t165 => (if t165 = 0 then ((spec_l1In.f a1 0 (wrap64 ((l0.length : Int) - 2))).bind fun t166 => (if t166 = true then (if 0 ≤ a1 then (if a1 < (l0.length : Int) then (if 0 ≤ (wrap64 (a1 + 1)) then (if (wrap64 (a1 + 1)) < (l0.length : Int) then ((spec_MeetSels.f k ((rd_T87 l0 a1).f0.f0.f0) ((rd_T87 l0 a1).f0.f0.f1) ((rd_T87 l0 a1).f0.f1.f0) ((rd_T87 l0 a1).f0.f1.f1) ((rd_T87 l0 a1).f0.f2.f0) ((rd_T87 l0 a1).f0.f2.f1) ((rd_T87 l0 a1).f0.f3.f0) ((rd_T87 l0 a1).f0.f3.f1) ((rd_T87 l0 a1).f0.f4) ((rd_T87 l0 (wrap64 (a1 + 1))).f0.f0.f0) ((rd_T87 l0 (wrap64 (a1 + 1))).f0.f0.f1) ((rd_T87 l0 (wrap64 (a1 + 1))).f0.f1.f0) ((rd_T87 l0 (wrap64 (a1 + 1))).f0.f1.f1) ((rd_T87 l0 (wrap64 (a1 + 1))).f0.f2.f0) ((rd_T87 l0 (wrap64 (a1 + 1))).f0.f2.f1) ((rd_T87 l0 (wrap64 (a1 + 1))).f0.f3.f0) ((rd_T87 l0 (wrap64 (a1 + 1))).f0.f3.f1) ((rd_T87 l0 (wrap64 (a1 + 1))).f0.f4)).bind fun bt171 => (if bt171.1 = 0 then (if ((rd_T87 l0 a1).f1) = ((rd_T87 l0 (wrap64 (a1 + 1))).f1) then (if ((rd_T87 l0 a1).f2) = ((rd_T87 l0 (wrap64 (a1 + 1))).f2) then ((some (([] : List (S87)) : List (S87))).bind fun y181 => (if y181.length + l0.length < 1599289640401 then ((some (y181 ++ l0 : List (S87))).bind fun y184 => (if a1 < (y184.length : Int) then (if (wrap64 (a1 + 1)) < (y184.length : Int) then (some (0, ((y184.set (a1 : Int).toNat (⟨(⟨(⟨(rd_T87 l0 (wrap64 (a1 + 1))).f0.f0.f0, (rd_T87 l0 (wrap64 (a1 + 1))).f0.f0.f1⟩ : S63), (⟨(rd_T87 l0 (wrap64 (a1 + 1))).f0.f1.f0, (rd_T87 l0 (wrap64 (a1 + 1))).f0.f1.f1⟩ : S63), (⟨(rd_T87 l0 (wrap64 (a1 + 1))).f0.f2.f0, (rd_T87 l0 (wrap64 (a1 + 1))).f0.f2.f1⟩ : S63), (⟨(rd_T87 l0 (wrap64 (a1 + 1))).f0.f3.f0, (rd_T87 l0 (wrap64 (a1 + 1))).f0.f3.f1⟩ : S63), (rd_T87 l0 (wrap64 (a1 + 1))).f0.f4⟩ : S65), (rd_T87 l0 (wrap64 (a1 + 1))).f1, (rd_T87 l0 (wrap64 (a1 + 1))).f2⟩ : S87)).set ((wrap64 (a1 + 1)) : Int).toNat (⟨(⟨(⟨(rd_T87 l0 a1).f0.f0.f0, (rd_T87 l0 a1).f0.f0.f1⟩ : S63), (⟨(rd_T87 l0 a1).f0.f1.f0, (rd_T87 l0 a1).f0.f1.f1⟩ : S63), (⟨(rd_T87 l0 a1).f0.f2.f0, (rd_T87 l0 a1).f0.f2.f1⟩ : S63), (⟨(rd_T87 l0 a1).f0.f3.f0, (rd_T87 l0 a1).f0.f3.f1⟩ : S63), (rd_T87 l0 a1).f0.f4⟩ : S65), (rd_T87 l0 a1).f1, (rd_T87 l0 a1).f2⟩ : S87)))) else (none)) else (none))) else (none))) else (some (1, ([] : List (S87))))) else (some (1, ([] : List (S87))))) else ((some (([] : List (S87)) : List (S87))).bind fun y189 => (if y189.length + l0.length < 1599289640401 then ((some (y189 ++ l0 : List (S87))).bind fun y192 => (if a1 < (y192.length : Int) then (if (wrap64 (a1 + 1)) < (y192.length : Int) then (some (0, ((y192.set (a1 : Int).toNat (⟨(⟨(⟨(rd_T87 l0 (wrap64 (a1 + 1))).f0.f0.f0, (rd_T87 l0 (wrap64 (a1 + 1))).f0.f0.f1⟩ : S63), (⟨(rd_T87 l0 (wrap64 (a1 + 1))).f0.f1.f0, (rd_T87 l0 (wrap64 (a1 + 1))).f0.f1.f1⟩ : S63), (⟨(rd_T87 l0 (wrap64 (a1 + 1))).f0.f2.f0, (rd_T87 l0 (wrap64 (a1 + 1))).f0.f2.f1⟩ : S63), (⟨(rd_T87 l0 (wrap64 (a1 + 1))).f0.f3.f0, (rd_T87 l0 (wrap64 (a1 + 1))).f0.f3.f1⟩ : S63), (rd_T87 l0 (wrap64 (a1 + 1))).f0.f4⟩ : S65), (rd_T87 l0 (wrap64 (a1 + 1))).f1, (rd_T87 l0 (wrap64 (a1 + 1))).f2⟩ : S87)).set ((wrap64 (a1 + 1)) : Int).toNat (⟨(⟨(⟨(rd_T87 l0 a1).f0.f0.f0, (rd_T87 l0 a1).f0.f0.f1⟩ : S63), (⟨(rd_T87 l0 a1).f0.f1.f0, (rd_T87 l0 a1).f0.f1.f1⟩ : S63), (⟨(rd_T87 l0 a1).f0.f2.f0, (rd_T87 l0 a1).f0.f2.f1⟩ : S63), (⟨(rd_T87 l0 a1).f0.f3.f0, (rd_T87 l0 a1).f0.f3.f1⟩ : S63), (rd_T87 l0 a1).f0.f4⟩ : S65), (rd_T87 l0 a1).f1, (rd_T87 l0 a1).f2⟩ : S87)))) else (none)) else (none))) else (none))))) else (none)) else (none)) else (none)) else (none)) else (some (3, ([] : List (S87)))))) else (some (t165, ([] : List (S87)))))
theorem spec_SwapRules.mono : ∀ a0 a1 k, LeO (spec_SwapRules.f k a0 a1) (spec_SwapRules.f (k + 1) a0 a1) := by
 intro a0 a1 k
 unfold spec_SwapRules.f
 repeat' first
   | (with_reducible exact spec_MeetSels.mono _ _ _ _ _ _ _ _ _ _ _ _ _ _ _ _ _ _ _)
   | (with_reducible exact spec_PolicyFault.mono _ _)
   | (with_reducible exact LeO.refl _)
   | (with_reducible exact LeO.none _)
   | (with_reducible refine LeO.ite ?_ ?_)
   | (with_reducible refine LeO.bind ?_ (fun _ => ?_))
   | exact spec_MeetSels.mono _ _ _ _ _ _ _ _ _ _ _ _ _ _ _ _ _ _ _
   | exact spec_PolicyFault.mono _ _
   | exact LeO.none _
   | refine LeO.ite ?_ ?_
   | refine LeO.bind ?_ (fun _ => ?_)
attribute [local go_sem] Instr.field asAgg in
set_option maxHeartbeats 4000000 in
set_option maxRecDepth 100000 in
theorem spec_SwapRules.calls (k : Nat) (A0 : Option Addr) (c0 : Nat) (l0 : List (S87)) (a1 : Int) (r1 : Int) (r2 : List (S87)) (w : World) (hr0 : Kd.C k87 w A0 l0.length l0) (hc0 : l0.length ≤ c0) (h : spec_SwapRules.f k l0 a1 = some (r1, r2)) :
  Calls Try.prog 35 #[.slice A0 l0.length c0, .int .i64 a1] w fun e w' => ∃ v1_ : Value, e = .returned (.agg #[.int .i64 r1, v1_]) ∧ Kd.R k87 87 w' w.heap.size (fun _ => True) v1_ r2 ∧ Below w.heap.size w w' := by
-- FIELD
  have hu54 := Try.underlying54
  have hu87 := Try.underlying87
  have hu65 := Try.underlying65
  have hu52 := Try.underlying52
  have hm0 : l0.length ≤ 9223372036854775807 := hr0.2.1
  have HR0 := Aside0.mk hr0
  have HC0 := Aside0.mk hc0
  have D := Aside0.mk (CS.startB w)
  have H := h
  clear hr0 hc0 h
  unfold spec_SwapRules.f at H
  obtain ⟨b1, hb1⟩ : ∃ b, wrap64 (a1 + 1) = b := ⟨_, rfl⟩
  have hw2 : wrap64 ((l0.length : Int) - 2) = (l0.length : Int) - 2 := by
    unfold wrap64
    omega
  simp only [hb1, hw2] at H
  clear hw2
  have H1 := bindS (x := spec_PolicyFault.f _ _) H
  clear H
  obtain ⟨_, _, H⟩ := H1
  have H1 := ifE H
  clear H
  rcases H1 with ⟨_, _, H⟩ | ⟨_, _, H⟩
  · have H1 := bindS (x := spec_l1In.f _ _ _) H
    clear H
    obtain ⟨_, _, H⟩ := H1
    have H1 := ifB H
    clear H
    rcases H1 with ⟨rfl, H⟩ | ⟨rfl, H⟩

    · have H1 := ifD H
      clear H
      rcases H1 with ⟨h1, H⟩ | ⟨_, H⟩
      rotate_left
      · exact noneE H
      have p1 := of_decide_eq_true h1
      have t1 := eq_true p1
      clear h1
      have H1 := ifD H
      clear H
      rcases H1 with ⟨h2, H⟩ | ⟨_, H⟩
      rotate_left
      · exact noneE H
      have p2 := of_decide_eq_true h2
      have t2 := eq_true p2
      clear h2
      have hb2 : b1 = a1 + 1 := by
        rw [← hb1]
        unfold wrap64
        omega
      clear hb1
      subst hb2
      have H1 := ifD H
      clear H
      rcases H1 with ⟨h3, H⟩ | ⟨_, H⟩
      rotate_left
      · exact noneE H
      have p3 := of_decide_eq_true h3
      have t3 := eq_true p3
      clear h3
      have H1 := ifD H
      clear H
      rcases H1 with ⟨h4, H⟩ | ⟨_, H⟩
      rotate_left
      · exact noneE H
      have p4 := of_decide_eq_true h4
      have t4 := eq_true p4
      clear h4
      have h0l : 0 < l0.length := by omega
      have H1 := bindS (x := spec_MeetSels.f _ _ _ _ _ _ _ _ _ _ _ _ _ _ _ _ _ _ _) H
      clear H
      obtain ⟨⟨mc, _, _, _, _, _, _, _, _, _⟩, _, H⟩ := H1
      dsimp only at H
      obtain ⟨ad, eA, hx0, hx1, hx2, hx3, hx4, hx5, hx6, hx7, hx8, hx9, hx10⟩ := at_T87 HR0.out a1 p1 p2
      subst eA
      have GA : ∀ W', Below w.heap.size w W' → W'.cell? (ad.add (a1.toNat * 11)) = some (.int .i64 (rd_T87 l0 a1).f0.f0.f0) ∧ W'.cell? ⟨(ad.add (a1.toNat * 11)).block, (ad.add (a1.toNat * 11)).off + 1, none⟩ = some (.int .i64 (rd_T87 l0 a1).f0.f0.f1) ∧ W'.cell? ⟨(ad.add (a1.toNat * 11)).block, (ad.add (a1.toNat * 11)).off + 2, none⟩ = some (.int .i64 (rd_T87 l0 a1).f0.f1.f0) ∧ W'.cell? ⟨(ad.add (a1.toNat * 11)).block, (ad.add (a1.toNat * 11)).off + 3, none⟩ = some (.int .i64 (rd_T87 l0 a1).f0.f1.f1) ∧ W'.cell? ⟨(ad.add (a1.toNat * 11)).block, (ad.add (a1.toNat * 11)).off + 4, none⟩ = some (.int .i64 (rd_T87 l0 a1).f0.f2.f0) ∧ W'.cell? ⟨(ad.add (a1.toNat * 11)).block, (ad.add (a1.toNat * 11)).off + 5, none⟩ = some (.int .i64 (rd_T87 l0 a1).f0.f2.f1) ∧ W'.cell? ⟨(ad.add (a1.toNat * 11)).block, (ad.add (a1.toNat * 11)).off + 6, none⟩ = some (.int .i64 (rd_T87 l0 a1).f0.f3.f0) ∧ W'.cell? ⟨(ad.add (a1.toNat * 11)).block, (ad.add (a1.toNat * 11)).off + 7, none⟩ = some (.int .i64 (rd_T87 l0 a1).f0.f3.f1) ∧ W'.cell? ⟨(ad.add (a1.toNat * 11)).block, (ad.add (a1.toNat * 11)).off + 8, none⟩ = some (.int .i64 (rd_T87 l0 a1).f0.f4) ∧ W'.cell? ⟨(ad.add (a1.toNat * 11)).block, (ad.add (a1.toNat * 11)).off + 9, none⟩ = some (.int .i64 (rd_T87 l0 a1).f1) ∧ W'.cell? ⟨(ad.add (a1.toNat * 11)).block, (ad.add (a1.toNat * 11)).off + 10, none⟩ = some (.int .i64 (rd_T87 l0 a1).f2) := fun W' h => ⟨(h.cell (World.block_lt_of_cell? w _ hx0)).trans hx0, (h.cell (World.block_lt_of_cell? w _ hx1)).trans hx1, (h.cell (World.block_lt_of_cell? w _ hx2)).trans hx2, (h.cell (World.block_lt_of_cell? w _ hx3)).trans hx3, (h.cell (World.block_lt_of_cell? w _ hx4)).trans hx4, (h.cell (World.block_lt_of_cell? w _ hx5)).trans hx5, (h.cell (World.block_lt_of_cell? w _ hx6)).trans hx6, (h.cell (World.block_lt_of_cell? w _ hx7)).trans hx7, (h.cell (World.block_lt_of_cell? w _ hx8)).trans hx8, (h.cell (World.block_lt_of_cell? w _ hx9)).trans hx9, (h.cell (World.block_lt_of_cell? w _ hx10)).trans hx10⟩
      clear hx0 hx1 hx2 hx3 hx4 hx5 hx6 hx7 hx8 hx9 hx10
      obtain ⟨ad2, eA, hx0, hx1, hx2, hx3, hx4, hx5, hx6, hx7, hx8, hx9, hx10⟩ := at_T87 HR0.out (a1 + 1) p3 p4
      obtain rfl := Option.some.inj eA
      have GB : ∀ W', Below w.heap.size w W' → W'.cell? (ad.add ((a1 + 1).toNat * 11)) = some (.int .i64 (rd_T87 l0 (a1 + 1)).f0.f0.f0) ∧ W'.cell? ⟨(ad.add ((a1 + 1).toNat * 11)).block, (ad.add ((a1 + 1).toNat * 11)).off + 1, none⟩ = some (.int .i64 (rd_T87 l0 (a1 + 1)).f0.f0.f1) ∧ W'.cell? ⟨(ad.add ((a1 + 1).toNat * 11)).block, (ad.add ((a1 + 1).toNat * 11)).off + 2, none⟩ = some (.int .i64 (rd_T87 l0 (a1 + 1)).f0.f1.f0) ∧ W'.cell? ⟨(ad.add ((a1 + 1).toNat * 11)).block, (ad.add ((a1 + 1).toNat * 11)).off + 3, none⟩ = some (.int .i64 (rd_T87 l0 (a1 + 1)).f0.f1.f1) ∧ W'.cell? ⟨(ad.add ((a1 + 1).toNat * 11)).block, (ad.add ((a1 + 1).toNat * 11)).off + 4, none⟩ = some (.int .i64 (rd_T87 l0 (a1 + 1)).f0.f2.f0) ∧ W'.cell? ⟨(ad.add ((a1 + 1).toNat * 11)).block, (ad.add ((a1 + 1).toNat * 11)).off + 5, none⟩ = some (.int .i64 (rd_T87 l0 (a1 + 1)).f0.f2.f1) ∧ W'.cell? ⟨(ad.add ((a1 + 1).toNat * 11)).block, (ad.add ((a1 + 1).toNat * 11)).off + 6, none⟩ = some (.int .i64 (rd_T87 l0 (a1 + 1)).f0.f3.f0) ∧ W'.cell? ⟨(ad.add ((a1 + 1).toNat * 11)).block, (ad.add ((a1 + 1).toNat * 11)).off + 7, none⟩ = some (.int .i64 (rd_T87 l0 (a1 + 1)).f0.f3.f1) ∧ W'.cell? ⟨(ad.add ((a1 + 1).toNat * 11)).block, (ad.add ((a1 + 1).toNat * 11)).off + 8, none⟩ = some (.int .i64 (rd_T87 l0 (a1 + 1)).f0.f4) ∧ W'.cell? ⟨(ad.add ((a1 + 1).toNat * 11)).block, (ad.add ((a1 + 1).toNat * 11)).off + 9, none⟩ = some (.int .i64 (rd_T87 l0 (a1 + 1)).f1) ∧ W'.cell? ⟨(ad.add ((a1 + 1).toNat * 11)).block, (ad.add ((a1 + 1).toNat * 11)).off + 10, none⟩ = some (.int .i64 (rd_T87 l0 (a1 + 1)).f2) := fun W' h => ⟨(h.cell (World.block_lt_of_cell? w _ hx0)).trans hx0, (h.cell (World.block_lt_of_cell? w _ hx1)).trans hx1, (h.cell (World.block_lt_of_cell? w _ hx2)).trans hx2, (h.cell (World.block_lt_of_cell? w _ hx3)).trans hx3, (h.cell (World.block_lt_of_cell? w _ hx4)).trans hx4, (h.cell (World.block_lt_of_cell? w _ hx5)).trans hx5, (h.cell (World.block_lt_of_cell? w _ hx6)).trans hx6, (h.cell (World.block_lt_of_cell? w _ hx7)).trans hx7, (h.cell (World.block_lt_of_cell? w _ hx8)).trans hx8, (h.cell (World.block_lt_of_cell? w _ hx9)).trans hx9, (h.cell (World.block_lt_of_cell? w _ hx10)).trans hx10⟩
      clear hx0 hx1 hx2 hx3 hx4 hx5 hx6 hx7 hx8 hx9 hx10 eA
      have hG : (((mc == 0) = false ∧ (mc != 0) = true ∨ ((mc == 0) = true ∧ (mc != 0) = false ∧ ((rd_T87 l0 a1).f1 == (rd_T87 l0 (a1 + 1)).f1) = true ∧ ((rd_T87 l0 a1).f1 != (rd_T87 l0 (a1 + 1)).f1) = false ∧ ((rd_T87 l0 a1).f2 == (rd_T87 l0 (a1 + 1)).f2) = true ∧ ((rd_T87 l0 a1).f2 != (rd_T87 l0 (a1 + 1)).f2) = false)) ∧ ((l0.length < 1599289640401) ∧ some ((0 : Int), (l0.set a1.toNat (rd_T87 l0 (a1 + 1))).set (a1 + 1).toNat (rd_T87 l0 a1)) = some (r1, r2))) ∨ (((mc == 0) = true ∧ (mc != 0) = false ∧ ((rd_T87 l0 a1).f1 == (rd_T87 l0 (a1 + 1)).f1) = false ∧ ((rd_T87 l0 a1).f1 != (rd_T87 l0 (a1 + 1)).f1) = true ∨ (mc == 0) = true ∧ (mc != 0) = false ∧ ((rd_T87 l0 a1).f1 == (rd_T87 l0 (a1 + 1)).f1) = true ∧ ((rd_T87 l0 a1).f1 != (rd_T87 l0 (a1 + 1)).f1) = false ∧ ((rd_T87 l0 a1).f2 == (rd_T87 l0 (a1 + 1)).f2) = false ∧ ((rd_T87 l0 a1).f2 != (rd_T87 l0 (a1 + 1)).f2) = true) ∧ some ((1 : Int), ([] : List S87)) = some (r1, r2)) := by
        simp only [Option.bind_some, List.nil_append, List.length_nil, Nat.zero_add, p2, p4, if_true] at H
        rcases ifE H with ⟨g1, g2, H⟩ | ⟨g1, g2, H⟩
        · rcases ifE H with ⟨g3, g4, H⟩ | ⟨g3, g4, H⟩
          · rcases ifE H with ⟨g5, g6, H⟩ | ⟨g5, g6, H⟩
            · rcases ifD H with ⟨g7, H⟩ | ⟨g7, H⟩
              · exact .inl ⟨.inr ⟨g1, g2, g3, g4, g5, g6⟩, of_decide_eq_true g7, H⟩
              · exact noneE H
            · exact .inr ⟨.inr ⟨g1, g2, g3, g4, g5, g6⟩, H⟩
          · exact .inr ⟨.inl ⟨g1, g2, g3, g4⟩, H⟩
        · rcases ifD H with ⟨g7, H⟩ | ⟨g7, H⟩
          · exact .inl ⟨.inl ⟨g1, g2⟩, of_decide_eq_true g7, H⟩
          · exact noneE H
      clear H
      rcases hG with ⟨hW, hl, H⟩ | ⟨hW, H⟩
      · simp only [Option.some.injEq, Prod.mk.injEq] at H
        obtain ⟨rfl, rfl⟩ := H
        rcases hW with ⟨_, _⟩ | ⟨_, _, _, _, _, _⟩
        all_goals
          go_enter Try.func35, Try.ntmps35
          go_wp2_with (first
            | ((with_reducible refine gate_st (p := 59) rfl ?_); refine ev_rowst k87 a1 (rd_T87 l0 (a1 + 1)) [.int .i64 (rd_T87 l0 (a1 + 1)).f0.f0.f0, .int .i64 (rd_T87 l0 (a1 + 1)).f0.f0.f1, .int .i64 (rd_T87 l0 (a1 + 1)).f0.f1.f0, .int .i64 (rd_T87 l0 (a1 + 1)).f0.f1.f1, .int .i64 (rd_T87 l0 (a1 + 1)).f0.f2.f0, .int .i64 (rd_T87 l0 (a1 + 1)).f0.f2.f1, .int .i64 (rd_T87 l0 (a1 + 1)).f0.f3.f0, .int .i64 (rd_T87 l0 (a1 + 1)).f0.f3.f1, .int .i64 (rd_T87 l0 (a1 + 1)).f0.f4, .int .i64 (rd_T87 l0 (a1 + 1)).f1, .int .i64 (rd_T87 l0 (a1 + 1)).f2] z87 ?_ D.out p1 p2 (fun W => k87_mkM W _ _ _) (by intro q hq; simp only [List.mem_cons, List.not_mem_nil, or_false] at hq; (repeat' rcases hq with rfl | hq) <;> first | rfl | (subst hq; rfl)); intro w1 hD; clear D; have D := Aside0.mk hD; clear hD; (try clear q0 f0); (try clear q1 f1); (try clear q2 f2); (try clear q3 f3); (try (have q0 := D.out.c 0 rfl; have f0 := D.out.f 0 rfl)); (try (have q1 := D.out.c 1 rfl; have f1 := D.out.f 1 rfl)); (try (have q2 := D.out.c 2 rfl; have f2 := D.out.f 2 rfl)); (try (have q3 := D.out.c 3 rfl; have f3 := D.out.f 3 rfl)))
            | ((with_reducible refine gate_st (p := 64) rfl ?_); refine ev_rowst k87 (a1 + 1) (rd_T87 l0 a1) [.int .i64 (rd_T87 l0 a1).f0.f0.f0, .int .i64 (rd_T87 l0 a1).f0.f0.f1, .int .i64 (rd_T87 l0 a1).f0.f1.f0, .int .i64 (rd_T87 l0 a1).f0.f1.f1, .int .i64 (rd_T87 l0 a1).f0.f2.f0, .int .i64 (rd_T87 l0 a1).f0.f2.f1, .int .i64 (rd_T87 l0 a1).f0.f3.f0, .int .i64 (rd_T87 l0 a1).f0.f3.f1, .int .i64 (rd_T87 l0 a1).f0.f4, .int .i64 (rd_T87 l0 a1).f1, .int .i64 (rd_T87 l0 a1).f2] z87 ?_ D.out p3 (by rw [List.length_set]; exact p4) (fun W => k87_mkM W _ _ _) (by intro q hq; simp only [List.mem_cons, List.not_mem_nil, or_false] at hq; (repeat' rcases hq with rfl | hq) <;> first | rfl | (subst hq; rfl)); intro w1 hD; clear D; have D := Aside0.mk hD; clear hD; (try clear q0 f0); (try clear q1 f1); (try clear q2 f2); (try clear q3 f3); (try (have q0 := D.out.c 0 rfl; have f0 := D.out.f 0 rfl)); (try (have q1 := D.out.c 1 rfl; have f1 := D.out.f 1 rfl)); (try (have q2 := D.out.c 2 rfl; have f2 := D.out.f 2 rfl)); (try (have q3 := D.out.c 3 rfl; have f3 := D.out.f 3 rfl)))
            | ((with_reducible refine gate_al rfl ?_); refine ev_box ?_; intro _ _ hD; clear D; have D := Aside0.mk hD; clear hD; (try clear q0 f0); (try clear q1 f1); (try clear q2 f2); (try clear q3 f3); (try (have q0 := D.out.c 0 rfl; have f0 := D.out.f 0 rfl)); (try (have q1 := D.out.c 1 rfl; have f1 := D.out.f 1 rfl)); (try (have q2 := D.out.c 2 rfl; have f2 := D.out.f 2 rfl)); (try (have q3 := D.out.c 3 rfl; have f3 := D.out.f 3 rfl)); (try clear y0 y1 y2 y3 y4 y5 y6 y7 y8 y9 y10); obtain ⟨y0, y1, y2, y3, y4, y5, y6, y7, y8, y9, y10⟩ := GA _ D.out.bel; (try clear z0 z1 z2 z3 z4 z5 z6 z7 z8 z9 z10); obtain ⟨z0, z1, z2, z3, z4, z5, z6, z7, z8, z9, z10⟩ := GB _ D.out.bel)
            | ((with_reducible refine gate_st rfl ?_); refine ev_store ?_; intro w1 hD; clear D; simp only [List.set_cons_zero, List.set_cons_succ, List.setIfInBounds_toArray] at hD; have D := Aside0.mk hD; clear hD; (try clear q0 f0); (try clear q1 f1); (try clear q2 f2); (try clear q3 f3); (try (have q0 := D.out.c 0 rfl; have f0 := D.out.f 0 rfl)); (try (have q1 := D.out.c 1 rfl; have f1 := D.out.f 1 rfl)); (try (have q2 := D.out.c 2 rfl; have f2 := D.out.f 2 rfl)); (try (have q3 := D.out.c 3 rfl; have f3 := D.out.f 3 rfl)); (try clear y0 y1 y2 y3 y4 y5 y6 y7 y8 y9 y10); obtain ⟨y0, y1, y2, y3, y4, y5, y6, y7, y8, y9, y10⟩ := GA _ D.out.bel; (try clear z0 z1 z2 z3 z4 z5 z6 z7 z8 z9 z10); obtain ⟨z0, z1, z2, z3, z4, z5, z6, z7, z8, z9, z10⟩ := GB _ D.out.bel)
            | (go_at_call 89; with_reducible refine Calls.mono (CS.via D.out (spec_PolicyFault.calls _ _ _ _ _ _ (Kd.C_below HR0.out D.out.bel) HC0.out (Aside0.out (by with_reducible assumption)))) ?_; rintro e w1 ⟨rfl, hD⟩; clear D; have D := Aside0.mk hD; clear hD; (try clear q0 f0); (try clear q1 f1); (try clear q2 f2); (try clear q3 f3); (try (have q0 := D.out.c 0 rfl; have f0 := D.out.f 0 rfl)); (try (have q1 := D.out.c 1 rfl; have f1 := D.out.f 1 rfl)); (try (have q2 := D.out.c 2 rfl; have f2 := D.out.f 2 rfl)); (try (have q3 := D.out.c 3 rfl; have f3 := D.out.f 3 rfl)))
            | (go_at_call 90; with_reducible refine Calls.mono (CS.viaQ D.out (spec_l1In.calls _ _ _ _ _ (Aside0.out (by with_reducible assumption)))) ?_; rintro e w1 ⟨rfl, hD⟩; clear D; have D := Aside0.mk hD; clear hD; (try clear q0 f0); (try clear q1 f1); (try clear q2 f2); (try clear q3 f3); (try (have q0 := D.out.c 0 rfl; have f0 := D.out.f 0 rfl)); (try (have q1 := D.out.c 1 rfl; have f1 := D.out.f 1 rfl)); (try (have q2 := D.out.c 2 rfl; have f2 := D.out.f 2 rfl)); (try (have q3 := D.out.c 3 rfl; have f3 := D.out.f 3 rfl)); (try clear y0 y1 y2 y3 y4 y5 y6 y7 y8 y9 y10); obtain ⟨y0, y1, y2, y3, y4, y5, y6, y7, y8, y9, y10⟩ := GA _ D.out.bel; (try clear z0 z1 z2 z3 z4 z5 z6 z7 z8 z9 z10); obtain ⟨z0, z1, z2, z3, z4, z5, z6, z7, z8, z9, z10⟩ := GB _ D.out.bel)
            | (go_at_call 53; with_reducible refine Calls.mono (CS.via D.out (spec_MeetSels.calls _ _ _ _ _ _ _ _ _ _ _ _ _ _ _ _ _ _ _ _ _ _ _ _ _ _ _ _ _ _ (Aside0.out (by with_reducible assumption)))) ?_; rintro e w1 ⟨rfl, hD⟩; clear D; have D := Aside0.mk hD; clear hD; (try clear q0 f0); (try clear q1 f1); (try clear q2 f2); (try clear q3 f3); (try (have q0 := D.out.c 0 rfl; have f0 := D.out.f 0 rfl)); (try (have q1 := D.out.c 1 rfl; have f1 := D.out.f 1 rfl)); (try (have q2 := D.out.c 2 rfl; have f2 := D.out.f 2 rfl)); (try (have q3 := D.out.c 3 rfl; have f3 := D.out.f 3 rfl)))
            | ((with_reducible refine gate_lit (t := 52) rfl ?_); refine ev_row0 k87 87 ?_ D.out; intro AR cR w1 hD; clear D; have D := Aside0.mk hD; clear hD; (try clear q0 f0); (try clear q1 f1); (try clear q2 f2); (try clear q3 f3); (try (have q0 := D.out.c 0 rfl; have f0 := D.out.f 0 rfl)); (try (have q1 := D.out.c 1 rfl; have f1 := D.out.f 1 rfl)); (try (have q2 := D.out.c 2 rfl; have f2 := D.out.f 2 rfl)); (try (have q3 := D.out.c 3 rfl; have f3 := D.out.f 3 rfl)))
            | ((with_reducible refine gate_ap (ts := #[52, 52]) rfl ?_); refine ev_appends k87 52 87 (.agg #[.int .i64 0, .int .i64 0, .int .i64 0, .int .i64 0, .int .i64 0, .int .i64 0, .int .i64 0, .int .i64 0, .int .i64 0, .int .i64 0, .int .i64 0]) 88 (.tmp 53) (.tmp 54) (xs := []) (ys := l0) ?_ (by simp only [List.length_nil]; omega) D.out (Kd.C_below HR0.out D.out.bel) (fun _ _ h => h); intro A1 c1 w1 hD; rw [List.nil_append] at hD; rw [List.nil_append]; obtain ⟨gb, rfl⟩ := CS.form hD h0l; clear D; have D := Aside0.mk hD; clear hD; (try clear q0 f0); (try clear q1 f1); (try clear q2 f2); (try clear q3 f3); (try (have q0 := D.out.c 0 rfl; have f0 := D.out.f 0 rfl)); (try (have q1 := D.out.c 1 rfl; have f1 := D.out.f 1 rfl)); (try (have q2 := D.out.c 2 rfl; have f2 := D.out.f 2 rfl)); (try (have q3 := D.out.c 3 rfl; have f3 := D.out.f 3 rfl))))
          refine bodyPost_ret (results_cell_row rfl _ _ _ 54 _ (0, 0) _ rfl (D.out.at_ 2 rfl) Try.underlying54 rfl (by kernel_rfl)) rfl ?_
          have hR := D.out.row 0 rfl
          simp only [List.length_set] at hR
          exact ⟨_, rfl, hR, D.out.bel⟩
      · simp only [Option.some.injEq, Prod.mk.injEq] at H
        obtain ⟨rfl, rfl⟩ := H
        rcases hW with ⟨_, _, _, _⟩ | ⟨_, _, _, _, _, _⟩
        all_goals
          go_enter Try.func35, Try.ntmps35
          go_wp2_with (first
            | ((with_reducible refine gate_al rfl ?_); refine ev_box ?_; intro _ _ hD; clear D; have D := Aside0.mk hD; clear hD; (try clear q0 f0); (try clear q1 f1); (try clear q2 f2); (try clear q3 f3); (try (have q0 := D.out.c 0 rfl; have f0 := D.out.f 0 rfl)); (try (have q1 := D.out.c 1 rfl; have f1 := D.out.f 1 rfl)); (try (have q2 := D.out.c 2 rfl; have f2 := D.out.f 2 rfl)); (try (have q3 := D.out.c 3 rfl; have f3 := D.out.f 3 rfl)); (try clear y0 y1 y2 y3 y4 y5 y6 y7 y8 y9 y10); obtain ⟨y0, y1, y2, y3, y4, y5, y6, y7, y8, y9, y10⟩ := GA _ D.out.bel; (try clear z0 z1 z2 z3 z4 z5 z6 z7 z8 z9 z10); obtain ⟨z0, z1, z2, z3, z4, z5, z6, z7, z8, z9, z10⟩ := GB _ D.out.bel)
            | ((with_reducible refine gate_st rfl ?_); refine ev_store ?_; intro w1 hD; clear D; simp only [List.set_cons_zero, List.set_cons_succ, List.setIfInBounds_toArray] at hD; have D := Aside0.mk hD; clear hD; (try clear q0 f0); (try clear q1 f1); (try clear q2 f2); (try clear q3 f3); (try (have q0 := D.out.c 0 rfl; have f0 := D.out.f 0 rfl)); (try (have q1 := D.out.c 1 rfl; have f1 := D.out.f 1 rfl)); (try (have q2 := D.out.c 2 rfl; have f2 := D.out.f 2 rfl)); (try (have q3 := D.out.c 3 rfl; have f3 := D.out.f 3 rfl)); (try clear y0 y1 y2 y3 y4 y5 y6 y7 y8 y9 y10); obtain ⟨y0, y1, y2, y3, y4, y5, y6, y7, y8, y9, y10⟩ := GA _ D.out.bel; (try clear z0 z1 z2 z3 z4 z5 z6 z7 z8 z9 z10); obtain ⟨z0, z1, z2, z3, z4, z5, z6, z7, z8, z9, z10⟩ := GB _ D.out.bel)
            | (go_at_call 89; with_reducible refine Calls.mono (CS.via D.out (spec_PolicyFault.calls _ _ _ _ _ _ (Kd.C_below HR0.out D.out.bel) HC0.out (Aside0.out (by with_reducible assumption)))) ?_; rintro e w1 ⟨rfl, hD⟩; clear D; have D := Aside0.mk hD; clear hD; (try clear q0 f0); (try clear q1 f1); (try clear q2 f2); (try clear q3 f3); (try (have q0 := D.out.c 0 rfl; have f0 := D.out.f 0 rfl)); (try (have q1 := D.out.c 1 rfl; have f1 := D.out.f 1 rfl)); (try (have q2 := D.out.c 2 rfl; have f2 := D.out.f 2 rfl)); (try (have q3 := D.out.c 3 rfl; have f3 := D.out.f 3 rfl)))
            | (go_at_call 90; with_reducible refine Calls.mono (CS.viaQ D.out (spec_l1In.calls _ _ _ _ _ (Aside0.out (by with_reducible assumption)))) ?_; rintro e w1 ⟨rfl, hD⟩; clear D; have D := Aside0.mk hD; clear hD; (try clear q0 f0); (try clear q1 f1); (try clear q2 f2); (try clear q3 f3); (try (have q0 := D.out.c 0 rfl; have f0 := D.out.f 0 rfl)); (try (have q1 := D.out.c 1 rfl; have f1 := D.out.f 1 rfl)); (try (have q2 := D.out.c 2 rfl; have f2 := D.out.f 2 rfl)); (try (have q3 := D.out.c 3 rfl; have f3 := D.out.f 3 rfl)); (try clear y0 y1 y2 y3 y4 y5 y6 y7 y8 y9 y10); obtain ⟨y0, y1, y2, y3, y4, y5, y6, y7, y8, y9, y10⟩ := GA _ D.out.bel; (try clear z0 z1 z2 z3 z4 z5 z6 z7 z8 z9 z10); obtain ⟨z0, z1, z2, z3, z4, z5, z6, z7, z8, z9, z10⟩ := GB _ D.out.bel)
            | (go_at_call 53; with_reducible refine Calls.mono (CS.via D.out (spec_MeetSels.calls _ _ _ _ _ _ _ _ _ _ _ _ _ _ _ _ _ _ _ _ _ _ _ _ _ _ _ _ _ _ (Aside0.out (by with_reducible assumption)))) ?_; rintro e w1 ⟨rfl, hD⟩; clear D; have D := Aside0.mk hD; clear hD; (try clear q0 f0); (try clear q1 f1); (try clear q2 f2); (try clear q3 f3); (try (have q0 := D.out.c 0 rfl; have f0 := D.out.f 0 rfl)); (try (have q1 := D.out.c 1 rfl; have f1 := D.out.f 1 rfl)); (try (have q2 := D.out.c 2 rfl; have f2 := D.out.f 2 rfl)); (try (have q3 := D.out.c 3 rfl; have f3 := D.out.f 3 rfl))))
          refine bodyPost_ret (results_cell_row rfl _ _ _ 54 _ (0, 0) _ rfl (D.out.at_ 2 rfl) Try.underlying54 rfl (by kernel_rfl)) rfl ?_
          exact ⟨_, rfl, Kd.R_nil _ _ _ _ _, D.out.bel⟩
    · simp only [Option.some.injEq, Prod.mk.injEq] at H
      obtain ⟨rfl, rfl⟩ := H
      go_enter Try.func35, Try.ntmps35
      go_wp2_with (first
        | ((with_reducible refine gate_al rfl ?_); refine ev_box ?_; intro _ _ hD; clear D; have D := Aside0.mk hD; clear hD; (try clear q0 f0); (try clear q1 f1); (try clear q2 f2); (try clear q3 f3); (try (have q0 := D.out.c 0 rfl; have f0 := D.out.f 0 rfl)); (try (have q1 := D.out.c 1 rfl; have f1 := D.out.f 1 rfl)); (try (have q2 := D.out.c 2 rfl; have f2 := D.out.f 2 rfl)); (try (have q3 := D.out.c 3 rfl; have f3 := D.out.f 3 rfl)))
        | ((with_reducible refine gate_st rfl ?_); refine ev_store ?_; intro w1 hD; clear D; simp only [List.set_cons_zero, List.set_cons_succ, List.setIfInBounds_toArray] at hD; have D := Aside0.mk hD; clear hD; (try clear q0 f0); (try clear q1 f1); (try clear q2 f2); (try clear q3 f3); (try (have q0 := D.out.c 0 rfl; have f0 := D.out.f 0 rfl)); (try (have q1 := D.out.c 1 rfl; have f1 := D.out.f 1 rfl)); (try (have q2 := D.out.c 2 rfl; have f2 := D.out.f 2 rfl)); (try (have q3 := D.out.c 3 rfl; have f3 := D.out.f 3 rfl)))
        | (go_at_call 89; with_reducible refine Calls.mono (CS.via D.out (spec_PolicyFault.calls _ _ _ _ _ _ (Kd.C_below HR0.out D.out.bel) HC0.out (Aside0.out (by with_reducible assumption)))) ?_; rintro e w1 ⟨rfl, hD⟩; clear D; have D := Aside0.mk hD; clear hD; (try clear q0 f0); (try clear q1 f1); (try clear q2 f2); (try clear q3 f3); (try (have q0 := D.out.c 0 rfl; have f0 := D.out.f 0 rfl)); (try (have q1 := D.out.c 1 rfl; have f1 := D.out.f 1 rfl)); (try (have q2 := D.out.c 2 rfl; have f2 := D.out.f 2 rfl)); (try (have q3 := D.out.c 3 rfl; have f3 := D.out.f 3 rfl)))
        | (go_at_call 90; with_reducible refine Calls.mono (CS.viaQ D.out (spec_l1In.calls _ _ _ _ _ (Aside0.out (by with_reducible assumption)))) ?_; rintro e w1 ⟨rfl, hD⟩; clear D; have D := Aside0.mk hD; clear hD; (try clear q0 f0); (try clear q1 f1); (try clear q2 f2); (try clear q3 f3); (try (have q0 := D.out.c 0 rfl; have f0 := D.out.f 0 rfl)); (try (have q1 := D.out.c 1 rfl; have f1 := D.out.f 1 rfl)); (try (have q2 := D.out.c 2 rfl; have f2 := D.out.f 2 rfl)); (try (have q3 := D.out.c 3 rfl; have f3 := D.out.f 3 rfl))))
      refine bodyPost_ret (results_cell_row rfl _ _ _ 54 _ (0, 0) _ rfl (D.out.at_ 0 rfl) Try.underlying54 rfl (by kernel_rfl)) rfl ?_
      exact ⟨_, rfl, Kd.R_nil _ _ _ _ _, D.out.bel⟩
  · simp only [Option.some.injEq, Prod.mk.injEq] at H
    obtain ⟨rfl, rfl⟩ := H
    go_enter Try.func35, Try.ntmps35
    go_wp2_with (first
      | ((with_reducible refine gate_al rfl ?_); refine ev_box ?_; intro _ _ hD; clear D; have D := Aside0.mk hD; clear hD; (try clear q0 f0); (try clear q1 f1); (try clear q2 f2); (try clear q3 f3); (try (have q0 := D.out.c 0 rfl; have f0 := D.out.f 0 rfl)); (try (have q1 := D.out.c 1 rfl; have f1 := D.out.f 1 rfl)); (try (have q2 := D.out.c 2 rfl; have f2 := D.out.f 2 rfl)); (try (have q3 := D.out.c 3 rfl; have f3 := D.out.f 3 rfl)))
      | ((with_reducible refine gate_st rfl ?_); refine ev_store ?_; intro w1 hD; clear D; simp only [List.set_cons_zero, List.set_cons_succ, List.setIfInBounds_toArray] at hD; have D := Aside0.mk hD; clear hD; (try clear q0 f0); (try clear q1 f1); (try clear q2 f2); (try clear q3 f3); (try (have q0 := D.out.c 0 rfl; have f0 := D.out.f 0 rfl)); (try (have q1 := D.out.c 1 rfl; have f1 := D.out.f 1 rfl)); (try (have q2 := D.out.c 2 rfl; have f2 := D.out.f 2 rfl)); (try (have q3 := D.out.c 3 rfl; have f3 := D.out.f 3 rfl)))
      | (go_at_call 89; with_reducible refine Calls.mono (CS.via D.out (spec_PolicyFault.calls _ _ _ _ _ _ (Kd.C_below HR0.out D.out.bel) HC0.out (Aside0.out (by with_reducible assumption)))) ?_; rintro e w1 ⟨rfl, hD⟩; clear D; have D := Aside0.mk hD; clear hD; (try clear q0 f0); (try clear q1 f1); (try clear q2 f2); (try clear q3 f3); (try (have q0 := D.out.c 0 rfl; have f0 := D.out.f 0 rfl)); (try (have q1 := D.out.c 1 rfl; have f1 := D.out.f 1 rfl)); (try (have q2 := D.out.c 2 rfl; have f2 := D.out.f 2 rfl)); (try (have q3 := D.out.c 3 rfl; have f3 := D.out.f 3 rfl))))
    refine bodyPost_ret (results_cell_row rfl _ _ _ 54 _ (0, 0) _ rfl (D.out.at_ 0 rfl) Try.underlying54 rfl (by kernel_rfl)) rfl ?_
    exact ⟨_, rfl, Kd.R_nil _ _ _ _ _, D.out.bel⟩

end Go.Proofs.Ytcelgjhhmkgnhaa.PFnTrims
