-- Written by wip/tools/myprint.py of this claim's session, over the kit's print, round texts of its own: own text.
import Derived.Test.YtbficbiignpnoaaDoorPFnExactTermTextx0
import Derived.Test.YtbficbiignpnoaaDoorPFnExactTermTextx2
import Derived.Test.YtbficbiignpnoaaDoorPFnExactTermTextx6
import Derived.Test.YtbficbiignpnoaaDoorPFnExactTermTextx7
namespace Go.Proofs.YtbficbiignpnoaaDoor.PFnExactTermText
open Go.RowKit Go.Proofs.YtbficbiignpnoaaDoorW.PrintWords Go.Proofs.YtbficbiignpnoaaDoorW.PrintLast Go.Proofs.YtbficbiignpnoaaDoorW.PrintMore
attribute [local go_sem] max2_int min2_int max_two min_two max_three min_three max_four min_four   -- for this text's walks alone
set_option linter.unusedVariables false
set_option linter.unusedSimpArgs false

/-! ### impl_TermsFault: function 55 (my own text) -/
def impl_TermsFault.l : List S66 → List S66 → Option Int
  | _, [] => some 0
  | seen, t :: ts => (impl_Term_fault.f t.f0 t.f1 t.f2 t.f3 seen).bind fun c => if c = 0 then (if okT t = true then (if seen.any (eqT t) = true then some 7 else impl_TermsFault.l (seen ++ [t]) ts) else none) else some c
def impl_TermsFault.f (l0 : List S66) : Option Int := if 400 < l0.length then some 2 else impl_TermsFault.l [] l0
theorem impl_TermsFault_many (A0 : Option Addr) (c0 : Nat) (l0 : List S66) (w : World) (hm : l0.length ≤ 9223372036854775807) (h : 400 < l0.length) :
    Calls Tryd.prog 55 #[.slice A0 l0.length c0] w fun e w' => e = .returned (.int .i64 2) ∧ Below w.heap.size w w' := by
  have hq : decide ((l0.length : Int) > 400) = true := decide_eq_true (by omega)
  clear h
  go_enter Tryd.func55, Tryd.ntmps55
  go_wp2
  go_ret
  exact ⟨rfl, Below.refl _ _⟩
theorem zeroB_ (w : World) : (zeroValue 4).run Tryd.prog w = .ok (.bool false) w := by kernel_rfl
set_option maxHeartbeats 8000000 in
set_option maxRecDepth 100000 in
theorem impl_TermsFault.calls (A0 : Option Addr) (c0 : Nat) (l0 : List S66) (r : Int) (w : World) (hr0 : Kd.C k66 w A0 l0.length l0) (hc0 : l0.length ≤ c0) (h : impl_TermsFault.f l0 = some r) :
    Calls Tryd.prog 55 #[.slice A0 l0.length c0] w fun e w' => e = .returned (.int .i64 r) ∧ Below w.heap.size w w' := by
  have hm : l0.length ≤ 9223372036854775807 := hr0.2.1
  unfold impl_TermsFault.f at h
  by_cases h400 : 400 < l0.length
  · rw [if_pos h400] at h
    obtain rfl := Option.some.inj h
    exact impl_TermsFault_many A0 c0 l0 w hm h400
  · rw [if_neg h400] at h
    have hq : decide ((l0.length : Int) > 400) = false := decide_eq_false (by omega)
    have HR0 := Aside0.mk hr0
    have H0 := Aside0.mk h
    clear hr0 h
    have hmm := @run_makeMap Tryd.prog
    go_enter Tryd.func55, Tryd.ntmps55
    go_wp2
    clear hmm
    go_loopg [13] l0.length (fun gg s13 wr => ∃ kk : Nat, kk ≤ l0.length ∧ l0.length - kk ≤ gg ∧ s13 = .int .i64 kk ∧ Aside0 (Below w.heap.size w wr) ∧ Aside0 (ownsSet Tryd.prog wr 66 4 encT w.heap.size kk (fun x => (l0.take kk).any (eqT x))) ∧ Aside0 (impl_TermsFault.l (l0.take kk) (l0.drop kk) = some r))
    case atStart => exact ⟨0, Nat.zero_le _, by omega, rfl, ⟨(Below.refl _ _).alloc (Nat.le_refl _) _⟩, ⟨by simpa using ownsSet_made Tryd.prog w 66 4 encT⟩, ⟨by rw [List.take_zero, List.drop_zero]; exact H0.out⟩⟩
    case round =>
      obtain ⟨kk, hkk, hg, rfl, BW, HS, A⟩ := hrel
      clear H0
      by_cases hlt : kk < l0.length
      · have hltz : (kk : Int) < (l0.length : Int) := by omega
        obtain ⟨ad, e, hx0, hx1, hx2, hx3⟩ := at_T66 HR0.out (kk : Int) (by omega) hltz
        have A2 := A.out
        rw [List.drop_eq_getElem_cons hlt, impl_TermsFault.l, ← getD_at l0 z66 kk hlt] at A2
        have hT : l0.take kk ++ [l0.getD (kk : Int).toNat z66] = l0.take (kk + 1) := by rw [List.take_succ_eq_append_getElem hlt, getD_at l0 z66 kk hlt]
        change (impl_Term_fault.f (rd_T66 l0 (kk : Int)).f0 (rd_T66 l0 (kk : Int)).f1 (rd_T66 l0 (kk : Int)).f2 (rd_T66 l0 (kk : Int)).f3 (l0.take kk)).bind _ = some r at A2
        obtain ⟨c, hc, A3⟩ := Option.bind_eq_some_iff.mp A2
        have hlen : (l0.take kk).length = kk := by rw [List.length_take]; omega
        cases e
        have hcon := fun (W : World) (hb : Below wr.heap.size wr W) => impl_Term_fault.calls (rd_T66 l0 (kk : Int)).f0 (rd_T66 l0 (kk : Int)).f1 (rd_T66 l0 (kk : Int)).f2 (rd_T66 l0 (kk : Int)).f3 (some ad) c0 (l0.take kk) c W (Kd.C_take (Kd.C_below HR0.out (below_step BW.out hb)) (by omega)) (by omega) hc
        simp only [hlen] at hcon
        have HF := Aside0.mk hcon
        clear A A2 hcon hc
        replace hx0 := (BW.out.cell (World.block_lt_of_cell? w _ hx0)).trans hx0
        replace hx1 := (BW.out.cell (World.block_lt_of_cell? w _ hx1)).trans hx1
        replace hx2 := (BW.out.cell (World.block_lt_of_cell? w _ hx2)).trans hx2
        replace hx3 := (BW.out.cell (World.block_lt_of_cell? w _ hx3)).trans hx3
        simp only [Int.toNat_natCast] at hx0 hx1 hx2 hx3
        clear HR0
        have hS : ∀ s : Bool, (l0.take kk).any (eqT (rd_T66 l0 (kk : Int))) = s → (fun x => (l0.take kk).any (eqT x)) (rd_T66 l0 (kk : Int)) = s := fun s h => h
        by_cases hc : c = 0
        · subst hc
          rw [if_pos rfl] at A3
          by_cases hok : okT (l0.getD (kk : Int).toNat z66) = true
          · rw [if_pos hok] at A3
            obtain ⟨kl, hkey⟩ := keyOfT (rd_T66 l0 (kk : Int)) hok
            by_cases hs0 : (l0.take kk).any (eqT (l0.getD (kk : Int).toNat z66)) = true
            · rw [if_pos hs0] at A3
              obtain rfl := Option.some.inj A3
              have hs := hS true hs0
              clear A3 hs0 hS hok
              have hu1 := Tryd.underlying66
              have hu2 := Tryd.underlying37
              have p1 : (0 ≤ (kk : Int)) = True := eq_true (by omega)
              have p2 : ((kk : Int) ≤ (c0 : Int)) = True := eq_true (by omega)
              have BX := Aside0.mk (Boxes.start wr)
              go_wp2_with (first | ((with_reducible refine gate_dst (N := 5) rfl ?_); refine box_event ?hg (N := 5) ?hd (cs := #[.int .i64 0, .int .i64 0, .int .i64 0, .int .i64 0]) (t := 66) ?hr ?_; (case hd => rfl); (case hg => rfl); (case hr => first | (go_simp; done) | (go_simp; rfl)); intro g5 hg w5_ hbox hb; have BY := Aside0.mk (Boxes.new (w0 := wr) (bs := []) (by (with_reducible repeat (first | refine Boxes.drewN ?_ _ | refine Boxes.drew ?_ | refine Boxes.alloc ?_ _)); exact BX.out) hg hbox hb); clear BX hb hbox hg; have BX := BY; clear BY; have q5_0 : World.cell? _ ⟨g5, 0, none⟩ = some (.int .i64 0) := BX.out.cell (i := 0) rfl (j := 0) rfl; have f5_0 : World.frozen? _ ⟨g5, 0, none⟩ = false := BX.out.frozen (i := 0) rfl 0; have q5_1 : World.cell? _ ⟨g5, 1, none⟩ = some (.int .i64 0) := BX.out.cell (i := 0) rfl (j := 1) rfl; have f5_1 : World.frozen? _ ⟨g5, 1, none⟩ = false := BX.out.frozen (i := 0) rfl 1; have q5_2 : World.cell? _ ⟨g5, 2, none⟩ = some (.int .i64 0) := BX.out.cell (i := 0) rfl (j := 2) rfl; have f5_2 : World.frozen? _ ⟨g5, 2, none⟩ = false := BX.out.frozen (i := 0) rfl 2; have q5_3 : World.cell? _ ⟨g5, 3, none⟩ = some (.int .i64 0) := BX.out.cell (i := 0) rfl (j := 3) rfl; have f5_3 : World.frozen? _ ⟨g5, 3, none⟩ = false := BX.out.frozen (i := 0) rfl 3) | ((with_reducible refine gate_store (t := 66) (p := 5) rfl ?_); refine boxes_store (w0 := wr) (bs := [(g5, #[.int .i64 (rd_T66 l0 (kk : Int)).f0, .int .i64 (rd_T66 l0 (kk : Int)).f1, .int .i64 (rd_T66 l0 (kk : Int)).f2, .int .i64 (rd_T66 l0 (kk : Int)).f3], 66)]) (W1 := (((World.setCell w5_ ⟨g5, 0, none⟩ (.int .i64 (rd_T66 l0 (kk : Int)).f0)).setCell ⟨g5, 1, none⟩ (.int .i64 (rd_T66 l0 (kk : Int)).f1)).setCell ⟨g5, 2, none⟩ (.int .i64 (rd_T66 l0 (kk : Int)).f2)).setCell ⟨g5, 3, none⟩ (.int .i64 (rd_T66 l0 (kk : Int)).f3)) rfl rfl rfl ?hr ((((Boxes.put (w0 := wr) (b1 := []) (b2 := []) (g := g5) (cs := #[.int .i64 0, .int .i64 0, .int .i64 0, .int .i64 0]) (t := 66) BX.out 0 (.int .i64 (rd_T66 l0 (kk : Int)).f0)).put (b1 := []) 1 (.int .i64 (rd_T66 l0 (kk : Int)).f1)).put (b1 := []) 2 (.int .i64 (rd_T66 l0 (kk : Int)).f2)).put (b1 := []) 3 (.int .i64 (rd_T66 l0 (kk : Int)).f3)) ?_; (case hr => first | (go_simp; done) | (go_simp; rfl)); intro w6_ BY; have BY := Aside0.mk BY; clear BX; have BX := BY; clear BY; clear q5_0 f5_0 q5_1 f5_1 q5_2 f5_2 q5_3 f5_3; have q5_0 : World.cell? _ ⟨g5, 0, none⟩ = some (.int .i64 (rd_T66 l0 (kk : Int)).f0) := BX.out.cell (i := 0) rfl (j := 0) rfl; have f5_0 : World.frozen? _ ⟨g5, 0, none⟩ = false := BX.out.frozen (i := 0) rfl 0; have q5_1 : World.cell? _ ⟨g5, 1, none⟩ = some (.int .i64 (rd_T66 l0 (kk : Int)).f1) := BX.out.cell (i := 0) rfl (j := 1) rfl; have f5_1 : World.frozen? _ ⟨g5, 1, none⟩ = false := BX.out.frozen (i := 0) rfl 1; have q5_2 : World.cell? _ ⟨g5, 2, none⟩ = some (.int .i64 (rd_T66 l0 (kk : Int)).f2) := BX.out.cell (i := 0) rfl (j := 2) rfl; have f5_2 : World.frozen? _ ⟨g5, 2, none⟩ = false := BX.out.frozen (i := 0) rfl 2; have q5_3 : World.cell? _ ⟨g5, 3, none⟩ = some (.int .i64 (rd_T66 l0 (kk : Int)).f3) := BX.out.cell (i := 0) rfl (j := 3) rfl; have f5_3 : World.frozen? _ ⟨g5, 3, none⟩ = false := BX.out.frozen (i := 0) rfl 3) | fail)
              refine start_ (n := 6) (S := fun w' => w'.cell? ⟨g5, 0, none⟩ = some (.int .i64 (rd_T66 l0 (kk : Int)).f0) ∧ w'.cell? ⟨g5, 1, none⟩ = some (.int .i64 (rd_T66 l0 (kk : Int)).f1) ∧ w'.cell? ⟨g5, 2, none⟩ = some (.int .i64 (rd_T66 l0 (kk : Int)).f2) ∧ w'.cell? ⟨g5, 3, none⟩ = some (.int .i64 (rd_T66 l0 (kk : Int)).f3)) (ds := [4]) #[false, false, false, false, false, false] (by kernel_rfl) rfl rfl ⟨q5_0, q5_1, q5_2, q5_3⟩ (fun hHeld => ?_)
              refine pure_ (i := 1) (N := some 19) (v := ?_) (a' := ?_) #[false, true, false, false, false, false] rfl rfl (by kernel_rfl) (fun _ _ _ h => h) (Or.inl ⟨by rfl, ?_⟩) ?_ ?_
              rotate_left
              · intro w'
                go_simp
                with_reducible rfl
              rotate_left
              · simp only [Act.put, List.setIfInBounds_toArray, List.set_cons_zero, List.set_cons_succ, i64_w, i32_w]
                rfl
              refine pure_ (i := 2) (N := some 20) (v := ?_) (a' := ?_) #[false, true, true, false, false, false] rfl rfl (by kernel_rfl) (fun _ _ _ h => h) (Or.inl ⟨by rfl, ?_⟩) ?_ ?_
              rotate_left
              · intro w'
                go_simp
                with_reducible rfl
              rotate_left
              · simp only [Act.put, List.setIfInBounds_toArray, List.set_cons_zero, List.set_cons_succ, i64_w, i32_w]
                rfl
              refine pure_ (i := 3) (N := some 21) (v := ?_) (a' := ?_) #[false, true, true, true, false, false] rfl rfl (by kernel_rfl) (fun _ _ _ h => h) (Or.inl ⟨by rfl, ?_⟩) ?_ ?_
              rotate_left
              · intro w'
                go_simp
                with_reducible rfl
              rotate_left
              · simp only [Act.put, List.setIfInBounds_toArray, List.set_cons_zero, List.set_cons_succ, i64_w, i32_w]
                rfl
              refine take_ (i := 0) (N := some 18) (v := ?_) (a' := ?_) #[true, true, true, true, false, false] rfl rfl (by kernel_rfl) (fun _ _ _ h => h) (Or.inl ⟨by rfl, ?_⟩) hHeld ?_ ?_
              rotate_left
              · rintro w' ⟨s0, s1, s2, s3⟩
                go_simp
                with_reducible rfl
              rotate_left
              · simp only [Act.put, List.setIfInBounds_toArray, List.set_cons_zero, List.set_cons_succ, i64_w, i32_w]
                rfl
              refine last_ (i := 4) (N := some 22) #[true, true, true, true, true, false] rfl rfl (by kernel_rfl) (by decide) (fun K hK => ?_)
              refine goes_ Tryd.func76 (by kernel_rfl) rfl #[.agg #[.int .i64 (rd_T66 l0 (kk : Int)).f0, .int .i64 (rd_T66 l0 (kk : Int)).f1, .int .i64 (rd_T66 l0 (kk : Int)).f2, .int .i64 (rd_T66 l0 (kk : Int)).f3], .slice (some ad) kk c0] (by rfl) rfl rfl (by simp only [List.map_toArray, List.map_cons, List.map_nil]; rfl) ?_
              with_reducible refine (HF.out _ (Boxes.low (w0 := wr) (bs := [(g5, #[.int .i64 (rd_T66 l0 (kk : Int)).f0, .int .i64 (rd_T66 l0 (kk : Int)).f1, .int .i64 (rd_T66 l0 (kk : Int)).f2, .int .i64 (rd_T66 l0 (kk : Int)).f3], 66)]) (Boxes.drew BX.out))).mono ?_
              rintro e w7_ ⟨rfl, hb⟩
              refine ⟨_, rfl, ?_⟩
              have BY := Aside0.mk (Boxes.below (w0 := wr) (bs := [(g5, #[.int .i64 (rd_T66 l0 (kk : Int)).f0, .int .i64 (rd_T66 l0 (kk : Int)).f1, .int .i64 (rd_T66 l0 (kk : Int)).f2, .int .i64 (rd_T66 l0 (kk : Int)).f3], 66)]) (Boxes.drew BX.out) hb)
              clear BX hb
              have BX := BY
              clear BY
              clear q5_0 f5_0 q5_1 f5_1 q5_2 f5_2 q5_3 f5_3
              have q5_0 : World.cell? _ ⟨g5, 0, none⟩ = some (.int .i64 (rd_T66 l0 (kk : Int)).f0) := BX.out.cell (i := 0) rfl (j := 0) rfl
              have f5_0 : World.frozen? _ ⟨g5, 0, none⟩ = false := BX.out.frozen (i := 0) rfl 0
              have q5_1 : World.cell? _ ⟨g5, 1, none⟩ = some (.int .i64 (rd_T66 l0 (kk : Int)).f1) := BX.out.cell (i := 0) rfl (j := 1) rfl
              have f5_1 : World.frozen? _ ⟨g5, 1, none⟩ = false := BX.out.frozen (i := 0) rfl 1
              have q5_2 : World.cell? _ ⟨g5, 2, none⟩ = some (.int .i64 (rd_T66 l0 (kk : Int)).f2) := BX.out.cell (i := 0) rfl (j := 2) rfl
              have f5_2 : World.frozen? _ ⟨g5, 2, none⟩ = false := BX.out.frozen (i := 0) rfl 2
              have q5_3 : World.cell? _ ⟨g5, 3, none⟩ = some (.int .i64 (rd_T66 l0 (kk : Int)).f3) := BX.out.cell (i := 0) rfl (j := 3) rfl
              have f5_3 : World.frozen? _ ⟨g5, 3, none⟩ = false := BX.out.frozen (i := 0) rfl 3
              refine hK.out _ _ ?_
              clear hK K
              refine norm_ (a' := ?_) ?_ ?_
              rotate_left
              · show Act.put _ (some 22) _ = _
                simp only [Act.put, List.setIfInBounds_toArray, List.set_cons_zero, List.set_cons_succ, i64_w, i32_w]
                rfl
              refine pure_ (i := 5) (N := some 6) (v := ?_) (a' := ?_) #[true, true, true, true, true, true] rfl rfl (by kernel_rfl) (fun _ _ _ h => h) (Or.inl ⟨by rfl, ?_⟩) ?_ ?_
              rotate_left
              · intro w'
                go_simp
                with_reducible rfl
              rotate_left
              · simp only [Act.put, List.setIfInBounds_toArray, List.set_cons_zero, List.set_cons_succ, i64_w, i32_w]
                rfl
              refine done_ (by kernel_rfl) ?_
              go_wp2_with (first | (at_lookup; refine wpList_lookup_set rfl _ _ 103 rfl 66 4 keyedT Tryd.underlying103 Tryd.underlying4 (zeroB_ _) (HS.out.below (Boxes.low (w0 := wr) (bs := [(g5, #[.int .i64 (rd_T66 l0 (kk : Int)).f0, .int .i64 (rd_T66 l0 (kk : Int)).f1, .int .i64 (rd_T66 l0 (kk : Int)).f2, .int .i64 (rd_T66 l0 (kk : Int)).f3], 66)]) (by (with_reducible repeat (first | refine Boxes.drewN ?_ _ | refine Boxes.drew ?_ | refine Boxes.alloc ?_ _)); exact BX.out))) rfl (rd_T66 l0 (kk : Int)) rfl hkey (s := true) hs ?_) | fail)
              go_ret
              exact ⟨rfl, below_step BW.out (Boxes.low (w0 := wr) (bs := [(g5, #[.int .i64 (rd_T66 l0 (kk : Int)).f0, .int .i64 (rd_T66 l0 (kk : Int)).f1, .int .i64 (rd_T66 l0 (kk : Int)).f2, .int .i64 (rd_T66 l0 (kk : Int)).f3], 66)]) (by (with_reducible repeat (first | refine Boxes.drewN ?_ _ | refine Boxes.drew ?_ | refine Boxes.alloc ?_ _)); exact BX.out))⟩
            · rw [if_neg hs0] at A3
              have hs := hS false (Bool.eq_false_iff.mpr hs0)
              have A4 : Aside0 (impl_TermsFault.l (l0.take (kk + 1)) (l0.drop (kk + 1)) = some r) := ⟨by rw [← hT]; exact A3⟩
              have hSn : (fun x => (l0.take kk).any (eqT x) || decide (x = (rd_T66 l0 (kk : Int)))) = (fun x => (l0.take (kk + 1)).any (eqT x)) := by
                funext x
                rw [← hT, List.any_append, List.any_cons, List.any_nil, Bool.or_false, eqT_dec]
                rfl
              clear A3 hs0 hS hok
              have hu1 := Tryd.underlying66
              have hu2 := Tryd.underlying37
              have p1 : (0 ≤ (kk : Int)) = True := eq_true (by omega)
              have p2 : ((kk : Int) ≤ (c0 : Int)) = True := eq_true (by omega)
              have BX := Aside0.mk (Boxes.start wr)
              go_wp2_with (first | ((with_reducible refine gate_dst (N := 5) rfl ?_); refine box_event ?hg (N := 5) ?hd (cs := #[.int .i64 0, .int .i64 0, .int .i64 0, .int .i64 0]) (t := 66) ?hr ?_; (case hd => rfl); (case hg => rfl); (case hr => first | (go_simp; done) | (go_simp; rfl)); intro g5 hg w5_ hbox hb; have BY := Aside0.mk (Boxes.new (w0 := wr) (bs := []) (by (with_reducible repeat (first | refine Boxes.drewN ?_ _ | refine Boxes.drew ?_ | refine Boxes.alloc ?_ _)); exact BX.out) hg hbox hb); clear BX hb hbox hg; have BX := BY; clear BY; have q5_0 : World.cell? _ ⟨g5, 0, none⟩ = some (.int .i64 0) := BX.out.cell (i := 0) rfl (j := 0) rfl; have f5_0 : World.frozen? _ ⟨g5, 0, none⟩ = false := BX.out.frozen (i := 0) rfl 0; have q5_1 : World.cell? _ ⟨g5, 1, none⟩ = some (.int .i64 0) := BX.out.cell (i := 0) rfl (j := 1) rfl; have f5_1 : World.frozen? _ ⟨g5, 1, none⟩ = false := BX.out.frozen (i := 0) rfl 1; have q5_2 : World.cell? _ ⟨g5, 2, none⟩ = some (.int .i64 0) := BX.out.cell (i := 0) rfl (j := 2) rfl; have f5_2 : World.frozen? _ ⟨g5, 2, none⟩ = false := BX.out.frozen (i := 0) rfl 2; have q5_3 : World.cell? _ ⟨g5, 3, none⟩ = some (.int .i64 0) := BX.out.cell (i := 0) rfl (j := 3) rfl; have f5_3 : World.frozen? _ ⟨g5, 3, none⟩ = false := BX.out.frozen (i := 0) rfl 3) | ((with_reducible refine gate_store (t := 66) (p := 5) rfl ?_); refine boxes_store (w0 := wr) (bs := [(g5, #[.int .i64 (rd_T66 l0 (kk : Int)).f0, .int .i64 (rd_T66 l0 (kk : Int)).f1, .int .i64 (rd_T66 l0 (kk : Int)).f2, .int .i64 (rd_T66 l0 (kk : Int)).f3], 66)]) (W1 := (((World.setCell w5_ ⟨g5, 0, none⟩ (.int .i64 (rd_T66 l0 (kk : Int)).f0)).setCell ⟨g5, 1, none⟩ (.int .i64 (rd_T66 l0 (kk : Int)).f1)).setCell ⟨g5, 2, none⟩ (.int .i64 (rd_T66 l0 (kk : Int)).f2)).setCell ⟨g5, 3, none⟩ (.int .i64 (rd_T66 l0 (kk : Int)).f3)) rfl rfl rfl ?hr ((((Boxes.put (w0 := wr) (b1 := []) (b2 := []) (g := g5) (cs := #[.int .i64 0, .int .i64 0, .int .i64 0, .int .i64 0]) (t := 66) BX.out 0 (.int .i64 (rd_T66 l0 (kk : Int)).f0)).put (b1 := []) 1 (.int .i64 (rd_T66 l0 (kk : Int)).f1)).put (b1 := []) 2 (.int .i64 (rd_T66 l0 (kk : Int)).f2)).put (b1 := []) 3 (.int .i64 (rd_T66 l0 (kk : Int)).f3)) ?_; (case hr => first | (go_simp; done) | (go_simp; rfl)); intro w6_ BY; have BY := Aside0.mk BY; clear BX; have BX := BY; clear BY; clear q5_0 f5_0 q5_1 f5_1 q5_2 f5_2 q5_3 f5_3; have q5_0 : World.cell? _ ⟨g5, 0, none⟩ = some (.int .i64 (rd_T66 l0 (kk : Int)).f0) := BX.out.cell (i := 0) rfl (j := 0) rfl; have f5_0 : World.frozen? _ ⟨g5, 0, none⟩ = false := BX.out.frozen (i := 0) rfl 0; have q5_1 : World.cell? _ ⟨g5, 1, none⟩ = some (.int .i64 (rd_T66 l0 (kk : Int)).f1) := BX.out.cell (i := 0) rfl (j := 1) rfl; have f5_1 : World.frozen? _ ⟨g5, 1, none⟩ = false := BX.out.frozen (i := 0) rfl 1; have q5_2 : World.cell? _ ⟨g5, 2, none⟩ = some (.int .i64 (rd_T66 l0 (kk : Int)).f2) := BX.out.cell (i := 0) rfl (j := 2) rfl; have f5_2 : World.frozen? _ ⟨g5, 2, none⟩ = false := BX.out.frozen (i := 0) rfl 2; have q5_3 : World.cell? _ ⟨g5, 3, none⟩ = some (.int .i64 (rd_T66 l0 (kk : Int)).f3) := BX.out.cell (i := 0) rfl (j := 3) rfl; have f5_3 : World.frozen? _ ⟨g5, 3, none⟩ = false := BX.out.frozen (i := 0) rfl 3) | fail)
              refine start_ (n := 6) (S := fun w' => w'.cell? ⟨g5, 0, none⟩ = some (.int .i64 (rd_T66 l0 (kk : Int)).f0) ∧ w'.cell? ⟨g5, 1, none⟩ = some (.int .i64 (rd_T66 l0 (kk : Int)).f1) ∧ w'.cell? ⟨g5, 2, none⟩ = some (.int .i64 (rd_T66 l0 (kk : Int)).f2) ∧ w'.cell? ⟨g5, 3, none⟩ = some (.int .i64 (rd_T66 l0 (kk : Int)).f3)) (ds := [4]) #[false, false, false, false, false, false] (by kernel_rfl) rfl rfl ⟨q5_0, q5_1, q5_2, q5_3⟩ (fun hHeld => ?_)
              refine pure_ (i := 1) (N := some 19) (v := ?_) (a' := ?_) #[false, true, false, false, false, false] rfl rfl (by kernel_rfl) (fun _ _ _ h => h) (Or.inl ⟨by rfl, ?_⟩) ?_ ?_
              rotate_left
              · intro w'
                go_simp
                with_reducible rfl
              rotate_left
              · simp only [Act.put, List.setIfInBounds_toArray, List.set_cons_zero, List.set_cons_succ, i64_w, i32_w]
                rfl
              refine pure_ (i := 2) (N := some 20) (v := ?_) (a' := ?_) #[false, true, true, false, false, false] rfl rfl (by kernel_rfl) (fun _ _ _ h => h) (Or.inl ⟨by rfl, ?_⟩) ?_ ?_
              rotate_left
              · intro w'
                go_simp
                with_reducible rfl
              rotate_left
              · simp only [Act.put, List.setIfInBounds_toArray, List.set_cons_zero, List.set_cons_succ, i64_w, i32_w]
                rfl
              refine pure_ (i := 3) (N := some 21) (v := ?_) (a' := ?_) #[false, true, true, true, false, false] rfl rfl (by kernel_rfl) (fun _ _ _ h => h) (Or.inl ⟨by rfl, ?_⟩) ?_ ?_
              rotate_left
              · intro w'
                go_simp
                with_reducible rfl
              rotate_left
              · simp only [Act.put, List.setIfInBounds_toArray, List.set_cons_zero, List.set_cons_succ, i64_w, i32_w]
                rfl
              refine take_ (i := 0) (N := some 18) (v := ?_) (a' := ?_) #[true, true, true, true, false, false] rfl rfl (by kernel_rfl) (fun _ _ _ h => h) (Or.inl ⟨by rfl, ?_⟩) hHeld ?_ ?_
              rotate_left
              · rintro w' ⟨s0, s1, s2, s3⟩
                go_simp
                with_reducible rfl
              rotate_left
              · simp only [Act.put, List.setIfInBounds_toArray, List.set_cons_zero, List.set_cons_succ, i64_w, i32_w]
                rfl
              refine last_ (i := 4) (N := some 22) #[true, true, true, true, true, false] rfl rfl (by kernel_rfl) (by decide) (fun K hK => ?_)
              refine goes_ Tryd.func76 (by kernel_rfl) rfl #[.agg #[.int .i64 (rd_T66 l0 (kk : Int)).f0, .int .i64 (rd_T66 l0 (kk : Int)).f1, .int .i64 (rd_T66 l0 (kk : Int)).f2, .int .i64 (rd_T66 l0 (kk : Int)).f3], .slice (some ad) kk c0] (by rfl) rfl rfl (by simp only [List.map_toArray, List.map_cons, List.map_nil]; rfl) ?_
              with_reducible refine (HF.out _ (Boxes.low (w0 := wr) (bs := [(g5, #[.int .i64 (rd_T66 l0 (kk : Int)).f0, .int .i64 (rd_T66 l0 (kk : Int)).f1, .int .i64 (rd_T66 l0 (kk : Int)).f2, .int .i64 (rd_T66 l0 (kk : Int)).f3], 66)]) (Boxes.drew BX.out))).mono ?_
              rintro e w7_ ⟨rfl, hb⟩
              refine ⟨_, rfl, ?_⟩
              have BY := Aside0.mk (Boxes.below (w0 := wr) (bs := [(g5, #[.int .i64 (rd_T66 l0 (kk : Int)).f0, .int .i64 (rd_T66 l0 (kk : Int)).f1, .int .i64 (rd_T66 l0 (kk : Int)).f2, .int .i64 (rd_T66 l0 (kk : Int)).f3], 66)]) (Boxes.drew BX.out) hb)
              clear BX hb
              have BX := BY
              clear BY
              clear q5_0 f5_0 q5_1 f5_1 q5_2 f5_2 q5_3 f5_3
              have q5_0 : World.cell? _ ⟨g5, 0, none⟩ = some (.int .i64 (rd_T66 l0 (kk : Int)).f0) := BX.out.cell (i := 0) rfl (j := 0) rfl
              have f5_0 : World.frozen? _ ⟨g5, 0, none⟩ = false := BX.out.frozen (i := 0) rfl 0
              have q5_1 : World.cell? _ ⟨g5, 1, none⟩ = some (.int .i64 (rd_T66 l0 (kk : Int)).f1) := BX.out.cell (i := 0) rfl (j := 1) rfl
              have f5_1 : World.frozen? _ ⟨g5, 1, none⟩ = false := BX.out.frozen (i := 0) rfl 1
              have q5_2 : World.cell? _ ⟨g5, 2, none⟩ = some (.int .i64 (rd_T66 l0 (kk : Int)).f2) := BX.out.cell (i := 0) rfl (j := 2) rfl
              have f5_2 : World.frozen? _ ⟨g5, 2, none⟩ = false := BX.out.frozen (i := 0) rfl 2
              have q5_3 : World.cell? _ ⟨g5, 3, none⟩ = some (.int .i64 (rd_T66 l0 (kk : Int)).f3) := BX.out.cell (i := 0) rfl (j := 3) rfl
              have f5_3 : World.frozen? _ ⟨g5, 3, none⟩ = false := BX.out.frozen (i := 0) rfl 3
              refine hK.out _ _ ?_
              clear hK K
              refine norm_ (a' := ?_) ?_ ?_
              rotate_left
              · show Act.put _ (some 22) _ = _
                simp only [Act.put, List.setIfInBounds_toArray, List.set_cons_zero, List.set_cons_succ, i64_w, i32_w]
                rfl
              refine pure_ (i := 5) (N := some 6) (v := ?_) (a' := ?_) #[true, true, true, true, true, true] rfl rfl (by kernel_rfl) (fun _ _ _ h => h) (Or.inl ⟨by rfl, ?_⟩) ?_ ?_
              rotate_left
              · intro w'
                go_simp
                with_reducible rfl
              rotate_left
              · simp only [Act.put, List.setIfInBounds_toArray, List.set_cons_zero, List.set_cons_succ, i64_w, i32_w]
                rfl
              refine done_ (by kernel_rfl) ?_
              go_wp2_with (first | (at_lookup; refine wpList_lookup_set rfl _ _ 103 rfl 66 4 keyedT Tryd.underlying103 Tryd.underlying4 (zeroB_ _) (HS.out.below (Boxes.low (w0 := wr) (bs := [(g5, #[.int .i64 (rd_T66 l0 (kk : Int)).f0, .int .i64 (rd_T66 l0 (kk : Int)).f1, .int .i64 (rd_T66 l0 (kk : Int)).f2, .int .i64 (rd_T66 l0 (kk : Int)).f3], 66)]) (by (with_reducible repeat (first | refine Boxes.drewN ?_ _ | refine Boxes.drew ?_ | refine Boxes.alloc ?_ _)); exact BX.out))) rfl (rd_T66 l0 (kk : Int)) rfl hkey (s := false) hs ?_) | (at_mapUpdate; refine wpList_update_set rfl _ _ _ 103 rfl 66 4 keyedT Tryd.underlying103 Tryd.underlying4 encT_inj (HS.out.below (Boxes.low (w0 := wr) (bs := [(g5, #[.int .i64 (rd_T66 l0 (kk : Int)).f0, .int .i64 (rd_T66 l0 (kk : Int)).f1, .int .i64 (rd_T66 l0 (kk : Int)).f2, .int .i64 (rd_T66 l0 (kk : Int)).f3], 66)]) (by (with_reducible repeat (first | refine Boxes.drewN ?_ _ | refine Boxes.drew ?_ | refine Boxes.alloc ?_ _)); exact BX.out))) (by unfold maxLen; omega) rfl (rd_T66 l0 (kk : Int)) rfl rfl hkey ?_; intro w8_ hown_ hgr_; have HS8 := Aside0.mk hown_; have HB8 := Aside0.mk (pw_below_grown (below_step BW.out (Boxes.low (w0 := wr) (bs := [(g5, #[.int .i64 (rd_T66 l0 (kk : Int)).f0, .int .i64 (rd_T66 l0 (kk : Int)).f1, .int .i64 (rd_T66 l0 (kk : Int)).f2, .int .i64 (rd_T66 l0 (kk : Int)).f3], 66)]) (by (with_reducible repeat (first | refine Boxes.drewN ?_ _ | refine Boxes.drew ?_ | refine Boxes.alloc ?_ _)); exact BX.out))) _ (Nat.le_trans BW.out.size (Boxes.low (w0 := wr) (bs := [(g5, #[.int .i64 (rd_T66 l0 (kk : Int)).f0, .int .i64 (rd_T66 l0 (kk : Int)).f1, .int .i64 (rd_T66 l0 (kk : Int)).f2, .int .i64 (rd_T66 l0 (kk : Int)).f3], 66)]) (by (with_reducible repeat (first | refine Boxes.drewN ?_ _ | refine Boxes.drew ?_ | refine Boxes.alloc ?_ _)); exact BX.out)).size) hgr_ (fun k hk => by cases hk; exact Nat.le_refl _)); clear hown_ hgr_ HS) | fail)
              go_roundg (l0.length - (kk + 1))
              case measure => omega
              case rel => exact ⟨kk + 1, by omega, by omega, by go_num, ⟨HB8.out⟩, ⟨by rw [← hSn]; exact HS8.out⟩, ⟨A4.out⟩⟩
          · rw [if_neg hok] at A3
            exact absurd A3 (by simp)
        · rw [if_neg hc] at A3
          obtain rfl := Option.some.inj A3
          have hcb : (c != 0) = true := by simpa using hc
          clear A3 hS hc HS
          have hu1 := Tryd.underlying66
          have hu2 := Tryd.underlying37
          have p1 : (0 ≤ (kk : Int)) = True := eq_true (by omega)
          have p2 : ((kk : Int) ≤ (c0 : Int)) = True := eq_true (by omega)
          have BX := Aside0.mk (Boxes.start wr)
          go_wp2_with (first | ((with_reducible refine gate_dst (N := 5) rfl ?_); refine box_event ?hg (N := 5) ?hd (cs := #[.int .i64 0, .int .i64 0, .int .i64 0, .int .i64 0]) (t := 66) ?hr ?_; (case hd => rfl); (case hg => rfl); (case hr => first | (go_simp; done) | (go_simp; rfl)); intro g5 hg w5_ hbox hb; have BY := Aside0.mk (Boxes.new (w0 := wr) (bs := []) (by (with_reducible repeat (first | refine Boxes.drewN ?_ _ | refine Boxes.drew ?_ | refine Boxes.alloc ?_ _)); exact BX.out) hg hbox hb); clear BX hb hbox hg; have BX := BY; clear BY; have q5_0 : World.cell? _ ⟨g5, 0, none⟩ = some (.int .i64 0) := BX.out.cell (i := 0) rfl (j := 0) rfl; have f5_0 : World.frozen? _ ⟨g5, 0, none⟩ = false := BX.out.frozen (i := 0) rfl 0; have q5_1 : World.cell? _ ⟨g5, 1, none⟩ = some (.int .i64 0) := BX.out.cell (i := 0) rfl (j := 1) rfl; have f5_1 : World.frozen? _ ⟨g5, 1, none⟩ = false := BX.out.frozen (i := 0) rfl 1; have q5_2 : World.cell? _ ⟨g5, 2, none⟩ = some (.int .i64 0) := BX.out.cell (i := 0) rfl (j := 2) rfl; have f5_2 : World.frozen? _ ⟨g5, 2, none⟩ = false := BX.out.frozen (i := 0) rfl 2; have q5_3 : World.cell? _ ⟨g5, 3, none⟩ = some (.int .i64 0) := BX.out.cell (i := 0) rfl (j := 3) rfl; have f5_3 : World.frozen? _ ⟨g5, 3, none⟩ = false := BX.out.frozen (i := 0) rfl 3) | ((with_reducible refine gate_store (t := 66) (p := 5) rfl ?_); refine boxes_store (w0 := wr) (bs := [(g5, #[.int .i64 (rd_T66 l0 (kk : Int)).f0, .int .i64 (rd_T66 l0 (kk : Int)).f1, .int .i64 (rd_T66 l0 (kk : Int)).f2, .int .i64 (rd_T66 l0 (kk : Int)).f3], 66)]) (W1 := (((World.setCell w5_ ⟨g5, 0, none⟩ (.int .i64 (rd_T66 l0 (kk : Int)).f0)).setCell ⟨g5, 1, none⟩ (.int .i64 (rd_T66 l0 (kk : Int)).f1)).setCell ⟨g5, 2, none⟩ (.int .i64 (rd_T66 l0 (kk : Int)).f2)).setCell ⟨g5, 3, none⟩ (.int .i64 (rd_T66 l0 (kk : Int)).f3)) rfl rfl rfl ?hr ((((Boxes.put (w0 := wr) (b1 := []) (b2 := []) (g := g5) (cs := #[.int .i64 0, .int .i64 0, .int .i64 0, .int .i64 0]) (t := 66) BX.out 0 (.int .i64 (rd_T66 l0 (kk : Int)).f0)).put (b1 := []) 1 (.int .i64 (rd_T66 l0 (kk : Int)).f1)).put (b1 := []) 2 (.int .i64 (rd_T66 l0 (kk : Int)).f2)).put (b1 := []) 3 (.int .i64 (rd_T66 l0 (kk : Int)).f3)) ?_; (case hr => first | (go_simp; done) | (go_simp; rfl)); intro w6_ BY; have BY := Aside0.mk BY; clear BX; have BX := BY; clear BY; clear q5_0 f5_0 q5_1 f5_1 q5_2 f5_2 q5_3 f5_3; have q5_0 : World.cell? _ ⟨g5, 0, none⟩ = some (.int .i64 (rd_T66 l0 (kk : Int)).f0) := BX.out.cell (i := 0) rfl (j := 0) rfl; have f5_0 : World.frozen? _ ⟨g5, 0, none⟩ = false := BX.out.frozen (i := 0) rfl 0; have q5_1 : World.cell? _ ⟨g5, 1, none⟩ = some (.int .i64 (rd_T66 l0 (kk : Int)).f1) := BX.out.cell (i := 0) rfl (j := 1) rfl; have f5_1 : World.frozen? _ ⟨g5, 1, none⟩ = false := BX.out.frozen (i := 0) rfl 1; have q5_2 : World.cell? _ ⟨g5, 2, none⟩ = some (.int .i64 (rd_T66 l0 (kk : Int)).f2) := BX.out.cell (i := 0) rfl (j := 2) rfl; have f5_2 : World.frozen? _ ⟨g5, 2, none⟩ = false := BX.out.frozen (i := 0) rfl 2; have q5_3 : World.cell? _ ⟨g5, 3, none⟩ = some (.int .i64 (rd_T66 l0 (kk : Int)).f3) := BX.out.cell (i := 0) rfl (j := 3) rfl; have f5_3 : World.frozen? _ ⟨g5, 3, none⟩ = false := BX.out.frozen (i := 0) rfl 3) | fail)
          refine start_ (n := 6) (S := fun w' => w'.cell? ⟨g5, 0, none⟩ = some (.int .i64 (rd_T66 l0 (kk : Int)).f0) ∧ w'.cell? ⟨g5, 1, none⟩ = some (.int .i64 (rd_T66 l0 (kk : Int)).f1) ∧ w'.cell? ⟨g5, 2, none⟩ = some (.int .i64 (rd_T66 l0 (kk : Int)).f2) ∧ w'.cell? ⟨g5, 3, none⟩ = some (.int .i64 (rd_T66 l0 (kk : Int)).f3)) (ds := [4]) #[false, false, false, false, false, false] (by kernel_rfl) rfl rfl ⟨q5_0, q5_1, q5_2, q5_3⟩ (fun hHeld => ?_)
          refine pure_ (i := 1) (N := some 19) (v := ?_) (a' := ?_) #[false, true, false, false, false, false] rfl rfl (by kernel_rfl) (fun _ _ _ h => h) (Or.inl ⟨by rfl, ?_⟩) ?_ ?_
          rotate_left
          · intro w'
            go_simp
            with_reducible rfl
          rotate_left
          · simp only [Act.put, List.setIfInBounds_toArray, List.set_cons_zero, List.set_cons_succ, i64_w, i32_w]
            rfl
          refine pure_ (i := 2) (N := some 20) (v := ?_) (a' := ?_) #[false, true, true, false, false, false] rfl rfl (by kernel_rfl) (fun _ _ _ h => h) (Or.inl ⟨by rfl, ?_⟩) ?_ ?_
          rotate_left
          · intro w'
            go_simp
            with_reducible rfl
          rotate_left
          · simp only [Act.put, List.setIfInBounds_toArray, List.set_cons_zero, List.set_cons_succ, i64_w, i32_w]
            rfl
          refine pure_ (i := 3) (N := some 21) (v := ?_) (a' := ?_) #[false, true, true, true, false, false] rfl rfl (by kernel_rfl) (fun _ _ _ h => h) (Or.inl ⟨by rfl, ?_⟩) ?_ ?_
          rotate_left
          · intro w'
            go_simp
            with_reducible rfl
          rotate_left
          · simp only [Act.put, List.setIfInBounds_toArray, List.set_cons_zero, List.set_cons_succ, i64_w, i32_w]
            rfl
          refine take_ (i := 0) (N := some 18) (v := ?_) (a' := ?_) #[true, true, true, true, false, false] rfl rfl (by kernel_rfl) (fun _ _ _ h => h) (Or.inl ⟨by rfl, ?_⟩) hHeld ?_ ?_
          rotate_left
          · rintro w' ⟨s0, s1, s2, s3⟩
            go_simp
            with_reducible rfl
          rotate_left
          · simp only [Act.put, List.setIfInBounds_toArray, List.set_cons_zero, List.set_cons_succ, i64_w, i32_w]
            rfl
          refine last_ (i := 4) (N := some 22) #[true, true, true, true, true, false] rfl rfl (by kernel_rfl) (by decide) (fun K hK => ?_)
          refine goes_ Tryd.func76 (by kernel_rfl) rfl #[.agg #[.int .i64 (rd_T66 l0 (kk : Int)).f0, .int .i64 (rd_T66 l0 (kk : Int)).f1, .int .i64 (rd_T66 l0 (kk : Int)).f2, .int .i64 (rd_T66 l0 (kk : Int)).f3], .slice (some ad) kk c0] (by rfl) rfl rfl (by simp only [List.map_toArray, List.map_cons, List.map_nil]; rfl) ?_
          with_reducible refine (HF.out _ (Boxes.low (w0 := wr) (bs := [(g5, #[.int .i64 (rd_T66 l0 (kk : Int)).f0, .int .i64 (rd_T66 l0 (kk : Int)).f1, .int .i64 (rd_T66 l0 (kk : Int)).f2, .int .i64 (rd_T66 l0 (kk : Int)).f3], 66)]) (Boxes.drew BX.out))).mono ?_
          rintro e w7_ ⟨rfl, hb⟩
          refine ⟨_, rfl, ?_⟩
          have BY := Aside0.mk (Boxes.below (w0 := wr) (bs := [(g5, #[.int .i64 (rd_T66 l0 (kk : Int)).f0, .int .i64 (rd_T66 l0 (kk : Int)).f1, .int .i64 (rd_T66 l0 (kk : Int)).f2, .int .i64 (rd_T66 l0 (kk : Int)).f3], 66)]) (Boxes.drew BX.out) hb)
          clear BX hb
          have BX := BY
          clear BY
          clear q5_0 f5_0 q5_1 f5_1 q5_2 f5_2 q5_3 f5_3
          have q5_0 : World.cell? _ ⟨g5, 0, none⟩ = some (.int .i64 (rd_T66 l0 (kk : Int)).f0) := BX.out.cell (i := 0) rfl (j := 0) rfl
          have f5_0 : World.frozen? _ ⟨g5, 0, none⟩ = false := BX.out.frozen (i := 0) rfl 0
          have q5_1 : World.cell? _ ⟨g5, 1, none⟩ = some (.int .i64 (rd_T66 l0 (kk : Int)).f1) := BX.out.cell (i := 0) rfl (j := 1) rfl
          have f5_1 : World.frozen? _ ⟨g5, 1, none⟩ = false := BX.out.frozen (i := 0) rfl 1
          have q5_2 : World.cell? _ ⟨g5, 2, none⟩ = some (.int .i64 (rd_T66 l0 (kk : Int)).f2) := BX.out.cell (i := 0) rfl (j := 2) rfl
          have f5_2 : World.frozen? _ ⟨g5, 2, none⟩ = false := BX.out.frozen (i := 0) rfl 2
          have q5_3 : World.cell? _ ⟨g5, 3, none⟩ = some (.int .i64 (rd_T66 l0 (kk : Int)).f3) := BX.out.cell (i := 0) rfl (j := 3) rfl
          have f5_3 : World.frozen? _ ⟨g5, 3, none⟩ = false := BX.out.frozen (i := 0) rfl 3
          refine hK.out _ _ ?_
          clear hK K
          refine norm_ (a' := ?_) ?_ ?_
          rotate_left
          · show Act.put _ (some 22) _ = _
            simp only [Act.put, List.setIfInBounds_toArray, List.set_cons_zero, List.set_cons_succ, i64_w, i32_w]
            rfl
          refine pure_ (i := 5) (N := some 6) (v := ?_) (a' := ?_) #[true, true, true, true, true, true] rfl rfl (by kernel_rfl) (fun _ _ _ h => h) (Or.inl ⟨by rfl, ?_⟩) ?_ ?_
          rotate_left
          · intro w'
            go_simp
            with_reducible rfl
          rotate_left
          · simp only [Act.put, List.setIfInBounds_toArray, List.set_cons_zero, List.set_cons_succ, i64_w, i32_w]
            rfl
          refine done_ (by kernel_rfl) ?_
          go_wp2
          go_ret
          exact ⟨rfl, below_step BW.out (Boxes.low (w0 := wr) (bs := [(g5, #[.int .i64 (rd_T66 l0 (kk : Int)).f0, .int .i64 (rd_T66 l0 (kk : Int)).f1, .int .i64 (rd_T66 l0 (kk : Int)).f2, .int .i64 (rd_T66 l0 (kk : Int)).f3], 66)]) (by (with_reducible repeat (first | refine Boxes.drewN ?_ _ | refine Boxes.drew ?_ | refine Boxes.alloc ?_ _)); exact BX.out))⟩
      · have hltz : ¬ (kk : Int) < (l0.length : Int) := by omega
        have hke : kk = l0.length := by omega
        subst hke
        have A4 := Aside0.mk (Option.some.inj ((by rw [List.drop_length, impl_TermsFault.l] : impl_TermsFault.l _ (l0.drop l0.length) = some 0).symm.trans A.out))
        clear A HS
        go_wp2
        go_ret
        exact ⟨congrArg (fun z => Ending.returned (Value.int .i64 z)) A4.out, BW.out⟩

/-! ### impl_placesFault: function 34 (my own text) -/
def impl_placesFault.p (l1 : List S66) (at_ : Int) : Option Bool := (impl_isPlace.f l1 at_).bind fun b => some (!b)
def impl_placesFault.f (l0 : List S66) (l1 : List Int) : Option Int :=
  (impl_TermsFault.f l0).bind fun c => if c = 0 then (idxO (impl_placesFault.p l0) l1 0).bind fun i => some (if 0 ≤ i then 3 else 0) else some c
set_option maxHeartbeats 4000000 in
set_option maxRecDepth 100000 in
theorem impl_placesFault_lit.calls (A1 : Option Addr) (c1 : Nat) (l1 : List S66) (x : Int) (b : Bool) (pb : Nat) (w W : World) (hpb : pb < w.heap.size) (e0 : w.cell? ⟨pb, 0, none⟩ = some (.slice A1 l1.length c1))
    (hr : Kd.C k66 w A1 l1.length l1) (hc : l1.length ≤ c1) (hb : Below w.heap.size w W) (h : impl_placesFault.p l1 x = some b) :
    Calls Tryd.prog 57 #[.int .i64 x, .pointer (some ⟨pb, 0, none⟩)] W fun e w' => e = .returned (.bool b) ∧ Below w.heap.size w w' := by
  replace e0 := (hb.cell (p := ⟨pb, 0, none⟩) hpb).trans e0
  obtain ⟨b', h1, h⟩ := Option.bind_eq_some_iff.mp h
  obtain rfl := Option.some.inj h
  have HH := Aside0.mk (impl_isPlace.calls A1 c1 l1 x b' W (Kd.C_below hr hb) hc h1)
  have HB := Aside0.mk hb
  clear hr hc h h1 hb hpb
  go_enter Tryd.func57, Tryd.ntmps57
  go_wp2_with (go_at_call 58; refine HH.out.mono ?_; rintro e w' ⟨rfl, ⟨nd, rfl⟩⟩)
  go_ret
  exact ⟨rfl, pw_below_drewN HB.out nd⟩
set_option maxHeartbeats 8000000 in
set_option maxRecDepth 100000 in
theorem impl_placesFault.calls (A0 : Option Addr) (c0 : Nat) (l0 : List S66) (A1 : Option Addr) (c1 : Nat) (l1 : List Int) (r : Int) (w : World) (hr0 : Kd.C k66 w A0 l0.length l0) (hc0 : l0.length ≤ c0) (hr1 : Kd.C (Kd.int .i64) w A1 l1.length l1) (hc1 : l1.length ≤ c1) (h : impl_placesFault.f l0 l1 = some r) :
    Calls Tryd.prog 34 #[.slice A0 l0.length c0, .slice A1 l1.length c1] w fun e w' => e = .returned (.int .i64 r) ∧ Below w.heap.size w w' := by
  have eg : ∀ args w, (callFunc 57 args).run Tryd.prog w = .ok (.enter 57 args) w := Go.Proofs.enters_of Tryd.func57 (by kernel_rfl) rfl
  unfold impl_placesFault.f at h
  obtain ⟨c_, h1, h⟩ := Option.bind_eq_some_iff.mp h
  have HT := Aside0.mk (fun (W : World) (hb : Below w.heap.size w W) => impl_TermsFault.calls A0 c0 l0 c_ W (Kd.C_below hr0 hb) hc0 h1)
  have HR0 := Aside0.mk hr0
  have HR1 := Aside0.mk hr1
  have BX := Aside0.mk (Boxes.start w)
  clear hr0 hr1 h1
  have hu2 := Tryd.underlying37
  by_cases hc : c_ = 0
  · subst hc
    rw [if_pos rfl] at h
    obtain ⟨i_, hi, h⟩ := Option.bind_eq_some_iff.mp h
    have HI := Aside0.mk hi
    have HV := Aside0.mk (Option.some.inj h)
    clear hi h
    go_enter Tryd.func34, Tryd.ntmps34
    rcases Bool.eq_false_or_eq_true (decide (0 ≤ i_)) with ci | ci
    · go_wp2_with (first | ((with_reducible refine gate_dst (N := 2) rfl ?_); refine box_event ?hg (N := 2) ?hd (cs := #[.slice A0 l0.length c0]) (t := 37) ?hr ?_; (case hd => rfl); (case hg => rfl); (case hr => first | (go_simp; done) | (go_simp; rfl)); intro g2 hg w2_ hbox hb; have BY := Aside0.mk (Boxes.new (w0 := w) (bs := []) (by (with_reducible repeat (first | refine Boxes.drewN ?_ _ | refine Boxes.drew ?_ | refine Boxes.alloc ?_ _)); exact BX.out) hg hbox hb); clear BX hb hbox hg; have BX := BY; clear BY; have q2_0 : World.cell? _ ⟨g2, 0, none⟩ = some (.slice A0 l0.length c0) := BX.out.cell (i := 0) rfl (j := 0) rfl; have f2_0 : World.frozen? _ ⟨g2, 0, none⟩ = false := BX.out.frozen (i := 0) rfl 0) | (go_at_call 55; (with_reducible refine (HT.out _ (Boxes.low (w0 := w) (bs := [(g2, #[.slice A0 l0.length c0], 37)]) (by (with_reducible repeat (first | refine Boxes.drewN ?_ _ | refine Boxes.drew ?_ | refine Boxes.alloc ?_ _)); exact BX.out))).mono ?_); rintro e w7_ ⟨rfl, hb⟩; have BY := Aside0.mk (Boxes.below (w0 := w) (bs := [(g2, #[.slice A0 l0.length c0], 37)]) (by (with_reducible repeat (first | refine Boxes.drewN ?_ _ | refine Boxes.drew ?_ | refine Boxes.alloc ?_ _)); exact BX.out) hb); clear BX hb; have BX := BY; clear BY; clear q2_0 f2_0; have q2_0 : World.cell? _ ⟨g2, 0, none⟩ = some (.slice A0 l0.length c0) := BX.out.cell (i := 0) rfl (j := 0) rfl; have f2_0 : World.frozen? _ ⟨g2, 0, none⟩ = false := BX.out.frozen (i := 0) rfl 0) | (go_at_call 56; (refine (ContainsFuncI.calls A1 c1 l1 57 #[.pointer (some ⟨g2, 0, none⟩)] (impl_placesFault.p l0) i_ _ eg (Kd.C_below HR1.out BX.out.low) (fun x b W hx hb2 => impl_placesFault_lit.calls A0 c0 l0 x b g2 _ W (BX.out.lt (i := 0) rfl) (BX.out.cell (i := 0) rfl (j := 0) rfl) (Kd.C_below HR0.out BX.out.low) hc0 hb2 hx) HI.out).mono ?_); rintro e w9_ ⟨rfl, hb⟩; have BY := Aside0.mk (Boxes.below (w0 := w) (bs := [(g2, #[.slice A0 l0.length c0], 37)]) (by (with_reducible repeat (first | refine Boxes.drewN ?_ _ | refine Boxes.drew ?_ | refine Boxes.alloc ?_ _)); exact BX.out) hb); clear BX hb; have BX := BY; clear BY; clear q2_0 f2_0; have q2_0 : World.cell? _ ⟨g2, 0, none⟩ = some (.slice A0 l0.length c0) := BX.out.cell (i := 0) rfl (j := 0) rfl; have f2_0 : World.frozen? _ ⟨g2, 0, none⟩ = false := BX.out.frozen (i := 0) rfl 0) | fail)
      go_ret
      exact ⟨congrArg (fun z => Ending.returned (Value.int .i64 z)) ((if_pos (of_decide_eq_true ci)).symm.trans HV.out), (Boxes.low (w0 := w) (bs := [(g2, #[.slice A0 l0.length c0], 37)]) (by (with_reducible repeat (first | refine Boxes.drewN ?_ _ | refine Boxes.drew ?_ | refine Boxes.alloc ?_ _)); exact BX.out))⟩
    · go_wp2_with (first | ((with_reducible refine gate_dst (N := 2) rfl ?_); refine box_event ?hg (N := 2) ?hd (cs := #[.slice A0 l0.length c0]) (t := 37) ?hr ?_; (case hd => rfl); (case hg => rfl); (case hr => first | (go_simp; done) | (go_simp; rfl)); intro g2 hg w2_ hbox hb; have BY := Aside0.mk (Boxes.new (w0 := w) (bs := []) (by (with_reducible repeat (first | refine Boxes.drewN ?_ _ | refine Boxes.drew ?_ | refine Boxes.alloc ?_ _)); exact BX.out) hg hbox hb); clear BX hb hbox hg; have BX := BY; clear BY; have q2_0 : World.cell? _ ⟨g2, 0, none⟩ = some (.slice A0 l0.length c0) := BX.out.cell (i := 0) rfl (j := 0) rfl; have f2_0 : World.frozen? _ ⟨g2, 0, none⟩ = false := BX.out.frozen (i := 0) rfl 0) | (go_at_call 55; (with_reducible refine (HT.out _ (Boxes.low (w0 := w) (bs := [(g2, #[.slice A0 l0.length c0], 37)]) (by (with_reducible repeat (first | refine Boxes.drewN ?_ _ | refine Boxes.drew ?_ | refine Boxes.alloc ?_ _)); exact BX.out))).mono ?_); rintro e w7_ ⟨rfl, hb⟩; have BY := Aside0.mk (Boxes.below (w0 := w) (bs := [(g2, #[.slice A0 l0.length c0], 37)]) (by (with_reducible repeat (first | refine Boxes.drewN ?_ _ | refine Boxes.drew ?_ | refine Boxes.alloc ?_ _)); exact BX.out) hb); clear BX hb; have BX := BY; clear BY; clear q2_0 f2_0; have q2_0 : World.cell? _ ⟨g2, 0, none⟩ = some (.slice A0 l0.length c0) := BX.out.cell (i := 0) rfl (j := 0) rfl; have f2_0 : World.frozen? _ ⟨g2, 0, none⟩ = false := BX.out.frozen (i := 0) rfl 0) | (go_at_call 56; (refine (ContainsFuncI.calls A1 c1 l1 57 #[.pointer (some ⟨g2, 0, none⟩)] (impl_placesFault.p l0) i_ _ eg (Kd.C_below HR1.out BX.out.low) (fun x b W hx hb2 => impl_placesFault_lit.calls A0 c0 l0 x b g2 _ W (BX.out.lt (i := 0) rfl) (BX.out.cell (i := 0) rfl (j := 0) rfl) (Kd.C_below HR0.out BX.out.low) hc0 hb2 hx) HI.out).mono ?_); rintro e w9_ ⟨rfl, hb⟩; have BY := Aside0.mk (Boxes.below (w0 := w) (bs := [(g2, #[.slice A0 l0.length c0], 37)]) (by (with_reducible repeat (first | refine Boxes.drewN ?_ _ | refine Boxes.drew ?_ | refine Boxes.alloc ?_ _)); exact BX.out) hb); clear BX hb; have BX := BY; clear BY; clear q2_0 f2_0; have q2_0 : World.cell? _ ⟨g2, 0, none⟩ = some (.slice A0 l0.length c0) := BX.out.cell (i := 0) rfl (j := 0) rfl; have f2_0 : World.frozen? _ ⟨g2, 0, none⟩ = false := BX.out.frozen (i := 0) rfl 0) | fail)
      go_ret
      exact ⟨congrArg (fun z => Ending.returned (Value.int .i64 z)) ((if_neg (of_decide_eq_false ci)).symm.trans HV.out), (Boxes.low (w0 := w) (bs := [(g2, #[.slice A0 l0.length c0], 37)]) (by (with_reducible repeat (first | refine Boxes.drewN ?_ _ | refine Boxes.drew ?_ | refine Boxes.alloc ?_ _)); exact BX.out))⟩
  · rw [if_neg hc] at h
    have HV := Aside0.mk (Option.some.inj h)
    have hcb : (c_ != 0) = true := by simpa using hc
    clear h hc
    go_enter Tryd.func34, Tryd.ntmps34
    go_wp2_with (first | ((with_reducible refine gate_dst (N := 2) rfl ?_); refine box_event ?hg (N := 2) ?hd (cs := #[.slice A0 l0.length c0]) (t := 37) ?hr ?_; (case hd => rfl); (case hg => rfl); (case hr => first | (go_simp; done) | (go_simp; rfl)); intro g2 hg w2_ hbox hb; have BY := Aside0.mk (Boxes.new (w0 := w) (bs := []) (by (with_reducible repeat (first | refine Boxes.drewN ?_ _ | refine Boxes.drew ?_ | refine Boxes.alloc ?_ _)); exact BX.out) hg hbox hb); clear BX hb hbox hg; have BX := BY; clear BY; have q2_0 : World.cell? _ ⟨g2, 0, none⟩ = some (.slice A0 l0.length c0) := BX.out.cell (i := 0) rfl (j := 0) rfl; have f2_0 : World.frozen? _ ⟨g2, 0, none⟩ = false := BX.out.frozen (i := 0) rfl 0) | (go_at_call 55; (with_reducible refine (HT.out _ (Boxes.low (w0 := w) (bs := [(g2, #[.slice A0 l0.length c0], 37)]) (by (with_reducible repeat (first | refine Boxes.drewN ?_ _ | refine Boxes.drew ?_ | refine Boxes.alloc ?_ _)); exact BX.out))).mono ?_); rintro e w7_ ⟨rfl, hb⟩; have BY := Aside0.mk (Boxes.below (w0 := w) (bs := [(g2, #[.slice A0 l0.length c0], 37)]) (by (with_reducible repeat (first | refine Boxes.drewN ?_ _ | refine Boxes.drew ?_ | refine Boxes.alloc ?_ _)); exact BX.out) hb); clear BX hb; have BX := BY; clear BY; clear q2_0 f2_0; have q2_0 : World.cell? _ ⟨g2, 0, none⟩ = some (.slice A0 l0.length c0) := BX.out.cell (i := 0) rfl (j := 0) rfl; have f2_0 : World.frozen? _ ⟨g2, 0, none⟩ = false := BX.out.frozen (i := 0) rfl 0) | (go_at_call 56; (refine (ContainsFuncI.calls A1 c1 l1 57 #[.pointer (some ⟨g2, 0, none⟩)] (impl_placesFault.p l0) i_ _ eg (Kd.C_below HR1.out BX.out.low) (fun x b W hx hb2 => impl_placesFault_lit.calls A0 c0 l0 x b g2 _ W (BX.out.lt (i := 0) rfl) (BX.out.cell (i := 0) rfl (j := 0) rfl) (Kd.C_below HR0.out BX.out.low) hc0 hb2 hx) HI.out).mono ?_); rintro e w9_ ⟨rfl, hb⟩; have BY := Aside0.mk (Boxes.below (w0 := w) (bs := [(g2, #[.slice A0 l0.length c0], 37)]) (by (with_reducible repeat (first | refine Boxes.drewN ?_ _ | refine Boxes.drew ?_ | refine Boxes.alloc ?_ _)); exact BX.out) hb); clear BX hb; have BX := BY; clear BY; clear q2_0 f2_0; have q2_0 : World.cell? _ ⟨g2, 0, none⟩ = some (.slice A0 l0.length c0) := BX.out.cell (i := 0) rfl (j := 0) rfl; have f2_0 : World.frozen? _ ⟨g2, 0, none⟩ = false := BX.out.frozen (i := 0) rfl 0) | fail)
    go_ret
    exact ⟨congrArg (fun z => Ending.returned (Value.int .i64 z)) HV.out, (Boxes.low (w0 := w) (bs := [(g2, #[.slice A0 l0.length c0], 37)]) (by (with_reducible repeat (first | refine Boxes.drewN ?_ _ | refine Boxes.drew ?_ | refine Boxes.alloc ?_ _)); exact BX.out))⟩

/-! ### impl_sizes: function 35 -/
mutual
def impl_sizes.l0 : Nat → List Int → List (S66) → Int → Int → Option (List Int)
 | 0, _, _, _, _ => none
 | k + 1, x3, x10, x11, x12 => if x12 < x11 then (if 0 ≤ x12 then (if x12 < (x10.length : Int) then ((impl_Term_parts.f k ((rd_T66 x10 x12).f0) ((rd_T66 x10 x12).f1) ((rd_T66 x10 x12).f2) ((rd_T66 x10 x12).f3)).bind fun t201 => (impl_sizes.l1 k x3 1 x10 x11 x12 t201 (t201.length : Int) 0)) else (none)) else (none)) else (some x3)
def impl_sizes.l1 : Nat → List Int → Int → List (S66) → Int → Int → List Int → Int → Int → Option (List Int)
 | 0, _, _, _, _, _, _, _, _ => none
 | k + 1, x3, x6, x10, x11, x12, x17, x18, x19 => if x19 < x18 then (if 0 ≤ x19 then (if x19 < (x17.length : Int) then (if 0 ≤ (rd x17 x19) then (if (rd x17 x19) < (x3.length : Int) then (impl_sizes.l1 k x3 (wrap64 (x6 + (rd x3 (rd x17 x19)))) x10 x11 x12 x17 x18 (wrap64 (x19 + 1))) else (none)) else (none)) else (none)) else (none)) else (if x3.length < 17592186044416 then (impl_sizes.l0 k (x3 ++ [mn x6 1000000]) x10 x11 (wrap64 (x12 + 1))) else (none))
end
def impl_sizes.f (k : Nat) (l0 : List (S66)) : Option (List Int) := impl_sizes.l0 k (([] : List Int)) l0 (l0.length : Int) 0
theorem impl_sizes.mono_l : ∀ k, (∀ y0 y1 y2 y3, LeO (impl_sizes.l0 k y0 y1 y2 y3) (impl_sizes.l0 (k + 1) y0 y1 y2 y3)) ∧ (∀ y0 y1 y2 y3 y4 y5 y6 y7, LeO (impl_sizes.l1 k y0 y1 y2 y3 y4 y5 y6 y7) (impl_sizes.l1 (k + 1) y0 y1 y2 y3 y4 y5 y6 y7))
 | 0 => ⟨fun _ _ _ _ r h => by simp [impl_sizes.l0] at h, fun _ _ _ _ _ _ _ _ r h => by simp [impl_sizes.l1] at h⟩
 | k + 1 => by
  obtain ⟨ih0, ih1⟩ := impl_sizes.mono_l k
  refine ⟨?_, ?_⟩
  ·
   intro y0 y1 y2 y3
   unfold impl_sizes.l0
   repeat' first
   | (with_reducible exact ih0 _ _ _ _)
   | (with_reducible exact ih1 _ _ _ _ _ _ _ _)
   | (with_reducible exact impl_Term_parts.mono _ _ _ _ _)
   | (with_reducible exact LeO.refl _)
   | (with_reducible exact LeO.none _)
   | (with_reducible refine LeO.ite ?_ ?_)
   | (with_reducible refine LeO.bind ?_ (fun _ => ?_))
   | exact ih0 _ _ _ _
   | exact ih1 _ _ _ _ _ _ _ _
   | exact impl_Term_parts.mono _ _ _ _ _
   | exact LeO.none _
   | refine LeO.ite ?_ ?_
   | refine LeO.bind ?_ (fun _ => ?_)
  ·
   intro y0 y1 y2 y3 y4 y5 y6 y7
   unfold impl_sizes.l1
   repeat' first
   | (with_reducible exact ih0 _ _ _ _)
   | (with_reducible exact ih1 _ _ _ _ _ _ _ _)
   | (with_reducible exact impl_Term_parts.mono _ _ _ _ _)
   | (with_reducible exact LeO.refl _)
   | (with_reducible exact LeO.none _)
   | (with_reducible refine LeO.ite ?_ ?_)
   | (with_reducible refine LeO.bind ?_ (fun _ => ?_))
   | exact ih0 _ _ _ _
   | exact ih1 _ _ _ _ _ _ _ _
   | exact impl_Term_parts.mono _ _ _ _ _
   | exact LeO.none _
   | refine LeO.ite ?_ ?_
   | refine LeO.bind ?_ (fun _ => ?_)
theorem impl_sizes.mono : ∀ a0 k, LeO (impl_sizes.f k a0) (impl_sizes.f (k + 1) a0) := by
 intro a0 k
 obtain ⟨ih0, ih1⟩ := impl_sizes.mono_l k
 unfold impl_sizes.f
 repeat' first
   | (with_reducible exact ih0 _ _ _ _)
   | (with_reducible exact ih1 _ _ _ _ _ _ _ _)
   | (with_reducible exact impl_Term_parts.mono _ _ _ _ _)
   | (with_reducible exact LeO.refl _)
   | (with_reducible exact LeO.none _)
   | (with_reducible refine LeO.ite ?_ ?_)
   | (with_reducible refine LeO.bind ?_ (fun _ => ?_))
   | exact ih0 _ _ _ _
   | exact ih1 _ _ _ _ _ _ _ _
   | exact impl_Term_parts.mono _ _ _ _ _
   | exact LeO.none _
   | refine LeO.ite ?_ ?_
   | refine LeO.bind ?_ (fun _ => ?_)
set_option maxHeartbeats 8000000 in
set_option maxRecDepth 100000 in
theorem impl_sizes.calls (k : Nat) (A0 : Option Addr) (c0 : Nat) (l0 : List (S66)) (r : List Int) (w : World) (hr0 : Kd.C k66 w A0 l0.length l0) (hc0 : l0.length ≤ c0) (h : impl_sizes.f k l0 = some r) :
  Calls Tryd.prog 35 #[.slice A0 l0.length c0] w fun e w' => ∃ v0_ : Value, e = .returned (v0_) ∧ Kd.R (Kd.int .i64) 2 w' w.heap.size (fun _ => True) v0_ r ∧ Below w.heap.size w w' := by
 have hu66 := Tryd.underlying66
 have HR0 := Aside0.mk hr0
 have HC0 := Aside0.mk hc0
 clear hr0 hc0
 have HB := Aside0.mk (Below.refl w.heap.size w)
 have H : (impl_sizes.l0 k (([] : List Int)) l0 (l0.length : Int) 0) = some r := h
 clear h
 obtain ⟨y196, hy196⟩ : ∃ y_ : List Int, y_ = (([] : List Int)) := ⟨_, rfl⟩
 replace H : (impl_sizes.l0 k y196 l0 (l0.length : Int) 0) = some r := by first | (rw [hy196]; with_reducible exact H) | (have H2_ := (Option.bind_some _ _).symm.trans H; rw [hy196]; with_reducible exact H2_) | (have H2_ := (Option.bind_some _ _).symm.trans H; with_reducible exact H2_) | with_reducible exact H | (rw [hy196]; exact H) | exact H
 have Ny196 := Aside0.mk hy196
 clear hy196
 have H' := Aside0.mk H
 clear H
 go_enter Tryd.func35, Tryd.ntmps35
 go_wp2_with (first | ((with_reducible refine gate_dst (N := 9) rfl ?_); refine Kd.R_lit (Kd.int .i64) _ 2 ?hg (N := 9) ?hd (xs := ([] : List Int)) (inner := []) (ok := fun _ => True) (okp := fun _ => True) ?hr ?hp (fun _ hk => hk) trivial (Below.refl _ _) (Nat.le_refl _) (by simp) ?_; (case hd => rfl); (case hg => rfl); (case hr => first | (go_simp; done) | (go_simp; rfl)); (case hp => exact (Reps.none _ _)); intro v197 w2 ho3 hb hg_ hnew_; clear hg_ hnew_; (first | rw [← Ny196.out] at ho3 | (simp only [Int.reduceToNat] at ho3; rw [← Ny196.out] at ho3)); have n0_ := Aside0.mk (Kd.R_lower ho3 (below_size (by repeat (first | (with_reducible first | exact HB.out | apply below_alloc | apply pw_below_drewN | apply below_drew1) | exact HB.out)))); have n1_ := Aside0.mk (below_step (by repeat (first | (with_reducible first | exact HB.out | apply below_alloc | apply pw_below_drewN | apply below_drew1) | exact HB.out)) hb); clear HB; have HO198 := n0_; have HB := n1_; clear n0_ n1_; clear hb ho3))
 go_loopg [3, 12] k (fun kq v3 v12 w' => ∃ (x3_1 : List Int) (x12_1 : Int), v12 = .int .i64 x12_1 ∧ Aside0 (impl_sizes.l0 kq x3_1 l0 (l0.length : Int) x12_1 = some r) ∧ Aside0 (kq ≤ k) ∧ Aside0 (Kd.R (Kd.int .i64) 2 w' w.heap.size (fun _ => True) v3 x3_1) ∧ Aside0 (Below w.heap.size w w'))
 case atStart => exact ⟨(y196), (0), (by first | rfl | (simp; done) | (simp [*]; done)), H', ⟨Nat.le_refl _⟩, ⟨by (with_reducible repeat (first | apply Kd.R_alloc | apply Kd.R_drewN | apply Kd.R_drew)); exact HO198.out⟩, ⟨by repeat (first | (with_reducible first | exact HB.out | apply below_alloc | apply pw_below_drewN | apply below_drew1) | exact HB.out)⟩⟩
 case round =>
  clear H'
  try clear p2; try clear c3
  obtain ⟨x3_1, x12_1, rfl, HA, HK1, HO_3, HB⟩ := hrel
  cases gk with
  | zero => exact absurd HA.out (by simp [impl_sizes.l0])
  | succ k1 =>
   have H := HA.out
   clear HA
   simp only [impl_sizes.l0] at H
   by_cases c4 : x12_1 < (l0.length : Int)
   ·
    rw [if_pos c4] at H
    have c4b0 : decide (x12_1 < (l0.length : Int)) = true := decide_eq_true c4
    clear c4
    by_cases c5 : 0 ≤ x12_1
    ·
     rw [if_pos c5] at H
     have c5b0 : decide (0 ≤ x12_1) = true := decide_eq_true c5
     clear c5
     by_cases c6 : x12_1 < (l0.length : Int)
     ·
      rw [if_pos c6] at H
      have c6b0 : decide (x12_1 < (l0.length : Int)) = true := decide_eq_true c6
      clear c6
      replace H := Option.bind_eq_some_iff.mp H
      obtain ⟨t201, A70, H⟩ := H
      replace H : (impl_sizes.l1 k1 x3_1 1 l0 (l0.length : Int) x12_1 t201 (t201.length : Int) 0) = some r := H
      have A7 := Aside0.mk A70
      clear A70
      have H' := Aside0.mk H
      clear H
      have p199 : 0 ≤ (x12_1 : Int) := of_decide_eq_true (by first | (with_reducible assumption) | assumption)
      have q199 : x12_1 < (l0.length : Int) := of_decide_eq_true (by first | (with_reducible assumption) | assumption)
      obtain ⟨ad199, e199, hx199_0, hx199_1, hx199_2, hx199_3⟩ := at_T66 HR0.out x12_1 p199 q199
      cases e199
      replace hx199_0 := (HB.out.cell (World.block_lt_of_cell? w _ hx199_0)).trans hx199_0
      replace hx199_1 := (HB.out.cell (World.block_lt_of_cell? w _ hx199_1)).trans hx199_1
      replace hx199_2 := (HB.out.cell (World.block_lt_of_cell? w _ hx199_2)).trans hx199_2
      replace hx199_3 := (HB.out.cell (World.block_lt_of_cell? w _ hx199_3)).trans hx199_3
      replace p199 := eq_true p199
      replace q199 := eq_true q199
      go_wp2_with (first | ((with_reducible refine gate_dst (N := 5) rfl ?_); refine box_event ?hg (N := 5) ?hd (cs := #[.int .i64 0, .int .i64 0, .int .i64 0, .int .i64 0]) (t := 66) ?hr ?_; (case hd => rfl); (case hg => rfl); (case hr => first | (go_simp; done) | (go_simp; rfl)); intro gb200 hg w8 hbox hb; have n0_ := Aside0.mk (Kd.R_below (by (with_reducible repeat (first | apply Kd.R_alloc | apply Kd.R_drewN | apply Kd.R_drew)); exact HO_3.out) hb); have n1_ := Aside0.mk (below_step (by repeat (first | (with_reducible first | exact HB.out | apply below_alloc | apply pw_below_drewN | apply below_drew1) | exact HB.out)) hb); have n2_ := Aside0.mk (hbox); have n3_ := Aside0.mk ((by rw [hg]; exact (below_size (by repeat (first | (with_reducible first | exact HB.out | apply below_alloc | apply pw_below_drewN | apply below_drew1) | exact HB.out))) : w.heap.size ≤ gb200)); have n4_ := Aside0.mk ((by rw [hg]; exact (below_size (by repeat (first | (with_reducible first | exact HB.out | apply below_alloc | apply pw_below_drewN | apply below_drew1) | exact HB.out))) : w.heap.size ≤ gb200)); clear HO_3; clear HB; have HO_3 := n0_; have HB := n1_; have BK200 := n2_; have GW200 := n3_; have GE200 := n4_; clear n0_ n1_ n2_ n3_ n4_; clear hb hbox hg; obtain ⟨hcz9_0, hcz9_1, hcz9_2, hcz9_3⟩ := blk_c4 BK200.out; obtain ⟨hfz9_0, hfz9_1, hfz9_2, hfz9_3⟩ := blk_f4 BK200.out) | ((with_reducible refine gate_callee (f := 59) rfl ?_); refine goesL_ (some 17) rfl rfl Tryd.func59 (by kernel_rfl) rfl #[.agg #[.int .i64 ((rd_T66 l0 x12_1).f0), .int .i64 ((rd_T66 l0 x12_1).f1), .int .i64 ((rd_T66 l0 x12_1).f2), .int .i64 ((rd_T66 l0 x12_1).f3)]] rfl (by (try simp only [List.map_toArray, List.map_cons, List.map_nil]); first | done | rfl | (simp only [List.length_drop, List.length_take]; rfl)) ?_; (with_reducible refine (impl_Term_parts.calls k1 ((rd_T66 l0 x12_1).f0) ((rd_T66 l0 x12_1).f1) ((rd_T66 l0 x12_1).f2) ((rd_T66 l0 x12_1).f3) t201 _ A7.out).mono ?_); rintro e w10 ⟨v202, rfl, ho0, hb⟩; refine ⟨_, rfl, ?_⟩; have n0_ := Aside0.mk (Kd.R_elder' (by (with_reducible repeat (first | apply Kd.R_alloc | apply Kd.R_drewN | apply Kd.R_drew)); exact (Kd.R_mono (Kd.R_far (p := ⟨gb200, 3, none⟩) (Kd.R_far (p := ⟨gb200, 2, none⟩) (Kd.R_far (p := ⟨gb200, 1, none⟩) (Kd.R_far (p := ⟨gb200, 0, none⟩) (Kd.R_types HO_3.out BK200.out (by decide)) (fun _ hk => hk.2) (.int .i64 ((rd_T66 l0 x12_1).f0))) (fun _ hk => hk.2) (.int .i64 ((rd_T66 l0 x12_1).f1))) (fun _ hk => hk.2) (.int .i64 ((rd_T66 l0 x12_1).f2))) (fun _ hk => hk.2) (.int .i64 ((rd_T66 l0 x12_1).f3))) (fun _ h_ => h_.1))) (Kd.R_base ho0) hb); have n1_ := Aside0.mk (Kd.R_lower (Kd.R_new' ho0 (Kd.R_lt (by (with_reducible repeat (first | apply Kd.R_alloc | apply Kd.R_drewN | apply Kd.R_drew)); exact (Kd.R_mono (Kd.R_far (p := ⟨gb200, 3, none⟩) (Kd.R_far (p := ⟨gb200, 2, none⟩) (Kd.R_far (p := ⟨gb200, 1, none⟩) (Kd.R_far (p := ⟨gb200, 0, none⟩) (Kd.R_types HO_3.out BK200.out (by decide)) (fun _ hk => hk.2) (.int .i64 ((rd_T66 l0 x12_1).f0))) (fun _ hk => hk.2) (.int .i64 ((rd_T66 l0 x12_1).f1))) (fun _ hk => hk.2) (.int .i64 ((rd_T66 l0 x12_1).f2))) (fun _ hk => hk.2) (.int .i64 ((rd_T66 l0 x12_1).f3))) (fun _ h_ => h_.1))))) (below_size (by repeat (first | (with_reducible first | exact HB.out | apply below_alloc | apply pw_below_drewN | apply below_drew1 | refine below_set ?_ GE200.out) | exact HB.out)))); have n2_ := Aside0.mk (blk_below (g := gb200) (o := .cells #[.int .i64 ((rd_T66 l0 x12_1).f0), .int .i64 ((rd_T66 l0 x12_1).f1), .int .i64 ((rd_T66 l0 x12_1).f2), .int .i64 ((rd_T66 l0 x12_1).f3)] 66 (0, 0)) (by (with_reducible repeat (first | refine blk_drewN ?_ _ | refine blk_drew ?_ | refine blk_alloc ?_ _)); refine blk_put (cs := #[.int .i64 ((rd_T66 l0 x12_1).f0), .int .i64 ((rd_T66 l0 x12_1).f1), .int .i64 ((rd_T66 l0 x12_1).f2), .int .i64 0]) ?_ 3 _ rfl; (with_reducible repeat (first | refine blk_drewN ?_ _ | refine blk_drew ?_ | refine blk_alloc ?_ _)); refine blk_put (cs := #[.int .i64 ((rd_T66 l0 x12_1).f0), .int .i64 ((rd_T66 l0 x12_1).f1), .int .i64 0, .int .i64 0]) ?_ 2 _ rfl; (with_reducible repeat (first | refine blk_drewN ?_ _ | refine blk_drew ?_ | refine blk_alloc ?_ _)); refine blk_put (cs := #[.int .i64 ((rd_T66 l0 x12_1).f0), .int .i64 0, .int .i64 0, .int .i64 0]) ?_ 1 _ rfl; (with_reducible repeat (first | refine blk_drewN ?_ _ | refine blk_drew ?_ | refine blk_alloc ?_ _)); refine blk_put (cs := #[.int .i64 0, .int .i64 0, .int .i64 0, .int .i64 0]) ?_ 0 _ rfl; (with_reducible repeat (first | refine blk_drewN ?_ _ | refine blk_drew ?_ | refine blk_alloc ?_ _)); exact BK200.out) hb); have n3_ := Aside0.mk (below_step (by repeat (first | (with_reducible first | exact HB.out | apply below_alloc | apply pw_below_drewN | apply below_drew1 | refine below_set ?_ GE200.out) | exact HB.out)) hb); clear HO_3; clear BK200; clear HB; have HO_3 := n0_; have HO203 := n1_; have BK200 := n2_; have HB := n3_; clear n0_ n1_ n2_ n3_; (try clear hb); (try clear hb2); (try clear hk); (try clear hi); (try clear ho0); obtain ⟨Ao11, co11, eo11⟩ := Kd.R_slice HO203.out; subst eo11))
      go_loopg [6, 19] k1 (fun kq v6 v19 w' => ∃ (x6_2 : Int) (x19_2 : Int), v6 = .int .i64 x6_2 ∧ v19 = .int .i64 x19_2 ∧ Aside0 (impl_sizes.l1 kq x3_1 x6_2 l0 (l0.length : Int) x12_1 t201 (t201.length : Int) x19_2 = some r) ∧ Aside0 (kq ≤ k1) ∧ Aside0 (Kd.R (Kd.int .i64) 2 w' w.heap.size (fun k_ => some k_ ≠ ((.slice Ao11 t201.length co11) : Value).ownBlock) u3 x3_1) ∧ Aside0 (Kd.R (Kd.int .i64) 2 w' w.heap.size (fun k_ => some k_ ≠ (u3 : Value).ownBlock) (.slice Ao11 t201.length co11) t201) ∧ Aside0 (w'.heap[gb200]? = some (.cells #[.int .i64 ((rd_T66 l0 x12_1).f0), .int .i64 ((rd_T66 l0 x12_1).f1), .int .i64 ((rd_T66 l0 x12_1).f2), .int .i64 ((rd_T66 l0 x12_1).f3)] 66 (0, 0))) ∧ Aside0 (Below w.heap.size w w'))
      case atStart => exact ⟨(1), (0), (by first | rfl | (simp; done) | (simp [*]; done)), (by first | rfl | (simp; done) | (simp [*]; done)), H', ⟨Nat.le_refl _⟩, ⟨by (with_reducible repeat (first | apply Kd.R_alloc | apply Kd.R_drewN | apply Kd.R_drew)); exact Kd.R_mono HO_3.out (fun _ hk => hk.2)⟩, ⟨by (with_reducible repeat (first | apply Kd.R_alloc | apply Kd.R_drewN | apply Kd.R_drew)); exact Kd.R_mono HO203.out (fun _ hk => hk.2)⟩, ⟨by (with_reducible repeat (first | refine blk_drewN ?_ _ | refine blk_drew ?_ | refine blk_alloc ?_ _)); exact BK200.out⟩, ⟨by repeat (first | (with_reducible first | exact HB.out | apply below_alloc | apply pw_below_drewN | apply below_drew1 | refine below_set ?_ GE200.out) | exact HB.out)⟩⟩
      case round =>
       clear H'
       try clear p1; try clear q1; try clear hx1; try clear p2; try clear c3; try clear c4; try clear c4b0; try clear c5; try clear c5b0; try clear c6; try clear c6b0; try clear hcz9_0; try clear hcz9_1; try clear hcz9_2; try clear hcz9_3; try clear hfz9_0; try clear hfz9_1; try clear hfz9_2; try clear hfz9_3; try clear hx199_0; try clear hx199_1; try clear hx199_2; try clear hx199_3; try clear p199; try clear p2; try clear q199
       obtain ⟨x6_2, x19_2, rfl, rfl, HA, HK2, HO_3, HO_17, BK200, HB⟩ := hrel
       cases gk with
       | zero => exact absurd HA.out (by simp [impl_sizes.l1])
       | succ k2 =>
        have H := HA.out
        clear HA
        simp only [impl_sizes.l1] at H
        by_cases c12 : x19_2 < (t201.length : Int)
        ·
         rw [if_pos c12] at H
         have c12b0 : decide (x19_2 < (t201.length : Int)) = true := decide_eq_true c12
         clear c12
         by_cases c13 : 0 ≤ x19_2
         ·
          rw [if_pos c13] at H
          have c13b0 : decide (0 ≤ x19_2) = true := decide_eq_true c13
          clear c13
          by_cases c14 : x19_2 < (t201.length : Int)
          ·
           rw [if_pos c14] at H
           have c14b0 : decide (x19_2 < (t201.length : Int)) = true := decide_eq_true c14
           clear c14
           by_cases c15 : 0 ≤ (rd t201 x19_2)
           ·
            rw [if_pos c15] at H
            have c15b0 : decide (0 ≤ (rd t201 x19_2)) = true := decide_eq_true c15
            clear c15
            by_cases c16 : (rd t201 x19_2) < (x3_1.length : Int)
            ·
             rw [if_pos c16] at H
             have c16b0 : decide ((rd t201 x19_2) < (x3_1.length : Int)) = true := decide_eq_true c16
             clear c16
             have H' := Aside0.mk H
             clear H
             have p204 : 0 ≤ (x19_2 : Int) := of_decide_eq_true (by first | (with_reducible assumption) | assumption)
             have q204 : x19_2 < (t201.length : Int) := of_decide_eq_true (by first | (with_reducible assumption) | assumption)
             obtain ⟨ad204, e204, hx204_0⟩ := Kd.at_int (Kd.R_reads' HO_17.out).2.2 x19_2 p204 q204
             cases e204
             replace p204 := eq_true p204
             replace q204 := eq_true q204
             obtain ⟨Ao17, co17, eo17⟩ := Kd.R_slice HO_3.out
             subst eo17
             have p205 : 0 ≤ ((rd t201 x19_2) : Int) := of_decide_eq_true (by first | (with_reducible assumption) | assumption)
             have q205 : (rd t201 x19_2) < (x3_1.length : Int) := of_decide_eq_true (by first | (with_reducible assumption) | assumption)
             obtain ⟨ad205, e205, hx205_0⟩ := Kd.at_int (Kd.R_reads' HO_3.out).2.2 (rd t201 x19_2) p205 q205
             cases e205
             replace p205 := eq_true p205
             replace q205 := eq_true q205
             go_wp2
             go_roundg k2
             case measure => have := HK1.out; have := HK2.out; omega
             case rel => exact ⟨(wrap64 (x6_2 + (rd x3_1 (rd t201 x19_2)))), (wrap64 (x19_2 + 1)), (by first | rfl | (simp; done) | (simp [*]; done)), (by first | rfl | (simp; done) | (simp [*]; done)), H', ⟨by have := HK1.out; have := HK2.out; omega⟩, ⟨by (with_reducible repeat (first | apply Kd.R_alloc | apply Kd.R_drewN | apply Kd.R_drew)); exact HO_3.out⟩, ⟨by (with_reducible repeat (first | apply Kd.R_alloc | apply Kd.R_drewN | apply Kd.R_drew)); exact HO_17.out⟩, ⟨by (with_reducible repeat (first | refine blk_drewN ?_ _ | refine blk_drew ?_ | refine blk_alloc ?_ _)); exact BK200.out⟩, ⟨by repeat (first | (with_reducible first | exact HB.out | apply below_alloc | apply pw_below_drewN | apply below_drew1 | refine below_set ?_ GE200.out) | exact HB.out)⟩⟩
            ·
             rw [if_neg c16] at H
             exact absurd H (by simp)
           ·
            rw [if_neg c15] at H
            exact absurd H (by simp)
          ·
           rw [if_neg c14] at H
           exact absurd H (by simp)
         ·
          rw [if_neg c13] at H
          exact absurd H (by simp)
        ·
         rw [if_neg c12] at H
         have c12b0 : decide (x19_2 < (t201.length : Int)) = false := decide_eq_false c12
         clear c12
         obtain ⟨ji18, hji18⟩ : ∃ j_ : Int, (mn x6_2 1000000) = j_ := ⟨_, rfl⟩
         replace H : (if x3_1.length < 17592186044416 then (impl_sizes.l0 k2 (x3_1 ++ [ji18]) l0 (l0.length : Int) (wrap64 (x12_1 + 1))) else (none)) = some r := by first | (rw [hji18] at H; exact H) | (simp only [hji18] at H ⊢; exact H)
         have hji18_ : (if 1000000 < x6_2 then 1000000 else x6_2) = ji18 := hji18
         by_cases c19 : x3_1.length < 17592186044416
         ·
          rw [if_pos c19] at H
          have LMc19 := Aside0.mk c19
          clear c19
          obtain ⟨y206, hy206⟩ : ∃ y_ : List Int, y_ = (x3_1 ++ [ji18]) := ⟨_, rfl⟩
          replace H : (impl_sizes.l0 k2 y206 l0 (l0.length : Int) (wrap64 (x12_1 + 1))) = some r := by first | (rw [hy206]; with_reducible exact H) | (have H2_ := (Option.bind_some _ _).symm.trans H; rw [hy206]; with_reducible exact H2_) | (have H2_ := (Option.bind_some _ _).symm.trans H; with_reducible exact H2_) | with_reducible exact H | (rw [hy206]; exact H) | exact H
          have Ny206 := Aside0.mk hy206
          clear hy206
          have H' := Aside0.mk H
          clear H
          go_wp2_with (first | ((with_reducible refine gate_builtin (b := .append) (xs := #[.tmp 30, .tmp 33]) rfl ?_); at_builtin; refine Kd.R_append (Kd.int .i64) (w0 := w) w.heap.size rfl (.tmp 30) (.tmp 33) 62 2 (.int .i64 0) 8 rfl Tryd.underlying62 info2 rfl (by decide) (by omega) u3 x3_1 ji18 [.int .i64 ji18] (fun k_ => some k_ ≠ (.slice Ao11 t201.length co11 : Value).ownBlock) (fun _ => False) rfl rfl ?aP (fun _ hk => hk.elim) ?aF ?aO ?aB ?aS ?aL ?_; (case aP => exact rfl); (case aB => exact (by repeat (first | (with_reducible first | exact HB.out | apply below_alloc | apply pw_below_drewN | apply below_drew1 | refine below_set ?_ GE200.out) | exact HB.out))); (case aF => exact (fun k_ hk => Kd.fresh' (Kd.R_lt (by (with_reducible repeat (first | apply Kd.R_alloc | apply Kd.R_drewN | apply Kd.R_drew)); exact HO_17.out)) k_ hk)); (case aO => exact (by (with_reducible repeat (first | apply Kd.R_alloc | apply Kd.R_drewN | apply Kd.R_drew)); exact HO_3.out)); (case aS => exact (below_size (by repeat (first | (with_reducible first | exact HB.out | apply below_alloc | apply pw_below_drewN | apply below_drew1 | refine below_set ?_ GE200.out) | exact HB.out)))); (case aL => have := LMc19.out; omega); intro v207 w20 ho hb hg hat; rw [← Ny206.out] at ho; have n0_ := Aside0.mk (Kd.R_after (ok := (fun _ => True)) (by (with_reducible repeat (first | apply Kd.R_alloc | apply Kd.R_drewN | apply Kd.R_drew)); exact Kd.R_mono HO_17.out (fun _ hk => ⟨trivial, hk⟩)) hg hat); have n1_ := Aside0.mk (blk_grown (g := gb200) (o := .cells #[.int .i64 ((rd_T66 l0 x12_1).f0), .int .i64 ((rd_T66 l0 x12_1).f1), .int .i64 ((rd_T66 l0 x12_1).f2), .int .i64 ((rd_T66 l0 x12_1).f3)] 66 (0, 0)) (by (with_reducible repeat (first | refine blk_drewN ?_ _ | refine blk_drew ?_ | refine blk_alloc ?_ _)); exact BK200.out) hg (Kd.R_ne HO_3.out BK200.out (by decide))); have n2_ := Aside0.mk (hb); have n3_ := Aside0.mk (ho); clear HO_17; clear BK200; clear HB; clear HO_3; have HO_17 := n0_; have BK200 := n1_; have HB := n2_; have HO208 := n3_; clear n0_ n1_ n2_ n3_; clear ho hb hg hat))
          go_roundg k2
          case measure => have := HK1.out; have := HK2.out; omega
          case rel => exact ⟨(y206), (wrap64 (x12_1 + 1)), (by first | rfl | (simp; done) | (simp [*]; done)), H', ⟨by have := HK1.out; have := HK2.out; omega⟩, ⟨by (with_reducible repeat (first | apply Kd.R_alloc | apply Kd.R_drewN | apply Kd.R_drew)); exact Kd.R_mono HO208.out (fun _ hk => trivial)⟩, ⟨by repeat (first | (with_reducible first | exact HB.out | apply below_alloc | apply pw_below_drewN | apply below_drew1 | refine below_set ?_ GE200.out) | exact HB.out)⟩⟩
         ·
          rw [if_neg c19] at H
          exact absurd H (by simp)
     ·
      rw [if_neg c6] at H
      exact absurd H (by simp)
    ·
     rw [if_neg c5] at H
     exact absurd H (by simp)
   ·
    rw [if_neg c4] at H
    have c4b0 : decide (x12_1 < (l0.length : Int)) = false := decide_eq_false c4
    clear c4
    obtain rfl := Option.some.inj H
    go_wp2
    go_ret
    exact ⟨_, by first | rfl | (simp [errW_none, errW_some] <;> rfl) | (simp [*, errW_none, errW_some] <;> rfl), by (with_reducible repeat (first | apply Kd.R_alloc | apply Kd.R_drewN | apply Kd.R_drew)); exact HO_3.out, by repeat (first | (with_reducible first | exact HB.out | apply below_alloc | apply pw_below_drewN | apply below_drew1) | exact HB.out)⟩

/-! ### strconv_FormatInt: function 71 (my own text) -/
def strconv_FormatInt.f (a0 a1 : Int) : Option ByteArray := if a1 = 10 ∧ -9223372036854775808 ≤ a0 ∧ a0 ≤ 9223372036854775807 then some ⟨(Lib.itoa a0).toArray⟩ else none
theorem strconv_FormatInt.calls (a0 a1 : Int) (r : ByteArray) (w : World) (h : strconv_FormatInt.f a0 a1 = some r)
    (hT : Tb w := by exact Tb.on HT (by repeat (first | (with_reducible first | exact HB.out | apply below_alloc | apply pw_below_drewN | apply below_drew1 | refine below_set ?_ (Aside0.out (by with_reducible assumption))) | exact HB.out))) :
    Calls Tryd.prog 71 #[.int .i64 a0, .int .i64 a1] w fun e w' => e = .returned (.string r) ∧ Below w.heap.size w w' := by
  unfold strconv_FormatInt.f at h
  by_cases c : a1 = 10 ∧ -9223372036854775808 ≤ a0 ∧ a0 ≤ 9223372036854775807
  · rw [if_pos c] at h
    obtain rfl := Option.some.inj h
    obtain ⟨rfl, c⟩ := c
    refine (Tryd.strconv_FormatInt_10 a0 c.1 c.2 w hT.here).mono ?_
    rintro e w' ⟨rfl, k, os, rfl⟩
    exact ⟨rfl, below_grow k os⟩
  · rw [if_neg c] at h
    cases h

/-! ### impl_decimal: function 47 -/
def impl_decimal.f (a0 : Int) : Option (ByteArray) := (strconv_FormatInt.f a0 10).bind fun t209 => (some t209)
set_option maxHeartbeats 8000000 in
set_option maxRecDepth 100000 in
theorem impl_decimal.calls (a0 : Int) (r : ByteArray) (w : World) (h : impl_decimal.f a0 = some r) (HT : Tb w := by exact Tb.on HT (by repeat (first | (with_reducible first | exact HB.out | apply below_alloc | apply pw_below_drewN | apply below_drew1 | refine below_set ?_ (Aside0.out (by with_reducible assumption))) | exact HB.out))) :
  Calls Tryd.prog 47 #[.int .i64 a0] w fun e w' => e = .returned (.string r) ∧ Below w.heap.size w w' := by
 have HB := Aside0.mk (Below.refl w.heap.size w)
 have H : ((strconv_FormatInt.f a0 10).bind fun t209 => (some t209)) = some r := h
 clear h
 replace H := Option.bind_eq_some_iff.mp H
 obtain ⟨t209, A20, H⟩ := H
 replace H : (some t209) = some r := H
 have A2 := Aside0.mk A20
 clear A20
 obtain rfl := Option.some.inj H
 go_enter Tryd.func47, Tryd.ntmps47
 go_wp2_with (first | ((with_reducible refine gate_callee (f := 71) rfl ?_); refine goesL_ (some 4) rfl rfl Tryd.func71 (by kernel_rfl) rfl #[.int .i64 a0, .int .i64 10] rfl (by (try simp only [List.map_toArray, List.map_cons, List.map_nil]); first | done | rfl | (simp only [List.length_drop, List.length_take]; rfl)) ?_; (with_reducible refine (strconv_FormatInt.calls a0 10 t209 _ A2.out).mono ?_); rintro e w3 ⟨rfl, hb⟩; refine ⟨_, rfl, ?_⟩; have n0_ := Aside0.mk (below_step (by repeat (first | (with_reducible first | exact HB.out | apply below_alloc | apply pw_below_drewN | apply below_drew1) | exact HB.out)) hb); clear HB; have HB := n0_; clear n0_; (try clear hb); (try clear hb2); (try clear hk); (try clear hi)))
 go_ret
 exact ⟨by first | rfl | (simp [errW_none, errW_some] <;> rfl) | (simp [*, errW_none, errW_some] <;> rfl), by repeat (first | (with_reducible first | exact HB.out | apply below_alloc | apply pw_below_drewN | apply below_drew1) | exact HB.out)⟩

/-! ### impl_ordered: function 61 -/
def impl_ordered.f (l0 : List (S66)) (a1_0 : Int) (a1_1 : Int) (a1_2 : Int) (a1_3 : Int) : Option (Int × Int) := if 0 ≤ a1_2 then (if a1_2 < (l0.length : Int) then (if 0 ≤ a1_1 then (if a1_1 < (l0.length : Int) then (if ((rd_T66 l0 a1_2).f3) < ((rd_T66 l0 a1_1).f3) then (some (a1_2, a1_1)) else (some (a1_1, a1_2))) else (none)) else (none)) else (none)) else (none)
set_option maxHeartbeats 8000000 in
set_option maxRecDepth 100000 in
theorem impl_ordered.calls (A0 : Option Addr) (c0 : Nat) (l0 : List (S66)) (a1_0 : Int) (a1_1 : Int) (a1_2 : Int) (a1_3 : Int) (r1 : Int) (r2 : Int) (w : World) (hr0 : Kd.C k66 w A0 l0.length l0) (hc0 : l0.length ≤ c0) (h : impl_ordered.f l0 a1_0 a1_1 a1_2 a1_3 = some (r1, r2)) :
  Calls Tryd.prog 61 #[.slice A0 l0.length c0, .agg #[.int .i64 a1_0, .int .i64 a1_1, .int .i64 a1_2, .int .i64 a1_3]] w fun e w' => e = .returned (.tuple #[.int .i64 r1, .int .i64 r2]) ∧ Below w.heap.size w w' := by
 have hu66 := Tryd.underlying66
 have HR0 := Aside0.mk hr0
 have HC0 := Aside0.mk hc0
 clear hr0 hc0
 have HB := Aside0.mk (Below.refl w.heap.size w)
 have H : (if 0 ≤ a1_2 then (if a1_2 < (l0.length : Int) then (if 0 ≤ a1_1 then (if a1_1 < (l0.length : Int) then (if ((rd_T66 l0 a1_2).f3) < ((rd_T66 l0 a1_1).f3) then (some (a1_2, a1_1)) else (some (a1_1, a1_2))) else (none)) else (none)) else (none)) else (none)) = some (r1, r2) := h
 clear h
 by_cases c3 : 0 ≤ a1_2
 ·
  rw [if_pos c3] at H
  have c3b0 : decide (0 ≤ a1_2) = true := decide_eq_true c3
  clear c3
  by_cases c4 : a1_2 < (l0.length : Int)
  ·
   rw [if_pos c4] at H
   have c4b0 : decide (a1_2 < (l0.length : Int)) = true := decide_eq_true c4
   clear c4
   by_cases c5 : 0 ≤ a1_1
   ·
    rw [if_pos c5] at H
    have c5b0 : decide (0 ≤ a1_1) = true := decide_eq_true c5
    clear c5
    by_cases c6 : a1_1 < (l0.length : Int)
    ·
     rw [if_pos c6] at H
     have c6b0 : decide (a1_1 < (l0.length : Int)) = true := decide_eq_true c6
     clear c6
     by_cases c7 : ((rd_T66 l0 a1_2).f3) < ((rd_T66 l0 a1_1).f3)
     ·
      rw [if_pos c7] at H
      have c7b0 : decide (((rd_T66 l0 a1_2).f3) < ((rd_T66 l0 a1_1).f3)) = true := decide_eq_true c7
      clear c7
      simp only [Option.some.injEq, Prod.mk.injEq] at H
      obtain ⟨rfl, rfl⟩ := H
      go_enter Tryd.func61, Tryd.ntmps61
      go_wp2_with (first | ((with_reducible refine gate_dst (N := 3) rfl ?_); refine box_event ?hg (N := 3) ?hd (cs := #[.int .i64 a1_0, .int .i64 a1_1, .int .i64 a1_2, .int .i64 a1_3]) (t := 66) ?hr ?_; (case hd => rfl); (case hg => rfl); (case hr => first | (go_simp; done) | (go_simp; rfl)); intro gb210 hg w8 hbox hb; have n0_ := Aside0.mk (below_step (by repeat (first | (with_reducible first | exact HB.out | apply below_alloc | apply pw_below_drewN | apply below_drew1) | exact HB.out)) hb); have n1_ := Aside0.mk (hbox); have n2_ := Aside0.mk ((by rw [hg]; exact (below_size (by repeat (first | (with_reducible first | exact HB.out | apply below_alloc | apply pw_below_drewN | apply below_drew1) | exact HB.out))) : w.heap.size ≤ gb210)); have n3_ := Aside0.mk ((by rw [hg]; exact (below_size (by repeat (first | (with_reducible first | exact HB.out | apply below_alloc | apply pw_below_drewN | apply below_drew1) | exact HB.out))) : w.heap.size ≤ gb210)); clear HB; have HB := n0_; have BK210 := n1_; have GW210 := n2_; have GE210 := n3_; clear n0_ n1_ n2_ n3_; clear hb hbox hg; obtain ⟨hcz9_0, hcz9_1, hcz9_2, hcz9_3⟩ := blk_c4 BK210.out; obtain ⟨hfz9_0, hfz9_1, hfz9_2, hfz9_3⟩ := blk_f4 BK210.out; have p211 : 0 ≤ (a1_2 : Int) := of_decide_eq_true (by first | (with_reducible assumption) | assumption); have q211 : a1_2 < (l0.length : Int) := of_decide_eq_true (by first | (with_reducible assumption) | assumption); obtain ⟨ad211, e211, hx211_0, hx211_1, hx211_2, hx211_3⟩ := at_T66 HR0.out a1_2 p211 q211; cases e211; replace hx211_0 := (HB.out.cell (World.block_lt_of_cell? w _ hx211_0)).trans hx211_0; replace hx211_1 := (HB.out.cell (World.block_lt_of_cell? w _ hx211_1)).trans hx211_1; replace hx211_2 := (HB.out.cell (World.block_lt_of_cell? w _ hx211_2)).trans hx211_2; replace hx211_3 := (HB.out.cell (World.block_lt_of_cell? w _ hx211_3)).trans hx211_3; replace p211 := eq_true p211; replace q211 := eq_true q211; have p212 : 0 ≤ (a1_1 : Int) := of_decide_eq_true (by first | (with_reducible assumption) | assumption); have q212 : a1_1 < (l0.length : Int) := of_decide_eq_true (by first | (with_reducible assumption) | assumption); obtain ⟨ad212, e212, hx212_0, hx212_1, hx212_2, hx212_3⟩ := at_T66 HR0.out a1_1 p212 q212; obtain rfl : ad211 = ad212 := (by injection e212); replace hx212_0 := (HB.out.cell (World.block_lt_of_cell? w _ hx212_0)).trans hx212_0; replace hx212_1 := (HB.out.cell (World.block_lt_of_cell? w _ hx212_1)).trans hx212_1; replace hx212_2 := (HB.out.cell (World.block_lt_of_cell? w _ hx212_2)).trans hx212_2; replace hx212_3 := (HB.out.cell (World.block_lt_of_cell? w _ hx212_3)).trans hx212_3; replace p212 := eq_true p212; replace q212 := eq_true q212))
      repeat (go_quiet (first | ((with_reducible refine gate_dst (N := 3) rfl ?_); refine box_event ?hg (N := 3) ?hd (cs := #[.int .i64 a1_0, .int .i64 a1_1, .int .i64 a1_2, .int .i64 a1_3]) (t := 66) ?hr ?_; (case hd => rfl); (case hg => rfl); (case hr => first | (go_simp; done) | (go_simp; rfl)); intro gb210 hg w8 hbox hb; have n0_ := Aside0.mk (below_step (by repeat (first | (with_reducible first | exact HB.out | apply below_alloc | apply pw_below_drewN | apply below_drew1) | exact HB.out)) hb); have n1_ := Aside0.mk (hbox); have n2_ := Aside0.mk ((by rw [hg]; exact (below_size (by repeat (first | (with_reducible first | exact HB.out | apply below_alloc | apply pw_below_drewN | apply below_drew1) | exact HB.out))) : w.heap.size ≤ gb210)); have n3_ := Aside0.mk ((by rw [hg]; exact (below_size (by repeat (first | (with_reducible first | exact HB.out | apply below_alloc | apply pw_below_drewN | apply below_drew1) | exact HB.out))) : w.heap.size ≤ gb210)); clear HB; have HB := n0_; have BK210 := n1_; have GW210 := n2_; have GE210 := n3_; clear n0_ n1_ n2_ n3_; clear hb hbox hg; obtain ⟨hcz9_0, hcz9_1, hcz9_2, hcz9_3⟩ := blk_c4 BK210.out; obtain ⟨hfz9_0, hfz9_1, hfz9_2, hfz9_3⟩ := blk_f4 BK210.out; have p211 : 0 ≤ (a1_2 : Int) := of_decide_eq_true (by first | (with_reducible assumption) | assumption); have q211 : a1_2 < (l0.length : Int) := of_decide_eq_true (by first | (with_reducible assumption) | assumption); obtain ⟨ad211, e211, hx211_0, hx211_1, hx211_2, hx211_3⟩ := at_T66 HR0.out a1_2 p211 q211; cases e211; replace hx211_0 := (HB.out.cell (World.block_lt_of_cell? w _ hx211_0)).trans hx211_0; replace hx211_1 := (HB.out.cell (World.block_lt_of_cell? w _ hx211_1)).trans hx211_1; replace hx211_2 := (HB.out.cell (World.block_lt_of_cell? w _ hx211_2)).trans hx211_2; replace hx211_3 := (HB.out.cell (World.block_lt_of_cell? w _ hx211_3)).trans hx211_3; replace p211 := eq_true p211; replace q211 := eq_true q211; have p212 : 0 ≤ (a1_1 : Int) := of_decide_eq_true (by first | (with_reducible assumption) | assumption); have q212 : a1_1 < (l0.length : Int) := of_decide_eq_true (by first | (with_reducible assumption) | assumption); obtain ⟨ad212, e212, hx212_0, hx212_1, hx212_2, hx212_3⟩ := at_T66 HR0.out a1_1 p212 q212; obtain rfl : ad211 = ad212 := (by injection e212); replace hx212_0 := (HB.out.cell (World.block_lt_of_cell? w _ hx212_0)).trans hx212_0; replace hx212_1 := (HB.out.cell (World.block_lt_of_cell? w _ hx212_1)).trans hx212_1; replace hx212_2 := (HB.out.cell (World.block_lt_of_cell? w _ hx212_2)).trans hx212_2; replace hx212_3 := (HB.out.cell (World.block_lt_of_cell? w _ hx212_3)).trans hx212_3; replace p212 := eq_true p212; replace q212 := eq_true q212)); try go_wp2_with (first | ((with_reducible refine gate_dst (N := 3) rfl ?_); refine box_event ?hg (N := 3) ?hd (cs := #[.int .i64 a1_0, .int .i64 a1_1, .int .i64 a1_2, .int .i64 a1_3]) (t := 66) ?hr ?_; (case hd => rfl); (case hg => rfl); (case hr => first | (go_simp; done) | (go_simp; rfl)); intro gb210 hg w8 hbox hb; have n0_ := Aside0.mk (below_step (by repeat (first | (with_reducible first | exact HB.out | apply below_alloc | apply pw_below_drewN | apply below_drew1) | exact HB.out)) hb); have n1_ := Aside0.mk (hbox); have n2_ := Aside0.mk ((by rw [hg]; exact (below_size (by repeat (first | (with_reducible first | exact HB.out | apply below_alloc | apply pw_below_drewN | apply below_drew1) | exact HB.out))) : w.heap.size ≤ gb210)); have n3_ := Aside0.mk ((by rw [hg]; exact (below_size (by repeat (first | (with_reducible first | exact HB.out | apply below_alloc | apply pw_below_drewN | apply below_drew1) | exact HB.out))) : w.heap.size ≤ gb210)); clear HB; have HB := n0_; have BK210 := n1_; have GW210 := n2_; have GE210 := n3_; clear n0_ n1_ n2_ n3_; clear hb hbox hg; obtain ⟨hcz9_0, hcz9_1, hcz9_2, hcz9_3⟩ := blk_c4 BK210.out; obtain ⟨hfz9_0, hfz9_1, hfz9_2, hfz9_3⟩ := blk_f4 BK210.out; have p211 : 0 ≤ (a1_2 : Int) := of_decide_eq_true (by first | (with_reducible assumption) | assumption); have q211 : a1_2 < (l0.length : Int) := of_decide_eq_true (by first | (with_reducible assumption) | assumption); obtain ⟨ad211, e211, hx211_0, hx211_1, hx211_2, hx211_3⟩ := at_T66 HR0.out a1_2 p211 q211; cases e211; replace hx211_0 := (HB.out.cell (World.block_lt_of_cell? w _ hx211_0)).trans hx211_0; replace hx211_1 := (HB.out.cell (World.block_lt_of_cell? w _ hx211_1)).trans hx211_1; replace hx211_2 := (HB.out.cell (World.block_lt_of_cell? w _ hx211_2)).trans hx211_2; replace hx211_3 := (HB.out.cell (World.block_lt_of_cell? w _ hx211_3)).trans hx211_3; replace p211 := eq_true p211; replace q211 := eq_true q211; have p212 : 0 ≤ (a1_1 : Int) := of_decide_eq_true (by first | (with_reducible assumption) | assumption); have q212 : a1_1 < (l0.length : Int) := of_decide_eq_true (by first | (with_reducible assumption) | assumption); obtain ⟨ad212, e212, hx212_0, hx212_1, hx212_2, hx212_3⟩ := at_T66 HR0.out a1_1 p212 q212; obtain rfl : ad211 = ad212 := (by injection e212); replace hx212_0 := (HB.out.cell (World.block_lt_of_cell? w _ hx212_0)).trans hx212_0; replace hx212_1 := (HB.out.cell (World.block_lt_of_cell? w _ hx212_1)).trans hx212_1; replace hx212_2 := (HB.out.cell (World.block_lt_of_cell? w _ hx212_2)).trans hx212_2; replace hx212_3 := (HB.out.cell (World.block_lt_of_cell? w _ hx212_3)).trans hx212_3; replace p212 := eq_true p212; replace q212 := eq_true q212)))
      go_ret2
      exact ⟨by first | rfl | (simp [errW_none, errW_some] <;> rfl) | (simp [*, errW_none, errW_some] <;> rfl), by repeat (first | (with_reducible first | exact HB.out | apply below_alloc | apply pw_below_drewN | apply below_drew1 | refine below_set ?_ GE210.out) | exact HB.out)⟩
     ·
      rw [if_neg c7] at H
      have c7b0 : decide (((rd_T66 l0 a1_2).f3) < ((rd_T66 l0 a1_1).f3)) = false := decide_eq_false c7
      clear c7
      simp only [Option.some.injEq, Prod.mk.injEq] at H
      obtain ⟨rfl, rfl⟩ := H
      go_enter Tryd.func61, Tryd.ntmps61
      go_wp2_with (first | ((with_reducible refine gate_dst (N := 3) rfl ?_); refine box_event ?hg (N := 3) ?hd (cs := #[.int .i64 a1_0, .int .i64 a1_1, .int .i64 a1_2, .int .i64 a1_3]) (t := 66) ?hr ?_; (case hd => rfl); (case hg => rfl); (case hr => first | (go_simp; done) | (go_simp; rfl)); intro gb210 hg w10 hbox hb; have n0_ := Aside0.mk (below_step (by repeat (first | (with_reducible first | exact HB.out | apply below_alloc | apply pw_below_drewN | apply below_drew1) | exact HB.out)) hb); have n1_ := Aside0.mk (hbox); have n2_ := Aside0.mk ((by rw [hg]; exact (below_size (by repeat (first | (with_reducible first | exact HB.out | apply below_alloc | apply pw_below_drewN | apply below_drew1) | exact HB.out))) : w.heap.size ≤ gb210)); have n3_ := Aside0.mk ((by rw [hg]; exact (below_size (by repeat (first | (with_reducible first | exact HB.out | apply below_alloc | apply pw_below_drewN | apply below_drew1) | exact HB.out))) : w.heap.size ≤ gb210)); clear HB; have HB := n0_; have BK210 := n1_; have GW210 := n2_; have GE210 := n3_; clear n0_ n1_ n2_ n3_; clear hb hbox hg; obtain ⟨hcz11_0, hcz11_1, hcz11_2, hcz11_3⟩ := blk_c4 BK210.out; obtain ⟨hfz11_0, hfz11_1, hfz11_2, hfz11_3⟩ := blk_f4 BK210.out; have p211 : 0 ≤ (a1_2 : Int) := of_decide_eq_true (by first | (with_reducible assumption) | assumption); have q211 : a1_2 < (l0.length : Int) := of_decide_eq_true (by first | (with_reducible assumption) | assumption); obtain ⟨ad211, e211, hx211_0, hx211_1, hx211_2, hx211_3⟩ := at_T66 HR0.out a1_2 p211 q211; cases e211; replace hx211_0 := (HB.out.cell (World.block_lt_of_cell? w _ hx211_0)).trans hx211_0; replace hx211_1 := (HB.out.cell (World.block_lt_of_cell? w _ hx211_1)).trans hx211_1; replace hx211_2 := (HB.out.cell (World.block_lt_of_cell? w _ hx211_2)).trans hx211_2; replace hx211_3 := (HB.out.cell (World.block_lt_of_cell? w _ hx211_3)).trans hx211_3; replace p211 := eq_true p211; replace q211 := eq_true q211; have p212 : 0 ≤ (a1_1 : Int) := of_decide_eq_true (by first | (with_reducible assumption) | assumption); have q212 : a1_1 < (l0.length : Int) := of_decide_eq_true (by first | (with_reducible assumption) | assumption); obtain ⟨ad212, e212, hx212_0, hx212_1, hx212_2, hx212_3⟩ := at_T66 HR0.out a1_1 p212 q212; obtain rfl : ad211 = ad212 := (by injection e212); replace hx212_0 := (HB.out.cell (World.block_lt_of_cell? w _ hx212_0)).trans hx212_0; replace hx212_1 := (HB.out.cell (World.block_lt_of_cell? w _ hx212_1)).trans hx212_1; replace hx212_2 := (HB.out.cell (World.block_lt_of_cell? w _ hx212_2)).trans hx212_2; replace hx212_3 := (HB.out.cell (World.block_lt_of_cell? w _ hx212_3)).trans hx212_3; replace p212 := eq_true p212; replace q212 := eq_true q212))
      repeat (go_quiet (first | ((with_reducible refine gate_dst (N := 3) rfl ?_); refine box_event ?hg (N := 3) ?hd (cs := #[.int .i64 a1_0, .int .i64 a1_1, .int .i64 a1_2, .int .i64 a1_3]) (t := 66) ?hr ?_; (case hd => rfl); (case hg => rfl); (case hr => first | (go_simp; done) | (go_simp; rfl)); intro gb210 hg w10 hbox hb; have n0_ := Aside0.mk (below_step (by repeat (first | (with_reducible first | exact HB.out | apply below_alloc | apply pw_below_drewN | apply below_drew1) | exact HB.out)) hb); have n1_ := Aside0.mk (hbox); have n2_ := Aside0.mk ((by rw [hg]; exact (below_size (by repeat (first | (with_reducible first | exact HB.out | apply below_alloc | apply pw_below_drewN | apply below_drew1) | exact HB.out))) : w.heap.size ≤ gb210)); have n3_ := Aside0.mk ((by rw [hg]; exact (below_size (by repeat (first | (with_reducible first | exact HB.out | apply below_alloc | apply pw_below_drewN | apply below_drew1) | exact HB.out))) : w.heap.size ≤ gb210)); clear HB; have HB := n0_; have BK210 := n1_; have GW210 := n2_; have GE210 := n3_; clear n0_ n1_ n2_ n3_; clear hb hbox hg; obtain ⟨hcz11_0, hcz11_1, hcz11_2, hcz11_3⟩ := blk_c4 BK210.out; obtain ⟨hfz11_0, hfz11_1, hfz11_2, hfz11_3⟩ := blk_f4 BK210.out; have p211 : 0 ≤ (a1_2 : Int) := of_decide_eq_true (by first | (with_reducible assumption) | assumption); have q211 : a1_2 < (l0.length : Int) := of_decide_eq_true (by first | (with_reducible assumption) | assumption); obtain ⟨ad211, e211, hx211_0, hx211_1, hx211_2, hx211_3⟩ := at_T66 HR0.out a1_2 p211 q211; cases e211; replace hx211_0 := (HB.out.cell (World.block_lt_of_cell? w _ hx211_0)).trans hx211_0; replace hx211_1 := (HB.out.cell (World.block_lt_of_cell? w _ hx211_1)).trans hx211_1; replace hx211_2 := (HB.out.cell (World.block_lt_of_cell? w _ hx211_2)).trans hx211_2; replace hx211_3 := (HB.out.cell (World.block_lt_of_cell? w _ hx211_3)).trans hx211_3; replace p211 := eq_true p211; replace q211 := eq_true q211; have p212 : 0 ≤ (a1_1 : Int) := of_decide_eq_true (by first | (with_reducible assumption) | assumption); have q212 : a1_1 < (l0.length : Int) := of_decide_eq_true (by first | (with_reducible assumption) | assumption); obtain ⟨ad212, e212, hx212_0, hx212_1, hx212_2, hx212_3⟩ := at_T66 HR0.out a1_1 p212 q212; obtain rfl : ad211 = ad212 := (by injection e212); replace hx212_0 := (HB.out.cell (World.block_lt_of_cell? w _ hx212_0)).trans hx212_0; replace hx212_1 := (HB.out.cell (World.block_lt_of_cell? w _ hx212_1)).trans hx212_1; replace hx212_2 := (HB.out.cell (World.block_lt_of_cell? w _ hx212_2)).trans hx212_2; replace hx212_3 := (HB.out.cell (World.block_lt_of_cell? w _ hx212_3)).trans hx212_3; replace p212 := eq_true p212; replace q212 := eq_true q212)); try go_wp2_with (first | ((with_reducible refine gate_dst (N := 3) rfl ?_); refine box_event ?hg (N := 3) ?hd (cs := #[.int .i64 a1_0, .int .i64 a1_1, .int .i64 a1_2, .int .i64 a1_3]) (t := 66) ?hr ?_; (case hd => rfl); (case hg => rfl); (case hr => first | (go_simp; done) | (go_simp; rfl)); intro gb210 hg w10 hbox hb; have n0_ := Aside0.mk (below_step (by repeat (first | (with_reducible first | exact HB.out | apply below_alloc | apply pw_below_drewN | apply below_drew1) | exact HB.out)) hb); have n1_ := Aside0.mk (hbox); have n2_ := Aside0.mk ((by rw [hg]; exact (below_size (by repeat (first | (with_reducible first | exact HB.out | apply below_alloc | apply pw_below_drewN | apply below_drew1) | exact HB.out))) : w.heap.size ≤ gb210)); have n3_ := Aside0.mk ((by rw [hg]; exact (below_size (by repeat (first | (with_reducible first | exact HB.out | apply below_alloc | apply pw_below_drewN | apply below_drew1) | exact HB.out))) : w.heap.size ≤ gb210)); clear HB; have HB := n0_; have BK210 := n1_; have GW210 := n2_; have GE210 := n3_; clear n0_ n1_ n2_ n3_; clear hb hbox hg; obtain ⟨hcz11_0, hcz11_1, hcz11_2, hcz11_3⟩ := blk_c4 BK210.out; obtain ⟨hfz11_0, hfz11_1, hfz11_2, hfz11_3⟩ := blk_f4 BK210.out; have p211 : 0 ≤ (a1_2 : Int) := of_decide_eq_true (by first | (with_reducible assumption) | assumption); have q211 : a1_2 < (l0.length : Int) := of_decide_eq_true (by first | (with_reducible assumption) | assumption); obtain ⟨ad211, e211, hx211_0, hx211_1, hx211_2, hx211_3⟩ := at_T66 HR0.out a1_2 p211 q211; cases e211; replace hx211_0 := (HB.out.cell (World.block_lt_of_cell? w _ hx211_0)).trans hx211_0; replace hx211_1 := (HB.out.cell (World.block_lt_of_cell? w _ hx211_1)).trans hx211_1; replace hx211_2 := (HB.out.cell (World.block_lt_of_cell? w _ hx211_2)).trans hx211_2; replace hx211_3 := (HB.out.cell (World.block_lt_of_cell? w _ hx211_3)).trans hx211_3; replace p211 := eq_true p211; replace q211 := eq_true q211; have p212 : 0 ≤ (a1_1 : Int) := of_decide_eq_true (by first | (with_reducible assumption) | assumption); have q212 : a1_1 < (l0.length : Int) := of_decide_eq_true (by first | (with_reducible assumption) | assumption); obtain ⟨ad212, e212, hx212_0, hx212_1, hx212_2, hx212_3⟩ := at_T66 HR0.out a1_1 p212 q212; obtain rfl : ad211 = ad212 := (by injection e212); replace hx212_0 := (HB.out.cell (World.block_lt_of_cell? w _ hx212_0)).trans hx212_0; replace hx212_1 := (HB.out.cell (World.block_lt_of_cell? w _ hx212_1)).trans hx212_1; replace hx212_2 := (HB.out.cell (World.block_lt_of_cell? w _ hx212_2)).trans hx212_2; replace hx212_3 := (HB.out.cell (World.block_lt_of_cell? w _ hx212_3)).trans hx212_3; replace p212 := eq_true p212; replace q212 := eq_true q212)))
      go_ret2
      exact ⟨by first | rfl | (simp [errW_none, errW_some] <;> rfl) | (simp [*, errW_none, errW_some] <;> rfl), by repeat (first | (with_reducible first | exact HB.out | apply below_alloc | apply pw_below_drewN | apply below_drew1 | refine below_set ?_ GE210.out) | exact HB.out)⟩
    ·
     rw [if_neg c6] at H
     exact absurd H (by simp)
   ·
    rw [if_neg c5] at H
    exact absurd H (by simp)
  ·
   rw [if_neg c4] at H
   exact absurd H (by simp)
 ·
  rw [if_neg c3] at H
  exact absurd H (by simp)

end Go.Proofs.YtbficbiignpnoaaDoor.PFnExactTermText
