-- Written by wip/tools/myprint.py of this claim's session, over the kit's print, round texts of its own: own text.
import Derived.Test.YtihipdmjacplfaaPFnExactOccursInx0
import Derived.Test.YtihipdmjacplfaaPFnExactOccursInx5
import Derived.Test.YtihipdmjacplfaaPFnExactOccursInx6
namespace Go.Proofs.Ytihipdmjacplfaa.PFnExactOccursIn
open Go.RowKit Go.Proofs.YtihipdmjacplfaaW.PrintWords Go.Proofs.YtihipdmjacplfaaW.PrintLast Go.Proofs.YtihipdmjacplfaaW.PrintMore
attribute [local go_sem] max2_int min2_int max_two min_two max_three min_three max_four min_four   -- for this text's walks alone
set_option linter.unusedVariables false
set_option linter.unusedSimpArgs false

/-! ### impl_TermsFault: function 21 (my own text) -/
def impl_TermsFault.l : List S66 → List S66 → Option Int
  | _, [] => some 0
  | seen, t :: ts => (impl_Term_fault.f t.f0 t.f1 t.f2 t.f3 seen).bind fun c => if c = 0 then (if okT t = true then (if seen.any (eqT t) = true then some 7 else impl_TermsFault.l (seen ++ [t]) ts) else none) else some c
def impl_TermsFault.f (l0 : List S66) : Option Int := if 400 < l0.length then some 2 else impl_TermsFault.l [] l0
theorem impl_TermsFault_many (A0 : Option Addr) (c0 : Nat) (l0 : List S66) (w : World) (hm : l0.length ≤ 9223372036854775807) (h : 400 < l0.length) :
    Calls Try.prog 21 #[.slice A0 l0.length c0] w fun e w' => e = .returned (.int .i64 2) ∧ Below w.heap.size w w' := by
  have hq : decide ((l0.length : Int) > 400) = true := decide_eq_true (by omega)
  clear h
  go_enter Try.func21, Try.ntmps21
  go_wp2
  go_ret
  exact ⟨rfl, Below.refl _ _⟩
theorem zeroB_ (w : World) : (zeroValue 4).run Try.prog w = .ok (.bool false) w := by kernel_rfl
set_option maxHeartbeats 8000000 in
set_option maxRecDepth 100000 in
theorem impl_TermsFault.calls (A0 : Option Addr) (c0 : Nat) (l0 : List S66) (r : Int) (w : World) (hr0 : Kd.C k66 w A0 l0.length l0) (hc0 : l0.length ≤ c0) (h : impl_TermsFault.f l0 = some r) :
    Calls Try.prog 21 #[.slice A0 l0.length c0] w fun e w' => e = .returned (.int .i64 r) ∧ Below w.heap.size w w' := by
  have hm : l0.length ≤ 9223372036854775807 := hr0.2.1
  unfold impl_TermsFault.f at h
  by_cases h400 : 400 < l0.length
  · rw [if_pos h400] at h
    obtain rfl := Option.some.inj h
    exact impl_TermsFault_many A0 c0 l0 w hm h400
  · rw [if_neg h400] at h
    have hq : decide ((l0.length : Int) > 400) = false := decide_eq_false (by omega)
    have HR0 := Aside0.mk hr0
    have H0 := Aside0.mk h
    clear hr0 h
    have hmm := @run_makeMap Try.prog
    go_enter Try.func21, Try.ntmps21
    go_wp2
    clear hmm
    go_loopg [13] l0.length (fun gg s13 wr => ∃ kk : Nat, kk ≤ l0.length ∧ l0.length - kk ≤ gg ∧ s13 = .int .i64 kk ∧ Aside0 (Below w.heap.size w wr) ∧ Aside0 (ownsSet Try.prog wr 66 4 encT w.heap.size kk (fun x => (l0.take kk).any (eqT x))) ∧ Aside0 (impl_TermsFault.l (l0.take kk) (l0.drop kk) = some r))
    case atStart => exact ⟨0, Nat.zero_le _, by omega, rfl, ⟨(Below.refl _ _).alloc (Nat.le_refl _) _⟩, ⟨by simpa using ownsSet_made Try.prog w 66 4 encT⟩, ⟨by rw [List.take_zero, List.drop_zero]; exact H0.out⟩⟩
    case round =>
      obtain ⟨kk, hkk, hg, rfl, BW, HS, A⟩ := hrel
      clear H0
      by_cases hlt : kk < l0.length
      · have hltz : (kk : Int) < (l0.length : Int) := by omega
        obtain ⟨ad, e, hx0, hx1, hx2, hx3⟩ := at_T66 HR0.out (kk : Int) (by omega) hltz
        have A2 := A.out
        rw [List.drop_eq_getElem_cons hlt, impl_TermsFault.l, ← getD_at l0 z66 kk hlt] at A2
        have hT : l0.take kk ++ [l0.getD (kk : Int).toNat z66] = l0.take (kk + 1) := by rw [List.take_succ_eq_append_getElem hlt, getD_at l0 z66 kk hlt]
        change (impl_Term_fault.f (rd_T66 l0 (kk : Int)).f0 (rd_T66 l0 (kk : Int)).f1 (rd_T66 l0 (kk : Int)).f2 (rd_T66 l0 (kk : Int)).f3 (l0.take kk)).bind _ = some r at A2
        obtain ⟨c, hc, A3⟩ := Option.bind_eq_some_iff.mp A2
        have hlen : (l0.take kk).length = kk := by rw [List.length_take]; omega
        cases e
        have hcon := fun (W : World) (hb : Below wr.heap.size wr W) => impl_Term_fault.calls (rd_T66 l0 (kk : Int)).f0 (rd_T66 l0 (kk : Int)).f1 (rd_T66 l0 (kk : Int)).f2 (rd_T66 l0 (kk : Int)).f3 (some ad) c0 (l0.take kk) c W (Kd.C_take (Kd.C_below HR0.out (below_step BW.out hb)) (by omega)) (by omega) hc
        simp only [hlen] at hcon
        have HF := Aside0.mk hcon
        clear A A2 hcon hc
        replace hx0 := (BW.out.cell (World.block_lt_of_cell? w _ hx0)).trans hx0
        replace hx1 := (BW.out.cell (World.block_lt_of_cell? w _ hx1)).trans hx1
        replace hx2 := (BW.out.cell (World.block_lt_of_cell? w _ hx2)).trans hx2
        replace hx3 := (BW.out.cell (World.block_lt_of_cell? w _ hx3)).trans hx3
        simp only [Int.toNat_natCast] at hx0 hx1 hx2 hx3
        clear HR0
        have hS : ∀ s : Bool, (l0.take kk).any (eqT (rd_T66 l0 (kk : Int))) = s → (fun x => (l0.take kk).any (eqT x)) (rd_T66 l0 (kk : Int)) = s := fun s h => h
        by_cases hc : c = 0
        · subst hc
          rw [if_pos rfl] at A3
          by_cases hok : okT (l0.getD (kk : Int).toNat z66) = true
          · rw [if_pos hok] at A3
            obtain ⟨kl, hkey⟩ := keyOfT (rd_T66 l0 (kk : Int)) hok
            by_cases hs0 : (l0.take kk).any (eqT (l0.getD (kk : Int).toNat z66)) = true
            · rw [if_pos hs0] at A3
              obtain rfl := Option.some.inj A3
              have hs := hS true hs0
              clear A3 hs0 hS hok
              have hu1 := Try.underlying66
              have hu2 := Try.underlying25
              have p1 : (0 ≤ (kk : Int)) = True := eq_true (by omega)
              have p2 : ((kk : Int) ≤ (c0 : Int)) = True := eq_true (by omega)
              have BX := Aside0.mk (Boxes.start wr)
              go_wp2_with (first | ((with_reducible refine gate_dst (N := 5) rfl ?_); refine box_event ?hg (N := 5) ?hd (cs := #[.int .i64 0, .int .i64 0, .int .i64 0, .int .i64 0]) (t := 66) ?hr ?_; (case hd => rfl); (case hg => rfl); (case hr => first | (go_simp; done) | (go_simp; rfl)); intro g5 hg w5_ hbox hb; have BY := Aside0.mk (Boxes.new (w0 := wr) (bs := []) (by (with_reducible repeat (first | refine Boxes.drewN ?_ _ | refine Boxes.drew ?_ | refine Boxes.alloc ?_ _)); exact BX.out) hg hbox hb); clear BX hb hbox hg; have BX := BY; clear BY; have q5_0 : World.cell? _ ⟨g5, 0, none⟩ = some (.int .i64 0) := BX.out.cell (i := 0) rfl (j := 0) rfl; have f5_0 : World.frozen? _ ⟨g5, 0, none⟩ = false := BX.out.frozen (i := 0) rfl 0; have q5_1 : World.cell? _ ⟨g5, 1, none⟩ = some (.int .i64 0) := BX.out.cell (i := 0) rfl (j := 1) rfl; have f5_1 : World.frozen? _ ⟨g5, 1, none⟩ = false := BX.out.frozen (i := 0) rfl 1; have q5_2 : World.cell? _ ⟨g5, 2, none⟩ = some (.int .i64 0) := BX.out.cell (i := 0) rfl (j := 2) rfl; have f5_2 : World.frozen? _ ⟨g5, 2, none⟩ = false := BX.out.frozen (i := 0) rfl 2; have q5_3 : World.cell? _ ⟨g5, 3, none⟩ = some (.int .i64 0) := BX.out.cell (i := 0) rfl (j := 3) rfl; have f5_3 : World.frozen? _ ⟨g5, 3, none⟩ = false := BX.out.frozen (i := 0) rfl 3) | ((with_reducible refine gate_store (t := 66) (p := 5) rfl ?_); refine boxes_store (w0 := wr) (bs := [(g5, #[.int .i64 (rd_T66 l0 (kk : Int)).f0, .int .i64 (rd_T66 l0 (kk : Int)).f1, .int .i64 (rd_T66 l0 (kk : Int)).f2, .int .i64 (rd_T66 l0 (kk : Int)).f3], 66)]) (W1 := (((World.setCell w5_ ⟨g5, 0, none⟩ (.int .i64 (rd_T66 l0 (kk : Int)).f0)).setCell ⟨g5, 1, none⟩ (.int .i64 (rd_T66 l0 (kk : Int)).f1)).setCell ⟨g5, 2, none⟩ (.int .i64 (rd_T66 l0 (kk : Int)).f2)).setCell ⟨g5, 3, none⟩ (.int .i64 (rd_T66 l0 (kk : Int)).f3)) rfl rfl rfl ?hr ((((Boxes.put (w0 := wr) (b1 := []) (b2 := []) (g := g5) (cs := #[.int .i64 0, .int .i64 0, .int .i64 0, .int .i64 0]) (t := 66) BX.out 0 (.int .i64 (rd_T66 l0 (kk : Int)).f0)).put (b1 := []) 1 (.int .i64 (rd_T66 l0 (kk : Int)).f1)).put (b1 := []) 2 (.int .i64 (rd_T66 l0 (kk : Int)).f2)).put (b1 := []) 3 (.int .i64 (rd_T66 l0 (kk : Int)).f3)) ?_; (case hr => first | (go_simp; done) | (go_simp; rfl)); intro w6_ BY; have BY := Aside0.mk BY; clear BX; have BX := BY; clear BY; clear q5_0 f5_0 q5_1 f5_1 q5_2 f5_2 q5_3 f5_3; have q5_0 : World.cell? _ ⟨g5, 0, none⟩ = some (.int .i64 (rd_T66 l0 (kk : Int)).f0) := BX.out.cell (i := 0) rfl (j := 0) rfl; have f5_0 : World.frozen? _ ⟨g5, 0, none⟩ = false := BX.out.frozen (i := 0) rfl 0; have q5_1 : World.cell? _ ⟨g5, 1, none⟩ = some (.int .i64 (rd_T66 l0 (kk : Int)).f1) := BX.out.cell (i := 0) rfl (j := 1) rfl; have f5_1 : World.frozen? _ ⟨g5, 1, none⟩ = false := BX.out.frozen (i := 0) rfl 1; have q5_2 : World.cell? _ ⟨g5, 2, none⟩ = some (.int .i64 (rd_T66 l0 (kk : Int)).f2) := BX.out.cell (i := 0) rfl (j := 2) rfl; have f5_2 : World.frozen? _ ⟨g5, 2, none⟩ = false := BX.out.frozen (i := 0) rfl 2; have q5_3 : World.cell? _ ⟨g5, 3, none⟩ = some (.int .i64 (rd_T66 l0 (kk : Int)).f3) := BX.out.cell (i := 0) rfl (j := 3) rfl; have f5_3 : World.frozen? _ ⟨g5, 3, none⟩ = false := BX.out.frozen (i := 0) rfl 3) | fail)
              refine start_ (n := 6) (S := fun w' => w'.cell? ⟨g5, 0, none⟩ = some (.int .i64 (rd_T66 l0 (kk : Int)).f0) ∧ w'.cell? ⟨g5, 1, none⟩ = some (.int .i64 (rd_T66 l0 (kk : Int)).f1) ∧ w'.cell? ⟨g5, 2, none⟩ = some (.int .i64 (rd_T66 l0 (kk : Int)).f2) ∧ w'.cell? ⟨g5, 3, none⟩ = some (.int .i64 (rd_T66 l0 (kk : Int)).f3)) (ds := [4]) #[false, false, false, false, false, false] (by kernel_rfl) rfl rfl ⟨q5_0, q5_1, q5_2, q5_3⟩ (fun hHeld => ?_)
              refine pure_ (i := 1) (N := some 19) (v := ?_) (a' := ?_) #[false, true, false, false, false, false] rfl rfl (by kernel_rfl) (fun _ _ _ h => h) (Or.inl ⟨by rfl, ?_⟩) ?_ ?_
              rotate_left
              · intro w'
                go_simp
                with_reducible rfl
              rotate_left
              · simp only [Act.put, List.setIfInBounds_toArray, List.set_cons_zero, List.set_cons_succ, i64_w, i32_w]
                rfl
              refine pure_ (i := 2) (N := some 20) (v := ?_) (a' := ?_) #[false, true, true, false, false, false] rfl rfl (by kernel_rfl) (fun _ _ _ h => h) (Or.inl ⟨by rfl, ?_⟩) ?_ ?_
              rotate_left
              · intro w'
                go_simp
                with_reducible rfl
              rotate_left
              · simp only [Act.put, List.setIfInBounds_toArray, List.set_cons_zero, List.set_cons_succ, i64_w, i32_w]
                rfl
              refine pure_ (i := 3) (N := some 21) (v := ?_) (a' := ?_) #[false, true, true, true, false, false] rfl rfl (by kernel_rfl) (fun _ _ _ h => h) (Or.inl ⟨by rfl, ?_⟩) ?_ ?_
              rotate_left
              · intro w'
                go_simp
                with_reducible rfl
              rotate_left
              · simp only [Act.put, List.setIfInBounds_toArray, List.set_cons_zero, List.set_cons_succ, i64_w, i32_w]
                rfl
              refine take_ (i := 0) (N := some 18) (v := ?_) (a' := ?_) #[true, true, true, true, false, false] rfl rfl (by kernel_rfl) (fun _ _ _ h => h) (Or.inl ⟨by rfl, ?_⟩) hHeld ?_ ?_
              rotate_left
              · rintro w' ⟨s0, s1, s2, s3⟩
                go_simp
                with_reducible rfl
              rotate_left
              · simp only [Act.put, List.setIfInBounds_toArray, List.set_cons_zero, List.set_cons_succ, i64_w, i32_w]
                rfl
              refine last_ (i := 4) (N := some 22) #[true, true, true, true, true, false] rfl rfl (by kernel_rfl) (by decide) (fun K hK => ?_)
              refine goes_ Try.func66 (by kernel_rfl) rfl #[.agg #[.int .i64 (rd_T66 l0 (kk : Int)).f0, .int .i64 (rd_T66 l0 (kk : Int)).f1, .int .i64 (rd_T66 l0 (kk : Int)).f2, .int .i64 (rd_T66 l0 (kk : Int)).f3], .slice (some ad) kk c0] (by rfl) rfl rfl (by simp only [List.map_toArray, List.map_cons, List.map_nil]; rfl) ?_
              with_reducible refine (HF.out _ (Boxes.low (w0 := wr) (bs := [(g5, #[.int .i64 (rd_T66 l0 (kk : Int)).f0, .int .i64 (rd_T66 l0 (kk : Int)).f1, .int .i64 (rd_T66 l0 (kk : Int)).f2, .int .i64 (rd_T66 l0 (kk : Int)).f3], 66)]) (Boxes.drew BX.out))).mono ?_
              rintro e w7_ ⟨rfl, hb⟩
              refine ⟨_, rfl, ?_⟩
              have BY := Aside0.mk (Boxes.below (w0 := wr) (bs := [(g5, #[.int .i64 (rd_T66 l0 (kk : Int)).f0, .int .i64 (rd_T66 l0 (kk : Int)).f1, .int .i64 (rd_T66 l0 (kk : Int)).f2, .int .i64 (rd_T66 l0 (kk : Int)).f3], 66)]) (Boxes.drew BX.out) hb)
              clear BX hb
              have BX := BY
              clear BY
              clear q5_0 f5_0 q5_1 f5_1 q5_2 f5_2 q5_3 f5_3
              have q5_0 : World.cell? _ ⟨g5, 0, none⟩ = some (.int .i64 (rd_T66 l0 (kk : Int)).f0) := BX.out.cell (i := 0) rfl (j := 0) rfl
              have f5_0 : World.frozen? _ ⟨g5, 0, none⟩ = false := BX.out.frozen (i := 0) rfl 0
              have q5_1 : World.cell? _ ⟨g5, 1, none⟩ = some (.int .i64 (rd_T66 l0 (kk : Int)).f1) := BX.out.cell (i := 0) rfl (j := 1) rfl
              have f5_1 : World.frozen? _ ⟨g5, 1, none⟩ = false := BX.out.frozen (i := 0) rfl 1
              have q5_2 : World.cell? _ ⟨g5, 2, none⟩ = some (.int .i64 (rd_T66 l0 (kk : Int)).f2) := BX.out.cell (i := 0) rfl (j := 2) rfl
              have f5_2 : World.frozen? _ ⟨g5, 2, none⟩ = false := BX.out.frozen (i := 0) rfl 2
              have q5_3 : World.cell? _ ⟨g5, 3, none⟩ = some (.int .i64 (rd_T66 l0 (kk : Int)).f3) := BX.out.cell (i := 0) rfl (j := 3) rfl
              have f5_3 : World.frozen? _ ⟨g5, 3, none⟩ = false := BX.out.frozen (i := 0) rfl 3
              refine hK.out _ _ ?_
              clear hK K
              refine norm_ (a' := ?_) ?_ ?_
              rotate_left
              · show Act.put _ (some 22) _ = _
                simp only [Act.put, List.setIfInBounds_toArray, List.set_cons_zero, List.set_cons_succ, i64_w, i32_w]
                rfl
              refine pure_ (i := 5) (N := some 6) (v := ?_) (a' := ?_) #[true, true, true, true, true, true] rfl rfl (by kernel_rfl) (fun _ _ _ h => h) (Or.inl ⟨by rfl, ?_⟩) ?_ ?_
              rotate_left
              · intro w'
                go_simp
                with_reducible rfl
              rotate_left
              · simp only [Act.put, List.setIfInBounds_toArray, List.set_cons_zero, List.set_cons_succ, i64_w, i32_w]
                rfl
              refine done_ (by kernel_rfl) ?_
              go_wp2_with (first | (at_lookup; refine wpList_lookup_set rfl _ _ 70 rfl 66 4 keyedT Try.underlying70 Try.underlying4 (zeroB_ _) (HS.out.below (Boxes.low (w0 := wr) (bs := [(g5, #[.int .i64 (rd_T66 l0 (kk : Int)).f0, .int .i64 (rd_T66 l0 (kk : Int)).f1, .int .i64 (rd_T66 l0 (kk : Int)).f2, .int .i64 (rd_T66 l0 (kk : Int)).f3], 66)]) (by (with_reducible repeat (first | refine Boxes.drewN ?_ _ | refine Boxes.drew ?_ | refine Boxes.alloc ?_ _)); exact BX.out))) rfl (rd_T66 l0 (kk : Int)) rfl hkey (s := true) hs ?_) | fail)
              go_ret
              exact ⟨rfl, below_step BW.out (Boxes.low (w0 := wr) (bs := [(g5, #[.int .i64 (rd_T66 l0 (kk : Int)).f0, .int .i64 (rd_T66 l0 (kk : Int)).f1, .int .i64 (rd_T66 l0 (kk : Int)).f2, .int .i64 (rd_T66 l0 (kk : Int)).f3], 66)]) (by (with_reducible repeat (first | refine Boxes.drewN ?_ _ | refine Boxes.drew ?_ | refine Boxes.alloc ?_ _)); exact BX.out))⟩
            · rw [if_neg hs0] at A3
              have hs := hS false (Bool.eq_false_iff.mpr hs0)
              have A4 : Aside0 (impl_TermsFault.l (l0.take (kk + 1)) (l0.drop (kk + 1)) = some r) := ⟨by rw [← hT]; exact A3⟩
              have hSn : (fun x => (l0.take kk).any (eqT x) || decide (x = (rd_T66 l0 (kk : Int)))) = (fun x => (l0.take (kk + 1)).any (eqT x)) := by
                funext x
                rw [← hT, List.any_append, List.any_cons, List.any_nil, Bool.or_false, eqT_dec]
                rfl
              clear A3 hs0 hS hok
              have hu1 := Try.underlying66
              have hu2 := Try.underlying25
              have p1 : (0 ≤ (kk : Int)) = True := eq_true (by omega)
              have p2 : ((kk : Int) ≤ (c0 : Int)) = True := eq_true (by omega)
              have BX := Aside0.mk (Boxes.start wr)
              go_wp2_with (first | ((with_reducible refine gate_dst (N := 5) rfl ?_); refine box_event ?hg (N := 5) ?hd (cs := #[.int .i64 0, .int .i64 0, .int .i64 0, .int .i64 0]) (t := 66) ?hr ?_; (case hd => rfl); (case hg => rfl); (case hr => first | (go_simp; done) | (go_simp; rfl)); intro g5 hg w5_ hbox hb; have BY := Aside0.mk (Boxes.new (w0 := wr) (bs := []) (by (with_reducible repeat (first | refine Boxes.drewN ?_ _ | refine Boxes.drew ?_ | refine Boxes.alloc ?_ _)); exact BX.out) hg hbox hb); clear BX hb hbox hg; have BX := BY; clear BY; have q5_0 : World.cell? _ ⟨g5, 0, none⟩ = some (.int .i64 0) := BX.out.cell (i := 0) rfl (j := 0) rfl; have f5_0 : World.frozen? _ ⟨g5, 0, none⟩ = false := BX.out.frozen (i := 0) rfl 0; have q5_1 : World.cell? _ ⟨g5, 1, none⟩ = some (.int .i64 0) := BX.out.cell (i := 0) rfl (j := 1) rfl; have f5_1 : World.frozen? _ ⟨g5, 1, none⟩ = false := BX.out.frozen (i := 0) rfl 1; have q5_2 : World.cell? _ ⟨g5, 2, none⟩ = some (.int .i64 0) := BX.out.cell (i := 0) rfl (j := 2) rfl; have f5_2 : World.frozen? _ ⟨g5, 2, none⟩ = false := BX.out.frozen (i := 0) rfl 2; have q5_3 : World.cell? _ ⟨g5, 3, none⟩ = some (.int .i64 0) := BX.out.cell (i := 0) rfl (j := 3) rfl; have f5_3 : World.frozen? _ ⟨g5, 3, none⟩ = false := BX.out.frozen (i := 0) rfl 3) | ((with_reducible refine gate_store (t := 66) (p := 5) rfl ?_); refine boxes_store (w0 := wr) (bs := [(g5, #[.int .i64 (rd_T66 l0 (kk : Int)).f0, .int .i64 (rd_T66 l0 (kk : Int)).f1, .int .i64 (rd_T66 l0 (kk : Int)).f2, .int .i64 (rd_T66 l0 (kk : Int)).f3], 66)]) (W1 := (((World.setCell w5_ ⟨g5, 0, none⟩ (.int .i64 (rd_T66 l0 (kk : Int)).f0)).setCell ⟨g5, 1, none⟩ (.int .i64 (rd_T66 l0 (kk : Int)).f1)).setCell ⟨g5, 2, none⟩ (.int .i64 (rd_T66 l0 (kk : Int)).f2)).setCell ⟨g5, 3, none⟩ (.int .i64 (rd_T66 l0 (kk : Int)).f3)) rfl rfl rfl ?hr ((((Boxes.put (w0 := wr) (b1 := []) (b2 := []) (g := g5) (cs := #[.int .i64 0, .int .i64 0, .int .i64 0, .int .i64 0]) (t := 66) BX.out 0 (.int .i64 (rd_T66 l0 (kk : Int)).f0)).put (b1 := []) 1 (.int .i64 (rd_T66 l0 (kk : Int)).f1)).put (b1 := []) 2 (.int .i64 (rd_T66 l0 (kk : Int)).f2)).put (b1 := []) 3 (.int .i64 (rd_T66 l0 (kk : Int)).f3)) ?_; (case hr => first | (go_simp; done) | (go_simp; rfl)); intro w6_ BY; have BY := Aside0.mk BY; clear BX; have BX := BY; clear BY; clear q5_0 f5_0 q5_1 f5_1 q5_2 f5_2 q5_3 f5_3; have q5_0 : World.cell? _ ⟨g5, 0, none⟩ = some (.int .i64 (rd_T66 l0 (kk : Int)).f0) := BX.out.cell (i := 0) rfl (j := 0) rfl; have f5_0 : World.frozen? _ ⟨g5, 0, none⟩ = false := BX.out.frozen (i := 0) rfl 0; have q5_1 : World.cell? _ ⟨g5, 1, none⟩ = some (.int .i64 (rd_T66 l0 (kk : Int)).f1) := BX.out.cell (i := 0) rfl (j := 1) rfl; have f5_1 : World.frozen? _ ⟨g5, 1, none⟩ = false := BX.out.frozen (i := 0) rfl 1; have q5_2 : World.cell? _ ⟨g5, 2, none⟩ = some (.int .i64 (rd_T66 l0 (kk : Int)).f2) := BX.out.cell (i := 0) rfl (j := 2) rfl; have f5_2 : World.frozen? _ ⟨g5, 2, none⟩ = false := BX.out.frozen (i := 0) rfl 2; have q5_3 : World.cell? _ ⟨g5, 3, none⟩ = some (.int .i64 (rd_T66 l0 (kk : Int)).f3) := BX.out.cell (i := 0) rfl (j := 3) rfl; have f5_3 : World.frozen? _ ⟨g5, 3, none⟩ = false := BX.out.frozen (i := 0) rfl 3) | fail)
              refine start_ (n := 6) (S := fun w' => w'.cell? ⟨g5, 0, none⟩ = some (.int .i64 (rd_T66 l0 (kk : Int)).f0) ∧ w'.cell? ⟨g5, 1, none⟩ = some (.int .i64 (rd_T66 l0 (kk : Int)).f1) ∧ w'.cell? ⟨g5, 2, none⟩ = some (.int .i64 (rd_T66 l0 (kk : Int)).f2) ∧ w'.cell? ⟨g5, 3, none⟩ = some (.int .i64 (rd_T66 l0 (kk : Int)).f3)) (ds := [4]) #[false, false, false, false, false, false] (by kernel_rfl) rfl rfl ⟨q5_0, q5_1, q5_2, q5_3⟩ (fun hHeld => ?_)
              refine pure_ (i := 1) (N := some 19) (v := ?_) (a' := ?_) #[false, true, false, false, false, false] rfl rfl (by kernel_rfl) (fun _ _ _ h => h) (Or.inl ⟨by rfl, ?_⟩) ?_ ?_
              rotate_left
              · intro w'
                go_simp
                with_reducible rfl
              rotate_left
              · simp only [Act.put, List.setIfInBounds_toArray, List.set_cons_zero, List.set_cons_succ, i64_w, i32_w]
                rfl
              refine pure_ (i := 2) (N := some 20) (v := ?_) (a' := ?_) #[false, true, true, false, false, false] rfl rfl (by kernel_rfl) (fun _ _ _ h => h) (Or.inl ⟨by rfl, ?_⟩) ?_ ?_
              rotate_left
              · intro w'
                go_simp
                with_reducible rfl
              rotate_left
              · simp only [Act.put, List.setIfInBounds_toArray, List.set_cons_zero, List.set_cons_succ, i64_w, i32_w]
                rfl
              refine pure_ (i := 3) (N := some 21) (v := ?_) (a' := ?_) #[false, true, true, true, false, false] rfl rfl (by kernel_rfl) (fun _ _ _ h => h) (Or.inl ⟨by rfl, ?_⟩) ?_ ?_
              rotate_left
              · intro w'
                go_simp
                with_reducible rfl
              rotate_left
              · simp only [Act.put, List.setIfInBounds_toArray, List.set_cons_zero, List.set_cons_succ, i64_w, i32_w]
                rfl
              refine take_ (i := 0) (N := some 18) (v := ?_) (a' := ?_) #[true, true, true, true, false, false] rfl rfl (by kernel_rfl) (fun _ _ _ h => h) (Or.inl ⟨by rfl, ?_⟩) hHeld ?_ ?_
              rotate_left
              · rintro w' ⟨s0, s1, s2, s3⟩
                go_simp
                with_reducible rfl
              rotate_left
              · simp only [Act.put, List.setIfInBounds_toArray, List.set_cons_zero, List.set_cons_succ, i64_w, i32_w]
                rfl
              refine last_ (i := 4) (N := some 22) #[true, true, true, true, true, false] rfl rfl (by kernel_rfl) (by decide) (fun K hK => ?_)
              refine goes_ Try.func66 (by kernel_rfl) rfl #[.agg #[.int .i64 (rd_T66 l0 (kk : Int)).f0, .int .i64 (rd_T66 l0 (kk : Int)).f1, .int .i64 (rd_T66 l0 (kk : Int)).f2, .int .i64 (rd_T66 l0 (kk : Int)).f3], .slice (some ad) kk c0] (by rfl) rfl rfl (by simp only [List.map_toArray, List.map_cons, List.map_nil]; rfl) ?_
              with_reducible refine (HF.out _ (Boxes.low (w0 := wr) (bs := [(g5, #[.int .i64 (rd_T66 l0 (kk : Int)).f0, .int .i64 (rd_T66 l0 (kk : Int)).f1, .int .i64 (rd_T66 l0 (kk : Int)).f2, .int .i64 (rd_T66 l0 (kk : Int)).f3], 66)]) (Boxes.drew BX.out))).mono ?_
              rintro e w7_ ⟨rfl, hb⟩
              refine ⟨_, rfl, ?_⟩
              have BY := Aside0.mk (Boxes.below (w0 := wr) (bs := [(g5, #[.int .i64 (rd_T66 l0 (kk : Int)).f0, .int .i64 (rd_T66 l0 (kk : Int)).f1, .int .i64 (rd_T66 l0 (kk : Int)).f2, .int .i64 (rd_T66 l0 (kk : Int)).f3], 66)]) (Boxes.drew BX.out) hb)
              clear BX hb
              have BX := BY
              clear BY
              clear q5_0 f5_0 q5_1 f5_1 q5_2 f5_2 q5_3 f5_3
              have q5_0 : World.cell? _ ⟨g5, 0, none⟩ = some (.int .i64 (rd_T66 l0 (kk : Int)).f0) := BX.out.cell (i := 0) rfl (j := 0) rfl
              have f5_0 : World.frozen? _ ⟨g5, 0, none⟩ = false := BX.out.frozen (i := 0) rfl 0
              have q5_1 : World.cell? _ ⟨g5, 1, none⟩ = some (.int .i64 (rd_T66 l0 (kk : Int)).f1) := BX.out.cell (i := 0) rfl (j := 1) rfl
              have f5_1 : World.frozen? _ ⟨g5, 1, none⟩ = false := BX.out.frozen (i := 0) rfl 1
              have q5_2 : World.cell? _ ⟨g5, 2, none⟩ = some (.int .i64 (rd_T66 l0 (kk : Int)).f2) := BX.out.cell (i := 0) rfl (j := 2) rfl
              have f5_2 : World.frozen? _ ⟨g5, 2, none⟩ = false := BX.out.frozen (i := 0) rfl 2
              have q5_3 : World.cell? _ ⟨g5, 3, none⟩ = some (.int .i64 (rd_T66 l0 (kk : Int)).f3) := BX.out.cell (i := 0) rfl (j := 3) rfl
              have f5_3 : World.frozen? _ ⟨g5, 3, none⟩ = false := BX.out.frozen (i := 0) rfl 3
              refine hK.out _ _ ?_
              clear hK K
              refine norm_ (a' := ?_) ?_ ?_
              rotate_left
              · show Act.put _ (some 22) _ = _
                simp only [Act.put, List.setIfInBounds_toArray, List.set_cons_zero, List.set_cons_succ, i64_w, i32_w]
                rfl
              refine pure_ (i := 5) (N := some 6) (v := ?_) (a' := ?_) #[true, true, true, true, true, true] rfl rfl (by kernel_rfl) (fun _ _ _ h => h) (Or.inl ⟨by rfl, ?_⟩) ?_ ?_
              rotate_left
              · intro w'
                go_simp
                with_reducible rfl
              rotate_left
              · simp only [Act.put, List.setIfInBounds_toArray, List.set_cons_zero, List.set_cons_succ, i64_w, i32_w]
                rfl
              refine done_ (by kernel_rfl) ?_
              go_wp2_with (first | (at_lookup; refine wpList_lookup_set rfl _ _ 70 rfl 66 4 keyedT Try.underlying70 Try.underlying4 (zeroB_ _) (HS.out.below (Boxes.low (w0 := wr) (bs := [(g5, #[.int .i64 (rd_T66 l0 (kk : Int)).f0, .int .i64 (rd_T66 l0 (kk : Int)).f1, .int .i64 (rd_T66 l0 (kk : Int)).f2, .int .i64 (rd_T66 l0 (kk : Int)).f3], 66)]) (by (with_reducible repeat (first | refine Boxes.drewN ?_ _ | refine Boxes.drew ?_ | refine Boxes.alloc ?_ _)); exact BX.out))) rfl (rd_T66 l0 (kk : Int)) rfl hkey (s := false) hs ?_) | (at_mapUpdate; refine wpList_update_set rfl _ _ _ 70 rfl 66 4 keyedT Try.underlying70 Try.underlying4 encT_inj (HS.out.below (Boxes.low (w0 := wr) (bs := [(g5, #[.int .i64 (rd_T66 l0 (kk : Int)).f0, .int .i64 (rd_T66 l0 (kk : Int)).f1, .int .i64 (rd_T66 l0 (kk : Int)).f2, .int .i64 (rd_T66 l0 (kk : Int)).f3], 66)]) (by (with_reducible repeat (first | refine Boxes.drewN ?_ _ | refine Boxes.drew ?_ | refine Boxes.alloc ?_ _)); exact BX.out))) (by unfold maxLen; omega) rfl (rd_T66 l0 (kk : Int)) rfl rfl hkey ?_; intro w8_ hown_ hgr_; have HS8 := Aside0.mk hown_; have HB8 := Aside0.mk (pw_below_grown (below_step BW.out (Boxes.low (w0 := wr) (bs := [(g5, #[.int .i64 (rd_T66 l0 (kk : Int)).f0, .int .i64 (rd_T66 l0 (kk : Int)).f1, .int .i64 (rd_T66 l0 (kk : Int)).f2, .int .i64 (rd_T66 l0 (kk : Int)).f3], 66)]) (by (with_reducible repeat (first | refine Boxes.drewN ?_ _ | refine Boxes.drew ?_ | refine Boxes.alloc ?_ _)); exact BX.out))) _ (Nat.le_trans BW.out.size (Boxes.low (w0 := wr) (bs := [(g5, #[.int .i64 (rd_T66 l0 (kk : Int)).f0, .int .i64 (rd_T66 l0 (kk : Int)).f1, .int .i64 (rd_T66 l0 (kk : Int)).f2, .int .i64 (rd_T66 l0 (kk : Int)).f3], 66)]) (by (with_reducible repeat (first | refine Boxes.drewN ?_ _ | refine Boxes.drew ?_ | refine Boxes.alloc ?_ _)); exact BX.out)).size) hgr_ (fun k hk => by cases hk; exact Nat.le_refl _)); clear hown_ hgr_ HS) | fail)
              go_roundg (l0.length - (kk + 1))
              case measure => omega
              case rel => exact ⟨kk + 1, by omega, by omega, by go_num, ⟨HB8.out⟩, ⟨by rw [← hSn]; exact HS8.out⟩, ⟨A4.out⟩⟩
          · rw [if_neg hok] at A3
            exact absurd A3 (by simp)
        · rw [if_neg hc] at A3
          obtain rfl := Option.some.inj A3
          have hcb : (c != 0) = true := by simpa using hc
          clear A3 hS hc HS
          have hu1 := Try.underlying66
          have hu2 := Try.underlying25
          have p1 : (0 ≤ (kk : Int)) = True := eq_true (by omega)
          have p2 : ((kk : Int) ≤ (c0 : Int)) = True := eq_true (by omega)
          have BX := Aside0.mk (Boxes.start wr)
          go_wp2_with (first | ((with_reducible refine gate_dst (N := 5) rfl ?_); refine box_event ?hg (N := 5) ?hd (cs := #[.int .i64 0, .int .i64 0, .int .i64 0, .int .i64 0]) (t := 66) ?hr ?_; (case hd => rfl); (case hg => rfl); (case hr => first | (go_simp; done) | (go_simp; rfl)); intro g5 hg w5_ hbox hb; have BY := Aside0.mk (Boxes.new (w0 := wr) (bs := []) (by (with_reducible repeat (first | refine Boxes.drewN ?_ _ | refine Boxes.drew ?_ | refine Boxes.alloc ?_ _)); exact BX.out) hg hbox hb); clear BX hb hbox hg; have BX := BY; clear BY; have q5_0 : World.cell? _ ⟨g5, 0, none⟩ = some (.int .i64 0) := BX.out.cell (i := 0) rfl (j := 0) rfl; have f5_0 : World.frozen? _ ⟨g5, 0, none⟩ = false := BX.out.frozen (i := 0) rfl 0; have q5_1 : World.cell? _ ⟨g5, 1, none⟩ = some (.int .i64 0) := BX.out.cell (i := 0) rfl (j := 1) rfl; have f5_1 : World.frozen? _ ⟨g5, 1, none⟩ = false := BX.out.frozen (i := 0) rfl 1; have q5_2 : World.cell? _ ⟨g5, 2, none⟩ = some (.int .i64 0) := BX.out.cell (i := 0) rfl (j := 2) rfl; have f5_2 : World.frozen? _ ⟨g5, 2, none⟩ = false := BX.out.frozen (i := 0) rfl 2; have q5_3 : World.cell? _ ⟨g5, 3, none⟩ = some (.int .i64 0) := BX.out.cell (i := 0) rfl (j := 3) rfl; have f5_3 : World.frozen? _ ⟨g5, 3, none⟩ = false := BX.out.frozen (i := 0) rfl 3) | ((with_reducible refine gate_store (t := 66) (p := 5) rfl ?_); refine boxes_store (w0 := wr) (bs := [(g5, #[.int .i64 (rd_T66 l0 (kk : Int)).f0, .int .i64 (rd_T66 l0 (kk : Int)).f1, .int .i64 (rd_T66 l0 (kk : Int)).f2, .int .i64 (rd_T66 l0 (kk : Int)).f3], 66)]) (W1 := (((World.setCell w5_ ⟨g5, 0, none⟩ (.int .i64 (rd_T66 l0 (kk : Int)).f0)).setCell ⟨g5, 1, none⟩ (.int .i64 (rd_T66 l0 (kk : Int)).f1)).setCell ⟨g5, 2, none⟩ (.int .i64 (rd_T66 l0 (kk : Int)).f2)).setCell ⟨g5, 3, none⟩ (.int .i64 (rd_T66 l0 (kk : Int)).f3)) rfl rfl rfl ?hr ((((Boxes.put (w0 := wr) (b1 := []) (b2 := []) (g := g5) (cs := #[.int .i64 0, .int .i64 0, .int .i64 0, .int .i64 0]) (t := 66) BX.out 0 (.int .i64 (rd_T66 l0 (kk : Int)).f0)).put (b1 := []) 1 (.int .i64 (rd_T66 l0 (kk : Int)).f1)).put (b1 := []) 2 (.int .i64 (rd_T66 l0 (kk : Int)).f2)).put (b1 := []) 3 (.int .i64 (rd_T66 l0 (kk : Int)).f3)) ?_; (case hr => first | (go_simp; done) | (go_simp; rfl)); intro w6_ BY; have BY := Aside0.mk BY; clear BX; have BX := BY; clear BY; clear q5_0 f5_0 q5_1 f5_1 q5_2 f5_2 q5_3 f5_3; have q5_0 : World.cell? _ ⟨g5, 0, none⟩ = some (.int .i64 (rd_T66 l0 (kk : Int)).f0) := BX.out.cell (i := 0) rfl (j := 0) rfl; have f5_0 : World.frozen? _ ⟨g5, 0, none⟩ = false := BX.out.frozen (i := 0) rfl 0; have q5_1 : World.cell? _ ⟨g5, 1, none⟩ = some (.int .i64 (rd_T66 l0 (kk : Int)).f1) := BX.out.cell (i := 0) rfl (j := 1) rfl; have f5_1 : World.frozen? _ ⟨g5, 1, none⟩ = false := BX.out.frozen (i := 0) rfl 1; have q5_2 : World.cell? _ ⟨g5, 2, none⟩ = some (.int .i64 (rd_T66 l0 (kk : Int)).f2) := BX.out.cell (i := 0) rfl (j := 2) rfl; have f5_2 : World.frozen? _ ⟨g5, 2, none⟩ = false := BX.out.frozen (i := 0) rfl 2; have q5_3 : World.cell? _ ⟨g5, 3, none⟩ = some (.int .i64 (rd_T66 l0 (kk : Int)).f3) := BX.out.cell (i := 0) rfl (j := 3) rfl; have f5_3 : World.frozen? _ ⟨g5, 3, none⟩ = false := BX.out.frozen (i := 0) rfl 3) | fail)
          refine start_ (n := 6) (S := fun w' => w'.cell? ⟨g5, 0, none⟩ = some (.int .i64 (rd_T66 l0 (kk : Int)).f0) ∧ w'.cell? ⟨g5, 1, none⟩ = some (.int .i64 (rd_T66 l0 (kk : Int)).f1) ∧ w'.cell? ⟨g5, 2, none⟩ = some (.int .i64 (rd_T66 l0 (kk : Int)).f2) ∧ w'.cell? ⟨g5, 3, none⟩ = some (.int .i64 (rd_T66 l0 (kk : Int)).f3)) (ds := [4]) #[false, false, false, false, false, false] (by kernel_rfl) rfl rfl ⟨q5_0, q5_1, q5_2, q5_3⟩ (fun hHeld => ?_)
          refine pure_ (i := 1) (N := some 19) (v := ?_) (a' := ?_) #[false, true, false, false, false, false] rfl rfl (by kernel_rfl) (fun _ _ _ h => h) (Or.inl ⟨by rfl, ?_⟩) ?_ ?_
          rotate_left
          · intro w'
            go_simp
            with_reducible rfl
          rotate_left
          · simp only [Act.put, List.setIfInBounds_toArray, List.set_cons_zero, List.set_cons_succ, i64_w, i32_w]
            rfl
          refine pure_ (i := 2) (N := some 20) (v := ?_) (a' := ?_) #[false, true, true, false, false, false] rfl rfl (by kernel_rfl) (fun _ _ _ h => h) (Or.inl ⟨by rfl, ?_⟩) ?_ ?_
          rotate_left
          · intro w'
            go_simp
            with_reducible rfl
          rotate_left
          · simp only [Act.put, List.setIfInBounds_toArray, List.set_cons_zero, List.set_cons_succ, i64_w, i32_w]
            rfl
          refine pure_ (i := 3) (N := some 21) (v := ?_) (a' := ?_) #[false, true, true, true, false, false] rfl rfl (by kernel_rfl) (fun _ _ _ h => h) (Or.inl ⟨by rfl, ?_⟩) ?_ ?_
          rotate_left
          · intro w'
            go_simp
            with_reducible rfl
          rotate_left
          · simp only [Act.put, List.setIfInBounds_toArray, List.set_cons_zero, List.set_cons_succ, i64_w, i32_w]
            rfl
          refine take_ (i := 0) (N := some 18) (v := ?_) (a' := ?_) #[true, true, true, true, false, false] rfl rfl (by kernel_rfl) (fun _ _ _ h => h) (Or.inl ⟨by rfl, ?_⟩) hHeld ?_ ?_
          rotate_left
          · rintro w' ⟨s0, s1, s2, s3⟩
            go_simp
            with_reducible rfl
          rotate_left
          · simp only [Act.put, List.setIfInBounds_toArray, List.set_cons_zero, List.set_cons_succ, i64_w, i32_w]
            rfl
          refine last_ (i := 4) (N := some 22) #[true, true, true, true, true, false] rfl rfl (by kernel_rfl) (by decide) (fun K hK => ?_)
          refine goes_ Try.func66 (by kernel_rfl) rfl #[.agg #[.int .i64 (rd_T66 l0 (kk : Int)).f0, .int .i64 (rd_T66 l0 (kk : Int)).f1, .int .i64 (rd_T66 l0 (kk : Int)).f2, .int .i64 (rd_T66 l0 (kk : Int)).f3], .slice (some ad) kk c0] (by rfl) rfl rfl (by simp only [List.map_toArray, List.map_cons, List.map_nil]; rfl) ?_
          with_reducible refine (HF.out _ (Boxes.low (w0 := wr) (bs := [(g5, #[.int .i64 (rd_T66 l0 (kk : Int)).f0, .int .i64 (rd_T66 l0 (kk : Int)).f1, .int .i64 (rd_T66 l0 (kk : Int)).f2, .int .i64 (rd_T66 l0 (kk : Int)).f3], 66)]) (Boxes.drew BX.out))).mono ?_
          rintro e w7_ ⟨rfl, hb⟩
          refine ⟨_, rfl, ?_⟩
          have BY := Aside0.mk (Boxes.below (w0 := wr) (bs := [(g5, #[.int .i64 (rd_T66 l0 (kk : Int)).f0, .int .i64 (rd_T66 l0 (kk : Int)).f1, .int .i64 (rd_T66 l0 (kk : Int)).f2, .int .i64 (rd_T66 l0 (kk : Int)).f3], 66)]) (Boxes.drew BX.out) hb)
          clear BX hb
          have BX := BY
          clear BY
          clear q5_0 f5_0 q5_1 f5_1 q5_2 f5_2 q5_3 f5_3
          have q5_0 : World.cell? _ ⟨g5, 0, none⟩ = some (.int .i64 (rd_T66 l0 (kk : Int)).f0) := BX.out.cell (i := 0) rfl (j := 0) rfl
          have f5_0 : World.frozen? _ ⟨g5, 0, none⟩ = false := BX.out.frozen (i := 0) rfl 0
          have q5_1 : World.cell? _ ⟨g5, 1, none⟩ = some (.int .i64 (rd_T66 l0 (kk : Int)).f1) := BX.out.cell (i := 0) rfl (j := 1) rfl
          have f5_1 : World.frozen? _ ⟨g5, 1, none⟩ = false := BX.out.frozen (i := 0) rfl 1
          have q5_2 : World.cell? _ ⟨g5, 2, none⟩ = some (.int .i64 (rd_T66 l0 (kk : Int)).f2) := BX.out.cell (i := 0) rfl (j := 2) rfl
          have f5_2 : World.frozen? _ ⟨g5, 2, none⟩ = false := BX.out.frozen (i := 0) rfl 2
          have q5_3 : World.cell? _ ⟨g5, 3, none⟩ = some (.int .i64 (rd_T66 l0 (kk : Int)).f3) := BX.out.cell (i := 0) rfl (j := 3) rfl
          have f5_3 : World.frozen? _ ⟨g5, 3, none⟩ = false := BX.out.frozen (i := 0) rfl 3
          refine hK.out _ _ ?_
          clear hK K
          refine norm_ (a' := ?_) ?_ ?_
          rotate_left
          · show Act.put _ (some 22) _ = _
            simp only [Act.put, List.setIfInBounds_toArray, List.set_cons_zero, List.set_cons_succ, i64_w, i32_w]
            rfl
          refine pure_ (i := 5) (N := some 6) (v := ?_) (a' := ?_) #[true, true, true, true, true, true] rfl rfl (by kernel_rfl) (fun _ _ _ h => h) (Or.inl ⟨by rfl, ?_⟩) ?_ ?_
          rotate_left
          · intro w'
            go_simp
            with_reducible rfl
          rotate_left
          · simp only [Act.put, List.setIfInBounds_toArray, List.set_cons_zero, List.set_cons_succ, i64_w, i32_w]
            rfl
          refine done_ (by kernel_rfl) ?_
          go_wp2
          go_ret
          exact ⟨rfl, below_step BW.out (Boxes.low (w0 := wr) (bs := [(g5, #[.int .i64 (rd_T66 l0 (kk : Int)).f0, .int .i64 (rd_T66 l0 (kk : Int)).f1, .int .i64 (rd_T66 l0 (kk : Int)).f2, .int .i64 (rd_T66 l0 (kk : Int)).f3], 66)]) (by (with_reducible repeat (first | refine Boxes.drewN ?_ _ | refine Boxes.drew ?_ | refine Boxes.alloc ?_ _)); exact BX.out))⟩
      · have hltz : ¬ (kk : Int) < (l0.length : Int) := by omega
        have hke : kk = l0.length := by omega
        subst hke
        have A4 := Aside0.mk (Option.some.inj ((by rw [List.drop_length, impl_TermsFault.l] : impl_TermsFault.l _ (l0.drop l0.length) = some 0).symm.trans A.out))
        clear A HS
        go_wp2
        go_ret
        exact ⟨congrArg (fun z => Ending.returned (Value.int .i64 z)) A4.out, BW.out⟩

/-! ### impl_placesFault: function 72 (my own text) -/
def impl_placesFault.p (l1 : List S66) (at_ : Int) : Option Bool := (impl_isPlace.f l1 at_).bind fun b => some (!b)
def impl_placesFault.f (l0 : List S66) (l1 : List Int) : Option Int :=
  (impl_TermsFault.f l0).bind fun c => if c = 0 then (idxO (impl_placesFault.p l0) l1 0).bind fun i => some (if 0 ≤ i then 3 else 0) else some c
set_option maxHeartbeats 4000000 in
set_option maxRecDepth 100000 in
theorem impl_placesFault_lit.calls (A1 : Option Addr) (c1 : Nat) (l1 : List S66) (x : Int) (b : Bool) (pb : Nat) (w W : World) (hpb : pb < w.heap.size) (e0 : w.cell? ⟨pb, 0, none⟩ = some (.slice A1 l1.length c1))
    (hr : Kd.C k66 w A1 l1.length l1) (hc : l1.length ≤ c1) (hb : Below w.heap.size w W) (h : impl_placesFault.p l1 x = some b) :
    Calls Try.prog 106 #[.int .i64 x, .pointer (some ⟨pb, 0, none⟩)] W fun e w' => e = .returned (.bool b) ∧ Below w.heap.size w w' := by
  replace e0 := (hb.cell (p := ⟨pb, 0, none⟩) hpb).trans e0
  obtain ⟨b', h1, h⟩ := Option.bind_eq_some_iff.mp h
  obtain rfl := Option.some.inj h
  have HH := Aside0.mk (impl_isPlace.calls A1 c1 l1 x b' W (Kd.C_below hr hb) hc h1)
  have HB := Aside0.mk hb
  clear hr hc h h1 hb hpb
  go_enter Try.func106, Try.ntmps106
  go_wp2_with (go_at_call 69; refine HH.out.mono ?_; rintro e w' ⟨rfl, ⟨nd, rfl⟩⟩)
  go_ret
  exact ⟨rfl, pw_below_drewN HB.out nd⟩
set_option maxHeartbeats 8000000 in
set_option maxRecDepth 100000 in
theorem impl_placesFault.calls (A0 : Option Addr) (c0 : Nat) (l0 : List S66) (A1 : Option Addr) (c1 : Nat) (l1 : List Int) (r : Int) (w : World) (hr0 : Kd.C k66 w A0 l0.length l0) (hc0 : l0.length ≤ c0) (hr1 : Kd.C (Kd.int .i64) w A1 l1.length l1) (hc1 : l1.length ≤ c1) (h : impl_placesFault.f l0 l1 = some r) :
    Calls Try.prog 72 #[.slice A0 l0.length c0, .slice A1 l1.length c1] w fun e w' => e = .returned (.int .i64 r) ∧ Below w.heap.size w w' := by
  have eg : ∀ args w, (callFunc 106 args).run Try.prog w = .ok (.enter 106 args) w := Go.Proofs.enters_of Try.func106 (by kernel_rfl) rfl
  unfold impl_placesFault.f at h
  obtain ⟨c_, h1, h⟩ := Option.bind_eq_some_iff.mp h
  have HT := Aside0.mk (fun (W : World) (hb : Below w.heap.size w W) => impl_TermsFault.calls A0 c0 l0 c_ W (Kd.C_below hr0 hb) hc0 h1)
  have HR0 := Aside0.mk hr0
  have HR1 := Aside0.mk hr1
  have BX := Aside0.mk (Boxes.start w)
  clear hr0 hr1 h1
  have hu2 := Try.underlying25
  by_cases hc : c_ = 0
  · subst hc
    rw [if_pos rfl] at h
    obtain ⟨i_, hi, h⟩ := Option.bind_eq_some_iff.mp h
    have HI := Aside0.mk hi
    have HV := Aside0.mk (Option.some.inj h)
    clear hi h
    go_enter Try.func72, Try.ntmps72
    rcases Bool.eq_false_or_eq_true (decide (0 ≤ i_)) with ci | ci
    · go_wp2_with (first | ((with_reducible refine gate_dst (N := 2) rfl ?_); refine box_event ?hg (N := 2) ?hd (cs := #[.slice A0 l0.length c0]) (t := 25) ?hr ?_; (case hd => rfl); (case hg => rfl); (case hr => first | (go_simp; done) | (go_simp; rfl)); intro g2 hg w2_ hbox hb; have BY := Aside0.mk (Boxes.new (w0 := w) (bs := []) (by (with_reducible repeat (first | refine Boxes.drewN ?_ _ | refine Boxes.drew ?_ | refine Boxes.alloc ?_ _)); exact BX.out) hg hbox hb); clear BX hb hbox hg; have BX := BY; clear BY; have q2_0 : World.cell? _ ⟨g2, 0, none⟩ = some (.slice A0 l0.length c0) := BX.out.cell (i := 0) rfl (j := 0) rfl; have f2_0 : World.frozen? _ ⟨g2, 0, none⟩ = false := BX.out.frozen (i := 0) rfl 0) | (go_at_call 21; (with_reducible refine (HT.out _ (Boxes.low (w0 := w) (bs := [(g2, #[.slice A0 l0.length c0], 25)]) (by (with_reducible repeat (first | refine Boxes.drewN ?_ _ | refine Boxes.drew ?_ | refine Boxes.alloc ?_ _)); exact BX.out))).mono ?_); rintro e w7_ ⟨rfl, hb⟩; have BY := Aside0.mk (Boxes.below (w0 := w) (bs := [(g2, #[.slice A0 l0.length c0], 25)]) (by (with_reducible repeat (first | refine Boxes.drewN ?_ _ | refine Boxes.drew ?_ | refine Boxes.alloc ?_ _)); exact BX.out) hb); clear BX hb; have BX := BY; clear BY; clear q2_0 f2_0; have q2_0 : World.cell? _ ⟨g2, 0, none⟩ = some (.slice A0 l0.length c0) := BX.out.cell (i := 0) rfl (j := 0) rfl; have f2_0 : World.frozen? _ ⟨g2, 0, none⟩ = false := BX.out.frozen (i := 0) rfl 0) | (go_at_call 101; (refine (ContainsFuncI.calls A1 c1 l1 106 #[.pointer (some ⟨g2, 0, none⟩)] (impl_placesFault.p l0) i_ _ eg (Kd.C_below HR1.out BX.out.low) (fun x b W hx hb2 => impl_placesFault_lit.calls A0 c0 l0 x b g2 _ W (BX.out.lt (i := 0) rfl) (BX.out.cell (i := 0) rfl (j := 0) rfl) (Kd.C_below HR0.out BX.out.low) hc0 hb2 hx) HI.out).mono ?_); rintro e w9_ ⟨rfl, hb⟩; have BY := Aside0.mk (Boxes.below (w0 := w) (bs := [(g2, #[.slice A0 l0.length c0], 25)]) (by (with_reducible repeat (first | refine Boxes.drewN ?_ _ | refine Boxes.drew ?_ | refine Boxes.alloc ?_ _)); exact BX.out) hb); clear BX hb; have BX := BY; clear BY; clear q2_0 f2_0; have q2_0 : World.cell? _ ⟨g2, 0, none⟩ = some (.slice A0 l0.length c0) := BX.out.cell (i := 0) rfl (j := 0) rfl; have f2_0 : World.frozen? _ ⟨g2, 0, none⟩ = false := BX.out.frozen (i := 0) rfl 0) | fail)
      go_ret
      exact ⟨congrArg (fun z => Ending.returned (Value.int .i64 z)) ((if_pos (of_decide_eq_true ci)).symm.trans HV.out), (Boxes.low (w0 := w) (bs := [(g2, #[.slice A0 l0.length c0], 25)]) (by (with_reducible repeat (first | refine Boxes.drewN ?_ _ | refine Boxes.drew ?_ | refine Boxes.alloc ?_ _)); exact BX.out))⟩
    · go_wp2_with (first | ((with_reducible refine gate_dst (N := 2) rfl ?_); refine box_event ?hg (N := 2) ?hd (cs := #[.slice A0 l0.length c0]) (t := 25) ?hr ?_; (case hd => rfl); (case hg => rfl); (case hr => first | (go_simp; done) | (go_simp; rfl)); intro g2 hg w2_ hbox hb; have BY := Aside0.mk (Boxes.new (w0 := w) (bs := []) (by (with_reducible repeat (first | refine Boxes.drewN ?_ _ | refine Boxes.drew ?_ | refine Boxes.alloc ?_ _)); exact BX.out) hg hbox hb); clear BX hb hbox hg; have BX := BY; clear BY; have q2_0 : World.cell? _ ⟨g2, 0, none⟩ = some (.slice A0 l0.length c0) := BX.out.cell (i := 0) rfl (j := 0) rfl; have f2_0 : World.frozen? _ ⟨g2, 0, none⟩ = false := BX.out.frozen (i := 0) rfl 0) | (go_at_call 21; (with_reducible refine (HT.out _ (Boxes.low (w0 := w) (bs := [(g2, #[.slice A0 l0.length c0], 25)]) (by (with_reducible repeat (first | refine Boxes.drewN ?_ _ | refine Boxes.drew ?_ | refine Boxes.alloc ?_ _)); exact BX.out))).mono ?_); rintro e w7_ ⟨rfl, hb⟩; have BY := Aside0.mk (Boxes.below (w0 := w) (bs := [(g2, #[.slice A0 l0.length c0], 25)]) (by (with_reducible repeat (first | refine Boxes.drewN ?_ _ | refine Boxes.drew ?_ | refine Boxes.alloc ?_ _)); exact BX.out) hb); clear BX hb; have BX := BY; clear BY; clear q2_0 f2_0; have q2_0 : World.cell? _ ⟨g2, 0, none⟩ = some (.slice A0 l0.length c0) := BX.out.cell (i := 0) rfl (j := 0) rfl; have f2_0 : World.frozen? _ ⟨g2, 0, none⟩ = false := BX.out.frozen (i := 0) rfl 0) | (go_at_call 101; (refine (ContainsFuncI.calls A1 c1 l1 106 #[.pointer (some ⟨g2, 0, none⟩)] (impl_placesFault.p l0) i_ _ eg (Kd.C_below HR1.out BX.out.low) (fun x b W hx hb2 => impl_placesFault_lit.calls A0 c0 l0 x b g2 _ W (BX.out.lt (i := 0) rfl) (BX.out.cell (i := 0) rfl (j := 0) rfl) (Kd.C_below HR0.out BX.out.low) hc0 hb2 hx) HI.out).mono ?_); rintro e w9_ ⟨rfl, hb⟩; have BY := Aside0.mk (Boxes.below (w0 := w) (bs := [(g2, #[.slice A0 l0.length c0], 25)]) (by (with_reducible repeat (first | refine Boxes.drewN ?_ _ | refine Boxes.drew ?_ | refine Boxes.alloc ?_ _)); exact BX.out) hb); clear BX hb; have BX := BY; clear BY; clear q2_0 f2_0; have q2_0 : World.cell? _ ⟨g2, 0, none⟩ = some (.slice A0 l0.length c0) := BX.out.cell (i := 0) rfl (j := 0) rfl; have f2_0 : World.frozen? _ ⟨g2, 0, none⟩ = false := BX.out.frozen (i := 0) rfl 0) | fail)
      go_ret
      exact ⟨congrArg (fun z => Ending.returned (Value.int .i64 z)) ((if_neg (of_decide_eq_false ci)).symm.trans HV.out), (Boxes.low (w0 := w) (bs := [(g2, #[.slice A0 l0.length c0], 25)]) (by (with_reducible repeat (first | refine Boxes.drewN ?_ _ | refine Boxes.drew ?_ | refine Boxes.alloc ?_ _)); exact BX.out))⟩
  · rw [if_neg hc] at h
    have HV := Aside0.mk (Option.some.inj h)
    have hcb : (c_ != 0) = true := by simpa using hc
    clear h hc
    go_enter Try.func72, Try.ntmps72
    go_wp2_with (first | ((with_reducible refine gate_dst (N := 2) rfl ?_); refine box_event ?hg (N := 2) ?hd (cs := #[.slice A0 l0.length c0]) (t := 25) ?hr ?_; (case hd => rfl); (case hg => rfl); (case hr => first | (go_simp; done) | (go_simp; rfl)); intro g2 hg w2_ hbox hb; have BY := Aside0.mk (Boxes.new (w0 := w) (bs := []) (by (with_reducible repeat (first | refine Boxes.drewN ?_ _ | refine Boxes.drew ?_ | refine Boxes.alloc ?_ _)); exact BX.out) hg hbox hb); clear BX hb hbox hg; have BX := BY; clear BY; have q2_0 : World.cell? _ ⟨g2, 0, none⟩ = some (.slice A0 l0.length c0) := BX.out.cell (i := 0) rfl (j := 0) rfl; have f2_0 : World.frozen? _ ⟨g2, 0, none⟩ = false := BX.out.frozen (i := 0) rfl 0) | (go_at_call 21; (with_reducible refine (HT.out _ (Boxes.low (w0 := w) (bs := [(g2, #[.slice A0 l0.length c0], 25)]) (by (with_reducible repeat (first | refine Boxes.drewN ?_ _ | refine Boxes.drew ?_ | refine Boxes.alloc ?_ _)); exact BX.out))).mono ?_); rintro e w7_ ⟨rfl, hb⟩; have BY := Aside0.mk (Boxes.below (w0 := w) (bs := [(g2, #[.slice A0 l0.length c0], 25)]) (by (with_reducible repeat (first | refine Boxes.drewN ?_ _ | refine Boxes.drew ?_ | refine Boxes.alloc ?_ _)); exact BX.out) hb); clear BX hb; have BX := BY; clear BY; clear q2_0 f2_0; have q2_0 : World.cell? _ ⟨g2, 0, none⟩ = some (.slice A0 l0.length c0) := BX.out.cell (i := 0) rfl (j := 0) rfl; have f2_0 : World.frozen? _ ⟨g2, 0, none⟩ = false := BX.out.frozen (i := 0) rfl 0) | (go_at_call 101; (refine (ContainsFuncI.calls A1 c1 l1 106 #[.pointer (some ⟨g2, 0, none⟩)] (impl_placesFault.p l0) i_ _ eg (Kd.C_below HR1.out BX.out.low) (fun x b W hx hb2 => impl_placesFault_lit.calls A0 c0 l0 x b g2 _ W (BX.out.lt (i := 0) rfl) (BX.out.cell (i := 0) rfl (j := 0) rfl) (Kd.C_below HR0.out BX.out.low) hc0 hb2 hx) HI.out).mono ?_); rintro e w9_ ⟨rfl, hb⟩; have BY := Aside0.mk (Boxes.below (w0 := w) (bs := [(g2, #[.slice A0 l0.length c0], 25)]) (by (with_reducible repeat (first | refine Boxes.drewN ?_ _ | refine Boxes.drew ?_ | refine Boxes.alloc ?_ _)); exact BX.out) hb); clear BX hb; have BX := BY; clear BY; clear q2_0 f2_0; have q2_0 : World.cell? _ ⟨g2, 0, none⟩ = some (.slice A0 l0.length c0) := BX.out.cell (i := 0) rfl (j := 0) rfl; have f2_0 : World.frozen? _ ⟨g2, 0, none⟩ = false := BX.out.frozen (i := 0) rfl 0) | fail)
    go_ret
    exact ⟨congrArg (fun z => Ending.returned (Value.int .i64 z)) HV.out, (Boxes.low (w0 := w) (bs := [(g2, #[.slice A0 l0.length c0], 25)]) (by (with_reducible repeat (first | refine Boxes.drewN ?_ _ | refine Boxes.drew ?_ | refine Boxes.alloc ?_ _)); exact BX.out))⟩

/-! ### slices_Index_int64_int64: function 108 -/
def slices_Index_int64_int64.l0 : Nat → List Int → Int → Int → Int → Option (Int)
 | 0, _, _, _, _ => none
 | k + 1, x0, x1, x7, x8 => if x8 < x7 then (if 0 ≤ x8 then (if x8 < (x0.length : Int) then (if x1 = (rd x0 x8) then (some x8) else (slices_Index_int64_int64.l0 k x0 x1 x7 (wrap64 (x8 + 1)))) else (none)) else (none)) else (some (-1))
def slices_Index_int64_int64.f (k : Nat) (l0 : List Int) (a1 : Int) : Option (Int) := slices_Index_int64_int64.l0 k l0 a1 (l0.length : Int) 0
theorem slices_Index_int64_int64.mono_l : ∀ k, (∀ y0 y1 y2 y3, LeO (slices_Index_int64_int64.l0 k y0 y1 y2 y3) (slices_Index_int64_int64.l0 (k + 1) y0 y1 y2 y3))
 | 0 => fun _ _ _ _ r h => by simp [slices_Index_int64_int64.l0] at h
 | k + 1 => by
  have ih0 := slices_Index_int64_int64.mono_l k
  ·
   intro y0 y1 y2 y3
   unfold slices_Index_int64_int64.l0
   repeat' first
   | (with_reducible exact ih0 _ _ _ _)
   | (with_reducible exact LeO.refl _)
   | (with_reducible exact LeO.none _)
   | (with_reducible refine LeO.ite ?_ ?_)
   | (with_reducible refine LeO.bind ?_ (fun _ => ?_))
   | exact ih0 _ _ _ _
   | exact LeO.none _
   | refine LeO.ite ?_ ?_
   | refine LeO.bind ?_ (fun _ => ?_)
theorem slices_Index_int64_int64.mono : ∀ a0 a1 k, LeO (slices_Index_int64_int64.f k a0 a1) (slices_Index_int64_int64.f (k + 1) a0 a1) := by
 intro a0 a1 k
 have ih0 := slices_Index_int64_int64.mono_l k
 unfold slices_Index_int64_int64.f
 repeat' first
   | (with_reducible exact ih0 _ _ _ _)
   | (with_reducible exact LeO.refl _)
   | (with_reducible exact LeO.none _)
   | (with_reducible refine LeO.ite ?_ ?_)
   | (with_reducible refine LeO.bind ?_ (fun _ => ?_))
   | exact ih0 _ _ _ _
   | exact LeO.none _
   | refine LeO.ite ?_ ?_
   | refine LeO.bind ?_ (fun _ => ?_)
set_option maxHeartbeats 8000000 in
set_option maxRecDepth 100000 in
theorem slices_Index_int64_int64.calls (k : Nat) (A0 : Option Addr) (c0 : Nat) (l0 : List Int) (a1 : Int) (r : Int) (w : World) (hr0 : Kd.C (Kd.int .i64) w A0 l0.length l0) (hc0 : l0.length ≤ c0) (h : slices_Index_int64_int64.f k l0 a1 = some r) :
  Calls Try.prog 108 #[.slice A0 l0.length c0, .int .i64 a1] w fun e w' => e = .returned (.int .i64 r) ∧ Drawn0 w w' := by
 have HR0 := Aside0.mk hr0
 have HC0 := Aside0.mk hc0
 clear hr0 hc0
 have H : (slices_Index_int64_int64.l0 k l0 a1 (l0.length : Int) 0) = some r := h
 clear h
 have H' := Aside0.mk H
 clear H
 go_enter Try.func108, Try.ntmps108
 go_wp2
 go_loopg [8] k (fun kq v8 w' => ∃ (x8_1 : Int), v8 = .int .i64 x8_1 ∧ Aside0 (slices_Index_int64_int64.l0 kq l0 a1 (l0.length : Int) x8_1 = some r) ∧ Aside0 (kq ≤ k) ∧ Drawn0 w w')
 case atStart => exact ⟨(0), (by first | rfl | (simp; done) | (simp [*]; done)), H', ⟨Nat.le_refl _⟩, by repeat (first | exact Drawn0.refl _ | apply Drawn0.step)⟩
 case round =>
  clear H'
  try clear c1; try clear p2
  obtain ⟨x8_1, rfl, HA, HK1, ⟨m1, rfl⟩⟩ := hrel
  cases gk with
  | zero => exact absurd HA.out (by simp [slices_Index_int64_int64.l0])
  | succ k1 =>
   have H := HA.out
   clear HA
   simp only [slices_Index_int64_int64.l0] at H
   by_cases c3 : x8_1 < (l0.length : Int)
   ·
    rw [if_pos c3] at H
    have c3b0 : decide (x8_1 < (l0.length : Int)) = true := decide_eq_true c3
    clear c3
    by_cases c4 : 0 ≤ x8_1
    ·
     rw [if_pos c4] at H
     have c4b0 : decide (0 ≤ x8_1) = true := decide_eq_true c4
     clear c4
     by_cases c5 : x8_1 < (l0.length : Int)
     ·
      rw [if_pos c5] at H
      have c5b0 : decide (x8_1 < (l0.length : Int)) = true := decide_eq_true c5
      clear c5
      by_cases c6 : a1 = (rd l0 x8_1)
      ·
       rw [if_pos c6] at H
       have c6b0 : (a1 == (rd l0 x8_1)) = true := beq_iff_eq.mpr c6
       have c6b1 : (a1 != (rd l0 x8_1)) = false := bne_eq_false_iff_eq.mpr c6
       clear c6
       obtain rfl := Option.some.inj H
       have p188 : 0 ≤ (x8_1 : Int) := of_decide_eq_true (by first | (with_reducible assumption) | assumption)
       have q188 : x8_1 < (l0.length : Int) := of_decide_eq_true (by first | (with_reducible assumption) | assumption)
       obtain ⟨ad188, e188, hx188_0⟩ := Kd.at_int HR0.out x8_1 p188 q188
       cases e188
       replace p188 := eq_true p188
       replace q188 := eq_true q188
       go_wp2
       go_ret
       exact ⟨by first | rfl | (simp; done) | (simp [*]; done), by repeat (first | exact Drawn0.refl _ | apply Drawn0.step)⟩
      ·
       rw [if_neg c6] at H
       have c6b0 : (a1 == (rd l0 x8_1)) = false := beq_eq_false_iff_ne.mpr c6
       have c6b1 : (a1 != (rd l0 x8_1)) = true := bne_iff_ne.mpr c6
       have H' := Aside0.mk H
       clear H
       have p188 : 0 ≤ (x8_1 : Int) := of_decide_eq_true (by first | (with_reducible assumption) | assumption)
       have q188 : x8_1 < (l0.length : Int) := of_decide_eq_true (by first | (with_reducible assumption) | assumption)
       obtain ⟨ad188, e188, hx188_0⟩ := Kd.at_int HR0.out x8_1 p188 q188
       cases e188
       replace p188 := eq_true p188
       replace q188 := eq_true q188
       go_wp2
       go_roundg k1
       case measure => have := HK1.out; omega
       case rel => exact ⟨(wrap64 (x8_1 + 1)), (by first | rfl | (simp; done) | (simp [*]; done)), H', ⟨by have := HK1.out; omega⟩, by repeat (first | exact Drawn0.refl _ | apply Drawn0.step)⟩
     ·
      rw [if_neg c5] at H
      exact absurd H (by simp)
    ·
     rw [if_neg c4] at H
     exact absurd H (by simp)
   ·
    rw [if_neg c3] at H
    have c3b0 : decide (x8_1 < (l0.length : Int)) = false := decide_eq_false c3
    clear c3
    obtain rfl := Option.some.inj H
    go_wp2
    go_ret
    exact ⟨by first | rfl | (simp; done) | (simp [*]; done), by repeat (first | exact Drawn0.refl _ | apply Drawn0.step)⟩

/-! ### slices_Contains_int64_int64: function 78 -/
def slices_Contains_int64_int64.f (k : Nat) (l0 : List Int) (a1 : Int) : Option (Bool) := (slices_Index_int64_int64.f k l0 a1).bind fun t189 => (some (decide (t189 ≥ 0)))
theorem slices_Contains_int64_int64.mono : ∀ a0 a1 k, LeO (slices_Contains_int64_int64.f k a0 a1) (slices_Contains_int64_int64.f (k + 1) a0 a1) := by
 intro a0 a1 k
 unfold slices_Contains_int64_int64.f
 repeat' first
   | (with_reducible exact slices_Index_int64_int64.mono _ _ _)
   | (with_reducible exact LeO.refl _)
   | (with_reducible exact LeO.none _)
   | (with_reducible refine LeO.ite ?_ ?_)
   | (with_reducible refine LeO.bind ?_ (fun _ => ?_))
   | exact slices_Index_int64_int64.mono _ _ _
   | exact LeO.none _
   | refine LeO.ite ?_ ?_
   | refine LeO.bind ?_ (fun _ => ?_)
set_option maxHeartbeats 8000000 in
set_option maxRecDepth 100000 in
theorem slices_Contains_int64_int64.calls (k : Nat) (A0 : Option Addr) (c0 : Nat) (l0 : List Int) (a1 : Int) (r : Bool) (w : World) (hr0 : Kd.C (Kd.int .i64) w A0 l0.length l0) (hc0 : l0.length ≤ c0) (h : slices_Contains_int64_int64.f k l0 a1 = some r) :
  Calls Try.prog 78 #[.slice A0 l0.length c0, .int .i64 a1] w fun e w' => e = .returned (.bool r) ∧ Drawn0 w w' := by
 have HR0 := Aside0.mk hr0
 have HC0 := Aside0.mk hc0
 clear hr0 hc0
 have H : ((slices_Index_int64_int64.f k l0 a1).bind fun t189 => (some (decide (t189 ≥ 0)))) = some r := h
 clear h
 replace H := Option.bind_eq_some_iff.mp H
 obtain ⟨t189, A30, H⟩ := H
 replace H : (some (decide (t189 ≥ 0))) = some r := H
 have A3 := Aside0.mk A30
 clear A30
 obtain rfl := Option.some.inj H
 go_enter Try.func78, Try.ntmps78
 go_wp2_with (first | ((with_reducible refine gate_callee (f := 108) rfl ?_); refine goesL_ (some 7) rfl rfl Try.func108 (by kernel_rfl) rfl #[.slice A0 l0.length c0, .int .i64 a1] rfl (by (try simp only [List.map_toArray, List.map_cons, List.map_nil]); first | done | rfl | (simp only [List.length_drop, List.length_take]; rfl)) ?_; (with_reducible refine (slices_Index_int64_int64.calls k _ _ l0 a1 t189 _ ?side1 ?side2 A3.out).mono ?_); (case side1 => repeat (first | exact HR0.out | (with_reducible refine Kd.C_alloc ?_ _) | (with_reducible refine Kd.C_drewN ?_ _) | (with_reducible refine Kd.C_drew ?_))); (case side2 => exact HC0.out); rintro e w' ⟨rfl, ⟨nd, rfl⟩⟩; refine ⟨_, rfl, ?_⟩))
 go_ret
 exact ⟨by first | rfl | (simp; done) | (simp [*]; done), by repeat (first | exact Drawn0.refl _ | apply Drawn0.step)⟩

end Go.Proofs.Ytihipdmjacplfaa.PFnExactOccursIn
