-- Written by wip/tools/myprint.py of this claim's session, over the kit's print, round texts of its own: own text.
import Derived.Test.YtidfgmekhededaaPFnOpensx0
import Derived.Test.YtidfgmekhededaaPFnOpensx2
namespace Go.Proofs.Ytidfgmekhededaa.PFnOpens
open Go.RowKit Go.Proofs.YtidfgmekhededaaW.PrintWords Go.Proofs.YtidfgmekhededaaW.PrintLast Go.Proofs.YtidfgmekhededaaW.PrintMore
attribute [local go_sem] max2_int min2_int max_two min_two max_three min_three max_four min_four   -- for this text's walks alone
set_option linter.unusedVariables false
set_option linter.unusedSimpArgs false

/-! ### impl_TermsFault: function 59 (my own text) -/
def impl_TermsFault.l : List S50 → List S50 → Option Int
  | _, [] => some 0
  | seen, t :: ts => (impl_Term_fault.f t.f0 t.f1 t.f2 t.f3 seen).bind fun c => if c = 0 then (if okT t = true then (if seen.any (eqT t) = true then some 7 else impl_TermsFault.l (seen ++ [t]) ts) else none) else some c
def impl_TermsFault.f (l0 : List S50) : Option Int := if 400 < l0.length then some 2 else impl_TermsFault.l [] l0
theorem impl_TermsFault_many (A0 : Option Addr) (c0 : Nat) (l0 : List S50) (w : World) (hm : l0.length ≤ 9223372036854775807) (h : 400 < l0.length) :
    Calls Try.prog 59 #[.slice A0 l0.length c0] w fun e w' => e = .returned (.int .i64 2) ∧ Below w.heap.size w w' := by
  have hq : decide ((l0.length : Int) > 400) = true := decide_eq_true (by omega); clear h; go_enter Try.func59, Try.ntmps59; go_wp2; go_ret; exact ⟨rfl, Below.refl _ _⟩
theorem zeroB_ (w : World) : (zeroValue 4).run Try.prog w = .ok (.bool false) w := by kernel_rfl
set_option maxHeartbeats 8000000 in
set_option maxRecDepth 100000 in
theorem impl_TermsFault.calls (A0 : Option Addr) (c0 : Nat) (l0 : List S50) (r : Int) (w : World) (hr0 : Kd.C k50 w A0 l0.length l0) (hc0 : l0.length ≤ c0) (h : impl_TermsFault.f l0 = some r) :
    Calls Try.prog 59 #[.slice A0 l0.length c0] w fun e w' => e = .returned (.int .i64 r) ∧ Below w.heap.size w w' := by
  have hm : l0.length ≤ 9223372036854775807 := hr0.2.1; unfold impl_TermsFault.f at h; by_cases h400 : 400 < l0.length
  · rw [if_pos h400] at h
    obtain rfl := Option.some.inj h; exact impl_TermsFault_many A0 c0 l0 w hm h400
  · rw [if_neg h400] at h
    have hq : decide ((l0.length : Int) > 400) = false := decide_eq_false (by omega); have HR0 := A_ hr0; have H0 := A_ h; clear hr0 h; have hmm := @run_makeMap Try.prog; go_enter Try.func59, Try.ntmps59; go_wp2; clear hmm; go_loopg [13] l0.length (fun gg s13 wr => ∃ kk : Nat, kk ≤ l0.length ∧ l0.length - kk ≤ gg ∧ s13 = .int .i64 kk ∧ Aside0 (Below w.heap.size w wr) ∧ Aside0 (ownsSet Try.prog wr 50 4 encT w.heap.size kk (fun x => (l0.take kk).any (eqT x))) ∧ Aside0 (impl_TermsFault.l (l0.take kk) (l0.drop kk) = some r)); (case atStart => exact ⟨0, Nat.zero_le _, by omega, rfl, ⟨(Below.refl _ _).alloc (Nat.le_refl _) _⟩, ⟨by simpa using ownsSet_made Try.prog w 50 4 encT⟩, ⟨by rw [List.take_zero, List.drop_zero]; exact H0.out⟩⟩)
    case round =>
      obtain ⟨kk, hkk, hg, rfl, BW, HS, A⟩ := hrel; clear H0; by_cases hlt : kk < l0.length
      · have hltz : (kk : Int) < (l0.length : Int) := by omega
        obtain ⟨ad, e, hx0, hx1, hx2, hx3⟩ := at_T50 HR0.out (kk : Int) (by omega) hltz; have A2 := A.out; rw [List.drop_eq_getElem_cons hlt, impl_TermsFault.l, ← getD_at l0 z50 kk hlt] at A2; (have hT : l0.take kk ++ [l0.getD (kk : Int).toNat z50] = l0.take (kk + 1) := by rw [List.take_succ_eq_append_getElem hlt, getD_at l0 z50 kk hlt]); change (impl_Term_fault.f (rd_T50 l0 (kk : Int)).f0 (rd_T50 l0 (kk : Int)).f1 (rd_T50 l0 (kk : Int)).f2 (rd_T50 l0 (kk : Int)).f3 (l0.take kk)).bind _ = some r at A2; obtain ⟨c, hc, A3⟩ := Option.bind_eq_some_iff.mp A2; (have hlen : (l0.take kk).length = kk := by rw [List.length_take]; omega); cases e; have hcon := fun (W : World) (hb : Below wr.heap.size wr W) => impl_Term_fault.calls (rd_T50 l0 (kk : Int)).f0 (rd_T50 l0 (kk : Int)).f1 (rd_T50 l0 (kk : Int)).f2 (rd_T50 l0 (kk : Int)).f3 (some ad) c0 (l0.take kk) c W (Kd.C_take (Kd.C_below HR0.out (below_step BW.out hb)) (by omega)) (by omega) hc; simp only [hlen] at hcon; have HF := A_ hcon; clear A A2 hcon hc; replace hx0 := (BW.out.cell (World.block_lt_of_cell? w _ hx0)).trans hx0; replace hx1 := (BW.out.cell (World.block_lt_of_cell? w _ hx1)).trans hx1; replace hx2 := (BW.out.cell (World.block_lt_of_cell? w _ hx2)).trans hx2; replace hx3 := (BW.out.cell (World.block_lt_of_cell? w _ hx3)).trans hx3; simp only [Int.toNat_natCast] at hx0 hx1 hx2 hx3; clear HR0; have hS : ∀ s : Bool, (l0.take kk).any (eqT (rd_T50 l0 (kk : Int))) = s → (fun x => (l0.take kk).any (eqT x)) (rd_T50 l0 (kk : Int)) = s := fun s h => h; by_cases hc : c = 0
        · subst hc
          rw [if_pos rfl] at A3; by_cases hok : okT (l0.getD (kk : Int).toNat z50) = true
          · rw [if_pos hok] at A3
            obtain ⟨kl, hkey⟩ := keyOfT (rd_T50 l0 (kk : Int)) hok; by_cases hs0 : (l0.take kk).any (eqT (l0.getD (kk : Int).toNat z50)) = true
            · rw [if_pos hs0] at A3
              obtain rfl := Option.some.inj A3; have hs := hS true hs0; clear A3 hs0 hS hok; have hu1 := Try.underlying50; have hu2 := Try.underlying25; have p1 : (0 ≤ (kk : Int)) = True := eq_true (by omega); have p2 : ((kk : Int) ≤ (c0 : Int)) = True := eq_true (by omega); have BX := A_ (Boxes.start wr); go_wp2_with (first | ((with_reducible refine gate_dst (N := 5) rfl ?_); refine box_event ?hg (N := 5) ?hd (cs := #[.int .i64 0, .int .i64 0, .int .i64 0, .int .i64 0]) (t := 50) ?hr ?_; (case hd => rfl); (case hg => rfl); (case hr => go_simp <;> rfl); intro g5 hg w5_ hbox hb; have BY := A_ (Boxes.new (w0 := wr) (bs := []) (by (with_reducible repeat (first | refine Boxes.drewN ?_ _ | refine Boxes.drew ?_ | refine Boxes.alloc ?_ _)); exact BX.out) hg hbox hb); clear BX hb hbox hg; have BX := BY; clear BY; have q5_0 := BX.out.c 0 0 rfl rfl; have f5_0 := BX.out.f 0 0 rfl; have q5_1 := BX.out.c 0 1 rfl rfl; have f5_1 := BX.out.f 0 1 rfl; have q5_2 := BX.out.c 0 2 rfl rfl; have f5_2 := BX.out.f 0 2 rfl; have q5_3 := BX.out.c 0 3 rfl rfl; have f5_3 := BX.out.f 0 3 rfl) | ((with_reducible refine gate_store (t := 50) (p := 5) rfl ?_); refine boxes_store (w0 := wr) (bs := [(g5, #[.int .i64 (rd_T50 l0 (kk : Int)).f0, .int .i64 (rd_T50 l0 (kk : Int)).f1, .int .i64 (rd_T50 l0 (kk : Int)).f2, .int .i64 (rd_T50 l0 (kk : Int)).f3], 50)]) (W1 := (((World.setCell w5_ ⟨g5, 0, none⟩ (.int .i64 (rd_T50 l0 (kk : Int)).f0)).setCell ⟨g5, 1, none⟩ (.int .i64 (rd_T50 l0 (kk : Int)).f1)).setCell ⟨g5, 2, none⟩ (.int .i64 (rd_T50 l0 (kk : Int)).f2)).setCell ⟨g5, 3, none⟩ (.int .i64 (rd_T50 l0 (kk : Int)).f3)) rfl rfl rfl ?hr ((((Boxes.put (w0 := wr) (b1 := []) (b2 := []) (g := g5) (cs := #[.int .i64 0, .int .i64 0, .int .i64 0, .int .i64 0]) (t := 50) BX.out 0 (.int .i64 (rd_T50 l0 (kk : Int)).f0)).put (b1 := []) 1 (.int .i64 (rd_T50 l0 (kk : Int)).f1)).put (b1 := []) 2 (.int .i64 (rd_T50 l0 (kk : Int)).f2)).put (b1 := []) 3 (.int .i64 (rd_T50 l0 (kk : Int)).f3)) ?_; (case hr => go_simp <;> rfl); intro w6_ BY; have BY := A_ BY; clear BX; have BX := BY; clear BY; clear q5_0 f5_0 q5_1 f5_1 q5_2 f5_2 q5_3 f5_3; have q5_0 := BX.out.c 0 0 rfl rfl; have f5_0 := BX.out.f 0 0 rfl; have q5_1 := BX.out.c 0 1 rfl rfl; have f5_1 := BX.out.f 0 1 rfl; have q5_2 := BX.out.c 0 2 rfl rfl; have f5_2 := BX.out.f 0 2 rfl; have q5_3 := BX.out.c 0 3 rfl rfl; have f5_3 := BX.out.f 0 3 rfl) | fail); refine start_ (n := 6) (S := fun w' => w'.cell? ⟨g5, 0, none⟩ = some (.int .i64 (rd_T50 l0 (kk : Int)).f0) ∧ w'.cell? ⟨g5, 1, none⟩ = some (.int .i64 (rd_T50 l0 (kk : Int)).f1) ∧ w'.cell? ⟨g5, 2, none⟩ = some (.int .i64 (rd_T50 l0 (kk : Int)).f2) ∧ w'.cell? ⟨g5, 3, none⟩ = some (.int .i64 (rd_T50 l0 (kk : Int)).f3)) (ds := [4]) #[false, false, false, false, false, false] (by kernel_rfl) rfl rfl ⟨q5_0, q5_1, q5_2, q5_3⟩ (fun hHeld => ?_); refine pure_ (i := 1) (N := some 19) (v := ?_) (a' := ?_) (bv 6 2) rfl rfl (by kernel_rfl) (fun _ _ _ h => h) (Or.inl ⟨by rfl, ?_⟩) ?_ ?_; rotate_left
              · intro w'
                go_simp; (with_reducible rfl)
              rotate_left
              · simp only [Act.put, p_1, p_2, p_3, i64_w, i32_w]
                rfl
              refine pure_ (i := 2) (N := some 20) (v := ?_) (a' := ?_) (bv 6 6) rfl rfl (by kernel_rfl) (fun _ _ _ h => h) (Or.inl ⟨by rfl, ?_⟩) ?_ ?_; rotate_left
              · intro w'
                go_simp; (with_reducible rfl)
              rotate_left
              · simp only [Act.put, p_1, p_2, p_3, i64_w, i32_w]
                rfl
              refine pure_ (i := 3) (N := some 21) (v := ?_) (a' := ?_) (bv 6 14) rfl rfl (by kernel_rfl) (fun _ _ _ h => h) (Or.inl ⟨by rfl, ?_⟩) ?_ ?_; rotate_left
              · intro w'
                go_simp; (with_reducible rfl)
              rotate_left
              · simp only [Act.put, p_1, p_2, p_3, i64_w, i32_w]
                rfl
              refine take_ (i := 0) (N := some 18) (v := ?_) (a' := ?_) (bv 6 15) rfl rfl (by kernel_rfl) (fun _ _ _ h => h) (Or.inl ⟨by rfl, ?_⟩) hHeld ?_ ?_; rotate_left
              · rintro w' ⟨s0, s1, s2, s3⟩
                go_simp; (with_reducible rfl)
              rotate_left
              · simp only [Act.put, p_1, p_2, p_3, i64_w, i32_w]
                rfl
              refine last_ (i := 4) (N := some 22) #[true, true, true, true, true, false] rfl rfl (by kernel_rfl) (by decide) (fun K hK => ?_); refine goes_ Try.func77 (by kernel_rfl) rfl #[.agg #[.int .i64 (rd_T50 l0 (kk : Int)).f0, .int .i64 (rd_T50 l0 (kk : Int)).f1, .int .i64 (rd_T50 l0 (kk : Int)).f2, .int .i64 (rd_T50 l0 (kk : Int)).f3], .slice (some ad) kk c0] (by rfl) rfl rfl (by simp only [List.map_toArray, List.map_cons, List.map_nil]; rfl) ?_; (with_reducible refine (HF.out _ (Boxes.low (w0 := wr) (bs := [(g5, #[.int .i64 (rd_T50 l0 (kk : Int)).f0, .int .i64 (rd_T50 l0 (kk : Int)).f1, .int .i64 (rd_T50 l0 (kk : Int)).f2, .int .i64 (rd_T50 l0 (kk : Int)).f3], 50)]) (Boxes.drew BX.out))).mono ?_); rintro e w7_ ⟨rfl, hb⟩; refine ⟨_, rfl, ?_⟩; have BY := A_ (Boxes.below (w0 := wr) (bs := [(g5, #[.int .i64 (rd_T50 l0 (kk : Int)).f0, .int .i64 (rd_T50 l0 (kk : Int)).f1, .int .i64 (rd_T50 l0 (kk : Int)).f2, .int .i64 (rd_T50 l0 (kk : Int)).f3], 50)]) (Boxes.drew BX.out) hb); clear BX hb; have BX := BY; clear BY; clear q5_0 f5_0 q5_1 f5_1 q5_2 f5_2 q5_3 f5_3; have q5_0 := BX.out.c 0 0 rfl rfl; have f5_0 := BX.out.f 0 0 rfl; have q5_1 := BX.out.c 0 1 rfl rfl; have f5_1 := BX.out.f 0 1 rfl; have q5_2 := BX.out.c 0 2 rfl rfl; have f5_2 := BX.out.f 0 2 rfl; have q5_3 := BX.out.c 0 3 rfl rfl; have f5_3 := BX.out.f 0 3 rfl; refine hK.out _ _ ?_; clear hK K; refine norm_ (a' := ?_) ?_ ?_; rotate_left
              · show Act.put _ (some 22) _ = _
                simp only [Act.put, p_1, p_2, p_3, i64_w, i32_w]; rfl
              refine pure_ (i := 5) (N := some 6) (v := ?_) (a' := ?_) (bv 6 63) rfl rfl (by kernel_rfl) (fun _ _ _ h => h) (Or.inl ⟨by rfl, ?_⟩) ?_ ?_; rotate_left
              · intro w'
                go_simp; (with_reducible rfl)
              rotate_left
              · simp only [Act.put, p_1, p_2, p_3, i64_w, i32_w]
                rfl
              refine done_ (by kernel_rfl) ?_; go_wp2_with (first | (at_lookup; refine wpList_lookup_set rfl _ _ 96 rfl 50 4 keyedT Try.underlying96 Try.underlying4 (zeroB_ _) (HS.out.below (Boxes.low (w0 := wr) (bs := [(g5, #[.int .i64 (rd_T50 l0 (kk : Int)).f0, .int .i64 (rd_T50 l0 (kk : Int)).f1, .int .i64 (rd_T50 l0 (kk : Int)).f2, .int .i64 (rd_T50 l0 (kk : Int)).f3], 50)]) (by (with_reducible repeat (first | refine Boxes.drewN ?_ _ | refine Boxes.drew ?_ | refine Boxes.alloc ?_ _)); exact BX.out))) rfl (rd_T50 l0 (kk : Int)) rfl hkey (s := true) hs ?_) | fail); go_ret; exact ⟨rfl, below_step BW.out (Boxes.low (w0 := wr) (bs := [(g5, #[.int .i64 (rd_T50 l0 (kk : Int)).f0, .int .i64 (rd_T50 l0 (kk : Int)).f1, .int .i64 (rd_T50 l0 (kk : Int)).f2, .int .i64 (rd_T50 l0 (kk : Int)).f3], 50)]) (by (with_reducible repeat (first | refine Boxes.drewN ?_ _ | refine Boxes.drew ?_ | refine Boxes.alloc ?_ _)); exact BX.out))⟩
            · rw [if_neg hs0] at A3
              have hs := hS false (Bool.eq_false_iff.mpr hs0); have A4 : Aside0 (impl_TermsFault.l (l0.take (kk + 1)) (l0.drop (kk + 1)) = some r) := ⟨by rw [← hT]; exact A3⟩
              have hSn : (fun x => (l0.take kk).any (eqT x) || decide (x = (rd_T50 l0 (kk : Int)))) = (fun x => (l0.take (kk + 1)).any (eqT x)) := by
                funext x; rw [← hT, List.any_append, List.any_cons, List.any_nil, Bool.or_false, eqT_dec]; rfl
              clear A3 hs0 hS hok; have hu1 := Try.underlying50; have hu2 := Try.underlying25; have p1 : (0 ≤ (kk : Int)) = True := eq_true (by omega); have p2 : ((kk : Int) ≤ (c0 : Int)) = True := eq_true (by omega); have BX := A_ (Boxes.start wr); go_wp2_with (first | ((with_reducible refine gate_dst (N := 5) rfl ?_); refine box_event ?hg (N := 5) ?hd (cs := #[.int .i64 0, .int .i64 0, .int .i64 0, .int .i64 0]) (t := 50) ?hr ?_; (case hd => rfl); (case hg => rfl); (case hr => go_simp <;> rfl); intro g5 hg w5_ hbox hb; have BY := A_ (Boxes.new (w0 := wr) (bs := []) (by (with_reducible repeat (first | refine Boxes.drewN ?_ _ | refine Boxes.drew ?_ | refine Boxes.alloc ?_ _)); exact BX.out) hg hbox hb); clear BX hb hbox hg; have BX := BY; clear BY; have q5_0 := BX.out.c 0 0 rfl rfl; have f5_0 := BX.out.f 0 0 rfl; have q5_1 := BX.out.c 0 1 rfl rfl; have f5_1 := BX.out.f 0 1 rfl; have q5_2 := BX.out.c 0 2 rfl rfl; have f5_2 := BX.out.f 0 2 rfl; have q5_3 := BX.out.c 0 3 rfl rfl; have f5_3 := BX.out.f 0 3 rfl) | ((with_reducible refine gate_store (t := 50) (p := 5) rfl ?_); refine boxes_store (w0 := wr) (bs := [(g5, #[.int .i64 (rd_T50 l0 (kk : Int)).f0, .int .i64 (rd_T50 l0 (kk : Int)).f1, .int .i64 (rd_T50 l0 (kk : Int)).f2, .int .i64 (rd_T50 l0 (kk : Int)).f3], 50)]) (W1 := (((World.setCell w5_ ⟨g5, 0, none⟩ (.int .i64 (rd_T50 l0 (kk : Int)).f0)).setCell ⟨g5, 1, none⟩ (.int .i64 (rd_T50 l0 (kk : Int)).f1)).setCell ⟨g5, 2, none⟩ (.int .i64 (rd_T50 l0 (kk : Int)).f2)).setCell ⟨g5, 3, none⟩ (.int .i64 (rd_T50 l0 (kk : Int)).f3)) rfl rfl rfl ?hr ((((Boxes.put (w0 := wr) (b1 := []) (b2 := []) (g := g5) (cs := #[.int .i64 0, .int .i64 0, .int .i64 0, .int .i64 0]) (t := 50) BX.out 0 (.int .i64 (rd_T50 l0 (kk : Int)).f0)).put (b1 := []) 1 (.int .i64 (rd_T50 l0 (kk : Int)).f1)).put (b1 := []) 2 (.int .i64 (rd_T50 l0 (kk : Int)).f2)).put (b1 := []) 3 (.int .i64 (rd_T50 l0 (kk : Int)).f3)) ?_; (case hr => go_simp <;> rfl); intro w6_ BY; have BY := A_ BY; clear BX; have BX := BY; clear BY; clear q5_0 f5_0 q5_1 f5_1 q5_2 f5_2 q5_3 f5_3; have q5_0 := BX.out.c 0 0 rfl rfl; have f5_0 := BX.out.f 0 0 rfl; have q5_1 := BX.out.c 0 1 rfl rfl; have f5_1 := BX.out.f 0 1 rfl; have q5_2 := BX.out.c 0 2 rfl rfl; have f5_2 := BX.out.f 0 2 rfl; have q5_3 := BX.out.c 0 3 rfl rfl; have f5_3 := BX.out.f 0 3 rfl) | fail); refine start_ (n := 6) (S := fun w' => w'.cell? ⟨g5, 0, none⟩ = some (.int .i64 (rd_T50 l0 (kk : Int)).f0) ∧ w'.cell? ⟨g5, 1, none⟩ = some (.int .i64 (rd_T50 l0 (kk : Int)).f1) ∧ w'.cell? ⟨g5, 2, none⟩ = some (.int .i64 (rd_T50 l0 (kk : Int)).f2) ∧ w'.cell? ⟨g5, 3, none⟩ = some (.int .i64 (rd_T50 l0 (kk : Int)).f3)) (ds := [4]) #[false, false, false, false, false, false] (by kernel_rfl) rfl rfl ⟨q5_0, q5_1, q5_2, q5_3⟩ (fun hHeld => ?_); refine pure_ (i := 1) (N := some 19) (v := ?_) (a' := ?_) (bv 6 2) rfl rfl (by kernel_rfl) (fun _ _ _ h => h) (Or.inl ⟨by rfl, ?_⟩) ?_ ?_; rotate_left
              · intro w'
                go_simp; (with_reducible rfl)
              rotate_left
              · simp only [Act.put, p_1, p_2, p_3, i64_w, i32_w]
                rfl
              refine pure_ (i := 2) (N := some 20) (v := ?_) (a' := ?_) (bv 6 6) rfl rfl (by kernel_rfl) (fun _ _ _ h => h) (Or.inl ⟨by rfl, ?_⟩) ?_ ?_; rotate_left
              · intro w'
                go_simp; (with_reducible rfl)
              rotate_left
              · simp only [Act.put, p_1, p_2, p_3, i64_w, i32_w]
                rfl
              refine pure_ (i := 3) (N := some 21) (v := ?_) (a' := ?_) (bv 6 14) rfl rfl (by kernel_rfl) (fun _ _ _ h => h) (Or.inl ⟨by rfl, ?_⟩) ?_ ?_; rotate_left
              · intro w'
                go_simp; (with_reducible rfl)
              rotate_left
              · simp only [Act.put, p_1, p_2, p_3, i64_w, i32_w]
                rfl
              refine take_ (i := 0) (N := some 18) (v := ?_) (a' := ?_) (bv 6 15) rfl rfl (by kernel_rfl) (fun _ _ _ h => h) (Or.inl ⟨by rfl, ?_⟩) hHeld ?_ ?_; rotate_left
              · rintro w' ⟨s0, s1, s2, s3⟩
                go_simp; (with_reducible rfl)
              rotate_left
              · simp only [Act.put, p_1, p_2, p_3, i64_w, i32_w]
                rfl
              refine last_ (i := 4) (N := some 22) #[true, true, true, true, true, false] rfl rfl (by kernel_rfl) (by decide) (fun K hK => ?_); refine goes_ Try.func77 (by kernel_rfl) rfl #[.agg #[.int .i64 (rd_T50 l0 (kk : Int)).f0, .int .i64 (rd_T50 l0 (kk : Int)).f1, .int .i64 (rd_T50 l0 (kk : Int)).f2, .int .i64 (rd_T50 l0 (kk : Int)).f3], .slice (some ad) kk c0] (by rfl) rfl rfl (by simp only [List.map_toArray, List.map_cons, List.map_nil]; rfl) ?_; (with_reducible refine (HF.out _ (Boxes.low (w0 := wr) (bs := [(g5, #[.int .i64 (rd_T50 l0 (kk : Int)).f0, .int .i64 (rd_T50 l0 (kk : Int)).f1, .int .i64 (rd_T50 l0 (kk : Int)).f2, .int .i64 (rd_T50 l0 (kk : Int)).f3], 50)]) (Boxes.drew BX.out))).mono ?_); rintro e w7_ ⟨rfl, hb⟩; refine ⟨_, rfl, ?_⟩; have BY := A_ (Boxes.below (w0 := wr) (bs := [(g5, #[.int .i64 (rd_T50 l0 (kk : Int)).f0, .int .i64 (rd_T50 l0 (kk : Int)).f1, .int .i64 (rd_T50 l0 (kk : Int)).f2, .int .i64 (rd_T50 l0 (kk : Int)).f3], 50)]) (Boxes.drew BX.out) hb); clear BX hb; have BX := BY; clear BY; clear q5_0 f5_0 q5_1 f5_1 q5_2 f5_2 q5_3 f5_3; have q5_0 := BX.out.c 0 0 rfl rfl; have f5_0 := BX.out.f 0 0 rfl; have q5_1 := BX.out.c 0 1 rfl rfl; have f5_1 := BX.out.f 0 1 rfl; have q5_2 := BX.out.c 0 2 rfl rfl; have f5_2 := BX.out.f 0 2 rfl; have q5_3 := BX.out.c 0 3 rfl rfl; have f5_3 := BX.out.f 0 3 rfl; refine hK.out _ _ ?_; clear hK K; refine norm_ (a' := ?_) ?_ ?_; rotate_left
              · show Act.put _ (some 22) _ = _
                simp only [Act.put, p_1, p_2, p_3, i64_w, i32_w]; rfl
              refine pure_ (i := 5) (N := some 6) (v := ?_) (a' := ?_) (bv 6 63) rfl rfl (by kernel_rfl) (fun _ _ _ h => h) (Or.inl ⟨by rfl, ?_⟩) ?_ ?_; rotate_left
              · intro w'
                go_simp; (with_reducible rfl)
              rotate_left
              · simp only [Act.put, p_1, p_2, p_3, i64_w, i32_w]
                rfl
              refine done_ (by kernel_rfl) ?_; go_wp2_with (first | (at_lookup; refine wpList_lookup_set rfl _ _ 96 rfl 50 4 keyedT Try.underlying96 Try.underlying4 (zeroB_ _) (HS.out.below (Boxes.low (w0 := wr) (bs := [(g5, #[.int .i64 (rd_T50 l0 (kk : Int)).f0, .int .i64 (rd_T50 l0 (kk : Int)).f1, .int .i64 (rd_T50 l0 (kk : Int)).f2, .int .i64 (rd_T50 l0 (kk : Int)).f3], 50)]) (by (with_reducible repeat (first | refine Boxes.drewN ?_ _ | refine Boxes.drew ?_ | refine Boxes.alloc ?_ _)); exact BX.out))) rfl (rd_T50 l0 (kk : Int)) rfl hkey (s := false) hs ?_) | (at_mapUpdate; refine wpList_update_set rfl _ _ _ 96 rfl 50 4 keyedT Try.underlying96 Try.underlying4 encT_inj (HS.out.below (Boxes.low (w0 := wr) (bs := [(g5, #[.int .i64 (rd_T50 l0 (kk : Int)).f0, .int .i64 (rd_T50 l0 (kk : Int)).f1, .int .i64 (rd_T50 l0 (kk : Int)).f2, .int .i64 (rd_T50 l0 (kk : Int)).f3], 50)]) (by (with_reducible repeat (first | refine Boxes.drewN ?_ _ | refine Boxes.drew ?_ | refine Boxes.alloc ?_ _)); exact BX.out))) (by unfold maxLen; omega) rfl (rd_T50 l0 (kk : Int)) rfl rfl hkey ?_; intro w8_ hown_ hgr_; have HS8 := A_ hown_; have HB8 := A_ (pw_below_grown (below_step BW.out (Boxes.low (w0 := wr) (bs := [(g5, #[.int .i64 (rd_T50 l0 (kk : Int)).f0, .int .i64 (rd_T50 l0 (kk : Int)).f1, .int .i64 (rd_T50 l0 (kk : Int)).f2, .int .i64 (rd_T50 l0 (kk : Int)).f3], 50)]) (by (with_reducible repeat (first | refine Boxes.drewN ?_ _ | refine Boxes.drew ?_ | refine Boxes.alloc ?_ _)); exact BX.out))) _ (Nat.le_trans BW.out.size (Boxes.low (w0 := wr) (bs := [(g5, #[.int .i64 (rd_T50 l0 (kk : Int)).f0, .int .i64 (rd_T50 l0 (kk : Int)).f1, .int .i64 (rd_T50 l0 (kk : Int)).f2, .int .i64 (rd_T50 l0 (kk : Int)).f3], 50)]) (by (with_reducible repeat (first | refine Boxes.drewN ?_ _ | refine Boxes.drew ?_ | refine Boxes.alloc ?_ _)); exact BX.out)).size) hgr_ (fun k hk => by cases hk; exact Nat.le_refl _)); clear hown_ hgr_ HS) | fail); go_roundg (l0.length - (kk + 1)); (case measure => omega); (case rel => exact ⟨kk + 1, by omega, by omega, by go_num, ⟨HB8.out⟩, ⟨by rw [← hSn]; exact HS8.out⟩, ⟨A4.out⟩⟩)
          · rw [if_neg hok] at A3
            exact absurd A3 (by simp)
        · rw [if_neg hc] at A3
          obtain rfl := Option.some.inj A3; (have hcb : (c != 0) = true := by simpa using hc); clear A3 hS hc HS; have hu1 := Try.underlying50; have hu2 := Try.underlying25; have p1 : (0 ≤ (kk : Int)) = True := eq_true (by omega); have p2 : ((kk : Int) ≤ (c0 : Int)) = True := eq_true (by omega); have BX := A_ (Boxes.start wr); go_wp2_with (first | ((with_reducible refine gate_dst (N := 5) rfl ?_); refine box_event ?hg (N := 5) ?hd (cs := #[.int .i64 0, .int .i64 0, .int .i64 0, .int .i64 0]) (t := 50) ?hr ?_; (case hd => rfl); (case hg => rfl); (case hr => go_simp <;> rfl); intro g5 hg w5_ hbox hb; have BY := A_ (Boxes.new (w0 := wr) (bs := []) (by (with_reducible repeat (first | refine Boxes.drewN ?_ _ | refine Boxes.drew ?_ | refine Boxes.alloc ?_ _)); exact BX.out) hg hbox hb); clear BX hb hbox hg; have BX := BY; clear BY; have q5_0 := BX.out.c 0 0 rfl rfl; have f5_0 := BX.out.f 0 0 rfl; have q5_1 := BX.out.c 0 1 rfl rfl; have f5_1 := BX.out.f 0 1 rfl; have q5_2 := BX.out.c 0 2 rfl rfl; have f5_2 := BX.out.f 0 2 rfl; have q5_3 := BX.out.c 0 3 rfl rfl; have f5_3 := BX.out.f 0 3 rfl) | ((with_reducible refine gate_store (t := 50) (p := 5) rfl ?_); refine boxes_store (w0 := wr) (bs := [(g5, #[.int .i64 (rd_T50 l0 (kk : Int)).f0, .int .i64 (rd_T50 l0 (kk : Int)).f1, .int .i64 (rd_T50 l0 (kk : Int)).f2, .int .i64 (rd_T50 l0 (kk : Int)).f3], 50)]) (W1 := (((World.setCell w5_ ⟨g5, 0, none⟩ (.int .i64 (rd_T50 l0 (kk : Int)).f0)).setCell ⟨g5, 1, none⟩ (.int .i64 (rd_T50 l0 (kk : Int)).f1)).setCell ⟨g5, 2, none⟩ (.int .i64 (rd_T50 l0 (kk : Int)).f2)).setCell ⟨g5, 3, none⟩ (.int .i64 (rd_T50 l0 (kk : Int)).f3)) rfl rfl rfl ?hr ((((Boxes.put (w0 := wr) (b1 := []) (b2 := []) (g := g5) (cs := #[.int .i64 0, .int .i64 0, .int .i64 0, .int .i64 0]) (t := 50) BX.out 0 (.int .i64 (rd_T50 l0 (kk : Int)).f0)).put (b1 := []) 1 (.int .i64 (rd_T50 l0 (kk : Int)).f1)).put (b1 := []) 2 (.int .i64 (rd_T50 l0 (kk : Int)).f2)).put (b1 := []) 3 (.int .i64 (rd_T50 l0 (kk : Int)).f3)) ?_; (case hr => go_simp <;> rfl); intro w6_ BY; have BY := A_ BY; clear BX; have BX := BY; clear BY; clear q5_0 f5_0 q5_1 f5_1 q5_2 f5_2 q5_3 f5_3; have q5_0 := BX.out.c 0 0 rfl rfl; have f5_0 := BX.out.f 0 0 rfl; have q5_1 := BX.out.c 0 1 rfl rfl; have f5_1 := BX.out.f 0 1 rfl; have q5_2 := BX.out.c 0 2 rfl rfl; have f5_2 := BX.out.f 0 2 rfl; have q5_3 := BX.out.c 0 3 rfl rfl; have f5_3 := BX.out.f 0 3 rfl) | fail); refine start_ (n := 6) (S := fun w' => w'.cell? ⟨g5, 0, none⟩ = some (.int .i64 (rd_T50 l0 (kk : Int)).f0) ∧ w'.cell? ⟨g5, 1, none⟩ = some (.int .i64 (rd_T50 l0 (kk : Int)).f1) ∧ w'.cell? ⟨g5, 2, none⟩ = some (.int .i64 (rd_T50 l0 (kk : Int)).f2) ∧ w'.cell? ⟨g5, 3, none⟩ = some (.int .i64 (rd_T50 l0 (kk : Int)).f3)) (ds := [4]) #[false, false, false, false, false, false] (by kernel_rfl) rfl rfl ⟨q5_0, q5_1, q5_2, q5_3⟩ (fun hHeld => ?_); refine pure_ (i := 1) (N := some 19) (v := ?_) (a' := ?_) (bv 6 2) rfl rfl (by kernel_rfl) (fun _ _ _ h => h) (Or.inl ⟨by rfl, ?_⟩) ?_ ?_; rotate_left
          · intro w'
            go_simp; (with_reducible rfl)
          rotate_left
          · simp only [Act.put, p_1, p_2, p_3, i64_w, i32_w]
            rfl
          refine pure_ (i := 2) (N := some 20) (v := ?_) (a' := ?_) (bv 6 6) rfl rfl (by kernel_rfl) (fun _ _ _ h => h) (Or.inl ⟨by rfl, ?_⟩) ?_ ?_; rotate_left
          · intro w'
            go_simp; (with_reducible rfl)
          rotate_left
          · simp only [Act.put, p_1, p_2, p_3, i64_w, i32_w]
            rfl
          refine pure_ (i := 3) (N := some 21) (v := ?_) (a' := ?_) (bv 6 14) rfl rfl (by kernel_rfl) (fun _ _ _ h => h) (Or.inl ⟨by rfl, ?_⟩) ?_ ?_; rotate_left
          · intro w'
            go_simp; (with_reducible rfl)
          rotate_left
          · simp only [Act.put, p_1, p_2, p_3, i64_w, i32_w]
            rfl
          refine take_ (i := 0) (N := some 18) (v := ?_) (a' := ?_) (bv 6 15) rfl rfl (by kernel_rfl) (fun _ _ _ h => h) (Or.inl ⟨by rfl, ?_⟩) hHeld ?_ ?_; rotate_left
          · rintro w' ⟨s0, s1, s2, s3⟩
            go_simp; (with_reducible rfl)
          rotate_left
          · simp only [Act.put, p_1, p_2, p_3, i64_w, i32_w]
            rfl
          refine last_ (i := 4) (N := some 22) #[true, true, true, true, true, false] rfl rfl (by kernel_rfl) (by decide) (fun K hK => ?_); refine goes_ Try.func77 (by kernel_rfl) rfl #[.agg #[.int .i64 (rd_T50 l0 (kk : Int)).f0, .int .i64 (rd_T50 l0 (kk : Int)).f1, .int .i64 (rd_T50 l0 (kk : Int)).f2, .int .i64 (rd_T50 l0 (kk : Int)).f3], .slice (some ad) kk c0] (by rfl) rfl rfl (by simp only [List.map_toArray, List.map_cons, List.map_nil]; rfl) ?_; (with_reducible refine (HF.out _ (Boxes.low (w0 := wr) (bs := [(g5, #[.int .i64 (rd_T50 l0 (kk : Int)).f0, .int .i64 (rd_T50 l0 (kk : Int)).f1, .int .i64 (rd_T50 l0 (kk : Int)).f2, .int .i64 (rd_T50 l0 (kk : Int)).f3], 50)]) (Boxes.drew BX.out))).mono ?_); rintro e w7_ ⟨rfl, hb⟩; refine ⟨_, rfl, ?_⟩; have BY := A_ (Boxes.below (w0 := wr) (bs := [(g5, #[.int .i64 (rd_T50 l0 (kk : Int)).f0, .int .i64 (rd_T50 l0 (kk : Int)).f1, .int .i64 (rd_T50 l0 (kk : Int)).f2, .int .i64 (rd_T50 l0 (kk : Int)).f3], 50)]) (Boxes.drew BX.out) hb); clear BX hb; have BX := BY; clear BY; clear q5_0 f5_0 q5_1 f5_1 q5_2 f5_2 q5_3 f5_3; have q5_0 := BX.out.c 0 0 rfl rfl; have f5_0 := BX.out.f 0 0 rfl; have q5_1 := BX.out.c 0 1 rfl rfl; have f5_1 := BX.out.f 0 1 rfl; have q5_2 := BX.out.c 0 2 rfl rfl; have f5_2 := BX.out.f 0 2 rfl; have q5_3 := BX.out.c 0 3 rfl rfl; have f5_3 := BX.out.f 0 3 rfl; refine hK.out _ _ ?_; clear hK K; refine norm_ (a' := ?_) ?_ ?_; rotate_left
          · show Act.put _ (some 22) _ = _
            simp only [Act.put, p_1, p_2, p_3, i64_w, i32_w]; rfl
          refine pure_ (i := 5) (N := some 6) (v := ?_) (a' := ?_) (bv 6 63) rfl rfl (by kernel_rfl) (fun _ _ _ h => h) (Or.inl ⟨by rfl, ?_⟩) ?_ ?_; rotate_left
          · intro w'
            go_simp; (with_reducible rfl)
          rotate_left
          · simp only [Act.put, p_1, p_2, p_3, i64_w, i32_w]
            rfl
          refine done_ (by kernel_rfl) ?_; go_wp2; go_ret; exact ⟨rfl, below_step BW.out (Boxes.low (w0 := wr) (bs := [(g5, #[.int .i64 (rd_T50 l0 (kk : Int)).f0, .int .i64 (rd_T50 l0 (kk : Int)).f1, .int .i64 (rd_T50 l0 (kk : Int)).f2, .int .i64 (rd_T50 l0 (kk : Int)).f3], 50)]) (by (with_reducible repeat (first | refine Boxes.drewN ?_ _ | refine Boxes.drew ?_ | refine Boxes.alloc ?_ _)); exact BX.out))⟩
      · have hltz : ¬ (kk : Int) < (l0.length : Int) := by omega
        (have hke : kk = l0.length := by omega); subst hke; have A4 := A_ (Option.some.inj ((by rw [List.drop_length, impl_TermsFault.l] : impl_TermsFault.l _ (l0.drop l0.length) = some 0).symm.trans A.out)); clear A HS; go_wp2; go_ret; exact ⟨congrArg (fun z => Ending.returned (Value.int .i64 z)) A4.out, BW.out⟩

/-! ### impl_KnownFault: function 44 -/
def impl_KnownFault.l0 : Nat → List (S50) → List Int → List Int → Int → Int → Option (Int)
 | 0, _, _, _, _, _ => none
 | k + 1, x0, x1, x16, x17, x18 => if x18 < x17 then (if 0 ≤ x18 then (if x18 < (x16.length : Int) then ((impl_isPlace.f x0 (rd x16 x18)).bind fun t116 => (if t116 = true then (if x18 > 0 then (if 0 ≤ (wrap64 (x18 - 1)) then (if (wrap64 (x18 - 1)) < (x1.length : Int) then (if (rd x1 (wrap64 (x18 - 1))) ≥ (rd x16 x18) then (some 1) else (impl_KnownFault.l0 k x0 x1 x16 x17 (wrap64 (x18 + 1)))) else (none)) else (none)) else (impl_KnownFault.l0 k x0 x1 x16 x17 (wrap64 (x18 + 1)))) else (some 3))) else (none)) else (none)) else (some 0)
def impl_KnownFault.f (k : Nat) (l0 : List (S50)) (l1 : List Int) : Option (Int) := (impl_TermsFault.f l0).bind fun t114 => (if t114 = 0 then (if (l1.length : Int) > 400 then (some 2) else (impl_KnownFault.l0 k l0 l1 l1 (l1.length : Int) 0)) else (some t114))
theorem impl_KnownFault.mono_l : ∀ k, (∀ y0 y1 y2 y3 y4, LeO (impl_KnownFault.l0 k y0 y1 y2 y3 y4) (impl_KnownFault.l0 (k + 1) y0 y1 y2 y3 y4))
 | 0 => fun _ _ _ _ _ r h => by simp [impl_KnownFault.l0] at h
 | k + 1 => by
  have ih0 := impl_KnownFault.mono_l k
  ·
   intro y0 y1 y2 y3 y4
   unfold impl_KnownFault.l0
   repeat' first | (with_reducible first | exact ih0 _ _ _ _ _ | exact LeO.refl _ | exact LeO.none _ | refine LeO.ite ?_ ?_ | refine LeO.bind ?_ (fun _ => ?_)) | exact LeO.none _ | refine LeO.ite ?_ ?_ | refine LeO.bind ?_ (fun _ => ?_)
theorem impl_KnownFault.mono : ∀ a0 a1 k, LeO (impl_KnownFault.f k a0 a1) (impl_KnownFault.f (k + 1) a0 a1) := by
 intro a0 a1 k; have ih0 := impl_KnownFault.mono_l k; unfold impl_KnownFault.f; (repeat' first | (with_reducible first | exact ih0 _ _ _ _ _ | exact LeO.refl _ | exact LeO.none _ | refine LeO.ite ?_ ?_ | refine LeO.bind ?_ (fun _ => ?_)) | exact LeO.none _ | refine LeO.ite ?_ ?_ | refine LeO.bind ?_ (fun _ => ?_))
set_option maxHeartbeats 8000000 in
set_option maxRecDepth 100000 in
theorem impl_KnownFault.calls (k : Nat) (A0 : Option Addr) (c0 : Nat) (l0 : List (S50)) (A1 : Option Addr) (c1 : Nat) (l1 : List Int) (r : Int) (w : World) (hr0 : Kd.C k50 w A0 l0.length l0) (hc0 : l0.length ≤ c0) (hr1 : Kd.C (Kd.int .i64) w A1 l1.length l1) (hc1 : l1.length ≤ c1) (h : impl_KnownFault.f k l0 l1 = some r) :
  Calls Try.prog 44 #[.slice A0 l0.length c0, .slice A1 l1.length c1] w fun e w' => e = .returned (.int .i64 r) ∧ Below w.heap.size w w' := by
 have HR0 := A_ hr0; have HC0 := A_ hc0; clear hr0 hc0; have HR1 := A_ hr1; have HC1 := A_ hc1; clear hr1 hc1; have HB := A_ (Below.refl w.heap.size w); have H : ((impl_TermsFault.f l0).bind fun t114 => (if t114 = 0 then (if (l1.length : Int) > 400 then (some 2) else (impl_KnownFault.l0 k l0 l1 l1 (l1.length : Int) 0)) else (some t114))) = some r := h; clear h; replace H := Option.bind_eq_some_iff.mp H; obtain ⟨t114, A30, H⟩ := H; (try dsimp only at H); have A3 := A_ A30; clear A30; by_cases c4 : t114 = 0
 ·
  rw [if_pos c4] at H; have c4b0 : (t114 == 0) = true := beq_iff_eq.mpr c4; have c4b1 : (t114 != 0) = false := bne_eq_false_iff_eq.mpr c4; clear c4; by_cases c5 : (l1.length : Int) > 400
  · rw [if_pos c5] at H; have c5b0 := decide_eq_true c5; have c5b1 : decide (400 < l1.length) = true := decide_eq_true (by omega); clear c5; obtain rfl := Option.some.inj H; go_enter Try.func44, Try.ntmps44; go_wp2_with (first | ((with_reducible refine gate_callee (f := 59) rfl ?_); refine gL_ (some 9) Try.func59 #[.slice A0 l0.length c0] ?_; (with_reducible refine (impl_TermsFault.calls _ _ l0 t114 _ ?side1 ?side2 A3.out).mono ?_); (case side1 => exact cu HR0.out); (case side2 => exact HC0.out); rintro e w6 ⟨rfl, hb⟩; refine ⟨_, rfl, ?_⟩; have n0_ := A_ (below_step (lowU HB.out) hb); clear HB; have HB := n0_; clear n0_; (try clear hb); (try clear hb2); (try clear hk); (try clear hi))); go_ret; exact ⟨by first | rfl | (simp [errW_none, errW_some] <;> rfl) | (simp [*, errW_none, errW_some] <;> rfl), lowU HB.out⟩
  ·
   rw [if_neg c5] at H; have c5b0 := decide_eq_false c5; have c5b1 : decide (400 < l1.length) = false := decide_eq_false (by omega); clear c5; have H' := A_ H; clear H; go_enter Try.func44, Try.ntmps44; go_wp2_with (first | ((with_reducible refine gate_callee (f := 59) rfl ?_); refine gL_ (some 9) Try.func59 #[.slice A0 l0.length c0] ?_; (with_reducible refine (impl_TermsFault.calls _ _ l0 t114 _ ?side1 ?side2 A3.out).mono ?_); (case side1 => exact cu HR0.out); (case side2 => exact HC0.out); rintro e w7 ⟨rfl, hb⟩; refine ⟨_, rfl, ?_⟩; have n0_ := A_ (below_step (lowU HB.out) hb); clear HB; have HB := n0_; clear n0_; (try clear hb); (try clear hb2); (try clear hk); (try clear hi))); go_loopg [18] k (fun kq v18 w' => ∃ (x18_1 : Int), v18 = .int .i64 x18_1 ∧ Aside0 (impl_KnownFault.l0 kq l0 l1 l1 (l1.length : Int) x18_1 = some r) ∧ Aside0 (kq ≤ k) ∧ Aside0 (Below w.heap.size w w')); (case atStart => exact ⟨(0), (by first | rfl | (simp; done) | (simp [*]; done)), H', ⟨Nat.le_refl _⟩, ⟨lowU HB.out⟩⟩)
   case round =>
    clear H'; (try clear c1; try clear p2; try clear c4; try clear c4b0; try clear c4b1; try clear c5; try clear c5b0; try clear c5b1); obtain ⟨x18_1, rfl, HA, HK1, HB⟩ := hrel
    cases gk with
    | zero => exact absurd HA.out (by simp [impl_KnownFault.l0])
    | succ k1 =>
     have H := HA.out; clear HA; simp only [impl_KnownFault.l0] at H; by_cases c8 : x18_1 < (l1.length : Int)
     ·
      rw [if_pos c8] at H; have c8b0 := decide_eq_true c8; clear c8; have H1 := ifS H; clear H; obtain ⟨c9b0, H⟩ := H1; have H1 := ifS H; clear H; obtain ⟨c10b0, H⟩ := H1; replace H := Option.bind_eq_some_iff.mp H; obtain ⟨t116, A110, H⟩ := H; (try dsimp only at H); have A11 := A_ A110; clear A110; by_cases c12 : t116 = true
      ·
       subst c12; replace H := ifT H; by_cases c13 : x18_1 > 0
       ·
        rw [if_pos c13] at H; have c13b0 := decide_eq_true c13; clear c13; obtain ⟨ji14, hji14⟩ : ∃ j_ : Int, (wrap64 (x18_1 - 1)) = j_ := ⟨_, rfl⟩; (replace H : (if 0 ≤ (ji14) then (if (ji14) < (l1.length : Int) then (if (rd l1 (ji14)) ≥ (rd l1 x18_1) then (some 1) else (impl_KnownFault.l0 k1 l0 l1 l1 (l1.length : Int) (wrap64 (x18_1 + 1)))) else (none)) else (none)) = some r := by first | (rw [hji14] at H; exact H) | (simp only [hji14] at H ⊢; exact H)); (try rw [hji14] at A11); have hji14w : (IntKind.i64.wrap (x18_1 - 1)) = ji14 := (i64_w _).trans hji14; have H1 := ifS H; clear H; obtain ⟨c15b0, H⟩ := H1; have H1 := ifS H; clear H; obtain ⟨c16b0, H⟩ := H1; by_cases c17 : (rd l1 (ji14)) ≥ (rd l1 x18_1)
        · rw [if_pos c17] at H; have c17b0 := decide_eq_true c17; clear c17; obtain rfl := Option.some.inj H; have p115 : 0 ≤ (x18_1 : Int) := dq; have q115 : x18_1 < (l1.length : Int) := dq; obtain ⟨ad115, e115, hx115_0⟩ := Kd.at_int HR1.out x18_1 p115 q115; cases e115; replace hx115_0 := cellB HB.out hx115_0; replace p115 := eq_true p115; replace q115 := eq_true q115; go_wp2_with (first | ((with_reducible refine gate_callee (f := 45) rfl ?_); refine gL_ (some 26) Try.func45 #[.slice A0 l0.length c0, .int .i64 (rd l1 x18_1)] ?_; (with_reducible refine (impl_isPlace.calls _ _ l0 (rd l1 x18_1) true _ ?side1 ?side2 A11.out).mono ?_); (case side1 => exact cU HR0.out HB.out); (case side2 => exact HC0.out); rintro e w' ⟨rfl, ⟨nd, rfl⟩⟩; refine ⟨_, rfl, ?_⟩; have p117 : 0 ≤ ((ji14) : Int) := dq; have q117 : (ji14) < (l1.length : Int) := dq; obtain ⟨ad117, e117, hx117_0⟩ := Kd.at_int HR1.out (ji14) p117 q117; obtain rfl : ad115 = ad117 := (by injection e117); replace hx117_0 := cellB HB.out hx117_0; replace p117 := eq_true p117; replace q117 := eq_true q117)); go_ret; exact ⟨by first | rfl | (simp [errW_none, errW_some] <;> rfl) | (simp only [← hji14]; first | rfl | (simp [errW_none, errW_some] <;> rfl)) | (simp [*, errW_none, errW_some] <;> rfl), lowU HB.out⟩
        · rw [if_neg c17] at H; have c17b0 := decide_eq_false c17; clear c17; have H' := A_ H; clear H; have p115 : 0 ≤ (x18_1 : Int) := dq; have q115 : x18_1 < (l1.length : Int) := dq; obtain ⟨ad115, e115, hx115_0⟩ := Kd.at_int HR1.out x18_1 p115 q115; cases e115; replace hx115_0 := cellB HB.out hx115_0; replace p115 := eq_true p115; replace q115 := eq_true q115; go_wp2_with (first | ((with_reducible refine gate_callee (f := 45) rfl ?_); refine gL_ (some 26) Try.func45 #[.slice A0 l0.length c0, .int .i64 (rd l1 x18_1)] ?_; (with_reducible refine (impl_isPlace.calls _ _ l0 (rd l1 x18_1) true _ ?side1 ?side2 A11.out).mono ?_); (case side1 => exact cU HR0.out HB.out); (case side2 => exact HC0.out); rintro e w' ⟨rfl, ⟨nd, rfl⟩⟩; refine ⟨_, rfl, ?_⟩; have p117 : 0 ≤ ((ji14) : Int) := dq; have q117 : (ji14) < (l1.length : Int) := dq; obtain ⟨ad117, e117, hx117_0⟩ := Kd.at_int HR1.out (ji14) p117 q117; obtain rfl : ad115 = ad117 := (by injection e117); replace hx117_0 := cellB HB.out hx117_0; replace p117 := eq_true p117; replace q117 := eq_true q117)); go_roundg k1; (case measure => have := HK1.out; omega); (case rel => exact ⟨(wrap64 (x18_1 + 1)), (by first | rfl | (simp; done) | (simp [*]; done)), H', ⟨by have := HK1.out; omega⟩, ⟨lowU HB.out⟩⟩)
       · rw [if_neg c13] at H; have c13b0 := decide_eq_false c13; clear c13; have H' := A_ H; clear H; have p115 : 0 ≤ (x18_1 : Int) := dq; have q115 : x18_1 < (l1.length : Int) := dq; obtain ⟨ad115, e115, hx115_0⟩ := Kd.at_int HR1.out x18_1 p115 q115; cases e115; replace hx115_0 := cellB HB.out hx115_0; replace p115 := eq_true p115; replace q115 := eq_true q115; go_wp2_with (first | ((with_reducible refine gate_callee (f := 45) rfl ?_); refine gL_ (some 26) Try.func45 #[.slice A0 l0.length c0, .int .i64 (rd l1 x18_1)] ?_; (with_reducible refine (impl_isPlace.calls _ _ l0 (rd l1 x18_1) true _ ?side1 ?side2 A11.out).mono ?_); (case side1 => exact cU HR0.out HB.out); (case side2 => exact HC0.out); rintro e w' ⟨rfl, ⟨nd, rfl⟩⟩; refine ⟨_, rfl, ?_⟩)); go_roundg k1; (case measure => have := HK1.out; omega); (case rel => exact ⟨(wrap64 (x18_1 + 1)), (by first | rfl | (simp; done) | (simp [*]; done)), H', ⟨by have := HK1.out; omega⟩, ⟨lowU HB.out⟩⟩)
      · replace c12 := Bool.eq_false_iff.mpr c12; subst c12; replace H := ifF H; obtain rfl := Option.some.inj H; have p115 : 0 ≤ (x18_1 : Int) := dq; have q115 : x18_1 < (l1.length : Int) := dq; obtain ⟨ad115, e115, hx115_0⟩ := Kd.at_int HR1.out x18_1 p115 q115; cases e115; replace hx115_0 := cellB HB.out hx115_0; replace p115 := eq_true p115; replace q115 := eq_true q115; go_wp2_with (first | ((with_reducible refine gate_callee (f := 45) rfl ?_); refine gL_ (some 26) Try.func45 #[.slice A0 l0.length c0, .int .i64 (rd l1 x18_1)] ?_; (with_reducible refine (impl_isPlace.calls _ _ l0 (rd l1 x18_1) false _ ?side1 ?side2 A11.out).mono ?_); (case side1 => exact cU HR0.out HB.out); (case side2 => exact HC0.out); rintro e w' ⟨rfl, ⟨nd, rfl⟩⟩; refine ⟨_, rfl, ?_⟩)); go_ret; exact ⟨by first | rfl | (simp [errW_none, errW_some] <;> rfl) | (simp [*, errW_none, errW_some] <;> rfl), lowU HB.out⟩
     · rw [if_neg c8] at H; have c8b0 := decide_eq_false c8; clear c8; obtain rfl := Option.some.inj H; go_wp2; go_ret; exact ⟨by first | rfl | (simp [errW_none, errW_some] <;> rfl) | (simp [*, errW_none, errW_some] <;> rfl), lowU HB.out⟩
 · rw [if_neg c4] at H; have c4b0 : (t114 == 0) = false := beq_eq_false_iff_ne.mpr c4; have c4b1 : (t114 != 0) = true := bne_iff_ne.mpr c4; obtain rfl := Option.some.inj H; go_enter Try.func44, Try.ntmps44; go_wp2_with (first | ((with_reducible refine gate_callee (f := 59) rfl ?_); refine gL_ (some 9) Try.func59 #[.slice A0 l0.length c0] ?_; (with_reducible refine (impl_TermsFault.calls _ _ l0 t114 _ ?side1 ?side2 A3.out).mono ?_); (case side1 => exact cu HR0.out); (case side2 => exact HC0.out); rintro e w18 ⟨rfl, hb⟩; refine ⟨_, rfl, ?_⟩; have n0_ := A_ (below_step (lowU HB.out) hb); clear HB; have HB := n0_; clear n0_; (try clear hb); (try clear hb2); (try clear hk); (try clear hi))); go_ret; exact ⟨by first | rfl | (simp [errW_none, errW_some] <;> rfl) | (simp [*, errW_none, errW_some] <;> rfl), lowU HB.out⟩

/-! ### (my own text) objWords -/
-- blocks of a world that are known by what they hold: the call's own (from base's size on)
structure Objs (w0 W : World) (bs : List (Nat × Obj)) : Prop where
  low : Below w0.heap.size w0 W
  blk : ∀ x ∈ bs, W.heap[x.1]? = some x.2
  ge : ∀ x ∈ bs, w0.heap.size ≤ x.1
  ne : bs.Pairwise (fun x y => x.1 ≠ y.1)
theorem Objs.start {w0 W : World} (h : Below w0.heap.size w0 W) : Objs w0 W [] := ⟨h, by simp, by simp, List.Pairwise.nil⟩
theorem Objs.add {w0 W : World} {bs : List (Nat × Obj)} (h : Objs w0 W bs) {g : Nat} {o : Obj} (hb : W.heap[g]? = some o) (hg : w0.heap.size ≤ g) (hne : ∀ x ∈ bs, g ≠ x.1) : Objs w0 W ((g, o) :: bs) := by
  refine ⟨h.low, fun x hx => ?_, fun x hx => ?_, List.pairwise_cons.2 ⟨hne, h.ne⟩⟩
  · rcases List.mem_cons.1 hx with rfl | hx
    · exact hb
    · exact h.blk x hx
  · rcases List.mem_cons.1 hx with rfl | hx
    · exact hg
    · exact h.ge x hx
theorem Objs.drewN {w0 W : World} {bs : List (Nat × Obj)} (h : Objs w0 W bs) (n : Nat) : Objs w0 (W.drewN n) bs := ⟨pw_below_drewN h.low n, h.blk, h.ge, h.ne⟩
theorem Objs.drew {w0 W : World} {bs : List (Nat × Obj)} (h : Objs w0 W bs) : Objs w0 W.drew bs := ⟨below_drew1 h.low, h.blk, h.ge, h.ne⟩
theorem Objs.below {w0 W W1 : World} {bs : List (Nat × Obj)} (h : Objs w0 W bs) (hb : Below W.heap.size W W1) : Objs w0 W1 bs :=
  ⟨below_step h.low hb, fun x hx => blk_below (h.blk x hx) hb, h.ge, h.ne⟩
theorem Objs.alloc {w0 W : World} {bs : List (Nat × Obj)} (h : Objs w0 W bs) (o : Obj) : Objs w0 (W.alloc o) bs := h.below (below_alloc (Below.refl _ _) o)
theorem Objs.new {w0 W W1 : World} {bs : List (Nat × Obj)} (h : Objs w0 W bs) {g : Nat} {o : Obj} (hg : g = W.heap.size) (hbox : W1.heap[g]? = some o) (hb : Below W.heap.size W W1) : Objs w0 W1 ((g, o) :: bs) :=
  (h.below hb).add hbox (by rw [hg]; exact h.low.size) (fun x hx => by rw [hg]; exact Nat.ne_of_gt (blk_lt (h.blk x hx)))
theorem Objs.at_ {w0 W : World} {bs : List (Nat × Obj)} (h : Objs w0 W bs) {i g : Nat} {o : Obj} (hi : bs[i]? = some (g, o)) : W.heap[g]? = some o := h.blk (g, o) (List.mem_of_getElem? hi)
theorem Objs.ge_ {w0 W : World} {bs : List (Nat × Obj)} (h : Objs w0 W bs) {i g : Nat} {o : Obj} (hi : bs[i]? = some (g, o)) : w0.heap.size ≤ g := h.ge (g, o) (List.mem_of_getElem? hi)
theorem Objs.cell {w0 W : World} {bs : List (Nat × Obj)} (h : Objs w0 W bs) {i g : Nat} {cs : Array Value} {t : TypeId} (hi : bs[i]? = some (g, .cells cs t (0, 0))) {j : Nat} {v : Value} (hj : cs[j]? = some v) : W.cell? ⟨g, j, none⟩ = some v := (blk_cell (h.at_ hi) j).trans hj
theorem Objs.c {w0 W : World} {bs : List (Nat × Obj)} (h : Objs w0 W bs) (i j : Nat) {g : Nat} {cs : Array Value} {t : TypeId} {v : Value} (hi : bs[i]? = some (g, .cells cs t (0, 0))) (hj : cs[j]? = some v) : W.cell? ⟨g, j, none⟩ = some v := h.cell hi hj
theorem Objs.frozen {w0 W : World} {bs : List (Nat × Obj)} (h : Objs w0 W bs) {i g : Nat} {cs : Array Value} {t : TypeId} (hi : bs[i]? = some (g, .cells cs t (0, 0))) (j : Nat) : W.frozen? ⟨g, j, none⟩ = false := blk_frozen (h.at_ hi) j
theorem Objs.f {w0 W : World} {bs : List (Nat × Obj)} (h : Objs w0 W bs) (i j : Nat) {g : Nat} {cs : Array Value} {t : TypeId} (hi : bs[i]? = some (g, .cells cs t (0, 0))) : W.frozen? ⟨g, j, none⟩ = false := h.frozen hi j
theorem Objs.lt {w0 W : World} {bs : List (Nat × Obj)} (h : Objs w0 W bs) {i g : Nat} {o : Obj} (hi : bs[i]? = some (g, o)) : g < W.heap.size := blk_lt (h.at_ hi)
theorem Objs.mid {w0 W W1 : World} {b1 b2 : List (Nat × Obj)} {g : Nat} {o o1 : Obj} (h : Objs w0 W (b1 ++ (g, o) :: b2)) (hl : Below w0.heap.size w0 W1) (hg : W1.heap[g]? = some o1) (hk : ∀ i x, i ≠ g → W.heap[i]? = some x → W1.heap[i]? = some x) :
    Objs w0 W1 (b1 ++ (g, o1) :: b2) := by
  have hne : ∀ x, x ∈ b1 ∨ x ∈ b2 → x.1 ≠ g := by
    intro x hx; have h1 := List.pairwise_append.1 h.ne
    rcases hx with hx | hx
    · exact h1.2.2 x hx (g, o) (by simp)
    · exact ((List.pairwise_cons.1 h1.2.1).1 x hx).symm
  refine ⟨hl, fun x hx => ?_, fun x hx => ?_, ?_⟩
  · rw [List.mem_append, List.mem_cons] at hx
    rcases hx with hx | rfl | hx
    · exact hk _ _ (hne x (.inl hx)) (h.blk x (by simp [hx]))
    · exact hg
    · exact hk _ _ (hne x (.inr hx)) (h.blk x (by simp [hx]))
  · rw [List.mem_append, List.mem_cons] at hx
    rcases hx with hx | rfl | hx
    · exact h.ge x (by simp [hx])
    · exact h.ge (g, o) (by simp)
    · exact h.ge x (by simp [hx])
  · have h1 := h.ne
    rw [List.pairwise_append, List.pairwise_cons] at h1 ⊢; refine ⟨h1.1, ⟨h1.2.1.1, h1.2.1.2⟩, fun a ha b hb => ?_⟩
    rcases List.mem_cons.1 hb with rfl | hb
    · exact hne a (.inl ha)
    · exact h1.2.2 a ha b (by simp [hb])
theorem Objs.put {w0 W : World} {b1 b2 : List (Nat × Obj)} {g : Nat} {cs cs1 : Array Value} {t : TypeId} (h : Objs w0 W (b1 ++ (g, .cells cs t (0, 0)) :: b2)) (i : Nat) (u : Value) (e : cs.setIfInBounds i u = cs1) :
    Objs w0 (W.setCell ⟨g, i, none⟩ u) (b1 ++ (g, .cells cs1 t (0, 0)) :: b2) := by
  have hg : w0.heap.size ≤ g := h.ge (g, .cells cs t (0, 0)) (by simp); subst e; exact h.mid (below_set h.low hg) (blk_set (h.blk (g, .cells cs t (0, 0)) (by simp)) i u) (fun k x hk hx => (Below.heap_setCell W ⟨g, i, none⟩ u k hk).trans hx)
theorem Objs.grown {w0 W W1 : World} {b1 b2 : List (Nat × Obj)} {g : Nat} {o o1 : Obj} (h : Objs w0 W (b1 ++ (g, o) :: b2)) (hg : W.grownBy W1 (some g)) (hb : W1.heap[g]? = some o1) : Objs w0 W1 (b1 ++ (g, o1) :: b2) :=
  h.mid (pw_below_grown h.low _ h.low.size hg (fun k hk => by cases hk; exact h.ge (g, o) (by simp))) hb (fun k x hk hx => (hg.block k (blk_lt hx) (fun e => hk (Option.some.inj e))).trans hx)
theorem objs_store {P : Program} {ops : Array Oper} {rest : List Oper} {o : Oper} {a : Act} {Q : Exit → Act → World → Prop} {w0 W W1 : World} {bs : List (Nat × Obj)} {t : TypeId} {p : Tmp} {v : Operand} (hgd : o.guard = none) (ho : o.op = .store t (.tmp p) v) (hN : o.dst = none)
    (hr : (execOp a.eval o).run P W = .ok .skip W1) (hB : Objs w0 W1 bs) (h : ∀ w', Objs w0 w' bs → wpList P ops Q rest a w') : wpList P ops Q (o :: rest) a W := by
  refine store_event hgd ho hN hr ?_; rintro w' rfl; exact h _ hB

/-! ### (my own text) rawWords -/
def rawB (xs : List Bool) (sp : List Value) : Array Value := (xs.map Value.bool ++ sp).toArray
theorem rawB_get (xs : List Bool) (sp : List Value) (i : Nat) (h : i < xs.length) : (rawB xs sp)[i]? = some (.bool (rdOf false xs (i : Int))) := by
  unfold rawB rdOf; simp [List.getElem?_append_left, h, List.getD_eq_getElem?_getD]
theorem rawB_get' (xs : List Bool) (sp : List Value) (i : Int) (h0 : 0 ≤ i) (h : i < xs.length) : (rawB xs sp)[i.toNat]? = some (.bool (rdOf false xs i)) := by
  obtain ⟨n, rfl⟩ := Int.eq_ofNat_of_zero_le h0; rw [Int.toNat_natCast]; exact rawB_get xs sp n (by omega)
theorem rawB_set (xs : List Bool) (sp : List Value) (i : Nat) (h : i < xs.length) (b : Bool) : (rawB xs sp).setIfInBounds i (.bool b) = rawB (xs.set i b) sp := by
  unfold rawB; rw [List.setIfInBounds_toArray, List.set_append_left _ _ (by simpa using h), List.map_set]
theorem raw_of_R {e : Nat} {w : World} {base : Nat} {ok : Nat → Prop} {v : Value} {xs : List Bool} (h : Kd.R Kd.bool e w base ok v xs) (hp : 0 < xs.length) :
    ∃ g cap sp, v = .slice (some ⟨g, 0, none⟩) xs.length cap ∧ base ≤ g ∧ w.heap[g]? = some (.cells (rawB xs sp) e (0, 0)) ∧ xs.length + sp.length = cap ∧ cap ≤ maxLen := by
  have ho := Kd.own_of_R (enc := Value.bool) (h1 := fun _ => rfl) h; obtain ⟨h1, h2⟩ := ho
  rcases h2 with ⟨_, h0⟩ | ⟨g, cap, cur, he, hb, hh, hnc, hcm, hcs, ht⟩
  · omega
  · refine ⟨g, cap, cur.toList.drop xs.length, he, hb, ?_, ?_, hcm⟩
    · rw [hh, rawB]
      refine congrArg some ?_
      have e1 : xs.map Value.bool = cur.toList.take xs.length := by
        rw [Nat.mul_one] at ht; exact ht.symm
      rw [e1, List.take_append_drop]
    · have e2 : cur.toList.length = cap := by rw [Array.length_toList, hcs]; omega
      rw [List.length_drop, e2]; omega
theorem R_of_raw {e : Nat} {w : World} {base g cap : Nat} {sp : List Value} {xs : List Bool} (hb : base ≤ g) (hh : w.heap[g]? = some (.cells (rawB xs sp) e (0, 0))) (hc : xs.length + sp.length = cap) (hm : cap ≤ maxLen) :
    Kd.R Kd.bool e w base (fun _ => True) (.slice (some ⟨g, 0, none⟩) xs.length cap) xs := by
  refine Kd.R_of_own (enc := Value.bool) (h1 := fun _ => rfl) ⟨by simp [encs], .inr ⟨g, cap, rawB xs sp, rfl, hb, hh, by omega, hm, by simp [rawB]; omega, ?_⟩⟩ (fun _ _ => trivial); simp [rawB, encs]

end Go.Proofs.Ytidfgmekhededaa.PFnOpens
