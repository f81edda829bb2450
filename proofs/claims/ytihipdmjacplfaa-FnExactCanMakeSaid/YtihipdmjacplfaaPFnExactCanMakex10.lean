-- Written by wip/tools/myprint.py of this claim's session, over the kit's print, round texts of its own: own text.
import Derived.Test.YtihipdmjacplfaaPFnExactCanMakex0
import Derived.Test.YtihipdmjacplfaaPFnExactCanMakex2
import Derived.Test.YtihipdmjacplfaaPFnExactCanMakex3
import Derived.Test.YtihipdmjacplfaaPFnExactCanMakex8
import Derived.Test.YtihipdmjacplfaaPFnExactCanMakex9
namespace Go.Proofs.Ytihipdmjacplfaa.PFnExactCanMake
open Go.RowKit Go.Proofs.YtihipdmjacplfaaW.PrintWords Go.Proofs.YtihipdmjacplfaaW.PrintLast Go.Proofs.YtihipdmjacplfaaW.PrintMore
attribute [local go_sem] max2_int min2_int max_two min_two max_three min_three max_four min_four   -- for this text's walks alone
set_option linter.unusedVariables false
set_option linter.unusedSimpArgs false

/-! ### impl_makeable: function 82 (my own text) -/
def impl_makeable.okR (n : Int) (t : S66) : Bool := decide ((t.f0 = 3 ∨ t.f0 = 4 ∨ t.f0 = 5 ∨ t.f0 = 6 ∨ t.f0 = 7 → 0 ≤ t.f1 ∧ t.f1 < n) ∧ (t.f0 = 3 ∨ t.f0 = 4 ∨ t.f0 = 5 ∨ t.f0 = 7 → 0 ≤ t.f2 ∧ t.f2 < n))
def impl_makeable.s0 (l0 : List S66) (l1 : List Bool) : Nat → List Int
  | 0 => []
  | k + 1 => if (rd_T66 l0 (k : Int)).f0 = 6 ∧ rdOf false l1 (k : Int) = true then impl_makeable.s0 l0 l1 k ++ [(rd_T66 l0 (k : Int)).f1] else impl_makeable.s0 l0 l1 k
def impl_makeable.r (S : List Int) (o : List Bool) (k : Int) (t : S66) : Bool :=
  cond (t.f0 == 1) true (cond (t.f0 == 3 || (t.f0 == 4 || t.f0 == 5)) (rdOf false o t.f1 && rdOf false o t.f2) (cond (t.f0 == 6) (rdOf false o t.f1) (cond (t.f0 == 7) ((rdOf false o t.f1 && (rdOf false o t.f2 || decide (t.f2 ∈ S))) || (rdOf false o t.f2 && decide (t.f1 ∈ S))) (rdOf false o k))))
def impl_makeable.l0 (l0 : List S66) (l1 : List Bool) (S : List Int) : Nat → List Bool
  | 0 => List.replicate l0.length false
  | k + 1 => (impl_makeable.l0 l0 l1 S k).set k (impl_makeable.r S (impl_makeable.l0 l0 l1 S k) (k : Int) (rd_T66 l0 (k : Int)) || rdOf false l1 (k : Int))
def impl_makeable.f (l0 : List S66) (l1 : List Bool) : Option (List Bool) := if l0.length ≤ 400 ∧ l1.length = l0.length ∧ l0.all (impl_makeable.okR l0.length) = true then some (impl_makeable.l0 l0 l1 (impl_makeable.s0 l0 l1 l0.length) l0.length) else none
theorem impl_makeable_l0_len (l0 : List S66) (l1 : List Bool) (S : List Int) : ∀ k, (impl_makeable.l0 l0 l1 S k).length = l0.length
  | 0 => by simp [impl_makeable.l0]
  | k + 1 => by rw [impl_makeable.l0, List.length_set, impl_makeable_l0_len l0 l1 S k]
theorem impl_makeable_ok {l0 : List S66} (h : l0.all (impl_makeable.okR l0.length) = true) (kk : Nat) (hk : kk < l0.length) : ((rd_T66 l0 (kk : Int)).f0 = 3 ∨ (rd_T66 l0 (kk : Int)).f0 = 4 ∨ (rd_T66 l0 (kk : Int)).f0 = 5 ∨ (rd_T66 l0 (kk : Int)).f0 = 6 ∨ (rd_T66 l0 (kk : Int)).f0 = 7 → 0 ≤ (rd_T66 l0 (kk : Int)).f1 ∧ (rd_T66 l0 (kk : Int)).f1 < l0.length) ∧
    ((rd_T66 l0 (kk : Int)).f0 = 3 ∨ (rd_T66 l0 (kk : Int)).f0 = 4 ∨ (rd_T66 l0 (kk : Int)).f0 = 5 ∨ (rd_T66 l0 (kk : Int)).f0 = 7 → 0 ≤ (rd_T66 l0 (kk : Int)).f2 ∧ (rd_T66 l0 (kk : Int)).f2 < l0.length) := by
  have hm : rd_T66 l0 (kk : Int) ∈ l0 := by
    have : rd_T66 l0 (kk : Int) = l0[kk] := by
      show l0.getD (kk : Int).toNat z66 = _
      simp [List.getD_eq_getElem?_getD, hk]
    rw [this]
    exact List.getElem_mem hk
  have := (List.all_eq_true.mp h) _ hm
  exact of_decide_eq_true this
theorem keyedI_ : Go.Maps.Keyed Try.prog 2 := Go.Maps.int_keyed Try.underlying2
theorem zeroBm_ (w : World) : (zeroValue 4).run Try.prog w = .ok (.bool false) w := by kernel_rfl
theorem keyI_ {x : Int} (h : 0 ≤ x ∧ x < 400) : keyOf Try.prog 2 (.int .i64 x) = some (.int .i64 x) := by
  refine Go.Maps.keyOf_int_mk Try.underlying2 ?_
  simp [Lit.wf, IntKind.min, IntKind.max, IntKind.signed, IntKind.bits]
  omega
theorem ownsSet.same {α : Type} {P : Program} {w w' : World} {k e : TypeId} {enc : α → Value} {b n : Nat} {S : α → Bool} (h : ownsSet P w k e enc b n S) (he : w'.heap[b]? = w.heap[b]?) : ownsSet P w' k e enc b n S := by
  obtain ⟨D, ⟨es, clock, h1, h2⟩, h3⟩ := h
  exact ⟨D, ⟨es, clock, he.trans h1, h2⟩, h3⟩
theorem ownsSet.obj {α : Type} {P : Program} {w : World} {k e : TypeId} {enc : α → Value} {b n : Nat} {S : α → Bool} (h : ownsSet P w k e enc b n S) : ∃ es clock, w.heap[b]? = some (.map es clock) := by
  obtain ⟨D, ⟨es, clock, h1, h2⟩, h3⟩ := h
  exact ⟨_, _, h1⟩
theorem ownsSet.looks {α : Type} {P : Program} {w : World} {t k e : TypeId} {enc : α → Value} {b n : Nat} {S : α → Bool} (h : ownsSet P w k e enc b n S) (K : Go.Maps.Keyed P k) (ht : P.underlying t = some (.map k e)) (he : P.underlying e = some .bool)
    (hz : (zeroValue e).run P w = .ok (.bool false) w) {x : α} {kl : Lit} (hkey : keyOf P k (enc x) = some kl) {s : Bool} (hS : S x = s) : (Instr.lookup t (.map (some b)) (enc x) false).run P w = .ok (.bool s) w := by
  rw [← hS]
  exact h.look K ht he hz hkey
theorem rawB_at (xs : List Bool) (sp : List Value) (i : Nat) (h : i < xs.length) (b : Bool) : (rawB (xs.set i b) sp)[i]? = some (.bool b) := by
  rw [rawB_get _ _ _ (by rw [List.length_set]; exact h)]
  simp [rdOf, List.getD_eq_getElem?_getD, h]
theorem ownsSet.imp {α : Type} {P : Program} {w : World} {k e : TypeId} {enc : α → Value} {b n : Nat} {S S' : α → Bool} (h : ownsSet P w k e enc b n S) (hs : ∀ x, S x = S' x) {n' : Nat} (hn : n ≤ n') : ownsSet P w k e enc b n' S' := by
  obtain ⟨D, h1, h2, h3⟩ := h
  exact ⟨D, h1.mono hn, h2, fun x kl hx => by rw [← hs x]; exact h3 x kl hx⟩
set_option maxHeartbeats 40000000 in
set_option maxRecDepth 100000 in
theorem impl_makeable.calls (A0 : Option Addr) (c0 : Nat) (l0 : List S66) (A1 : Option Addr) (c1 : Nat) (l1 : List Bool) (r : List Bool) (w : World) (hr0 : Kd.C k66 w A0 l0.length l0) (hc0 : l0.length ≤ c0) (hr1 : Kd.C Kd.bool w A1 l1.length l1) (hc1 : l1.length ≤ c1) (h : impl_makeable.f l0 l1 = some r) :
    Calls Try.prog 82 #[.slice A0 l0.length c0, .slice A1 l1.length c1] w fun e w' => ∃ v1_ : Value, e = .returned v1_ ∧ Kd.R Kd.bool 4 w' w.heap.size (fun _ => True) v1_ r ∧ Below w.heap.size w w' := by
  unfold impl_makeable.f at h
  by_cases hg_ : l0.length ≤ 400 ∧ l1.length = l0.length ∧ l0.all (impl_makeable.okR l0.length) = true
  · rw [if_pos hg_] at h
    obtain ⟨h400, hl1, hall⟩ := hg_
    have HV := Aside0.mk (Option.some.inj h)
    have HR0 := Aside0.mk hr0
    have HR1 := Aside0.mk hr1
    have HC := Aside0.mk hall
    have HB := Aside0.mk (Below.refl w.heap.size w)
    clear hr0 hr1 h hall
    have hmm := @run_makeMap Try.prog
    go_enter Try.func82, Try.ntmps82
    go_wp2_with (first | ((with_reducible refine gate_dst (N := 13) rfl ?_); refine Kd.R_make Kd.bool _ 4 rfl (N := 13) rfl 77 _ _ rfl (l0.length : Int) rfl rfl Try.underlying77 (.bool false) 1 info4 rfl (by decide) (by omega) false (ok := fun _ => True) (okp := fun _ => True) rfl (fun _ hk => hk) trivial (by omega) (by omega) (Below.refl _ _) (Nat.le_refl _) ?_; intro v5_ w5 ho6 hb hg_ hnew_; clear hnew_ hg_; rw [Int.toNat_natCast] at ho6; have HO := Aside0.mk (Kd.R_lower ho6 HB.out.size); have HB5 := Aside0.mk (below_step HB.out hb); clear hb ho6) | fail)
    clear hmm HB
    have hb5 : w.heap.size ≤ w5.heap.size := HB5.out.size
    go_loopg [17] l0.length (fun gg s17 wr => ∃ kk : Nat, kk ≤ l0.length ∧ l0.length - kk ≤ gg ∧ s17 = .int .i64 kk ∧ Aside0 (Below w.heap.size w wr) ∧ Aside0 (ownsSet Try.prog wr 2 4 (Value.int .i64) w5.heap.size kk (fun x => decide (x ∈ impl_makeable.s0 l0 l1 kk))) ∧ Aside0 (Kd.R Kd.bool 4 wr w.heap.size (fun _ => True) v5_ (List.replicate l0.length false)))
    case atStart => exact ⟨0, Nat.zero_le _, by omega, rfl, ⟨HB5.out.alloc HB5.out.size _⟩, ⟨by simpa [impl_makeable.s0] using ownsSet_made Try.prog w5 2 4 (Value.int .i64)⟩, ⟨Kd.R_alloc HO.out _⟩⟩
    case round =>
      obtain ⟨kk, hkk, hg, rfl, BW, HS, HR⟩ := hrel
      clear HB5 HO
      by_cases hlt : kk < l0.length
      · clear HV
        have hltz : (kk : Int) < (l0.length : Int) := by omega
        obtain ⟨os_, hos_⟩ : ∃ o, o = List.replicate l0.length false := ⟨_, rfl⟩
        have hol : os_.length = l0.length := by rw [hos_]; simp
        have hr_ := HR.out
        rw [← hos_] at hr_
        obtain ⟨go, co, sp_, ev_, hgo, hraw, hsp, hco⟩ := raw_of_R hr_ (by omega)
        rw [hol] at ev_ hsp
        subst ev_
        obtain ⟨es_, ck_, hom_⟩ := HS.out.obj
        have HM := Aside0.mk hom_
        have BX := Aside0.mk (((Objs.start BW.out).add hraw hgo (fun x hx => absurd hx (by simp))).add hom_ hb5 (fun x hx => by
          rw [List.mem_singleton] at hx
          subst hx
          intro e
          rw [e, hraw] at hom_
          cases hom_))
        clear hr_ hom_ hraw HR
        obtain ⟨ad, e, hx0, hx1, hx2, hx3⟩ := at_T66 HR0.out (kk : Int) (by omega) hltz
        cases e
        obtain ⟨ad1, e1, hk0⟩ := Kd.at_bool HR1.out (kk : Int) (by omega) (by omega)
        cases e1
        obtain ⟨K_, hK_⟩ : ∃ b, b = rdOf false l1 (kk : Int) := ⟨_, rfl⟩
        rw [← hK_] at hk0
        simp only [Int.toNat_natCast] at hk0
        have HK := Aside0.mk hk0
        have HKE := Aside0.mk hK_
        have HOS := Aside0.mk hos_
        have HSP := Aside0.mk hsp
        clear hk0 hK_ hos_ hsp
        replace hx0 := (BW.out.cell (World.block_lt_of_cell? w _ hx0)).trans hx0
        replace hx1 := (BW.out.cell (World.block_lt_of_cell? w _ hx1)).trans hx1
        replace hx2 := (BW.out.cell (World.block_lt_of_cell? w _ hx2)).trans hx2
        replace hx3 := (BW.out.cell (World.block_lt_of_cell? w _ hx3)).trans hx3
        simp only [Int.toNat_natCast] at hx0 hx1 hx2 hx3
        have p1 : (0 ≤ (kk : Int)) = True := eq_true (by omega)
        have q1 : ((kk : Int) < (l0.length : Int)) = True := eq_true hltz
        have hu1 := Try.underlying66
        have hu2 := Try.underlying25
        have hu3 := Try.underlying77
        have hbo := impl_makeable_ok HC.out kk hlt
        by_cases h6 : (rd_T66 l0 (kk : Int)).f0 = 6
        · have e6 : ((rd_T66 l0 (kk : Int)).f0 == 6) = true := by simp [h6]
          have hk6 : 0 ≤ (rd_T66 l0 (kk : Int)).f1 ∧ (rd_T66 l0 (kk : Int)).f1 < 400 := by
            have := hbo.1 (by omega)
            omega
          rcases Bool.eq_false_or_eq_true K_ with eK | eK
          · have hs0 : impl_makeable.s0 l0 l1 (kk + 1) = impl_makeable.s0 l0 l1 kk ++ [(rd_T66 l0 (kk : Int)).f1] := by rw [impl_makeable.s0, if_pos ⟨h6, HKE.out.symm.trans eK⟩]
            clear h6 hbo
            go_wp2_with (first | ((with_reducible refine gate_dst (N := 8) rfl ?_); refine box_event ?hg (N := 8) ?hd (cs := #[.int .i64 0, .int .i64 0, .int .i64 0, .int .i64 0]) (t := 66) ?hr ?_; (case hd => rfl); (case hg => rfl); (case hr => first | (go_simp; done) | (go_simp; rfl)); intro g8 hg w8_ hbox hb; have BY := Aside0.mk (Objs.new (w0 := w) (bs := [(w5.heap.size, .map es_ ck_), (go, .cells (rawB os_ sp_) 4 (0, 0))]) (by (with_reducible repeat (first | refine Objs.drewN ?_ _ | refine Objs.drew ?_ | refine Objs.alloc ?_ _)); exact BX.out) hg hbox hb); clear BX hb hbox hg; have BX := BY; clear BY; have qg8_0 : World.cell? _ ⟨g8, 0, none⟩ = some (.int .i64 0) := BX.out.cell (i := 0) rfl (j := 0) rfl; have fqg8_0 : World.frozen? _ ⟨g8, 0, none⟩ = false := BX.out.frozen (i := 0) rfl 0; have qg8_1 : World.cell? _ ⟨g8, 1, none⟩ = some (.int .i64 0) := BX.out.cell (i := 0) rfl (j := 1) rfl; have fqg8_1 : World.frozen? _ ⟨g8, 1, none⟩ = false := BX.out.frozen (i := 0) rfl 1; have qg8_2 : World.cell? _ ⟨g8, 2, none⟩ = some (.int .i64 0) := BX.out.cell (i := 0) rfl (j := 2) rfl; have fqg8_2 : World.frozen? _ ⟨g8, 2, none⟩ = false := BX.out.frozen (i := 0) rfl 2; have qg8_3 : World.cell? _ ⟨g8, 3, none⟩ = some (.int .i64 0) := BX.out.cell (i := 0) rfl (j := 3) rfl; have fqg8_3 : World.frozen? _ ⟨g8, 3, none⟩ = false := BX.out.frozen (i := 0) rfl 3) | ((with_reducible refine gate_store (t := 66) (p := 8) rfl ?_); refine objs_store (w0 := w) (bs := [(g8, .cells #[.int .i64 (rd_T66 l0 (kk : Int)).f0, .int .i64 (rd_T66 l0 (kk : Int)).f1, .int .i64 (rd_T66 l0 (kk : Int)).f2, .int .i64 (rd_T66 l0 (kk : Int)).f3] 66 (0, 0)), (w5.heap.size, .map es_ ck_), (go, .cells (rawB os_ sp_) 4 (0, 0))]) (W1 := (((World.setCell w8_ ⟨g8, 0, none⟩ (.int .i64 (rd_T66 l0 (kk : Int)).f0)).setCell ⟨g8, 1, none⟩ (.int .i64 (rd_T66 l0 (kk : Int)).f1)).setCell ⟨g8, 2, none⟩ (.int .i64 (rd_T66 l0 (kk : Int)).f2)).setCell ⟨g8, 3, none⟩ (.int .i64 (rd_T66 l0 (kk : Int)).f3)) rfl rfl rfl ?hr ((((Objs.put (w0 := w) (b1 := []) (b2 := [(w5.heap.size, .map es_ ck_), (go, .cells (rawB os_ sp_) 4 (0, 0))]) BX.out 0 (.int .i64 (rd_T66 l0 (kk : Int)).f0) rfl).put (b1 := []) 1 (.int .i64 (rd_T66 l0 (kk : Int)).f1) rfl).put (b1 := []) 2 (.int .i64 (rd_T66 l0 (kk : Int)).f2) rfl).put (b1 := []) 3 (.int .i64 (rd_T66 l0 (kk : Int)).f3) rfl) ?_; (case hr => first | (go_simp; done) | (go_simp; rfl)); intro w9_ BY; have BY := Aside0.mk BY; clear BX; have BX := BY; clear BY; clear qg8_0 fqg8_0 qg8_1 fqg8_1 qg8_2 fqg8_2 qg8_3 fqg8_3; have qg8_0 : World.cell? _ ⟨g8, 0, none⟩ = some (.int .i64 (rd_T66 l0 (kk : Int)).f0) := BX.out.cell (i := 0) rfl (j := 0) rfl; have fqg8_0 : World.frozen? _ ⟨g8, 0, none⟩ = false := BX.out.frozen (i := 0) rfl 0; have qg8_1 : World.cell? _ ⟨g8, 1, none⟩ = some (.int .i64 (rd_T66 l0 (kk : Int)).f1) := BX.out.cell (i := 0) rfl (j := 1) rfl; have fqg8_1 : World.frozen? _ ⟨g8, 1, none⟩ = false := BX.out.frozen (i := 0) rfl 1; have qg8_2 : World.cell? _ ⟨g8, 2, none⟩ = some (.int .i64 (rd_T66 l0 (kk : Int)).f2) := BX.out.cell (i := 0) rfl (j := 2) rfl; have fqg8_2 : World.frozen? _ ⟨g8, 2, none⟩ = false := BX.out.frozen (i := 0) rfl 2; have qg8_3 : World.cell? _ ⟨g8, 3, none⟩ = some (.int .i64 (rd_T66 l0 (kk : Int)).f3) := BX.out.cell (i := 0) rfl (j := 3) rfl; have fqg8_3 : World.frozen? _ ⟨g8, 3, none⟩ = false := BX.out.frozen (i := 0) rfl 3; have hk : World.cell? _ (ad1.add kk) = some (.bool K_) := (BX.out.low.cell (World.block_lt_of_cell? w _ HK.out)).trans HK.out) | (at_mapUpdate; refine wpList_update_set rfl _ _ _ 103 rfl 2 4 keyedI_ Try.underlying103 Try.underlying4 (fun x y e => by injection e) (HS.out.same ((BX.out.at_ (i := 1) rfl).trans HM.out.symm)) (by unfold maxLen; omega) rfl (rd_T66 l0 (kk : Int)).f1 rfl rfl (keyI_ hk6) ?_; intro w10_ hown_ hgr_; obtain ⟨es2_, ck2_, hom2_⟩ := hown_.obj; have HS8 := Aside0.mk hown_; have BY := Aside0.mk (Objs.grown (w0 := w) (b1 := [(g8, .cells #[.int .i64 (rd_T66 l0 (kk : Int)).f0, .int .i64 (rd_T66 l0 (kk : Int)).f1, .int .i64 (rd_T66 l0 (kk : Int)).f2, .int .i64 (rd_T66 l0 (kk : Int)).f3] 66 (0, 0))]) (b2 := [(go, .cells (rawB os_ sp_) 4 (0, 0))]) (o1 := .map es2_ ck2_) BX.out hgr_ hom2_); clear hown_ hgr_ hom2_ BX; have BX := BY; clear BY) | fail)
            go_roundg (l0.length - (kk + 1))
            case measure => omega
            case rel => exact ⟨kk + 1, by omega, by omega, by go_num, ⟨BX.out.low⟩, ⟨HS8.out.imp (fun x => by rw [hs0]; simp [Bool.decide_or]) (by omega)⟩, ⟨by have hR_ := R_of_raw hgo (BX.out.at_ (i := 2) rfl) (by rw [hol]; exact HSP.out) hco; rw [hol] at hR_; rw [← HOS.out]; exact hR_⟩⟩
          · have hs0 : impl_makeable.s0 l0 l1 (kk + 1) = impl_makeable.s0 l0 l1 kk := by rw [impl_makeable.s0, if_neg (fun e => by have h_ := HKE.out.trans e.2; rw [eK] at h_; cases h_)]
            clear h6 hbo
            go_wp2_with (first | ((with_reducible refine gate_dst (N := 8) rfl ?_); refine box_event ?hg (N := 8) ?hd (cs := #[.int .i64 0, .int .i64 0, .int .i64 0, .int .i64 0]) (t := 66) ?hr ?_; (case hd => rfl); (case hg => rfl); (case hr => first | (go_simp; done) | (go_simp; rfl)); intro g8 hg w8_ hbox hb; have BY := Aside0.mk (Objs.new (w0 := w) (bs := [(w5.heap.size, .map es_ ck_), (go, .cells (rawB os_ sp_) 4 (0, 0))]) (by (with_reducible repeat (first | refine Objs.drewN ?_ _ | refine Objs.drew ?_ | refine Objs.alloc ?_ _)); exact BX.out) hg hbox hb); clear BX hb hbox hg; have BX := BY; clear BY; have qg8_0 : World.cell? _ ⟨g8, 0, none⟩ = some (.int .i64 0) := BX.out.cell (i := 0) rfl (j := 0) rfl; have fqg8_0 : World.frozen? _ ⟨g8, 0, none⟩ = false := BX.out.frozen (i := 0) rfl 0; have qg8_1 : World.cell? _ ⟨g8, 1, none⟩ = some (.int .i64 0) := BX.out.cell (i := 0) rfl (j := 1) rfl; have fqg8_1 : World.frozen? _ ⟨g8, 1, none⟩ = false := BX.out.frozen (i := 0) rfl 1; have qg8_2 : World.cell? _ ⟨g8, 2, none⟩ = some (.int .i64 0) := BX.out.cell (i := 0) rfl (j := 2) rfl; have fqg8_2 : World.frozen? _ ⟨g8, 2, none⟩ = false := BX.out.frozen (i := 0) rfl 2; have qg8_3 : World.cell? _ ⟨g8, 3, none⟩ = some (.int .i64 0) := BX.out.cell (i := 0) rfl (j := 3) rfl; have fqg8_3 : World.frozen? _ ⟨g8, 3, none⟩ = false := BX.out.frozen (i := 0) rfl 3) | ((with_reducible refine gate_store (t := 66) (p := 8) rfl ?_); refine objs_store (w0 := w) (bs := [(g8, .cells #[.int .i64 (rd_T66 l0 (kk : Int)).f0, .int .i64 (rd_T66 l0 (kk : Int)).f1, .int .i64 (rd_T66 l0 (kk : Int)).f2, .int .i64 (rd_T66 l0 (kk : Int)).f3] 66 (0, 0)), (w5.heap.size, .map es_ ck_), (go, .cells (rawB os_ sp_) 4 (0, 0))]) (W1 := (((World.setCell w8_ ⟨g8, 0, none⟩ (.int .i64 (rd_T66 l0 (kk : Int)).f0)).setCell ⟨g8, 1, none⟩ (.int .i64 (rd_T66 l0 (kk : Int)).f1)).setCell ⟨g8, 2, none⟩ (.int .i64 (rd_T66 l0 (kk : Int)).f2)).setCell ⟨g8, 3, none⟩ (.int .i64 (rd_T66 l0 (kk : Int)).f3)) rfl rfl rfl ?hr ((((Objs.put (w0 := w) (b1 := []) (b2 := [(w5.heap.size, .map es_ ck_), (go, .cells (rawB os_ sp_) 4 (0, 0))]) BX.out 0 (.int .i64 (rd_T66 l0 (kk : Int)).f0) rfl).put (b1 := []) 1 (.int .i64 (rd_T66 l0 (kk : Int)).f1) rfl).put (b1 := []) 2 (.int .i64 (rd_T66 l0 (kk : Int)).f2) rfl).put (b1 := []) 3 (.int .i64 (rd_T66 l0 (kk : Int)).f3) rfl) ?_; (case hr => first | (go_simp; done) | (go_simp; rfl)); intro w9_ BY; have BY := Aside0.mk BY; clear BX; have BX := BY; clear BY; clear qg8_0 fqg8_0 qg8_1 fqg8_1 qg8_2 fqg8_2 qg8_3 fqg8_3; have qg8_0 : World.cell? _ ⟨g8, 0, none⟩ = some (.int .i64 (rd_T66 l0 (kk : Int)).f0) := BX.out.cell (i := 0) rfl (j := 0) rfl; have fqg8_0 : World.frozen? _ ⟨g8, 0, none⟩ = false := BX.out.frozen (i := 0) rfl 0; have qg8_1 : World.cell? _ ⟨g8, 1, none⟩ = some (.int .i64 (rd_T66 l0 (kk : Int)).f1) := BX.out.cell (i := 0) rfl (j := 1) rfl; have fqg8_1 : World.frozen? _ ⟨g8, 1, none⟩ = false := BX.out.frozen (i := 0) rfl 1; have qg8_2 : World.cell? _ ⟨g8, 2, none⟩ = some (.int .i64 (rd_T66 l0 (kk : Int)).f2) := BX.out.cell (i := 0) rfl (j := 2) rfl; have fqg8_2 : World.frozen? _ ⟨g8, 2, none⟩ = false := BX.out.frozen (i := 0) rfl 2; have qg8_3 : World.cell? _ ⟨g8, 3, none⟩ = some (.int .i64 (rd_T66 l0 (kk : Int)).f3) := BX.out.cell (i := 0) rfl (j := 3) rfl; have fqg8_3 : World.frozen? _ ⟨g8, 3, none⟩ = false := BX.out.frozen (i := 0) rfl 3; have hk : World.cell? _ (ad1.add kk) = some (.bool K_) := (BX.out.low.cell (World.block_lt_of_cell? w _ HK.out)).trans HK.out) | fail)
            go_roundg (l0.length - (kk + 1))
            case measure => omega
            case rel => exact ⟨kk + 1, by omega, by omega, by go_num, ⟨BX.out.low⟩, ⟨(HS.out.same ((BX.out.at_ (i := 1) rfl).trans HM.out.symm)).imp (fun x => by rw [hs0]) (by omega)⟩, ⟨by have hR_ := R_of_raw hgo (BX.out.at_ (i := 2) rfl) (by rw [hol]; exact HSP.out) hco; rw [hol] at hR_; rw [← HOS.out]; exact hR_⟩⟩
        · have e6 : ((rd_T66 l0 (kk : Int)).f0 == 6) = false := by simp [h6]
          have hs0 : impl_makeable.s0 l0 l1 (kk + 1) = impl_makeable.s0 l0 l1 kk := by rw [impl_makeable.s0, if_neg (fun e => h6 e.1)]
          clear h6 hbo
          go_wp2_with (first | ((with_reducible refine gate_dst (N := 8) rfl ?_); refine box_event ?hg (N := 8) ?hd (cs := #[.int .i64 0, .int .i64 0, .int .i64 0, .int .i64 0]) (t := 66) ?hr ?_; (case hd => rfl); (case hg => rfl); (case hr => first | (go_simp; done) | (go_simp; rfl)); intro g8 hg w8_ hbox hb; have BY := Aside0.mk (Objs.new (w0 := w) (bs := [(w5.heap.size, .map es_ ck_), (go, .cells (rawB os_ sp_) 4 (0, 0))]) (by (with_reducible repeat (first | refine Objs.drewN ?_ _ | refine Objs.drew ?_ | refine Objs.alloc ?_ _)); exact BX.out) hg hbox hb); clear BX hb hbox hg; have BX := BY; clear BY; have qg8_0 : World.cell? _ ⟨g8, 0, none⟩ = some (.int .i64 0) := BX.out.cell (i := 0) rfl (j := 0) rfl; have fqg8_0 : World.frozen? _ ⟨g8, 0, none⟩ = false := BX.out.frozen (i := 0) rfl 0; have qg8_1 : World.cell? _ ⟨g8, 1, none⟩ = some (.int .i64 0) := BX.out.cell (i := 0) rfl (j := 1) rfl; have fqg8_1 : World.frozen? _ ⟨g8, 1, none⟩ = false := BX.out.frozen (i := 0) rfl 1; have qg8_2 : World.cell? _ ⟨g8, 2, none⟩ = some (.int .i64 0) := BX.out.cell (i := 0) rfl (j := 2) rfl; have fqg8_2 : World.frozen? _ ⟨g8, 2, none⟩ = false := BX.out.frozen (i := 0) rfl 2; have qg8_3 : World.cell? _ ⟨g8, 3, none⟩ = some (.int .i64 0) := BX.out.cell (i := 0) rfl (j := 3) rfl; have fqg8_3 : World.frozen? _ ⟨g8, 3, none⟩ = false := BX.out.frozen (i := 0) rfl 3) | ((with_reducible refine gate_store (t := 66) (p := 8) rfl ?_); refine objs_store (w0 := w) (bs := [(g8, .cells #[.int .i64 (rd_T66 l0 (kk : Int)).f0, .int .i64 (rd_T66 l0 (kk : Int)).f1, .int .i64 (rd_T66 l0 (kk : Int)).f2, .int .i64 (rd_T66 l0 (kk : Int)).f3] 66 (0, 0)), (w5.heap.size, .map es_ ck_), (go, .cells (rawB os_ sp_) 4 (0, 0))]) (W1 := (((World.setCell w8_ ⟨g8, 0, none⟩ (.int .i64 (rd_T66 l0 (kk : Int)).f0)).setCell ⟨g8, 1, none⟩ (.int .i64 (rd_T66 l0 (kk : Int)).f1)).setCell ⟨g8, 2, none⟩ (.int .i64 (rd_T66 l0 (kk : Int)).f2)).setCell ⟨g8, 3, none⟩ (.int .i64 (rd_T66 l0 (kk : Int)).f3)) rfl rfl rfl ?hr ((((Objs.put (w0 := w) (b1 := []) (b2 := [(w5.heap.size, .map es_ ck_), (go, .cells (rawB os_ sp_) 4 (0, 0))]) BX.out 0 (.int .i64 (rd_T66 l0 (kk : Int)).f0) rfl).put (b1 := []) 1 (.int .i64 (rd_T66 l0 (kk : Int)).f1) rfl).put (b1 := []) 2 (.int .i64 (rd_T66 l0 (kk : Int)).f2) rfl).put (b1 := []) 3 (.int .i64 (rd_T66 l0 (kk : Int)).f3) rfl) ?_; (case hr => first | (go_simp; done) | (go_simp; rfl)); intro w9_ BY; have BY := Aside0.mk BY; clear BX; have BX := BY; clear BY; clear qg8_0 fqg8_0 qg8_1 fqg8_1 qg8_2 fqg8_2 qg8_3 fqg8_3; have qg8_0 : World.cell? _ ⟨g8, 0, none⟩ = some (.int .i64 (rd_T66 l0 (kk : Int)).f0) := BX.out.cell (i := 0) rfl (j := 0) rfl; have fqg8_0 : World.frozen? _ ⟨g8, 0, none⟩ = false := BX.out.frozen (i := 0) rfl 0; have qg8_1 : World.cell? _ ⟨g8, 1, none⟩ = some (.int .i64 (rd_T66 l0 (kk : Int)).f1) := BX.out.cell (i := 0) rfl (j := 1) rfl; have fqg8_1 : World.frozen? _ ⟨g8, 1, none⟩ = false := BX.out.frozen (i := 0) rfl 1; have qg8_2 : World.cell? _ ⟨g8, 2, none⟩ = some (.int .i64 (rd_T66 l0 (kk : Int)).f2) := BX.out.cell (i := 0) rfl (j := 2) rfl; have fqg8_2 : World.frozen? _ ⟨g8, 2, none⟩ = false := BX.out.frozen (i := 0) rfl 2; have qg8_3 : World.cell? _ ⟨g8, 3, none⟩ = some (.int .i64 (rd_T66 l0 (kk : Int)).f3) := BX.out.cell (i := 0) rfl (j := 3) rfl; have fqg8_3 : World.frozen? _ ⟨g8, 3, none⟩ = false := BX.out.frozen (i := 0) rfl 3; have hk : World.cell? _ (ad1.add kk) = some (.bool K_) := (BX.out.low.cell (World.block_lt_of_cell? w _ HK.out)).trans HK.out) | fail)
          go_roundg (l0.length - (kk + 1))
          case measure => omega
          case rel => exact ⟨kk + 1, by omega, by omega, by go_num, ⟨BX.out.low⟩, ⟨(HS.out.same ((BX.out.at_ (i := 1) rfl).trans HM.out.symm)).imp (fun x => by rw [hs0]) (by omega)⟩, ⟨by have hR_ := R_of_raw hgo (BX.out.at_ (i := 2) rfl) (by rw [hol]; exact HSP.out) hco; rw [hol] at hR_; rw [← HOS.out]; exact hR_⟩⟩
      · have hltz : ¬ (kk : Int) < (l0.length : Int) := by omega
        have hke : kk = l0.length := by omega
        clear hltz hlt hkk hg
        subst hke
        go_wp2
        go_loopg [37] l0.length (fun gg s37 wr => ∃ kk : Nat, kk ≤ l0.length ∧ l0.length - kk ≤ gg ∧ s37 = .int .i64 kk ∧ Aside0 (Below w.heap.size w wr) ∧ Aside0 (ownsSet Try.prog wr 2 4 (Value.int .i64) w5.heap.size l0.length (fun x => decide (x ∈ impl_makeable.s0 l0 l1 l0.length))) ∧ Aside0 (Kd.R Kd.bool 4 wr w.heap.size (fun _ => True) v5_ (impl_makeable.l0 l0 l1 (impl_makeable.s0 l0 l1 l0.length) kk)))
        case atStart => exact ⟨0, Nat.zero_le _, by omega, rfl, ⟨BW.out⟩, ⟨HS.out⟩, ⟨by rw [impl_makeable.l0]; exact HR.out⟩⟩
        case round =>
          clear BW HS HR
          obtain ⟨kk, hkk, hg, rfl, BW, HS, HR⟩ := hrel
          by_cases hlt : kk < l0.length
          · clear HV
            have hltz : (kk : Int) < (l0.length : Int) := by omega
            obtain ⟨os_, hos_⟩ : ∃ o, o = impl_makeable.l0 l0 l1 (impl_makeable.s0 l0 l1 l0.length) kk := ⟨_, rfl⟩
            have hol : os_.length = l0.length := by rw [hos_]; exact impl_makeable_l0_len l0 l1 _ kk
            have hr_ := HR.out
            rw [← hos_] at hr_
            obtain ⟨go, co, sp_, ev_, hgo, hraw, hsp, hco⟩ := raw_of_R hr_ (by omega)
            rw [hol] at ev_ hsp
            subst ev_
            obtain ⟨es_, ck_, hom_⟩ := HS.out.obj
            have HM := Aside0.mk hom_
            have BX := Aside0.mk (((Objs.start BW.out).add hraw hgo (fun x hx => absurd hx (by simp))).add hom_ hb5 (fun x hx => by
              rw [List.mem_singleton] at hx
              subst hx
              intro e
              rw [e, hraw] at hom_
              cases hom_))
            clear hr_ hom_ hraw HR
            obtain ⟨ad, e, hx0, hx1, hx2, hx3⟩ := at_T66 HR0.out (kk : Int) (by omega) hltz
            cases e
            obtain ⟨ad1, e1, hk0⟩ := Kd.at_bool HR1.out (kk : Int) (by omega) (by omega)
            cases e1
            obtain ⟨K_, hK_⟩ : ∃ b, b = rdOf false l1 (kk : Int) := ⟨_, rfl⟩
            rw [← hK_] at hk0
            simp only [Int.toNat_natCast] at hk0
            have HK := Aside0.mk hk0
            have HKE := Aside0.mk hK_
            have HOS := Aside0.mk hos_
            have HSP := Aside0.mk hsp
            clear hk0 hK_ hos_ hsp
            replace hx0 := (BW.out.cell (World.block_lt_of_cell? w _ hx0)).trans hx0
            replace hx1 := (BW.out.cell (World.block_lt_of_cell? w _ hx1)).trans hx1
            replace hx2 := (BW.out.cell (World.block_lt_of_cell? w _ hx2)).trans hx2
            replace hx3 := (BW.out.cell (World.block_lt_of_cell? w _ hx3)).trans hx3
            simp only [Int.toNat_natCast] at hx0 hx1 hx2 hx3
            have p1 : (0 ≤ (kk : Int)) = True := eq_true (by omega)
            have q1 : ((kk : Int) < (l0.length : Int)) = True := eq_true hltz
            have hu1 := Try.underlying66
            have hu2 := Try.underlying25
            have hu3 := Try.underlying77
            have hbo := impl_makeable_ok HC.out kk hlt
            by_cases h1 : (rd_T66 l0 (kk : Int)).f0 = 1
            · have e1 : ((rd_T66 l0 (kk : Int)).f0 == 1) = true := by simp; omega
              obtain ⟨V_, hV_⟩ : ∃ b, b = true := ⟨_, rfl⟩
              have HVE : Aside0 (V_ = impl_makeable.r (impl_makeable.s0 l0 l1 l0.length) os_ (kk : Int) (rd_T66 l0 (kk : Int))) := ⟨by rw [hV_, impl_makeable.r]; simp only [e1, cond_true]⟩
              clear hbo
              have hp : (K_ = true) ∨ (K_ = false) := by
                rcases Bool.eq_false_or_eq_true (K_) with kn | kn
                · exact .inl kn
                · exact .inr kn
              rcases hp with kn | kn
              all_goals (
                go_wp2_with (first | ((with_reducible refine gate_dst (N := 10) rfl ?_); refine box_event ?hg (N := 10) ?hd (cs := #[.int .i64 0, .int .i64 0, .int .i64 0, .int .i64 0]) (t := 66) ?hr ?_; (case hd => rfl); (case hg => rfl); (case hr => first | (go_simp; done) | (go_simp; rfl)); intro g10 hg w10_ hbox hb; have BY := Aside0.mk (Objs.new (w0 := w) (bs := [(w5.heap.size, .map es_ ck_), (go, .cells (rawB os_ sp_) 4 (0, 0))]) (by (with_reducible repeat (first | refine Objs.drewN ?_ _ | refine Objs.drew ?_ | refine Objs.alloc ?_ _)); exact BX.out) hg hbox hb); clear BX hb hbox hg; have BX := BY; clear BY; have qg10_0 : World.cell? _ ⟨g10, 0, none⟩ = some (.int .i64 0) := BX.out.cell (i := 0) rfl (j := 0) rfl; have fqg10_0 : World.frozen? _ ⟨g10, 0, none⟩ = false := BX.out.frozen (i := 0) rfl 0; have qg10_1 : World.cell? _ ⟨g10, 1, none⟩ = some (.int .i64 0) := BX.out.cell (i := 0) rfl (j := 1) rfl; have fqg10_1 : World.frozen? _ ⟨g10, 1, none⟩ = false := BX.out.frozen (i := 0) rfl 1; have qg10_2 : World.cell? _ ⟨g10, 2, none⟩ = some (.int .i64 0) := BX.out.cell (i := 0) rfl (j := 2) rfl; have fqg10_2 : World.frozen? _ ⟨g10, 2, none⟩ = false := BX.out.frozen (i := 0) rfl 2; have qg10_3 : World.cell? _ ⟨g10, 3, none⟩ = some (.int .i64 0) := BX.out.cell (i := 0) rfl (j := 3) rfl; have fqg10_3 : World.frozen? _ ⟨g10, 3, none⟩ = false := BX.out.frozen (i := 0) rfl 3) | ((with_reducible refine gate_store (t := 66) (p := 10) rfl ?_); refine objs_store (w0 := w) (bs := [(g10, .cells #[.int .i64 (rd_T66 l0 (kk : Int)).f0, .int .i64 (rd_T66 l0 (kk : Int)).f1, .int .i64 (rd_T66 l0 (kk : Int)).f2, .int .i64 (rd_T66 l0 (kk : Int)).f3] 66 (0, 0)), (w5.heap.size, .map es_ ck_), (go, .cells (rawB os_ sp_) 4 (0, 0))]) (W1 := (((World.setCell w10_ ⟨g10, 0, none⟩ (.int .i64 (rd_T66 l0 (kk : Int)).f0)).setCell ⟨g10, 1, none⟩ (.int .i64 (rd_T66 l0 (kk : Int)).f1)).setCell ⟨g10, 2, none⟩ (.int .i64 (rd_T66 l0 (kk : Int)).f2)).setCell ⟨g10, 3, none⟩ (.int .i64 (rd_T66 l0 (kk : Int)).f3)) rfl rfl rfl ?hr ((((Objs.put (w0 := w) (b1 := []) (b2 := [(w5.heap.size, .map es_ ck_), (go, .cells (rawB os_ sp_) 4 (0, 0))]) BX.out 0 (.int .i64 (rd_T66 l0 (kk : Int)).f0) rfl).put (b1 := []) 1 (.int .i64 (rd_T66 l0 (kk : Int)).f1) rfl).put (b1 := []) 2 (.int .i64 (rd_T66 l0 (kk : Int)).f2) rfl).put (b1 := []) 3 (.int .i64 (rd_T66 l0 (kk : Int)).f3) rfl) ?_; (case hr => first | (go_simp; done) | (go_simp; rfl)); intro w11_ BY; have BY := Aside0.mk BY; clear BX; have BX := BY; clear BY; clear qg10_0 fqg10_0 qg10_1 fqg10_1 qg10_2 fqg10_2 qg10_3 fqg10_3; have qg10_0 : World.cell? _ ⟨g10, 0, none⟩ = some (.int .i64 (rd_T66 l0 (kk : Int)).f0) := BX.out.cell (i := 0) rfl (j := 0) rfl; have fqg10_0 : World.frozen? _ ⟨g10, 0, none⟩ = false := BX.out.frozen (i := 0) rfl 0; have qg10_1 : World.cell? _ ⟨g10, 1, none⟩ = some (.int .i64 (rd_T66 l0 (kk : Int)).f1) := BX.out.cell (i := 0) rfl (j := 1) rfl; have fqg10_1 : World.frozen? _ ⟨g10, 1, none⟩ = false := BX.out.frozen (i := 0) rfl 1; have qg10_2 : World.cell? _ ⟨g10, 2, none⟩ = some (.int .i64 (rd_T66 l0 (kk : Int)).f2) := BX.out.cell (i := 0) rfl (j := 2) rfl; have fqg10_2 : World.frozen? _ ⟨g10, 2, none⟩ = false := BX.out.frozen (i := 0) rfl 2; have qg10_3 : World.cell? _ ⟨g10, 3, none⟩ = some (.int .i64 (rd_T66 l0 (kk : Int)).f3) := BX.out.cell (i := 0) rfl (j := 3) rfl; have fqg10_3 : World.frozen? _ ⟨g10, 3, none⟩ = false := BX.out.frozen (i := 0) rfl 3; have hk : World.cell? _ (ad1.add kk) = some (.bool K_) := (BX.out.low.cell (World.block_lt_of_cell? w _ HK.out)).trans HK.out; have hN : World.cell? _ ⟨go, kk, none⟩ = some (.bool (rdOf false os_ (kk : Int))) := BX.out.cell (i := 2) rfl (rawB_get os_ sp_ kk (by omega)); have fgo : World.frozen? _ ⟨go, kk, none⟩ = false := BX.out.frozen (i := 2) rfl kk) | ((with_reducible refine gate_store (t := 4) (p := 48) rfl ?_); refine objs_store (w0 := w) (bs := [(g10, .cells #[.int .i64 (rd_T66 l0 (kk : Int)).f0, .int .i64 (rd_T66 l0 (kk : Int)).f1, .int .i64 (rd_T66 l0 (kk : Int)).f2, .int .i64 (rd_T66 l0 (kk : Int)).f3] 66 (0, 0)), (w5.heap.size, .map es_ ck_), (go, .cells (rawB (os_.set kk V_) sp_) 4 (0, 0))]) (W1 := World.setCell w11_ ⟨go, kk, none⟩ (.bool V_)) rfl rfl rfl ?hr (Objs.put (w0 := w) (b1 := [(g10, .cells #[.int .i64 (rd_T66 l0 (kk : Int)).f0, .int .i64 (rd_T66 l0 (kk : Int)).f1, .int .i64 (rd_T66 l0 (kk : Int)).f2, .int .i64 (rd_T66 l0 (kk : Int)).f3] 66 (0, 0)), (w5.heap.size, .map es_ ck_)]) (b2 := []) BX.out (kk) (.bool V_) (rawB_set os_ sp_ kk (by omega) V_)) ?_; (case hr => first | (go_simp; done) | (go_simp; rfl)); intro w12_ BY; have BY := Aside0.mk BY; clear BX; have BX := BY; clear BY; clear qg10_0 fqg10_0 qg10_1 fqg10_1 qg10_2 fqg10_2 qg10_3 fqg10_3 hk hN fgo; have qg10_0 : World.cell? _ ⟨g10, 0, none⟩ = some (.int .i64 (rd_T66 l0 (kk : Int)).f0) := BX.out.cell (i := 0) rfl (j := 0) rfl; have fqg10_0 : World.frozen? _ ⟨g10, 0, none⟩ = false := BX.out.frozen (i := 0) rfl 0; have qg10_1 : World.cell? _ ⟨g10, 1, none⟩ = some (.int .i64 (rd_T66 l0 (kk : Int)).f1) := BX.out.cell (i := 0) rfl (j := 1) rfl; have fqg10_1 : World.frozen? _ ⟨g10, 1, none⟩ = false := BX.out.frozen (i := 0) rfl 1; have qg10_2 : World.cell? _ ⟨g10, 2, none⟩ = some (.int .i64 (rd_T66 l0 (kk : Int)).f2) := BX.out.cell (i := 0) rfl (j := 2) rfl; have fqg10_2 : World.frozen? _ ⟨g10, 2, none⟩ = false := BX.out.frozen (i := 0) rfl 2; have qg10_3 : World.cell? _ ⟨g10, 3, none⟩ = some (.int .i64 (rd_T66 l0 (kk : Int)).f3) := BX.out.cell (i := 0) rfl (j := 3) rfl; have fqg10_3 : World.frozen? _ ⟨g10, 3, none⟩ = false := BX.out.frozen (i := 0) rfl 3; have hk : World.cell? _ (ad1.add kk) = some (.bool K_) := (BX.out.low.cell (World.block_lt_of_cell? w _ HK.out)).trans HK.out; have hN : World.cell? _ ⟨go, kk, none⟩ = some (.bool V_) := BX.out.cell (i := 2) rfl (rawB_at os_ sp_ kk (by omega) V_); have fgo : World.frozen? _ ⟨go, kk, none⟩ = false := BX.out.frozen (i := 2) rfl kk) | ((with_reducible refine gate_store (t := 4) (p := 126) rfl ?_); refine objs_store (w0 := w) (bs := [(g10, .cells #[.int .i64 (rd_T66 l0 (kk : Int)).f0, .int .i64 (rd_T66 l0 (kk : Int)).f1, .int .i64 (rd_T66 l0 (kk : Int)).f2, .int .i64 (rd_T66 l0 (kk : Int)).f3] 66 (0, 0)), (w5.heap.size, .map es_ ck_), (go, .cells (rawB ((os_.set kk V_).set kk (V_ || K_)) sp_) 4 (0, 0))]) (W1 := World.setCell w12_ ⟨go, kk, none⟩ (.bool (V_ || K_))) rfl rfl rfl ?hr (Objs.put (w0 := w) (b1 := [(g10, .cells #[.int .i64 (rd_T66 l0 (kk : Int)).f0, .int .i64 (rd_T66 l0 (kk : Int)).f1, .int .i64 (rd_T66 l0 (kk : Int)).f2, .int .i64 (rd_T66 l0 (kk : Int)).f3] 66 (0, 0)), (w5.heap.size, .map es_ ck_)]) (b2 := []) BX.out (kk) (.bool (V_ || K_)) (rawB_set (os_.set kk V_) sp_ kk (by rw [List.length_set]; omega) (V_ || K_))) ?_; (case hr => first | (go_simp; done) | (go_simp; rfl)); intro w13_ BY; have BY := Aside0.mk BY; clear BX; have BX := BY; clear BY; clear qg10_0 fqg10_0 qg10_1 fqg10_1 qg10_2 fqg10_2 qg10_3 fqg10_3 hk hN fgo; have qg10_0 : World.cell? _ ⟨g10, 0, none⟩ = some (.int .i64 (rd_T66 l0 (kk : Int)).f0) := BX.out.cell (i := 0) rfl (j := 0) rfl; have fqg10_0 : World.frozen? _ ⟨g10, 0, none⟩ = false := BX.out.frozen (i := 0) rfl 0; have qg10_1 : World.cell? _ ⟨g10, 1, none⟩ = some (.int .i64 (rd_T66 l0 (kk : Int)).f1) := BX.out.cell (i := 0) rfl (j := 1) rfl; have fqg10_1 : World.frozen? _ ⟨g10, 1, none⟩ = false := BX.out.frozen (i := 0) rfl 1; have qg10_2 : World.cell? _ ⟨g10, 2, none⟩ = some (.int .i64 (rd_T66 l0 (kk : Int)).f2) := BX.out.cell (i := 0) rfl (j := 2) rfl; have fqg10_2 : World.frozen? _ ⟨g10, 2, none⟩ = false := BX.out.frozen (i := 0) rfl 2; have qg10_3 : World.cell? _ ⟨g10, 3, none⟩ = some (.int .i64 (rd_T66 l0 (kk : Int)).f3) := BX.out.cell (i := 0) rfl (j := 3) rfl; have fqg10_3 : World.frozen? _ ⟨g10, 3, none⟩ = false := BX.out.frozen (i := 0) rfl 3) | fail)
                go_roundg (l0.length - (kk + 1))
                case measure => omega
                case rel => exact ⟨kk + 1, by omega, by omega, by go_num, ⟨BX.out.low⟩, ⟨(HS.out.same ((BX.out.at_ (i := 1) rfl).trans HM.out.symm)).imp (fun _ => rfl) (Nat.le_refl _)⟩, ⟨by rw [impl_makeable.l0, ← HOS.out, ← HVE.out, ← HKE.out]; have hR_ := R_of_raw hgo (BX.out.at_ (i := 2) rfl) (by simpa [hol] using HSP.out) hco; simpa [hol] using hR_⟩⟩)
            by_cases h3 : (rd_T66 l0 (kk : Int)).f0 = 3 ∨ (rd_T66 l0 (kk : Int)).f0 = 4 ∨ (rd_T66 l0 (kk : Int)).f0 = 5
            · have e1 : ((rd_T66 l0 (kk : Int)).f0 == 1) = false := by simp; omega
              have e6 : ((rd_T66 l0 (kk : Int)).f0 == 6) = false := by simp; omega
              have h345 : (((rd_T66 l0 (kk : Int)).f0 == 3) || (((rd_T66 l0 (kk : Int)).f0 == 4) || ((rd_T66 l0 (kk : Int)).f0 == 5))) = true := by simp; omega
              have e5 : ((rd_T66 l0 (kk : Int)).f0 == 3) = false → ((rd_T66 l0 (kk : Int)).f0 == 4) = false → ((rd_T66 l0 (kk : Int)).f0 == 5) = true := by simp; omega
              have hA_ := hbo.1 (by omega)
              have hB_ := hbo.2 (by omega)
              obtain ⟨a_, hav⟩ : ∃ b, rdOf false os_ (rd_T66 l0 (kk : Int)).f1 = b := ⟨_, rfl⟩
              have pA : (0 ≤ (rd_T66 l0 (kk : Int)).f1) = True := eq_true hA_.1
              have qA : ((rd_T66 l0 (kk : Int)).f1 < (l0.length : Int)) = True := eq_true hA_.2
              obtain ⟨b_, hbv⟩ : ∃ b, rdOf false os_ (rd_T66 l0 (kk : Int)).f2 = b := ⟨_, rfl⟩
              have pB : (0 ≤ (rd_T66 l0 (kk : Int)).f2) = True := eq_true hB_.1
              have qB : ((rd_T66 l0 (kk : Int)).f2 < (l0.length : Int)) = True := eq_true hB_.2
              obtain ⟨V_, hV_⟩ : ∃ b, b = (a_ && b_) := ⟨_, rfl⟩
              have HVE : Aside0 (V_ = impl_makeable.r (impl_makeable.s0 l0 l1 l0.length) os_ (kk : Int) (rd_T66 l0 (kk : Int))) := ⟨by rw [hV_, impl_makeable.r]; simp only [e1, h345, cond_true, cond_false, hav, hbv]; try rfl⟩
              clear hbo
              have hp : (((rd_T66 l0 (kk : Int)).f0 == 3) = true ∧ a_ = true ∧ b_ = true) ∨ (((rd_T66 l0 (kk : Int)).f0 == 3) = true ∧ a_ = true ∧ b_ = false ∧ K_ = true) ∨ (((rd_T66 l0 (kk : Int)).f0 == 3) = true ∧ a_ = true ∧ b_ = false ∧ K_ = false) ∨ (((rd_T66 l0 (kk : Int)).f0 == 3) = true ∧ a_ = false ∧ K_ = true) ∨ (((rd_T66 l0 (kk : Int)).f0 == 3) = true ∧ a_ = false ∧ K_ = false) ∨ (((rd_T66 l0 (kk : Int)).f0 == 3) = false ∧ ((rd_T66 l0 (kk : Int)).f0 == 4) = true ∧ a_ = true ∧ b_ = true) ∨ (((rd_T66 l0 (kk : Int)).f0 == 3) = false ∧ ((rd_T66 l0 (kk : Int)).f0 == 4) = true ∧ a_ = true ∧ b_ = false ∧ K_ = true) ∨ (((rd_T66 l0 (kk : Int)).f0 == 3) = false ∧ ((rd_T66 l0 (kk : Int)).f0 == 4) = true ∧ a_ = true ∧ b_ = false ∧ K_ = false) ∨ (((rd_T66 l0 (kk : Int)).f0 == 3) = false ∧ ((rd_T66 l0 (kk : Int)).f0 == 4) = true ∧ a_ = false ∧ K_ = true) ∨ (((rd_T66 l0 (kk : Int)).f0 == 3) = false ∧ ((rd_T66 l0 (kk : Int)).f0 == 4) = true ∧ a_ = false ∧ K_ = false) ∨ (((rd_T66 l0 (kk : Int)).f0 == 3) = false ∧ ((rd_T66 l0 (kk : Int)).f0 == 4) = false ∧ a_ = true ∧ b_ = true) ∨ (((rd_T66 l0 (kk : Int)).f0 == 3) = false ∧ ((rd_T66 l0 (kk : Int)).f0 == 4) = false ∧ a_ = true ∧ b_ = false ∧ K_ = true) ∨ (((rd_T66 l0 (kk : Int)).f0 == 3) = false ∧ ((rd_T66 l0 (kk : Int)).f0 == 4) = false ∧ a_ = true ∧ b_ = false ∧ K_ = false) ∨ (((rd_T66 l0 (kk : Int)).f0 == 3) = false ∧ ((rd_T66 l0 (kk : Int)).f0 == 4) = false ∧ a_ = false ∧ K_ = true) ∨ (((rd_T66 l0 (kk : Int)).f0 == 3) = false ∧ ((rd_T66 l0 (kk : Int)).f0 == 4) = false ∧ a_ = false ∧ K_ = false) := by
                rcases Bool.eq_false_or_eq_true (((rd_T66 l0 (kk : Int)).f0 == 3)) with e3 | e3
                · rcases Bool.eq_false_or_eq_true (a_) with av | av
                  · rcases Bool.eq_false_or_eq_true (b_) with bv | bv
                    · exact .inl ⟨e3, av, bv⟩
                    · rcases Bool.eq_false_or_eq_true (K_) with kn | kn
                      · exact .inr (.inl ⟨e3, av, bv, kn⟩)
                      · exact .inr (.inr (.inl ⟨e3, av, bv, kn⟩))
                  · rcases Bool.eq_false_or_eq_true (K_) with kn | kn
                    · exact .inr (.inr (.inr (.inl ⟨e3, av, kn⟩)))
                    · exact .inr (.inr (.inr (.inr (.inl ⟨e3, av, kn⟩))))
                · rcases Bool.eq_false_or_eq_true (((rd_T66 l0 (kk : Int)).f0 == 4)) with e4 | e4
                  · rcases Bool.eq_false_or_eq_true (a_) with av | av
                    · rcases Bool.eq_false_or_eq_true (b_) with bv | bv
                      · exact .inr (.inr (.inr (.inr (.inr (.inl ⟨e3, e4, av, bv⟩)))))
                      · rcases Bool.eq_false_or_eq_true (K_) with kn | kn
                        · exact .inr (.inr (.inr (.inr (.inr (.inr (.inl ⟨e3, e4, av, bv, kn⟩))))))
                        · exact .inr (.inr (.inr (.inr (.inr (.inr (.inr (.inl ⟨e3, e4, av, bv, kn⟩)))))))
                    · rcases Bool.eq_false_or_eq_true (K_) with kn | kn
                      · exact .inr (.inr (.inr (.inr (.inr (.inr (.inr (.inr (.inl ⟨e3, e4, av, kn⟩))))))))
                      · exact .inr (.inr (.inr (.inr (.inr (.inr (.inr (.inr (.inr (.inl ⟨e3, e4, av, kn⟩)))))))))
                  · rcases Bool.eq_false_or_eq_true (a_) with av | av
                    · rcases Bool.eq_false_or_eq_true (b_) with bv | bv
                      · exact .inr (.inr (.inr (.inr (.inr (.inr (.inr (.inr (.inr (.inr (.inl ⟨e3, e4, av, bv⟩))))))))))
                      · rcases Bool.eq_false_or_eq_true (K_) with kn | kn
                        · exact .inr (.inr (.inr (.inr (.inr (.inr (.inr (.inr (.inr (.inr (.inr (.inl ⟨e3, e4, av, bv, kn⟩)))))))))))
                        · exact .inr (.inr (.inr (.inr (.inr (.inr (.inr (.inr (.inr (.inr (.inr (.inr (.inl ⟨e3, e4, av, bv, kn⟩))))))))))))
                    · rcases Bool.eq_false_or_eq_true (K_) with kn | kn
                      · exact .inr (.inr (.inr (.inr (.inr (.inr (.inr (.inr (.inr (.inr (.inr (.inr (.inr (.inl ⟨e3, e4, av, kn⟩)))))))))))))
                      · exact .inr (.inr (.inr (.inr (.inr (.inr (.inr (.inr (.inr (.inr (.inr (.inr (.inr (.inr ⟨e3, e4, av, kn⟩)))))))))))))
              rcases hp with ⟨e3, av, bv⟩ | ⟨e3, av, bv, kn⟩ | ⟨e3, av, bv, kn⟩ | ⟨e3, av, kn⟩ | ⟨e3, av, kn⟩ | ⟨e3, e4, av, bv⟩ | ⟨e3, e4, av, bv, kn⟩ | ⟨e3, e4, av, bv, kn⟩ | ⟨e3, e4, av, kn⟩ | ⟨e3, e4, av, kn⟩ | ⟨e3, e4, av, bv⟩ | ⟨e3, e4, av, bv, kn⟩ | ⟨e3, e4, av, bv, kn⟩ | ⟨e3, e4, av, kn⟩ | ⟨e3, e4, av, kn⟩
              all_goals (
                go_wp2_with (first | ((with_reducible refine gate_dst (N := 10) rfl ?_); refine box_event ?hg (N := 10) ?hd (cs := #[.int .i64 0, .int .i64 0, .int .i64 0, .int .i64 0]) (t := 66) ?hr ?_; (case hd => rfl); (case hg => rfl); (case hr => first | (go_simp; done) | (go_simp; rfl)); intro g10 hg w10_ hbox hb; have BY := Aside0.mk (Objs.new (w0 := w) (bs := [(w5.heap.size, .map es_ ck_), (go, .cells (rawB os_ sp_) 4 (0, 0))]) (by (with_reducible repeat (first | refine Objs.drewN ?_ _ | refine Objs.drew ?_ | refine Objs.alloc ?_ _)); exact BX.out) hg hbox hb); clear BX hb hbox hg; have BX := BY; clear BY; have qg10_0 : World.cell? _ ⟨g10, 0, none⟩ = some (.int .i64 0) := BX.out.cell (i := 0) rfl (j := 0) rfl; have fqg10_0 : World.frozen? _ ⟨g10, 0, none⟩ = false := BX.out.frozen (i := 0) rfl 0; have qg10_1 : World.cell? _ ⟨g10, 1, none⟩ = some (.int .i64 0) := BX.out.cell (i := 0) rfl (j := 1) rfl; have fqg10_1 : World.frozen? _ ⟨g10, 1, none⟩ = false := BX.out.frozen (i := 0) rfl 1; have qg10_2 : World.cell? _ ⟨g10, 2, none⟩ = some (.int .i64 0) := BX.out.cell (i := 0) rfl (j := 2) rfl; have fqg10_2 : World.frozen? _ ⟨g10, 2, none⟩ = false := BX.out.frozen (i := 0) rfl 2; have qg10_3 : World.cell? _ ⟨g10, 3, none⟩ = some (.int .i64 0) := BX.out.cell (i := 0) rfl (j := 3) rfl; have fqg10_3 : World.frozen? _ ⟨g10, 3, none⟩ = false := BX.out.frozen (i := 0) rfl 3) | ((with_reducible refine gate_store (t := 66) (p := 10) rfl ?_); refine objs_store (w0 := w) (bs := [(g10, .cells #[.int .i64 (rd_T66 l0 (kk : Int)).f0, .int .i64 (rd_T66 l0 (kk : Int)).f1, .int .i64 (rd_T66 l0 (kk : Int)).f2, .int .i64 (rd_T66 l0 (kk : Int)).f3] 66 (0, 0)), (w5.heap.size, .map es_ ck_), (go, .cells (rawB os_ sp_) 4 (0, 0))]) (W1 := (((World.setCell w10_ ⟨g10, 0, none⟩ (.int .i64 (rd_T66 l0 (kk : Int)).f0)).setCell ⟨g10, 1, none⟩ (.int .i64 (rd_T66 l0 (kk : Int)).f1)).setCell ⟨g10, 2, none⟩ (.int .i64 (rd_T66 l0 (kk : Int)).f2)).setCell ⟨g10, 3, none⟩ (.int .i64 (rd_T66 l0 (kk : Int)).f3)) rfl rfl rfl ?hr ((((Objs.put (w0 := w) (b1 := []) (b2 := [(w5.heap.size, .map es_ ck_), (go, .cells (rawB os_ sp_) 4 (0, 0))]) BX.out 0 (.int .i64 (rd_T66 l0 (kk : Int)).f0) rfl).put (b1 := []) 1 (.int .i64 (rd_T66 l0 (kk : Int)).f1) rfl).put (b1 := []) 2 (.int .i64 (rd_T66 l0 (kk : Int)).f2) rfl).put (b1 := []) 3 (.int .i64 (rd_T66 l0 (kk : Int)).f3) rfl) ?_; (case hr => first | (go_simp; done) | (go_simp; rfl)); intro w11_ BY; have BY := Aside0.mk BY; clear BX; have BX := BY; clear BY; clear qg10_0 fqg10_0 qg10_1 fqg10_1 qg10_2 fqg10_2 qg10_3 fqg10_3; have qg10_0 : World.cell? _ ⟨g10, 0, none⟩ = some (.int .i64 (rd_T66 l0 (kk : Int)).f0) := BX.out.cell (i := 0) rfl (j := 0) rfl; have fqg10_0 : World.frozen? _ ⟨g10, 0, none⟩ = false := BX.out.frozen (i := 0) rfl 0; have qg10_1 : World.cell? _ ⟨g10, 1, none⟩ = some (.int .i64 (rd_T66 l0 (kk : Int)).f1) := BX.out.cell (i := 0) rfl (j := 1) rfl; have fqg10_1 : World.frozen? _ ⟨g10, 1, none⟩ = false := BX.out.frozen (i := 0) rfl 1; have qg10_2 : World.cell? _ ⟨g10, 2, none⟩ = some (.int .i64 (rd_T66 l0 (kk : Int)).f2) := BX.out.cell (i := 0) rfl (j := 2) rfl; have fqg10_2 : World.frozen? _ ⟨g10, 2, none⟩ = false := BX.out.frozen (i := 0) rfl 2; have qg10_3 : World.cell? _ ⟨g10, 3, none⟩ = some (.int .i64 (rd_T66 l0 (kk : Int)).f3) := BX.out.cell (i := 0) rfl (j := 3) rfl; have fqg10_3 : World.frozen? _ ⟨g10, 3, none⟩ = false := BX.out.frozen (i := 0) rfl 3; have hk : World.cell? _ (ad1.add kk) = some (.bool K_) := (BX.out.low.cell (World.block_lt_of_cell? w _ HK.out)).trans HK.out; have hA : World.cell? _ ⟨go, ((rd_T66 l0 (kk : Int)).f1).toNat, none⟩ = some (.bool a_) := BX.out.cell (i := 2) rfl ((rawB_get' os_ sp_ (rd_T66 l0 (kk : Int)).f1 hA_.1 (by omega)).trans (by rw [hav])); have hB : World.cell? _ ⟨go, ((rd_T66 l0 (kk : Int)).f2).toNat, none⟩ = some (.bool b_) := BX.out.cell (i := 2) rfl ((rawB_get' os_ sp_ (rd_T66 l0 (kk : Int)).f2 hB_.1 (by omega)).trans (by rw [hbv])); have hN : World.cell? _ ⟨go, kk, none⟩ = some (.bool (rdOf false os_ (kk : Int))) := BX.out.cell (i := 2) rfl (rawB_get os_ sp_ kk (by omega)); have fgo : World.frozen? _ ⟨go, kk, none⟩ = false := BX.out.frozen (i := 2) rfl kk) | ((with_reducible refine gate_store (t := 4) (p := 67) rfl ?_); refine objs_store (w0 := w) (bs := [(g10, .cells #[.int .i64 (rd_T66 l0 (kk : Int)).f0, .int .i64 (rd_T66 l0 (kk : Int)).f1, .int .i64 (rd_T66 l0 (kk : Int)).f2, .int .i64 (rd_T66 l0 (kk : Int)).f3] 66 (0, 0)), (w5.heap.size, .map es_ ck_), (go, .cells (rawB (os_.set kk V_) sp_) 4 (0, 0))]) (W1 := World.setCell w11_ ⟨go, kk, none⟩ (.bool V_)) rfl rfl rfl ?hr (Objs.put (w0 := w) (b1 := [(g10, .cells #[.int .i64 (rd_T66 l0 (kk : Int)).f0, .int .i64 (rd_T66 l0 (kk : Int)).f1, .int .i64 (rd_T66 l0 (kk : Int)).f2, .int .i64 (rd_T66 l0 (kk : Int)).f3] 66 (0, 0)), (w5.heap.size, .map es_ ck_)]) (b2 := []) BX.out (kk) (.bool V_) (rawB_set os_ sp_ kk (by omega) V_)) ?_; (case hr => first | (go_simp; done) | (go_simp; rfl)); intro w12_ BY; have BY := Aside0.mk BY; clear BX; have BX := BY; clear BY; clear qg10_0 fqg10_0 qg10_1 fqg10_1 qg10_2 fqg10_2 qg10_3 fqg10_3 hk hA hB hN fgo; have qg10_0 : World.cell? _ ⟨g10, 0, none⟩ = some (.int .i64 (rd_T66 l0 (kk : Int)).f0) := BX.out.cell (i := 0) rfl (j := 0) rfl; have fqg10_0 : World.frozen? _ ⟨g10, 0, none⟩ = false := BX.out.frozen (i := 0) rfl 0; have qg10_1 : World.cell? _ ⟨g10, 1, none⟩ = some (.int .i64 (rd_T66 l0 (kk : Int)).f1) := BX.out.cell (i := 0) rfl (j := 1) rfl; have fqg10_1 : World.frozen? _ ⟨g10, 1, none⟩ = false := BX.out.frozen (i := 0) rfl 1; have qg10_2 : World.cell? _ ⟨g10, 2, none⟩ = some (.int .i64 (rd_T66 l0 (kk : Int)).f2) := BX.out.cell (i := 0) rfl (j := 2) rfl; have fqg10_2 : World.frozen? _ ⟨g10, 2, none⟩ = false := BX.out.frozen (i := 0) rfl 2; have qg10_3 : World.cell? _ ⟨g10, 3, none⟩ = some (.int .i64 (rd_T66 l0 (kk : Int)).f3) := BX.out.cell (i := 0) rfl (j := 3) rfl; have fqg10_3 : World.frozen? _ ⟨g10, 3, none⟩ = false := BX.out.frozen (i := 0) rfl 3; have hk : World.cell? _ (ad1.add kk) = some (.bool K_) := (BX.out.low.cell (World.block_lt_of_cell? w _ HK.out)).trans HK.out; have hN : World.cell? _ ⟨go, kk, none⟩ = some (.bool V_) := BX.out.cell (i := 2) rfl (rawB_at os_ sp_ kk (by omega) V_); have fgo : World.frozen? _ ⟨go, kk, none⟩ = false := BX.out.frozen (i := 2) rfl kk) | ((with_reducible refine gate_store (t := 4) (p := 126) rfl ?_); refine objs_store (w0 := w) (bs := [(g10, .cells #[.int .i64 (rd_T66 l0 (kk : Int)).f0, .int .i64 (rd_T66 l0 (kk : Int)).f1, .int .i64 (rd_T66 l0 (kk : Int)).f2, .int .i64 (rd_T66 l0 (kk : Int)).f3] 66 (0, 0)), (w5.heap.size, .map es_ ck_), (go, .cells (rawB ((os_.set kk V_).set kk (V_ || K_)) sp_) 4 (0, 0))]) (W1 := World.setCell w12_ ⟨go, kk, none⟩ (.bool (V_ || K_))) rfl rfl rfl ?hr (Objs.put (w0 := w) (b1 := [(g10, .cells #[.int .i64 (rd_T66 l0 (kk : Int)).f0, .int .i64 (rd_T66 l0 (kk : Int)).f1, .int .i64 (rd_T66 l0 (kk : Int)).f2, .int .i64 (rd_T66 l0 (kk : Int)).f3] 66 (0, 0)), (w5.heap.size, .map es_ ck_)]) (b2 := []) BX.out (kk) (.bool (V_ || K_)) (rawB_set (os_.set kk V_) sp_ kk (by rw [List.length_set]; omega) (V_ || K_))) ?_; (case hr => first | (go_simp; done) | (go_simp; rfl)); intro w13_ BY; have BY := Aside0.mk BY; clear BX; have BX := BY; clear BY; clear qg10_0 fqg10_0 qg10_1 fqg10_1 qg10_2 fqg10_2 qg10_3 fqg10_3 hk hN fgo; have qg10_0 : World.cell? _ ⟨g10, 0, none⟩ = some (.int .i64 (rd_T66 l0 (kk : Int)).f0) := BX.out.cell (i := 0) rfl (j := 0) rfl; have fqg10_0 : World.frozen? _ ⟨g10, 0, none⟩ = false := BX.out.frozen (i := 0) rfl 0; have qg10_1 : World.cell? _ ⟨g10, 1, none⟩ = some (.int .i64 (rd_T66 l0 (kk : Int)).f1) := BX.out.cell (i := 0) rfl (j := 1) rfl; have fqg10_1 : World.frozen? _ ⟨g10, 1, none⟩ = false := BX.out.frozen (i := 0) rfl 1; have qg10_2 : World.cell? _ ⟨g10, 2, none⟩ = some (.int .i64 (rd_T66 l0 (kk : Int)).f2) := BX.out.cell (i := 0) rfl (j := 2) rfl; have fqg10_2 : World.frozen? _ ⟨g10, 2, none⟩ = false := BX.out.frozen (i := 0) rfl 2; have qg10_3 : World.cell? _ ⟨g10, 3, none⟩ = some (.int .i64 (rd_T66 l0 (kk : Int)).f3) := BX.out.cell (i := 0) rfl (j := 3) rfl; have fqg10_3 : World.frozen? _ ⟨g10, 3, none⟩ = false := BX.out.frozen (i := 0) rfl 3) | fail)
                go_roundg (l0.length - (kk + 1))
                case measure => omega
                case rel => exact ⟨kk + 1, by omega, by omega, by go_num, ⟨BX.out.low⟩, ⟨(HS.out.same ((BX.out.at_ (i := 1) rfl).trans HM.out.symm)).imp (fun _ => rfl) (Nat.le_refl _)⟩, ⟨by rw [impl_makeable.l0, ← HOS.out, ← HVE.out, ← HKE.out]; have hR_ := R_of_raw hgo (BX.out.at_ (i := 2) rfl) (by simpa [hol] using HSP.out) hco; simpa [hol] using hR_⟩⟩)
            by_cases h6 : (rd_T66 l0 (kk : Int)).f0 = 6
            · have e1 : ((rd_T66 l0 (kk : Int)).f0 == 1) = false := by simp; omega
              have e3 : ((rd_T66 l0 (kk : Int)).f0 == 3) = false := by simp; omega
              have e4 : ((rd_T66 l0 (kk : Int)).f0 == 4) = false := by simp; omega
              have e5 : ((rd_T66 l0 (kk : Int)).f0 == 5) = false := by simp; omega
              have e6 : ((rd_T66 l0 (kk : Int)).f0 == 6) = true := by simp; omega
              have hA_ := hbo.1 (by omega)
              obtain ⟨a_, hav⟩ : ∃ b, rdOf false os_ (rd_T66 l0 (kk : Int)).f1 = b := ⟨_, rfl⟩
              have pA : (0 ≤ (rd_T66 l0 (kk : Int)).f1) = True := eq_true hA_.1
              have qA : ((rd_T66 l0 (kk : Int)).f1 < (l0.length : Int)) = True := eq_true hA_.2
              obtain ⟨V_, hV_⟩ : ∃ b, b = a_ := ⟨_, rfl⟩
              have HVE : Aside0 (V_ = impl_makeable.r (impl_makeable.s0 l0 l1 l0.length) os_ (kk : Int) (rd_T66 l0 (kk : Int))) := ⟨by rw [hV_, impl_makeable.r]; simp only [e1, e3, e4, e5, e6, cond_true, cond_false, Bool.or_false, Bool.false_or, hav]; try rfl⟩
              clear hbo
              have hp : (a_ = true) ∨ (a_ = false ∧ K_ = true) ∨ (a_ = false ∧ K_ = false) := by
                rcases Bool.eq_false_or_eq_true (a_) with av | av
                · exact .inl av
                · rcases Bool.eq_false_or_eq_true (K_) with kn | kn
                  · exact .inr (.inl ⟨av, kn⟩)
                  · exact .inr (.inr ⟨av, kn⟩)
              rcases hp with av | ⟨av, kn⟩ | ⟨av, kn⟩
              all_goals (
                go_wp2_with (first | ((with_reducible refine gate_dst (N := 10) rfl ?_); refine box_event ?hg (N := 10) ?hd (cs := #[.int .i64 0, .int .i64 0, .int .i64 0, .int .i64 0]) (t := 66) ?hr ?_; (case hd => rfl); (case hg => rfl); (case hr => first | (go_simp; done) | (go_simp; rfl)); intro g10 hg w10_ hbox hb; have BY := Aside0.mk (Objs.new (w0 := w) (bs := [(w5.heap.size, .map es_ ck_), (go, .cells (rawB os_ sp_) 4 (0, 0))]) (by (with_reducible repeat (first | refine Objs.drewN ?_ _ | refine Objs.drew ?_ | refine Objs.alloc ?_ _)); exact BX.out) hg hbox hb); clear BX hb hbox hg; have BX := BY; clear BY; have qg10_0 : World.cell? _ ⟨g10, 0, none⟩ = some (.int .i64 0) := BX.out.cell (i := 0) rfl (j := 0) rfl; have fqg10_0 : World.frozen? _ ⟨g10, 0, none⟩ = false := BX.out.frozen (i := 0) rfl 0; have qg10_1 : World.cell? _ ⟨g10, 1, none⟩ = some (.int .i64 0) := BX.out.cell (i := 0) rfl (j := 1) rfl; have fqg10_1 : World.frozen? _ ⟨g10, 1, none⟩ = false := BX.out.frozen (i := 0) rfl 1; have qg10_2 : World.cell? _ ⟨g10, 2, none⟩ = some (.int .i64 0) := BX.out.cell (i := 0) rfl (j := 2) rfl; have fqg10_2 : World.frozen? _ ⟨g10, 2, none⟩ = false := BX.out.frozen (i := 0) rfl 2; have qg10_3 : World.cell? _ ⟨g10, 3, none⟩ = some (.int .i64 0) := BX.out.cell (i := 0) rfl (j := 3) rfl; have fqg10_3 : World.frozen? _ ⟨g10, 3, none⟩ = false := BX.out.frozen (i := 0) rfl 3) | ((with_reducible refine gate_store (t := 66) (p := 10) rfl ?_); refine objs_store (w0 := w) (bs := [(g10, .cells #[.int .i64 (rd_T66 l0 (kk : Int)).f0, .int .i64 (rd_T66 l0 (kk : Int)).f1, .int .i64 (rd_T66 l0 (kk : Int)).f2, .int .i64 (rd_T66 l0 (kk : Int)).f3] 66 (0, 0)), (w5.heap.size, .map es_ ck_), (go, .cells (rawB os_ sp_) 4 (0, 0))]) (W1 := (((World.setCell w10_ ⟨g10, 0, none⟩ (.int .i64 (rd_T66 l0 (kk : Int)).f0)).setCell ⟨g10, 1, none⟩ (.int .i64 (rd_T66 l0 (kk : Int)).f1)).setCell ⟨g10, 2, none⟩ (.int .i64 (rd_T66 l0 (kk : Int)).f2)).setCell ⟨g10, 3, none⟩ (.int .i64 (rd_T66 l0 (kk : Int)).f3)) rfl rfl rfl ?hr ((((Objs.put (w0 := w) (b1 := []) (b2 := [(w5.heap.size, .map es_ ck_), (go, .cells (rawB os_ sp_) 4 (0, 0))]) BX.out 0 (.int .i64 (rd_T66 l0 (kk : Int)).f0) rfl).put (b1 := []) 1 (.int .i64 (rd_T66 l0 (kk : Int)).f1) rfl).put (b1 := []) 2 (.int .i64 (rd_T66 l0 (kk : Int)).f2) rfl).put (b1 := []) 3 (.int .i64 (rd_T66 l0 (kk : Int)).f3) rfl) ?_; (case hr => first | (go_simp; done) | (go_simp; rfl)); intro w11_ BY; have BY := Aside0.mk BY; clear BX; have BX := BY; clear BY; clear qg10_0 fqg10_0 qg10_1 fqg10_1 qg10_2 fqg10_2 qg10_3 fqg10_3; have qg10_0 : World.cell? _ ⟨g10, 0, none⟩ = some (.int .i64 (rd_T66 l0 (kk : Int)).f0) := BX.out.cell (i := 0) rfl (j := 0) rfl; have fqg10_0 : World.frozen? _ ⟨g10, 0, none⟩ = false := BX.out.frozen (i := 0) rfl 0; have qg10_1 : World.cell? _ ⟨g10, 1, none⟩ = some (.int .i64 (rd_T66 l0 (kk : Int)).f1) := BX.out.cell (i := 0) rfl (j := 1) rfl; have fqg10_1 : World.frozen? _ ⟨g10, 1, none⟩ = false := BX.out.frozen (i := 0) rfl 1; have qg10_2 : World.cell? _ ⟨g10, 2, none⟩ = some (.int .i64 (rd_T66 l0 (kk : Int)).f2) := BX.out.cell (i := 0) rfl (j := 2) rfl; have fqg10_2 : World.frozen? _ ⟨g10, 2, none⟩ = false := BX.out.frozen (i := 0) rfl 2; have qg10_3 : World.cell? _ ⟨g10, 3, none⟩ = some (.int .i64 (rd_T66 l0 (kk : Int)).f3) := BX.out.cell (i := 0) rfl (j := 3) rfl; have fqg10_3 : World.frozen? _ ⟨g10, 3, none⟩ = false := BX.out.frozen (i := 0) rfl 3; have hk : World.cell? _ (ad1.add kk) = some (.bool K_) := (BX.out.low.cell (World.block_lt_of_cell? w _ HK.out)).trans HK.out; have hA : World.cell? _ ⟨go, ((rd_T66 l0 (kk : Int)).f1).toNat, none⟩ = some (.bool a_) := BX.out.cell (i := 2) rfl ((rawB_get' os_ sp_ (rd_T66 l0 (kk : Int)).f1 hA_.1 (by omega)).trans (by rw [hav])); have hN : World.cell? _ ⟨go, kk, none⟩ = some (.bool (rdOf false os_ (kk : Int))) := BX.out.cell (i := 2) rfl (rawB_get os_ sp_ kk (by omega)); have fgo : World.frozen? _ ⟨go, kk, none⟩ = false := BX.out.frozen (i := 2) rfl kk) | ((with_reducible refine gate_store (t := 4) (p := 77) rfl ?_); refine objs_store (w0 := w) (bs := [(g10, .cells #[.int .i64 (rd_T66 l0 (kk : Int)).f0, .int .i64 (rd_T66 l0 (kk : Int)).f1, .int .i64 (rd_T66 l0 (kk : Int)).f2, .int .i64 (rd_T66 l0 (kk : Int)).f3] 66 (0, 0)), (w5.heap.size, .map es_ ck_), (go, .cells (rawB (os_.set kk V_) sp_) 4 (0, 0))]) (W1 := World.setCell w11_ ⟨go, kk, none⟩ (.bool V_)) rfl rfl rfl ?hr (Objs.put (w0 := w) (b1 := [(g10, .cells #[.int .i64 (rd_T66 l0 (kk : Int)).f0, .int .i64 (rd_T66 l0 (kk : Int)).f1, .int .i64 (rd_T66 l0 (kk : Int)).f2, .int .i64 (rd_T66 l0 (kk : Int)).f3] 66 (0, 0)), (w5.heap.size, .map es_ ck_)]) (b2 := []) BX.out (kk) (.bool V_) (rawB_set os_ sp_ kk (by omega) V_)) ?_; (case hr => first | (go_simp; done) | (go_simp; rfl)); intro w12_ BY; have BY := Aside0.mk BY; clear BX; have BX := BY; clear BY; clear qg10_0 fqg10_0 qg10_1 fqg10_1 qg10_2 fqg10_2 qg10_3 fqg10_3 hk hA hN fgo; have qg10_0 : World.cell? _ ⟨g10, 0, none⟩ = some (.int .i64 (rd_T66 l0 (kk : Int)).f0) := BX.out.cell (i := 0) rfl (j := 0) rfl; have fqg10_0 : World.frozen? _ ⟨g10, 0, none⟩ = false := BX.out.frozen (i := 0) rfl 0; have qg10_1 : World.cell? _ ⟨g10, 1, none⟩ = some (.int .i64 (rd_T66 l0 (kk : Int)).f1) := BX.out.cell (i := 0) rfl (j := 1) rfl; have fqg10_1 : World.frozen? _ ⟨g10, 1, none⟩ = false := BX.out.frozen (i := 0) rfl 1; have qg10_2 : World.cell? _ ⟨g10, 2, none⟩ = some (.int .i64 (rd_T66 l0 (kk : Int)).f2) := BX.out.cell (i := 0) rfl (j := 2) rfl; have fqg10_2 : World.frozen? _ ⟨g10, 2, none⟩ = false := BX.out.frozen (i := 0) rfl 2; have qg10_3 : World.cell? _ ⟨g10, 3, none⟩ = some (.int .i64 (rd_T66 l0 (kk : Int)).f3) := BX.out.cell (i := 0) rfl (j := 3) rfl; have fqg10_3 : World.frozen? _ ⟨g10, 3, none⟩ = false := BX.out.frozen (i := 0) rfl 3; have hk : World.cell? _ (ad1.add kk) = some (.bool K_) := (BX.out.low.cell (World.block_lt_of_cell? w _ HK.out)).trans HK.out; have hN : World.cell? _ ⟨go, kk, none⟩ = some (.bool V_) := BX.out.cell (i := 2) rfl (rawB_at os_ sp_ kk (by omega) V_); have fgo : World.frozen? _ ⟨go, kk, none⟩ = false := BX.out.frozen (i := 2) rfl kk) | ((with_reducible refine gate_store (t := 4) (p := 126) rfl ?_); refine objs_store (w0 := w) (bs := [(g10, .cells #[.int .i64 (rd_T66 l0 (kk : Int)).f0, .int .i64 (rd_T66 l0 (kk : Int)).f1, .int .i64 (rd_T66 l0 (kk : Int)).f2, .int .i64 (rd_T66 l0 (kk : Int)).f3] 66 (0, 0)), (w5.heap.size, .map es_ ck_), (go, .cells (rawB ((os_.set kk V_).set kk (V_ || K_)) sp_) 4 (0, 0))]) (W1 := World.setCell w12_ ⟨go, kk, none⟩ (.bool (V_ || K_))) rfl rfl rfl ?hr (Objs.put (w0 := w) (b1 := [(g10, .cells #[.int .i64 (rd_T66 l0 (kk : Int)).f0, .int .i64 (rd_T66 l0 (kk : Int)).f1, .int .i64 (rd_T66 l0 (kk : Int)).f2, .int .i64 (rd_T66 l0 (kk : Int)).f3] 66 (0, 0)), (w5.heap.size, .map es_ ck_)]) (b2 := []) BX.out (kk) (.bool (V_ || K_)) (rawB_set (os_.set kk V_) sp_ kk (by rw [List.length_set]; omega) (V_ || K_))) ?_; (case hr => first | (go_simp; done) | (go_simp; rfl)); intro w13_ BY; have BY := Aside0.mk BY; clear BX; have BX := BY; clear BY; clear qg10_0 fqg10_0 qg10_1 fqg10_1 qg10_2 fqg10_2 qg10_3 fqg10_3 hk hN fgo; have qg10_0 : World.cell? _ ⟨g10, 0, none⟩ = some (.int .i64 (rd_T66 l0 (kk : Int)).f0) := BX.out.cell (i := 0) rfl (j := 0) rfl; have fqg10_0 : World.frozen? _ ⟨g10, 0, none⟩ = false := BX.out.frozen (i := 0) rfl 0; have qg10_1 : World.cell? _ ⟨g10, 1, none⟩ = some (.int .i64 (rd_T66 l0 (kk : Int)).f1) := BX.out.cell (i := 0) rfl (j := 1) rfl; have fqg10_1 : World.frozen? _ ⟨g10, 1, none⟩ = false := BX.out.frozen (i := 0) rfl 1; have qg10_2 : World.cell? _ ⟨g10, 2, none⟩ = some (.int .i64 (rd_T66 l0 (kk : Int)).f2) := BX.out.cell (i := 0) rfl (j := 2) rfl; have fqg10_2 : World.frozen? _ ⟨g10, 2, none⟩ = false := BX.out.frozen (i := 0) rfl 2; have qg10_3 : World.cell? _ ⟨g10, 3, none⟩ = some (.int .i64 (rd_T66 l0 (kk : Int)).f3) := BX.out.cell (i := 0) rfl (j := 3) rfl; have fqg10_3 : World.frozen? _ ⟨g10, 3, none⟩ = false := BX.out.frozen (i := 0) rfl 3) | fail)
                go_roundg (l0.length - (kk + 1))
                case measure => omega
                case rel => exact ⟨kk + 1, by omega, by omega, by go_num, ⟨BX.out.low⟩, ⟨(HS.out.same ((BX.out.at_ (i := 1) rfl).trans HM.out.symm)).imp (fun _ => rfl) (Nat.le_refl _)⟩, ⟨by rw [impl_makeable.l0, ← HOS.out, ← HVE.out, ← HKE.out]; have hR_ := R_of_raw hgo (BX.out.at_ (i := 2) rfl) (by simpa [hol] using HSP.out) hco; simpa [hol] using hR_⟩⟩)
            by_cases h7 : (rd_T66 l0 (kk : Int)).f0 = 7
            · have e1 : ((rd_T66 l0 (kk : Int)).f0 == 1) = false := by simp; omega
              have e3 : ((rd_T66 l0 (kk : Int)).f0 == 3) = false := by simp; omega
              have e4 : ((rd_T66 l0 (kk : Int)).f0 == 4) = false := by simp; omega
              have e5 : ((rd_T66 l0 (kk : Int)).f0 == 5) = false := by simp; omega
              have e6 : ((rd_T66 l0 (kk : Int)).f0 == 6) = false := by simp; omega
              have e7 : ((rd_T66 l0 (kk : Int)).f0 == 7) = true := by simp; omega
              have hA_ := hbo.1 (by omega)
              have hB_ := hbo.2 (by omega)
              obtain ⟨a_, hav⟩ : ∃ b, rdOf false os_ (rd_T66 l0 (kk : Int)).f1 = b := ⟨_, rfl⟩
              have pA : (0 ≤ (rd_T66 l0 (kk : Int)).f1) = True := eq_true hA_.1
              have qA : ((rd_T66 l0 (kk : Int)).f1 < (l0.length : Int)) = True := eq_true hA_.2
              obtain ⟨b_, hbv⟩ : ∃ b, rdOf false os_ (rd_T66 l0 (kk : Int)).f2 = b := ⟨_, rfl⟩
              have pB : (0 ≤ (rd_T66 l0 (kk : Int)).f2) = True := eq_true hB_.1
              have qB : ((rd_T66 l0 (kk : Int)).f2 < (l0.length : Int)) = True := eq_true hB_.2
              obtain ⟨sA_, hsa⟩ : ∃ b, decide ((rd_T66 l0 (kk : Int)).f1 ∈ impl_makeable.s0 l0 l1 l0.length) = b := ⟨_, rfl⟩
              obtain ⟨sB_, hsb⟩ : ∃ b, decide ((rd_T66 l0 (kk : Int)).f2 ∈ impl_makeable.s0 l0 l1 l0.length) = b := ⟨_, rfl⟩
              have hka : 0 ≤ (rd_T66 l0 (kk : Int)).f1 ∧ (rd_T66 l0 (kk : Int)).f1 < 400 := ⟨hA_.1, by omega⟩
              have hkb : 0 ≤ (rd_T66 l0 (kk : Int)).f2 ∧ (rd_T66 l0 (kk : Int)).f2 < 400 := ⟨hB_.1, by omega⟩
              obtain ⟨V_, hV_⟩ : ∃ b, b = ((a_ && (b_ || sB_)) || (b_ && sA_)) := ⟨_, rfl⟩
              have HVE : Aside0 (V_ = impl_makeable.r (impl_makeable.s0 l0 l1 l0.length) os_ (kk : Int) (rd_T66 l0 (kk : Int))) := ⟨by rw [hV_, impl_makeable.r]; simp only [e1, e3, e4, e5, e6, e7, cond_true, cond_false, Bool.or_false, Bool.false_or, hav, hbv, hsa, hsb]; try rfl⟩
              clear hbo
              have hp : (a_ = true ∧ b_ = true) ∨ (a_ = true ∧ b_ = false ∧ sB_ = true) ∨ (a_ = true ∧ b_ = false ∧ sB_ = false ∧ K_ = true) ∨ (a_ = true ∧ b_ = false ∧ sB_ = false ∧ K_ = false) ∨ (a_ = false ∧ b_ = true ∧ sA_ = true) ∨ (a_ = false ∧ b_ = true ∧ sA_ = false ∧ K_ = true) ∨ (a_ = false ∧ b_ = true ∧ sA_ = false ∧ K_ = false) ∨ (a_ = false ∧ b_ = false ∧ K_ = true) ∨ (a_ = false ∧ b_ = false ∧ K_ = false) := by
                rcases Bool.eq_false_or_eq_true (a_) with av | av
                · rcases Bool.eq_false_or_eq_true (b_) with bv | bv
                  · exact .inl ⟨av, bv⟩
                  · rcases Bool.eq_false_or_eq_true (sB_) with sbv | sbv
                    · exact .inr (.inl ⟨av, bv, sbv⟩)
                    · rcases Bool.eq_false_or_eq_true (K_) with kn | kn
                      · exact .inr (.inr (.inl ⟨av, bv, sbv, kn⟩))
                      · exact .inr (.inr (.inr (.inl ⟨av, bv, sbv, kn⟩)))
                · rcases Bool.eq_false_or_eq_true (b_) with bv | bv
                  · rcases Bool.eq_false_or_eq_true (sA_) with sav | sav
                    · exact .inr (.inr (.inr (.inr (.inl ⟨av, bv, sav⟩))))
                    · rcases Bool.eq_false_or_eq_true (K_) with kn | kn
                      · exact .inr (.inr (.inr (.inr (.inr (.inl ⟨av, bv, sav, kn⟩)))))
                      · exact .inr (.inr (.inr (.inr (.inr (.inr (.inl ⟨av, bv, sav, kn⟩))))))
                  · rcases Bool.eq_false_or_eq_true (K_) with kn | kn
                    · exact .inr (.inr (.inr (.inr (.inr (.inr (.inr (.inl ⟨av, bv, kn⟩)))))))
                    · exact .inr (.inr (.inr (.inr (.inr (.inr (.inr (.inr ⟨av, bv, kn⟩)))))))
              rcases hp with ⟨av, bv⟩ | ⟨av, bv, sbv⟩ | ⟨av, bv, sbv, kn⟩ | ⟨av, bv, sbv, kn⟩ | ⟨av, bv, sav⟩ | ⟨av, bv, sav, kn⟩ | ⟨av, bv, sav, kn⟩ | ⟨av, bv, kn⟩ | ⟨av, bv, kn⟩
              all_goals (
                go_wp2_with (first | ((with_reducible refine gate_dst (N := 10) rfl ?_); refine box_event ?hg (N := 10) ?hd (cs := #[.int .i64 0, .int .i64 0, .int .i64 0, .int .i64 0]) (t := 66) ?hr ?_; (case hd => rfl); (case hg => rfl); (case hr => first | (go_simp; done) | (go_simp; rfl)); intro g10 hg w10_ hbox hb; have BY := Aside0.mk (Objs.new (w0 := w) (bs := [(w5.heap.size, .map es_ ck_), (go, .cells (rawB os_ sp_) 4 (0, 0))]) (by (with_reducible repeat (first | refine Objs.drewN ?_ _ | refine Objs.drew ?_ | refine Objs.alloc ?_ _)); exact BX.out) hg hbox hb); clear BX hb hbox hg; have BX := BY; clear BY; have qg10_0 : World.cell? _ ⟨g10, 0, none⟩ = some (.int .i64 0) := BX.out.cell (i := 0) rfl (j := 0) rfl; have fqg10_0 : World.frozen? _ ⟨g10, 0, none⟩ = false := BX.out.frozen (i := 0) rfl 0; have qg10_1 : World.cell? _ ⟨g10, 1, none⟩ = some (.int .i64 0) := BX.out.cell (i := 0) rfl (j := 1) rfl; have fqg10_1 : World.frozen? _ ⟨g10, 1, none⟩ = false := BX.out.frozen (i := 0) rfl 1; have qg10_2 : World.cell? _ ⟨g10, 2, none⟩ = some (.int .i64 0) := BX.out.cell (i := 0) rfl (j := 2) rfl; have fqg10_2 : World.frozen? _ ⟨g10, 2, none⟩ = false := BX.out.frozen (i := 0) rfl 2; have qg10_3 : World.cell? _ ⟨g10, 3, none⟩ = some (.int .i64 0) := BX.out.cell (i := 0) rfl (j := 3) rfl; have fqg10_3 : World.frozen? _ ⟨g10, 3, none⟩ = false := BX.out.frozen (i := 0) rfl 3) | ((with_reducible refine gate_store (t := 66) (p := 10) rfl ?_); refine objs_store (w0 := w) (bs := [(g10, .cells #[.int .i64 (rd_T66 l0 (kk : Int)).f0, .int .i64 (rd_T66 l0 (kk : Int)).f1, .int .i64 (rd_T66 l0 (kk : Int)).f2, .int .i64 (rd_T66 l0 (kk : Int)).f3] 66 (0, 0)), (w5.heap.size, .map es_ ck_), (go, .cells (rawB os_ sp_) 4 (0, 0))]) (W1 := (((World.setCell w10_ ⟨g10, 0, none⟩ (.int .i64 (rd_T66 l0 (kk : Int)).f0)).setCell ⟨g10, 1, none⟩ (.int .i64 (rd_T66 l0 (kk : Int)).f1)).setCell ⟨g10, 2, none⟩ (.int .i64 (rd_T66 l0 (kk : Int)).f2)).setCell ⟨g10, 3, none⟩ (.int .i64 (rd_T66 l0 (kk : Int)).f3)) rfl rfl rfl ?hr ((((Objs.put (w0 := w) (b1 := []) (b2 := [(w5.heap.size, .map es_ ck_), (go, .cells (rawB os_ sp_) 4 (0, 0))]) BX.out 0 (.int .i64 (rd_T66 l0 (kk : Int)).f0) rfl).put (b1 := []) 1 (.int .i64 (rd_T66 l0 (kk : Int)).f1) rfl).put (b1 := []) 2 (.int .i64 (rd_T66 l0 (kk : Int)).f2) rfl).put (b1 := []) 3 (.int .i64 (rd_T66 l0 (kk : Int)).f3) rfl) ?_; (case hr => first | (go_simp; done) | (go_simp; rfl)); intro w11_ BY; have BY := Aside0.mk BY; clear BX; have BX := BY; clear BY; clear qg10_0 fqg10_0 qg10_1 fqg10_1 qg10_2 fqg10_2 qg10_3 fqg10_3; have qg10_0 : World.cell? _ ⟨g10, 0, none⟩ = some (.int .i64 (rd_T66 l0 (kk : Int)).f0) := BX.out.cell (i := 0) rfl (j := 0) rfl; have fqg10_0 : World.frozen? _ ⟨g10, 0, none⟩ = false := BX.out.frozen (i := 0) rfl 0; have qg10_1 : World.cell? _ ⟨g10, 1, none⟩ = some (.int .i64 (rd_T66 l0 (kk : Int)).f1) := BX.out.cell (i := 0) rfl (j := 1) rfl; have fqg10_1 : World.frozen? _ ⟨g10, 1, none⟩ = false := BX.out.frozen (i := 0) rfl 1; have qg10_2 : World.cell? _ ⟨g10, 2, none⟩ = some (.int .i64 (rd_T66 l0 (kk : Int)).f2) := BX.out.cell (i := 0) rfl (j := 2) rfl; have fqg10_2 : World.frozen? _ ⟨g10, 2, none⟩ = false := BX.out.frozen (i := 0) rfl 2; have qg10_3 : World.cell? _ ⟨g10, 3, none⟩ = some (.int .i64 (rd_T66 l0 (kk : Int)).f3) := BX.out.cell (i := 0) rfl (j := 3) rfl; have fqg10_3 : World.frozen? _ ⟨g10, 3, none⟩ = false := BX.out.frozen (i := 0) rfl 3; have hk : World.cell? _ (ad1.add kk) = some (.bool K_) := (BX.out.low.cell (World.block_lt_of_cell? w _ HK.out)).trans HK.out; have hA : World.cell? _ ⟨go, ((rd_T66 l0 (kk : Int)).f1).toNat, none⟩ = some (.bool a_) := BX.out.cell (i := 2) rfl ((rawB_get' os_ sp_ (rd_T66 l0 (kk : Int)).f1 hA_.1 (by omega)).trans (by rw [hav])); have hB : World.cell? _ ⟨go, ((rd_T66 l0 (kk : Int)).f2).toNat, none⟩ = some (.bool b_) := BX.out.cell (i := 2) rfl ((rawB_get' os_ sp_ (rd_T66 l0 (kk : Int)).f2 hB_.1 (by omega)).trans (by rw [hbv])); have hN : World.cell? _ ⟨go, kk, none⟩ = some (.bool (rdOf false os_ (kk : Int))) := BX.out.cell (i := 2) rfl (rawB_get os_ sp_ kk (by omega)); have fgo : World.frozen? _ ⟨go, kk, none⟩ = false := BX.out.frozen (i := 2) rfl kk; have hlB : (Instr.lookup 103 (.map (some w5.heap.size)) (.int .i64 (rd_T66 l0 (kk : Int)).f2) false).run Try.prog w11_ = .ok (.bool sB_) w11_ := (HS.out.same ((BX.out.at_ (i := 1) rfl).trans HM.out.symm)).looks keyedI_ Try.underlying103 Try.underlying4 (zeroBm_ _) (keyI_ hkb) hsb; have hlA : (Instr.lookup 103 (.map (some w5.heap.size)) (.int .i64 (rd_T66 l0 (kk : Int)).f1) false).run Try.prog w11_ = .ok (.bool sA_) w11_ := (HS.out.same ((BX.out.at_ (i := 1) rfl).trans HM.out.symm)).looks keyedI_ Try.underlying103 Try.underlying4 (zeroBm_ _) (keyI_ hka) hsa) | ((with_reducible refine gate_store (t := 4) (p := 113) rfl ?_); refine objs_store (w0 := w) (bs := [(g10, .cells #[.int .i64 (rd_T66 l0 (kk : Int)).f0, .int .i64 (rd_T66 l0 (kk : Int)).f1, .int .i64 (rd_T66 l0 (kk : Int)).f2, .int .i64 (rd_T66 l0 (kk : Int)).f3] 66 (0, 0)), (w5.heap.size, .map es_ ck_), (go, .cells (rawB (os_.set kk V_) sp_) 4 (0, 0))]) (W1 := World.setCell w11_ ⟨go, kk, none⟩ (.bool V_)) rfl rfl rfl ?hr (Objs.put (w0 := w) (b1 := [(g10, .cells #[.int .i64 (rd_T66 l0 (kk : Int)).f0, .int .i64 (rd_T66 l0 (kk : Int)).f1, .int .i64 (rd_T66 l0 (kk : Int)).f2, .int .i64 (rd_T66 l0 (kk : Int)).f3] 66 (0, 0)), (w5.heap.size, .map es_ ck_)]) (b2 := []) BX.out (kk) (.bool V_) (rawB_set os_ sp_ kk (by omega) V_)) ?_; (case hr => first | (go_simp; done) | (go_simp; rfl)); intro w12_ BY; have BY := Aside0.mk BY; clear BX; have BX := BY; clear BY; clear qg10_0 fqg10_0 qg10_1 fqg10_1 qg10_2 fqg10_2 qg10_3 fqg10_3 hk hA hB hN fgo hlB hlA; have qg10_0 : World.cell? _ ⟨g10, 0, none⟩ = some (.int .i64 (rd_T66 l0 (kk : Int)).f0) := BX.out.cell (i := 0) rfl (j := 0) rfl; have fqg10_0 : World.frozen? _ ⟨g10, 0, none⟩ = false := BX.out.frozen (i := 0) rfl 0; have qg10_1 : World.cell? _ ⟨g10, 1, none⟩ = some (.int .i64 (rd_T66 l0 (kk : Int)).f1) := BX.out.cell (i := 0) rfl (j := 1) rfl; have fqg10_1 : World.frozen? _ ⟨g10, 1, none⟩ = false := BX.out.frozen (i := 0) rfl 1; have qg10_2 : World.cell? _ ⟨g10, 2, none⟩ = some (.int .i64 (rd_T66 l0 (kk : Int)).f2) := BX.out.cell (i := 0) rfl (j := 2) rfl; have fqg10_2 : World.frozen? _ ⟨g10, 2, none⟩ = false := BX.out.frozen (i := 0) rfl 2; have qg10_3 : World.cell? _ ⟨g10, 3, none⟩ = some (.int .i64 (rd_T66 l0 (kk : Int)).f3) := BX.out.cell (i := 0) rfl (j := 3) rfl; have fqg10_3 : World.frozen? _ ⟨g10, 3, none⟩ = false := BX.out.frozen (i := 0) rfl 3; have hk : World.cell? _ (ad1.add kk) = some (.bool K_) := (BX.out.low.cell (World.block_lt_of_cell? w _ HK.out)).trans HK.out; have hN : World.cell? _ ⟨go, kk, none⟩ = some (.bool V_) := BX.out.cell (i := 2) rfl (rawB_at os_ sp_ kk (by omega) V_); have fgo : World.frozen? _ ⟨go, kk, none⟩ = false := BX.out.frozen (i := 2) rfl kk) | ((with_reducible refine gate_store (t := 4) (p := 126) rfl ?_); refine objs_store (w0 := w) (bs := [(g10, .cells #[.int .i64 (rd_T66 l0 (kk : Int)).f0, .int .i64 (rd_T66 l0 (kk : Int)).f1, .int .i64 (rd_T66 l0 (kk : Int)).f2, .int .i64 (rd_T66 l0 (kk : Int)).f3] 66 (0, 0)), (w5.heap.size, .map es_ ck_), (go, .cells (rawB ((os_.set kk V_).set kk (V_ || K_)) sp_) 4 (0, 0))]) (W1 := World.setCell w12_ ⟨go, kk, none⟩ (.bool (V_ || K_))) rfl rfl rfl ?hr (Objs.put (w0 := w) (b1 := [(g10, .cells #[.int .i64 (rd_T66 l0 (kk : Int)).f0, .int .i64 (rd_T66 l0 (kk : Int)).f1, .int .i64 (rd_T66 l0 (kk : Int)).f2, .int .i64 (rd_T66 l0 (kk : Int)).f3] 66 (0, 0)), (w5.heap.size, .map es_ ck_)]) (b2 := []) BX.out (kk) (.bool (V_ || K_)) (rawB_set (os_.set kk V_) sp_ kk (by rw [List.length_set]; omega) (V_ || K_))) ?_; (case hr => first | (go_simp; done) | (go_simp; rfl)); intro w13_ BY; have BY := Aside0.mk BY; clear BX; have BX := BY; clear BY; clear qg10_0 fqg10_0 qg10_1 fqg10_1 qg10_2 fqg10_2 qg10_3 fqg10_3 hk hN fgo; have qg10_0 : World.cell? _ ⟨g10, 0, none⟩ = some (.int .i64 (rd_T66 l0 (kk : Int)).f0) := BX.out.cell (i := 0) rfl (j := 0) rfl; have fqg10_0 : World.frozen? _ ⟨g10, 0, none⟩ = false := BX.out.frozen (i := 0) rfl 0; have qg10_1 : World.cell? _ ⟨g10, 1, none⟩ = some (.int .i64 (rd_T66 l0 (kk : Int)).f1) := BX.out.cell (i := 0) rfl (j := 1) rfl; have fqg10_1 : World.frozen? _ ⟨g10, 1, none⟩ = false := BX.out.frozen (i := 0) rfl 1; have qg10_2 : World.cell? _ ⟨g10, 2, none⟩ = some (.int .i64 (rd_T66 l0 (kk : Int)).f2) := BX.out.cell (i := 0) rfl (j := 2) rfl; have fqg10_2 : World.frozen? _ ⟨g10, 2, none⟩ = false := BX.out.frozen (i := 0) rfl 2; have qg10_3 : World.cell? _ ⟨g10, 3, none⟩ = some (.int .i64 (rd_T66 l0 (kk : Int)).f3) := BX.out.cell (i := 0) rfl (j := 3) rfl; have fqg10_3 : World.frozen? _ ⟨g10, 3, none⟩ = false := BX.out.frozen (i := 0) rfl 3) | fail)
                go_roundg (l0.length - (kk + 1))
                case measure => omega
                case rel => exact ⟨kk + 1, by omega, by omega, by go_num, ⟨BX.out.low⟩, ⟨(HS.out.same ((BX.out.at_ (i := 1) rfl).trans HM.out.symm)).imp (fun _ => rfl) (Nat.le_refl _)⟩, ⟨by rw [impl_makeable.l0, ← HOS.out, ← HVE.out, ← HKE.out]; have hR_ := R_of_raw hgo (BX.out.at_ (i := 2) rfl) (by simpa [hol] using HSP.out) hco; simpa [hol] using hR_⟩⟩)
            · have e1 : ((rd_T66 l0 (kk : Int)).f0 == 1) = false := by simp; omega
              have e3 : ((rd_T66 l0 (kk : Int)).f0 == 3) = false := by simp; omega
              have e4 : ((rd_T66 l0 (kk : Int)).f0 == 4) = false := by simp; omega
              have e5 : ((rd_T66 l0 (kk : Int)).f0 == 5) = false := by simp; omega
              have e6 : ((rd_T66 l0 (kk : Int)).f0 == 6) = false := by simp; omega
              have e7 : ((rd_T66 l0 (kk : Int)).f0 == 7) = false := by simp; omega
              obtain ⟨o_, hov⟩ : ∃ b, rdOf false os_ (kk : Int) = b := ⟨_, rfl⟩
              obtain ⟨V_, hV_⟩ : ∃ b, b = o_ := ⟨_, rfl⟩
              have HVE : Aside0 (V_ = impl_makeable.r (impl_makeable.s0 l0 l1 l0.length) os_ (kk : Int) (rd_T66 l0 (kk : Int))) := ⟨by rw [hV_, impl_makeable.r]; simp only [e1, e3, e4, e5, e6, e7, cond_true, cond_false, Bool.or_false, Bool.false_or, hov]; try rfl⟩
              clear hbo
              have hp : (o_ = true) ∨ (o_ = false ∧ K_ = true) ∨ (o_ = false ∧ K_ = false) := by
                rcases Bool.eq_false_or_eq_true (o_) with ov | ov
                · exact .inl ov
                · rcases Bool.eq_false_or_eq_true (K_) with kn | kn
                  · exact .inr (.inl ⟨ov, kn⟩)
                  · exact .inr (.inr ⟨ov, kn⟩)
              rcases hp with ov | ⟨ov, kn⟩ | ⟨ov, kn⟩
              all_goals (
                go_wp2_with (first | ((with_reducible refine gate_dst (N := 10) rfl ?_); refine box_event ?hg (N := 10) ?hd (cs := #[.int .i64 0, .int .i64 0, .int .i64 0, .int .i64 0]) (t := 66) ?hr ?_; (case hd => rfl); (case hg => rfl); (case hr => first | (go_simp; done) | (go_simp; rfl)); intro g10 hg w10_ hbox hb; have BY := Aside0.mk (Objs.new (w0 := w) (bs := [(w5.heap.size, .map es_ ck_), (go, .cells (rawB os_ sp_) 4 (0, 0))]) (by (with_reducible repeat (first | refine Objs.drewN ?_ _ | refine Objs.drew ?_ | refine Objs.alloc ?_ _)); exact BX.out) hg hbox hb); clear BX hb hbox hg; have BX := BY; clear BY; have qg10_0 : World.cell? _ ⟨g10, 0, none⟩ = some (.int .i64 0) := BX.out.cell (i := 0) rfl (j := 0) rfl; have fqg10_0 : World.frozen? _ ⟨g10, 0, none⟩ = false := BX.out.frozen (i := 0) rfl 0; have qg10_1 : World.cell? _ ⟨g10, 1, none⟩ = some (.int .i64 0) := BX.out.cell (i := 0) rfl (j := 1) rfl; have fqg10_1 : World.frozen? _ ⟨g10, 1, none⟩ = false := BX.out.frozen (i := 0) rfl 1; have qg10_2 : World.cell? _ ⟨g10, 2, none⟩ = some (.int .i64 0) := BX.out.cell (i := 0) rfl (j := 2) rfl; have fqg10_2 : World.frozen? _ ⟨g10, 2, none⟩ = false := BX.out.frozen (i := 0) rfl 2; have qg10_3 : World.cell? _ ⟨g10, 3, none⟩ = some (.int .i64 0) := BX.out.cell (i := 0) rfl (j := 3) rfl; have fqg10_3 : World.frozen? _ ⟨g10, 3, none⟩ = false := BX.out.frozen (i := 0) rfl 3) | ((with_reducible refine gate_store (t := 66) (p := 10) rfl ?_); refine objs_store (w0 := w) (bs := [(g10, .cells #[.int .i64 (rd_T66 l0 (kk : Int)).f0, .int .i64 (rd_T66 l0 (kk : Int)).f1, .int .i64 (rd_T66 l0 (kk : Int)).f2, .int .i64 (rd_T66 l0 (kk : Int)).f3] 66 (0, 0)), (w5.heap.size, .map es_ ck_), (go, .cells (rawB os_ sp_) 4 (0, 0))]) (W1 := (((World.setCell w10_ ⟨g10, 0, none⟩ (.int .i64 (rd_T66 l0 (kk : Int)).f0)).setCell ⟨g10, 1, none⟩ (.int .i64 (rd_T66 l0 (kk : Int)).f1)).setCell ⟨g10, 2, none⟩ (.int .i64 (rd_T66 l0 (kk : Int)).f2)).setCell ⟨g10, 3, none⟩ (.int .i64 (rd_T66 l0 (kk : Int)).f3)) rfl rfl rfl ?hr ((((Objs.put (w0 := w) (b1 := []) (b2 := [(w5.heap.size, .map es_ ck_), (go, .cells (rawB os_ sp_) 4 (0, 0))]) BX.out 0 (.int .i64 (rd_T66 l0 (kk : Int)).f0) rfl).put (b1 := []) 1 (.int .i64 (rd_T66 l0 (kk : Int)).f1) rfl).put (b1 := []) 2 (.int .i64 (rd_T66 l0 (kk : Int)).f2) rfl).put (b1 := []) 3 (.int .i64 (rd_T66 l0 (kk : Int)).f3) rfl) ?_; (case hr => first | (go_simp; done) | (go_simp; rfl)); intro w11_ BY; have BY := Aside0.mk BY; clear BX; have BX := BY; clear BY; clear qg10_0 fqg10_0 qg10_1 fqg10_1 qg10_2 fqg10_2 qg10_3 fqg10_3; have qg10_0 : World.cell? _ ⟨g10, 0, none⟩ = some (.int .i64 (rd_T66 l0 (kk : Int)).f0) := BX.out.cell (i := 0) rfl (j := 0) rfl; have fqg10_0 : World.frozen? _ ⟨g10, 0, none⟩ = false := BX.out.frozen (i := 0) rfl 0; have qg10_1 : World.cell? _ ⟨g10, 1, none⟩ = some (.int .i64 (rd_T66 l0 (kk : Int)).f1) := BX.out.cell (i := 0) rfl (j := 1) rfl; have fqg10_1 : World.frozen? _ ⟨g10, 1, none⟩ = false := BX.out.frozen (i := 0) rfl 1; have qg10_2 : World.cell? _ ⟨g10, 2, none⟩ = some (.int .i64 (rd_T66 l0 (kk : Int)).f2) := BX.out.cell (i := 0) rfl (j := 2) rfl; have fqg10_2 : World.frozen? _ ⟨g10, 2, none⟩ = false := BX.out.frozen (i := 0) rfl 2; have qg10_3 : World.cell? _ ⟨g10, 3, none⟩ = some (.int .i64 (rd_T66 l0 (kk : Int)).f3) := BX.out.cell (i := 0) rfl (j := 3) rfl; have fqg10_3 : World.frozen? _ ⟨g10, 3, none⟩ = false := BX.out.frozen (i := 0) rfl 3; have hk : World.cell? _ (ad1.add kk) = some (.bool K_) := (BX.out.low.cell (World.block_lt_of_cell? w _ HK.out)).trans HK.out; have hN : World.cell? _ ⟨go, kk, none⟩ = some (.bool o_) := BX.out.cell (i := 2) rfl ((rawB_get os_ sp_ kk (by omega)).trans (by rw [hov])); have fgo : World.frozen? _ ⟨go, kk, none⟩ = false := BX.out.frozen (i := 2) rfl kk) | ((with_reducible refine gate_store (t := 4) (p := 126) rfl ?_); refine objs_store (w0 := w) (bs := [(g10, .cells #[.int .i64 (rd_T66 l0 (kk : Int)).f0, .int .i64 (rd_T66 l0 (kk : Int)).f1, .int .i64 (rd_T66 l0 (kk : Int)).f2, .int .i64 (rd_T66 l0 (kk : Int)).f3] 66 (0, 0)), (w5.heap.size, .map es_ ck_), (go, .cells (rawB (os_.set kk (V_ || K_)) sp_) 4 (0, 0))]) (W1 := World.setCell w11_ ⟨go, kk, none⟩ (.bool (V_ || K_))) rfl rfl rfl ?hr (Objs.put (w0 := w) (b1 := [(g10, .cells #[.int .i64 (rd_T66 l0 (kk : Int)).f0, .int .i64 (rd_T66 l0 (kk : Int)).f1, .int .i64 (rd_T66 l0 (kk : Int)).f2, .int .i64 (rd_T66 l0 (kk : Int)).f3] 66 (0, 0)), (w5.heap.size, .map es_ ck_)]) (b2 := []) BX.out (kk) (.bool (V_ || K_)) (rawB_set os_ sp_ kk (by omega) (V_ || K_))) ?_; (case hr => first | (go_simp; done) | (go_simp; rfl)); intro w13_ BY; have BY := Aside0.mk BY; clear BX; have BX := BY; clear BY; clear qg10_0 fqg10_0 qg10_1 fqg10_1 qg10_2 fqg10_2 qg10_3 fqg10_3 hk hN fgo; have qg10_0 : World.cell? _ ⟨g10, 0, none⟩ = some (.int .i64 (rd_T66 l0 (kk : Int)).f0) := BX.out.cell (i := 0) rfl (j := 0) rfl; have fqg10_0 : World.frozen? _ ⟨g10, 0, none⟩ = false := BX.out.frozen (i := 0) rfl 0; have qg10_1 : World.cell? _ ⟨g10, 1, none⟩ = some (.int .i64 (rd_T66 l0 (kk : Int)).f1) := BX.out.cell (i := 0) rfl (j := 1) rfl; have fqg10_1 : World.frozen? _ ⟨g10, 1, none⟩ = false := BX.out.frozen (i := 0) rfl 1; have qg10_2 : World.cell? _ ⟨g10, 2, none⟩ = some (.int .i64 (rd_T66 l0 (kk : Int)).f2) := BX.out.cell (i := 0) rfl (j := 2) rfl; have fqg10_2 : World.frozen? _ ⟨g10, 2, none⟩ = false := BX.out.frozen (i := 0) rfl 2; have qg10_3 : World.cell? _ ⟨g10, 3, none⟩ = some (.int .i64 (rd_T66 l0 (kk : Int)).f3) := BX.out.cell (i := 0) rfl (j := 3) rfl; have fqg10_3 : World.frozen? _ ⟨g10, 3, none⟩ = false := BX.out.frozen (i := 0) rfl 3) | fail)
                go_roundg (l0.length - (kk + 1))
                case measure => omega
                case rel => exact ⟨kk + 1, by omega, by omega, by go_num, ⟨BX.out.low⟩, ⟨(HS.out.same ((BX.out.at_ (i := 1) rfl).trans HM.out.symm)).imp (fun _ => rfl) (Nat.le_refl _)⟩, ⟨by rw [impl_makeable.l0, ← HOS.out, ← HVE.out, ← HKE.out]; have hR_ := R_of_raw hgo (BX.out.at_ (i := 2) rfl) (by simpa [hol] using HSP.out) hco; simpa [hol] using hR_⟩⟩)
          · have hltz : ¬ (kk : Int) < (l0.length : Int) := by omega
            have hke : kk = l0.length := by omega
            subst hke
            clear HS
            go_wp2
            go_ret
            exact ⟨_, rfl, by rw [← HV.out]; exact HR.out, BW.out⟩
  · rw [if_neg hg_] at h
    exact absurd h (by simp)

/-! ### impl_flags: function 83 -/
def impl_flags.l0 : Nat → List Bool → List Int → Int → Int → Option (List Bool)
 | 0, _, _, _, _ => none
 | k + 1, x5, x11, x12, x13 => if x13 < x12 then (if 0 ≤ x13 then (if x13 < (x11.length : Int) then (if 0 ≤ (rd x11 x13) then (if (rd x11 x13) < (x5.length : Int) then (impl_flags.l0 k (x5.set ((rd x11 x13) : Int).toNat true) x11 x12 (wrap64 (x13 + 1))) else (none)) else (none)) else (none)) else (none)) else (some x5)
def impl_flags.f (k : Nat) (l0 : List (S66)) (l1 : List Int) : Option (List Bool) := if 0 ≤ (l0.length : Int) then (if ((l0.length : Int) : Int).toNat ≤ 281474976710656 then (impl_flags.l0 k (List.replicate ((l0.length : Int) : Int).toNat false) l1 (l1.length : Int) 0) else (none)) else (none)
theorem impl_flags.mono_l : ∀ k, (∀ y0 y1 y2 y3, LeO (impl_flags.l0 k y0 y1 y2 y3) (impl_flags.l0 (k + 1) y0 y1 y2 y3))
 | 0 => fun _ _ _ _ r h => by simp [impl_flags.l0] at h
 | k + 1 => by
  have ih0 := impl_flags.mono_l k
  ·
   intro y0 y1 y2 y3
   unfold impl_flags.l0
   repeat' first
   | (with_reducible exact ih0 _ _ _ _)
   | (with_reducible exact LeO.refl _)
   | (with_reducible exact LeO.none _)
   | (with_reducible refine LeO.ite ?_ ?_)
   | (with_reducible refine LeO.bind ?_ (fun _ => ?_))
   | exact ih0 _ _ _ _
   | exact LeO.none _
   | refine LeO.ite ?_ ?_
   | refine LeO.bind ?_ (fun _ => ?_)
theorem impl_flags.mono : ∀ a0 a1 k, LeO (impl_flags.f k a0 a1) (impl_flags.f (k + 1) a0 a1) := by
 intro a0 a1 k
 have ih0 := impl_flags.mono_l k
 unfold impl_flags.f
 repeat' first
   | (with_reducible exact ih0 _ _ _ _)
   | (with_reducible exact LeO.refl _)
   | (with_reducible exact LeO.none _)
   | (with_reducible refine LeO.ite ?_ ?_)
   | (with_reducible refine LeO.bind ?_ (fun _ => ?_))
   | exact ih0 _ _ _ _
   | exact LeO.none _
   | refine LeO.ite ?_ ?_
   | refine LeO.bind ?_ (fun _ => ?_)
set_option maxHeartbeats 8000000 in
set_option maxRecDepth 100000 in
theorem impl_flags.calls (k : Nat) (A0 : Option Addr) (c0 : Nat) (l0 : List (S66)) (A1 : Option Addr) (c1 : Nat) (l1 : List Int) (r : List Bool) (w : World) (hr0 : Kd.C k66 w A0 l0.length l0) (hc0 : l0.length ≤ c0) (hr1 : Kd.C (Kd.int .i64) w A1 l1.length l1) (hc1 : l1.length ≤ c1) (h : impl_flags.f k l0 l1 = some r) :
  Calls Try.prog 83 #[.slice A0 l0.length c0, .slice A1 l1.length c1] w fun e w' => ∃ v0_ : Value, e = .returned (v0_) ∧ Kd.R Kd.bool 4 w' w.heap.size (fun _ => True) v0_ r ∧ Below w.heap.size w w' := by
 have HR0 := Aside0.mk hr0
 have HC0 := Aside0.mk hc0
 clear hr0 hc0
 have HR1 := Aside0.mk hr1
 have HC1 := Aside0.mk hc1
 clear hr1 hc1
 have HB := Aside0.mk (Below.refl w.heap.size w)
 have H : (if 0 ≤ (l0.length : Int) then (if ((l0.length : Int) : Int).toNat ≤ 281474976710656 then (impl_flags.l0 k (List.replicate ((l0.length : Int) : Int).toNat false) l1 (l1.length : Int) 0) else (none)) else (none)) = some r := h
 clear h
 by_cases c3 : 0 ≤ (l0.length : Int)
 ·
  rw [if_pos c3] at H
  have c3b0 := eq_true c3
  have c3b1 : decide (0 ≤ (l0.length : Int)) = true := decide_eq_true c3
  clear c3
  by_cases c4 : ((l0.length : Int) : Int).toNat ≤ 281474976710656
  ·
   rw [if_pos c4] at H
   have c4b0 := eq_true c4
   have c4b1 : decide (((l0.length : Int) : Int).toNat ≤ 281474976710656) = true := decide_eq_true c4
   clear c4
   obtain ⟨y213, hy213⟩ : ∃ y_ : List Bool, y_ = (List.replicate ((l0.length : Int) : Int).toNat false) := ⟨_, rfl⟩
   replace H : (impl_flags.l0 k y213 l1 (l1.length : Int) 0) = some r := by first | (rw [hy213]; with_reducible exact H) | (have H2_ := (Option.bind_some _ _).symm.trans H; rw [hy213]; with_reducible exact H2_) | (have H2_ := (Option.bind_some _ _).symm.trans H; with_reducible exact H2_) | with_reducible exact H | (rw [hy213]; exact H) | exact H
   have Ny213 := Aside0.mk hy213
   clear hy213
   have H' := Aside0.mk H
   clear H
   go_enter Try.func83, Try.ntmps83
   go_wp2_with (first | ((with_reducible refine gate_dst (N := 10) rfl ?_); refine Kd.R_make Kd.bool _ 4 rfl (N := 10) rfl 77 _ _ rfl (l0.length : Int) rfl rfl Try.underlying77 (.bool false) 1 info4 rfl (by decide) (by omega) false (ok := fun _ => True) (okp := fun _ => True) rfl (fun _ hk => hk) trivial (of_decide_eq_true (by first | (with_reducible assumption) | assumption)) (Nat.le_trans (Nat.mul_le_mul_right _ (of_decide_eq_true (by first | (with_reducible assumption) | assumption) : (l0.length : Int).toNat ≤ 281474976710656)) (by omega)) (Below.refl _ _) (Nat.le_refl _) ?_; intro v214 w5 ho6 hb hg_ hnew_; clear hg_ hnew_; (first | rw [← Ny213.out] at ho6 | (simp only [Int.reduceToNat] at ho6; rw [← Ny213.out] at ho6)); have n0_ := Aside0.mk (Kd.R_lower ho6 (below_size (by repeat (first | (with_reducible first | exact HB.out | apply below_alloc | apply pw_below_drewN | apply below_drew1) | exact HB.out)))); have n1_ := Aside0.mk (below_step (by repeat (first | (with_reducible first | exact HB.out | apply below_alloc | apply pw_below_drewN | apply below_drew1) | exact HB.out)) hb); clear HB; have HO215 := n0_; have HB := n1_; clear n0_ n1_; clear hb ho6))
   go_loopg [13] k (fun kq v13 w' => ∃ (x5_1 : List Bool) (x13_1 : Int), v13 = .int .i64 x13_1 ∧ Aside0 (impl_flags.l0 kq x5_1 l1 (l1.length : Int) x13_1 = some r) ∧ Aside0 (kq ≤ k) ∧ Aside0 (Kd.R Kd.bool 4 w' w.heap.size (fun _ => True) v214 x5_1) ∧ Aside0 (Below w.heap.size w w'))
   case atStart => exact ⟨(y213), (0), (by first | rfl | (simp; done) | (simp [*]; done)), H', ⟨Nat.le_refl _⟩, ⟨by (with_reducible repeat (first | apply Kd.R_alloc | apply Kd.R_drewN | apply Kd.R_drew)); exact HO215.out⟩, ⟨by repeat (first | (with_reducible first | exact HB.out | apply below_alloc | apply pw_below_drewN | apply below_drew1) | exact HB.out)⟩⟩
   case round =>
    clear H'
    try clear c1; try clear p2; try clear c3; try clear c3b0; try clear c3b1; try clear c4; try clear c4b0; try clear c4b1
    obtain ⟨x5_1, x13_1, rfl, HA, HK1, HO_5, HB⟩ := hrel
    cases gk with
    | zero => exact absurd HA.out (by simp [impl_flags.l0])
    | succ k1 =>
     have H := HA.out
     clear HA
     simp only [impl_flags.l0] at H
     by_cases c7 : x13_1 < (l1.length : Int)
     ·
      rw [if_pos c7] at H
      have c7b0 : decide (x13_1 < (l1.length : Int)) = true := decide_eq_true c7
      clear c7
      by_cases c8 : 0 ≤ x13_1
      ·
       rw [if_pos c8] at H
       have c8b0 : decide (0 ≤ x13_1) = true := decide_eq_true c8
       clear c8
       by_cases c9 : x13_1 < (l1.length : Int)
       ·
        rw [if_pos c9] at H
        have c9b0 : decide (x13_1 < (l1.length : Int)) = true := decide_eq_true c9
        clear c9
        by_cases c10 : 0 ≤ (rd l1 x13_1)
        ·
         rw [if_pos c10] at H
         have c10b0 : decide (0 ≤ (rd l1 x13_1)) = true := decide_eq_true c10
         clear c10
         by_cases c11 : (rd l1 x13_1) < (x5_1.length : Int)
         ·
          rw [if_pos c11] at H
          have c11b0 : decide ((rd l1 x13_1) < (x5_1.length : Int)) = true := decide_eq_true c11
          clear c11
          obtain ⟨y217, hy217⟩ : ∃ y_ : List Bool, y_ = (x5_1.set ((rd l1 x13_1) : Int).toNat true) := ⟨_, rfl⟩
          replace H : (impl_flags.l0 k1 y217 l1 (l1.length : Int) (wrap64 (x13_1 + 1))) = some r := by first | (rw [hy217]; with_reducible exact H) | (have H2_ := (Option.bind_some _ _).symm.trans H; rw [hy217]; with_reducible exact H2_) | (have H2_ := (Option.bind_some _ _).symm.trans H; with_reducible exact H2_) | with_reducible exact H | (rw [hy217]; exact H) | exact H
          have Ny217 := Aside0.mk hy217
          clear hy217
          have H' := Aside0.mk H
          clear H
          have p216 : 0 ≤ (x13_1 : Int) := of_decide_eq_true (by first | (with_reducible assumption) | assumption)
          have q216 : x13_1 < (l1.length : Int) := of_decide_eq_true (by first | (with_reducible assumption) | assumption)
          obtain ⟨ad216, e216, hx216_0⟩ := Kd.at_int HR1.out x13_1 p216 q216
          cases e216
          replace hx216_0 := (HB.out.cell (World.block_lt_of_cell? w _ hx216_0)).trans hx216_0
          replace p216 := eq_true p216
          replace q216 := eq_true q216
          have p12 : 0 ≤ ((rd l1 x13_1) : Int) := of_decide_eq_true (by first | (with_reducible assumption) | assumption)
          have q12 : ((rd l1 x13_1) : Int) < ((x5_1.length : Int) : Int) := of_decide_eq_true (by first | (with_reducible assumption) | assumption)
          obtain ⟨go12, co12, eo12, gb12, gl12, cl12, HG12⟩ := Kd.R_form HO_5.out (by omega)
          (first | cases eo12 | (injection eo12 with ea_ en_ ec_; (first | subst ea_ | (injection ea_ with ea_; subst ea_)); subst ec_; clear en_))
          have GB12 := Aside0.mk gb12
          have GG12 := Aside0.mk HG12
          clear gb12 gl12 HG12
          obtain ⟨hx12_0, hf12_0⟩ := Kd.R_celln false HO_5.out ((rd l1 x13_1) : Int) p12 q12
          replace p12 := eq_true p12
          replace q12 := eq_true q12
          have HP13 := Kd.R_putg HO_5.out ((rd l1 x13_1) : Int) true
          go_wp2_with (first | ((with_reducible refine gate_store (t := 4) (p := 19) rfl ?_); refine store_event (t := 4) (p := 19) (v := ?vo_w14) (w1 := (wr.setCell ⟨go12, ((rd l1 x13_1) : Int).toNat, none⟩ (.bool true))) ?hg ?ho ?hn ?hr ?_; (case ho => rfl); (case hg => rfl); (case hn => rfl); (case hr => first | (go_simp; done) | (go_simp; rfl)); intro w14 hw; have hg : wr.grownBy w14 (some go12) := (by rw [hw]; exact HP13.2); have hp_ : Kd.R Kd.bool 4 w14 w.heap.size (fun _ => True) (.slice (some ⟨go12, 0, none⟩) x5_1.length co12) y217 := (by rw [hw, Ny217.out]; exact HP13.1); clear HP13; have n0_ := Aside0.mk (hp_); have n1_ := Aside0.mk ((by rw [hw]; exact below_set (HB.out) GB12.out : Below w.heap.size w w14)); clear HO_5; clear HB; have HO_5 := n0_; have HB := n1_; clear n0_ n1_; clear hg hw hp_))
          go_roundg k1
          case measure => have := HK1.out; omega
          case rel => exact ⟨(y217), (wrap64 (x13_1 + 1)), (by first | rfl | (simp; done) | (simp [*]; done)), H', ⟨by have := HK1.out; omega⟩, ⟨by (with_reducible repeat (first | apply Kd.R_alloc | apply Kd.R_drewN | apply Kd.R_drew)); exact HO_5.out⟩, ⟨by repeat (first | (with_reducible first | exact HB.out | apply below_alloc | apply pw_below_drewN | apply below_drew1) | exact HB.out)⟩⟩
         ·
          rw [if_neg c11] at H
          exact absurd H (by simp)
        ·
         rw [if_neg c10] at H
         exact absurd H (by simp)
       ·
        rw [if_neg c9] at H
        exact absurd H (by simp)
      ·
       rw [if_neg c8] at H
       exact absurd H (by simp)
     ·
      rw [if_neg c7] at H
      have c7b0 : decide (x13_1 < (l1.length : Int)) = false := decide_eq_false c7
      clear c7
      obtain rfl := Option.some.inj H
      go_wp2
      go_ret
      exact ⟨_, by first | rfl | (simp [errW_none, errW_some] <;> rfl) | (simp [*, errW_none, errW_some] <;> rfl), by (with_reducible repeat (first | apply Kd.R_alloc | apply Kd.R_drewN | apply Kd.R_drew)); exact HO_5.out, by repeat (first | (with_reducible first | exact HB.out | apply below_alloc | apply pw_below_drewN | apply below_drew1) | exact HB.out)⟩
  ·
   rw [if_neg c4] at H
   exact absurd H (by simp)
 ·
  rw [if_neg c3] at H
  exact absurd H (by simp)

/-! ### impl_CanMake: function 41 -/
def impl_CanMake.f (k : Nat) (l0 : List (S66)) (l1 : List Int) (a2 : Int) : Option (Bool) := (impl_KnownFault.f k l0 l1).bind fun t218 => (if t218 = 0 then ((impl_isPlace.f l0 a2).bind fun t219 => (if t219 = true then ((impl_flags.f k l0 l1).bind fun t220 => ((impl_makeable.f l0 t220).bind fun t223 => (if 0 ≤ a2 then (if a2 < (t223.length : Int) then (some (rdOf false t223 a2)) else (none)) else (none)))) else (some false))) else (some false))
theorem impl_CanMake.mono : ∀ a0 a1 a2 k, LeO (impl_CanMake.f k a0 a1 a2) (impl_CanMake.f (k + 1) a0 a1 a2) := by
 intro a0 a1 a2 k
 unfold impl_CanMake.f
 repeat' first
   | (with_reducible exact impl_KnownFault.mono _ _ _)
   | (with_reducible exact impl_flags.mono _ _ _)
   | (with_reducible exact LeO.refl _)
   | (with_reducible exact LeO.none _)
   | (with_reducible refine LeO.ite ?_ ?_)
   | (with_reducible refine LeO.bind ?_ (fun _ => ?_))
   | exact impl_KnownFault.mono _ _ _
   | exact impl_flags.mono _ _ _
   | exact LeO.none _
   | refine LeO.ite ?_ ?_
   | refine LeO.bind ?_ (fun _ => ?_)
set_option maxHeartbeats 8000000 in
set_option maxRecDepth 100000 in
theorem impl_CanMake.calls (k : Nat) (A0 : Option Addr) (c0 : Nat) (l0 : List (S66)) (A1 : Option Addr) (c1 : Nat) (l1 : List Int) (a2 : Int) (r : Bool) (w : World) (hr0 : Kd.C k66 w A0 l0.length l0) (hc0 : l0.length ≤ c0) (hr1 : Kd.C (Kd.int .i64) w A1 l1.length l1) (hc1 : l1.length ≤ c1) (h : impl_CanMake.f k l0 l1 a2 = some r) :
  Calls Try.prog 41 #[.slice A0 l0.length c0, .slice A1 l1.length c1, .int .i64 a2] w fun e w' => e = .returned (.bool r) ∧ Below w.heap.size w w' := by
 have HR0 := Aside0.mk hr0
 have HC0 := Aside0.mk hc0
 clear hr0 hc0
 have HR1 := Aside0.mk hr1
 have HC1 := Aside0.mk hc1
 clear hr1 hc1
 have HB := Aside0.mk (Below.refl w.heap.size w)
 have H : ((impl_KnownFault.f k l0 l1).bind fun t218 => (if t218 = 0 then ((impl_isPlace.f l0 a2).bind fun t219 => (if t219 = true then ((impl_flags.f k l0 l1).bind fun t220 => ((impl_makeable.f l0 t220).bind fun t223 => (if 0 ≤ a2 then (if a2 < (t223.length : Int) then (some (rdOf false t223 a2)) else (none)) else (none)))) else (some false))) else (some false))) = some r := h
 clear h
 replace H := Option.bind_eq_some_iff.mp H
 obtain ⟨t218, A40, H⟩ := H
 replace H : (if t218 = 0 then ((impl_isPlace.f l0 a2).bind fun t219 => (if t219 = true then ((impl_flags.f k l0 l1).bind fun t220 => ((impl_makeable.f l0 t220).bind fun t223 => (if 0 ≤ a2 then (if a2 < (t223.length : Int) then (some (rdOf false t223 a2)) else (none)) else (none)))) else (some false))) else (some false)) = some r := H
 have A4 := Aside0.mk A40
 clear A40
 by_cases c5 : t218 = 0
 ·
  rw [if_pos c5] at H
  have c5b0 : (t218 == 0) = true := beq_iff_eq.mpr c5
  have c5b1 : (t218 != 0) = false := bne_eq_false_iff_eq.mpr c5
  clear c5
  replace H := Option.bind_eq_some_iff.mp H
  obtain ⟨t219, A60, H⟩ := H
  replace H : (if t219 = true then ((impl_flags.f k l0 l1).bind fun t220 => ((impl_makeable.f l0 t220).bind fun t223 => (if 0 ≤ a2 then (if a2 < (t223.length : Int) then (some (rdOf false t223 a2)) else (none)) else (none)))) else (some false)) = some r := H
  have A6 := Aside0.mk A60
  clear A60
  by_cases c7 : t219 = true
  ·
   subst c7
   have H1 : ((impl_flags.f k l0 l1).bind fun t220 => ((impl_makeable.f l0 t220).bind fun t223 => (if 0 ≤ a2 then (if a2 < (t223.length : Int) then (some (rdOf false t223 a2)) else (none)) else (none)))) = some r := by rw [if_pos rfl] at H; exact H
   clear H
   have H := H1
   clear H1
   replace H := Option.bind_eq_some_iff.mp H
   obtain ⟨t220, A80, H⟩ := H
   replace H : ((impl_makeable.f l0 t220).bind fun t223 => (if 0 ≤ a2 then (if a2 < (t223.length : Int) then (some (rdOf false t223 a2)) else (none)) else (none))) = some r := H
   have A8 := Aside0.mk A80
   clear A80
   replace H := Option.bind_eq_some_iff.mp H
   obtain ⟨t223, A90, H⟩ := H
   replace H : (if 0 ≤ a2 then (if a2 < (t223.length : Int) then (some (rdOf false t223 a2)) else (none)) else (none)) = some r := H
   have A9 := Aside0.mk A90
   clear A90
   by_cases c10 : 0 ≤ a2
   ·
    rw [if_pos c10] at H
    have c10b0 : decide (0 ≤ a2) = true := decide_eq_true c10
    clear c10
    by_cases c11 : a2 < (t223.length : Int)
    ·
     rw [if_pos c11] at H
     have c11b0 : decide (a2 < (t223.length : Int)) = true := decide_eq_true c11
     clear c11
     obtain rfl := Option.some.inj H
     go_enter Try.func41, Try.ntmps41
     go_wp2_with (first | ((with_reducible refine gate_callee (f := 25) rfl ?_); refine goesL_ (some 9) rfl rfl Try.func25 (by kernel_rfl) rfl #[.slice A0 l0.length c0, .slice A1 l1.length c1] rfl (by (try simp only [List.map_toArray, List.map_cons, List.map_nil]); first | done | rfl | (simp only [List.length_drop, List.length_take]; rfl)) ?_; (with_reducible refine (impl_KnownFault.calls k _ _ l0 _ _ l1 t218 _ ?side1 ?side2 ?side3 ?side4 A4.out).mono ?_); (case side1 => repeat (first | exact HR0.out | (with_reducible refine Kd.C_alloc ?_ _) | (with_reducible refine Kd.C_drewN ?_ _) | (with_reducible refine Kd.C_drew ?_))); (case side2 => exact HC0.out); (case side3 => repeat (first | exact HR1.out | (with_reducible refine Kd.C_alloc ?_ _) | (with_reducible refine Kd.C_drewN ?_ _) | (with_reducible refine Kd.C_drew ?_))); (case side4 => exact HC1.out); rintro e w12 ⟨rfl, hb⟩; refine ⟨_, rfl, ?_⟩; have n0_ := Aside0.mk (below_step (by repeat (first | (with_reducible first | exact HB.out | apply below_alloc | apply pw_below_drewN | apply below_drew1) | exact HB.out)) hb); clear HB; have HB := n0_; clear n0_; (try clear hb); (try clear hb2); (try clear hk); (try clear hi)) | (go_at_call 69; (with_reducible refine (impl_isPlace.calls _ _ l0 a2 true _ ?side1 ?side2 A6.out).mono ?_); (case side1 => repeat (first | exact (Kd.C_below HR0.out HB.out) | (with_reducible refine Kd.C_alloc ?_ _) | (with_reducible refine Kd.C_drewN ?_ _) | (with_reducible refine Kd.C_drew ?_))); (case side2 => exact HC0.out); rintro e w' ⟨rfl, ⟨nd, rfl⟩⟩) | (go_at_call 83; (with_reducible refine (impl_flags.calls k _ _ l0 _ _ l1 t220 _ ?side1 ?side2 ?side3 ?side4 A8.out).mono ?_); (case side1 => repeat (first | exact (Kd.C_below HR0.out (by repeat (first | (with_reducible first | exact HB.out | apply below_alloc | apply pw_below_drewN | apply below_drew1) | exact HB.out))) | (with_reducible refine Kd.C_alloc ?_ _) | (with_reducible refine Kd.C_drewN ?_ _) | (with_reducible refine Kd.C_drew ?_))); (case side2 => exact HC0.out); (case side3 => repeat (first | exact (Kd.C_below HR1.out (by repeat (first | (with_reducible first | exact HB.out | apply below_alloc | apply pw_below_drewN | apply below_drew1) | exact HB.out))) | (with_reducible refine Kd.C_alloc ?_ _) | (with_reducible refine Kd.C_drewN ?_ _) | (with_reducible refine Kd.C_drew ?_))); (case side4 => exact HC1.out); rintro e w13 ⟨v221, rfl, ho0, hb⟩; have n0_ := Aside0.mk (Kd.R_lower ho0 (below_size (by repeat (first | (with_reducible first | exact HB.out | apply below_alloc | apply pw_below_drewN | apply below_drew1) | exact HB.out)))); have n1_ := Aside0.mk (below_step (by repeat (first | (with_reducible first | exact HB.out | apply below_alloc | apply pw_below_drewN | apply below_drew1) | exact HB.out)) hb); clear HB; have HO222 := n0_; have HB := n1_; clear n0_ n1_; (try clear hb); (try clear hb2); (try clear hk); (try clear hi); (try clear ho0); obtain ⟨Ao14, co14, eo14⟩ := Kd.R_slice HO222.out; subst eo14) | (go_at_call 82; (with_reducible refine (impl_makeable.calls _ _ l0 _ _ t220 t223 _ ?side1 ?side2 ?side3 ?side4 A9.out).mono ?_); (case side1 => repeat (first | exact (Kd.C_below HR0.out HB.out) | (with_reducible refine Kd.C_alloc ?_ _) | (with_reducible refine Kd.C_drewN ?_ _) | (with_reducible refine Kd.C_drew ?_))); (case side2 => exact HC0.out); (case side3 => repeat (first | exact (Kd.R_reads' HO222.out).2.2 | (with_reducible refine Kd.C_alloc ?_ _) | (with_reducible refine Kd.C_drewN ?_ _) | (with_reducible refine Kd.C_drew ?_))); (case side4 => exact (Kd.R_reads' HO222.out).2.1); rintro e w15 ⟨v224, rfl, ho0, hb⟩; have n0_ := Aside0.mk (Kd.R_elder' (by (with_reducible repeat (first | apply Kd.R_alloc | apply Kd.R_drewN | apply Kd.R_drew)); exact HO222.out) (Kd.R_base ho0) hb); have n1_ := Aside0.mk (Kd.R_lower (Kd.R_new' ho0 (Kd.R_lt (by (with_reducible repeat (first | apply Kd.R_alloc | apply Kd.R_drewN | apply Kd.R_drew)); exact HO222.out))) (below_size (by repeat (first | (with_reducible first | exact HB.out | apply below_alloc | apply pw_below_drewN | apply below_drew1) | exact HB.out)))); have n2_ := Aside0.mk (below_step (by repeat (first | (with_reducible first | exact HB.out | apply below_alloc | apply pw_below_drewN | apply below_drew1) | exact HB.out)) hb); clear HO222; clear HB; have HO222 := n0_; have HO225 := n1_; have HB := n2_; clear n0_ n1_ n2_; (try clear hb); (try clear hb2); (try clear hk); (try clear hi); (try clear ho0); obtain ⟨Ao16, co16, eo16⟩ := Kd.R_slice HO225.out; subst eo16; have p226 : 0 ≤ (a2 : Int) := of_decide_eq_true (by first | (with_reducible assumption) | assumption); have q226 : a2 < (t223.length : Int) := of_decide_eq_true (by first | (with_reducible assumption) | assumption); obtain ⟨ad226, e226, hx226_0⟩ := Kd.at_bool (Kd.R_reads' HO225.out).2.2 a2 p226 q226; cases e226; replace p226 := eq_true p226; replace q226 := eq_true q226))
     go_ret
     exact ⟨by first | rfl | (simp [errW_none, errW_some] <;> rfl) | (simp [*, errW_none, errW_some] <;> rfl), by repeat (first | (with_reducible first | exact HB.out | apply below_alloc | apply pw_below_drewN | apply below_drew1) | exact HB.out)⟩
    ·
     rw [if_neg c11] at H
     exact absurd H (by simp)
   ·
    rw [if_neg c10] at H
    exact absurd H (by simp)
  ·
   replace c7 := Bool.eq_false_iff.mpr c7
   subst c7
   have H1 : (some false) = some r := by rw [if_neg (show ¬ (false = true) by decide)] at H; exact H
   clear H
   have H := H1
   clear H1
   obtain rfl := Option.some.inj H
   go_enter Try.func41, Try.ntmps41
   go_wp2_with (first | ((with_reducible refine gate_callee (f := 25) rfl ?_); refine goesL_ (some 9) rfl rfl Try.func25 (by kernel_rfl) rfl #[.slice A0 l0.length c0, .slice A1 l1.length c1] rfl (by (try simp only [List.map_toArray, List.map_cons, List.map_nil]); first | done | rfl | (simp only [List.length_drop, List.length_take]; rfl)) ?_; (with_reducible refine (impl_KnownFault.calls k _ _ l0 _ _ l1 t218 _ ?side1 ?side2 ?side3 ?side4 A4.out).mono ?_); (case side1 => repeat (first | exact HR0.out | (with_reducible refine Kd.C_alloc ?_ _) | (with_reducible refine Kd.C_drewN ?_ _) | (with_reducible refine Kd.C_drew ?_))); (case side2 => exact HC0.out); (case side3 => repeat (first | exact HR1.out | (with_reducible refine Kd.C_alloc ?_ _) | (with_reducible refine Kd.C_drewN ?_ _) | (with_reducible refine Kd.C_drew ?_))); (case side4 => exact HC1.out); rintro e w17 ⟨rfl, hb⟩; refine ⟨_, rfl, ?_⟩; have n0_ := Aside0.mk (below_step (by repeat (first | (with_reducible first | exact HB.out | apply below_alloc | apply pw_below_drewN | apply below_drew1) | exact HB.out)) hb); clear HB; have HB := n0_; clear n0_; (try clear hb); (try clear hb2); (try clear hk); (try clear hi)) | (go_at_call 69; (with_reducible refine (impl_isPlace.calls _ _ l0 a2 false _ ?side1 ?side2 A6.out).mono ?_); (case side1 => repeat (first | exact (Kd.C_below HR0.out HB.out) | (with_reducible refine Kd.C_alloc ?_ _) | (with_reducible refine Kd.C_drewN ?_ _) | (with_reducible refine Kd.C_drew ?_))); (case side2 => exact HC0.out); rintro e w' ⟨rfl, ⟨nd, rfl⟩⟩))
   go_ret
   exact ⟨by first | rfl | (simp [errW_none, errW_some] <;> rfl) | (simp [*, errW_none, errW_some] <;> rfl), by repeat (first | (with_reducible first | exact HB.out | apply below_alloc | apply pw_below_drewN | apply below_drew1) | exact HB.out)⟩
 ·
  rw [if_neg c5] at H
  have c5b0 : (t218 == 0) = false := beq_eq_false_iff_ne.mpr c5
  have c5b1 : (t218 != 0) = true := bne_iff_ne.mpr c5
  obtain rfl := Option.some.inj H
  go_enter Try.func41, Try.ntmps41
  go_wp2_with (first | ((with_reducible refine gate_callee (f := 25) rfl ?_); refine goesL_ (some 9) rfl rfl Try.func25 (by kernel_rfl) rfl #[.slice A0 l0.length c0, .slice A1 l1.length c1] rfl (by (try simp only [List.map_toArray, List.map_cons, List.map_nil]); first | done | rfl | (simp only [List.length_drop, List.length_take]; rfl)) ?_; (with_reducible refine (impl_KnownFault.calls k _ _ l0 _ _ l1 t218 _ ?side1 ?side2 ?side3 ?side4 A4.out).mono ?_); (case side1 => repeat (first | exact HR0.out | (with_reducible refine Kd.C_alloc ?_ _) | (with_reducible refine Kd.C_drewN ?_ _) | (with_reducible refine Kd.C_drew ?_))); (case side2 => exact HC0.out); (case side3 => repeat (first | exact HR1.out | (with_reducible refine Kd.C_alloc ?_ _) | (with_reducible refine Kd.C_drewN ?_ _) | (with_reducible refine Kd.C_drew ?_))); (case side4 => exact HC1.out); rintro e w18 ⟨rfl, hb⟩; refine ⟨_, rfl, ?_⟩; have n0_ := Aside0.mk (below_step (by repeat (first | (with_reducible first | exact HB.out | apply below_alloc | apply pw_below_drewN | apply below_drew1) | exact HB.out)) hb); clear HB; have HB := n0_; clear n0_; (try clear hb); (try clear hb2); (try clear hk); (try clear hi)))
  go_ret
  exact ⟨by first | rfl | (simp [errW_none, errW_some] <;> rfl) | (simp [*, errW_none, errW_some] <;> rfl), by repeat (first | (with_reducible first | exact HB.out | apply below_alloc | apply pw_below_drewN | apply below_drew1) | exact HB.out)⟩

/-! ### laws_FnExactCanMake: function 9 -/
def laws_FnExactCanMake.f (k : Nat) (l0 : List (S69)) (l1 : List Int) (a2 : Int) : Option (Bool) := if (l1.length : Int) > 1048576 then (some true) else ((laws_szTermS.f l0 1048576).bind fun t227 => (if t227 < 0 then (some true) else ((laws_toTermS.f k l0).bind fun t228 => ((laws_toInt64S.f k l1).bind fun t231 => ((spec_CanMake.f k t228 t231 a2).bind fun t234 => ((laws_toTermS.f k l0).bind fun t235 => ((laws_toInt64S.f k l1).bind fun t238 => ((impl_CanMake.f k t235 t238 a2).bind fun t241 => (if (t241 != t234) = true then (some false) else ((laws_toTermS.f k l0).bind fun t242 => ((laws_eqTermS.f k t235 t242).bind fun t245 => (if t245 = true then ((laws_toInt64S.f k l1).bind fun t246 => ((laws_eqInt64S.f k t238 t246).bind fun t249 => (if t249 = true then (some true) else (some false)))) else (some false)))))))))))))
theorem laws_FnExactCanMake.mono : ∀ a0 a1 a2 k, LeO (laws_FnExactCanMake.f k a0 a1 a2) (laws_FnExactCanMake.f (k + 1) a0 a1 a2) := by
 intro a0 a1 a2 k
 unfold laws_FnExactCanMake.f
 repeat' first
   | (with_reducible exact impl_CanMake.mono _ _ _ _)
   | (with_reducible exact laws_eqInt64S.mono _ _ _)
   | (with_reducible exact laws_eqTermS.mono _ _ _)
   | (with_reducible exact laws_toInt64S.mono _ _)
   | (with_reducible exact laws_toTermS.mono _ _)
   | (with_reducible exact spec_CanMake.mono _ _ _ _)
   | (with_reducible exact LeO.refl _)
   | (with_reducible exact LeO.none _)
   | (with_reducible refine LeO.ite ?_ ?_)
   | (with_reducible refine LeO.bind ?_ (fun _ => ?_))
   | exact impl_CanMake.mono _ _ _ _
   | exact laws_eqInt64S.mono _ _ _
   | exact laws_eqTermS.mono _ _ _
   | exact laws_toInt64S.mono _ _
   | exact laws_toTermS.mono _ _
   | exact spec_CanMake.mono _ _ _ _
   | exact LeO.none _
   | refine LeO.ite ?_ ?_
   | refine LeO.bind ?_ (fun _ => ?_)
set_option maxHeartbeats 8000000 in
set_option maxRecDepth 100000 in
theorem laws_FnExactCanMake.calls (k : Nat) (A0 : Option Addr) (c0 : Nat) (l0 : List (S69)) (A1 : Option Addr) (c1 : Nat) (l1 : List Int) (a2 : Int) (r : Bool) (hr_ : r = true) (w : World) (hr0 : Kd.C k69 w A0 l0.length l0) (hc0 : l0.length ≤ c0) (hr1 : Kd.C (Kd.int .i64) w A1 l1.length l1) (hc1 : l1.length ≤ c1) (h : laws_FnExactCanMake.f k l0 l1 a2 = some r) :
  Calls Try.prog 9 #[.slice A0 l0.length c0, .slice A1 l1.length c1, .int .i64 a2] w fun e w' => e = .returned (.bool r) ∧ Below w.heap.size w w' := by
 have HR0 := Aside0.mk hr0
 have HC0 := Aside0.mk hc0
 clear hr0 hc0
 have HR1 := Aside0.mk hr1
 have HC1 := Aside0.mk hc1
 clear hr1 hc1
 have HB := Aside0.mk (Below.refl w.heap.size w)
 have H : (if (l1.length : Int) > 1048576 then (some true) else ((laws_szTermS.f l0 1048576).bind fun t227 => (if t227 < 0 then (some true) else ((laws_toTermS.f k l0).bind fun t228 => ((laws_toInt64S.f k l1).bind fun t231 => ((spec_CanMake.f k t228 t231 a2).bind fun t234 => ((laws_toTermS.f k l0).bind fun t235 => ((laws_toInt64S.f k l1).bind fun t238 => ((impl_CanMake.f k t235 t238 a2).bind fun t241 => (if (t241 != t234) = true then (some false) else ((laws_toTermS.f k l0).bind fun t242 => ((laws_eqTermS.f k t235 t242).bind fun t245 => (if t245 = true then ((laws_toInt64S.f k l1).bind fun t246 => ((laws_eqInt64S.f k t238 t246).bind fun t249 => (if t249 = true then (some true) else (some false)))) else (some false)))))))))))))) = some r := h
 clear h
 by_cases c4 : (l1.length : Int) > 1048576
 ·
  rw [if_pos c4] at H
  have c4b0 : decide (1048576 < (l1.length : Int)) = true := decide_eq_true c4
  have c4b1 : decide (1048576 < l1.length) = true := decide_eq_true (by omega)
  clear c4
  obtain rfl := Option.some.inj H
  go_enter Try.func9, Try.ntmps9
  go_wp2
  go_ret
  exact ⟨by first | rfl | (simp [errW_none, errW_some] <;> rfl) | (simp [*, errW_none, errW_some] <;> rfl), by repeat (first | (with_reducible first | exact HB.out | apply below_alloc | apply pw_below_drewN | apply below_drew1) | exact HB.out)⟩
 ·
  rw [if_neg c4] at H
  have c4b0 : decide (1048576 < (l1.length : Int)) = false := decide_eq_false c4
  have c4b1 : decide (1048576 < l1.length) = false := decide_eq_false (by omega)
  clear c4
  replace H := Option.bind_eq_some_iff.mp H
  obtain ⟨t227, A50, H⟩ := H
  replace H : (if t227 < 0 then (some true) else ((laws_toTermS.f k l0).bind fun t228 => ((laws_toInt64S.f k l1).bind fun t231 => ((spec_CanMake.f k t228 t231 a2).bind fun t234 => ((laws_toTermS.f k l0).bind fun t235 => ((laws_toInt64S.f k l1).bind fun t238 => ((impl_CanMake.f k t235 t238 a2).bind fun t241 => (if (t241 != t234) = true then (some false) else ((laws_toTermS.f k l0).bind fun t242 => ((laws_eqTermS.f k t235 t242).bind fun t245 => (if t245 = true then ((laws_toInt64S.f k l1).bind fun t246 => ((laws_eqInt64S.f k t238 t246).bind fun t249 => (if t249 = true then (some true) else (some false)))) else (some false)))))))))))) = some r := H
  have A5 := Aside0.mk A50
  clear A50
  by_cases c6 : t227 < 0
  ·
   rw [if_pos c6] at H
   have c6b0 : decide (t227 < 0) = true := decide_eq_true c6
   clear c6
   obtain rfl := Option.some.inj H
   go_enter Try.func9, Try.ntmps9
   go_wp2_with (first | ((with_reducible refine gate_callee (f := 18) rfl ?_); refine goesL_ (some 17) rfl rfl Try.func18 (by kernel_rfl) rfl #[.slice A0 l0.length c0, .int .i64 1048576] rfl (by (try simp only [List.map_toArray, List.map_cons, List.map_nil]); first | done | rfl | (simp only [List.length_drop, List.length_take]; rfl)) ?_; (with_reducible refine (laws_szTermS.calls _ _ l0 1048576 t227 _ ?side1 ?side2 A5.out).mono ?_); (case side1 => repeat (first | exact HR0.out | (with_reducible refine Kd.C_alloc ?_ _) | (with_reducible refine Kd.C_drewN ?_ _) | (with_reducible refine Kd.C_drew ?_))); (case side2 => exact HC0.out); rintro e w' ⟨rfl, ⟨nd, rfl⟩⟩; refine ⟨_, rfl, ?_⟩))
   go_ret
   exact ⟨by first | rfl | (simp [errW_none, errW_some] <;> rfl) | (simp [*, errW_none, errW_some] <;> rfl), by repeat (first | (with_reducible first | exact HB.out | apply below_alloc | apply pw_below_drewN | apply below_drew1) | exact HB.out)⟩
  ·
   rw [if_neg c6] at H
   have c6b0 : decide (t227 < 0) = false := decide_eq_false c6
   clear c6
   replace H := Option.bind_eq_some_iff.mp H
   obtain ⟨t228, A70, H⟩ := H
   replace H : ((laws_toInt64S.f k l1).bind fun t231 => ((spec_CanMake.f k t228 t231 a2).bind fun t234 => ((laws_toTermS.f k l0).bind fun t235 => ((laws_toInt64S.f k l1).bind fun t238 => ((impl_CanMake.f k t235 t238 a2).bind fun t241 => (if (t241 != t234) = true then (some false) else ((laws_toTermS.f k l0).bind fun t242 => ((laws_eqTermS.f k t235 t242).bind fun t245 => (if t245 = true then ((laws_toInt64S.f k l1).bind fun t246 => ((laws_eqInt64S.f k t238 t246).bind fun t249 => (if t249 = true then (some true) else (some false)))) else (some false)))))))))) = some r := H
   have A7 := Aside0.mk A70
   clear A70
   replace H := Option.bind_eq_some_iff.mp H
   obtain ⟨t231, A80, H⟩ := H
   replace H : ((spec_CanMake.f k t228 t231 a2).bind fun t234 => ((laws_toTermS.f k l0).bind fun t235 => ((laws_toInt64S.f k l1).bind fun t238 => ((impl_CanMake.f k t235 t238 a2).bind fun t241 => (if (t241 != t234) = true then (some false) else ((laws_toTermS.f k l0).bind fun t242 => ((laws_eqTermS.f k t235 t242).bind fun t245 => (if t245 = true then ((laws_toInt64S.f k l1).bind fun t246 => ((laws_eqInt64S.f k t238 t246).bind fun t249 => (if t249 = true then (some true) else (some false)))) else (some false))))))))) = some r := H
   have A8 := Aside0.mk A80
   clear A80
   replace H := Option.bind_eq_some_iff.mp H
   obtain ⟨t234, A90, H⟩ := H
   replace H : ((laws_toTermS.f k l0).bind fun t235 => ((laws_toInt64S.f k l1).bind fun t238 => ((impl_CanMake.f k t235 t238 a2).bind fun t241 => (if (t241 != t234) = true then (some false) else ((laws_toTermS.f k l0).bind fun t242 => ((laws_eqTermS.f k t235 t242).bind fun t245 => (if t245 = true then ((laws_toInt64S.f k l1).bind fun t246 => ((laws_eqInt64S.f k t238 t246).bind fun t249 => (if t249 = true then (some true) else (some false)))) else (some false)))))))) = some r := H
   have A9 := Aside0.mk A90
   clear A90
   replace H := Option.bind_eq_some_iff.mp H
   obtain ⟨t235, A100, H⟩ := H
   replace H : ((laws_toInt64S.f k l1).bind fun t238 => ((impl_CanMake.f k t235 t238 a2).bind fun t241 => (if (t241 != t234) = true then (some false) else ((laws_toTermS.f k l0).bind fun t242 => ((laws_eqTermS.f k t235 t242).bind fun t245 => (if t245 = true then ((laws_toInt64S.f k l1).bind fun t246 => ((laws_eqInt64S.f k t238 t246).bind fun t249 => (if t249 = true then (some true) else (some false)))) else (some false))))))) = some r := H
   have A10 := Aside0.mk A100
   clear A100
   replace H := Option.bind_eq_some_iff.mp H
   obtain ⟨t238, A110, H⟩ := H
   replace H : ((impl_CanMake.f k t235 t238 a2).bind fun t241 => (if (t241 != t234) = true then (some false) else ((laws_toTermS.f k l0).bind fun t242 => ((laws_eqTermS.f k t235 t242).bind fun t245 => (if t245 = true then ((laws_toInt64S.f k l1).bind fun t246 => ((laws_eqInt64S.f k t238 t246).bind fun t249 => (if t249 = true then (some true) else (some false)))) else (some false)))))) = some r := H
   have A11 := Aside0.mk A110
   clear A110
   replace H := Option.bind_eq_some_iff.mp H
   obtain ⟨t241, A120, H⟩ := H
   replace H : (if (t241 != t234) = true then (some false) else ((laws_toTermS.f k l0).bind fun t242 => ((laws_eqTermS.f k t235 t242).bind fun t245 => (if t245 = true then ((laws_toInt64S.f k l1).bind fun t246 => ((laws_eqInt64S.f k t238 t246).bind fun t249 => (if t249 = true then (some true) else (some false)))) else (some false))))) = some r := H
   have A12 := Aside0.mk A120
   clear A120
   by_cases c13 : (t241 != t234) = true
   ·
    rw [if_pos c13] at H
    have c13b0 : (t241 != t234) = true := c13
    (try (have c13b1 : decide (t241 = t234) = false := by simpa using c13))
    (try (have c13b2 : (t241 == t234) = false := by simpa using c13))
    (try (have c13b3 : ¬ (t241 = t234) := by simpa using c13))
    clear c13
    exact absurd (Option.some.inj H) (by rw [hr_]; decide)
   ·
    rw [if_neg c13] at H
    have c13b0 : (t241 != t234) = false := by simpa using c13
    (try (have c13b1 : decide (t241 = t234) = true := by simpa using c13))
    (try (have c13b2 : (t241 == t234) = true := by simpa using c13))
    clear c13
    replace H := Option.bind_eq_some_iff.mp H
    obtain ⟨t242, A240, H⟩ := H
    replace H : ((laws_eqTermS.f k t235 t242).bind fun t245 => (if t245 = true then ((laws_toInt64S.f k l1).bind fun t246 => ((laws_eqInt64S.f k t238 t246).bind fun t249 => (if t249 = true then (some true) else (some false)))) else (some false))) = some r := H
    have A24 := Aside0.mk A240
    clear A240
    replace H := Option.bind_eq_some_iff.mp H
    obtain ⟨t245, A250, H⟩ := H
    replace H : (if t245 = true then ((laws_toInt64S.f k l1).bind fun t246 => ((laws_eqInt64S.f k t238 t246).bind fun t249 => (if t249 = true then (some true) else (some false)))) else (some false)) = some r := H
    have A25 := Aside0.mk A250
    clear A250
    by_cases c26 : t245 = true
    ·
     subst c26
     have H1 : ((laws_toInt64S.f k l1).bind fun t246 => ((laws_eqInt64S.f k t238 t246).bind fun t249 => (if t249 = true then (some true) else (some false)))) = some r := by rw [if_pos rfl] at H; exact H
     clear H
     have H := H1
     clear H1
     replace H := Option.bind_eq_some_iff.mp H
     obtain ⟨t246, A270, H⟩ := H
     replace H : ((laws_eqInt64S.f k t238 t246).bind fun t249 => (if t249 = true then (some true) else (some false))) = some r := H
     have A27 := Aside0.mk A270
     clear A270
     replace H := Option.bind_eq_some_iff.mp H
     obtain ⟨t249, A280, H⟩ := H
     replace H : (if t249 = true then (some true) else (some false)) = some r := H
     have A28 := Aside0.mk A280
     clear A280
     by_cases c29 : t249 = true
     ·
      subst c29
      have H1 : (some true) = some r := by rw [if_pos rfl] at H; exact H
      clear H
      have H := H1
      clear H1
      obtain rfl := Option.some.inj H
      go_enter Try.func9, Try.ntmps9
      go_wp2_with (first | ((with_reducible refine gate_callee (f := 18) rfl ?_); refine goesL_ (some 17) rfl rfl Try.func18 (by kernel_rfl) rfl #[.slice A0 l0.length c0, .int .i64 1048576] rfl (by (try simp only [List.map_toArray, List.map_cons, List.map_nil]); first | done | rfl | (simp only [List.length_drop, List.length_take]; rfl)) ?_; (with_reducible refine (laws_szTermS.calls _ _ l0 1048576 t227 _ ?side1 ?side2 A5.out).mono ?_); (case side1 => repeat (first | exact HR0.out | (with_reducible refine Kd.C_alloc ?_ _) | (with_reducible refine Kd.C_drewN ?_ _) | (with_reducible refine Kd.C_drew ?_))); (case side2 => exact HC0.out); rintro e w' ⟨rfl, ⟨nd, rfl⟩⟩; refine ⟨_, rfl, ?_⟩) | ((with_reducible refine gate_callee (f := 20) rfl ?_); refine goesL_ (some 21) rfl rfl Try.func20 (by kernel_rfl) rfl #[.slice A0 l0.length c0] rfl (by (try simp only [List.map_toArray, List.map_cons, List.map_nil]); first | done | rfl | (simp only [List.length_drop, List.length_take]; rfl)) ?_; (with_reducible refine (laws_toTermS.calls k _ _ l0 t228 _ ?side1 ?side2 A7.out).mono ?_); (case side1 => repeat (first | exact HR0.out | (with_reducible refine Kd.C_alloc ?_ _) | (with_reducible refine Kd.C_drewN ?_ _) | (with_reducible refine Kd.C_drew ?_))); (case side2 => exact HC0.out); rintro e w30 ⟨v229, rfl, ho0, hb⟩; refine ⟨_, rfl, ?_⟩; have n0_ := Aside0.mk (Kd.R_lower ho0 (below_size (by repeat (first | (with_reducible first | exact HB.out | apply below_alloc | apply pw_below_drewN | apply below_drew1) | exact HB.out)))); have n1_ := Aside0.mk (below_step (by repeat (first | (with_reducible first | exact HB.out | apply below_alloc | apply pw_below_drewN | apply below_drew1) | exact HB.out)) hb); clear HB; have HO230 := n0_; have HB := n1_; clear n0_ n1_; (try clear hb); (try clear hb2); (try clear hk); (try clear hi); (try clear ho0)) | ((with_reducible refine gate_callee (f := 24) rfl ?_); refine goesL_ (some 23) rfl rfl Try.func24 (by kernel_rfl) rfl #[.slice A1 l1.length c1] rfl (by (try simp only [List.map_toArray, List.map_cons, List.map_nil]); first | done | rfl | (simp only [List.length_drop, List.length_take]; rfl)) ?_; (with_reducible refine (laws_toInt64S.calls k _ _ l1 t231 _ ?side1 ?side2 A8.out).mono ?_); (case side1 => repeat (first | exact (Kd.C_below HR1.out HB.out) | (with_reducible refine Kd.C_alloc ?_ _) | (with_reducible refine Kd.C_drewN ?_ _) | (with_reducible refine Kd.C_drew ?_))); (case side2 => exact HC1.out); rintro e w31 ⟨v232, rfl, ho0, hb⟩; refine ⟨_, rfl, ?_⟩; have n0_ := Aside0.mk (Kd.R_below (by (with_reducible repeat (first | apply Kd.R_alloc | apply Kd.R_drewN | apply Kd.R_drew)); exact HO230.out) hb); have n1_ := Aside0.mk (Kd.R_lower ho0 (below_size (by repeat (first | (with_reducible first | exact HB.out | apply below_alloc | apply pw_below_drewN | apply below_drew1) | exact HB.out)))); have n2_ := Aside0.mk (below_step (by repeat (first | (with_reducible first | exact HB.out | apply below_alloc | apply pw_below_drewN | apply below_drew1) | exact HB.out)) hb); clear HO230; clear HB; have HO230 := n0_; have HO233 := n1_; have HB := n2_; clear n0_ n1_ n2_; (try clear hb); (try clear hb2); (try clear hk); (try clear hi); (try clear ho0); obtain ⟨Ao32, co32, eo32⟩ := Kd.R_slice HO230.out; subst eo32; obtain ⟨Ao33, co33, eo33⟩ := Kd.R_slice HO233.out; subst eo33) | ((with_reducible refine gate_callee (f := 40) rfl ?_); refine goesL_ (some 25) rfl rfl Try.func40 (by kernel_rfl) rfl #[.slice Ao32 t228.length co32, .slice Ao33 t231.length co33, .int .i64 a2] rfl (by (try simp only [List.map_toArray, List.map_cons, List.map_nil]); first | done | rfl | (simp only [List.length_drop, List.length_take]; rfl)) ?_; (with_reducible refine (spec_CanMake.calls k _ _ t228 _ _ t231 a2 t234 _ ?side1 ?side2 ?side3 ?side4 A9.out).mono ?_); (case side1 => repeat (first | exact (Kd.R_reads' HO230.out).2.2 | (with_reducible refine Kd.C_alloc ?_ _) | (with_reducible refine Kd.C_drewN ?_ _) | (with_reducible refine Kd.C_drew ?_))); (case side2 => exact (Kd.R_reads' HO230.out).2.1); (case side3 => repeat (first | exact (Kd.R_reads' HO233.out).2.2 | (with_reducible refine Kd.C_alloc ?_ _) | (with_reducible refine Kd.C_drewN ?_ _) | (with_reducible refine Kd.C_drew ?_))); (case side4 => exact (Kd.R_reads' HO233.out).2.1); rintro e w34 ⟨rfl, hb⟩; refine ⟨_, rfl, ?_⟩; have n0_ := Aside0.mk (Kd.R_below (by (with_reducible repeat (first | apply Kd.R_alloc | apply Kd.R_drewN | apply Kd.R_drew)); exact HO230.out) hb); have n1_ := Aside0.mk (Kd.R_below (by (with_reducible repeat (first | apply Kd.R_alloc | apply Kd.R_drewN | apply Kd.R_drew)); exact HO233.out) hb); have n2_ := Aside0.mk (below_step (by repeat (first | (with_reducible first | exact HB.out | apply below_alloc | apply pw_below_drewN | apply below_drew1) | exact HB.out)) hb); clear HO230; clear HO233; clear HB; have HO230 := n0_; have HO233 := n1_; have HB := n2_; clear n0_ n1_ n2_; (try clear hb); (try clear hb2); (try clear hk); (try clear hi)) | ((with_reducible refine gate_callee (f := 20) rfl ?_); refine goesL_ (some 27) rfl rfl Try.func20 (by kernel_rfl) rfl #[.slice A0 l0.length c0] rfl (by (try simp only [List.map_toArray, List.map_cons, List.map_nil]); first | done | rfl | (simp only [List.length_drop, List.length_take]; rfl)) ?_; (with_reducible refine (laws_toTermS.calls k _ _ l0 t235 _ ?side1 ?side2 A10.out).mono ?_); (case side1 => repeat (first | exact (Kd.C_below HR0.out HB.out) | (with_reducible refine Kd.C_alloc ?_ _) | (with_reducible refine Kd.C_drewN ?_ _) | (with_reducible refine Kd.C_drew ?_))); (case side2 => exact HC0.out); rintro e w35 ⟨v236, rfl, ho0, hb⟩; refine ⟨_, rfl, ?_⟩; have n0_ := Aside0.mk (Kd.R_elder' (by (with_reducible repeat (first | apply Kd.R_alloc | apply Kd.R_drewN | apply Kd.R_drew)); exact HO230.out) (Kd.R_base ho0) hb); have n1_ := Aside0.mk (Kd.R_below (by (with_reducible repeat (first | apply Kd.R_alloc | apply Kd.R_drewN | apply Kd.R_drew)); exact HO233.out) hb); have n2_ := Aside0.mk (Kd.R_lower (Kd.R_new' ho0 (Kd.R_lt (by (with_reducible repeat (first | apply Kd.R_alloc | apply Kd.R_drewN | apply Kd.R_drew)); exact HO230.out))) (below_size (by repeat (first | (with_reducible first | exact HB.out | apply below_alloc | apply pw_below_drewN | apply below_drew1) | exact HB.out)))); have n3_ := Aside0.mk (below_step (by repeat (first | (with_reducible first | exact HB.out | apply below_alloc | apply pw_below_drewN | apply below_drew1) | exact HB.out)) hb); clear HO230; clear HO233; clear HB; have HO230 := n0_; have HO233 := n1_; have HO237 := n2_; have HB := n3_; clear n0_ n1_ n2_ n3_; (try clear hb); (try clear hb2); (try clear hk); (try clear hi); (try clear ho0)) | ((with_reducible refine gate_callee (f := 24) rfl ?_); refine goesL_ (some 29) rfl rfl Try.func24 (by kernel_rfl) rfl #[.slice A1 l1.length c1] rfl (by (try simp only [List.map_toArray, List.map_cons, List.map_nil]); first | done | rfl | (simp only [List.length_drop, List.length_take]; rfl)) ?_; (with_reducible refine (laws_toInt64S.calls k _ _ l1 t238 _ ?side1 ?side2 A11.out).mono ?_); (case side1 => repeat (first | exact (Kd.C_below HR1.out HB.out) | (with_reducible refine Kd.C_alloc ?_ _) | (with_reducible refine Kd.C_drewN ?_ _) | (with_reducible refine Kd.C_drew ?_))); (case side2 => exact HC1.out); rintro e w36 ⟨v239, rfl, ho0, hb⟩; refine ⟨_, rfl, ?_⟩; have n0_ := Aside0.mk (Kd.R_below (by (with_reducible repeat (first | apply Kd.R_alloc | apply Kd.R_drewN | apply Kd.R_drew)); exact HO230.out) hb); have n1_ := Aside0.mk (Kd.R_elder' (by (with_reducible repeat (first | apply Kd.R_alloc | apply Kd.R_drewN | apply Kd.R_drew)); exact HO233.out) (Kd.R_base ho0) hb); have n2_ := Aside0.mk (Kd.R_below (by (with_reducible repeat (first | apply Kd.R_alloc | apply Kd.R_drewN | apply Kd.R_drew)); exact HO237.out) hb); have n3_ := Aside0.mk (Kd.R_lower (Kd.R_new' ho0 (Kd.R_lt (by (with_reducible repeat (first | apply Kd.R_alloc | apply Kd.R_drewN | apply Kd.R_drew)); exact HO233.out))) (below_size (by repeat (first | (with_reducible first | exact HB.out | apply below_alloc | apply pw_below_drewN | apply below_drew1) | exact HB.out)))); have n4_ := Aside0.mk (below_step (by repeat (first | (with_reducible first | exact HB.out | apply below_alloc | apply pw_below_drewN | apply below_drew1) | exact HB.out)) hb); clear HO230; clear HO233; clear HO237; clear HB; have HO230 := n0_; have HO233 := n1_; have HO237 := n2_; have HO240 := n3_; have HB := n4_; clear n0_ n1_ n2_ n3_ n4_; (try clear hb); (try clear hb2); (try clear hk); (try clear hi); (try clear ho0); obtain ⟨Ao37, co37, eo37⟩ := Kd.R_slice HO237.out; subst eo37; obtain ⟨Ao38, co38, eo38⟩ := Kd.R_slice HO240.out; subst eo38) | ((with_reducible refine gate_callee (f := 41) rfl ?_); refine goesL_ (some 33) rfl rfl Try.func41 (by kernel_rfl) rfl #[.slice Ao37 t235.length co37, .slice Ao38 t238.length co38, .int .i64 a2] rfl (by (try simp only [List.map_toArray, List.map_cons, List.map_nil]); first | done | rfl | (simp only [List.length_drop, List.length_take]; rfl)) ?_; (with_reducible refine (impl_CanMake.calls k _ _ t235 _ _ t238 a2 t241 _ ?side1 ?side2 ?side3 ?side4 A12.out).mono ?_); (case side1 => repeat (first | exact (Kd.R_reads' HO237.out).2.2 | (with_reducible refine Kd.C_alloc ?_ _) | (with_reducible refine Kd.C_drewN ?_ _) | (with_reducible refine Kd.C_drew ?_))); (case side2 => exact (Kd.R_reads' HO237.out).2.1); (case side3 => repeat (first | exact (Kd.R_reads' HO240.out).2.2 | (with_reducible refine Kd.C_alloc ?_ _) | (with_reducible refine Kd.C_drewN ?_ _) | (with_reducible refine Kd.C_drew ?_))); (case side4 => exact (Kd.R_reads' HO240.out).2.1); rintro e w39 ⟨rfl, hb⟩; refine ⟨_, rfl, ?_⟩; have n0_ := Aside0.mk (Kd.R_below (by (with_reducible repeat (first | apply Kd.R_alloc | apply Kd.R_drewN | apply Kd.R_drew)); exact HO230.out) hb); have n1_ := Aside0.mk (Kd.R_below (by (with_reducible repeat (first | apply Kd.R_alloc | apply Kd.R_drewN | apply Kd.R_drew)); exact HO233.out) hb); have n2_ := Aside0.mk (Kd.R_below (by (with_reducible repeat (first | apply Kd.R_alloc | apply Kd.R_drewN | apply Kd.R_drew)); exact HO237.out) hb); have n3_ := Aside0.mk (Kd.R_below (by (with_reducible repeat (first | apply Kd.R_alloc | apply Kd.R_drewN | apply Kd.R_drew)); exact HO240.out) hb); have n4_ := Aside0.mk (below_step (by repeat (first | (with_reducible first | exact HB.out | apply below_alloc | apply pw_below_drewN | apply below_drew1) | exact HB.out)) hb); clear HO230; clear HO233; clear HO237; clear HO240; clear HB; have HO230 := n0_; have HO233 := n1_; have HO237 := n2_; have HO240 := n3_; have HB := n4_; clear n0_ n1_ n2_ n3_ n4_; (try clear hb); (try clear hb2); (try clear hk); (try clear hi)) | ((with_reducible refine gate_callee (f := 20) rfl ?_); refine goesL_ (some 39) rfl rfl Try.func20 (by kernel_rfl) rfl #[.slice A0 l0.length c0] rfl (by (try simp only [List.map_toArray, List.map_cons, List.map_nil]); first | done | rfl | (simp only [List.length_drop, List.length_take]; rfl)) ?_; (with_reducible refine (laws_toTermS.calls k _ _ l0 t242 _ ?side1 ?side2 A24.out).mono ?_); (case side1 => repeat (first | exact (Kd.C_below HR0.out HB.out) | (with_reducible refine Kd.C_alloc ?_ _) | (with_reducible refine Kd.C_drewN ?_ _) | (with_reducible refine Kd.C_drew ?_))); (case side2 => exact HC0.out); rintro e w40 ⟨v243, rfl, ho0, hb⟩; refine ⟨_, rfl, ?_⟩; have n0_ := Aside0.mk (Kd.R_elder' (by (with_reducible repeat (first | apply Kd.R_alloc | apply Kd.R_drewN | apply Kd.R_drew)); exact HO230.out) (Kd.R_base ho0) hb); have n1_ := Aside0.mk (Kd.R_below (by (with_reducible repeat (first | apply Kd.R_alloc | apply Kd.R_drewN | apply Kd.R_drew)); exact HO233.out) hb); have n2_ := Aside0.mk (Kd.R_elder' (by (with_reducible repeat (first | apply Kd.R_alloc | apply Kd.R_drewN | apply Kd.R_drew)); exact HO237.out) (Kd.R_base ho0) hb); have n3_ := Aside0.mk (Kd.R_below (by (with_reducible repeat (first | apply Kd.R_alloc | apply Kd.R_drewN | apply Kd.R_drew)); exact HO240.out) hb); have n4_ := Aside0.mk (Kd.R_lower (Kd.R_new' (Kd.R_new' ho0 (Kd.R_lt (by (with_reducible repeat (first | apply Kd.R_alloc | apply Kd.R_drewN | apply Kd.R_drew)); exact HO230.out))) (Kd.R_lt (by (with_reducible repeat (first | apply Kd.R_alloc | apply Kd.R_drewN | apply Kd.R_drew)); exact HO237.out))) (below_size (by repeat (first | (with_reducible first | exact HB.out | apply below_alloc | apply pw_below_drewN | apply below_drew1) | exact HB.out)))); have n5_ := Aside0.mk (below_step (by repeat (first | (with_reducible first | exact HB.out | apply below_alloc | apply pw_below_drewN | apply below_drew1) | exact HB.out)) hb); clear HO230; clear HO233; clear HO237; clear HO240; clear HB; have HO230 := n0_; have HO233 := n1_; have HO237 := n2_; have HO240 := n3_; have HO244 := n4_; have HB := n5_; clear n0_ n1_ n2_ n3_ n4_ n5_; (try clear hb); (try clear hb2); (try clear hk); (try clear hi); (try clear ho0); obtain ⟨Ao41, co41, eo41⟩ := Kd.R_slice HO244.out; subst eo41) | ((with_reducible refine gate_callee (f := 22) rfl ?_); refine goesL_ (some 40) rfl rfl Try.func22 (by kernel_rfl) rfl #[.slice Ao37 t235.length co37, .slice Ao41 t242.length co41] rfl (by (try simp only [List.map_toArray, List.map_cons, List.map_nil]); first | done | rfl | (simp only [List.length_drop, List.length_take]; rfl)) ?_; (with_reducible refine (laws_eqTermS.calls k _ _ t235 _ _ t242 true _ ?side1 ?side2 ?side3 ?side4 A25.out).mono ?_); (case side1 => repeat (first | exact (Kd.R_reads' HO237.out).2.2 | (with_reducible refine Kd.C_alloc ?_ _) | (with_reducible refine Kd.C_drewN ?_ _) | (with_reducible refine Kd.C_drew ?_))); (case side2 => exact (Kd.R_reads' HO237.out).2.1); (case side3 => repeat (first | exact (Kd.R_reads' HO244.out).2.2 | (with_reducible refine Kd.C_alloc ?_ _) | (with_reducible refine Kd.C_drewN ?_ _) | (with_reducible refine Kd.C_drew ?_))); (case side4 => exact (Kd.R_reads' HO244.out).2.1); rintro e w42 ⟨rfl, hb⟩; refine ⟨_, rfl, ?_⟩; have n0_ := Aside0.mk (Kd.R_below (by (with_reducible repeat (first | apply Kd.R_alloc | apply Kd.R_drewN | apply Kd.R_drew)); exact HO230.out) hb); have n1_ := Aside0.mk (Kd.R_below (by (with_reducible repeat (first | apply Kd.R_alloc | apply Kd.R_drewN | apply Kd.R_drew)); exact HO233.out) hb); have n2_ := Aside0.mk (Kd.R_below (by (with_reducible repeat (first | apply Kd.R_alloc | apply Kd.R_drewN | apply Kd.R_drew)); exact HO237.out) hb); have n3_ := Aside0.mk (Kd.R_below (by (with_reducible repeat (first | apply Kd.R_alloc | apply Kd.R_drewN | apply Kd.R_drew)); exact HO240.out) hb); have n4_ := Aside0.mk (Kd.R_below (by (with_reducible repeat (first | apply Kd.R_alloc | apply Kd.R_drewN | apply Kd.R_drew)); exact HO244.out) hb); have n5_ := Aside0.mk (below_step (by repeat (first | (with_reducible first | exact HB.out | apply below_alloc | apply pw_below_drewN | apply below_drew1) | exact HB.out)) hb); clear HO230; clear HO233; clear HO237; clear HO240; clear HO244; clear HB; have HO230 := n0_; have HO233 := n1_; have HO237 := n2_; have HO240 := n3_; have HO244 := n4_; have HB := n5_; clear n0_ n1_ n2_ n3_ n4_ n5_; (try clear hb); (try clear hb2); (try clear hk); (try clear hi)) | ((with_reducible refine gate_callee (f := 24) rfl ?_); refine goesL_ (some 44) rfl rfl Try.func24 (by kernel_rfl) rfl #[.slice A1 l1.length c1] rfl (by (try simp only [List.map_toArray, List.map_cons, List.map_nil]); first | done | rfl | (simp only [List.length_drop, List.length_take]; rfl)) ?_; (with_reducible refine (laws_toInt64S.calls k _ _ l1 t246 _ ?side1 ?side2 A27.out).mono ?_); (case side1 => repeat (first | exact (Kd.C_below HR1.out HB.out) | (with_reducible refine Kd.C_alloc ?_ _) | (with_reducible refine Kd.C_drewN ?_ _) | (with_reducible refine Kd.C_drew ?_))); (case side2 => exact HC1.out); rintro e w43 ⟨v247, rfl, ho0, hb⟩; refine ⟨_, rfl, ?_⟩; have n0_ := Aside0.mk (Kd.R_below (by (with_reducible repeat (first | apply Kd.R_alloc | apply Kd.R_drewN | apply Kd.R_drew)); exact HO230.out) hb); have n1_ := Aside0.mk (Kd.R_elder' (by (with_reducible repeat (first | apply Kd.R_alloc | apply Kd.R_drewN | apply Kd.R_drew)); exact HO233.out) (Kd.R_base ho0) hb); have n2_ := Aside0.mk (Kd.R_below (by (with_reducible repeat (first | apply Kd.R_alloc | apply Kd.R_drewN | apply Kd.R_drew)); exact HO237.out) hb); have n3_ := Aside0.mk (Kd.R_elder' (by (with_reducible repeat (first | apply Kd.R_alloc | apply Kd.R_drewN | apply Kd.R_drew)); exact HO240.out) (Kd.R_base ho0) hb); have n4_ := Aside0.mk (Kd.R_below (by (with_reducible repeat (first | apply Kd.R_alloc | apply Kd.R_drewN | apply Kd.R_drew)); exact HO244.out) hb); have n5_ := Aside0.mk (Kd.R_lower (Kd.R_new' (Kd.R_new' ho0 (Kd.R_lt (by (with_reducible repeat (first | apply Kd.R_alloc | apply Kd.R_drewN | apply Kd.R_drew)); exact HO233.out))) (Kd.R_lt (by (with_reducible repeat (first | apply Kd.R_alloc | apply Kd.R_drewN | apply Kd.R_drew)); exact HO240.out))) (below_size (by repeat (first | (with_reducible first | exact HB.out | apply below_alloc | apply pw_below_drewN | apply below_drew1) | exact HB.out)))); have n6_ := Aside0.mk (below_step (by repeat (first | (with_reducible first | exact HB.out | apply below_alloc | apply pw_below_drewN | apply below_drew1) | exact HB.out)) hb); clear HO230; clear HO233; clear HO237; clear HO240; clear HO244; clear HB; have HO230 := n0_; have HO233 := n1_; have HO237 := n2_; have HO240 := n3_; have HO244 := n4_; have HO248 := n5_; have HB := n6_; clear n0_ n1_ n2_ n3_ n4_ n5_ n6_; (try clear hb); (try clear hb2); (try clear hk); (try clear hi); (try clear ho0); obtain ⟨Ao44, co44, eo44⟩ := Kd.R_slice HO248.out; subst eo44) | ((with_reducible refine gate_callee (f := 26) rfl ?_); refine goesL_ (some 45) rfl rfl Try.func26 (by kernel_rfl) rfl #[.slice Ao38 t238.length co38, .slice Ao44 t246.length co44] rfl (by (try simp only [List.map_toArray, List.map_cons, List.map_nil]); first | done | rfl | (simp only [List.length_drop, List.length_take]; rfl)) ?_; (with_reducible refine (laws_eqInt64S.calls k _ _ t238 _ _ t246 true _ ?side1 ?side2 ?side3 ?side4 A28.out).mono ?_); (case side1 => repeat (first | exact (Kd.R_reads' HO240.out).2.2 | (with_reducible refine Kd.C_alloc ?_ _) | (with_reducible refine Kd.C_drewN ?_ _) | (with_reducible refine Kd.C_drew ?_))); (case side2 => exact (Kd.R_reads' HO240.out).2.1); (case side3 => repeat (first | exact (Kd.R_reads' HO248.out).2.2 | (with_reducible refine Kd.C_alloc ?_ _) | (with_reducible refine Kd.C_drewN ?_ _) | (with_reducible refine Kd.C_drew ?_))); (case side4 => exact (Kd.R_reads' HO248.out).2.1); rintro e w' ⟨rfl, ⟨nd, rfl⟩⟩; refine ⟨_, rfl, ?_⟩))
      go_ret
      exact ⟨by first | rfl | (simp [errW_none, errW_some] <;> rfl) | (simp [*, errW_none, errW_some] <;> rfl), by repeat (first | (with_reducible first | exact HB.out | apply below_alloc | apply pw_below_drewN | apply below_drew1) | exact HB.out)⟩
     ·
      replace c29 := Bool.eq_false_iff.mpr c29
      subst c29
      have H1 : (some false) = some r := by rw [if_neg (show ¬ (false = true) by decide)] at H; exact H
      clear H
      have H := H1
      clear H1
      exact absurd (Option.some.inj H) (by rw [hr_]; decide)
    ·
     replace c26 := Bool.eq_false_iff.mpr c26
     subst c26
     have H1 : (some false) = some r := by rw [if_neg (show ¬ (false = true) by decide)] at H; exact H
     clear H
     have H := H1
     clear H1
     exact absurd (Option.some.inj H) (by rw [hr_]; decide)

end Go.Proofs.Ytihipdmjacplfaa.PFnExactCanMake
