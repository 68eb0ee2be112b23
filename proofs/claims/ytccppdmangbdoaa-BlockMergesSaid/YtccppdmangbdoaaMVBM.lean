-- a text of this work, without what this claim doesn't use (wip/shake.py)
import Derived.Test.YtccppdmangbdoaaMVE31
import Derived.Test.YtccppdmangbdoaaMVPentry
import Derived.Test.YtccppdmangbdoaaMVPawakeLb
import Derived.Test.YtccppdmangbdoaaMVPblockb
import Derived.Test.YtccppdmangbdoaaMVBM0
import Derived.Test.YtccppdmangbdoaaMVPvergerref5
import Derived.Deep.DeepCutAuto
import Derived.Deep.CutBlock
set_option linter.unusedVariables false
set_option linter.unusedSimpArgs false
namespace Go.Proofs.Ytccppdmangbdoaa.V
open Go.RowKit Go.Proofs.YtccppdmangbdoaaW.PrintWords Go.Proofs.YtccppdmangbdoaaW.PrintLast Go.Proofs.YtccppdmangbdoaaW.PrintMore
structure MSt (w W : World) (gb g9 : Nat) (G : Option Addr) (cg : Nat) (g : List Int) (A : Option Addr) (ca : Nat) (a : List E) (B : Option Addr) (cb : Nat) (b : List E) (A2 : Option Addr) (c2 : Nat) : Prop where
  gone : BxL W gb G cg g
  ra : k31.C W A a.length a
  rb : k31.C W B b.length b
  bx : W.heap[g9]? = some (.cells #[.int .i64 (mkB a).f0, .slice A2 (mkB a).f1.length c2] 26 (0, 0))
  rx : k31.C W A2 (mkB a).f1.length (mkB a).f1
  bel : Below w.heap.size w W
theorem MSt.below {w W W1 : World} {gb g9 : Nat} {G : Option Addr} {cg : Nat} {g : List Int} {A : Option Addr} {ca : Nat} {a : List E} {B : Option Addr} {cb : Nat} {b : List E} {A2 : Option Addr} {c2 : Nat} (h : MSt w W gb g9 G cg g A ca a B cb b A2 c2) (hb : Below W.heap.size W W1) : MSt w W1 gb g9 G cg g A ca a B cb b A2 c2 :=
 ⟨h.gone.below hb, Kd.C_below h.ra hb, Kd.C_below h.rb hb, blk_below h.bx hb, Kd.C_below h.rx hb, below_step h.bel hb⟩
theorem refof_N (A : Option Addr) (n c : Nat) (l : List E) (M : Bk) (w : World) (hn : n = l.length) (hr : k31.C w A l.length l) (hc : l.length ≤ c) (h : vergerref5_Of.f 2000 l = some (M.f0, M.f1)) :
 Calls Try.prog 14 #[.slice A n c] w fun e w' => ∃ v1_ : Value, e = .returned (.agg #[.int .i64 M.f0, v1_]) ∧ Kd.R k31 31 w' w.heap.size (fun _ => True) v1_ M.f1 ∧ Below w.heap.size w w' := by
 subst hn; exact vergerref5_Of.calls 2000 A c l _ _ w hr hc h
set_option maxRecDepth 100000 in
set_option maxHeartbeats 4000000 in
theorem blockMerges_walk (A : Option Addr) (ca : Nat) (a : List E) (B : Option Addr) (cb : Nat) (b : List E) (n : Int) (G : Option Addr) (cg : Nat) (g : List Int) (w : World) (hra : k31.C w A a.length a) (hca : a.length ≤ ca) (hrb : k31.C w B b.length b) (hcb : b.length ≤ cb) (hrg : Kd.C (Kd.int .i64) w G g.length g) (hcg : g.length ≤ cg) :
 Calls Try.prog 9 #[.slice A a.length ca, .slice B b.length cb, .int .i64 n, .slice G g.length cg] w fun e w' => e = .returned (.bool true) ∧ Below w.heap.size w w' := by
 have hz := below_alloc (Below.refl w.heap.size w) (.cells #[.slice G g.length cg] 56)
 have HZ := Aside0.mk hz
 have HL := Aside0.mk (show BxL (w.alloc (.cells #[.slice G g.length cg] 56)) w.heap.size G cg g from ⟨heap_alloc_new w _, Kd.C_below hrg hz, hcg⟩)
 have HCA := Aside0.mk (Kd.C_below hra hz)
 have HCB := Aside0.mk (Kd.C_below hrb hz)
 have hg63 : g.length ≤ 9223372036854775807 := hrg.2.1
 clear hz hra hrb hrg
 go_enter Try.func9, Try.ntmps9
 go_wp2_with fail
 obtain ⟨w0, hw0⟩ : ∃ w0 : World, w0 = w.alloc (.cells #[.slice G g.length cg] 56) := ⟨_, rfl⟩
 rw [← hw0] at HZ HL HCA HCB ⊢
 clear hw0
 by_cases ha : a.length ≤ 120
 · have hd : decide ((a.length : Int) ≤ 120) = true := decide_eq_true (by omega)
   refine (vergerlaw6_Few.calls A ca a true _ HCA.out hca (by rw [few_told, hd])).mono ?_
   rintro y w1 ⟨rfl, ⟨nd, rfl⟩⟩
   have HB1 := Aside0.mk (pw_below_drewN (Below.refl w0.heap.size w0) nd)
   have HCB1 := Aside0.mk (Kd.C_below HCB.out HB1.out)
   clear hd
   go_wp2_with fail
   by_cases hb : b.length ≤ 120
   · have hd : decide ((b.length : Int) ≤ 120) = true := decide_eq_true (by omega)
     refine (vergerlaw6_Few.calls B cb b true _ HCB1.out hcb (by rw [few_told, hd])).mono ?_
     rintro y w1 ⟨rfl, ⟨nd2, rfl⟩⟩
     have HB2 := Aside0.mk (below_step HB1.out (pw_below_drewN (Below.refl _ _) nd2))
     obtain ⟨w1, hw1⟩ : ∃ w1 : World, w1 = (w0.drewN nd).drewN nd2 := ⟨_, rfl⟩
     have HL1 := Aside0.mk (HL.out.below HB2.out)
     have HCA1 := Aside0.mk (Kd.C_below HCA.out HB2.out)
     have HCB2 := Aside0.mk (Kd.C_below HCB.out HB2.out)
     rw [← hw1] at HB2 HL1 HCA1 HCB2 ⊢
     clear hd hw1 HL HCA HCB HB1 HCB1
     have y7 := HL1.out.c0
     by_cases hg : g.length ≤ 100
     · have hg1 : ¬ (100 : Int) < (g.length : Int) := by omega
       have hg2 : ¬ (g.length : Int) > 100 := by omega
       have hg3 : decide ((g.length : Int) > 100) = false := decide_eq_false hg2
       have hg4 : decide (100 < g.length) = false := decide_eq_false (by omega)
       have HOA := Aside0.mk (show block_Of.f 1000 a = some ((mkB a).f0, (mkB a).f1) from of_told 1000 a (by omega) (by omega))
       have HOB := Aside0.mk (show block_Of.f 1000 b = some ((mkB b).f0, (mkB b).f1) from of_told 1000 b (by omega) (by omega))
       go_wp2_with fail
       clear hg1 hg2 hg3 hg4 y7
       refine (block_Of.calls 1000 A ca a _ _ _ HCA1.out hca HOA.out).mono ?_
       rintro y w2 ⟨v2, rfl, hv2, hb2⟩
       obtain ⟨A2, c2, rfl⟩ := Kd.V_slice hv2
       have HV2 := Aside0.mk hv2
       have HBB := Aside0.mk hb2
       have HCB3 := Aside0.mk (Kd.C_below HCB2.out hb2)
       clear hv2 hb2
       go_wp2_with fail
       refine (block_Of.calls 1000 B cb b _ _ _ HCB3.out hcb HOB.out).mono ?_
       rintro y w3 ⟨v3, rfl, hv3, hb3⟩
       obtain ⟨A3, c3, rfl⟩ := Kd.V_slice hv3
       have HV3 := Aside0.mk hv3
       have HV23 := Aside0.mk (Kd.V_below HV2.out hb3)
       have HBB3 := Aside0.mk (below_step HBB.out hb3)
       clear hv3 hb3 HV2 HBB HCB3
       have hx9 := heap_alloc_new w3 (.cells #[.int .i64 (mkB a).f0, .slice A2 (mkB a).f1.length c2] 26)
       have hz9 := below_alloc (Below.refl w3.heap.size w3) (.cells #[.int .i64 (mkB a).f0, .slice A2 (mkB a).f1.length c2] 26)
       have hz10 := below_alloc (Below.refl (w3.alloc (.cells #[.int .i64 (mkB a).f0, .slice A2 (mkB a).f1.length c2] 26)).heap.size (w3.alloc (.cells #[.int .i64 (mkB a).f0, .slice A2 (mkB a).f1.length c2] 26))) (.cells #[.int .i64 (mkB b).f0, .slice A3 (mkB b).f1.length c3] 26)
       have hz3 := below_step hz9 hz10
       have HVX := Aside0.mk (Kd.V_below HV23.out hz3)
       have HVY := Aside0.mk (Kd.V_below HV3.out hz3)
       have hb5 := below_step HBB3.out hz3
       have HS : Aside0 (MSt w _ w.heap.size w3.heap.size G cg g A ca a B cb b A2 c2) := ⟨HL1.out.below hb5, Kd.C_below HCA1.out hb5, Kd.C_below HCB2.out hb5, blk_below hx9 hz10, (Kd.V_reads' HVX.out).2.2, below_then HZ.out HZ.out.size (below_step HB2.out hb5)⟩
       have HC2 := Aside0.mk (Kd.V_reads' HVX.out).2.1
       clear hx9 hz9 hz10 hz3 hb5 HV23 HV3 HBB3 HL1 HCA1 HCB2 HB2
       go_wp2_with fail
       obtain ⟨g9, hg9⟩ : ∃ g9, g9 = w3.heap.size := ⟨_, rfl⟩
       rw [← hg9] at HS ⊢
       have hal : a.length + b.length ≤ 240 := by omega
       have HMG := Aside0.mk (merges_two 1000 a b (by omega) (by omega))
       refine (block_Merge.calls 1000 _ _ A2 c2 (mkB a).f1 _ _ A3 c3 (mkB b).f1 _ _ _ (Kd.V_map HVX.out (fun _ h => h)) (Kd.V_map HVY.out (fun _ h => h)) HMG.out).mono ?_
       rintro y w4 ⟨v4, rfl, hv4, hb4⟩
       obtain ⟨A4, c4, rfl⟩ := Kd.V_slice hv4
       obtain ⟨M, hM⟩ : ∃ M, mkB (a ++ b) = M := ⟨_, rfl⟩
       rw [hM] at hv4 ⊢
       have HM := Aside0.mk hM
       have HML := Aside0.mk (show M.f1.length = a.length + b.length by rw [← hM, mkB_len, List.length_append])
       have hz5 := below_alloc (Below.refl w4.heap.size w4) (.cells #[.int .i64 M.f0, .slice A4 M.f1.length c4] 26)
       have HX11 := Aside0.mk (heap_alloc_new w4 (.cells #[.int .i64 M.f0, .slice A4 M.f1.length c4] 26))
       have HR4 := Aside0.mk (show k31.C (w4.alloc (.cells #[.int .i64 M.f0, .slice A4 M.f1.length c4] 26)) A4 M.f1.length M.f1 ∧ M.f1.length ≤ c4 from ⟨Kd.C_below (Kd.V_reads' hv4).2.2 hz5, (Kd.V_reads' hv4).2.1⟩)
       have n_ := Aside0.mk ((HS.out.below hb4).below hz5)
       clear HS
       have HS := n_
       clear n_ hv4 hb4 hz5 hg9 hM HVX HVY HMG
       go_upto_region 5 with fail
       obtain ⟨w5, hw5⟩ : ∃ w5 : World, w5 = w4.alloc (.cells #[.int .i64 M.f0, .slice A4 M.f1.length c4] 26) := ⟨_, rfl⟩
       obtain ⟨g11, hg11⟩ : ∃ g11, g11 = w4.heap.size := ⟨_, rfl⟩
       rw [← hw5] at HX11 HR4 HS ⊢
       rw [← hg11] at HX11 ⊢
       clear hw5 hg11
       have mixed : Try.prog.follows .mixedOrders = true := by kernel_rfl
       go_cut [48] (fun s48 wx => s48 = .bool false ∧ Aside0 (MSt w wx w.heap.size g9 G cg g A ca a B cb b A2 c2))
       case first =>
        have HB := Aside0.mk (below_drew (Below.refl w5.heap.size w5))
        have HOF := Aside0.mk (show vergerref5_Of.f 2000 (a ++ b) = some (M.f0, M.f1) by rw [← HM.out]; exact refof_mk 2000 (a ++ b) (by simp; omega) (by simp; omega))
        refine start_ (n := 9) (S := fun w' => w'.cell? ⟨g11, 0, none⟩ = some (.int .i64 M.f0) ∧ w'.cell? ⟨g11, 1, none⟩ = some (.slice A4 M.f1.length c4)) (ds := []) #[false, false, false, false, false, false, false, false, false] (by kernel_rfl) rfl rfl ⟨(blk_cell (blk_below HX11.out HB.out) 0).trans rfl, (blk_cell (blk_below HX11.out HB.out) 1).trans rfl⟩ (fun hHeld => ?_)
        refine pure_ (i := 2) (N := (some 42)) (v := ?_) (a' := ?_) #[false, false, true, false, false, false, false, false, false] rfl rfl (by kernel_rfl) (fun _ _ _ h => h) (Or.inl ⟨by rfl, ?_⟩) ?_ ?_
        rotate_left
        · intro w'
          go_simp
          with_reducible rfl
        rotate_left
        · simp only [Act.put, List.setIfInBounds_toArray, List.set_cons_zero, List.set_cons_succ, i64_w, i32_w]
          rfl
        refine pure_ (i := 4) (N := (some 44)) (v := ?_) (a' := ?_) #[false, false, true, false, true, false, false, false, false] rfl rfl (by kernel_rfl) (fun _ _ _ h => h) (Or.inl ⟨by rfl, ?_⟩) ?_ ?_
        rotate_left
        · intro w'
          go_simp
          with_reducible rfl
        rotate_left
        · simp only [Act.put, List.setIfInBounds_toArray, List.set_cons_zero, List.set_cons_succ, i64_w, i32_w]
          rfl
        refine take_ (i := 0) (N := (some 40)) (v := ?_) (a' := ?_) #[true, false, true, false, true, false, false, false, false] rfl rfl (by kernel_rfl) (fun _ _ _ h => h) (Or.inl ⟨by rfl, ?_⟩) hHeld ?_ ?_
        rotate_left
        · rintro w' ⟨s0, s1⟩
          go_simp
          with_reducible rfl
        rotate_left
        · simp only [Act.put, List.setIfInBounds_toArray, List.set_cons_zero, List.set_cons_succ, i64_w, i32_w]
          rfl
        refine one_ (i := 1) (N := (some 41)) #[true, true, true, false, true, false, false, false, false] rfl rfl (by kernel_rfl) (by decide) (fun K hK => ?_)
        refine Kd.R_lit_step k31 _ 31 ?hg (N := 41) ?hd (xs := ([] : List E)) (inner := []) (ok := fun _ => True) (okp := fun _ => True) ?hr ?hp (fun _ hk => hk) trivial (Below.refl _ _) (Nat.le_refl _) (by simp) ?_; (case hd => rfl); (case hg => rfl); (case hr => first | (go_simp; done) | (go_simp; rfl)); (case hp => exact (Reps.none _ _))
        intro v6 w6 ho6 hb6 hg6 hnew6
        have n_ := Aside0.mk (Kd.R_lower ho6 HB.out.size)
        (try clear HO)
        have HO := n_
        clear n_
        have n_ := Aside0.mk (below_step HB.out hb6)
        (try clear HB)
        have HB := n_
        clear n_
        clear ho6 hb6 hg6 hnew6
        refine hK.out _ _ ⟨(blk_cell (blk_below HX11.out HB.out) 0).trans rfl, (blk_cell (blk_below HX11.out HB.out) 1).trans rfl⟩ (fun hHeld => ?_)
        clear hK K
        refine norm_ (a' := ?_) ?_ ?_
        rotate_left
        · show Act.put _ (some 41) _ = _
          simp only [Act.put, List.setIfInBounds_toArray, List.set_cons_zero, List.set_cons_succ, i64_w, i32_w]
          rfl
        refine one_ (i := 3) (N := (some 43)) #[true, true, true, true, true, false, false, false, false] rfl rfl (by kernel_rfl) (by decide) (fun K hK => ?_)
        refine Kd.R_append_rows_step k31 (w0 := w5) w5.heap.size (by rfl) (.tmp 41) (.tmp 42) 22 31 (.agg #[(.int .u64 0), (.int .i64 0)]) 16 rfl Try.underlying22 info31 rfl (by decide) (by omega) v6 [] a _ _ _ (fun _ => True) (fun _ => False) rfl rfl HO.out (Kd.C_below HS.out.ra HB.out) (fun _ _ h => h) (fun _ h => h.elim) (fun _ _ => trivial) HB.out HB.out.size (by (try simp only [List.length_nil, List.length_append]); omega) ?_
        intro v7 w7 ho hb hg hat
        (try rw [List.nil_append] at ho)
        clear HO HB
        have HO := Aside0.mk ho
        have HB := Aside0.mk hb
        clear ho hb hg hat
        refine hK.out _ _ ⟨(blk_cell (blk_below HX11.out HB.out) 0).trans rfl, (blk_cell (blk_below HX11.out HB.out) 1).trans rfl⟩ (fun hHeld => ?_)
        clear hK K
        refine norm_ (a' := ?_) ?_ ?_
        rotate_left
        · show Act.put _ (some 43) _ = _
          simp only [Act.put, List.setIfInBounds_toArray, List.set_cons_zero, List.set_cons_succ, i64_w, i32_w]
          rfl
        refine one_ (i := 5) (N := (some 45)) #[true, true, true, true, true, true, false, false, false] rfl rfl (by kernel_rfl) (by decide) (fun K hK => ?_)
        refine Kd.R_append_rows_step k31 (w0 := w5) w5.heap.size (by rfl) (.tmp 43) (.tmp 44) 22 31 (.agg #[(.int .u64 0), (.int .i64 0)]) 16 rfl Try.underlying22 info31 rfl (by decide) (by omega) v7 a b _ _ _ (fun _ => True) (fun _ => False) rfl rfl HO.out (Kd.C_below HS.out.rb HB.out) (fun _ _ h => h) (fun _ h => h.elim) (fun _ _ => trivial) HB.out HB.out.size (by (try simp only [List.length_nil, List.length_append]); omega) ?_
        intro v10 w10 ho hb hg hat
        (try rw [List.nil_append] at ho)
        clear HO HB
        have HO := Aside0.mk ho
        have HB := Aside0.mk hb
        clear ho hb hg hat
        refine hK.out _ _ ⟨(blk_cell (blk_below HX11.out HB.out) 0).trans rfl, (blk_cell (blk_below HX11.out HB.out) 1).trans rfl⟩ (fun hHeld => ?_)
        clear hK K
        refine norm_ (a' := ?_) ?_ ?_
        rotate_left
        · show Act.put _ (some 45) _ = _
          simp only [Act.put, List.setIfInBounds_toArray, List.set_cons_zero, List.set_cons_succ, i64_w, i32_w]
          rfl
        refine one_ (i := 6) (N := (some 46)) #[true, true, true, true, true, true, true, false, false] rfl rfl (by kernel_rfl) (by decide) (fun K hK => ?_)
        obtain ⟨A11, c11, e_⟩ := Kd.R_slice HO.out
        subst e_
        have HN := Aside0.mk (Kd.R_reads' HO.out)
        refine goes_ Try.func14 (by kernel_rfl) rfl #[.slice A11 (a ++ b).length c11] (by rfl) rfl rfl (by (try simp only [List.map_toArray, List.map_cons, List.map_nil]); first | done | rfl) ?_
        refine (vergerref5_Of.calls 2000 A11 c11 (a ++ b) _ _ _ HN.out.2.2 HN.out.2.1 HOF.out).mono ?_
        rintro y w8 ⟨v8, rfl, hv8, hb8⟩
        obtain ⟨A8, c8, e_⟩ := Kd.R_slice hv8
        subst e_
        have HN8 := Aside0.mk (Kd.R_reads' hv8)
        have n_ := Aside0.mk (below_step HB.out hb8)
        (try clear HB)
        have HB := n_
        clear n_
        clear hv8 hb8
        refine ⟨_, rfl, ?_⟩
        refine hK.out _ _ ⟨(blk_cell (blk_below HX11.out HB.out) 0).trans rfl, (blk_cell (blk_below HX11.out HB.out) 1).trans rfl⟩ (fun hHeld => ?_)
        clear hK K
        refine norm_ (a' := ?_) ?_ ?_
        rotate_left
        · show Act.put _ (some 46) _ = _
          simp only [Act.put, List.setIfInBounds_toArray, List.set_cons_zero, List.set_cons_succ, i64_w, i32_w]
          rfl
        refine one_ (i := 7) (N := (some 47)) #[true, true, true, true, true, true, true, true, false] rfl rfl (by kernel_rfl) (by decide) (fun K hK => ?_)
        refine goes_ Try.func15 (by kernel_rfl) rfl #[.agg #[.int .i64 M.f0, .slice A4 M.f1.length c4], .agg #[.int .i64 M.f0, .slice A8 M.f1.length c8]] (by rfl) rfl rfl (by (try simp only [List.map_toArray, List.map_cons, List.map_nil]); first | done | rfl) ?_
        refine (vergerlaw6_Same.calls 2000 M.f0 _ _ M.f1 M.f0 _ _ M.f1 true _ (Kd.C_below HR4.out.1 HB.out) HR4.out.2 HN8.out.2.2 HN8.out.2.1 (same6_tells 2000 M.f0 M.f1 (by have := HML.out; omega) (by have := HML.out; omega))).mono ?_
        rintro y w9 ⟨rfl, hb9⟩
        have n_ := Aside0.mk (below_step HB.out hb9)
        (try clear HB)
        have HB := n_
        clear n_
        clear hb9
        refine ⟨_, rfl, ?_⟩
        refine hK.out _ _ ⟨(blk_cell (blk_below HX11.out HB.out) 0).trans rfl, (blk_cell (blk_below HX11.out HB.out) 1).trans rfl⟩ (fun hHeld => ?_)
        clear hK K
        refine norm_ (a' := ?_) ?_ ?_
        rotate_left
        · show Act.put _ (some 47) _ = _
          simp only [Act.put, List.setIfInBounds_toArray, List.set_cons_zero, List.set_cons_succ, i64_w, i32_w]
          rfl
        refine pure_ (i := 8) (N := (some 48)) (v := ?_) (a' := ?_) #[true, true, true, true, true, true, true, true, true] rfl rfl (by kernel_rfl) (fun _ _ _ h => h) (Or.inl ⟨by rfl, ?_⟩) ?_ ?_
        rotate_left
        · intro w'
          go_simp
          with_reducible rfl
        rotate_left
        · simp only [Act.put, List.setIfInBounds_toArray, List.set_cons_zero, List.set_cons_succ, i64_w, i32_w]
          rfl
        refine done_ (by kernel_rfl) ?_
        go_wp2_with fail
        go_meet
        exact ⟨rfl, ⟨HS.out.below HB.out⟩⟩
       case rest =>
        obtain ⟨rfl, HS6⟩ := hcut
        clear HS HX11 HR4 HML HM
        rename World => w6
        obtain ⟨keep, hkeep⟩ : ∃ keep : E → Bool, keep = fun e => !hasN g e.f1 := ⟨_, rfl⟩
        have HKP := Aside0.mk hkeep
        clear hkeep
        obtain ⟨L, hL⟩ : ∃ L, a.filter keep = L := ⟨_, rfl⟩
        have HLL := Aside0.mk hL
        clear hL
        go_wp2_with fail
        go_loopw [12, 13] (fun s12 s13 wr => ∃ i : Nat, s13 = .int .i64 i ∧ i ≤ a.length ∧ Aside0 (Kd.R k31 31 wr w6.heap.size (fun _ => True) s12 ((a.take i).filter keep)) ∧ Aside0 (Below w6.heap.size w6 wr)) (fun _ i _ => a.length - (intOf i).toNat)
        case atStart => exact ⟨0, rfl, Nat.zero_le _, ⟨Kd.R_nil _ _ _ _ _⟩, ⟨Below.refl _ _⟩⟩
        case round =>
         obtain ⟨i, rfl, hi, HO, HB⟩ := hrel
         by_cases hlt : i < a.length
         · obtain ⟨e, he⟩ : ∃ e, a[i]? = some e := ⟨_, List.getElem?_eq_getElem hlt⟩
           obtain ⟨ad, e1, y0, y1⟩ := at_T31 (Kd.C_drew (Kd.C_below HS6.out.ra HB.out)) (i : Int) (by omega) (by omega)
           subst e1
           rw [Int.toNat_natCast, rd_someG he] at y0 y1
           have HT := Aside0.mk (filt_take (p := keep) he)
           have HGB := Aside0.mk ((HS6.out.gone.below HB.out).below (below_drew (Below.refl _ _)))
           have y7 := HGB.out.c0
           have HTL := Aside0.mk (show ((a.take i).filter keep).length ≤ 1000 from Nat.le_trans (List.length_filter_le _ _) (by rw [List.length_take]; omega))
           have HBD := Aside0.mk (below_drew HB.out)
           have hil : (i : Int) < (a.length : Int) := by omega
           have hi0 : (0 : Int) ≤ (i : Int) := by omega
           clear he
           obtain ⟨r, hr⟩ : ∃ r, hasN g e.f1 = r := ⟨_, rfl⟩
           have HH := Aside0.mk (show vergerlaw6_has.f 1000 g e.f1 = some r by rw [has_told 1000 g e.f1 (by omega) (by omega), hr])
           have HR_ := Aside0.mk hr
           clear hr
           go_wp2_with fail
           refine start_ (n := 8) (S := fun w' => w'.cell? ⟨w.heap.size, 0, none⟩ = some (.slice G g.length cg) ∧ w'.cell? ⟨(ad.add (i * 2)).block, (ad.add (i * 2)).off + 1, none⟩ = some (.int .i64 e.f1) ∧ w'.cell? (ad.add (i * 2)) = some (.int .u64 e.f0)) (ds := []) #[false, false, false, false, false, false, false, false] (by kernel_rfl) rfl rfl ⟨y7, y1, y0⟩ (fun hHeld => ?_)
           refine pure_ (i := 1) (N := (some 56)) (v := ?_) (a' := ?_) #[false, true, false, false, false, false, false, false] rfl rfl (by kernel_rfl) (fun _ _ _ h => h) (Or.inl ⟨by rfl, ?_⟩) ?_ ?_
           rotate_left
           · intro w'
             go_simp
             with_reducible rfl
           rotate_left
           · simp only [Act.put, List.setIfInBounds_toArray, List.set_cons_zero, List.set_cons_succ, i64_w, i32_w]
             rfl
           refine pure_ (i := 2) (N := (some 57)) (v := ?_) (a' := ?_) #[false, true, true, false, false, false, false, false] rfl rfl (by kernel_rfl) (fun _ _ _ h => h) (Or.inl ⟨by rfl, ?_⟩) ?_ ?_
           rotate_left
           · intro w'
             go_simp
             with_reducible rfl
           rotate_left
           · simp only [Act.put, List.setIfInBounds_toArray, List.set_cons_zero, List.set_cons_succ, i64_w, i32_w]
             rfl
           refine pure_ (i := 3) (N := (some 58)) (v := ?_) (a' := ?_) #[false, true, true, true, false, false, false, false] rfl rfl (by kernel_rfl) (fun _ _ _ h => h) (Or.inl ⟨by rfl, ?_⟩) ?_ ?_
           rotate_left
           · intro w'
             go_simp
             with_reducible rfl
           rotate_left
           · simp only [Act.put, List.setIfInBounds_toArray, List.set_cons_zero, List.set_cons_succ, i64_w, i32_w]
             rfl
           refine pure_ (i := 4) (N := (some 59)) (v := ?_) (a' := ?_) #[false, true, true, true, true, false, false, false] rfl rfl (by kernel_rfl) (fun _ _ _ h => h) (Or.inl ⟨by rfl, ?_⟩) ?_ ?_
           rotate_left
           · intro w'
             go_simp
             with_reducible rfl
           rotate_left
           · simp only [Act.put, List.setIfInBounds_toArray, List.set_cons_zero, List.set_cons_succ, i64_w, i32_w]
             rfl
           refine take_ (i := 0) (N := (some 55)) (v := ?_) (a' := ?_) #[true, true, true, true, true, false, false, false] rfl rfl (by kernel_rfl) (fun _ _ _ h => h) (Or.inl ⟨by rfl, ?_⟩) hHeld ?_ ?_
           rotate_left
           · rintro w' ⟨s0, s1, s2⟩
             go_simp
             with_reducible rfl
           rotate_left
           · simp only [Act.put, List.setIfInBounds_toArray, List.set_cons_zero, List.set_cons_succ, i64_w, i32_w]
             rfl
           refine take_ (i := 5) (N := (some 60)) (v := ?_) (a' := ?_) #[true, true, true, true, true, true, false, false] rfl rfl (by kernel_rfl) (fun _ _ _ h => h) (Or.inl ⟨by rfl, ?_⟩) hHeld ?_ ?_
           rotate_left
           · rintro w' ⟨s0, s1, s2⟩
             go_simp
             with_reducible rfl
           rotate_left
           · simp only [Act.put, List.setIfInBounds_toArray, List.set_cons_zero, List.set_cons_succ, i64_w, i32_w]
             rfl
           refine one_ (i := 6) (N := (some 61)) #[true, true, true, true, true, true, true, false] rfl rfl (by kernel_rfl) (by decide) (fun K hK => ?_)
           refine goes_ Try.func32 (by kernel_rfl) rfl #[.slice G g.length cg, .int .i64 e.f1] (by rfl) rfl rfl (by (try simp only [List.map_toArray, List.map_cons, List.map_nil]); first | done | rfl) ?_
           refine (vergerlaw6_has.calls 1000 G cg g e.f1 r _ HGB.out.2.1 HGB.out.2.2 HH.out).mono ?_
           rintro y w8 ⟨rfl, ⟨nd, hnd⟩⟩
           have hd_ : Below wr.drew.heap.size wr.drew w8 := by rw [hnd]; exact pw_below_drewN (Below.refl _ _) nd
           have HDD := Aside0.mk (below_step (below_drew (Below.refl wr.heap.size wr)) hd_)
           clear hnd
           have HB8 := Aside0.mk (below_step HBD.out hd_)
           have k7 := pw_cell_below hd_ y7
           have k1 := pw_cell_below hd_ y1
           have k0 := pw_cell_below hd_ y0
           clear hd_
           refine ⟨_, rfl, ?_⟩
           refine hK.out _ _ ⟨k7, k1, k0⟩ (fun hHeld => ?_)
           clear hK K
           refine norm_ (a' := ?_) ?_ ?_
           rotate_left
           · show Act.put _ (some 61) _ = _
             simp only [Act.put, List.setIfInBounds_toArray, List.set_cons_zero, List.set_cons_succ, i64_w, i32_w]
             rfl
           refine pure_ (i := 7) (N := (some 62)) (v := ?_) (a' := ?_) #[true, true, true, true, true, true, true, true] rfl rfl (by kernel_rfl) (fun _ _ _ h => h) (Or.inl ⟨by rfl, ?_⟩) ?_ ?_
           rotate_left
           · intro w'
             go_simp
             with_reducible rfl
           rotate_left
           · simp only [Act.put, List.setIfInBounds_toArray, List.set_cons_zero, List.set_cons_succ, i64_w, i32_w]
             rfl
           refine done_ (by kernel_rfl) ?_
           cases r with
           | true =>
            have HT2 := HT.out
            rw [show keep e = false by rw [HKP.out]; show (!hasN g e.f1) = false; rw [HR_.out]; rfl, if_neg (by simp), List.append_nil] at HT2
            have HT3 := Aside0.mk HT2
            clear HT2
            go_wp2_with fail
            go_roundw
            case rel => exact ⟨i + 1, by go_num, by omega, ⟨by rw [HT3.out]; exact Kd.R_below HO.out HDD.out⟩, HB8⟩
            case measure => simp [intOf]; omega
           | false =>
            have HT2 := HT.out
            rw [show keep e = true by rw [HKP.out]; show (!hasN g e.f1) = true; rw [HR_.out]; rfl, if_pos rfl] at HT2
            have HT3 := Aside0.mk HT2
            have HO8 := Aside0.mk (Kd.R_below HO.out HDD.out)
            clear HT2
            go_wp2_with ((with_reducible refine gate_builtin (b := .append) (xs := #[.tmp 63, .tmp 68]) rfl ?_); at_builtin; go_loud (refine Kd.R_append k31 (w0 := w6) w6.heap.size rfl (.tmp 63) (.tmp 68) 22 31 (.agg #[(.int .u64 0), (.int .i64 0)]) 16 rfl Try.underlying22 info31 rfl (by decide) (by decide) _ ((a.take i).filter keep) e [.int .u64 e.f0, .int .i64 e.f1] (fun _ => True) (fun _ => False) rfl (by simp [Act.eval]) (k31_mkM _ _ _ e) (fun _ hk => hk.elim) (fun _ _ => trivial) HO8.out HB8.out HB8.out.size (by have := HTL.out; omega) ?_; intro v1 w9 ho1 hb1 hg1 hat1; have HX1 := Aside0.mk ho1; have HB1 := Aside0.mk hb1; clear ho1 hb1 hg1 hat1))
            go_roundw
            case rel => exact ⟨i + 1, by go_num, by omega, ⟨by rw [HT3.out]; exact HX1.out⟩, HB1⟩
            case measure => simp [intOf]; omega
         · obtain rfl : i = a.length := by omega
           rw [List.take_length, HLL.out] at HO
           clear hlt hi
           obtain ⟨A12, c12, e12⟩ := Kd.R_slice HO.out
           subst e12
           have HN12 := Aside0.mk (Kd.R_reads' HO.out)
           have HS7 := Aside0.mk (HS6.out.below HB.out)
           have HLB := Aside0.mk (show L.length ≤ 120 by rw [← HLL.out]; exact Nat.le_trans (List.length_filter_le _ _) ha)
           have HLM := Aside0.mk (show mkB ((mkB a).f1.filter fun e => !hasN g e.f1) = mkB L by rw [left_mk, ← HLL.out, HKP.out])
           have y90 := (blk_cell HS7.out.bx 0).trans rfl
           have y91 := (blk_cell HS7.out.bx 1).trans rfl
           clear HO HS6 HB
           rename World => w7
           go_wp2_with fail
           refine (shrink_gen (mkB a) A2 c2 _ (askM1 w.heap.size G cg g hg) HS7.out.rx HC2.out (by rw [mkB_len]; omega) HS7.out.gone).mono ?_
           rintro y w8 ⟨A8, c8, rfl, hv8, hb8⟩
           rw [HLM.out] at hv8 ⊢
           obtain ⟨N, hN⟩ : ∃ N, mkB L = N := ⟨_, rfl⟩
           rw [hN] at hv8 ⊢
           have HNN := Aside0.mk hN
           have HNL := Aside0.mk (show N.f1.length ≤ 120 by rw [← hN, mkB_len]; exact HLB.out)
           have hz9 := below_alloc (Below.refl w8.heap.size w8) (.cells #[.int .i64 N.f0, .slice A8 N.f1.length c8] 26)
           have HX14 := Aside0.mk (heap_alloc_new w8 (.cells #[.int .i64 N.f0, .slice A8 N.f1.length c8] 26))
           have HR8 := Aside0.mk (show k31.C (w8.alloc (.cells #[.int .i64 N.f0, .slice A8 N.f1.length c8] 26)) A8 N.f1.length N.f1 ∧ N.f1.length ≤ c8 from ⟨Kd.C_below (Kd.V_reads' hv8).2.2 hz9, (Kd.V_reads' hv8).2.1⟩)
           have HS8 := Aside0.mk (HS7.out.below (below_step hb8 hz9))
           have HR12 := Aside0.mk (Kd.C_below HN12.out.2.2 (below_step hb8 hz9))
           have HC12 := Aside0.mk HN12.out.2.1
           clear hv8 hb8 hz9 hN HS7 HN12 HLM y90 y91
           go_upto_region 14 with fail
           obtain ⟨w9, hw9⟩ : ∃ w9 : World, w9 = w8.alloc (.cells #[.int .i64 N.f0, .slice A8 N.f1.length c8] 26) := ⟨_, rfl⟩
           obtain ⟨g14, hg14⟩ : ∃ g14, g14 = w8.heap.size := ⟨_, rfl⟩
           rw [← hw9] at HX14 HR8 HS8 HR12 ⊢
           rw [← hg14] at HX14 ⊢
           clear hw9 hg14
           go_cut [77] (fun s77 wx => s77 = .bool false ∧ Aside0 (MSt w wx w.heap.size g9 G cg g A ca a B cb b A2 c2))
           case first =>
            have HB := Aside0.mk (below_drew (Below.refl w9.heap.size w9))
            have HOF := Aside0.mk (show vergerref5_Of.f 2000 L = some (N.f0, N.f1) by rw [← HNN.out]; exact refof_mk 2000 L (by have := HLB.out; omega) (by have := HLB.out; omega))
            refine start_ (n := 5) (S := fun w' => w'.cell? ⟨g14, 0, none⟩ = some (.int .i64 N.f0) ∧ w'.cell? ⟨g14, 1, none⟩ = some (.slice A8 N.f1.length c8)) (ds := []) #[false, false, false, false, false] (by kernel_rfl) rfl rfl ⟨(blk_cell (blk_below HX14.out HB.out) 0).trans rfl, (blk_cell (blk_below HX14.out HB.out) 1).trans rfl⟩ (fun hHeld => ?_)
            refine pure_ (i := 1) (N := (some 74)) (v := ?_) (a' := ?_) #[false, true, false, false, false] rfl rfl (by kernel_rfl) (fun _ _ _ h => h) (Or.inl ⟨by rfl, ?_⟩) ?_ ?_
            rotate_left
            · intro w'
              go_simp
              with_reducible rfl
            rotate_left
            · simp only [Act.put, List.setIfInBounds_toArray, List.set_cons_zero, List.set_cons_succ, i64_w, i32_w]
              rfl
            refine take_ (i := 0) (N := (some 73)) (v := ?_) (a' := ?_) #[true, true, false, false, false] rfl rfl (by kernel_rfl) (fun _ _ _ h => h) (Or.inl ⟨by rfl, ?_⟩) hHeld ?_ ?_
            rotate_left
            · rintro w' ⟨s0, s1⟩
              go_simp
              with_reducible rfl
            rotate_left
            · simp only [Act.put, List.setIfInBounds_toArray, List.set_cons_zero, List.set_cons_succ, i64_w, i32_w]
              rfl
            refine one_ (i := 2) (N := (some 75)) #[true, true, true, false, false] rfl rfl (by kernel_rfl) (by decide) (fun K hK => ?_)
            refine goes_ Try.func14 (by kernel_rfl) rfl #[.slice A12 L.length c12] (by rfl) rfl rfl (by (try simp only [List.map_toArray, List.map_cons, List.map_nil]); first | done | rfl) ?_
            refine (vergerref5_Of.calls 2000 A12 c12 L _ _ _ (Kd.C_below HR12.out HB.out) HC12.out HOF.out).mono ?_
            rintro y w10 ⟨v10, rfl, hv10, hb10⟩
            obtain ⟨A10, c10, e_⟩ := Kd.R_slice hv10
            subst e_
            have HN8 := Aside0.mk (Kd.R_reads' hv10)
            have n_ := Aside0.mk (below_step HB.out hb10)
            (try clear HB)
            have HB := n_
            clear n_
            clear hv10 hb10
            refine ⟨_, rfl, ?_⟩
            refine hK.out _ _ ⟨(blk_cell (blk_below HX14.out HB.out) 0).trans rfl, (blk_cell (blk_below HX14.out HB.out) 1).trans rfl⟩ (fun hHeld => ?_)
            clear hK K
            refine norm_ (a' := ?_) ?_ ?_
            rotate_left
            · show Act.put _ (some 75) _ = _
              simp only [Act.put, List.setIfInBounds_toArray, List.set_cons_zero, List.set_cons_succ, i64_w, i32_w]
              rfl
            refine one_ (i := 3) (N := (some 76)) #[true, true, true, true, false] rfl rfl (by kernel_rfl) (by decide) (fun K hK => ?_)
            refine goes_ Try.func15 (by kernel_rfl) rfl #[.agg #[.int .i64 N.f0, .slice A8 N.f1.length c8], .agg #[.int .i64 N.f0, .slice A10 N.f1.length c10]] (by rfl) rfl rfl (by (try simp only [List.map_toArray, List.map_cons, List.map_nil]); first | done | rfl) ?_
            refine (vergerlaw6_Same.calls 2000 N.f0 _ _ N.f1 N.f0 _ _ N.f1 true _ (Kd.C_below HR8.out.1 HB.out) HR8.out.2 HN8.out.2.2 HN8.out.2.1 (same6_tells 2000 N.f0 N.f1 (by have := HNL.out; omega) (by have := HNL.out; omega))).mono ?_
            rintro y w9 ⟨rfl, hb9⟩
            have n_ := Aside0.mk (below_step HB.out hb9)
            (try clear HB)
            have HB := n_
            clear n_
            clear hb9
            refine ⟨_, rfl, ?_⟩
            refine hK.out _ _ ⟨(blk_cell (blk_below HX14.out HB.out) 0).trans rfl, (blk_cell (blk_below HX14.out HB.out) 1).trans rfl⟩ (fun hHeld => ?_)
            clear hK K
            refine norm_ (a' := ?_) ?_ ?_
            rotate_left
            · show Act.put _ (some 76) _ = _
              simp only [Act.put, List.setIfInBounds_toArray, List.set_cons_zero, List.set_cons_succ, i64_w, i32_w]
              rfl
            refine pure_ (i := 4) (N := (some 77)) (v := ?_) (a' := ?_) #[true, true, true, true, true] rfl rfl (by kernel_rfl) (fun _ _ _ h => h) (Or.inl ⟨by rfl, ?_⟩) ?_ ?_
            rotate_left
            · intro w'
              go_simp
              with_reducible rfl
            rotate_left
            · simp only [Act.put, List.setIfInBounds_toArray, List.set_cons_zero, List.set_cons_succ, i64_w, i32_w]
              rfl
            refine done_ (by kernel_rfl) ?_
            go_wp2_with fail
            go_meet
            exact ⟨rfl, ⟨HS8.out.below HB.out⟩⟩
           case rest =>
            obtain ⟨rfl, HS9⟩ := hcut
            clear HS8 HX14 HR8 HR12 HC12 HNL HNN HLB HLL
            obtain ⟨X, hX⟩ : ∃ X, (mkB a).f1 = X := ⟨_, rfl⟩
            have HXL := Aside0.mk (show X.length = a.length by rw [← hX, mkB_len])
            have HSRT := Aside0.mk (show vergerref5_Sort.f 1000 a = some X by rw [← hX]; exact refsort_told 1000 a (by omega) (by omega))
            obtain ⟨c, hc⟩ : ∃ c, clampN n X.length = c := ⟨_, rfl⟩
            have hcx : c ≤ X.length := by rw [← hc]; exact clampN_le n X.length
            have hmk : min (max n 0) (X.length : Int) = (c : Int) := by
             rw [← hc]
             unfold clampN mn mx
             (repeat' split) <;> omega
            have HCUT := Aside0.mk (show block_Cut.f 1000 (mkB a).f0 X n = some ((mkB (X.take c)).f0, (mkB (X.take c)).f1, (mkB (X.drop c)).f0, (mkB (X.drop c)).f1) by rw [← hc]; exact cut_mk 1000 _ X n (by have := HXL.out; omega) (by omega))
            have HC2X := Aside0.mk (show X.length ≤ c2 by rw [← hX]; exact HC2.out)
            clear hc
            go_wp2_with fail
            refine (vergerref5_Sort.calls 1000 A ca a X _ HS9.out.ra hca HSRT.out).mono ?_
            rintro y wA ⟨vA, rfl, hvA, hbA⟩
            obtain ⟨A16, c16, e_⟩ := Kd.R_slice hvA
            subst e_
            have HNA := Aside0.mk (Kd.R_reads' hvA)
            have HSA := Aside0.mk (HS9.out.below hbA)
            have HRX := Aside0.mk (show k31.C wA A2 X.length X by rw [← hX]; exact HSA.out.rx)
            have y90 := (blk_cell HSA.out.bx 0).trans rfl
            have y91 := (blk_cell HSA.out.bx 1).trans rfl
            rw [hX] at y91
            clear hvA hbA HS9
            go_wp2_with fail
            refine (block_Cut.calls 1000 (mkB a).f0 A2 c2 X n _ _ _ _ _ HRX.out HC2X.out HCUT.out).mono ?_
            rintro y wB ⟨v1, v3, rfl, hv1, hv3, hbB⟩
            obtain ⟨AF, cF, rfl⟩ := Kd.V_slice hv1
            obtain ⟨AH, cH, rfl⟩ := Kd.V_slice hv3
            obtain ⟨F, hF⟩ : ∃ F, mkB (X.take c) = F := ⟨_, rfl⟩
            obtain ⟨H, hH⟩ : ∃ H, mkB (X.drop c) = H := ⟨_, rfl⟩
            rw [hF] at hv1 ⊢
            rw [hH] at hv3 ⊢
            have HFF := Aside0.mk hF
            have HHH := Aside0.mk hH
            have hzA := below_alloc (Below.refl wB.heap.size wB) (.cells #[.int .i64 F.f0, .slice AF F.f1.length cF] 26)
            have hzB := below_alloc (Below.refl (wB.alloc (.cells #[.int .i64 F.f0, .slice AF F.f1.length cF] 26)).heap.size (wB.alloc (.cells #[.int .i64 F.f0, .slice AF F.f1.length cF] 26))) (.cells #[.int .i64 H.f0, .slice AH H.f1.length cH] 26)
            have hx17 := heap_alloc_new wB (.cells #[.int .i64 F.f0, .slice AF F.f1.length cF] 26)
            have hx18 := heap_alloc_new (wB.alloc (.cells #[.int .i64 F.f0, .slice AF F.f1.length cF] 26)) (.cells #[.int .i64 H.f0, .slice AH H.f1.length cH] 26)
            rw [World.size_alloc] at hx18
            have HX17 := Aside0.mk (blk_below hx17 hzB)
            have HX18 := Aside0.mk hx18
            have hzz := below_step hzA hzB
            have HRF := Aside0.mk (show _ ∧ _ from ⟨Kd.C_below (Kd.V_reads' hv1).2.2 hzz, (Kd.V_reads' hv1).2.1⟩)
            have HRH := Aside0.mk (show _ ∧ _ from ⟨Kd.C_below (Kd.V_reads' hv3).2.2 hzz, (Kd.V_reads' hv3).2.1⟩)
            have HRS := Aside0.mk (show _ ∧ _ from ⟨Kd.C_below HNA.out.2.2 (below_step hbB hzz), HNA.out.2.1⟩)
            have HBE := Aside0.mk (below_step HSA.out.bel (below_step hbB hzz))
            clear hv1 hv3 hbB hzA hzB hx17 hx18 hzz hF hH HNA HSA HRX y90 y91
            go_upto_region 19 with fail
            obtain ⟨wC, hwC⟩ : ∃ wC : World, wC = (wB.alloc (.cells #[.int .i64 F.f0, .slice AF F.f1.length cF] 26)).alloc (.cells #[.int .i64 H.f0, .slice AH H.f1.length cH] 26) := ⟨_, rfl⟩
            obtain ⟨g18, hg18⟩ : ∃ g18, g18 = wB.heap.size + 1 := ⟨_, rfl⟩
            obtain ⟨g17, hg17⟩ : ∃ g17, g17 = wB.heap.size := ⟨_, rfl⟩
            rw [← hwC] at HX17 HX18 HRF HRH HRS HBE ⊢
            rw [← hg18] at HX18 ⊢
            rw [← hg17] at HX17 ⊢
            clear hwC hg18 hg17
            have HB := Aside0.mk (below_drew (Below.refl wC.heap.size wC))
            have HCX := Aside0.mk hcx
            have HLT := Aside0.mk (show (X.take c).length ≤ c16 by rw [List.length_take]; have := HRS.out.2; omega)
            have HLD := Aside0.mk (show (X.drop c).length ≤ c16 - c by rw [List.length_drop]; have := HRS.out.2; omega)
            have HFL := Aside0.mk (show F.f1.length ≤ 120 by rw [← HFF.out, mkB_len, List.length_take]; have := HXL.out; omega)
            have HHL := Aside0.mk (show H.f1.length ≤ 120 by rw [← HHH.out, mkB_len, List.length_drop]; have := HXL.out; omega)
            have HOF1 := Aside0.mk (show vergerref5_Of.f 2000 (X.take c) = some (F.f0, F.f1) by rw [← HFF.out]; exact refof_mk 2000 _ (by rw [List.length_take]; have := HXL.out; omega) (by rw [List.length_take]; have := HXL.out; omega))
            have HOF2 := Aside0.mk (show vergerref5_Of.f 2000 (X.drop c) = some (H.f0, H.f1) by rw [← HHH.out]; exact refof_mk 2000 _ (by rw [List.length_drop]; have := HXL.out; omega) (by rw [List.length_drop]; have := HXL.out; omega))
            have hc16 : X.length ≤ c16 := HRS.out.2
            have hci : (c : Int) ≤ (X.length : Int) := by omega
            have hci0 : (0 : Int) ≤ (c : Int) := by omega
            have hci2 : (c : Int) ≤ (c16 : Int) := by omega
            refine start_ (n := 18) (S := fun w' => w'.cell? ⟨g17, 0, none⟩ = some (.int .i64 F.f0) ∧ w'.cell? ⟨g17, 1, none⟩ = some (.slice AF F.f1.length cF) ∧ w'.cell? ⟨g18, 0, none⟩ = some (.int .i64 H.f0) ∧ w'.cell? ⟨g18, 1, none⟩ = some (.slice AH H.f1.length cH)) (ds := []) #[false, false, false, false, false, false, false, false, false, false, false, false, false, false, false, false, false, false] (by kernel_rfl) rfl rfl ⟨(blk_cell (blk_below HX17.out HB.out) 0).trans rfl, (blk_cell (blk_below HX17.out HB.out) 1).trans rfl, (blk_cell (blk_below HX18.out HB.out) 0).trans rfl, (blk_cell (blk_below HX18.out HB.out) 1).trans rfl⟩ (fun hHeld => ?_)
            refine pure_ (i := 1) (N := (some 92)) (v := ?_) (a' := ?_) #[false, true, false, false, false, false, false, false, false, false, false, false, false, false, false, false, false, false] rfl rfl (by kernel_rfl) (fun _ _ _ h => h) (Or.inl ⟨by rfl, ?_⟩) ?_ ?_
            rotate_left
            · intro w'
              go_simp
              with_reducible rfl
            rotate_left
            · simp only [Act.put, List.setIfInBounds_toArray, List.set_cons_zero, List.set_cons_succ, i64_w, i32_w]
              rfl
            refine pure_ (i := 2) (N := (some 93)) (v := ?_) (a' := ?_) #[false, true, true, false, false, false, false, false, false, false, false, false, false, false, false, false, false, false] rfl rfl (by kernel_rfl) (fun _ _ _ h => h) (Or.inl ⟨by rfl, ?_⟩) ?_ ?_
            rotate_left
            · intro w'
              go_simp
              with_reducible rfl
            rotate_left
            · simp only [Act.put, List.setIfInBounds_toArray, List.set_cons_zero, List.set_cons_succ, i64_w, i32_w]
              rfl
            refine pure_ (i := 3) (N := (some 94)) (v := ?_) (a' := ?_) #[false, true, true, true, false, false, false, false, false, false, false, false, false, false, false, false, false, false] rfl rfl (by kernel_rfl) (fun _ _ _ h => h) (Or.inl ⟨by rfl, ?_⟩) ?_ ?_
            rotate_left
            · intro w'
              go_simp
              with_reducible rfl
            rotate_left
            · simp only [Act.put, List.setIfInBounds_toArray, List.set_cons_zero, List.set_cons_succ, i64_w, i32_w]
              rfl
            refine take_ (i := 0) (N := (some 91)) (v := ?_) (a' := ?_) #[true, true, true, true, false, false, false, false, false, false, false, false, false, false, false, false, false, false] rfl rfl (by kernel_rfl) (fun _ _ _ h => h) (Or.inl ⟨by rfl, ?_⟩) hHeld ?_ ?_
            rotate_left
            · rintro w' ⟨s0, s1, s2, s3⟩
              go_simp
              with_reducible rfl
            rotate_left
            · simp only [Act.put, List.setIfInBounds_toArray, List.set_cons_zero, List.set_cons_succ, i64_w, i32_w]
              rfl
            refine one_ (i := 4) (N := (some 95)) #[true, true, true, true, true, false, false, false, false, false, false, false, false, false, false, false, false, false] rfl rfl (by kernel_rfl) (by decide) (fun K hK => ?_)
            refine goes_ Try.func14 (by kernel_rfl) rfl #[.slice A16 c c16] (by rfl) rfl rfl (by (try simp only [List.map_toArray, List.map_cons, List.map_nil]); first | done | rfl) ?_
            refine (refof_N _ _ _ (X.take c) F _ (by rw [List.length_take]; omega) (Kd.C_take (Kd.C_below HRS.out.1 HB.out) HCX.out) HLT.out HOF1.out).mono ?_
            rintro y w10 ⟨v10, rfl, hv10, hb10⟩
            obtain ⟨A8, c8, e_⟩ := Kd.R_slice hv10
            subst e_
            have HN8 := Aside0.mk (Kd.R_reads' hv10)
            have n_ := Aside0.mk (below_step HB.out hb10)
            (try clear HB)
            have HB := n_
            clear n_
            clear hv10 hb10
            refine ⟨_, rfl, ?_⟩
            refine hK.out _ _ ⟨(blk_cell (blk_below HX17.out HB.out) 0).trans rfl, (blk_cell (blk_below HX17.out HB.out) 1).trans rfl, (blk_cell (blk_below HX18.out HB.out) 0).trans rfl, (blk_cell (blk_below HX18.out HB.out) 1).trans rfl⟩ (fun hHeld => ?_)
            clear hK K
            refine norm_ (a' := ?_) ?_ ?_
            rotate_left
            · show Act.put _ (some 95) _ = _
              simp only [Act.put, List.setIfInBounds_toArray, List.set_cons_zero, List.set_cons_succ, i64_w, i32_w]
              rfl
            refine one_ (i := 5) (N := (some 96)) #[true, true, true, true, true, true, false, false, false, false, false, false, false, false, false, false, false, false] rfl rfl (by kernel_rfl) (by decide) (fun K hK => ?_)
            refine goes_ Try.func15 (by kernel_rfl) rfl #[.agg #[.int .i64 F.f0, .slice AF F.f1.length cF], .agg #[.int .i64 F.f0, .slice A8 F.f1.length c8]] (by rfl) rfl rfl (by (try simp only [List.map_toArray, List.map_cons, List.map_nil]); first | done | rfl) ?_
            refine (vergerlaw6_Same.calls 2000 F.f0 _ _ F.f1 F.f0 _ _ F.f1 true _ (Kd.C_below HRF.out.1 HB.out) HRF.out.2 HN8.out.2.2 HN8.out.2.1 (same6_tells 2000 F.f0 F.f1 (by have := HFL.out; omega) (by have := HFL.out; omega))).mono ?_
            rintro y w9 ⟨rfl, hb9⟩
            have n_ := Aside0.mk (below_step HB.out hb9)
            (try clear HB)
            have HB := n_
            clear n_
            clear hb9
            refine ⟨_, rfl, ?_⟩
            refine hK.out _ _ ⟨(blk_cell (blk_below HX17.out HB.out) 0).trans rfl, (blk_cell (blk_below HX17.out HB.out) 1).trans rfl, (blk_cell (blk_below HX18.out HB.out) 0).trans rfl, (blk_cell (blk_below HX18.out HB.out) 1).trans rfl⟩ (fun hHeld => ?_)
            clear hK K
            refine norm_ (a' := ?_) ?_ ?_
            rotate_left
            · show Act.put _ (some 96) _ = _
              simp only [Act.put, List.setIfInBounds_toArray, List.set_cons_zero, List.set_cons_succ, i64_w, i32_w]
              rfl
            refine pure_ (i := 6) (N := (some 97)) (v := ?_) (a' := ?_) #[true, true, true, true, true, true, true, false, false, false, false, false, false, false, false, false, false, false] rfl rfl (by kernel_rfl) (fun _ _ _ h => h) (Or.inl ⟨by rfl, ?_⟩) ?_ ?_
            rotate_left
            · intro w'
              go_simp
              with_reducible rfl
            rotate_left
            · simp only [Act.put, List.setIfInBounds_toArray, List.set_cons_zero, List.set_cons_succ, i64_w, i32_w]
              rfl
            refine pure_ (i := 8) (N := (some 99)) (v := ?_) (a' := ?_) #[true, true, true, true, true, true, true, false, true, false, false, false, false, false, false, false, false, false] rfl rfl (by kernel_rfl) (fun _ _ _ h => h) (Or.inl ⟨by rfl, ?_⟩) ?_ ?_
            rotate_left
            · intro w'
              go_simp
              with_reducible rfl
            rotate_left
            · simp only [Act.put, List.setIfInBounds_toArray, List.set_cons_zero, List.set_cons_succ, i64_w, i32_w]
              rfl
            refine pure_ (i := 9) (N := (some 100)) (v := ?_) (a' := ?_) #[true, true, true, true, true, true, true, false, true, true, false, false, false, false, false, false, false, false] rfl rfl (by kernel_rfl) (fun _ _ _ h => h) (Or.inl ⟨by rfl, ?_⟩) ?_ ?_
            rotate_left
            · intro w'
              go_simp
              with_reducible rfl
            rotate_left
            · simp only [Act.put, List.setIfInBounds_toArray, List.set_cons_zero, List.set_cons_succ, i64_w, i32_w]
              rfl
            refine pure_ (i := 10) (N := (some 101)) (v := ?_) (a' := ?_) #[true, true, true, true, true, true, true, false, true, true, true, false, false, false, false, false, false, false] rfl rfl (by kernel_rfl) (fun _ _ _ h => h) (Or.inl ⟨by rfl, ?_⟩) ?_ ?_
            rotate_left
            · intro w'
              go_simp
              with_reducible rfl
            rotate_left
            · simp only [Act.put, List.setIfInBounds_toArray, List.set_cons_zero, List.set_cons_succ, i64_w, i32_w]
              rfl
            refine take_ (i := 7) (N := (some 98)) (v := ?_) (a' := ?_) #[true, true, true, true, true, true, true, true, true, true, true, false, false, false, false, false, false, false] rfl rfl (by kernel_rfl) (fun _ _ _ h => h) (Or.inl ⟨by rfl, ?_⟩) hHeld ?_ ?_
            rotate_left
            · rintro w' ⟨s0, s1, s2, s3⟩
              go_simp
              with_reducible rfl
            rotate_left
            · simp only [Act.put, List.setIfInBounds_toArray, List.set_cons_zero, List.set_cons_succ, i64_w, i32_w]
              rfl
            refine one_ (i := 11) (N := (some 102)) #[true, true, true, true, true, true, true, true, true, true, true, true, false, false, false, false, false, false] rfl rfl (by kernel_rfl) (by decide) (fun K hK => ?_)
            refine goes_ Try.func14 (by kernel_rfl) rfl #[.slice (if c16 = c then A16 else A16.map (·.add (c * 2))) (X.length - c) (c16 - c)] (by rfl) rfl rfl (by (try simp only [List.map_toArray, List.map_cons, List.map_nil]); first | done | rfl) ?_
            refine (refof_N _ _ _ (X.drop c) H _ (List.length_drop ..).symm (Kd.C_drop (Kd.C_below HRS.out.1 HB.out) HCX.out HRS.out.2) HLD.out HOF2.out).mono ?_
            rintro y w10 ⟨v10, rfl, hv10, hb10⟩
            obtain ⟨A8, c8, e_⟩ := Kd.R_slice hv10
            subst e_
            have HN8 := Aside0.mk (Kd.R_reads' hv10)
            have n_ := Aside0.mk (below_step HB.out hb10)
            (try clear HB)
            have HB := n_
            clear n_
            clear hv10 hb10
            refine ⟨_, rfl, ?_⟩
            refine hK.out _ _ ⟨(blk_cell (blk_below HX17.out HB.out) 0).trans rfl, (blk_cell (blk_below HX17.out HB.out) 1).trans rfl, (blk_cell (blk_below HX18.out HB.out) 0).trans rfl, (blk_cell (blk_below HX18.out HB.out) 1).trans rfl⟩ (fun hHeld => ?_)
            clear hK K
            refine norm_ (a' := ?_) ?_ ?_
            rotate_left
            · show Act.put _ (some 102) _ = _
              simp only [Act.put, List.setIfInBounds_toArray, List.set_cons_zero, List.set_cons_succ, i64_w, i32_w]
              rfl
            refine one_ (i := 12) (N := (some 103)) #[true, true, true, true, true, true, true, true, true, true, true, true, true, false, false, false, false, false] rfl rfl (by kernel_rfl) (by decide) (fun K hK => ?_)
            refine goes_ Try.func15 (by kernel_rfl) rfl #[.agg #[.int .i64 H.f0, .slice AH H.f1.length cH], .agg #[.int .i64 H.f0, .slice A8 H.f1.length c8]] (by rfl) rfl rfl (by (try simp only [List.map_toArray, List.map_cons, List.map_nil]); first | done | rfl) ?_
            refine (vergerlaw6_Same.calls 2000 H.f0 _ _ H.f1 H.f0 _ _ H.f1 true _ (Kd.C_below HRH.out.1 HB.out) HRH.out.2 HN8.out.2.2 HN8.out.2.1 (same6_tells 2000 H.f0 H.f1 (by have := HHL.out; omega) (by have := HHL.out; omega))).mono ?_
            rintro y w9 ⟨rfl, hb9⟩
            have n_ := Aside0.mk (below_step HB.out hb9)
            (try clear HB)
            have HB := n_
            clear n_
            clear hb9
            refine ⟨_, rfl, ?_⟩
            refine hK.out _ _ ⟨(blk_cell (blk_below HX17.out HB.out) 0).trans rfl, (blk_cell (blk_below HX17.out HB.out) 1).trans rfl, (blk_cell (blk_below HX18.out HB.out) 0).trans rfl, (blk_cell (blk_below HX18.out HB.out) 1).trans rfl⟩ (fun hHeld => ?_)
            clear hK K
            refine norm_ (a' := ?_) ?_ ?_
            rotate_left
            · show Act.put _ (some 103) _ = _
              simp only [Act.put, List.setIfInBounds_toArray, List.set_cons_zero, List.set_cons_succ, i64_w, i32_w]
              rfl
            refine pure_ (i := 13) (N := (some 104)) (v := ?_) (a' := ?_) #[true, true, true, true, true, true, true, true, true, true, true, true, true, true, false, false, false, false] rfl rfl (by kernel_rfl) (fun _ _ _ h => h) (Or.inl ⟨by rfl, ?_⟩) ?_ ?_
            rotate_left
            · intro w'
              go_simp
              with_reducible rfl
            rotate_left
            · simp only [Act.put, List.setIfInBounds_toArray, List.set_cons_zero, List.set_cons_succ, i64_w, i32_w]
              rfl
            refine pure_ (i := 14) (N := (some 105)) (v := ?_) (a' := ?_) #[true, true, true, true, true, true, true, true, true, true, true, true, true, true, true, false, false, false] rfl rfl (by kernel_rfl) (fun _ _ _ h => h) (Or.inl ⟨by rfl, ?_⟩) ?_ ?_
            rotate_left
            · intro w'
              go_simp
              with_reducible rfl
            rotate_left
            · simp only [Act.put, List.setIfInBounds_toArray, List.set_cons_zero, List.set_cons_succ, i64_w, i32_w]
              rfl
            refine one_ (i := 15) (N := (some 106)) #[true, true, true, true, true, true, true, true, true, true, true, true, true, true, true, true, false, false] rfl rfl (by kernel_rfl) (by decide) (fun K hK => ?_)
            refine goes_ Try.func11 (by kernel_rfl) rfl #[] (by rfl) rfl rfl (by first | done | rfl | simp) ?_
            refine (vergerlaw6_awake.calls 100 true _ (awake6 100 (by omega))).mono ?_
            rintro y w11 ⟨rfl, hb11⟩
            have n_ := Aside0.mk (below_step HB.out hb11)
            (try clear HB)
            have HB := n_
            clear n_
            clear hb11
            refine ⟨_, rfl, ?_⟩
            refine hK.out _ _ ⟨(blk_cell (blk_below HX17.out HB.out) 0).trans rfl, (blk_cell (blk_below HX17.out HB.out) 1).trans rfl, (blk_cell (blk_below HX18.out HB.out) 0).trans rfl, (blk_cell (blk_below HX18.out HB.out) 1).trans rfl⟩ (fun hHeld => ?_)
            clear hK K
            refine norm_ (a' := ?_) ?_ ?_
            rotate_left
            · show Act.put _ (some 106) _ = _
              simp only [Act.put, List.setIfInBounds_toArray, List.set_cons_zero, List.set_cons_succ, i64_w, i32_w]
              rfl
            refine pure_ (i := 16) (N := (some 107)) (v := ?_) (a' := ?_) #[true, true, true, true, true, true, true, true, true, true, true, true, true, true, true, true, true, false] rfl rfl (by kernel_rfl) (fun _ _ _ h => h) (Or.inl ⟨by rfl, ?_⟩) ?_ ?_
            rotate_left
            · intro w'
              go_simp
              with_reducible rfl
            rotate_left
            · simp only [Act.put, List.setIfInBounds_toArray, List.set_cons_zero, List.set_cons_succ, i64_w, i32_w]
              rfl
            refine pure_ (i := 17) (N := (some 8)) (v := ?_) (a' := ?_) #[true, true, true, true, true, true, true, true, true, true, true, true, true, true, true, true, true, true] rfl rfl (by kernel_rfl) (fun _ _ _ h => h) (Or.inl ⟨by rfl, ?_⟩) ?_ ?_
            rotate_left
            · intro w'
              go_simp
              with_reducible rfl
            rotate_left
            · simp only [Act.put, List.setIfInBounds_toArray, List.set_cons_zero, List.set_cons_succ, i64_w, i32_w]
              rfl
            refine done_ (by kernel_rfl) ?_
            go_wp2_with fail
            all_goals (go_ret; exact ⟨rfl, below_step HBE.out HB.out⟩)
     · have hg1 : (100 : Int) < (g.length : Int) := by omega
       have hg2 : (g.length : Int) > 100 := by omega
       have hg3 : decide ((g.length : Int) > 100) = true := decide_eq_true hg2
       have hg4 : decide (100 < g.length) = true := decide_eq_true (by omega)
       go_wp2_with fail
       refine (vergerlaw6_awake.calls 100 true _ (awake6 100 (by omega))).mono ?_
       rintro y w3 ⟨rfl, hb3⟩
       have HB3 := Aside0.mk (below_then HZ.out HZ.out.size (below_step HB2.out hb3))
       clear hb3
       go_wp2
       go_ret
       exact ⟨rfl, HB3.out⟩
   · have hd : decide ((b.length : Int) ≤ 120) = false := decide_eq_false (by omega)
     refine (vergerlaw6_Few.calls B cb b false _ HCB1.out hcb (by rw [few_told, hd])).mono ?_
     rintro y w1 ⟨rfl, ⟨nd2, rfl⟩⟩
     clear hd
     go_wp2_with fail
     refine (vergerlaw6_awake.calls 100 true _ (awake6 100 (by omega))).mono ?_
     rintro y w3 ⟨rfl, hb3⟩
     have HB3 := Aside0.mk (below_then HZ.out HZ.out.size (below_step (pw_below_drewN (Below.refl w0.heap.size w0) (nd + nd2)) hb3))
     clear hb3
     go_wp2
     go_ret
     exact ⟨rfl, HB3.out⟩
 · have hd : decide ((a.length : Int) ≤ 120) = false := decide_eq_false (by omega)
   refine (vergerlaw6_Few.calls A ca a false _ HCA.out hca (by rw [few_told, hd])).mono ?_
   rintro y w2 ⟨rfl, ⟨nd, rfl⟩⟩
   clear hd
   go_wp2_with fail
   refine (vergerlaw6_awake.calls 100 true _ (awake6 100 (by omega))).mono ?_
   rintro y w3 ⟨rfl, hb3⟩
   have HB3 := Aside0.mk (below_then HZ.out HZ.out.size (below_step (pw_below_drewN (Below.refl w0.heap.size w0) nd) hb3))
   clear hb3
   go_wp2
   go_ret
   exact ⟨rfl, HB3.out⟩
end Go.Proofs.Ytccppdmangbdoaa.V
