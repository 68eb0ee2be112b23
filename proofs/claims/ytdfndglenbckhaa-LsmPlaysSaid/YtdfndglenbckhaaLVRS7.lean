-- a text of this work, without what this claim doesn't use (wip/shake.py)
import Derived.Test.YtdfndglenbckhaaLVPvergerref5
import Derived.Test.YtdfndglenbckhaaLVPcmp
import Derived.Test.YtdfndglenbckhaaLVRL2
import Derived.Test.YtdfndglenbckhaaLVPslicesZb
import Derived.Test.YtdfndglenbckhaaLVE46
import Derived.Test.YtdfndglenbckhaaLVRS6
import Derived.Deep.DeepCutAuto
import Derived.Deep.CutBlock
section
set_option linter.unusedVariables false
set_option linter.unusedSimpArgs false
namespace Go.Proofs.Ytdfndglenbckhaa.V
open Go.RowKit Go.Proofs.YtdfndglenbckhaaW.PrintWords Go.Proofs.YtdfndglenbckhaaW.PrintLast Go.Proofs.YtdfndglenbckhaaW.PrintMore
set_option maxRecDepth 100000 in
set_option maxHeartbeats 8000000 in
theorem rl_put (base q : Nat) (OK : Nat → Prop) (v : Value) (bs : List Bk) (e : E) (w : World) (h : RLAt w base q OK v (bs.map toR)) (hfr : ∀ k, w.heap.size ≤ k → OK k) (hgd : Good bs) (hl : bs.length ≤ 800) (ha : (allB bs).length ≤ 999999) :
 Calls Try.prog 28 #[.pointer (some ⟨q, 0, none⟩), .agg #[.int .u64 e.f0, .int .i64 e.f1]] w fun x w' => x = .returned (.tuple #[]) ∧ ∃ v', RLAt w' base q OK v' ((putL e bs).map toR) ∧ w.grownBy w' (some q) := by
 obtain ⟨rs, hrs⟩ : ∃ rs, rs = bs.map toR := ⟨_, rfl⟩
 rw [← hrs] at h
 have hrl : rs.length = bs.length := by rw [hrs, List.length_map]
 have hls : rs.length ≤ 800 := by omega
 obtain ⟨A, c, rfl, hc, hF0⟩ := h.reads
 obtain ⟨g, hg⟩ : ∃ g, g = w.heap.size := ⟨_, rfl⟩
 obtain ⟨wz, hwz⟩ : ∃ wz : World, wz = w.alloc (.cells #[.int .u64 e.f0, .int .i64 e.f1] 46) := ⟨_, rfl⟩
 have HXB := Aside0.mk (show wz.heap[g]? = some (.cells #[.int .u64 e.f0, .int .i64 e.f1] 46 (0, 0)) by rw [hwz, hg]; exact heap_alloc_new _ _)
 have HBa := Aside0.mk (show Below w.heap.size w wz by rw [hwz]; exact uf (Below.refl _ _) _)
 have HS := Aside0.mk h
 have HPA := Aside0.mk (h.below HBa.out)
 have HRF0 := Aside0.mk (xm hF0 HBa.out)
 have HOK0 := Aside0.mk hfr
 have HOK := Aside0.mk (show ∀ k, wz.heap.size ≤ k → OK k from fun k hk => hfr k (Nat.le_trans HBa.out.size hk))
 have HGD := Aside0.mk hgd
 have HAL := Aside0.mk ha
 obtain ⟨Y, hY⟩ : ∃ Y, Y = mkB [e] := ⟨_, rfl⟩
 have HOF := Aside0.mk (show vergerref5_Of.f 3000000 [e] = some (Y.f0, Y.f1) by rw [hY]; exact refof_mkR _ _ (by simp) (by simp))
 obtain ⟨RF, hRF⟩ : ∃ RF, RF = rs ++ [toR Y] := ⟨_, rfl⟩
 have HRF := Aside0.mk hRF
 have HRX := Aside0.mk (show RF = (bs ++ [mkB [e]]).map toR by rw [hRF, hrs, hY, List.map_append]; rfl)
 have z0 : wz.cell? ⟨g, 0, none⟩ = some (.int .u64 e.f0) := (uv HXB.out 0).trans rfl
 have z1 : wz.cell? ⟨g, 1, none⟩ = some (.int .i64 e.f1) := (uv HXB.out 1).trans rfl
 have q0 := HPA.out.cell0
 clear h hF0 hfr hrs hrl hgd ha hY hRF
 go_enter Try.func28, Try.ntmps28
 go_upto_region 1 with fail
 rw [← hwz, ← hg]
 clear hwz hg
 have HB := Aside0.mk (below_drew (Below.refl wz.heap.size wz))
 refine start_ (n := 15) (S := fun w' => w'.cell? ⟨q, 0, none⟩ = some (.slice A rs.length c) ∧ w'.cell? ⟨g, 0, none⟩ = some (.int .u64 e.f0) ∧ w'.cell? ⟨g, 1, none⟩ = some (.int .i64 e.f1)) (ds := [14]) #[xX, xX, xX, xX, xX, xX, xX, xX, xX, xX, xX, xX, xX, xX, xX] (by kernel_rfl) rfl rfl ⟨q0, z0, z1⟩ (fun hHeld => ?_)
 refine pU (i := 0) (N := (some 4)) (bA 15 1) (by kernel_rfl) rfl ?_
 refine pU (i := 2) (N := (some 6)) (bA 15 5) (by kernel_rfl) rfl ?_
 refine pU (i := 3) (N := (some 7)) (bA 15 13) (by kernel_rfl) rfl ?_
 refine pU (i := 4) (N := (some 8)) (bA 15 29) (by kernel_rfl) rfl ?_
 refine tU (i := 5) (N := (some 9)) (bA 15 61) (by kernel_rfl) rfl hHeld (by (constructor; (rintro w' ⟨s0, s1, s2⟩; go_simp; (with_reducible rfl)); (simp only [Act.put, ua, ub, uc, uh, ui]; rfl))) ?_
 refine tU (i := 7) (N := (some 11)) (bA 15 189) (by kernel_rfl) rfl hHeld (by (constructor; (rintro w' ⟨s0, s1, s2⟩; go_simp; (with_reducible rfl)); (simp only [Act.put, ua, ub, uc, uh, ui]; rfl))) ?_
 refine two_ (i := 1) (j := 8) (Ni := (some 5)) (Nj := (some 12)) #[yY, yY, yY, yY, yY, yY, xX, yY, xX, xX, xX, xX, xX, xX, xX] #[yY, xX, yY, yY, yY, yY, xX, yY, yY, xX, xX, xX, xX, xX, xX] rfl rfl rfl rfl (by kernel_rfl) (by decide) (by decide) (fun K hK => ?_) (fun K hK => ?_)
 · skip
   refine Kd.N_lit_step k70 _ 70 ?hg (N' := 5) ?hd (xs := ([] : List RBk)) (inner := []) (ok := OK) (okp := fun _ => False) ?hr ?hp (fun _ hk => hk.elim) ?hf (Below.refl _ _) (vn _) (by simp) ?_; (case hd => rfl); (case hg => rfl); (case hr => first | (go_simp; done) | (go_simp; rfl)); (case hp => exact (Reps.none _ _)); (case hf => exact HOK.out _ HB.out.size)
   intro vC wC ho6 hb6 hg6 hnew6
   (try (have HLn := Aside0.mk (show Kd.F k70 wC (fun k => OK k ∧ some k ≠ vC.ownBlock) _ _ _ from Kd.F_mono (xm (Kd.F_bound HL.out) hb6) (fun k hk => ⟨hk.1, fun e => by obtain ⟨b', h1, h2⟩ := hnew6; rw [h1] at e; injection e with e; have := hk.2; omega⟩)); clear HL; have HL := HLn; clear HLn))
   (try (have HEn := Aside0.mk (show Kd.F k46 wC (fun k => OK k ∧ some k ≠ vC.ownBlock) AE ([e] : List E).length [e] from Kd.F_mono (xm (Kd.F_bound HE1.out) hb6) (fun k hk => ⟨hk.1, fun e => by obtain ⟨b', h1, h2⟩ := hnew6; rw [h1] at e; injection e with e; have := hk.2; omega⟩)); clear HE1; have HE1 := HEn; clear HEn))
   have n_ := Aside0.mk (Kd.N_lower ho6 HB.out.size)
   (try clear HO)
   have HO := n_
   clear n_
   have n_ := Aside0.mk (ur HB.out hb6)
   (try clear HB)
   have HB := n_
   clear n_
   clear ho6 hb6 hg6 hnew6
   refine hK.out _ _ ⟨uj HB.out q0, uj HB.out z0, uj HB.out z1⟩ (fun hHeld => ?_)
   clear hK K
   refine vz (a' := ?_) ?_ ?_; rotate_left; (· (show Act.put _ (some 5) _ = _); (simp only [Act.put, ua, ub, uc, uh, ui]); rfl)
   refine two_ (i := 6) (j := 8) (Ni := (some 10)) (Nj := (some 12)) #[yY, yY, yY, yY, yY, yY, yY, yY, xX, xX, xX, xX, xX, xX, xX] #[yY, yY, yY, yY, yY, yY, xX, yY, yY, xX, xX, xX, xX, xX, xX] rfl rfl rfl rfl (by kernel_rfl) (by decide) (by decide) (fun K hK => ?_) (fun K hK => ?_)
   · skip
     refine vx k70 (w0 := wz) wz.heap.size (by rfl) (.tmp 5) (.tmp 9) 27 70 (.agg #[.int .i64 0, .slice none 0 0]) 32 rfl Try.underlying27 infoRB rfl (by decide) (by decide) _ ([] : List RBk) rs _ _ _ OK (fun k => OK k ∧ k < wz.heap.size) rfl rfl HO.out (xm (Kd.F_bound HRF0.out) HB.out) (fun k hk => ⟨hk.1, fun e => by have h1 := Kd.N_base HO.out k e.symm; have := hk.2; omega⟩) (fun k hk => HOK.out k (Nat.le_trans HB.out.size hk)) HB.out HB.out.size (by (try simp only [List.length_nil, List.length_append, List.length_cons]); omega) ?_
     intro vD wC ho hb hg hat
     (try rw [List.nil_append] at ho)
     (try (have HLn := Aside0.mk (Kd.F_after HL.out hg hat); clear HL; have HL := HLn; clear HLn))
     (try (have HEn := Aside0.mk (Kd.F_after HE1.out hg hat); clear HE1; have HE1 := HEn; clear HEn))
     clear HO HB
     obtain ⟨vC, hvC⟩ : ∃ vC, vC = vD := ⟨_, rfl⟩
     subst hvC
     have HO := Aside0.mk ho
     have HB := Aside0.mk hb
     clear ho hb hg hat
     refine hK.out _ _ ⟨uj HB.out q0, uj HB.out z0, uj HB.out z1⟩ (fun hHeld => ?_)
     clear hK K
     refine vz (a' := ?_) ?_ ?_; rotate_left; (· (show Act.put _ (some 10) _ = _); (simp only [Act.put, ua, ub, uc, uh, ui]); rfl)
     refine one_ (i := 8) (N := (some 12)) #[yY, yY, yY, yY, yY, yY, yY, yY, yY, xX, xX, xX, xX, xX, xX] rfl rfl (by kernel_rfl) (by decide) (fun K hK => ?_)
     refine Kd.R_lit_step k46 _ 46 ?hg (N := 12) ?hd (xs := [e]) (inner := [.int .u64 e.f0, .int .i64 e.f1]) (ok := fun _ => True) (okp := fun _ => True) ?hr ?hp (fun _ hk => hk) trivial (Below.refl _ _) (vn _) (by simp) ?_; (case hd => rfl); (case hg => rfl); (case hr => first | (go_simp; done) | (go_simp; rfl)); (case hp => exact encs_reps _ _ _ [e])
     intro vE wE ho6 hb6 hg6 hnew6
     obtain ⟨AE, cE, e_⟩ := xn ho6
     subst e_
     have HEC := Aside0.mk (xr ho6).2.1
     first
      | (have HE1 := Aside0.mk (show Kd.F k46 wE (fun k => OK k ∧ some k ≠ vC.ownBlock) AE ([e] : List E).length [e] from Kd.F_mono (Kd.V_at (show Kd.V k46 46 wE 0 _ (.slice AE ([e] : List E).length cE) [e] from Kd.R_V (Kd.R_bound ho6))).2.2 (fun k hk => ⟨HOK.out k (Nat.le_trans HB.out.size hk.2.1), fun e => by have := Kd.N_lt HO.out _ e.symm; have := hk.2.1; omega⟩)); have HOn := Aside0.mk (Kd.N_below HO.out hb6); clear HO; have HO := HOn; clear HOn)
      | (have HE1 := Aside0.mk (show Kd.F k46 wE OK AE ([e] : List E).length [e] from Kd.F_mono (Kd.V_at (show Kd.V k46 46 wE 0 _ (.slice AE ([e] : List E).length cE) [e] from Kd.R_V (Kd.R_bound ho6))).2.2 (fun k hk => HOK.out k (Nat.le_trans HB.out.size hk.2.1))))
     have n_ := Aside0.mk (ur HB.out hb6)
     (try clear HB)
     have HB := n_
     clear n_
     clear ho6 hb6 hg6 hnew6
     refine hK.out _ _ ⟨uj HB.out q0, uj HB.out z0, uj HB.out z1⟩ (fun hHeld => ?_)
     clear hK K
     refine vz (a' := ?_) ?_ ?_; rotate_left; (· (show Act.put _ (some 12) _ = _); (simp only [Act.put, ua, ub, uc, uh, ui]); rfl)
     refine one_ (i := 9) (N := (some 13)) #[yY, yY, yY, yY, yY, yY, yY, yY, yY, yY, xX, xX, xX, xX, xX] rfl rfl (by kernel_rfl) (by decide) (fun K hK => ?_)
     refine goes_ Try.func59 (by kernel_rfl) rfl #[.slice AE ([e] : List E).length cE] (by rfl) rfl rfl (by (try simp only [ul, ut, uu]); first | done | rfl) ?_
     refine (vergerref5_Of.calls 3000000 AE cE [e] _ _ _ (Kd.F_now HE1.out) HEC.out HOF.out).mono ?_
     rintro y w8 ⟨v8, rfl, hv8, hb8⟩
     obtain ⟨A8, c8, e_⟩ := xn hv8
     subst e_
     have HV8 := Aside0.mk (Kd.V_at (show Kd.V k46 46 w8 0 (fun k => OK k ∧ some k ≠ vC.ownBlock) (.slice A8 Y.f1.length c8) Y.f1 from Kd.R_V (xi (Kd.R_bound hv8) (fun k hk => ⟨HOK.out k (Nat.le_trans HB.out.size hk.2.1), fun e => by have := Kd.N_lt HO.out _ e.symm; have := hk.2.1; omega⟩))))
     have n_ := Aside0.mk (Kd.N_below HO.out hb8)
     (try clear HO)
     have HO := n_
     clear n_
     have n_ := Aside0.mk (ur HB.out hb8)
     (try clear HB)
     have HB := n_
     clear n_
     clear hv8 hb8 HE1
     refine ⟨_, rfl, ?_⟩
     refine hK.out _ _ ⟨uj HB.out q0, uj HB.out z0, uj HB.out z1⟩ (fun hHeld => ?_)
     clear hK K
     refine vz (a' := ?_) ?_ ?_; rotate_left; (· (show Act.put _ (some 13) _ = _); (simp only [Act.put, ua, ub, uc, uh, ui]); rfl)
     refine one_ (i := 10) (N := (some 14)) #[yY, yY, yY, yY, yY, yY, yY, yY, yY, yY, yY, xX, xX, xX, xX] rfl rfl (by kernel_rfl) (by decide) (fun K hK => ?_)
     refine Kd.N_lit_step k70 _ 70 ?hg (N' := 14) ?hd (xs := [toR Y]) (inner := [.int .i64 Y.f0, .slice A8 Y.f1.length c8]) (ok := (fun k => OK k ∧ some k ≠ vC.ownBlock)) (okp := (fun k => OK k ∧ some k ≠ vC.ownBlock)) ?hr ?hp (fun k hk => hk) ?hf (Below.refl _ _) (vn _) (by simp) ?_; (case hd => rfl); (case hg => rfl); (case hr => first | (go_simp; done) | (go_simp; rfl)); (case hp => exact reps_oneR (k70_mkF _ _ (toR Y) HV8.out.2.1 HV8.out.2.2)); (case hf => exact ⟨HOK.out _ HB.out.size, fun e => by have := Kd.N_lt HO.out _ e.symm; omega⟩)
     intro vL wL ho6 hb6 hg6 hnew6
     have n_ := Aside0.mk (Kd.N_below HO.out hb6)
     (try clear HO)
     have HO := n_
     clear n_
     obtain ⟨AL, cL, e_⟩ := Kd.N_slice ho6
     subst e_
     have HL := Aside0.mk (Kd.N_F ho6)
     have n_ := Aside0.mk (ur HB.out hb6)
     (try clear HB)
     have HB := n_
     clear n_
     clear ho6 hb6 hg6 hnew6
     refine hK.out _ _ ⟨uj HB.out q0, uj HB.out z0, uj HB.out z1⟩ (fun hHeld => ?_)
     clear hK K
     refine vz (a' := ?_) ?_ ?_; rotate_left; (· (show Act.put _ (some 14) _ = _); (simp only [Act.put, ua, ub, uc, uh, ui]); rfl)
     refine one_ (i := 11) (N := (some 15)) #[yY, yY, yY, yY, yY, yY, yY, yY, yY, yY, yY, yY, xX, xX, xX] rfl rfl (by kernel_rfl) (by decide) (fun K hK => ?_)
     refine vx k70 (w0 := wz) wz.heap.size (by rfl) (.tmp 10) (.tmp 14) 27 70 (.agg #[.int .i64 0, .slice none 0 0]) 32 rfl Try.underlying27 infoRB rfl (by decide) (by decide) _ rs [toR Y] _ _ _ OK (fun k => OK k ∧ some k ≠ vC.ownBlock) rfl rfl HO.out HL.out (fun k hk => hk) (fun k hk => HOK.out k (Nat.le_trans HB.out.size hk)) HB.out HB.out.size (by (try simp only [List.length_nil, List.length_append, List.length_cons]); omega) ?_
     intro vD wC ho hb hg hat
     (try rw [List.nil_append] at ho)
     (try (have HLn := Aside0.mk (Kd.F_after HL.out hg hat); clear HL; have HL := HLn; clear HLn))
     clear HO HB
     obtain ⟨vC, hvC⟩ : ∃ vC, vC = vD := ⟨_, rfl⟩
     subst hvC
     have HO := Aside0.mk ho
     have HB := Aside0.mk hb
     clear ho hb hg hat
     have HO_ := HO.out
     rw [← HRF.out] at HO_
     obtain ⟨AF, cF, e_⟩ := Kd.N_slice HO_
     subst e_
     clear HO
     have HO := Aside0.mk HO_
     clear HO_
     have hp_ := HPA.out.below HB.out
     have k0 := hp_.cell0
     have g0 := hp_.froz 0
     have HPC := Aside0.mk hp_
     clear hp_
     refine hK.out _ _ ⟨uj HB.out q0, uj HB.out z0, uj HB.out z1⟩ (fun hHeld => ?_)
     clear hK K
     refine vz (a' := ?_) ?_ ?_; rotate_left; (· (show Act.put _ (some 15) _ = _); (simp only [Act.put, ua, ub, uc, uh, ui]); rfl)
     refine pU (i := 12) (N := (some 16)) (bA 15 8191) (by kernel_rfl) rfl ?_
     refine pU (i := 13) (N := (some 17)) (bA 15 16383) (by kernel_rfl) rfl ?_
     refine last_ (i := 14) (N := none) #[yY, yY, yY, yY, yY, yY, yY, yY, yY, yY, yY, yY, yY, yY, yY] rfl rfl (by kernel_rfl) (by decide) (fun K hK => ?_)
     go_simp
     refine hK.out _ _ ?_
     clear hK K
     (try simp only [Act.put, ua, ub, uc, uh, ui])
     refine done_ (by kernel_rfl) ?_
     go_wp2_with fail
     obtain ⟨wl, hwl⟩ : ∃ wl : World, wl = wC.setCell ⟨q, 0, none⟩ (.slice AF RF.length cF) := ⟨_, rfl⟩
     have HL8 := Aside0.mk (show RLAt wl base q OK (.slice AF RF.length cF) ((bs ++ [mkB [e]]).map toR) by rw [hwl, ← HRX.out]; exact ⟨blk_put HPC.out.hd 0 (.slice AF RF.length cF) rfl, Kd.V_far (Kd.V_mk (Kd.N_reads' HO.out).2.1 (Kd.N_F HO.out) (e := 70) (base := 0)) (p := ⟨q, 0, none⟩) (fun k hk => HS.out.okq k hk) _, HS.out.lo, HS.out.okq⟩)
     have HG8 := Aside0.mk (show w.grownBy wl (some q) by rw [hwl]; exact grown_set1 (ur HBa.out HB.out))
     rw [← hwl]
     clear hwl
     refine (rl_settle base q OK _ (bs ++ [mkB [e]]) (putL e bs) wl HL8.out (fun k hk => HOK0.out k (Nat.le_trans HG8.out.size hk)) (put_mrg HGD.out e) (by simp; omega) (by rw [allB_append, allB_cons, allB_nil, List.length_append, List.append_nil, show (mkB [e]).f1.length = 1 from sortE_length _]; have := HAL.out; omega)).mono ?_
     rintro y w9 ⟨rfl, v9, hs9, hg9⟩
     have HE := Aside0.mk (And.intro hs9 (grown_grown HG8.out hg9))
     clear hs9 hg9
     go_wp2_with fail
     first | exact ⟨rfl, .tuple #[], by simp [results, Try.results28, go_sem], rfl, _, HE.out.1, HE.out.2⟩ | exact ⟨rfl, .tuple #[], by simp [results, Try.results28, go_sem], rfl, ⟨_, HE.out.1⟩, HE.out.2⟩
   · skip
     refine Kd.R_lit_step k46 _ 46 ?hg (N := 12) ?hd (xs := [e]) (inner := [.int .u64 e.f0, .int .i64 e.f1]) (ok := fun _ => True) (okp := fun _ => True) ?hr ?hp (fun _ hk => hk) trivial (Below.refl _ _) (vn _) (by simp) ?_; (case hd => rfl); (case hg => rfl); (case hr => first | (go_simp; done) | (go_simp; rfl)); (case hp => exact encs_reps _ _ _ [e])
     intro vE wE ho6 hb6 hg6 hnew6
     obtain ⟨AE, cE, e_⟩ := xn ho6
     subst e_
     have HEC := Aside0.mk (xr ho6).2.1
     first
      | (have HE1 := Aside0.mk (show Kd.F k46 wE (fun k => OK k ∧ some k ≠ vC.ownBlock) AE ([e] : List E).length [e] from Kd.F_mono (Kd.V_at (show Kd.V k46 46 wE 0 _ (.slice AE ([e] : List E).length cE) [e] from Kd.R_V (Kd.R_bound ho6))).2.2 (fun k hk => ⟨HOK.out k (Nat.le_trans HB.out.size hk.2.1), fun e => by have := Kd.N_lt HO.out _ e.symm; have := hk.2.1; omega⟩)); have HOn := Aside0.mk (Kd.N_below HO.out hb6); clear HO; have HO := HOn; clear HOn)
      | (have HE1 := Aside0.mk (show Kd.F k46 wE OK AE ([e] : List E).length [e] from Kd.F_mono (Kd.V_at (show Kd.V k46 46 wE 0 _ (.slice AE ([e] : List E).length cE) [e] from Kd.R_V (Kd.R_bound ho6))).2.2 (fun k hk => HOK.out k (Nat.le_trans HB.out.size hk.2.1))))
     have n_ := Aside0.mk (ur HB.out hb6)
     (try clear HB)
     have HB := n_
     clear n_
     clear ho6 hb6 hg6 hnew6
     refine hK.out _ _ ⟨uj HB.out q0, uj HB.out z0, uj HB.out z1⟩ (fun hHeld => ?_)
     clear hK K
     refine vz (a' := ?_) ?_ ?_; rotate_left; (· (show Act.put _ (some 12) _ = _); (simp only [Act.put, ua, ub, uc, uh, ui]); rfl)
     refine one_ (i := 6) (N := (some 10)) #[yY, yY, yY, yY, yY, yY, yY, yY, yY, xX, xX, xX, xX, xX, xX] rfl rfl (by kernel_rfl) (by decide) (fun K hK => ?_)
     refine vx k70 (w0 := wz) wz.heap.size (by rfl) (.tmp 5) (.tmp 9) 27 70 (.agg #[.int .i64 0, .slice none 0 0]) 32 rfl Try.underlying27 infoRB rfl (by decide) (by decide) _ ([] : List RBk) rs _ _ _ OK (fun k => OK k ∧ k < wz.heap.size) rfl rfl HO.out (xm (Kd.F_bound HRF0.out) HB.out) (fun k hk => ⟨hk.1, fun e => by have h1 := Kd.N_base HO.out k e.symm; have := hk.2; omega⟩) (fun k hk => HOK.out k (Nat.le_trans HB.out.size hk)) HB.out HB.out.size (by (try simp only [List.length_nil, List.length_append, List.length_cons]); omega) ?_
     intro vD wC ho hb hg hat
     (try rw [List.nil_append] at ho)
     (try (have HLn := Aside0.mk (Kd.F_after HL.out hg hat); clear HL; have HL := HLn; clear HLn))
     (try (have HEn := Aside0.mk (Kd.F_after HE1.out hg hat); clear HE1; have HE1 := HEn; clear HEn))
     clear HO HB
     obtain ⟨vC, hvC⟩ : ∃ vC, vC = vD := ⟨_, rfl⟩
     subst hvC
     have HO := Aside0.mk ho
     have HB := Aside0.mk hb
     clear ho hb hg hat
     refine hK.out _ _ ⟨uj HB.out q0, uj HB.out z0, uj HB.out z1⟩ (fun hHeld => ?_)
     clear hK K
     refine vz (a' := ?_) ?_ ?_; rotate_left; (· (show Act.put _ (some 10) _ = _); (simp only [Act.put, ua, ub, uc, uh, ui]); rfl)
     refine one_ (i := 9) (N := (some 13)) #[yY, yY, yY, yY, yY, yY, yY, yY, yY, yY, xX, xX, xX, xX, xX] rfl rfl (by kernel_rfl) (by decide) (fun K hK => ?_)
     refine goes_ Try.func59 (by kernel_rfl) rfl #[.slice AE ([e] : List E).length cE] (by rfl) rfl rfl (by (try simp only [ul, ut, uu]); first | done | rfl) ?_
     refine (vergerref5_Of.calls 3000000 AE cE [e] _ _ _ (Kd.F_now HE1.out) HEC.out HOF.out).mono ?_
     rintro y w8 ⟨v8, rfl, hv8, hb8⟩
     obtain ⟨A8, c8, e_⟩ := xn hv8
     subst e_
     have HV8 := Aside0.mk (Kd.V_at (show Kd.V k46 46 w8 0 (fun k => OK k ∧ some k ≠ vC.ownBlock) (.slice A8 Y.f1.length c8) Y.f1 from Kd.R_V (xi (Kd.R_bound hv8) (fun k hk => ⟨HOK.out k (Nat.le_trans HB.out.size hk.2.1), fun e => by have := Kd.N_lt HO.out _ e.symm; have := hk.2.1; omega⟩))))
     have n_ := Aside0.mk (Kd.N_below HO.out hb8)
     (try clear HO)
     have HO := n_
     clear n_
     have n_ := Aside0.mk (ur HB.out hb8)
     (try clear HB)
     have HB := n_
     clear n_
     clear hv8 hb8 HE1
     refine ⟨_, rfl, ?_⟩
     refine hK.out _ _ ⟨uj HB.out q0, uj HB.out z0, uj HB.out z1⟩ (fun hHeld => ?_)
     clear hK K
     refine vz (a' := ?_) ?_ ?_; rotate_left; (· (show Act.put _ (some 13) _ = _); (simp only [Act.put, ua, ub, uc, uh, ui]); rfl)
     refine one_ (i := 10) (N := (some 14)) #[yY, yY, yY, yY, yY, yY, yY, yY, yY, yY, yY, xX, xX, xX, xX] rfl rfl (by kernel_rfl) (by decide) (fun K hK => ?_)
     refine Kd.N_lit_step k70 _ 70 ?hg (N' := 14) ?hd (xs := [toR Y]) (inner := [.int .i64 Y.f0, .slice A8 Y.f1.length c8]) (ok := (fun k => OK k ∧ some k ≠ vC.ownBlock)) (okp := (fun k => OK k ∧ some k ≠ vC.ownBlock)) ?hr ?hp (fun k hk => hk) ?hf (Below.refl _ _) (vn _) (by simp) ?_; (case hd => rfl); (case hg => rfl); (case hr => first | (go_simp; done) | (go_simp; rfl)); (case hp => exact reps_oneR (k70_mkF _ _ (toR Y) HV8.out.2.1 HV8.out.2.2)); (case hf => exact ⟨HOK.out _ HB.out.size, fun e => by have := Kd.N_lt HO.out _ e.symm; omega⟩)
     intro vL wL ho6 hb6 hg6 hnew6
     have n_ := Aside0.mk (Kd.N_below HO.out hb6)
     (try clear HO)
     have HO := n_
     clear n_
     obtain ⟨AL, cL, e_⟩ := Kd.N_slice ho6
     subst e_
     have HL := Aside0.mk (Kd.N_F ho6)
     have n_ := Aside0.mk (ur HB.out hb6)
     (try clear HB)
     have HB := n_
     clear n_
     clear ho6 hb6 hg6 hnew6
     refine hK.out _ _ ⟨uj HB.out q0, uj HB.out z0, uj HB.out z1⟩ (fun hHeld => ?_)
     clear hK K
     refine vz (a' := ?_) ?_ ?_; rotate_left; (· (show Act.put _ (some 14) _ = _); (simp only [Act.put, ua, ub, uc, uh, ui]); rfl)
     refine one_ (i := 11) (N := (some 15)) #[yY, yY, yY, yY, yY, yY, yY, yY, yY, yY, yY, yY, xX, xX, xX] rfl rfl (by kernel_rfl) (by decide) (fun K hK => ?_)
     refine vx k70 (w0 := wz) wz.heap.size (by rfl) (.tmp 10) (.tmp 14) 27 70 (.agg #[.int .i64 0, .slice none 0 0]) 32 rfl Try.underlying27 infoRB rfl (by decide) (by decide) _ rs [toR Y] _ _ _ OK (fun k => OK k ∧ some k ≠ vC.ownBlock) rfl rfl HO.out HL.out (fun k hk => hk) (fun k hk => HOK.out k (Nat.le_trans HB.out.size hk)) HB.out HB.out.size (by (try simp only [List.length_nil, List.length_append, List.length_cons]); omega) ?_
     intro vD wC ho hb hg hat
     (try rw [List.nil_append] at ho)
     (try (have HLn := Aside0.mk (Kd.F_after HL.out hg hat); clear HL; have HL := HLn; clear HLn))
     clear HO HB
     obtain ⟨vC, hvC⟩ : ∃ vC, vC = vD := ⟨_, rfl⟩
     subst hvC
     have HO := Aside0.mk ho
     have HB := Aside0.mk hb
     clear ho hb hg hat
     have HO_ := HO.out
     rw [← HRF.out] at HO_
     obtain ⟨AF, cF, e_⟩ := Kd.N_slice HO_
     subst e_
     clear HO
     have HO := Aside0.mk HO_
     clear HO_
     have hp_ := HPA.out.below HB.out
     have k0 := hp_.cell0
     have g0 := hp_.froz 0
     have HPC := Aside0.mk hp_
     clear hp_
     refine hK.out _ _ ⟨uj HB.out q0, uj HB.out z0, uj HB.out z1⟩ (fun hHeld => ?_)
     clear hK K
     refine vz (a' := ?_) ?_ ?_; rotate_left; (· (show Act.put _ (some 15) _ = _); (simp only [Act.put, ua, ub, uc, uh, ui]); rfl)
     refine pU (i := 12) (N := (some 16)) (bA 15 8191) (by kernel_rfl) rfl ?_
     refine pU (i := 13) (N := (some 17)) (bA 15 16383) (by kernel_rfl) rfl ?_
     refine last_ (i := 14) (N := none) #[yY, yY, yY, yY, yY, yY, yY, yY, yY, yY, yY, yY, yY, yY, yY] rfl rfl (by kernel_rfl) (by decide) (fun K hK => ?_)
     go_simp
     refine hK.out _ _ ?_
     clear hK K
     (try simp only [Act.put, ua, ub, uc, uh, ui])
     refine done_ (by kernel_rfl) ?_
     go_wp2_with fail
     obtain ⟨wl, hwl⟩ : ∃ wl : World, wl = wC.setCell ⟨q, 0, none⟩ (.slice AF RF.length cF) := ⟨_, rfl⟩
     have HL8 := Aside0.mk (show RLAt wl base q OK (.slice AF RF.length cF) ((bs ++ [mkB [e]]).map toR) by rw [hwl, ← HRX.out]; exact ⟨blk_put HPC.out.hd 0 (.slice AF RF.length cF) rfl, Kd.V_far (Kd.V_mk (Kd.N_reads' HO.out).2.1 (Kd.N_F HO.out) (e := 70) (base := 0)) (p := ⟨q, 0, none⟩) (fun k hk => HS.out.okq k hk) _, HS.out.lo, HS.out.okq⟩)
     have HG8 := Aside0.mk (show w.grownBy wl (some q) by rw [hwl]; exact grown_set1 (ur HBa.out HB.out))
     rw [← hwl]
     clear hwl
     refine (rl_settle base q OK _ (bs ++ [mkB [e]]) (putL e bs) wl HL8.out (fun k hk => HOK0.out k (Nat.le_trans HG8.out.size hk)) (put_mrg HGD.out e) (by simp; omega) (by rw [allB_append, allB_cons, allB_nil, List.length_append, List.append_nil, show (mkB [e]).f1.length = 1 from sortE_length _]; have := HAL.out; omega)).mono ?_
     rintro y w9 ⟨rfl, v9, hs9, hg9⟩
     have HE := Aside0.mk (And.intro hs9 (grown_grown HG8.out hg9))
     clear hs9 hg9
     go_wp2_with fail
     first | exact ⟨rfl, .tuple #[], by simp [results, Try.results28, go_sem], rfl, _, HE.out.1, HE.out.2⟩ | exact ⟨rfl, .tuple #[], by simp [results, Try.results28, go_sem], rfl, ⟨_, HE.out.1⟩, HE.out.2⟩
 · skip
   refine Kd.R_lit_step k46 _ 46 ?hg (N := 12) ?hd (xs := [e]) (inner := [.int .u64 e.f0, .int .i64 e.f1]) (ok := fun _ => True) (okp := fun _ => True) ?hr ?hp (fun _ hk => hk) trivial (Below.refl _ _) (vn _) (by simp) ?_; (case hd => rfl); (case hg => rfl); (case hr => first | (go_simp; done) | (go_simp; rfl)); (case hp => exact encs_reps _ _ _ [e])
   intro vE wE ho6 hb6 hg6 hnew6
   obtain ⟨AE, cE, e_⟩ := xn ho6
   subst e_
   have HEC := Aside0.mk (xr ho6).2.1
   first
    | (have HE1 := Aside0.mk (show Kd.F k46 wE (fun k => OK k ∧ some k ≠ vC.ownBlock) AE ([e] : List E).length [e] from Kd.F_mono (Kd.V_at (show Kd.V k46 46 wE 0 _ (.slice AE ([e] : List E).length cE) [e] from Kd.R_V (Kd.R_bound ho6))).2.2 (fun k hk => ⟨HOK.out k (Nat.le_trans HB.out.size hk.2.1), fun e => by have := Kd.N_lt HO.out _ e.symm; have := hk.2.1; omega⟩)); have HOn := Aside0.mk (Kd.N_below HO.out hb6); clear HO; have HO := HOn; clear HOn)
    | (have HE1 := Aside0.mk (show Kd.F k46 wE OK AE ([e] : List E).length [e] from Kd.F_mono (Kd.V_at (show Kd.V k46 46 wE 0 _ (.slice AE ([e] : List E).length cE) [e] from Kd.R_V (Kd.R_bound ho6))).2.2 (fun k hk => HOK.out k (Nat.le_trans HB.out.size hk.2.1))))
   have n_ := Aside0.mk (ur HB.out hb6)
   (try clear HB)
   have HB := n_
   clear n_
   clear ho6 hb6 hg6 hnew6
   refine hK.out _ _ ⟨uj HB.out q0, uj HB.out z0, uj HB.out z1⟩ (fun hHeld => ?_)
   clear hK K
   refine vz (a' := ?_) ?_ ?_; rotate_left; (· (show Act.put _ (some 12) _ = _); (simp only [Act.put, ua, ub, uc, uh, ui]); rfl)
   refine one_ (i := 1) (N := (some 5)) #[yY, yY, yY, yY, yY, yY, xX, yY, yY, xX, xX, xX, xX, xX, xX] rfl rfl (by kernel_rfl) (by decide) (fun K hK => ?_)
   refine Kd.N_lit_step k70 _ 70 ?hg (N' := 5) ?hd (xs := ([] : List RBk)) (inner := []) (ok := OK) (okp := fun _ => False) ?hr ?hp (fun _ hk => hk.elim) ?hf (Below.refl _ _) (vn _) (by simp) ?_; (case hd => rfl); (case hg => rfl); (case hr => first | (go_simp; done) | (go_simp; rfl)); (case hp => exact (Reps.none _ _)); (case hf => exact HOK.out _ HB.out.size)
   intro vC wC ho6 hb6 hg6 hnew6
   (try (have HLn := Aside0.mk (show Kd.F k70 wC (fun k => OK k ∧ some k ≠ vC.ownBlock) _ _ _ from Kd.F_mono (xm (Kd.F_bound HL.out) hb6) (fun k hk => ⟨hk.1, fun e => by obtain ⟨b', h1, h2⟩ := hnew6; rw [h1] at e; injection e with e; have := hk.2; omega⟩)); clear HL; have HL := HLn; clear HLn))
   (try (have HEn := Aside0.mk (show Kd.F k46 wC (fun k => OK k ∧ some k ≠ vC.ownBlock) AE ([e] : List E).length [e] from Kd.F_mono (xm (Kd.F_bound HE1.out) hb6) (fun k hk => ⟨hk.1, fun e => by obtain ⟨b', h1, h2⟩ := hnew6; rw [h1] at e; injection e with e; have := hk.2; omega⟩)); clear HE1; have HE1 := HEn; clear HEn))
   have n_ := Aside0.mk (Kd.N_lower ho6 HB.out.size)
   (try clear HO)
   have HO := n_
   clear n_
   have n_ := Aside0.mk (ur HB.out hb6)
   (try clear HB)
   have HB := n_
   clear n_
   clear ho6 hb6 hg6 hnew6
   refine hK.out _ _ ⟨uj HB.out q0, uj HB.out z0, uj HB.out z1⟩ (fun hHeld => ?_)
   clear hK K
   refine vz (a' := ?_) ?_ ?_; rotate_left; (· (show Act.put _ (some 5) _ = _); (simp only [Act.put, ua, ub, uc, uh, ui]); rfl)
   refine one_ (i := 6) (N := (some 10)) #[yY, yY, yY, yY, yY, yY, yY, yY, yY, xX, xX, xX, xX, xX, xX] rfl rfl (by kernel_rfl) (by decide) (fun K hK => ?_)
   refine vx k70 (w0 := wz) wz.heap.size (by rfl) (.tmp 5) (.tmp 9) 27 70 (.agg #[.int .i64 0, .slice none 0 0]) 32 rfl Try.underlying27 infoRB rfl (by decide) (by decide) _ ([] : List RBk) rs _ _ _ OK (fun k => OK k ∧ k < wz.heap.size) rfl rfl HO.out (xm (Kd.F_bound HRF0.out) HB.out) (fun k hk => ⟨hk.1, fun e => by have h1 := Kd.N_base HO.out k e.symm; have := hk.2; omega⟩) (fun k hk => HOK.out k (Nat.le_trans HB.out.size hk)) HB.out HB.out.size (by (try simp only [List.length_nil, List.length_append, List.length_cons]); omega) ?_
   intro vD wC ho hb hg hat
   (try rw [List.nil_append] at ho)
   (try (have HLn := Aside0.mk (Kd.F_after HL.out hg hat); clear HL; have HL := HLn; clear HLn))
   (try (have HEn := Aside0.mk (Kd.F_after HE1.out hg hat); clear HE1; have HE1 := HEn; clear HEn))
   clear HO HB
   obtain ⟨vC, hvC⟩ : ∃ vC, vC = vD := ⟨_, rfl⟩
   subst hvC
   have HO := Aside0.mk ho
   have HB := Aside0.mk hb
   clear ho hb hg hat
   refine hK.out _ _ ⟨uj HB.out q0, uj HB.out z0, uj HB.out z1⟩ (fun hHeld => ?_)
   clear hK K
   refine vz (a' := ?_) ?_ ?_; rotate_left; (· (show Act.put _ (some 10) _ = _); (simp only [Act.put, ua, ub, uc, uh, ui]); rfl)
   refine one_ (i := 9) (N := (some 13)) #[yY, yY, yY, yY, yY, yY, yY, yY, yY, yY, xX, xX, xX, xX, xX] rfl rfl (by kernel_rfl) (by decide) (fun K hK => ?_)
   refine goes_ Try.func59 (by kernel_rfl) rfl #[.slice AE ([e] : List E).length cE] (by rfl) rfl rfl (by (try simp only [ul, ut, uu]); first | done | rfl) ?_
   refine (vergerref5_Of.calls 3000000 AE cE [e] _ _ _ (Kd.F_now HE1.out) HEC.out HOF.out).mono ?_
   rintro y w8 ⟨v8, rfl, hv8, hb8⟩
   obtain ⟨A8, c8, e_⟩ := xn hv8
   subst e_
   have HV8 := Aside0.mk (Kd.V_at (show Kd.V k46 46 w8 0 (fun k => OK k ∧ some k ≠ vC.ownBlock) (.slice A8 Y.f1.length c8) Y.f1 from Kd.R_V (xi (Kd.R_bound hv8) (fun k hk => ⟨HOK.out k (Nat.le_trans HB.out.size hk.2.1), fun e => by have := Kd.N_lt HO.out _ e.symm; have := hk.2.1; omega⟩))))
   have n_ := Aside0.mk (Kd.N_below HO.out hb8)
   (try clear HO)
   have HO := n_
   clear n_
   have n_ := Aside0.mk (ur HB.out hb8)
   (try clear HB)
   have HB := n_
   clear n_
   clear hv8 hb8 HE1
   refine ⟨_, rfl, ?_⟩
   refine hK.out _ _ ⟨uj HB.out q0, uj HB.out z0, uj HB.out z1⟩ (fun hHeld => ?_)
   clear hK K
   refine vz (a' := ?_) ?_ ?_; rotate_left; (· (show Act.put _ (some 13) _ = _); (simp only [Act.put, ua, ub, uc, uh, ui]); rfl)
   refine one_ (i := 10) (N := (some 14)) #[yY, yY, yY, yY, yY, yY, yY, yY, yY, yY, yY, xX, xX, xX, xX] rfl rfl (by kernel_rfl) (by decide) (fun K hK => ?_)
   refine Kd.N_lit_step k70 _ 70 ?hg (N' := 14) ?hd (xs := [toR Y]) (inner := [.int .i64 Y.f0, .slice A8 Y.f1.length c8]) (ok := (fun k => OK k ∧ some k ≠ vC.ownBlock)) (okp := (fun k => OK k ∧ some k ≠ vC.ownBlock)) ?hr ?hp (fun k hk => hk) ?hf (Below.refl _ _) (vn _) (by simp) ?_; (case hd => rfl); (case hg => rfl); (case hr => first | (go_simp; done) | (go_simp; rfl)); (case hp => exact reps_oneR (k70_mkF _ _ (toR Y) HV8.out.2.1 HV8.out.2.2)); (case hf => exact ⟨HOK.out _ HB.out.size, fun e => by have := Kd.N_lt HO.out _ e.symm; omega⟩)
   intro vL wL ho6 hb6 hg6 hnew6
   have n_ := Aside0.mk (Kd.N_below HO.out hb6)
   (try clear HO)
   have HO := n_
   clear n_
   obtain ⟨AL, cL, e_⟩ := Kd.N_slice ho6
   subst e_
   have HL := Aside0.mk (Kd.N_F ho6)
   have n_ := Aside0.mk (ur HB.out hb6)
   (try clear HB)
   have HB := n_
   clear n_
   clear ho6 hb6 hg6 hnew6
   refine hK.out _ _ ⟨uj HB.out q0, uj HB.out z0, uj HB.out z1⟩ (fun hHeld => ?_)
   clear hK K
   refine vz (a' := ?_) ?_ ?_; rotate_left; (· (show Act.put _ (some 14) _ = _); (simp only [Act.put, ua, ub, uc, uh, ui]); rfl)
   refine one_ (i := 11) (N := (some 15)) #[yY, yY, yY, yY, yY, yY, yY, yY, yY, yY, yY, yY, xX, xX, xX] rfl rfl (by kernel_rfl) (by decide) (fun K hK => ?_)
   refine vx k70 (w0 := wz) wz.heap.size (by rfl) (.tmp 10) (.tmp 14) 27 70 (.agg #[.int .i64 0, .slice none 0 0]) 32 rfl Try.underlying27 infoRB rfl (by decide) (by decide) _ rs [toR Y] _ _ _ OK (fun k => OK k ∧ some k ≠ vC.ownBlock) rfl rfl HO.out HL.out (fun k hk => hk) (fun k hk => HOK.out k (Nat.le_trans HB.out.size hk)) HB.out HB.out.size (by (try simp only [List.length_nil, List.length_append, List.length_cons]); omega) ?_
   intro vD wC ho hb hg hat
   (try rw [List.nil_append] at ho)
   (try (have HLn := Aside0.mk (Kd.F_after HL.out hg hat); clear HL; have HL := HLn; clear HLn))
   clear HO HB
   obtain ⟨vC, hvC⟩ : ∃ vC, vC = vD := ⟨_, rfl⟩
   subst hvC
   have HO := Aside0.mk ho
   have HB := Aside0.mk hb
   clear ho hb hg hat
   have HO_ := HO.out
   rw [← HRF.out] at HO_
   obtain ⟨AF, cF, e_⟩ := Kd.N_slice HO_
   subst e_
   clear HO
   have HO := Aside0.mk HO_
   clear HO_
   have hp_ := HPA.out.below HB.out
   have k0 := hp_.cell0
   have g0 := hp_.froz 0
   have HPC := Aside0.mk hp_
   clear hp_
   refine hK.out _ _ ⟨uj HB.out q0, uj HB.out z0, uj HB.out z1⟩ (fun hHeld => ?_)
   clear hK K
   refine vz (a' := ?_) ?_ ?_; rotate_left; (· (show Act.put _ (some 15) _ = _); (simp only [Act.put, ua, ub, uc, uh, ui]); rfl)
   refine pU (i := 12) (N := (some 16)) (bA 15 8191) (by kernel_rfl) rfl ?_
   refine pU (i := 13) (N := (some 17)) (bA 15 16383) (by kernel_rfl) rfl ?_
   refine last_ (i := 14) (N := none) #[yY, yY, yY, yY, yY, yY, yY, yY, yY, yY, yY, yY, yY, yY, yY] rfl rfl (by kernel_rfl) (by decide) (fun K hK => ?_)
   go_simp
   refine hK.out _ _ ?_
   clear hK K
   (try simp only [Act.put, ua, ub, uc, uh, ui])
   refine done_ (by kernel_rfl) ?_
   go_wp2_with fail
   obtain ⟨wl, hwl⟩ : ∃ wl : World, wl = wC.setCell ⟨q, 0, none⟩ (.slice AF RF.length cF) := ⟨_, rfl⟩
   have HL8 := Aside0.mk (show RLAt wl base q OK (.slice AF RF.length cF) ((bs ++ [mkB [e]]).map toR) by rw [hwl, ← HRX.out]; exact ⟨blk_put HPC.out.hd 0 (.slice AF RF.length cF) rfl, Kd.V_far (Kd.V_mk (Kd.N_reads' HO.out).2.1 (Kd.N_F HO.out) (e := 70) (base := 0)) (p := ⟨q, 0, none⟩) (fun k hk => HS.out.okq k hk) _, HS.out.lo, HS.out.okq⟩)
   have HG8 := Aside0.mk (show w.grownBy wl (some q) by rw [hwl]; exact grown_set1 (ur HBa.out HB.out))
   rw [← hwl]
   clear hwl
   refine (rl_settle base q OK _ (bs ++ [mkB [e]]) (putL e bs) wl HL8.out (fun k hk => HOK0.out k (Nat.le_trans HG8.out.size hk)) (put_mrg HGD.out e) (by simp; omega) (by rw [allB_append, allB_cons, allB_nil, List.length_append, List.append_nil, show (mkB [e]).f1.length = 1 from sortE_length _]; have := HAL.out; omega)).mono ?_
   rintro y w9 ⟨rfl, v9, hs9, hg9⟩
   have HE := Aside0.mk (And.intro hs9 (grown_grown HG8.out hg9))
   clear hs9 hg9
   go_wp2_with fail
   first | exact ⟨rfl, .tuple #[], by simp [results, Try.results28, go_sem], rfl, _, HE.out.1, HE.out.2⟩ | exact ⟨rfl, .tuple #[], by simp [results, Try.results28, go_sem], rfl, ⟨_, HE.out.1⟩, HE.out.2⟩
theorem dropL_at {id : Int} {bs : List Bk} {i : Nat} {b : Bk} (hf : bs.findIdx? (hasId id) = some i) (hb : bs[i]? = some b) : dropL id bs = (true, if outB id b = [] then bs.take i ++ bs.drop (i + 1) else ins (mkB (outB id b)) (bs.take i ++ bs.drop (i + 1))) := by
 unfold dropL
 have hf' : bs.findIdx? (hasB id) = some i := hf
 rw [hf']
 have : bs.getD i ⟨0, []⟩ = b := by rw [List.getD_eq_getElem?_getD, hb]; rfl
 simp only [this]
theorem dropL_no {id : Int} {bs : List Bk} (hf : bs.findIdx? (hasId id) = none) : dropL id bs = (false, bs) := by
 unfold dropL
 have hf' : bs.findIdx? (hasB id) = none := hf
 rw [hf']
theorem dropL_mrg {id : Int} {bs : List Bk} {i : Nat} {b : Bk} (hg : Good bs) (hf : bs.findIdx? (hasId id) = some i) (hb : bs[i]? = some b) : (dropL id bs).1 = true ∧ Mrg (layL (mkB (outB id b)) (bs.take i ++ bs.drop (i + 1))) (dropL id bs).2 := by
 rw [dropL_at hf hb]
 have hgr : Good (bs.take i ++ bs.drop (i + 1)) := hg.sub (cut_out bs i)
 refine ⟨rfl, ?_⟩
 dsimp only
 by_cases h0 : outB id b = []
 · rw [if_pos h0, layL_none (by rw [h0]; exact sortE_nil)]
   exact .inl ⟨hgr, rfl⟩
 · rw [if_neg h0]
   exact lay_mrg (mkB_sound h0) hgr
def RLDropPost (base q : Nat) (OK : Nat → Prop) (bs : List Bk) (id : Int) (w : World) (x : Ending) (w' : World) : Prop :=
  x = .returned (.bool (dropL id bs).1) ∧ ∃ v', RLAt w' base q OK v' ((dropL id bs).2.map toR) ∧ w.grownBy w' (some q)
theorem rldropPost_mk {base q : Nat} {OK : Nat → Prop} {bs : List Bk} {id : Int} {w w' : World} {x : Ending} {r : Bool} {v : Value} {rs : List RBk} (h1 : (dropL id bs).1 = r) (hx : x = .returned (.bool r)) (h2 : rs = (dropL id bs).2.map toR) (hs : RLAt w' base q OK v rs) (hg : w.grownBy w' (some q)) : RLDropPost base q OK bs id w x w' := by
 subst h1; subst h2
 exact ⟨hx, v, hs, hg⟩
set_option maxRecDepth 100000 in
set_option maxHeartbeats 8000000 in
theorem rl_drop (base q : Nat) (OK : Nat → Prop) (v : Value) (bs : List Bk) (id : Int) (w : World) (h : RLAt w base q OK v (bs.map toR)) (hfr : ∀ k, w.heap.size ≤ k → OK k) (hgd : Good bs) (hl : bs.length ≤ 800) (ha : (allB bs).length ≤ 999999) :
 Calls Try.prog 30 #[.pointer (some ⟨q, 0, none⟩), .int .i64 id] w (RLDropPost base q OK bs id w) := by
 obtain ⟨rs, hrs⟩ : ∃ rs, rs = bs.map toR := ⟨_, rfl⟩
 rw [← hrs] at h
 have HRS := Aside0.mk hrs
 have hln : rs.length = bs.length := by rw [hrs, List.length_map]
 have HLN := Aside0.mk hln
 have hrl : rs.length ≤ 800 := by omega
 have HS := Aside0.mk h
 have HA := Aside0.mk ha
 have HGD := Aside0.mk hgd
 have HOK0 := Aside0.mk hfr
 obtain ⟨A, c, rfl, hc, hF0⟩ := h.reads
 have HF := Aside0.mk hF0
 have HW := Aside0.mk h.lt
 clear h hF0 ha hrs hln hl hgd hfr
 go_enter Try.func30, Try.ntmps30
 go_wp2
 go_loopw [5] (fun s5 wr => ∃ i : Nat, s5 = .int .i64 i ∧ i ≤ rs.length ∧ Aside0 (∀ (j : Nat) (b : Bk), j < i → bs[j]? = some b → hasId id b = false) ∧ Aside0 (Below w.heap.size w wr)) (fun i _ => rs.length - (intOf i).toNat)
 case atStart => exact ⟨0, rfl, Nat.zero_le _, ⟨fun j b h => by omega⟩, ⟨Below.refl _ _⟩⟩
 case round =>
  obtain ⟨i, rfl, hi, HN, HB⟩ := hrel
  have HP := Aside0.mk (HS.out.below HB.out)
  have q1 := HP.out.cell0
  by_cases hlt : i < rs.length
  · obtain ⟨bk, hbk⟩ : ∃ b, bs[i]? = some b := ⟨_, List.getElem?_eq_getElem (by have := HLN.out; omega)⟩
    have hb : rs[i]? = some (toR bk) := by rw [HRS.out, List.getElem?_map, hbk]; rfl
    obtain ⟨ad, A1, c1, rfl, y0, y1, e4, e5⟩ := rb_at (xk (Kd.F_now HF.out) HB.out) hb
    dsimp only [toR] at y0 y1 e4 e5
    have HC := Aside0.mk e5
    have hle := allB_at_le hbk
    have HBL := Aside0.mk (show bk.f1.length ≤ 1000000 by have := HA.out; omega)
    have HO := Aside0.mk (has_id 2000000 id bk (by have := HBL.out; omega) (by have := HBL.out; omega))
    have HE := Aside0.mk hbk
    have hil : (i : Int) < (rs.length : Int) := by omega
    have hi0 : (0 : Int) ≤ (i : Int) := by omega
    have hw1 : wrap64 ((i : Int) + 1) = (i : Int) + 1 := by unfold wrap64; omega
    obtain ⟨r, hr⟩ : ∃ r, hasId id bk = r := ⟨_, rfl⟩
    rw [hr] at HO
    have HRR := Aside0.mk hr
    clear hb e5 hr hbk hle y0
    go_wp2_with fail
    refine (vergerref5_Has.calls 2000000 A1 c1 bk.f1 id r _ HC.out e4 HO.out).mono ?_
    rintro x w2 ⟨rfl, hd2⟩
    have HB2 := Aside0.mk (ur HB.out hd2.below)
    have HC2 := Aside0.mk (xk HC.out hd2.below)
    have y2 := uj hd2.below y1
    have HP2 := Aside0.mk (HP.out.below hd2.below)
    have q2 := HP2.out.cell0
    clear hd2 y1 q1 HO
    cases r with
    | false =>
     have HN2 : Aside0 (∀ (j : Nat) (b : Bk), j < i + 1 → bs[j]? = some b → hasId id b = false) := ⟨fun j b' hj hb' => by
      by_cases h1 : j = i
      · subst h1
        rw [HE.out] at hb'
        injection hb' with hb'
        rw [← hb']; exact HRR.out
      · exact HN.out j b' (by omega) hb'⟩
     go_wp2
     go_roundw
     case rel => exact ⟨i + 1, by go_num, by omega, HN2, HB2⟩
     case measure => simp [intOf]; omega
    | true =>
     have HFI := Aside0.mk (show bs.findIdx? (hasId id) = some i from List.findIdx?_eq_some_iff_getElem.2 ⟨by have := HLN.out; omega, by
      have h1 := HE.out
      rw [List.getElem?_eq_getElem (by have := HLN.out; omega)] at h1
      injection h1 with h1
      rw [h1]; exact HRR.out, fun j hj => by
      have := HN.out j _ hj (List.getElem?_eq_getElem (by have := HLN.out; omega))
      rw [this]; simp⟩)
     have HD := Aside0.mk (dropL_mrg HGD.out HFI.out HE.out)
     have HT := Aside0.mk (without_told 2000000 bk id (by have := HBL.out; omega) (by have := HBL.out; omega))
     have HOL := Aside0.mk (show (outB id bk).length ≤ bk.f1.length from List.length_filter_le _ _)
     go_wp2_with fail
     refine (vergerref5_Without.calls 2000000 A1 c1 bk.f1 id (outB id bk) _ HC2.out e4 HT.out).mono ?_
     rintro x w3 ⟨v3, rfl, hv3, hb3⟩
     obtain ⟨A3, c3, rfl⟩ := xn hv3
     have HR3 := Aside0.mk (xr hv3)
     have HB3 := Aside0.mk (ur HB2.out hb3)
     clear hv3 hb3 y2 q2
     go_wp2_with fail
     refine (vergerref5_Of.calls 3000000 A3 c3 (outB id bk) _ _ _ HR3.out.2.2 HR3.out.2.1 (refof_mkR _ _ (by have := HOL.out; have := HBL.out; omega) (by have := HOL.out; have := HBL.out; omega))).mono ?_
     rintro x w4 ⟨v4, rfl, hv4, hb4⟩
     obtain ⟨A4, c4, rfl⟩ := xn hv4
     have HV4 := Aside0.mk (show Kd.V k46 46 w4 0 (fun k => w3.heap.size ≤ k ∧ k < w4.heap.size) (.slice A4 (mkB (outB id bk)).f1.length c4) (mkB (outB id bk)).f1 from Kd.R_V (xi (Kd.R_bound hv4) (fun k hk => ⟨hk.2.1, hk.2.2.1⟩)))
     have HB4 := Aside0.mk (ur HB3.out hb4)
     clear hv4 hb4
     go_upto_region 6 with fail
     obtain ⟨Y, hY⟩ : ∃ Y, Y = mkB (outB id bk) := ⟨_, rfl⟩
     rw [← hY] at HV4 HD ⊢
     have HYL := Aside0.mk (show Y.f1.length ≤ bk.f1.length by rw [hY]; exact Nat.le_trans (Nat.le_of_eq (sortE_length _)) HOL.out)
     obtain ⟨G, hG⟩ : ∃ G, G = w4.heap.size := ⟨_, rfl⟩
     obtain ⟨w5, hw5⟩ : ∃ w5 : World, w5 = w4.alloc (.cells #[.int .i64 Y.f0, .slice A4 Y.f1.length c4] 70) := ⟨_, rfl⟩
     rw [← hw5, ← hG]
     have HX5 := Aside0.mk (show w5.heap[G]? = some (.cells #[.int .i64 Y.f0, .slice A4 Y.f1.length c4] 70 (0, 0)) by rw [hw5, hG]; exact heap_alloc_new _ _)
     have hb5 : Below w4.heap.size w4 w5 := by rw [hw5]; exact uf (Below.refl _ _) _
     have HB5 := Aside0.mk (ur HB4.out hb5)
     have hpw : q < w3.heap.size := Nat.lt_of_lt_of_le HW.out HB3.out.size
     have hGq : ¬ G = q := by have := HB4.out.size; have := HW.out; omega
     have hqG : ¬ q = G := fun e => hGq e.symm
     have HV5 := Aside0.mk (Kd.V_at (Kd.V_below HV4.out hb5))
     have HXV := Aside0.mk (show Y.f1.length ≤ c4 ∧ Kd.F k46 w5 OK A4 Y.f1.length Y.f1 from ⟨HV5.out.2.1, Kd.F_mono HV5.out.2.2 (fun k hk => HOK0.out k (Nat.le_trans HB3.out.size hk.1))⟩)
     have HP5 := Aside0.mk (HS.out.below HB5.out)
     have q0 := HP5.out.cell0
     have HOK := Aside0.mk (show ∀ k, w5.heap.size ≤ k → OK k from fun k hk => HOK0.out k (Nat.le_trans HB5.out.size hk))
     have HYY := Aside0.mk hY
     obtain ⟨T, D, AD, cD, hT, hD, hct, hcf, hf1, hf2, hcD⟩ := rcuts HP5.out.row hlt
     have HCU := Aside0.mk (And.intro hf1 hf2)
     have HTQ := Aside0.mk (And.intro hT hD)
     have hTl : T.length ≤ 900 := by rw [hT, uq]; omega
     have hDl : D.length ≤ 900 := by rw [hD, uo]; omega
     obtain ⟨RF, hRF⟩ : ∃ RF, RF = T ++ D := ⟨_, rfl⟩
     have HRF := Aside0.mk hRF
     clear HP HP2 HB2 HB3 HB4 HV4 HV5 hT hD hf1 hf2 hw5 hG hb5 hpw hY HC HC2 hRF
     have HB := Aside0.mk (below_drew (Below.refl w5.heap.size w5))
     refine start_ (n := 20) (S := fun w' => w'.cell? ⟨q, 0, none⟩ = some (.slice (some ad) rs.length c) ∧ True) (ds := [19]) #[xX, xX, xX, xX, xX, xX, xX, xX, xX, xX, xX, xX, xX, xX, xX, xX, xX, xX, xX, xX] (by kernel_rfl) rfl rfl ⟨q0, trivial⟩ (fun hHeld => ?_)
     refine pU (i := 0) (N := (some 37)) (bA 20 1) (by kernel_rfl) rfl ?_
     refine pU (i := 2) (N := (some 39)) (bA 20 5) (by kernel_rfl) rfl ?_
     refine pU (i := 3) (N := (some 40)) (bA 20 13) (by kernel_rfl) rfl ?_
     refine pU (i := 4) (N := (some 41)) (bA 20 29) (by kernel_rfl) rfl ?_
     refine pU (i := 6) (N := (some 43)) (bA 20 93) (by kernel_rfl) rfl ?_
     refine pU (i := 9) (N := (some 46)) (bA 20 605) (by kernel_rfl) rfl ?_
     refine pU (i := 10) (N := (some 47)) (bA 20 1629) (by kernel_rfl) rfl ?_
     refine pU (i := 11) (N := (some 48)) (bA 20 3677) (by kernel_rfl) rfl ?_
     refine pU (i := 13) (N := (some 50)) (bA 20 11869) (by kernel_rfl) rfl ?_
     refine pU (i := 14) (N := (some 51)) (bA 20 28253) (by kernel_rfl) rfl ?_
     refine tU (i := 5) (N := (some 42)) (bA 20 28285) (by kernel_rfl) rfl hHeld (by (constructor; (rintro w' ⟨s0, s1⟩; go_simp; (with_reducible rfl)); (simp only [Act.put, ua, ub, uc, uh, ui]; rfl))) ?_
     refine pU (i := 7) (N := (some 44)) (bA 20 28413) (by kernel_rfl) rfl ?_
     refine tU (i := 12) (N := (some 49)) (bA 20 32509) (by kernel_rfl) rfl hHeld (by (constructor; (rintro w' ⟨s0, s1⟩; go_simp; (with_reducible rfl)); (simp only [Act.put, ua, ub, uc, uh, ui]; rfl))) ?_
     refine pU (i := 15) (N := (some 52)) (bA 20 65277) (by kernel_rfl) rfl ?_
     refine one_ (i := 1) (N := (some 38)) #[yY, yY, yY, yY, yY, yY, yY, yY, xX, yY, yY, yY, yY, yY, yY, yY, xX, xX, xX, xX] rfl rfl (by kernel_rfl) (by decide) (fun K hK => ?_)
     refine Kd.N_lit_step k70 _ 70 ?hg (N' := 38) ?hd (xs := ([] : List RBk)) (inner := []) (ok := OK) (okp := fun _ => False) ?hr ?hp (fun _ hk => hk.elim) ?hf (Below.refl _ _) (vn _) (by simp) ?_; (case hd => rfl); (case hg => rfl); (case hr => first | (go_simp; done) | (go_simp; rfl)); (case hp => exact (Reps.none _ _)); (case hf => exact HOK.out _ HB.out.size)
     intro vC wC ho6 hb6 hg6 hnew6
     (try (have HLn := Aside0.mk (show Kd.F k70 wC (fun k => OK k ∧ some k ≠ vC.ownBlock) _ _ _ from Kd.F_mono (xm (Kd.F_bound HL.out) hb6) (fun k hk => ⟨hk.1, fun e => by obtain ⟨b', h1, h2⟩ := hnew6; rw [h1] at e; injection e with e; have := hk.2; omega⟩)); clear HL; have HL := HLn; clear HLn))
     have n_ := Aside0.mk (Kd.N_lower ho6 HB.out.size)
     (try clear HO)
     have HO := n_
     clear n_
     have n_ := Aside0.mk (ur HB.out hb6)
     (try clear HB)
     have HB := n_
     clear n_
     clear ho6 hb6 hg6 hnew6
     refine hK.out _ _ ⟨uj HB.out q0, trivial⟩ (fun hHeld => ?_)
     clear hK K
     refine vz (a' := ?_) ?_ ?_; rotate_left; (· (show Act.put _ (some 38) _ = _); (simp only [Act.put, ua, ub, uc, uh, ui]); rfl)
     refine one_ (i := 8) (N := (some 45)) #[yY, yY, yY, yY, yY, yY, yY, yY, yY, yY, yY, yY, yY, yY, yY, yY, xX, xX, xX, xX] rfl rfl (by kernel_rfl) (by decide) (fun K hK => ?_)
     refine vx k70 (w0 := w5) w5.heap.size (by rfl) (.tmp 38) (.tmp 44) 27 70 (.agg #[.int .i64 0, .slice none 0 0]) 32 rfl Try.underlying27 infoRB rfl (by decide) (by decide) _ ([] : List RBk) T _ _ _ OK (fun k => OK k ∧ k < w5.heap.size) rfl rfl HO.out (xm (Kd.F_bound HCU.out.1) HB.out) (fun k hk => ⟨hk.1, fun e => by have h1 := Kd.N_base HO.out k e.symm; have := hk.2; omega⟩) (fun k hk => HOK.out k (Nat.le_trans HB.out.size hk)) HB.out HB.out.size (by (try simp only [List.length_nil, List.length_append, List.length_cons]); omega) ?_
     intro vD wC ho hb hg hat
     (try rw [List.nil_append] at ho)
     (try (have HLn := Aside0.mk (Kd.F_after HL.out hg hat); clear HL; have HL := HLn; clear HLn))
     clear HO HB
     obtain ⟨vC, hvC⟩ : ∃ vC, vC = vD := ⟨_, rfl⟩
     subst hvC
     have HO := Aside0.mk ho
     have HB := Aside0.mk hb
     clear ho hb hg hat
     refine hK.out _ _ ⟨uj HB.out q0, trivial⟩ (fun hHeld => ?_)
     clear hK K
     refine vz (a' := ?_) ?_ ?_; rotate_left; (· (show Act.put _ (some 45) _ = _); (simp only [Act.put, ua, ub, uc, uh, ui]); rfl)
     refine one_ (i := 16) (N := (some 53)) #[yY, yY, yY, yY, yY, yY, yY, yY, yY, yY, yY, yY, yY, yY, yY, yY, yY, xX, xX, xX] rfl rfl (by kernel_rfl) (by decide) (fun K hK => ?_)
     refine vx k70 (w0 := w5) w5.heap.size (by rfl) (.tmp 45) (.tmp 52) 27 70 (.agg #[.int .i64 0, .slice none 0 0]) 32 rfl Try.underlying27 infoRB rfl (by decide) (by decide) _ T D _ _ _ OK (fun k => OK k ∧ k < w5.heap.size) rfl rfl HO.out (xm (Kd.F_bound HCU.out.2) HB.out) (fun k hk => ⟨hk.1, fun e => by have h1 := Kd.N_base HO.out k e.symm; have := hk.2; omega⟩) (fun k hk => HOK.out k (Nat.le_trans HB.out.size hk)) HB.out HB.out.size (by (try simp only [List.length_nil, List.length_append, List.length_cons]); omega) ?_
     intro vD wC ho hb hg hat
     (try rw [List.nil_append] at ho)
     (try (have HLn := Aside0.mk (Kd.F_after HL.out hg hat); clear HL; have HL := HLn; clear HLn))
     clear HO HB
     obtain ⟨vC, hvC⟩ : ∃ vC, vC = vD := ⟨_, rfl⟩
     subst hvC
     have HO := Aside0.mk ho
     have HB := Aside0.mk hb
     clear ho hb hg hat
     have HO_ := HO.out
     rw [← HRF.out] at HO_
     obtain ⟨AF, cF, e_⟩ := Kd.N_slice HO_
     subst e_
     clear HO
     have HO := Aside0.mk HO_
     clear HO_
     have hp_ := HP5.out.below HB.out
     have k0 := hp_.cell0
     have g0 := hp_.froz 0
     have HPC := Aside0.mk hp_
     clear hp_
     have kx0 := (uv (vy HX5.out HB.out) 0).trans rfl
     have kx1 := (uv (vy HX5.out HB.out) 1).trans rfl
     refine hK.out _ _ ⟨uj HB.out q0, trivial⟩ (fun hHeld => ?_)
     clear hK K
     refine vz (a' := ?_) ?_ ?_; rotate_left; (· (show Act.put _ (some 53) _ = _); (simp only [Act.put, ua, ub, uc, uh, ui]); rfl)
     refine pU (i := 17) (N := (some 54)) (bA 20 262143) (by kernel_rfl) rfl ?_
     refine pU (i := 18) (N := (some 55)) (bA 20 524287) (by kernel_rfl) rfl ?_
     refine last_ (i := 19) (N := none) #[yY, yY, yY, yY, yY, yY, yY, yY, yY, yY, yY, yY, yY, yY, yY, yY, yY, yY, yY, yY] rfl rfl (by kernel_rfl) (by decide) (fun K hK => ?_)
     go_simp
     refine hK.out _ _ ?_
     clear hK K
     (try simp only [Act.put, ua, ub, uc, uh, ui])
     refine done_ (by kernel_rfl) ?_
     go_wp2_with fail
     obtain ⟨wl, hwl⟩ : ∃ wl : World, wl = wC.setCell ⟨q, 0, none⟩ (.slice AF RF.length cF) := ⟨_, rfl⟩
     have hrest : RF = (bs.take i ++ bs.drop (i + 1)).map toR := by rw [HRF.out, HTQ.out.1, HTQ.out.2, HRS.out, List.map_append, List.map_take, List.map_drop]
     have HL8 := Aside0.mk (show RLAt wl base q OK (.slice AF RF.length cF) ((bs.take i ++ bs.drop (i + 1)).map toR) by
      rw [hwl, ← hrest]
      exact ⟨blk_put HPC.out.hd 0 (.slice AF RF.length cF) rfl, Kd.V_far (Kd.V_mk (Kd.N_reads' HO.out).2.1 (Kd.N_F HO.out) (e := 70) (base := 0)) (p := ⟨q, 0, none⟩) (fun k hk => HS.out.okq k hk) _, HS.out.lo, HS.out.okq⟩)
     have HG8 := Aside0.mk (show w.grownBy wl (some q) by rw [hwl]; exact grown_set1 (ur HB5.out HB.out))
     have HF8 := Aside0.mk (show Kd.F k46 wl OK A4 Y.f1.length Y.f1 by rw [hwl]; exact Kd.F_far (xm HXV.out.2 HB.out) (p := ⟨q, 0, none⟩) (fun k hk => HS.out.okq k hk) _)
     rw [← hwl]
     clear hwl hrest
     have hlen0 : (bs.take i ++ bs.drop (i + 1)).length ≤ 800 := by rw [List.length_append, uq, uo]; have := HLN.out; omega
     refine (rl_lay base q OK _ (bs.take i ++ bs.drop (i + 1)) Y A4 c4 wl HL8.out (fun k hk => HOK0.out k (Nat.le_trans HG8.out.size hk)) HF8.out HXV.out.1 (by omega)).mono ?_
     rintro y w9 ⟨rfl, v9, hs9, hg9⟩
     have HS9 := Aside0.mk hs9
     have HG9 := Aside0.mk (grown_grown HG8.out hg9)
     clear hs9 hg9
     have hlen : (layL Y (bs.take i ++ bs.drop (i + 1))).length ≤ 801 := by
      by_cases hy : Y.f1 = []
      · rw [layL_none hy]; omega
      · rw [layL_len hy]; omega
     have hall : (allB (layL Y (bs.take i ++ bs.drop (i + 1)))).length ≤ 1000000 := by
      rw [(layL_all _ _).length_eq, List.length_append]
      have h1 := (erase_all HE.out).length_eq
      rw [List.length_append, List.eraseIdx_eq_take_drop_succ] at h1
      have := HYL.out
      have := HA.out
      omega
     have HLA := Aside0.mk (And.intro hlen hall)
     clear hlen hall hlen0
     go_wp2_with fail
     refine (rl_settle base q OK v9 (layL Y (bs.take i ++ bs.drop (i + 1))) (dropL id bs).2 w9 HS9.out (fun k hk => HOK0.out k (Nat.le_trans HG9.out.size hk)) HD.out.2 (by have := HLA.out.1; omega) HLA.out.2).mono ?_
     rintro y w10 ⟨rfl, v10, hs10, hg10⟩
     have HE10 := Aside0.mk (And.intro hs10 (grown_grown HG9.out hg10))
     clear hs10 hg10
     go_wp2_with fail
     go_ret
     exact rldropPost_mk HD.out.1 rfl rfl HE10.out.1 HE10.out.2
  · have hin : i = rs.length := by omega
    have HF2 := Aside0.mk (dropL_no (id := id) (bs := bs) (List.findIdx?_eq_none_iff.2 (fun b hb => by
     obtain ⟨j, hj, rfl⟩ := List.getElem_of_mem hb
     exact HN.out j _ (by have := HLN.out; omega) (List.getElem?_eq_getElem hj))))
    subst hin
    clear hlt hi
    go_wp2
    go_ret
    exact rldropPost_mk (by rw [HF2.out]) rfl (by rw [HF2.out]; exact HRS.out) HP.out (grown_below HB.out)
end Go.Proofs.Ytdfndglenbckhaa.V
end
section
set_option linter.unusedVariables false
set_option linter.unusedSimpArgs false
namespace Go.Proofs.Ytdfndglenbckhaa.V
open Go.RowKit Go.Proofs.YtdfndglenbckhaaW.PrintWords Go.Proofs.YtdfndglenbckhaaW.PrintLast Go.Proofs.YtdfndglenbckhaaW.PrintMore
def NoI (w : World) (G : Nat) : Prop := ∀ (a : Addr) x, a.block = G → w.cell? a ≠ some (.int .i64 x)
theorem noI_mk {w : World} {G : Nat} {cur : Array Value} {ty : TypeId} (h : w.heap[G]? = some (.cells cur ty (0, 0))) (hn : ∀ x, Value.int .i64 x ∉ cur.toList) : NoI w G := by
 intro a x ha hv
 simp only [World.cell?, ha, h] at hv
 split at hv
 · cases hv
 · exact hn x (by rw [← Array.getElem?_toList] at hv; exact List.mem_of_getElem? hv)
theorem FE_noi {w : World} {ok : Nat → Prop} {A : Option Addr} {l : List E} (h : Kd.F k46 w ok A l.length l) {G : Nat} (hG : NoI w G) : Kd.F k46 w (fun k => ok k ∧ k ≠ G) A l.length l := by
 intro W' hW
 refine ⟨rfl, (Kd.F_now h).2.1, fun hp => ?_⟩
 obtain ⟨ad, rfl, _⟩ := (Kd.F_now h).2.2 hp
 have hne : ad.block ≠ G := by
  intro e
  obtain ⟨ad', c, he, hcl, hK, hcc, _⟩ := Kd.F_get h z46 0 (by omega) (by omega)
  injection he with he
  subst he
  obtain rfl := k46_open (Kd.FK_now hK)
  exact hG _ _ (by rw [add_block]; exact e) (hcc 1 _ rfl)
 refine ⟨ad, rfl, fun j p hj => ?_⟩
 obtain ⟨hjl, hjp⟩ := List.getElem?_eq_some_iff.1 hj
 obtain ⟨ad', c, he, hcl, hK, hcc, hok⟩ := Kd.F_get h p (j : Int) (by omega) (by omega)
 injection he with he
 subst he
 simp only [Int.toNat_natCast] at hK hcc
 rw [List.getD_eq_getElem?_getD, hj] at hK
 obtain rfl := k46_open (Kd.FK_now hK)
 refine ⟨_, hcl, k46_mk W' p, fun i u hu => ?_⟩
 have h5 := hcc i u hu
 have h6 := World.block_lt_of_cell? w _ h5
 rw [add_block] at h6
 have hb : W'.heap[ad.block]? = w.heap[ad.block]? := hW _ ⟨hok (by decide), hne⟩ h6
 have h7 : W'.cell? (ad.add (j * k46.sz + i)) = w.cell? (ad.add (j * k46.sz + i)) := by simp [World.cell?, add_block, hb]
 exact h7.trans h5
theorem FB_noi {w : World} {ok : Nat → Prop} {A : Option Addr} {l : List Bk} (h : Kd.F k84 w ok A l.length l) {G : Nat} (hG : NoI w G) : Kd.F k84 w (fun k => ok k ∧ k ≠ G) A l.length l := by
 intro W' hW
 refine ⟨rfl, (Kd.F_now h).2.1, fun hp => ?_⟩
 obtain ⟨ad, rfl, _⟩ := (Kd.F_now h).2.2 hp
 have hne : ad.block ≠ G := by
  intro e
  obtain ⟨ad', c, he, hcl, hK, hcc, _⟩ := Kd.F_get h z84 0 (by omega) (by omega)
  injection he with he
  subst he
  obtain ⟨A1, c1, rfl, l1, g1⟩ := k84_openF hK
  exact hG _ _ (by rw [add_block]; exact e) (hcc 0 _ rfl)
 refine ⟨ad, rfl, fun j p hj => ?_⟩
 obtain ⟨hjl, hjp⟩ := List.getElem?_eq_some_iff.1 hj
 obtain ⟨ad', c, he, hcl, hK, hcc, hok⟩ := Kd.F_get h p (j : Int) (by omega) (by omega)
 injection he with he
 subst he
 simp only [Int.toNat_natCast] at hK hcc
 rw [List.getD_eq_getElem?_getD, hj] at hK
 obtain ⟨A1, c1, rfl, l1, g1⟩ := k84_openF hK
 refine ⟨_, hcl, k84_mk W' p l1 (FE_noi g1 hG W' hW), fun i u hu => ?_⟩
 have h5 := hcc i u hu
 have h6 := World.block_lt_of_cell? w _ h5
 rw [add_block] at h6
 have hb : W'.heap[ad.block]? = w.heap[ad.block]? := hW _ ⟨hok (by decide), hne⟩ h6
 have h7 : W'.cell? (ad.add (j * k84.sz + i)) = w.cell? (ad.add (j * k84.sz + i)) := by simp [World.cell?, add_block, hb]
 exact h7.trans h5
structure But (w1 w2 : World) (G : Nat) : Prop where
  size : w1.heap.size ≤ w2.heap.size
  blk : ∀ k, k < w1.heap.size → k ≠ G → w2.heap[k]? = w1.heap[k]?
  os : w2.os = w1.os
  tape : w2.tape = w1.tape
  output : w2.output = w1.output
theorem But.refl (w : World) (G : Nat) : But w w G := ⟨Nat.le_refl _, fun _ _ _ => rfl, rfl, rfl, rfl⟩
end Go.Proofs.Ytdfndglenbckhaa.V
end
section
set_option linter.unusedVariables false
set_option linter.unusedSimpArgs false
namespace Go.Proofs.Ytdfndglenbckhaa.V
open Go.RowKit Go.Proofs.YtdfndglenbckhaaW.PrintWords Go.Proofs.YtdfndglenbckhaaW.PrintLast Go.Proofs.YtdfndglenbckhaaW.PrintMore
theorem FR_noi {w : World} {ok : Nat → Prop} {A : Option Addr} {l : List RBk} (h : Kd.F k70 w ok A l.length l) {G : Nat} (hG : NoI w G) : Kd.F k70 w (fun k => ok k ∧ k ≠ G) A l.length l := by
 intro W' hW
 refine ⟨rfl, (Kd.F_now h).2.1, fun hp => ?_⟩
 obtain ⟨ad, rfl, _⟩ := (Kd.F_now h).2.2 hp
 have hne : ad.block ≠ G := by
  intro e
  obtain ⟨ad', c, he, hcl, hK, hcc, _⟩ := Kd.F_get h z70 0 (by omega) (by omega)
  injection he with he
  subst he
  obtain ⟨A1, c1, rfl, l1, g1⟩ := k70_openF hK
  exact hG _ _ (by rw [add_block]; exact e) (hcc 0 _ rfl)
 refine ⟨ad, rfl, fun j p hj => ?_⟩
 obtain ⟨hjl, hjp⟩ := List.getElem?_eq_some_iff.1 hj
 obtain ⟨ad', c, he, hcl, hK, hcc, hok⟩ := Kd.F_get h p (j : Int) (by omega) (by omega)
 injection he with he
 subst he
 simp only [Int.toNat_natCast] at hK hcc
 rw [List.getD_eq_getElem?_getD, hj] at hK
 obtain ⟨A1, c1, rfl, l1, g1⟩ := k70_openF hK
 refine ⟨_, hcl, k70_mk W' p l1 (FE_noi g1 hG W' hW), fun i u hu => ?_⟩
 have h5 := hcc i u hu
 have h6 := World.block_lt_of_cell? w _ h5
 rw [add_block] at h6
 have hb : W'.heap[ad.block]? = w.heap[ad.block]? := hW _ ⟨hok (by decide), hne⟩ h6
 have h7 : W'.cell? (ad.add (j * k70.sz + i)) = w.cell? (ad.add (j * k70.sz + i)) := by simp [World.cell?, add_block, hb]
 exact h7.trans h5
end Go.Proofs.Ytdfndglenbckhaa.V
end
